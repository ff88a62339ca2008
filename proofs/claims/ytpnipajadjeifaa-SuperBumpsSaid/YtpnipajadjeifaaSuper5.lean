/- The walks of the statements of layer 8. -/
import Derived.Test.YtpnipajadjeifaaSuper4
import Derived.Test.YtpnipajadjeifaaSuperD
import Derived.Test.YtpnipajadjeifaaProg
namespace Go.Proofs.Ytpnipajadjeifaa.Sep
open Go Go.RowKit
set_option linter.unusedVariables false
set_option linter.unusedSimpArgs false
theorem slt47 : SlT Try.prog 47 4 1 1 [.bool false] := ⟨Try.underlying47, ⟨_, _, (by kernel_rfl : Try.prog.info? 4 = some Try.t4), rfl, rfl, rfl, rfl, rfl⟩⟩

def I64 (a : Int) : Prop := (Lit.int .i64 a).wf = true
theorem keyl {a b c d : Int} (ha : I64 a) (hb : I64 b) (hc : I64 c) (hd : I64 d) : Try.prog.keyLits 3 23 [.int .i64 a, .int .i64 b, .int .i64 c, .int .i64 d] = some [.int .i64 a, .int .i64 b, .int .i64 c, .int .i64 d] := by
  unfold I64 at ha hb hc hd
  have h1 : Try.prog.cellsOf 23 = 4 := by kernel_rfl
  have h3 : Try.prog.cellsOf 3 = 1 := by kernel_rfl
  simp [Program.keyLits, Try.underlying23, Try.underlying3, h1, h3, ha, hb, hc, hd]
theorem i64_nat {n : Nat} (h : n ≤ 9223372036854775807) : I64 (n : Int) := by
  simp [I64, Lit.wf, IntKind.min, IntKind.max, IntKind.bits, IntKind.signed]
  omega
theorem i64_int {n : Int} (h0 : -9223372036854775808 ≤ n) (h : n ≤ 9223372036854775807) : I64 n := by
  simp [I64, Lit.wf, IntKind.min, IntKind.max, IntKind.bits, IntKind.signed]
  omega
structure P64 (a b c d : Int) : Prop where
  a : I64 a
  b : I64 b
  c : I64 c
  d : I64 d
theorem plan64 {a b c d : Int} (h : planOk a b c d) : P64 a b c d := by
  unfold planOk at h
  exact ⟨i64_int (by omega) (by omega), i64_int (by omega) (by omega), i64_int (by omega) (by omega), i64_int (by omega) (by omega)⟩
theorem planFo (a b c d : Int) : Value.formed Try.prog 23 (.agg #[.int .i64 a, .int .i64 b, .int .i64 c, .int .i64 d]) = true := by kernel_rfl
theorem planG1 : Try.prog.eqGuardType Try.prog.depth 23 = false := by kernel_rfl
theorem planG2 : Try.prog.keyTypeAt 3 23 = true := by kernel_rfl
/-- The cells of a super are five whole numbers. -/
theorem supC_form (x : List UInt8) : ∃ p q r s n : Nat, supC x = [iV p, iV q, iV r, iV s, iV n] ∧ P64 (p : Int) q r s := by
  unfold supC
  split
  · rename_i h
    exact ⟨_, _, _, _, _, rfl, plan64 h.2.1.2⟩
  · exact ⟨0, 0, 0, 0, 0, rfl, ⟨i64_nat (by decide), i64_nat (by decide), i64_nat (by decide), i64_nat (by decide)⟩⟩
section
variable {T : Tm} {dst : Option Tmp} {type : TypeId} {pos : String} {after : Array Edge} {guard : Option (Nat × Bool)}
theorem planEql {t' : TypeId} {x y : Operand} {a b c d a' b' c' d' : Int} (k : P64 a b c d) (k' : P64 a' b' c' d') (hx : ev T x = some (.agg #[.int .i64 a, .int .i64 b, .int .i64 c, .int .i64 d])) (hy : ev T y = some (.agg #[.int .i64 a', .int .i64 b', .int .i64 c', .int .i64 d'])) :
    PureOp Try.prog ⟨dst, .binOp .eql 23 x y t', type, pos, after, guard⟩ T (.bool (decide (a = a' ∧ b = b' ∧ c = c' ∧ d = d'))) :=
  opK_eql (d := 3) planG1 planG2 (by decide) hx hy (planFo ..) (planFo ..) (keyl k.a k.b k.c k.d) (keyl k'.a k'.b k'.c k'.d) (by simp)
theorem planNeq {t' : TypeId} {x y : Operand} {a b c d a' b' c' d' : Int} (k : P64 a b c d) (k' : P64 a' b' c' d') (hx : ev T x = some (.agg #[.int .i64 a, .int .i64 b, .int .i64 c, .int .i64 d])) (hy : ev T y = some (.agg #[.int .i64 a', .int .i64 b', .int .i64 c', .int .i64 d'])) :
    PureOp Try.prog ⟨dst, .binOp .neq 23 x y t', type, pos, after, guard⟩ T (.bool (decide (¬ (a = a' ∧ b = b' ∧ c = c' ∧ d = d')))) :=
  opK_neq (d := 3) planG1 planG2 (by decide) hx hy (planFo ..) (planFo ..) (keyl k.a k.b k.c k.d) (keyl k'.a k'.b k'.c k'.d) (by simp)
end
set_option maxRecDepth 20000 in
set_option maxHeartbeats 4000000 in
theorem works_c  (m : Mem) :
    Ctr Try.prog 20 [] m [] (fun _ r L => r = .bool true ∧ L = []) := by
  refine Ctr.intro Try.func20 rfl Try.ntmps20 (by simp) fun w0 => ?_
  refine AWp.forget ?_ (sub_nil)
  refine AWp.seq ?_
  refine AWp.region ?_
  refine OpsW.pure rfl rfl (pureOp_assign rfl) ?_
  refine OpsW.nil ?_
  refine AWp.forget ?_ (sub_put (i := 0) rfl (sub_nil))
  refine AWp.seq ?_
  refine AWp.region ?_
  refine OpsW.pure rfl rfl (opBuildStruct st23 rfl (.cons rfl (by first | rfl | (simp [Value.cells, *]; done)) (by first | exact Nat.le_of_ble_eq_true rfl | (simp [segs_length, *]; done)) (.cons rfl (by first | rfl | (simp [Value.cells, *]; done)) (by first | exact Nat.le_of_ble_eq_true rfl | (simp [segs_length, *]; done)) (.cons rfl (by first | rfl | (simp [Value.cells, *]; done)) (by first | exact Nat.le_of_ble_eq_true rfl | (simp [segs_length, *]; done)) (.cons rfl (by first | rfl | (simp [Value.cells, *]; done)) (by first | exact Nat.le_of_ble_eq_true rfl | (simp [segs_length, *]; done)) (.nil)))))) ?_
  refine OpsW.alloc rfl rfl (allocOp_alloc zt23) ?_
  rintro _ _ ⟨b1, rfl, rfl⟩
  refine OpsW.upd rfl rfl (by repeat (first | exact Pos.here | apply Pos.there)) (lop_storeAllN 4 Try.sizeOf23 rfl rfl (by first | rfl | assumption | (rw [List.length_map]; assumption) | (simp [*]; done) | (simp [*]; omega) | omega) (by first | rfl | assumption | (rw [List.length_map]; assumption) | (simp [*]; done) | (simp [*]; omega) | omega) (by first | exact one_map (fun _ => rfl) _ | exact one_rfl rfl | exact one_sup _ | (simp [one, *]; done))) ?_
  rintro _ _ ⟨rfl, rfl⟩
  refine OpsW.nil ?_
  refine AWp.forget ?_ (sub_put (i := 0) rfl (sub_put (i := 1) rfl (sub_nil)))
  refine AWp.seq ?_
  refine AWp.region ?_
  refine OpsW.load rfl rfl (loadAll rfl (by repeat (first | exact List.Mem.head _ | apply List.Mem.tail)) (by first | rfl | assumption | (rw [List.length_map]; assumption) | (simp [*]; done) | (simp [*]; omega) | omega) ag23) ?_
  refine OpsW.pure rfl rfl (opBuildStruct st29 rfl (.cons rfl (by first | rfl | (simp [Value.cells, *]; done)) (by first | exact Nat.le_of_ble_eq_true rfl | (simp [segs_length, *]; done)) (.cons rfl (by first | rfl | (simp [Value.cells, *]; done)) (by first | exact Nat.le_of_ble_eq_true rfl | (simp [segs_length, *]; done)) (.nil)))) ?_
  refine OpsW.callA rfl rfl (callOp Try.call14 rfl) permNone (sput_c 3 2 1 4 6 _) ?_
  rintro _ _ ⟨rfl, rfl⟩
  obtain ⟨x, e, hx⟩ : ∃ x e, putS 3 2 1 4 6 = (x, e) := ⟨_, _, rfl⟩
  have hlx := putS_length 3 2 1 4 6
  rw [hx] at hlx ⊢
  dsimp only at hlx ⊢
  have hmx : (x.map bV).length = 256 := by rw [List.length_map]; exact hlx
  have hbx := put_back (a := 3) (b := 2) (c := 1) (d := 4) (n := 6) (by decide) (by decide) (by decide)
  rw [hx] at hbx
  obtain ⟨rfl, hSx⟩ := hbx
  refine OpsW.pure rfl rfl (pureOp_move rfl) ?_
  refine OpsW.pure rfl rfl (pureOp_extract rfl rfl) ?_
  refine OpsW.pure rfl rfl (pureOp_extract rfl rfl) ?_
  refine OpsW.alloc rfl rfl (allocOp_alloc zt24) ?_
  rintro _ _ ⟨b2, rfl, rfl⟩
  refine OpsW.upd rfl rfl (by repeat (first | exact Pos.here | apply Pos.there)) (lop_storeAllN 256 Try.sizeOf24 rfl rfl List.length_replicate hmx (by first | exact one_map (fun _ => rfl) _ | exact one_rfl rfl | exact one_sup _ | (simp [one, *]; done))) ?_
  rintro _ _ ⟨rfl, rfl⟩
  refine OpsW.pure rfl rfl (pureOp_assign rfl) ?_
  refine OpsW.nil ?_
  refine AWp.forget ?_ (sub_put (i := 0) rfl (sub_put (i := 1) rfl (sub_put (i := 2) rfl (sub_put (i := 3) rfl (sub_nil)))))
  refine AWp.seq ?_
  refine AWp.region ?_
  refine OpsW.load rfl rfl (loadAll rfl (by repeat (first | exact List.Mem.head _ | apply List.Mem.tail)) hmx ag24) ?_
  refine OpsW.callA rfl rfl (callOp Try.call16 rfl) permNone (sget_c x _ hlx) ?_
  rintro _ _ ⟨rfl, rfl⟩
  rw [hSx.supC, supK_eq.2 hSx.good]
  refine OpsW.pure rfl rfl (pureOp_move rfl) ?_
  refine OpsW.pure rfl rfl (pureOp_extract rfl rfl) ?_
  refine OpsW.pure rfl rfl (pureOp_extract rfl rfl) ?_
  refine OpsW.alloc rfl rfl (allocOp_alloc zt29) ?_
  rintro _ _ ⟨b4, rfl, rfl⟩
  refine OpsW.upd rfl rfl (by repeat (first | exact Pos.here | apply Pos.there)) (lop_storeAllN 5 Try.sizeOf29 rfl rfl (by first | rfl | assumption | (rw [List.length_map]; assumption) | (simp [*]; done) | (simp [*]; omega) | omega) (by first | rfl | assumption | (rw [List.length_map]; assumption) | (simp [*]; done) | (simp [*]; omega) | omega) (by first | exact one_map (fun _ => rfl) _ | exact one_rfl rfl | exact one_sup _ | (simp [one, *]; done))) ?_
  rintro _ _ ⟨rfl, rfl⟩
  refine OpsW.pure rfl rfl (pureOp_assign rfl) ?_
  refine OpsW.nil ?_
  refine AWp.forget ?_ (sub_put (i := 0) rfl (sub_put (i := 1) rfl (sub_put (i := 2) rfl (sub_put (i := 3) rfl (sub_put (i := 4) rfl (sub_put (i := 5) rfl (sub_nil)))))))
  refine AWp.seq ?_
  refine AWp.region ?_
  refine OpsW.pure rfl rfl (opBuildArr0 arr24 zt24) ?_
  rw [← zero256_map]
  refine OpsW.callA rfl rfl (callOp Try.call16 rfl) permNone (sget_c zero256 _ List.length_replicate) ?_
  rintro _ _ ⟨rfl, rfl⟩
  rw [supC_zero, show supK zero256 = 5 from if_neg zero256_bad]
  refine OpsW.pure rfl rfl (pureOp_move rfl) ?_
  refine OpsW.pure rfl rfl (pureOp_extract rfl rfl) ?_
  refine OpsW.pure rfl rfl (pureOp_extract rfl rfl) ?_
  refine OpsW.alloc rfl rfl (allocOp_alloc zt29) ?_
  rintro _ _ ⟨b6, rfl, rfl⟩
  refine OpsW.upd rfl rfl (by repeat (first | exact Pos.here | apply Pos.there)) (lop_storeAllN 5 Try.sizeOf29 rfl rfl (by first | rfl | assumption | (rw [List.length_map]; assumption) | (simp [*]; done) | (simp [*]; omega) | omega) (by first | rfl | assumption | (rw [List.length_map]; assumption) | (simp [*]; done) | (simp [*]; omega) | omega) (by first | exact one_map (fun _ => rfl) _ | exact one_rfl rfl | exact one_sup _ | (simp [one, *]; done))) ?_
  rintro _ _ ⟨rfl, rfl⟩
  refine OpsW.pure rfl rfl (pureOp_assign rfl) ?_
  refine OpsW.nil ?_
  refine AWp.forget ?_ (sub_put (i := 0) rfl (sub_put (i := 1) rfl (sub_put (i := 2) rfl (sub_put (i := 3) rfl (sub_put (i := 4) rfl (sub_put (i := 5) rfl (sub_put (i := 7) rfl (sub_nil))))))))
  refine AWp.seq ?_
  refine AWp.region ?_
  refine OpsW.load rfl rfl (loadAll rfl (by repeat (first | exact List.Mem.head _ | apply List.Mem.tail)) (by first | rfl | assumption | (rw [List.length_map]; assumption) | (simp [*]; done) | (simp [*]; omega) | omega) ag23) ?_
  refine OpsW.pure rfl rfl (opBuildStruct st29 rfl (.cons rfl (by first | rfl | (simp [Value.cells, *]; done)) (by first | exact Nat.le_of_ble_eq_true rfl | (simp [segs_length, *]; done)) (.cons rfl (by first | rfl | (simp [Value.cells, *]; done)) (by first | exact Nat.le_of_ble_eq_true rfl | (simp [segs_length, *]; done)) (.nil)))) ?_
  refine OpsW.callA rfl rfl (callOp Try.call14 rfl) permNone (sput_c 3 2 1 4 7 _) ?_
  rintro _ _ ⟨rfl, rfl⟩
  obtain ⟨y, f, hy⟩ : ∃ y f, putS 3 2 1 4 7 = (y, f) := ⟨_, _, rfl⟩
  have hly := putS_length 3 2 1 4 7
  rw [hy] at hly ⊢
  dsimp only at hly ⊢
  have hmy : (y.map bV).length = 256 := by rw [List.length_map]; exact hly
  have hby := put_back (a := 3) (b := 2) (c := 1) (d := 4) (n := 7) (by decide) (by decide) (by decide)
  rw [hy] at hby
  obtain ⟨rfl, hSy⟩ := hby
  refine OpsW.pure rfl rfl (pureOp_move rfl) ?_
  refine OpsW.pure rfl rfl (pureOp_extract rfl rfl) ?_
  refine OpsW.pure rfl rfl (pureOp_extract rfl rfl) ?_
  refine OpsW.alloc rfl rfl (allocOp_alloc zt24) ?_
  rintro _ _ ⟨b8, rfl, rfl⟩
  refine OpsW.upd rfl rfl (by repeat (first | exact Pos.here | apply Pos.there)) (lop_storeAllN 256 Try.sizeOf24 rfl rfl (by first | rfl | assumption | (rw [List.length_map]; assumption) | (simp [*]; done) | (simp [*]; omega) | omega) (by first | rfl | assumption | (rw [List.length_map]; assumption) | (simp [*]; done) | (simp [*]; omega) | omega) (by first | exact one_map (fun _ => rfl) _ | exact one_rfl rfl | exact one_sup _ | (simp [one, *]; done))) ?_
  rintro _ _ ⟨rfl, rfl⟩
  refine OpsW.pure rfl rfl (pureOp_assign rfl) ?_
  refine OpsW.nil ?_
  refine AWp.forget ?_ (sub_put (i := 0) rfl (sub_put (i := 1) rfl (sub_put (i := 2) rfl (sub_put (i := 3) rfl (sub_put (i := 4) rfl (sub_put (i := 5) rfl (sub_put (i := 7) rfl (sub_put (i := 8) rfl (sub_nil)))))))))
  refine AWp.seq ?_
  refine AWp.region ?_
  refine OpsW.load rfl rfl (loadAll rfl (by repeat (first | exact List.Mem.head _ | apply List.Mem.tail)) hmx ag24) ?_
  refine OpsW.load rfl rfl (loadAll rfl (by repeat (first | exact List.Mem.head _ | apply List.Mem.tail)) hmy ag24) ?_
  refine OpsW.callA rfl rfl (callOp Try.call18 rfl) permNone (schoose_c x y _ hlx hly) ?_
  rintro _ _ ⟨rfl, rfl⟩
  rw [chooseZ_right hSy.good (fun _ => by rw [hSx.hn, hSy.hn]; decide)]
  dsimp only
  rw [hSy.supC]
  refine OpsW.pure rfl rfl (pureOp_move rfl) ?_
  refine OpsW.pure rfl rfl (pureOp_extract rfl rfl) ?_
  refine OpsW.pure rfl rfl (pureOp_extract rfl rfl) ?_
  refine OpsW.pure rfl rfl (pureOp_extract rfl rfl) ?_
  refine OpsW.alloc rfl rfl (allocOp_alloc zt29) ?_
  rintro _ _ ⟨b10, rfl, rfl⟩
  refine OpsW.upd rfl rfl (by repeat (first | exact Pos.here | apply Pos.there)) (lop_storeAllN 5 Try.sizeOf29 rfl rfl (by first | rfl | assumption | (rw [List.length_map]; assumption) | (simp [*]; done) | (simp [*]; omega) | omega) (by first | rfl | assumption | (rw [List.length_map]; assumption) | (simp [*]; done) | (simp [*]; omega) | omega) (by first | exact one_map (fun _ => rfl) _ | exact one_rfl rfl | exact one_sup _ | (simp [one, *]; done))) ?_
  rintro _ _ ⟨rfl, rfl⟩
  refine OpsW.pure rfl rfl (pureOp_assign rfl) ?_
  refine OpsW.pure rfl rfl (pureOp_assign rfl) ?_
  refine OpsW.nil ?_
  refine AWp.forget ?_ (sub_put (i := 0) rfl (sub_put (i := 1) rfl (sub_put (i := 2) rfl (sub_put (i := 3) rfl (sub_put (i := 4) rfl (sub_put (i := 5) rfl (sub_put (i := 7) rfl (sub_put (i := 8) rfl (sub_put (i := 10) rfl (sub_put (i := 11) rfl (sub_put (i := 12) rfl (sub_nil))))))))))))
  refine AWp.seq ?_
  refine AWp.region ?_
  refine OpsW.callA rfl rfl (callOp Try.call21 rfl) permNone (dnew_c 5 _ (by decide)) ?_
  rintro _ _ (⟨h1, _⟩ | ⟨_, b, lv, mb, rfl, hI, rfl⟩)
  · omega
  obtain ⟨D1, D2, hW, ok1, hla, hfew, hB, ok2, hlen2, hw2, hz2, hS2⟩ := w_two (n := 5) (by decide) (by decide) hSx hlx
  obtain ⟨D0, hD0⟩ : ∃ D0, D0 = newF 5 := ⟨_, rfl⟩
  have hb0 := new_bump (n := 5) (by decide)
  have hfew0 : (newF 5).wait.length < 1000000 := by show 0 < 1000000; decide
  rw [← hD0] at hW hla hb0 hfew0 hI ⊢
  obtain ⟨wv, hwv⟩ : ∃ wv, wv = Value.slice none 0 0 := ⟨_, rfl⟩
  rw [← hwv] at hI ⊢
  refine OpsW.pure rfl rfl (pureOp_move rfl) ?_
  refine OpsW.pure rfl rfl (pureOp_extract rfl rfl) ?_
  refine OpsW.pure rfl rfl (pureOp_extract rfl rfl) ?_
  refine OpsW.pure rfl rfl (pureOp_assign rfl) ?_
  refine OpsW.pure rfl rfl (pureOp_assign rfl) ?_
  refine OpsW.nil ?_
  refine AWp.forget ?_ (sub_put (i := 0) rfl (sub_put (i := 1) rfl (sub_put (i := 2) rfl (sub_put (i := 3) rfl (sub_put (i := 4) rfl (sub_put (i := 5) rfl (sub_put (i := 7) rfl (sub_put (i := 8) rfl (sub_put (i := 10) rfl (sub_put (i := 11) rfl (sub_put (i := 12) rfl (sub_put (i := 13) rfl (sub_nil)))))))))))))
  refine AWp.seq ?_
  refine AWp.region ?_
  refine OpsW.callA rfl rfl (callOp Try.call25 rfl) permNone (sbumpnil_c _) ?_
  rintro _ _ ⟨rfl, rfl⟩
  refine OpsW.pure rfl rfl (pureOp_move rfl) ?_
  refine OpsW.pure rfl rfl (pureOp_extract rfl rfl) ?_
  refine OpsW.pure rfl rfl (pureOp_extract rfl rfl) ?_
  refine OpsW.alloc rfl rfl (allocOp_alloc zt29) ?_
  rintro _ _ ⟨b15, rfl, rfl⟩
  refine OpsW.upd rfl rfl (by repeat (first | exact Pos.here | apply Pos.there)) (lop_storeAllN 5 Try.sizeOf29 rfl rfl (by first | rfl | assumption | (rw [List.length_map]; assumption) | (simp [*]; done) | (simp [*]; omega) | omega) (by first | rfl | assumption | (rw [List.length_map]; assumption) | (simp [*]; done) | (simp [*]; omega) | omega) (by first | exact one_map (fun _ => rfl) _ | exact one_rfl rfl | exact one_sup _ | (simp [one, *]; done))) ?_
  rintro _ _ ⟨rfl, rfl⟩
  refine OpsW.pure rfl rfl (pureOp_assign rfl) ?_
  refine OpsW.nil ?_
  refine AWp.forget ?_ (sub_put (i := 0) rfl (sub_put (i := 1) rfl (sub_put (i := 2) rfl (sub_put (i := 3) rfl (sub_put (i := 4) rfl (sub_put (i := 5) rfl (sub_put (i := 7) rfl (sub_put (i := 8) rfl (sub_put (i := 10) rfl (sub_put (i := 11) rfl (sub_put (i := 12) rfl (sub_put (i := 13) rfl (sub_put (i := 16) rfl (sub_nil))))))))))))))
  refine AWp.seq ?_
  refine AWp.seq ?_
  refine AWp.region ?_
  refine OpsW.pure rfl rfl (pureOp_move rfl) ?_
  refine OpsW.pure rfl rfl (opP_isNil Try.underlying48 rfl) ?_
  refine OpsW.nil ?_
  refine AWp.forget ?_ (sub_put (i := 0) rfl (sub_put (i := 1) rfl (sub_put (i := 2) rfl (sub_put (i := 3) rfl (sub_put (i := 4) rfl (sub_put (i := 5) rfl (sub_put (i := 7) rfl (sub_put (i := 8) rfl (sub_put (i := 10) rfl (sub_put (i := 11) rfl (sub_put (i := 12) rfl (sub_put (i := 13) rfl (sub_put (i := 16) rfl (sub_put (i := 63) rfl (sub_nil)))))))))))))))
  refine AWp.cond_false rfl ?_
  refine AWp.skip ?_
  refine AWp.seq ?_
  refine AWp.region ?_
  refine OpsW.pure rfl rfl (pureOp_move rfl) ?_
  refine OpsW.callA rfl rfl (callOp Try.call25 rfl) (Sel.perm (L' := [.obj b _, .sl lv 256 _, .sl wv 257 _, .mp mb _]) (by repeat (first | exact Sel.nil | (apply Sel.cons; (repeat (first | exact Ext.here | apply Ext.there)))))) (sbump_c b lv wv mb D0 _ hI hfew0) ?_
  rintro _ _ ⟨wv1, mb1, rfl, hw1, rfl⟩
  rw [hb0] at hw1 ⊢
  dsimp only at hw1 ⊢
  refine OpsW.pure rfl rfl (pureOp_move rfl) ?_
  refine OpsW.pure rfl rfl (pureOp_extract rfl rfl) ?_
  refine OpsW.pure rfl rfl (pureOp_extract rfl rfl) ?_
  refine OpsW.alloc rfl rfl (allocOp_alloc zt29) ?_
  rintro _ _ ⟨b17, rfl, rfl⟩
  refine OpsW.upd rfl rfl (by repeat (first | exact Pos.here | apply Pos.there)) (lop_storeAllN 5 Try.sizeOf29 rfl rfl (by first | rfl | assumption | (rw [List.length_map]; assumption) | (simp [*]; done) | (simp [*]; omega) | omega) (by first | rfl | assumption | (rw [List.length_map]; assumption) | (simp [*]; done) | (simp [*]; omega) | omega) (by first | exact one_map (fun _ => rfl) _ | exact one_rfl rfl | exact one_sup _ | (simp [one, *]; done))) ?_
  rintro _ _ ⟨rfl, rfl⟩
  refine OpsW.pure rfl rfl (pureOp_assign rfl) ?_
  refine OpsW.nil ?_
  refine AWp.forget ?_ (sub_put (i := 0) rfl (sub_put (i := 1) rfl (sub_put (i := 2) rfl (sub_put (i := 3) rfl (sub_put (i := 4) rfl (sub_put (i := 5) rfl (sub_put (i := 7) rfl (sub_put (i := 8) rfl (sub_put (i := 10) rfl (sub_put (i := 11) rfl (sub_put (i := 12) rfl (sub_put (i := 13) rfl (sub_put (i := 16) rfl (sub_put (i := 18) rfl (sub_put (i := 63) rfl (sub_nil))))))))))))))))
  refine AWp.seq ?_
  refine AWp.region ?_
  refine OpsW.pure rfl rfl (pureOp_move rfl) ?_
  refine OpsW.load rfl rfl (loadAll rfl (by repeat (first | exact List.Mem.head _ | apply List.Mem.tail)) hmx ag24) ?_
  refine OpsW.callA rfl rfl (callOp Try.call22 rfl) (Sel.perm (L' := [.obj b _, .sl lv 256 _, .sl wv1 257 _, .mp mb1 _]) (by repeat (first | exact Sel.nil | (apply Sel.cons; (repeat (first | exact Ext.here | apply Ext.there)))))) (dwrite_c b lv wv1 mb1 D0 1 x _ ⟨hI.hl, hw1, hI.ok⟩ hlx hfew0) ?_
  rintro _ _ ⟨wv2, rfl, hw2', rfl⟩
  rw [hW] at hw2' ⊢
  dsimp only at hw2' ⊢
  refine OpsW.nil ?_
  refine AWp.forget ?_ (sub_put (i := 0) rfl (sub_put (i := 1) rfl (sub_put (i := 2) rfl (sub_put (i := 3) rfl (sub_put (i := 4) rfl (sub_put (i := 5) rfl (sub_put (i := 7) rfl (sub_put (i := 8) rfl (sub_put (i := 10) rfl (sub_put (i := 11) rfl (sub_put (i := 12) rfl (sub_put (i := 13) rfl (sub_put (i := 16) rfl (sub_put (i := 18) rfl (sub_put (i := 63) rfl (sub_nil))))))))))))))))
  refine AWp.seq ?_
  refine AWp.region ?_
  refine OpsW.pure rfl rfl (pureOp_move rfl) ?_
  refine OpsW.callA rfl rfl (callOp Try.call25 rfl) (Sel.perm (L' := [.obj b _, .sl lv 256 _, .sl wv2 257 _, .mp mb1 _]) (by repeat (first | exact Sel.nil | (apply Sel.cons; (repeat (first | exact Ext.here | apply Ext.there)))))) (sbump_c b lv wv2 mb1 D1 _ ⟨by rw [hla]; exact hI.hl, hw2', ok1⟩ hfew) ?_
  rintro _ _ ⟨wv3, mb3, rfl, hw3, rfl⟩
  rw [hB] at hw3 ⊢
  dsimp only at hw3 ⊢
  rw [nextC, hSx.hn]
  refine OpsW.pure rfl rfl (pureOp_move rfl) ?_
  refine OpsW.pure rfl rfl (pureOp_extract rfl rfl) ?_
  refine OpsW.pure rfl rfl (pureOp_extract rfl rfl) ?_
  refine OpsW.alloc rfl rfl (allocOp_alloc zt29) ?_
  rintro _ _ ⟨b19, rfl, rfl⟩
  refine OpsW.upd rfl rfl (by repeat (first | exact Pos.here | apply Pos.there)) (lop_storeAllN 5 Try.sizeOf29 rfl rfl (by first | rfl | assumption | (rw [List.length_map]; assumption) | (simp [*]; done) | (simp [*]; omega) | omega) (by first | rfl | assumption | (rw [List.length_map]; assumption) | (simp [*]; done) | (simp [*]; omega) | omega) (by first | exact one_map (fun _ => rfl) _ | exact one_rfl rfl | exact one_sup _ | (simp [one, *]; done))) ?_
  rintro _ _ ⟨rfl, rfl⟩
  refine OpsW.pure rfl rfl (pureOp_assign rfl) ?_
  refine OpsW.nil ?_
  refine AWp.forget ?_ (sub_put (i := 0) rfl (sub_put (i := 1) rfl (sub_put (i := 2) rfl (sub_put (i := 3) rfl (sub_put (i := 4) rfl (sub_put (i := 5) rfl (sub_put (i := 7) rfl (sub_put (i := 8) rfl (sub_put (i := 10) rfl (sub_put (i := 11) rfl (sub_put (i := 12) rfl (sub_put (i := 13) rfl (sub_put (i := 16) rfl (sub_put (i := 18) rfl (sub_put (i := 19) rfl (sub_put (i := 20) rfl (sub_put (i := 63) rfl (sub_nil))))))))))))))))))
  refine AWp.seq ?_
  refine AWp.region ?_
  refine OpsW.pure rfl rfl (pureOp_move rfl) ?_
  refine OpsW.callA rfl rfl (callOp Try.call27 rfl) (Sel.perm (L' := [.obj b _, .sl lv 256 _, .sl wv3 257 _, .mp mb3 _]) (by repeat (first | exact Sel.nil | (apply Sel.cons; (repeat (first | exact Ext.here | apply Ext.there)))))) (sread_c b lv wv3 mb3 D2 _ ⟨slOk_same hI.hl (by rw [secC_length ok2.sec, hlen2, secC_length hI.ok.sec, hD0, new_len]), hw3, ok2⟩) ?_
  rintro _ _ ⟨rfl, rfl⟩
  rw [hz2]
  dsimp only
  rw [hS2.supC]
  refine OpsW.pure rfl rfl (pureOp_move rfl) ?_
  refine OpsW.pure rfl rfl (pureOp_extract rfl rfl) ?_
  refine OpsW.pure rfl rfl (pureOp_extract rfl rfl) ?_
  refine OpsW.pure rfl rfl (pureOp_extract rfl rfl) ?_
  refine OpsW.alloc rfl rfl (allocOp_alloc zt29) ?_
  rintro _ _ ⟨b21, rfl, rfl⟩
  refine OpsW.upd rfl rfl (by repeat (first | exact Pos.here | apply Pos.there)) (lop_storeAllN 5 Try.sizeOf29 rfl rfl (by first | rfl | assumption | (rw [List.length_map]; assumption) | (simp [*]; done) | (simp [*]; omega) | omega) (by first | rfl | assumption | (rw [List.length_map]; assumption) | (simp [*]; done) | (simp [*]; omega) | omega) (by first | exact one_map (fun _ => rfl) _ | exact one_rfl rfl | exact one_sup _ | (simp [one, *]; done))) ?_
  rintro _ _ ⟨rfl, rfl⟩
  refine OpsW.pure rfl rfl (pureOp_assign rfl) ?_
  refine OpsW.pure rfl rfl (pureOp_assign rfl) ?_
  refine OpsW.nil ?_
  refine AWp.forget ?_ (sub_put (i := 0) rfl (sub_put (i := 1) rfl (sub_put (i := 2) rfl (sub_put (i := 3) rfl (sub_put (i := 4) rfl (sub_put (i := 5) rfl (sub_put (i := 7) rfl (sub_put (i := 8) rfl (sub_put (i := 10) rfl (sub_put (i := 11) rfl (sub_put (i := 12) rfl (sub_put (i := 13) rfl (sub_put (i := 16) rfl (sub_put (i := 18) rfl (sub_put (i := 19) rfl (sub_put (i := 20) rfl (sub_put (i := 21) rfl (sub_put (i := 22) rfl (sub_put (i := 23) rfl (sub_put (i := 63) rfl (sub_nil)))))))))))))))))))))
  refine AWp.seq ?_
  refine AWp.region ?_
  refine OpsW.pure rfl rfl (pureOp_move rfl) ?_
  refine OpsW.pure rfl rfl (opN_eql (b := 0) rfl rfl) ?_
  refine OpsW.knowB (d := 84) (b := true) rfl ?_
  refine OpsW.pure rfl rfl (pureOp_move rfl) ?_
  refine OpsW.pure rfl rfl (pureOp_move rfl) ?_
  refine OpsW.pure rfl rfl (opN_eql (b := 0) rfl rfl) ?_
  refine OpsW.knowB (d := 87) (b := true) rfl ?_
  refine OpsW.pure rfl rfl (pureOp_pick_true rfl rfl) ?_
  refine OpsW.pure rfl rfl (pureOp_move rfl) ?_
  refine OpsW.pure rfl rfl (pureOp_fieldAddr fa29_0 rfl) ?_
  refine OpsW.load rfl rfl (loadOp_objAgg ag23 rfl (by repeat (first | exact List.Mem.head _ | apply List.Mem.tail)) (Nat.le_of_ble_eq_true rfl)) ?_
  refine OpsW.load rfl rfl (loadAll rfl (by repeat (first | exact List.Mem.head _ | apply List.Mem.tail)) (by first | rfl | assumption | (rw [List.length_map]; assumption) | (simp [*]; done) | (simp [*]; omega) | omega) ag23) ?_
  refine OpsW.pure rfl rfl (planEql (plan64 hSx.plan.1) (plan64 hSx.plan.1) rfl rfl) ?_
  refine OpsW.knowB (d := 93) (b := true) (by show some (Value.bool (decide _)) = _; rw [decide_eq_true (⟨rfl, rfl, rfl, rfl⟩)]) ?_
  refine OpsW.pure rfl rfl (pureOp_pick_true rfl rfl) ?_
  refine OpsW.pure rfl rfl (pureOp_move rfl) ?_
  refine OpsW.pure rfl rfl (pureOp_fieldAddr fa29_1 rfl) ?_
  refine OpsW.load rfl rfl (loadOp_obj sc3 rfl (by repeat (first | exact List.Mem.head _ | apply List.Mem.tail)) rfl) ?_
  refine OpsW.pure rfl rfl (opN_eql (b := 6) rfl rfl) ?_
  refine OpsW.knowB (d := 98) (b := true) rfl ?_
  refine OpsW.pure rfl rfl (pureOp_pick_true rfl rfl) ?_
  refine OpsW.pure rfl rfl (pureOp_move rfl) ?_
  refine OpsW.pure rfl rfl (pureOp_move rfl) ?_
  refine OpsW.pure rfl rfl (opN_eql (b := 5) rfl rfl) ?_
  refine OpsW.knowB (d := 102) (b := true) rfl ?_
  refine OpsW.pure rfl rfl (pureOp_pick_true rfl rfl) ?_
  refine OpsW.pure rfl rfl (pureOp_move rfl) ?_
  refine OpsW.pure rfl rfl (pureOp_fieldAddr fa29_1 rfl) ?_
  refine OpsW.load rfl rfl (loadOp_obj sc3 rfl (by repeat (first | exact List.Mem.head _ | apply List.Mem.tail)) rfl) ?_
  refine OpsW.pure rfl rfl (opN_eql (b := 7) rfl rfl) ?_
  refine OpsW.knowB (d := 107) (b := true) rfl ?_
  refine OpsW.pure rfl rfl (pureOp_pick_true rfl rfl) ?_
  refine OpsW.pure rfl rfl (pureOp_move rfl) ?_
  refine OpsW.pure rfl rfl (pureOp_move rfl) ?_
  refine OpsW.pure rfl rfl (opN_eql (b := 1) rfl rfl) ?_
  refine OpsW.knowB (d := 111) (b := true) rfl ?_
  refine OpsW.pure rfl rfl (pureOp_pick_true rfl rfl) ?_
  refine OpsW.pure rfl rfl (pureOp_move rfl) ?_
  refine OpsW.pure rfl rfl (pureOp_move rfl) ?_
  refine OpsW.pure rfl rfl (opN_eql (b := 0) rfl rfl) ?_
  refine OpsW.knowB (d := 115) (b := true) rfl ?_
  refine OpsW.pure rfl rfl (pureOp_pick_true rfl rfl) ?_
  refine OpsW.pure rfl rfl (pureOp_move rfl) ?_
  refine OpsW.pure rfl rfl (pureOp_move rfl) ?_
  refine OpsW.pure rfl rfl (opN_eql (b := 1) rfl rfl) ?_
  refine OpsW.knowB (d := 119) (b := true) rfl ?_
  refine OpsW.pure rfl rfl (pureOp_pick_true rfl rfl) ?_
  refine OpsW.pure rfl rfl (pureOp_move rfl) ?_
  refine OpsW.pure rfl rfl (pureOp_move rfl) ?_
  refine OpsW.pure rfl rfl (opN_eql (b := 5) rfl rfl) ?_
  refine OpsW.knowB (d := 123) (b := true) rfl ?_
  refine OpsW.pure rfl rfl (pureOp_pick_true rfl rfl) ?_
  refine OpsW.pure rfl rfl (pureOp_move rfl) ?_
  refine OpsW.pure rfl rfl (pureOp_move rfl) ?_
  refine OpsW.pure rfl rfl (opN_eql (b := 0) rfl rfl) ?_
  refine OpsW.knowB (d := 127) (b := true) rfl ?_
  refine OpsW.pure rfl rfl (pureOp_pick_true rfl rfl) ?_
  refine OpsW.pure rfl rfl (pureOp_move rfl) ?_
  refine OpsW.pure rfl rfl (pureOp_fieldAddr fa29_1 rfl) ?_
  refine OpsW.load rfl rfl (loadOp_obj sc3 rfl (by repeat (first | exact List.Mem.head _ | apply List.Mem.tail)) rfl) ?_
  refine OpsW.pure rfl rfl (opN_eql (b := 7) rfl rfl) ?_
  refine OpsW.knowB (d := 132) (b := true) rfl ?_
  refine OpsW.pure rfl rfl (pureOp_pick_true rfl rfl) ?_
  refine OpsW.pure rfl rfl (pureOp_move rfl) ?_
  refine OpsW.pure rfl rfl (pureOp_fieldAddr fa29_1 rfl) ?_
  refine OpsW.load rfl rfl (loadOp_obj sc3 rfl (by repeat (first | exact List.Mem.head _ | apply List.Mem.tail)) rfl) ?_
  refine OpsW.pure rfl rfl (opN_eql (b := 7) rfl rfl) ?_
  refine OpsW.knowB (d := 137) (b := true) rfl ?_
  refine OpsW.pure rfl rfl (pureOp_pick_true rfl rfl) ?_
  refine OpsW.pure rfl rfl (pureOp_move rfl) ?_
  refine OpsW.pure rfl rfl (pureOp_move rfl) ?_
  refine OpsW.pure rfl rfl (opN_eql (b := 0) rfl rfl) ?_
  refine OpsW.knowB (d := 141) (b := true) rfl ?_
  refine OpsW.pure rfl rfl (pureOp_pick_true rfl rfl) ?_
  refine OpsW.pure rfl rfl (pureOp_move rfl) ?_
  refine OpsW.pure rfl rfl (pureOp_move rfl) ?_
  refine OpsW.pure rfl rfl (opN_eql (b := 0) rfl rfl) ?_
  refine OpsW.knowB (d := 145) (b := true) rfl ?_
  refine OpsW.pure rfl rfl (pureOp_pick_true rfl rfl) ?_
  refine OpsW.pure rfl rfl (pureOp_move rfl) ?_
  refine OpsW.pure rfl rfl (pureOp_move rfl) ?_
  refine OpsW.callA rfl rfl (callOp Try.call81 rfl) (Sel.perm (L' := [.obj b _, .sl lv 256 _, .sl wv3 257 _, .mp mb3 _]) (by repeat (first | exact Sel.nil | (apply Sel.cons; (repeat (first | exact Ext.here | apply Ext.there)))))) (dwaits_c b lv wv3 mb3 D2 _ ⟨slOk_same hI.hl (by rw [secC_length ok2.sec, hlen2, secC_length hI.ok.sec, hD0, new_len]), hw3, ok2⟩) ?_
  rintro _ _ ⟨rfl, rfl⟩
  refine OpsW.pure rfl rfl (opN_eql (b := 0) rfl rfl) ?_
  refine OpsW.knowB (d := 150) (b := true) (by show some (Value.bool (decide _)) = _; rw [decide_eq_true (by rw [hw2]; rfl)]) ?_
  refine OpsW.pure rfl rfl (pureOp_pick_true rfl rfl) ?_
  refine OpsW.pure rfl rfl (pureOp_assign rfl) ?_
  refine OpsW.nil ?_
  refine AWp.forget ?_ (sub_put (i := 0) rfl (sub_put (i := 1) rfl (sub_put (i := 2) rfl (sub_put (i := 3) rfl (sub_put (i := 4) rfl (sub_put (i := 5) rfl (sub_put (i := 7) rfl (sub_put (i := 8) rfl (sub_put (i := 10) rfl (sub_put (i := 11) rfl (sub_put (i := 12) rfl (sub_put (i := 13) rfl (sub_put (i := 16) rfl (sub_put (i := 18) rfl (sub_put (i := 19) rfl (sub_put (i := 20) rfl (sub_put (i := 21) rfl (sub_put (i := 22) rfl (sub_put (i := 23) rfl (sub_put (i := 63) rfl (sub_nil)))))))))))))))))))))
  refine AWp.ret ?_
  exact ⟨_, [], _, permNone, res_tmp rfl rfl, rfl, rfl⟩

set_option maxRecDepth 20000 in
set_option maxHeartbeats 4000000 in
theorem puts_c (a b c d n : Int) (x y : List UInt8) (m : Mem) (hx : x.length = 256) (hy : y.length = 256) :
    Ctr Try.prog 3 [.agg #[.int .i64 a, .int .i64 b, .int .i64 c, .int .i64 d], .int .i64 n, .agg (x.map bV).toArray, .agg (y.map bV).toArray] m [] (fun _ r L => r = .bool true ∧ L = []) := by
  have hmx : (x.map bV).length = 256 := by rw [List.length_map]; exact hx
  have hmy : (y.map bV).length = 256 := by rw [List.length_map]; exact hy
  obtain ⟨p1, q1, r1, s1, n1, hP1, hk1⟩ := supC_form x
  obtain ⟨p2, q2, r2, s2, n2, hP2, hk2⟩ := supC_form (chooseZ x y).1
  refine Ctr.intro Try.func3 rfl Try.ntmps3 (by simp) fun w0 => ?_
  refine AWp.forget ?_ (sub_put (i := 0) rfl (sub_put (i := 1) rfl (sub_put (i := 2) rfl (sub_put (i := 3) rfl (sub_nil)))))
  refine AWp.seq ?_
  refine AWp.region ?_
  refine OpsW.alloc rfl rfl (allocOp_boxAgg rfl) ?_
  rintro _ _ ⟨b4, rfl, rfl⟩
  refine OpsW.alloc rfl rfl (allocOp_boxAgg rfl) ?_
  rintro _ _ ⟨b6, rfl, rfl⟩
  refine OpsW.alloc rfl rfl (allocOp_boxAgg rfl) ?_
  rintro _ _ ⟨b7, rfl, rfl⟩
  refine OpsW.pure rfl rfl (pureOp_assign rfl) ?_
  refine OpsW.nil ?_
  refine AWp.forget ?_ (sub_put (i := 0) rfl (sub_put (i := 1) rfl (sub_put (i := 2) rfl (sub_put (i := 3) rfl (sub_put (i := 4) rfl (sub_put (i := 6) rfl (sub_put (i := 7) rfl (sub_put (i := 8) rfl (sub_nil)))))))))
  refine AWp.seq ?_
  refine AWp.region ?_
  refine OpsW.load rfl rfl (loadAll rfl (by repeat (first | exact List.Mem.head _ | apply List.Mem.tail)) (by first | rfl | assumption | (rw [List.length_map]; assumption) | (simp [*]; done) | (simp [*]; omega) | omega) ag23) ?_
  refine OpsW.pure rfl rfl (pureOp_move rfl) ?_
  refine OpsW.pure rfl rfl (opBuildStruct st29 rfl (.cons rfl (by first | rfl | (simp [Value.cells, *]; done)) (by first | exact Nat.le_of_ble_eq_true rfl | (simp [segs_length, *]; done)) (.cons rfl (by first | rfl | (simp [Value.cells, *]; done)) (by first | exact Nat.le_of_ble_eq_true rfl | (simp [segs_length, *]; done)) (.nil)))) ?_
  refine OpsW.callA rfl rfl (callOp Try.call14 rfl) permNone (sput_c a b c d n _) ?_
  rintro _ _ ⟨rfl, rfl⟩
  obtain ⟨z, e, hz⟩ : ∃ z e, putS a b c d n = (z, e) := ⟨_, _, rfl⟩
  have hlz := putS_length a b c d n
  rw [hz] at hlz ⊢
  dsimp only at hlz ⊢
  have hmz : (z.map bV).length = 256 := by rw [List.length_map]; exact hlz
  refine OpsW.pure rfl rfl (pureOp_move rfl) ?_
  refine OpsW.pure rfl rfl (pureOp_extract rfl rfl) ?_
  refine OpsW.pure rfl rfl (pureOp_extract rfl rfl) ?_
  refine OpsW.alloc rfl rfl (allocOp_alloc zt24) ?_
  rintro _ _ ⟨b9, rfl, rfl⟩
  refine OpsW.upd rfl rfl (by repeat (first | exact Pos.here | apply Pos.there)) (lop_storeAllN 256 Try.sizeOf24 rfl rfl List.length_replicate hmz (by first | exact one_map (fun _ => rfl) _ | exact one_rfl rfl | exact one_sup _ | (simp [one, *]; done))) ?_
  rintro _ _ ⟨rfl, rfl⟩
  refine OpsW.pure rfl rfl (pureOp_assign rfl) ?_
  refine OpsW.nil ?_
  refine AWp.forget ?_ (sub_put (i := 0) rfl (sub_put (i := 1) rfl (sub_put (i := 2) rfl (sub_put (i := 3) rfl (sub_put (i := 4) rfl (sub_put (i := 6) rfl (sub_put (i := 7) rfl (sub_put (i := 8) rfl (sub_put (i := 9) rfl (sub_put (i := 10) rfl (sub_nil)))))))))))
  refine AWp.seq ?_
  refine AWp.region ?_
  refine OpsW.load rfl rfl (loadAll rfl (by repeat (first | exact List.Mem.head _ | apply List.Mem.tail)) (by first | rfl | assumption | (rw [List.length_map]; assumption) | (simp [*]; done) | (simp [*]; omega) | omega) ag23) ?_
  refine OpsW.pure rfl rfl (pureOp_move rfl) ?_
  refine OpsW.pure rfl rfl (opBuildStruct st31 rfl (.cons rfl (by first | rfl | (simp [Value.cells, *]; done)) (by first | exact Nat.le_of_ble_eq_true rfl | (simp [segs_length, *]; done)) (.cons rfl (by first | rfl | (simp [Value.cells, *]; done)) (by first | exact Nat.le_of_ble_eq_true rfl | (simp [segs_length, *]; done)) (.nil)))) ?_
  refine OpsW.callA rfl rfl (callOp Try.call15 rfl) permNone (sput8_c a b c d n _) ?_
  rintro _ _ ⟨rfl, rfl⟩
  rw [hz]
  dsimp only
  refine OpsW.pure rfl rfl (pureOp_move rfl) ?_
  refine OpsW.pure rfl rfl (pureOp_extract rfl rfl) ?_
  refine OpsW.pure rfl rfl (pureOp_extract rfl rfl) ?_
  refine OpsW.alloc rfl rfl (allocOp_alloc zt24) ?_
  rintro _ _ ⟨b11, rfl, rfl⟩
  refine OpsW.upd rfl rfl (by repeat (first | exact Pos.here | apply Pos.there)) (lop_storeAllN 256 Try.sizeOf24 rfl rfl List.length_replicate hmz (by first | exact one_map (fun _ => rfl) _ | exact one_rfl rfl | exact one_sup _ | (simp [one, *]; done))) ?_
  rintro _ _ ⟨rfl, rfl⟩
  refine OpsW.pure rfl rfl (pureOp_assign rfl) ?_
  refine OpsW.nil ?_
  refine AWp.forget ?_ (sub_put (i := 0) rfl (sub_put (i := 1) rfl (sub_put (i := 2) rfl (sub_put (i := 3) rfl (sub_put (i := 4) rfl (sub_put (i := 6) rfl (sub_put (i := 7) rfl (sub_put (i := 8) rfl (sub_put (i := 9) rfl (sub_put (i := 10) rfl (sub_put (i := 11) rfl (sub_put (i := 12) rfl (sub_nil)))))))))))))
  refine AWp.seq ?_
  refine AWp.region ?_
  refine OpsW.load rfl rfl (loadAll rfl (by repeat (first | exact List.Mem.head _ | apply List.Mem.tail)) hmx ag24) ?_
  refine OpsW.callA rfl rfl (callOp Try.call16 rfl) permNone (sget_c x _ hx) ?_
  rintro _ _ ⟨rfl, rfl⟩
  rw [hP1]
  refine OpsW.pure rfl rfl (pureOp_move rfl) ?_
  refine OpsW.pure rfl rfl (pureOp_extract rfl rfl) ?_
  refine OpsW.pure rfl rfl (pureOp_extract rfl rfl) ?_
  refine OpsW.alloc rfl rfl (allocOp_alloc zt29) ?_
  rintro _ _ ⟨b13, rfl, rfl⟩
  refine OpsW.upd rfl rfl (by repeat (first | exact Pos.here | apply Pos.there)) (lop_storeAllN 5 Try.sizeOf29 rfl rfl (by first | rfl | assumption | (rw [List.length_map]; assumption) | (simp [*]; done) | (simp [*]; omega) | omega) (by first | rfl | assumption | (rw [List.length_map]; assumption) | (simp [*]; done) | (simp [*]; omega) | omega) (by first | exact one_map (fun _ => rfl) _ | exact one_rfl rfl | exact one_sup _ | (simp [one, *]; done))) ?_
  rintro _ _ ⟨rfl, rfl⟩
  refine OpsW.pure rfl rfl (pureOp_assign rfl) ?_
  refine OpsW.nil ?_
  refine AWp.forget ?_ (sub_put (i := 0) rfl (sub_put (i := 1) rfl (sub_put (i := 2) rfl (sub_put (i := 3) rfl (sub_put (i := 4) rfl (sub_put (i := 6) rfl (sub_put (i := 7) rfl (sub_put (i := 8) rfl (sub_put (i := 9) rfl (sub_put (i := 10) rfl (sub_put (i := 11) rfl (sub_put (i := 12) rfl (sub_put (i := 13) rfl (sub_put (i := 14) rfl (sub_nil)))))))))))))))
  refine AWp.seq ?_
  refine AWp.region ?_
  refine OpsW.load rfl rfl (loadAll rfl (by repeat (first | exact List.Mem.head _ | apply List.Mem.tail)) hmx ag24) ?_
  refine OpsW.callA rfl rfl (callOp Try.call17 rfl) permNone (sget8_c x _ hx) ?_
  rintro _ _ ⟨rfl, rfl⟩
  rw [hP1]
  refine OpsW.pure rfl rfl (pureOp_move rfl) ?_
  refine OpsW.pure rfl rfl (pureOp_extract rfl rfl) ?_
  refine OpsW.pure rfl rfl (pureOp_extract rfl rfl) ?_
  refine OpsW.alloc rfl rfl (allocOp_alloc zt31) ?_
  rintro _ _ ⟨b15, rfl, rfl⟩
  refine OpsW.upd rfl rfl (by repeat (first | exact Pos.here | apply Pos.there)) (lop_storeAllN 5 Try.sizeOf31 rfl rfl (by first | rfl | assumption | (rw [List.length_map]; assumption) | (simp [*]; done) | (simp [*]; omega) | omega) (by first | rfl | assumption | (rw [List.length_map]; assumption) | (simp [*]; done) | (simp [*]; omega) | omega) (by first | exact one_map (fun _ => rfl) _ | exact one_rfl rfl | exact one_sup _ | (simp [one, *]; done))) ?_
  rintro _ _ ⟨rfl, rfl⟩
  refine OpsW.pure rfl rfl (pureOp_assign rfl) ?_
  refine OpsW.nil ?_
  refine AWp.forget ?_ (sub_put (i := 0) rfl (sub_put (i := 1) rfl (sub_put (i := 2) rfl (sub_put (i := 3) rfl (sub_put (i := 4) rfl (sub_put (i := 6) rfl (sub_put (i := 7) rfl (sub_put (i := 8) rfl (sub_put (i := 9) rfl (sub_put (i := 10) rfl (sub_put (i := 11) rfl (sub_put (i := 12) rfl (sub_put (i := 13) rfl (sub_put (i := 14) rfl (sub_put (i := 15) rfl (sub_put (i := 16) rfl (sub_nil)))))))))))))))))
  refine AWp.seq ?_
  refine AWp.region ?_
  refine OpsW.load rfl rfl (loadAll rfl (by repeat (first | exact List.Mem.head _ | apply List.Mem.tail)) hmx ag24) ?_
  refine OpsW.load rfl rfl (loadAll rfl (by repeat (first | exact List.Mem.head _ | apply List.Mem.tail)) hmy ag24) ?_
  refine OpsW.callA rfl rfl (callOp Try.call18 rfl) permNone (schoose_c x y _ hx hy) ?_
  rintro _ _ ⟨rfl, rfl⟩
  rw [hP2]
  refine OpsW.pure rfl rfl (pureOp_move rfl) ?_
  refine OpsW.pure rfl rfl (pureOp_extract rfl rfl) ?_
  refine OpsW.pure rfl rfl (pureOp_extract rfl rfl) ?_
  refine OpsW.pure rfl rfl (pureOp_extract rfl rfl) ?_
  refine OpsW.alloc rfl rfl (allocOp_alloc zt29) ?_
  rintro _ _ ⟨b17, rfl, rfl⟩
  refine OpsW.upd rfl rfl (by repeat (first | exact Pos.here | apply Pos.there)) (lop_storeAllN 5 Try.sizeOf29 rfl rfl (by first | rfl | assumption | (rw [List.length_map]; assumption) | (simp [*]; done) | (simp [*]; omega) | omega) (by first | rfl | assumption | (rw [List.length_map]; assumption) | (simp [*]; done) | (simp [*]; omega) | omega) (by first | exact one_map (fun _ => rfl) _ | exact one_rfl rfl | exact one_sup _ | (simp [one, *]; done))) ?_
  rintro _ _ ⟨rfl, rfl⟩
  refine OpsW.pure rfl rfl (pureOp_assign rfl) ?_
  refine OpsW.pure rfl rfl (pureOp_assign rfl) ?_
  refine OpsW.nil ?_
  refine AWp.forget ?_ (sub_put (i := 0) rfl (sub_put (i := 1) rfl (sub_put (i := 2) rfl (sub_put (i := 3) rfl (sub_put (i := 4) rfl (sub_put (i := 6) rfl (sub_put (i := 7) rfl (sub_put (i := 8) rfl (sub_put (i := 9) rfl (sub_put (i := 10) rfl (sub_put (i := 11) rfl (sub_put (i := 12) rfl (sub_put (i := 13) rfl (sub_put (i := 14) rfl (sub_put (i := 15) rfl (sub_put (i := 16) rfl (sub_put (i := 17) rfl (sub_put (i := 18) rfl (sub_put (i := 19) rfl (sub_nil))))))))))))))))))))
  refine AWp.seq ?_
  refine AWp.region ?_
  refine OpsW.load rfl rfl (loadAll rfl (by repeat (first | exact List.Mem.head _ | apply List.Mem.tail)) hmx ag24) ?_
  refine OpsW.load rfl rfl (loadAll rfl (by repeat (first | exact List.Mem.head _ | apply List.Mem.tail)) hmy ag24) ?_
  refine OpsW.callA rfl rfl (callOp Try.call19 rfl) permNone (schoose8_c x y _ hx hy) ?_
  rintro _ _ ⟨rfl, rfl⟩
  rw [hP2]
  refine OpsW.pure rfl rfl (pureOp_move rfl) ?_
  refine OpsW.pure rfl rfl (pureOp_extract rfl rfl) ?_
  refine OpsW.pure rfl rfl (pureOp_extract rfl rfl) ?_
  refine OpsW.pure rfl rfl (pureOp_extract rfl rfl) ?_
  refine OpsW.alloc rfl rfl (allocOp_alloc zt31) ?_
  rintro _ _ ⟨b20, rfl, rfl⟩
  refine OpsW.upd rfl rfl (by repeat (first | exact Pos.here | apply Pos.there)) (lop_storeAllN 5 Try.sizeOf31 rfl rfl (by first | rfl | assumption | (rw [List.length_map]; assumption) | (simp [*]; done) | (simp [*]; omega) | omega) (by first | rfl | assumption | (rw [List.length_map]; assumption) | (simp [*]; done) | (simp [*]; omega) | omega) (by first | exact one_map (fun _ => rfl) _ | exact one_rfl rfl | exact one_sup _ | (simp [one, *]; done))) ?_
  rintro _ _ ⟨rfl, rfl⟩
  refine OpsW.pure rfl rfl (pureOp_assign rfl) ?_
  refine OpsW.pure rfl rfl (pureOp_assign rfl) ?_
  refine OpsW.nil ?_
  refine AWp.forget ?_ (sub_put (i := 0) rfl (sub_put (i := 1) rfl (sub_put (i := 2) rfl (sub_put (i := 3) rfl (sub_put (i := 4) rfl (sub_put (i := 6) rfl (sub_put (i := 7) rfl (sub_put (i := 8) rfl (sub_put (i := 9) rfl (sub_put (i := 10) rfl (sub_put (i := 11) rfl (sub_put (i := 12) rfl (sub_put (i := 13) rfl (sub_put (i := 14) rfl (sub_put (i := 15) rfl (sub_put (i := 16) rfl (sub_put (i := 17) rfl (sub_put (i := 18) rfl (sub_put (i := 19) rfl (sub_put (i := 20) rfl (sub_put (i := 21) rfl (sub_put (i := 22) rfl (sub_nil)))))))))))))))))))))))
  refine AWp.seq ?_
  refine AWp.region ?_
  refine OpsW.load rfl rfl (loadAll rfl (by repeat (first | exact List.Mem.head _ | apply List.Mem.tail)) hmz ag24) ?_
  refine OpsW.load rfl rfl (loadAll rfl (by repeat (first | exact List.Mem.head _ | apply List.Mem.tail)) hmz ag24) ?_
  refine OpsW.pure rfl rfl (opB_eql by24 dpth rfl rfl hlz hlz) ?_
  refine OpsW.knowB (d := 63) (b := true) (by show some (Value.bool (decide _)) = _; rw [decide_eq_true (rfl)]) ?_
  refine OpsW.pure rfl rfl (pureOp_move rfl) ?_
  refine OpsW.pure rfl rfl (pureOp_move rfl) ?_
  refine OpsW.pure rfl rfl (pureOp_move rfl) ?_
  refine OpsW.pure rfl rfl (opN_eql rfl rfl) ?_
  refine OpsW.knowB (d := 67) (b := true) (by show some (Value.bool (decide _)) = _; rw [decide_eq_true (rfl)]) ?_
  refine OpsW.pure rfl rfl (pureOp_pick_true rfl rfl) ?_
  refine OpsW.pure rfl rfl (pureOp_move rfl) ?_
  refine OpsW.pure rfl rfl (pureOp_fieldAddr fa29_0 rfl) ?_
  refine OpsW.load rfl rfl (loadOp_objAgg ag23 rfl (by repeat (first | exact List.Mem.head _ | apply List.Mem.tail)) (Nat.le_of_ble_eq_true rfl)) ?_
  refine OpsW.pure rfl rfl (pureOp_fieldAddr fa31_0 rfl) ?_
  refine OpsW.load rfl rfl (loadOp_objAgg ag23 rfl (by repeat (first | exact List.Mem.head _ | apply List.Mem.tail)) (Nat.le_of_ble_eq_true rfl)) ?_
  refine OpsW.pure rfl rfl (planEql hk1 hk1 rfl rfl) ?_
  refine OpsW.knowB (d := 74) (b := true) (by show some (Value.bool (decide _)) = _; rw [decide_eq_true (⟨rfl, rfl, rfl, rfl⟩)]) ?_
  refine OpsW.pure rfl rfl (pureOp_pick_true rfl rfl) ?_
  refine OpsW.pure rfl rfl (pureOp_move rfl) ?_
  refine OpsW.pure rfl rfl (pureOp_fieldAddr fa29_1 rfl) ?_
  refine OpsW.load rfl rfl (loadOp_obj sc3 rfl (by repeat (first | exact List.Mem.head _ | apply List.Mem.tail)) rfl) ?_
  refine OpsW.pure rfl rfl (pureOp_fieldAddr fa31_1 rfl) ?_
  refine OpsW.load rfl rfl (loadOp_obj sc3 rfl (by repeat (first | exact List.Mem.head _ | apply List.Mem.tail)) rfl) ?_
  refine OpsW.pure rfl rfl (opN_eql rfl rfl) ?_
  refine OpsW.knowB (d := 81) (b := true) (by show some (Value.bool (decide _)) = _; rw [decide_eq_true (rfl)]) ?_
  refine OpsW.pure rfl rfl (pureOp_pick_true rfl rfl) ?_
  refine OpsW.pure rfl rfl (pureOp_move rfl) ?_
  refine OpsW.pure rfl rfl (pureOp_move rfl) ?_
  refine OpsW.pure rfl rfl (pureOp_move rfl) ?_
  refine OpsW.pure rfl rfl (opN_eql rfl rfl) ?_
  refine OpsW.knowB (d := 86) (b := true) (by show some (Value.bool (decide _)) = _; rw [decide_eq_true (rfl)]) ?_
  refine OpsW.pure rfl rfl (pureOp_pick_true rfl rfl) ?_
  refine OpsW.pure rfl rfl (pureOp_move rfl) ?_
  refine OpsW.pure rfl rfl (pureOp_fieldAddr fa29_0 rfl) ?_
  refine OpsW.load rfl rfl (loadOp_objAgg ag23 rfl (by repeat (first | exact List.Mem.head _ | apply List.Mem.tail)) (Nat.le_of_ble_eq_true rfl)) ?_
  refine OpsW.pure rfl rfl (pureOp_fieldAddr fa31_0 rfl) ?_
  refine OpsW.load rfl rfl (loadOp_objAgg ag23 rfl (by repeat (first | exact List.Mem.head _ | apply List.Mem.tail)) (Nat.le_of_ble_eq_true rfl)) ?_
  refine OpsW.pure rfl rfl (planEql hk2 hk2 rfl rfl) ?_
  refine OpsW.knowB (d := 93) (b := true) (by show some (Value.bool (decide _)) = _; rw [decide_eq_true (⟨rfl, rfl, rfl, rfl⟩)]) ?_
  refine OpsW.pure rfl rfl (pureOp_pick_true rfl rfl) ?_
  refine OpsW.pure rfl rfl (pureOp_move rfl) ?_
  refine OpsW.pure rfl rfl (pureOp_fieldAddr fa29_1 rfl) ?_
  refine OpsW.load rfl rfl (loadOp_obj sc3 rfl (by repeat (first | exact List.Mem.head _ | apply List.Mem.tail)) rfl) ?_
  refine OpsW.pure rfl rfl (pureOp_fieldAddr fa31_1 rfl) ?_
  refine OpsW.load rfl rfl (loadOp_obj sc3 rfl (by repeat (first | exact List.Mem.head _ | apply List.Mem.tail)) rfl) ?_
  refine OpsW.pure rfl rfl (opN_eql rfl rfl) ?_
  refine OpsW.knowB (d := 100) (b := true) (by show some (Value.bool (decide _)) = _; rw [decide_eq_true (rfl)]) ?_
  refine OpsW.pure rfl rfl (pureOp_pick_true rfl rfl) ?_
  refine OpsW.pure rfl rfl (pureOp_move rfl) ?_
  refine OpsW.pure rfl rfl (pureOp_move rfl) ?_
  refine OpsW.pure rfl rfl (pureOp_move rfl) ?_
  refine OpsW.pure rfl rfl (opN_eql rfl rfl) ?_
  refine OpsW.knowB (d := 105) (b := true) (by show some (Value.bool (decide _)) = _; rw [decide_eq_true (rfl)]) ?_
  refine OpsW.pure rfl rfl (pureOp_pick_true rfl rfl) ?_
  refine OpsW.pure rfl rfl (pureOp_move rfl) ?_
  refine OpsW.pure rfl rfl (pureOp_move rfl) ?_
  refine OpsW.pure rfl rfl (pureOp_move rfl) ?_
  refine OpsW.pure rfl rfl (opN_eql rfl rfl) ?_
  refine OpsW.knowB (d := 110) (b := true) (by show some (Value.bool (decide _)) = _; rw [decide_eq_true (rfl)]) ?_
  refine OpsW.pure rfl rfl (pureOp_pick_true rfl rfl) ?_
  refine OpsW.pure rfl rfl (pureOp_move rfl) ?_
  refine OpsW.callA rfl rfl (callOp Try.call20 rfl) permNone (works_c _) ?_
  rintro _ _ ⟨rfl, rfl⟩
  refine OpsW.knowB (d := 113) (b := true) rfl ?_
  refine OpsW.pure rfl rfl (pureOp_pick_true rfl rfl) ?_
  refine OpsW.pure rfl rfl (pureOp_assign rfl) ?_
  refine OpsW.nil ?_
  refine AWp.forget ?_ (sub_put (i := 0) rfl (sub_put (i := 1) rfl (sub_put (i := 2) rfl (sub_put (i := 3) rfl (sub_put (i := 4) rfl (sub_put (i := 6) rfl (sub_put (i := 7) rfl (sub_put (i := 8) rfl (sub_put (i := 9) rfl (sub_put (i := 10) rfl (sub_put (i := 11) rfl (sub_put (i := 12) rfl (sub_put (i := 13) rfl (sub_put (i := 14) rfl (sub_put (i := 15) rfl (sub_put (i := 16) rfl (sub_put (i := 17) rfl (sub_put (i := 18) rfl (sub_put (i := 19) rfl (sub_put (i := 20) rfl (sub_put (i := 21) rfl (sub_put (i := 22) rfl (sub_nil)))))))))))))))))))))))
  refine AWp.ret ?_
  exact ⟨_, [], _, permNone, res_tmp rfl rfl, rfl, rfl⟩

set_option maxRecDepth 20000 in
set_option maxHeartbeats 4000000 in
theorem sback_c (a b c d n : Int) (at0 : Nat) (mask : UInt32) (m : Mem) (hat : at0 < 65536) :
    Ctr Try.prog 4 [.agg #[.int .i64 a, .int .i64 b, .int .i64 c, .int .i64 d], .int .i64 n, .int .u16 (at0 : Int), wV mask] m [] (fun _ r L => r = .bool true ∧ L = []) := by
  refine Ctr.intro Try.func4 rfl Try.ntmps4 (by simp) fun w0 => ?_
  refine AWp.forget ?_ (sub_put (i := 0) rfl (sub_put (i := 1) rfl (sub_put (i := 2) rfl (sub_put (i := 3) rfl (sub_nil)))))
  refine AWp.seq ?_
  refine AWp.region ?_
  refine OpsW.alloc rfl rfl (allocOp_boxAgg rfl) ?_
  rintro _ _ ⟨b4, rfl, rfl⟩
  refine OpsW.pure rfl rfl (pureOp_assign rfl) ?_
  refine OpsW.nil ?_
  refine AWp.forget ?_ (sub_put (i := 0) rfl (sub_put (i := 1) rfl (sub_put (i := 2) rfl (sub_put (i := 3) rfl (sub_put (i := 4) rfl (sub_put (i := 8) rfl (sub_nil)))))))
  refine AWp.seq ?_
  refine AWp.region ?_
  refine OpsW.load rfl rfl (loadAll rfl (by repeat (first | exact List.Mem.head _ | apply List.Mem.tail)) (by first | rfl | assumption | (rw [List.length_map]; assumption) | (simp [*]; done) | (simp [*]; omega) | omega) ag23) ?_
  refine OpsW.pure rfl rfl (pureOp_move rfl) ?_
  refine OpsW.pure rfl rfl (opBuildStruct st29 rfl (.cons rfl (by first | rfl | (simp [Value.cells, *]; done)) (by first | exact Nat.le_of_ble_eq_true rfl | (simp [segs_length, *]; done)) (.cons rfl (by first | rfl | (simp [Value.cells, *]; done)) (by first | exact Nat.le_of_ble_eq_true rfl | (simp [segs_length, *]; done)) (.nil)))) ?_
  refine OpsW.callA rfl rfl (callOp Try.call14 rfl) permNone (sput_c a b c d n _) ?_
  rintro _ _ ⟨rfl, rfl⟩
  obtain ⟨x, e, hx⟩ : ∃ x e, putS a b c d n = (x, e) := ⟨_, _, rfl⟩
  have hlx := putS_length a b c d n
  rw [hx] at hlx ⊢
  dsimp only at hlx ⊢
  have hmx : (x.map bV).length = 256 := by rw [List.length_map]; exact hlx
  refine OpsW.pure rfl rfl (pureOp_move rfl) ?_
  refine OpsW.pure rfl rfl (pureOp_extract rfl rfl) ?_
  refine OpsW.pure rfl rfl (pureOp_extract rfl rfl) ?_
  refine OpsW.alloc rfl rfl (allocOp_alloc zt24) ?_
  rintro _ _ ⟨b9, rfl, rfl⟩
  refine OpsW.upd rfl rfl (by repeat (first | exact Pos.here | apply Pos.there)) (lop_storeAllN 256 Try.sizeOf24 rfl rfl List.length_replicate hmx (by first | exact one_map (fun _ => rfl) _ | exact one_rfl rfl | exact one_sup _ | (simp [one, *]; done))) ?_
  rintro _ _ ⟨rfl, rfl⟩
  refine OpsW.pure rfl rfl (pureOp_assign rfl) ?_
  refine OpsW.nil ?_
  refine AWp.forget ?_ (sub_put (i := 0) rfl (sub_put (i := 1) rfl (sub_put (i := 2) rfl (sub_put (i := 3) rfl (sub_put (i := 4) rfl (sub_put (i := 8) rfl (sub_put (i := 9) rfl (sub_put (i := 10) rfl (sub_nil)))))))))
  refine AWp.seq ?_
  refine AWp.seq ?_
  refine AWp.region ?_
  refine OpsW.pure rfl rfl (pureOp_move rfl) ?_
  refine OpsW.pure rfl rfl (opN_neq (b := 0) rfl rfl) ?_
  refine OpsW.nil ?_
  refine AWp.forget ?_ (sub_put (i := 0) rfl (sub_put (i := 1) rfl (sub_put (i := 2) rfl (sub_put (i := 3) rfl (sub_put (i := 4) rfl (sub_put (i := 8) rfl (sub_put (i := 9) rfl (sub_put (i := 10) rfl (sub_put (i := 25) rfl (sub_nil))))))))))
  refine AWp.condP rfl (fun ht25 => ?_) (fun ht25 => ?_)
  · skip
    refine AWp.seq ?_
    refine AWp.region ?_
    refine OpsW.callA rfl rfl (callOp Try.call20 rfl) permNone (works_c _) ?_
    rintro _ _ ⟨rfl, rfl⟩
    refine OpsW.pure rfl rfl (pureOp_assign rfl) ?_
    refine OpsW.nil ?_
    refine AWp.forget ?_ (sub_put (i := 0) rfl (sub_put (i := 1) rfl (sub_put (i := 2) rfl (sub_put (i := 3) rfl (sub_put (i := 4) rfl (sub_put (i := 8) rfl (sub_put (i := 9) rfl (sub_put (i := 10) rfl (sub_put (i := 25) rfl (sub_nil))))))))))
    refine AWp.ret ?_
    exact ⟨_, [], _, permNone, res_tmp rfl rfl, rfl, rfl⟩
  refine AWp.skip ?_
  refine AWp.seq ?_
  obtain rfl : e = 0 := Decidable.of_not_not ht25
  obtain ⟨hpl, hn0, hn1⟩ := putS_code (a := a) (b := b) (c := c) (d := d) (n := n) (by rw [hx])
  have hS := (put_back hpl hn0 hn1).2
  rw [hx] at hS
  obtain ⟨n, rfl⟩ : ∃ q : Nat, n = q := ⟨n.toNat, by omega⟩
  rw [Int.toNat_natCast] at hS
  have hP := plan64 hpl
  refine AWp.region ?_
  refine OpsW.load rfl rfl (loadAll rfl (by repeat (first | exact List.Mem.head _ | apply List.Mem.tail)) hmx ag24) ?_
  refine OpsW.callA rfl rfl (callOp Try.call16 rfl) permNone (sget_c x _ hlx) ?_
  rintro _ _ ⟨rfl, rfl⟩
  rw [hS.supC, supK_eq.2 hS.good]
  refine OpsW.pure rfl rfl (pureOp_move rfl) ?_
  refine OpsW.pure rfl rfl (pureOp_extract rfl rfl) ?_
  refine OpsW.pure rfl rfl (pureOp_extract rfl rfl) ?_
  refine OpsW.alloc rfl rfl (allocOp_alloc zt29) ?_
  rintro _ _ ⟨b11, rfl, rfl⟩
  refine OpsW.upd rfl rfl (by repeat (first | exact Pos.here | apply Pos.there)) (lop_storeAllN 5 Try.sizeOf29 rfl rfl (by first | rfl | assumption | (rw [List.length_map]; assumption) | (simp [*]; done) | (simp [*]; omega) | omega) (by first | rfl | assumption | (rw [List.length_map]; assumption) | (simp [*]; done) | (simp [*]; omega) | omega) (by first | exact one_map (fun _ => rfl) _ | exact one_rfl rfl | exact one_sup _ | (simp [one, *]; done))) ?_
  rintro _ _ ⟨rfl, rfl⟩
  refine OpsW.pure rfl rfl (pureOp_assign rfl) ?_
  refine OpsW.nil ?_
  refine AWp.forget ?_ (sub_put (i := 0) rfl (sub_put (i := 1) rfl (sub_put (i := 2) rfl (sub_put (i := 3) rfl (sub_put (i := 4) rfl (sub_put (i := 8) rfl (sub_put (i := 9) rfl (sub_put (i := 10) rfl (sub_put (i := 11) rfl (sub_put (i := 12) rfl (sub_put (i := 25) rfl (sub_nil))))))))))))
  refine AWp.seq ?_
  refine AWp.seq ?_
  refine AWp.region ?_
  refine OpsW.pure rfl rfl (pureOp_move rfl) ?_
  refine OpsW.pure rfl rfl (opN_neq (b := 0) rfl rfl) ?_
  refine OpsW.knowB (d := 33) (b := false) (by show some (Value.bool (decide _)) = _; rw [decide_eq_false (fun h => h rfl)]) ?_
  refine OpsW.pure rfl rfl (pureOp_move rfl) ?_
  refine OpsW.pure rfl rfl (pureOp_fieldAddr fa29_0 rfl) ?_
  refine OpsW.load rfl rfl (loadOp_objAgg ag23 rfl (by repeat (first | exact List.Mem.head _ | apply List.Mem.tail)) (Nat.le_of_ble_eq_true rfl)) ?_
  refine OpsW.load rfl rfl (loadAll rfl (by repeat (first | exact List.Mem.head _ | apply List.Mem.tail)) (by first | rfl | assumption | (rw [List.length_map]; assumption) | (simp [*]; done) | (simp [*]; omega) | omega) ag23) ?_
  refine OpsW.pure rfl rfl (planNeq hP hP rfl rfl) ?_
  refine OpsW.knowB (d := 38) (b := false) (by show some (Value.bool (decide _)) = _; rw [decide_eq_false (fun h => h ⟨rfl, rfl, rfl, rfl⟩)]) ?_
  refine OpsW.pure rfl rfl (pureOp_pick_false rfl rfl) ?_
  refine OpsW.pure rfl rfl (pureOp_move rfl) ?_
  refine OpsW.pure rfl rfl (pureOp_fieldAddr fa29_1 rfl) ?_
  refine OpsW.load rfl rfl (loadOp_obj sc3 rfl (by repeat (first | exact List.Mem.head _ | apply List.Mem.tail)) rfl) ?_
  refine OpsW.pure rfl rfl (pureOp_move rfl) ?_
  refine OpsW.pure rfl rfl (opN_neq rfl rfl) ?_
  refine OpsW.knowB (d := 44) (b := false) (by show some (Value.bool (decide _)) = _; rw [decide_eq_false (fun h => h rfl)]) ?_
  refine OpsW.pure rfl rfl (pureOp_pick_false rfl rfl) ?_
  refine OpsW.nil ?_
  refine AWp.forget ?_ (sub_put (i := 0) rfl (sub_put (i := 1) rfl (sub_put (i := 2) rfl (sub_put (i := 3) rfl (sub_put (i := 4) rfl (sub_put (i := 8) rfl (sub_put (i := 9) rfl (sub_put (i := 10) rfl (sub_put (i := 11) rfl (sub_put (i := 12) rfl (sub_put (i := 25) rfl (sub_put (i := 45) rfl (sub_nil)))))))))))))
  refine AWp.cond_false rfl ?_
  refine AWp.skip ?_
  refine AWp.seq ?_
  refine AWp.seq ?_
  refine AWp.region ?_
  refine OpsW.pure rfl rfl (pureOp_move rfl) ?_
  refine OpsW.pure rfl rfl (op32_eql (b := 0) rfl rfl) ?_
  refine OpsW.nil ?_
  refine AWp.forget ?_ (sub_put (i := 0) rfl (sub_put (i := 1) rfl (sub_put (i := 2) rfl (sub_put (i := 3) rfl (sub_put (i := 4) rfl (sub_put (i := 8) rfl (sub_put (i := 9) rfl (sub_put (i := 10) rfl (sub_put (i := 11) rfl (sub_put (i := 12) rfl (sub_put (i := 25) rfl (sub_put (i := 45) rfl (sub_put (i := 47) rfl (sub_nil))))))))))))))
  refine AWp.condP rfl (fun ht47 => ?_) (fun ht47 => ?_)
  · skip
    refine AWp.seq ?_
    refine AWp.region ?_
    refine OpsW.callA rfl rfl (callOp Try.call20 rfl) permNone (works_c _) ?_
    rintro _ _ ⟨rfl, rfl⟩
    refine OpsW.pure rfl rfl (pureOp_assign rfl) ?_
    refine OpsW.nil ?_
    refine AWp.forget ?_ (sub_put (i := 0) rfl (sub_put (i := 1) rfl (sub_put (i := 2) rfl (sub_put (i := 3) rfl (sub_put (i := 4) rfl (sub_put (i := 8) rfl (sub_put (i := 9) rfl (sub_put (i := 10) rfl (sub_put (i := 11) rfl (sub_put (i := 12) rfl (sub_put (i := 25) rfl (sub_put (i := 45) rfl (sub_put (i := 47) rfl (sub_nil))))))))))))))
    refine AWp.ret ?_
    exact ⟨_, [], _, permNone, res_tmp rfl rfl, rfl, rfl⟩
  refine AWp.skip ?_
  refine AWp.seq ?_
  have hmask : mask ≠ 0 := ht47
  refine AWp.region ?_
  refine OpsW.pure rfl rfl (pureOp_move rfl) ?_
  refine OpsW.pure rfl rfl (op_convK_I Try.underlying42 Try.underlying3 rfl (by omega)) ?_
  refine OpsW.pure rfl rfl (opN_rem (b := 2017) rfl rfl (by omega) (by omega)) ?_
  refine OpsW.pure rfl rfl (pureOp_assign rfl) ?_
  refine OpsW.nil ?_
  refine AWp.forget ?_ (sub_put (i := 0) rfl (sub_put (i := 1) rfl (sub_put (i := 2) rfl (sub_put (i := 3) rfl (sub_put (i := 4) rfl (sub_put (i := 8) rfl (sub_put (i := 9) rfl (sub_put (i := 10) rfl (sub_put (i := 11) rfl (sub_put (i := 12) rfl (sub_put (i := 13) rfl (sub_put (i := 25) rfl (sub_put (i := 45) rfl (sub_put (i := 47) rfl (sub_nil)))))))))))))))
  refine AWp.seq ?_
  refine AWp.seq ?_
  refine AWp.region ?_
  refine OpsW.pure rfl rfl (pureOp_assign rfl) ?_
  refine OpsW.nil ?_
  refine AWp.forget ?_ (sub_put (i := 0) rfl (sub_put (i := 1) rfl (sub_put (i := 2) rfl (sub_put (i := 3) rfl (sub_put (i := 4) rfl (sub_put (i := 8) rfl (sub_put (i := 9) rfl (sub_put (i := 10) rfl (sub_put (i := 11) rfl (sub_put (i := 12) rfl (sub_put (i := 13) rfl (sub_put (i := 14) rfl (sub_put (i := 25) rfl (sub_put (i := 45) rfl (sub_put (i := 47) rfl (sub_nil))))))))))))))))
  refine AWp.block ?_
  refine AWp.forget ?_ (sub_put (i := 3) rfl (sub_put (i := 4) rfl (sub_put (i := 9) rfl (sub_put (i := 13) rfl (sub_put (i := 14) rfl (sub_nil))))))
  refine AWp.keep (L' := [.obj b9 _]) (by repeat (first | exact Sel.nil | (apply Sel.cons; (repeat (first | exact Ext.here | apply Ext.there))))) ?_
  refine AWp.loop (fun N m' T' L' => ∃ k : Nat, N = 32 - k ∧ k ≤ 32 ∧ m' = m ∧ T' = put (put (put (put (put (tnil) 14 (iV k)) 13 (iV (at0 % 2017))) 9 (.pointer (some ⟨b9, 0, none⟩))) 4 (.pointer (some ⟨b4, 0, none⟩))) 3 (wV mask) ∧ L' = [.obj b9 ((burstN (at0 % 2017) mask x k).map bV)]) _ (⟨0, rfl, Nat.zero_le _, rfl, rfl, rfl⟩) ?_
  rintro _ m _ _ ⟨k, rfl, hk, rfl, rfl, rfl⟩
  have hbl := burstN_length (at0 % 2017) mask x k
  have hmb : ((burstN (at0 % 2017) mask x k).map bV).length = 256 := by rw [List.length_map, hbl]; exact hlx
  have hmod := Nat.mod_lt at0 (show 0 < 2017 by decide)
  refine AWp.seq ?_
  refine AWp.seq ?_
  refine AWp.region ?_
  refine OpsW.pure rfl rfl (pureOp_move rfl) ?_
  refine OpsW.pure rfl rfl (opN_lss (b := 32) rfl rfl) ?_
  refine OpsW.nil ?_
  refine AWp.forget ?_ (sub_put (i := 3) rfl (sub_put (i := 4) rfl (sub_put (i := 9) rfl (sub_put (i := 13) rfl (sub_put (i := 14) rfl (sub_put (i := 53) rfl (sub_nil)))))))
  refine AWp.condP rfl (fun ht53 => ?_) (fun ht53 => ?_)
  refine AWp.skip ?_
  refine AWp.seq ?_
  refine AWp.joinW (fun m' T' L' => m' = m ∧ T' = put (put (put (put (put (tnil) 14 (iV k)) 13 (iV (at0 % 2017))) 9 (.pointer (some ⟨b9, 0, none⟩))) 4 (.pointer (some ⟨b4, 0, none⟩))) 3 (wV mask) ∧ L' = [.obj b9 ((burstN (at0 % 2017) mask x (k + 1)).map bV)]) ?_ ?_
  · skip
    refine AWp.block ?_
    refine AWp.seq ?_
    refine AWp.region ?_
    refine OpsW.pure rfl rfl (pureOp_move rfl) ?_
    refine OpsW.pure rfl rfl (pureOp_move rfl) ?_
    refine OpsW.pure rfl rfl (op_convI_uint (k := .i64) Try.underlying3 Try.underlying44 rfl (by omega)) ?_
    refine OpsW.pure rfl rfl (op32_shr rfl rfl) ?_
    refine OpsW.pure rfl rfl (op32_and (b := 1) rfl rfl) ?_
    refine OpsW.pure rfl rfl (op32_eql (b := 1) rfl rfl) ?_
    refine OpsW.nil ?_
    refine AWp.forget ?_ (sub_put (i := 3) rfl (sub_put (i := 4) rfl (sub_put (i := 9) rfl (sub_put (i := 13) rfl (sub_put (i := 14) rfl (sub_put (i := 53) rfl (sub_put (i := 61) rfl (sub_nil))))))))
    refine AWp.condP rfl (fun ht61 => ?_) (fun ht61 => ?_)
    · skip
      refine AWp.region ?_
      refine OpsW.pure rfl rfl (pureOp_move rfl) ?_
      refine OpsW.pure rfl rfl (pureOp_move rfl) ?_
      refine OpsW.pure rfl rfl (opN_add rfl rfl (by omega)) ?_
      refine OpsW.pure rfl rfl (opN_quo (b := 8) rfl rfl (by omega) (by omega)) ?_
      refine OpsW.pure rfl rfl (pureOp_move rfl) ?_
      refine OpsW.pure rfl rfl (pureOp_move rfl) ?_
      refine OpsW.pure rfl rfl (opN_add rfl rfl (by omega)) ?_
      refine OpsW.pure rfl rfl (opN_quo (b := 8) rfl rfl (by omega) (by omega)) ?_
      refine OpsW.pure rfl rfl (opN_indexArr0 arr24 rfl rfl (by omega)) ?_
      refine OpsW.load rfl rfl (loadOp_obj (u := bV ((burstN (at0 % 2017) mask x k).getD ((at0 % 2017 + k) / 8) 0)) sc5 rfl (by repeat (first | exact List.Mem.head _ | apply List.Mem.tail)) (get_map (by omega))) ?_
      refine OpsW.pure rfl rfl (pureOp_move rfl) ?_
      refine OpsW.pure rfl rfl (pureOp_move rfl) ?_
      refine OpsW.pure rfl rfl (opN_add rfl rfl (by omega)) ?_
      refine OpsW.pure rfl rfl (opN_rem (b := 8) rfl rfl (by omega) (by omega)) ?_
      refine OpsW.pure rfl rfl (op_convI_uint (k := .i64) Try.underlying3 Try.underlying44 rfl (by omega)) ?_
      refine OpsW.pure rfl rfl (op8_shl (a := 1) rfl rfl) ?_
      refine OpsW.pure rfl rfl (op8_xor rfl rfl) ?_
      refine OpsW.pure rfl rfl (opN_indexArr0 arr24 rfl rfl (by omega)) ?_
      refine OpsW.upd rfl rfl (by repeat (first | exact Pos.here | apply Pos.there)) (lop_store1 Try.sizeOf5 rfl rfl (by first | rfl | assumption | exact one_sl (by assumption)) (by first | rfl | assumption | (rw [List.length_map]; assumption) | (simp [*]; done) | (simp [*]; omega) | omega)) ?_
      rintro _ _ ⟨rfl, rfl⟩
      refine OpsW.nil ?_
      refine ⟨_, [.obj b9 _], _, sub_put (i := 3) rfl (sub_put (i := 4) rfl (sub_put (i := 9) rfl (sub_put (i := 13) rfl (sub_put (i := 14) rfl (sub_nil))))), Sel.perm (by repeat (first | exact Sel.nil | (apply Sel.cons; (repeat (first | exact Ext.here | apply Ext.there))))), ?_⟩
      exact ⟨rfl, rfl, (by first | (rw [burstN, if_neg ht61]; done) | (rw [burstN, if_pos ht61, List.map_set]; done))⟩
    · skip
      refine AWp.skip ?_
      refine ⟨_, [.obj b9 _], _, sub_put (i := 3) rfl (sub_put (i := 4) rfl (sub_put (i := 9) rfl (sub_put (i := 13) rfl (sub_put (i := 14) rfl (sub_nil))))), Sel.perm (by repeat (first | exact Sel.nil | (apply Sel.cons; (repeat (first | exact Ext.here | apply Ext.there))))), ?_⟩
      exact ⟨rfl, rfl, (by first | (rw [burstN, if_neg ht61]; done) | (rw [burstN, if_pos ht61, List.map_set]; done))⟩
  rintro m _ _ ⟨rfl, rfl, rfl⟩
  refine AWp.region ?_
  refine OpsW.pure rfl rfl (pureOp_move rfl) ?_
  refine OpsW.pure rfl rfl (opN_add (b := 1) rfl rfl (by omega)) ?_
  refine OpsW.pure rfl rfl (pureOp_assign rfl) ?_
  refine OpsW.forget ?_ (sub_put (i := 3) rfl (sub_put (i := 4) rfl (sub_put (i := 9) rfl (sub_put (i := 13) rfl (sub_put (i := 14) rfl (sub_nil))))))
  refine OpsW.keep (L' := [.obj b9 _]) (by repeat (first | exact Sel.nil | (apply Sel.cons; (repeat (first | exact Ext.here | apply Ext.there))))) ?_
  refine OpsW.nil ?_
  exact ⟨_, by omega, k + 1, rfl, by omega, rfl, rfl, rfl⟩
  obtain rfl : k = 32 := by omega
  refine AWp.exit (exit_here ?_)
  refine AWp.seq ?_
  refine AWp.region ?_
  refine OpsW.load rfl rfl (loadAll rfl (by repeat (first | exact List.Mem.head _ | apply List.Mem.tail)) (by rw [List.length_map, burstN_length]; exact hlx) ag24) ?_
  refine OpsW.callA rfl rfl (callOp Try.call16 rfl) permNone (sget_c (burstN (at0 % 2017) mask x 32) _ (by rw [burstN_length]; exact hlx)) ?_
  rintro _ _ ⟨rfl, rfl⟩
  have hbad : ¬ goodS (burstN (at0 % 2017) mask x 32) := fun h => by have h2 := burst_bad (n := at0 % 2017) (mask := mask) hS.good.1.1 (by have := Nat.mod_lt at0 (show 0 < 2017 by decide); rw [hlx]; omega) hmask; rw [h.1.1] at h2; cases h2
  rw [supC_bad hbad, show supK (burstN (at0 % 2017) mask x 32) = 5 from if_neg hbad]
  refine OpsW.pure rfl rfl (pureOp_move rfl) ?_
  refine OpsW.pure rfl rfl (pureOp_extract rfl rfl) ?_
  refine OpsW.pure rfl rfl (pureOp_extract rfl rfl) ?_
  refine OpsW.alloc rfl rfl (allocOp_alloc zt29) ?_
  rintro _ _ ⟨b15, rfl, rfl⟩
  refine OpsW.upd rfl rfl (by repeat (first | exact Pos.here | apply Pos.there)) (lop_storeAllN 5 Try.sizeOf29 rfl rfl (by first | rfl | assumption | (rw [List.length_map]; assumption) | (simp [*]; done) | (simp [*]; omega) | omega) (by first | rfl | assumption | (rw [List.length_map]; assumption) | (simp [*]; done) | (simp [*]; omega) | omega) (by first | exact one_map (fun _ => rfl) _ | exact one_rfl rfl | exact one_sup _ | (simp [one, *]; done))) ?_
  rintro _ _ ⟨rfl, rfl⟩
  refine OpsW.pure rfl rfl (pureOp_assign rfl) ?_
  refine OpsW.nil ?_
  refine AWp.forget ?_ (sub_put (i := 3) rfl (sub_put (i := 4) rfl (sub_put (i := 9) rfl (sub_put (i := 13) rfl (sub_put (i := 14) rfl (sub_put (i := 16) rfl (sub_put (i := 53) rfl (sub_nil))))))))
  refine AWp.seq ?_
  refine AWp.region ?_
  refine OpsW.pure rfl rfl (pureOp_move rfl) ?_
  refine OpsW.pure rfl rfl (opN_eql (b := 5) rfl rfl) ?_
  refine OpsW.knowB (d := 86) (b := true) rfl ?_
  refine OpsW.pure rfl rfl (pureOp_move rfl) ?_
  refine OpsW.callA rfl rfl (callOp Try.call20 rfl) permNone (works_c _) ?_
  rintro _ _ ⟨rfl, rfl⟩
  refine OpsW.knowB (d := 88) (b := true) rfl ?_
  refine OpsW.pure rfl rfl (pureOp_pick_true rfl rfl) ?_
  refine OpsW.pure rfl rfl (pureOp_assign rfl) ?_
  refine OpsW.nil ?_
  refine AWp.forget ?_ (sub_put (i := 3) rfl (sub_put (i := 4) rfl (sub_put (i := 8) rfl (sub_put (i := 9) rfl (sub_put (i := 13) rfl (sub_put (i := 14) rfl (sub_put (i := 16) rfl (sub_put (i := 53) rfl (sub_nil)))))))))
  refine AWp.ret ?_
  exact ⟨_, [], _, permNone, res_tmp rfl rfl, rfl, rfl⟩

set_option maxRecDepth 20000 in
set_option maxHeartbeats 4000000 in
theorem bumps_c (a b c d n : Int) (fv kv : Value) (fs : List UInt8) (ks : List Bool) (m : Mem) (hf : Rd m fv 1 (fs.map bV)) (hk : Rd m kv 1 (ks.map Value.bool)) :
    Ctr Try.prog 5 [.agg #[.int .i64 a, .int .i64 b, .int .i64 c, .int .i64 d], .int .i64 n, fv, kv] m [] (fun _ r L => r = .bool true ∧ L = []) := by
  have ho1 := hf.1
  have ho2 := hk.1
  refine Ctr.intro Try.func5 rfl Try.ntmps5 (by simp) fun w0 => ?_
  refine AWp.forget ?_ (sub_put (i := 0) rfl (sub_put (i := 1) rfl (sub_put (i := 2) rfl (sub_put (i := 3) rfl (sub_nil)))))
  refine AWp.seq ?_
  refine AWp.region ?_
  refine OpsW.alloc rfl rfl (allocOp_boxAgg rfl) ?_
  rintro _ _ ⟨b4, rfl, rfl⟩
  refine OpsW.pure rfl rfl (pureOp_assign rfl) ?_
  refine OpsW.nil ?_
  refine AWp.forget ?_ (sub_put (i := 0) rfl (sub_put (i := 1) rfl (sub_put (i := 2) rfl (sub_put (i := 3) rfl (sub_put (i := 4) rfl (sub_put (i := 8) rfl (sub_nil)))))))
  refine AWp.seq ?_
  refine AWp.seq ?_
  refine AWp.joinW (fun m' T' L' => ∃ bb : Bool, (bb = true ↔ 1073741824 < n ∨ 40 < fs.length) ∧ m' = m ∧ T' = put (put (put (put (put (tnil) 26 (.bool bb)) 4 (.pointer (some ⟨b4, 0, none⟩))) 3 (kv)) 2 (fv)) 1 (.int .i64 n) ∧ L' = [.obj b4 [.int .i64 a, .int .i64 b, .int .i64 c, .int .i64 d]]) ?_ ?_
  · skip
    refine AWp.region ?_
    refine OpsW.pure rfl rfl (pureOp_move rfl) ?_
    refine OpsW.pure rfl rfl (pureOp_gtr rfl rfl) ?_
    refine OpsW.splitP (d := 21) rfl (fun h21 => ?_) (fun h21 => ?_)
    · skip
      refine OpsW.pure rfl rfl (pureOp_move rfl) ?_
      refine OpsW.skipG rfl rfl ?_
      refine OpsW.skipG rfl rfl ?_
      refine OpsW.skipG rfl rfl ?_
      refine OpsW.pure rfl rfl (pureOp_pick_true rfl rfl) ?_
      refine OpsW.nil ?_
      refine ⟨_, [.obj b4 _], _, sub_put (i := 1) rfl (sub_put (i := 2) rfl (sub_put (i := 3) rfl (sub_put (i := 4) rfl (sub_put (i := 26) rfl (sub_nil))))), Sel.perm (by repeat (first | exact Sel.nil | (apply Sel.cons; (repeat (first | exact Ext.here | apply Ext.there))))), ?_⟩
      exact ⟨_, (by simp [h21]), rfl, rfl, rfl⟩
    · skip
      refine OpsW.pure rfl rfl (pureOp_move rfl) ?_
      refine OpsW.pure rfl rfl (pureOp_move rfl) ?_
      refine OpsW.pure rfl rfl (opN_len1 fs.length Try.underlying46 rfl (by assumption) (List.length_map ..)) ?_
      refine OpsW.pure rfl rfl (opN_gtr (b := 40) rfl rfl) ?_
      refine OpsW.pure rfl rfl (pureOp_pick_false rfl rfl) ?_
      refine OpsW.nil ?_
      refine ⟨_, [.obj b4 _], _, sub_put (i := 1) rfl (sub_put (i := 2) rfl (sub_put (i := 3) rfl (sub_put (i := 4) rfl (sub_put (i := 26) rfl (sub_nil))))), Sel.perm (by repeat (first | exact Sel.nil | (apply Sel.cons; (repeat (first | exact Ext.here | apply Ext.there))))), ?_⟩
      exact ⟨_, (by simp [h21]), rfl, rfl, rfl⟩
  rintro m _ _ ⟨bb, hbb, rfl, rfl, rfl⟩
  refine AWp.cond rfl (fun ht26 => ?_) (fun ht26 => ?_)
  · skip
    refine AWp.seq ?_
    refine AWp.region ?_
    refine OpsW.callA rfl rfl (callOp Try.call20 rfl) permNone (works_c _) ?_
    rintro _ _ ⟨rfl, rfl⟩
    refine OpsW.pure rfl rfl (pureOp_assign rfl) ?_
    refine OpsW.nil ?_
    refine AWp.forget ?_ (sub_put (i := 1) rfl (sub_put (i := 2) rfl (sub_put (i := 3) rfl (sub_put (i := 4) rfl (sub_put (i := 8) rfl (sub_put (i := 26) rfl (sub_nil)))))))
    refine AWp.ret ?_
    exact ⟨_, [], _, permNone, res_tmp rfl rfl, rfl, rfl⟩
  refine AWp.skip ?_
  refine AWp.seq ?_
  have hlim : ¬ (1073741824 < n ∨ 40 < fs.length) := fun h => by rw [hbb.2 h] at ht26; cases ht26
  refine AWp.region ?_
  refine OpsW.load rfl rfl (loadAll rfl (by repeat (first | exact List.Mem.head _ | apply List.Mem.tail)) (by first | rfl | assumption | (rw [List.length_map]; assumption) | (simp [*]; done) | (simp [*]; omega) | omega) ag23) ?_
  refine OpsW.pure rfl rfl (pureOp_move rfl) ?_
  refine OpsW.pure rfl rfl (opBuildStruct st29 rfl (.cons rfl (by first | rfl | (simp [Value.cells, *]; done)) (by first | exact Nat.le_of_ble_eq_true rfl | (simp [segs_length, *]; done)) (.cons rfl (by first | rfl | (simp [Value.cells, *]; done)) (by first | exact Nat.le_of_ble_eq_true rfl | (simp [segs_length, *]; done)) (.nil)))) ?_
  refine OpsW.callA rfl rfl (callOp Try.call14 rfl) permNone (sput_c a b c d n _) ?_
  rintro _ _ ⟨rfl, rfl⟩
  obtain ⟨x, e, hx⟩ : ∃ x e, putS a b c d n = (x, e) := ⟨_, _, rfl⟩
  have hlx := putS_length a b c d n
  rw [hx] at hlx ⊢
  dsimp only at hlx ⊢
  have hmx : (x.map bV).length = 256 := by rw [List.length_map]; exact hlx
  refine OpsW.pure rfl rfl (pureOp_move rfl) ?_
  refine OpsW.pure rfl rfl (pureOp_extract rfl rfl) ?_
  refine OpsW.pure rfl rfl (pureOp_extract rfl rfl) ?_
  refine OpsW.alloc rfl rfl (allocOp_alloc zt24) ?_
  rintro _ _ ⟨b9, rfl, rfl⟩
  refine OpsW.upd rfl rfl (by repeat (first | exact Pos.here | apply Pos.there)) (lop_storeAllN 256 Try.sizeOf24 rfl rfl List.length_replicate hmx (by first | exact one_map (fun _ => rfl) _ | exact one_rfl rfl | exact one_sup _ | (simp [one, *]; done))) ?_
  rintro _ _ ⟨rfl, rfl⟩
  refine OpsW.pure rfl rfl (pureOp_assign rfl) ?_
  refine OpsW.nil ?_
  refine AWp.forget ?_ (sub_put (i := 1) rfl (sub_put (i := 2) rfl (sub_put (i := 3) rfl (sub_put (i := 4) rfl (sub_put (i := 9) rfl (sub_put (i := 10) rfl (sub_put (i := 26) rfl (sub_nil))))))))
  refine AWp.seq ?_
  refine AWp.region ?_
  refine OpsW.callA rfl rfl (callOp Try.call21 rfl) permNone (dnew_c 9 _ (by decide)) ?_
  rintro _ _ (⟨h1, _⟩ | ⟨_, b1, lv, mb, rfl, hI, rfl⟩)
  · omega
  obtain ⟨wv, hwv⟩ : ∃ wv, wv = Value.slice none 0 0 := ⟨_, rfl⟩
  rw [← hwv] at hI ⊢
  refine OpsW.pure rfl rfl (pureOp_move rfl) ?_
  refine OpsW.pure rfl rfl (pureOp_extract rfl rfl) ?_
  refine OpsW.pure rfl rfl (pureOp_extract rfl rfl) ?_
  refine OpsW.pure rfl rfl (pureOp_assign rfl) ?_
  refine OpsW.pure rfl rfl (pureOp_assign rfl) ?_
  refine OpsW.nil ?_
  refine AWp.forget ?_ (sub_put (i := 1) rfl (sub_put (i := 2) rfl (sub_put (i := 3) rfl (sub_put (i := 4) rfl (sub_put (i := 9) rfl (sub_put (i := 10) rfl (sub_put (i := 11) rfl (sub_put (i := 12) rfl (sub_put (i := 26) rfl (sub_nil))))))))))
  refine AWp.seq ?_
  refine AWp.seq ?_
  refine AWp.region ?_
  refine OpsW.pure rfl rfl (pureOp_move rfl) ?_
  refine OpsW.pure rfl rfl (opN_neq (b := 0) rfl rfl) ?_
  refine OpsW.nil ?_
  refine AWp.forget ?_ (sub_put (i := 1) rfl (sub_put (i := 2) rfl (sub_put (i := 3) rfl (sub_put (i := 4) rfl (sub_put (i := 9) rfl (sub_put (i := 10) rfl (sub_put (i := 11) rfl (sub_put (i := 12) rfl (sub_put (i := 26) rfl (sub_put (i := 40) rfl (sub_nil)))))))))))
  refine AWp.condP rfl (fun ht40 => ?_) (fun ht40 => ?_)
  · skip
    refine AWp.seq ?_
    refine AWp.region ?_
    refine OpsW.callA rfl rfl (callOp Try.call20 rfl) permNone (works_c _) ?_
    rintro _ _ ⟨rfl, rfl⟩
    refine OpsW.pure rfl rfl (pureOp_assign rfl) ?_
    refine OpsW.nil ?_
    refine AWp.forget ?_ (sub_put (i := 1) rfl (sub_put (i := 2) rfl (sub_put (i := 3) rfl (sub_put (i := 4) rfl (sub_put (i := 8) rfl (sub_put (i := 9) rfl (sub_put (i := 10) rfl (sub_put (i := 11) rfl (sub_put (i := 12) rfl (sub_put (i := 26) rfl (sub_put (i := 40) rfl (sub_nil))))))))))))
    refine AWp.ret ?_
    exact ⟨_, [], _, permNone, res_tmp rfl rfl, rfl, rfl⟩
  refine AWp.skip ?_
  refine AWp.seq ?_
  refine AWp.seq ?_
  obtain rfl : e = 0 := Decidable.of_not_not ht40
  obtain ⟨hpl, hn0, hn1⟩ := putS_code (a := a) (b := b) (c := c) (d := d) (n := n) (by rw [hx])
  have hS := (put_back hpl hn0 hn1).2
  rw [hx] at hS
  obtain ⟨n, rfl⟩ : ∃ q : Nat, n = q := ⟨n.toNat, by omega⟩
  rw [Int.toNat_natCast] at hS
  have hP := plan64 hpl
  obtain ⟨D1, D2, hW, ok1, hla, hF, hD2, hlen2⟩ := new_super hS hlx
  obtain ⟨D0, hD0⟩ : ∃ D0, D0 = newF 9 := ⟨_, rfl⟩
  have hfew0 : (newF 9).wait.length < 1000000 := by show 0 < 1000000; decide
  rw [← hD0] at hW hla hfew0 hI ⊢
  have hcl : (secC D0.last).length = 9 * 256 := by rw [secC_length hI.ok.sec, hD0, new_len]
  refine AWp.region ?_
  refine OpsW.pure rfl rfl (pureOp_move rfl) ?_
  refine OpsW.pure rfl rfl (opP_isNil Try.underlying48 rfl) ?_
  refine OpsW.knowB (d := 43) (b := false) rfl ?_
  refine OpsW.pure rfl rfl (pureOp_move rfl) ?_
  refine OpsW.pure rfl rfl (pureOp_move rfl) ?_
  refine OpsW.pure rfl rfl (opN_neq (b := 0) rfl rfl) ?_
  refine OpsW.knowB (d := 46) (b := false) (by show some (Value.bool (decide _)) = _; rw [decide_eq_false (fun h => h rfl)]) ?_
  refine OpsW.pure rfl rfl (pureOp_pick_false rfl rfl) ?_
  refine OpsW.pure rfl rfl (pureOp_move rfl) ?_
  refine OpsW.pure rfl rfl (pureOp_move rfl) ?_
  refine OpsW.load rfl rfl (loadAll rfl (by repeat (first | exact List.Mem.head _ | apply List.Mem.tail)) hmx ag24) ?_
  refine OpsW.callA rfl rfl (callOp Try.call22 rfl) (Sel.perm (L' := [.obj b1 _, .sl lv 256 _, .sl wv 257 _, .mp mb _]) (by repeat (first | exact Sel.nil | (apply Sel.cons; (repeat (first | exact Ext.here | apply Ext.there)))))) (dwrite_c b1 lv wv mb D0 0 x _ hI hlx hfew0) ?_
  rintro _ _ ⟨wv1, rfl, hw1, rfl⟩
  rw [hW] at hw1 ⊢
  dsimp only at hw1 ⊢
  refine OpsW.pure rfl rfl (opN_neq (b := 0) rfl rfl) ?_
  refine OpsW.knowB (d := 52) (b := false) (by show some (Value.bool (decide _)) = _; rw [decide_eq_false (fun h => h rfl)]) ?_
  refine OpsW.pure rfl rfl (pureOp_pick_false rfl rfl) ?_
  refine OpsW.pure rfl rfl (pureOp_move rfl) ?_
  refine OpsW.pure rfl rfl (pureOp_move rfl) ?_
  refine OpsW.callA rfl rfl (callOp Try.call23 rfl) (Sel.perm (L' := [.obj b1 _, .sl lv 256 _, .sl wv1 257 _, .mp mb _]) (by repeat (first | exact Sel.nil | (apply Sel.cons; (repeat (first | exact Ext.here | apply Ext.there)))))) (dflush_c b1 lv wv1 mb D1 _ ⟨by rw [hla]; exact hI.hl, hw1, ok1⟩) ?_
  rintro _ _ ⟨wv2, mb2, rfl, hw2, rfl⟩
  rw [hF] at hw2 ⊢
  dsimp only at hw2 ⊢
  refine OpsW.pure rfl rfl (opN_neq (b := 0) rfl rfl) ?_
  refine OpsW.knowB (d := 57) (b := false) (by show some (Value.bool (decide _)) = _; rw [decide_eq_false (fun h => h rfl)]) ?_
  refine OpsW.pure rfl rfl (pureOp_pick_false rfl rfl) ?_
  refine OpsW.nil ?_
  refine AWp.forget ?_ (sub_put (i := 1) rfl (sub_put (i := 2) rfl (sub_put (i := 3) rfl (sub_put (i := 4) rfl (sub_put (i := 9) rfl (sub_put (i := 10) rfl (sub_put (i := 11) rfl (sub_put (i := 12) rfl (sub_put (i := 26) rfl (sub_put (i := 40) rfl (sub_put (i := 58) rfl (sub_nil))))))))))))
  refine AWp.cond_false rfl ?_
  refine AWp.skip ?_
  refine AWp.seq ?_
  refine AWp.region ?_
  refine OpsW.pure rfl rfl (pureOp_move rfl) ?_
  refine OpsW.pure rfl rfl (pureOp_assign rfl) ?_
  refine OpsW.nil ?_
  refine AWp.forget ?_ (sub_put (i := 1) rfl (sub_put (i := 2) rfl (sub_put (i := 3) rfl (sub_put (i := 4) rfl (sub_put (i := 9) rfl (sub_put (i := 10) rfl (sub_put (i := 11) rfl (sub_put (i := 12) rfl (sub_put (i := 13) rfl (sub_put (i := 26) rfl (sub_put (i := 40) rfl (sub_put (i := 58) rfl (sub_nil)))))))))))))
  refine AWp.seq ?_
  refine AWp.seq ?_
  refine AWp.region ?_
  refine OpsW.pure rfl rfl (pureOp_assign rfl) ?_
  refine OpsW.nil ?_
  refine AWp.forget ?_ (sub_put (i := 1) rfl (sub_put (i := 2) rfl (sub_put (i := 3) rfl (sub_put (i := 4) rfl (sub_put (i := 9) rfl (sub_put (i := 10) rfl (sub_put (i := 11) rfl (sub_put (i := 12) rfl (sub_put (i := 13) rfl (sub_put (i := 14) rfl (sub_put (i := 26) rfl (sub_put (i := 40) rfl (sub_put (i := 58) rfl (sub_nil))))))))))))))
  refine AWp.block ?_
  refine AWp.forget ?_ (sub_put (i := 2) rfl (sub_put (i := 3) rfl (sub_put (i := 4) rfl (sub_put (i := 11) rfl (sub_put (i := 13) rfl (sub_put (i := 14) rfl (sub_nil)))))))
  refine AWp.keep (L' := [.obj b1 _, .sl lv 256 _, .sl wv2 257 _, .mp mb2 _, .obj b4 _]) (by repeat (first | exact Sel.nil | (apply Sel.cons; (repeat (first | exact Ext.here | apply Ext.there))))) ?_
  refine AWp.loop (fun N m' T' L' => ∃ (k now : Nat) (D : Dk) (wv : Value) (mb : Nat), N = fs.length - k ∧ k ≤ fs.length ∧ IsD D a b c d now ∧ now ≤ n + k ∧ slOk wv 257 (wrC D.wait) ∧ D.last.length = 9 ∧ m' = m ∧ T' = put (put (put (put (put (put (tnil) 14 (iV k)) 13 (iV now)) 11 (.pointer (some ⟨b1, 0, none⟩))) 4 (.pointer (some ⟨b4, 0, none⟩))) 3 (kv)) 2 (fv) ∧ L' = [.obj b1 [lv, wv, .map (some mb), .int .i64 D.steps, .int .i64 D.fuse, .bool D.down], .sl lv 256 (secC D.last), .sl wv 257 (wrC D.wait), .mp mb (mapC (nowL D.wait)), .obj b4 [.int .i64 a, .int .i64 b, .int .i64 c, .int .i64 d]]) _ (⟨0, n, D2, wv2, mb2, rfl, Nat.zero_le _, hD2, Nat.le_refl _, hw2, hlen2, rfl, rfl, rfl⟩) ?_
  rintro _ m _ _ ⟨k, now, D, wv, mb, rfl, hk1, hD, hnow, hwD, hlD, rfl, rfl, rfl⟩
  have hlvD : slOk lv 256 (secC D.last) := slOk_same hI.hl (by rw [hcl, secC_length hD.ok.sec, hlD])
  have hI1 : DkI D lv wv := ⟨hlvD, hwD, hD.ok⟩
  refine AWp.seq ?_
  refine AWp.seq ?_
  refine AWp.region ?_
  refine OpsW.pure rfl rfl (pureOp_move rfl) ?_
  refine OpsW.pure rfl rfl (pureOp_move rfl) ?_
  refine OpsW.pure rfl rfl (opN_len1 fs.length Try.underlying46 rfl (by assumption) (List.length_map ..)) ?_
  refine OpsW.pure rfl rfl (opN_lss rfl rfl) ?_
  refine OpsW.nil ?_
  refine AWp.forget ?_ (sub_put (i := 2) rfl (sub_put (i := 3) rfl (sub_put (i := 4) rfl (sub_put (i := 11) rfl (sub_put (i := 13) rfl (sub_put (i := 14) rfl (sub_put (i := 63) rfl (sub_nil))))))))
  refine AWp.condP rfl (fun ht63 => ?_) (fun ht63 => ?_)
  refine AWp.skip ?_
  refine AWp.seq ?_
  refine AWp.block ?_
  refine AWp.seq ?_
  have hbyte := (fs.getD k 0).toNat_lt
  refine AWp.region ?_
  refine OpsW.pure rfl rfl (pureOp_move rfl) ?_
  refine OpsW.pure rfl rfl (pureOp_move rfl) ?_
  refine OpsW.pure rfl rfl (pureOp_move rfl) ?_
  refine OpsW.pure rfl rfl (opN_indexSl1 Try.underlying46 Try.sizeOf5 rfl (by assumption) rfl (by simp; omega)) ?_
  refine OpsW.load rfl rfl (loadOp_elem (u := bV (fs.getD k 0)) sc5 rfl (by first | exact Rd.ro (by assumption) | exact Rd.of_sl (by repeat (first | exact List.Mem.head _ | apply List.Mem.tail)) (by assumption)) (get_map (by omega))) ?_
  refine OpsW.pure rfl rfl (op_conv8_I Try.underlying5 Try.underlying3 rfl) ?_
  refine OpsW.pure rfl rfl (opN_rem (b := 4) rfl rfl (by omega) (by omega)) ?_
  refine OpsW.callA rfl rfl (callOp Try.call24 rfl) (Sel.perm (L' := [.obj b1 _, .sl lv 256 _, .sl wv 257 _, .mp mb _]) (by repeat (first | exact Sel.nil | (apply Sel.cons; (repeat (first | exact Ext.here | apply Ext.there)))))) (dfuse_c b1 lv wv mb D (((fs.getD k 0).toNat % 4 : Nat) : Int) _) ?_
  rintro _ _ ⟨rfl, rfl⟩
  obtain ⟨f, hf4⟩ : ∃ f : Nat, f = (fs.getD k 0).toNat % 4 := ⟨_, rfl⟩
  have hflt : f < 4 := by rw [hf4]; exact Nat.mod_lt _ (by decide)
  rw [← hf4]
  have okE : (fuseF D (f : Int)).Ok := ⟨hD.ok.sec, hD.ok.len, hD.ok.wait, hD.ok.few, by show max (f : Int) (-1) ≤ 1000000; omega⟩
  have hfewE : (fuseF D (f : Int)).wait.length < 1000000 := by show D.wait.length < 1000000; rw [hD.wait]; decide
  have hbc := fun kf => bump_crash hD (by omega) (f : Int) okE kf
  obtain ⟨E, hE⟩ : ∃ E, E = fuseF D (f : Int) := ⟨_, rfl⟩
  have hEl : E.last = D.last := by rw [hE]; rfl
  have hEw : E.wait = D.wait := by rw [hE]; rfl
  rw [← hE] at okE hfewE hbc ⊢
  clear hE
  refine OpsW.nil ?_
  refine AWp.forget ?_ (sub_put (i := 2) rfl (sub_put (i := 3) rfl (sub_put (i := 4) rfl (sub_put (i := 11) rfl (sub_put (i := 13) rfl (sub_put (i := 14) rfl (sub_put (i := 63) rfl (sub_nil))))))))
  refine AWp.seq ?_
  refine AWp.region ?_
  refine OpsW.pure rfl rfl (pureOp_move rfl) ?_
  refine OpsW.callA rfl rfl (callOp Try.call25 rfl) (Sel.perm (L' := [.obj b1 _, .sl lv 256 _, .sl wv 257 _, .mp mb _]) (by repeat (first | exact Sel.nil | (apply Sel.cons; (repeat (first | exact Ext.here | apply Ext.there)))))) (sbump_c b1 lv wv mb E _ ⟨by rw [hEl]; exact hlvD, by rw [hEw]; exact hwD, okE⟩ hfewE) ?_
  rintro _ _ ⟨wv3, mb3, rfl, hw3, rfl⟩
  have okB := bumpF_ok okE hfewE
  have hlB := bumpF_len E
  obtain ⟨p1, q1, r1, s1, n1, hcells⟩ := bumpF_form E
  obtain ⟨B, cs1, g, hB⟩ : ∃ B cs1 g, bumpF E = (B, cs1, g) := ⟨_, _, _, rfl⟩
  rw [hB] at hw3 okB hlB hbc hcells ⊢
  dsimp only at hw3 okB hlB hbc hcells ⊢
  subst hcells
  have hI3 : DkI B lv wv3 := ⟨slOk_same hI.hl (by rw [hcl, secC_length okB.sec, hlB, hEl, hlD]), hw3, okB⟩
  refine OpsW.pure rfl rfl (pureOp_move rfl) ?_
  refine OpsW.pure rfl rfl (pureOp_extract rfl rfl) ?_
  refine OpsW.pure rfl rfl (pureOp_extract rfl rfl) ?_
  refine OpsW.alloc rfl rfl (allocOp_alloc zt29) ?_
  rintro _ _ ⟨b15, rfl, rfl⟩
  refine OpsW.upd rfl rfl (by repeat (first | exact Pos.here | apply Pos.there)) (lop_storeAllN 5 Try.sizeOf29 rfl rfl (by first | rfl | assumption | (rw [List.length_map]; assumption) | (simp [*]; done) | (simp [*]; omega) | omega) (by first | rfl | assumption | (rw [List.length_map]; assumption) | (simp [*]; done) | (simp [*]; omega) | omega) (by first | exact one_map (fun _ => rfl) _ | exact one_rfl rfl | exact one_sup _ | (simp [one, *]; done))) ?_
  rintro _ _ ⟨rfl, rfl⟩
  refine OpsW.pure rfl rfl (pureOp_assign rfl) ?_
  refine OpsW.nil ?_
  refine AWp.forget ?_ (sub_put (i := 2) rfl (sub_put (i := 3) rfl (sub_put (i := 4) rfl (sub_put (i := 11) rfl (sub_put (i := 13) rfl (sub_put (i := 14) rfl (sub_put (i := 16) rfl (sub_put (i := 63) rfl (sub_nil)))))))))
  refine AWp.seq ?_
  refine AWp.joinW (fun m' T' L' => ∃ (now4 : Nat) (D4 : Dk) (wv4 : Value) (mb4 : Nat), IsD D4 a b c d now4 ∧ (now4 = now ∧ g ≠ 0 ∨ now4 = now + 1) ∧ slOk wv4 257 (wrC D4.wait) ∧ D4.last.length = 9 ∧ m' = m ∧ T' = put (put (put (put (put (put (put (tnil) 16 (iV g)) 14 (iV k)) 13 (iV now)) 11 (.pointer (some ⟨b1, 0, none⟩))) 4 (.pointer (some ⟨b4, 0, none⟩))) 3 (kv)) 2 (fv) ∧ L' = [.obj b1 [lv, wv4, .map (some mb4), .int .i64 D4.steps, .int .i64 D4.fuse, .bool D4.down], .sl lv 256 (secC D4.last), .sl wv4 257 (wrC D4.wait), .mp mb4 (mapC (nowL D4.wait)), .obj b4 [.int .i64 a, .int .i64 b, .int .i64 c, .int .i64 d]]) ?_ ?_
  · skip
    refine AWp.region ?_
    refine OpsW.pure rfl rfl (pureOp_move rfl) ?_
    refine OpsW.pure rfl rfl (pureOp_move rfl) ?_
    refine OpsW.pure rfl rfl (pureOp_move rfl) ?_
    refine OpsW.pure rfl rfl (opN_len1 ks.length Try.underlying47 rfl (by assumption) (List.length_map ..)) ?_
    refine OpsW.pure rfl rfl (opN_lss rfl rfl) ?_
    refine OpsW.splitP (d := 83) rfl (fun h83 => ?_) (fun h83 => ?_)
    · skip
      refine OpsW.pure rfl rfl (pureOp_move rfl) ?_
      refine OpsW.pure rfl rfl (pureOp_move rfl) ?_
      refine OpsW.pure rfl rfl (pureOp_move rfl) ?_
      refine OpsW.pure rfl rfl (opN_indexSl1 Try.underlying47 Try.sizeOf4 rfl (by assumption) rfl (by simp; omega)) ?_
      refine OpsW.load rfl rfl (loadOp_elem (u := .bool (ks.getD k false)) sc4 rfl (by first | exact Rd.ro (by assumption) | exact Rd.of_sl (by repeat (first | exact List.Mem.head _ | apply List.Mem.tail)) (by assumption)) (get_map (f := Value.bool) (by omega))) ?_
      refine OpsW.pure rfl rfl (pureOp_pick_true rfl rfl) ?_
      refine OpsW.alloc rfl rfl (allocOp_buildSlice slt47 rfl rfl (by first | exact cells_rfl rfl | simp [Value.cells]) (by decide)) ?_
      rintro v90 _ ⟨hv90, hn90, rfl⟩
      refine OpsW.callA rfl rfl (callOp Try.call26 rfl) (Sel.perm (L' := [.obj b1 _, .sl lv 256 _, .sl wv3 257 _, .mp mb3 _]) (by repeat (first | exact Sel.nil | (apply Sel.cons; (repeat (first | exact Ext.here | apply Ext.there)))))) (dcrash_c b1 lv wv3 mb3 B v90 [_] _ hI3 (Rd.of_sl (by repeat (first | exact List.Mem.head _ | apply List.Mem.tail)) hv90)) ?_
      rintro _ _ ⟨mb4, c4, rfl, rfl⟩
      generalize keepF [_] = kf
      refine OpsW.nil ?_
      have hl5 : (crashF B kf).last.length = 9 := by rw [crashF_len, hlB, hEl, hlD]
      obtain ⟨now4, hD4, hor⟩ : ∃ q : Nat, IsD (crashF B kf) a b c d q ∧ (q = now ∧ g ≠ 0 ∨ q = now + 1) := by
        rcases hbc kf with ⟨h1, h2⟩ | h1
        · exact ⟨now, h1, .inl ⟨rfl, h2⟩⟩
        · exact ⟨now + 1, h1, .inr rfl⟩
      refine ⟨_, [.obj b1 _, .sl lv 256 _, .sl (.slice none 0 0) 257 _, .mp mb4 _, .obj b4 _], _, sub_put (i := 2) rfl (sub_put (i := 3) rfl (sub_put (i := 4) rfl (sub_put (i := 11) rfl (sub_put (i := 13) rfl (sub_put (i := 14) rfl (sub_put (i := 16) rfl (sub_nil))))))), Sel.perm (by repeat (first | exact Sel.nil | (apply Sel.cons; (repeat (first | exact Ext.here | apply Ext.there))))), ?_⟩
      exact ⟨now4, crashF B kf, .slice none 0 0, mb4, hD4, hor, .inl ⟨rfl, rfl⟩, hl5, rfl, rfl, rfl⟩
    · skip
      refine OpsW.pure rfl rfl (pureOp_move rfl) ?_
      refine OpsW.skipG rfl rfl ?_
      refine OpsW.skipG rfl rfl ?_
      refine OpsW.skipG rfl rfl ?_
      refine OpsW.skipG rfl rfl ?_
      refine OpsW.pure rfl rfl (pureOp_pick_false rfl rfl) ?_
      refine OpsW.alloc rfl rfl (allocOp_buildSlice slt47 rfl rfl (by first | exact cells_rfl rfl | simp [Value.cells]) (by decide)) ?_
      rintro v90 _ ⟨hv90, hn90, rfl⟩
      refine OpsW.callA rfl rfl (callOp Try.call26 rfl) (Sel.perm (L' := [.obj b1 _, .sl lv 256 _, .sl wv3 257 _, .mp mb3 _]) (by repeat (first | exact Sel.nil | (apply Sel.cons; (repeat (first | exact Ext.here | apply Ext.there)))))) (dcrash_c b1 lv wv3 mb3 B v90 [_] _ hI3 (Rd.of_sl (by repeat (first | exact List.Mem.head _ | apply List.Mem.tail)) hv90)) ?_
      rintro _ _ ⟨mb4, c4, rfl, rfl⟩
      generalize keepF [_] = kf
      refine OpsW.nil ?_
      have hl5 : (crashF B kf).last.length = 9 := by rw [crashF_len, hlB, hEl, hlD]
      obtain ⟨now4, hD4, hor⟩ : ∃ q : Nat, IsD (crashF B kf) a b c d q ∧ (q = now ∧ g ≠ 0 ∨ q = now + 1) := by
        rcases hbc kf with ⟨h1, h2⟩ | h1
        · exact ⟨now, h1, .inl ⟨rfl, h2⟩⟩
        · exact ⟨now + 1, h1, .inr rfl⟩
      refine ⟨_, [.obj b1 _, .sl lv 256 _, .sl (.slice none 0 0) 257 _, .mp mb4 _, .obj b4 _], _, sub_put (i := 2) rfl (sub_put (i := 3) rfl (sub_put (i := 4) rfl (sub_put (i := 11) rfl (sub_put (i := 13) rfl (sub_put (i := 14) rfl (sub_put (i := 16) rfl (sub_nil))))))), Sel.perm (by repeat (first | exact Sel.nil | (apply Sel.cons; (repeat (first | exact Ext.here | apply Ext.there))))), ?_⟩
      exact ⟨now4, crashF B kf, .slice none 0 0, mb4, hD4, hor, .inl ⟨rfl, rfl⟩, hl5, rfl, rfl, rfl⟩
  rintro m _ _ ⟨now4, D4, wv4, mb4, hD4, hor, hw4, hl4, rfl, rfl, rfl⟩
  refine AWp.seq ?_
  refine AWp.region ?_
  refine OpsW.pure rfl rfl (pureOp_move rfl) ?_
  refine OpsW.callA rfl rfl (callOp Try.call27 rfl) (Sel.perm (L' := [.obj b1 _, .sl lv 256 _, .sl wv4 257 _, .mp mb4 _]) (by repeat (first | exact Sel.nil | (apply Sel.cons; (repeat (first | exact Ext.here | apply Ext.there)))))) (sread_c b1 lv wv4 mb4 D4 _ ⟨slOk_same hI.hl (by rw [hcl, secC_length hD4.ok.sec, hl4]), hw4, hD4.ok⟩) ?_
  rintro _ _ ⟨rfl, rfl⟩
  rw [hD4.code, hD4.is.supC]
  refine OpsW.pure rfl rfl (pureOp_move rfl) ?_
  refine OpsW.pure rfl rfl (pureOp_extract rfl rfl) ?_
  refine OpsW.pure rfl rfl (pureOp_extract rfl rfl) ?_
  refine OpsW.pure rfl rfl (pureOp_extract rfl rfl) ?_
  refine OpsW.alloc rfl rfl (allocOp_alloc zt29) ?_
  rintro _ _ ⟨b17, rfl, rfl⟩
  refine OpsW.upd rfl rfl (by repeat (first | exact Pos.here | apply Pos.there)) (lop_storeAllN 5 Try.sizeOf29 rfl rfl (by first | rfl | assumption | (rw [List.length_map]; assumption) | (simp [*]; done) | (simp [*]; omega) | omega) (by first | rfl | assumption | (rw [List.length_map]; assumption) | (simp [*]; done) | (simp [*]; omega) | omega) (by first | exact one_map (fun _ => rfl) _ | exact one_rfl rfl | exact one_sup _ | (simp [one, *]; done))) ?_
  rintro _ _ ⟨rfl, rfl⟩
  refine OpsW.pure rfl rfl (pureOp_assign rfl) ?_
  refine OpsW.pure rfl rfl (pureOp_assign rfl) ?_
  refine OpsW.nil ?_
  refine AWp.forget ?_ (sub_put (i := 2) rfl (sub_put (i := 3) rfl (sub_put (i := 4) rfl (sub_put (i := 11) rfl (sub_put (i := 13) rfl (sub_put (i := 14) rfl (sub_put (i := 16) rfl (sub_put (i := 17) rfl (sub_put (i := 19) rfl (sub_nil))))))))))
  refine AWp.seq ?_
  refine AWp.seq ?_
  refine AWp.joinW (fun m' T' L' => m' = m ∧ T' = put (put (put (put (put (put (put (put (tnil) 129 (.bool false)) 17 (.pointer (some ⟨b17, 0, none⟩))) 14 (iV k)) 13 (iV now)) 11 (.pointer (some ⟨b1, 0, none⟩))) 4 (.pointer (some ⟨b4, 0, none⟩))) 3 (kv)) 2 (fv) ∧ L' = [.obj b1 [lv, wv4, .map (some mb4), .int .i64 D4.steps, .int .i64 D4.fuse, .bool D4.down], .sl lv 256 (secC D4.last), .sl wv4 257 (wrC D4.wait), .mp mb4 (mapC (nowL D4.wait)), .obj b4 [.int .i64 a, .int .i64 b, .int .i64 c, .int .i64 d], .obj b17 [.int .i64 a, .int .i64 b, .int .i64 c, .int .i64 d, iV now4]]) ?_ ?_
  · skip
    refine AWp.region ?_
    refine OpsW.pure rfl rfl (pureOp_move rfl) ?_
    refine OpsW.pure rfl rfl (opN_neq (b := 0) rfl rfl) ?_
    refine OpsW.knowB (d := 99) (b := false) (by show some (Value.bool (decide _)) = _; rw [decide_eq_false (fun h => h rfl)]) ?_
    refine OpsW.pure rfl rfl (pureOp_move rfl) ?_
    refine OpsW.pure rfl rfl (pureOp_fieldAddr fa29_0 rfl) ?_
    refine OpsW.load rfl rfl (loadOp_objAgg ag23 rfl (by repeat (first | exact List.Mem.head _ | apply List.Mem.tail)) (Nat.le_of_ble_eq_true rfl)) ?_
    refine OpsW.load rfl rfl (loadAll rfl (by repeat (first | exact List.Mem.head _ | apply List.Mem.tail)) (by first | rfl | assumption | (rw [List.length_map]; assumption) | (simp [*]; done) | (simp [*]; omega) | omega) ag23) ?_
    refine OpsW.pure rfl rfl (planNeq hP hP rfl rfl) ?_
    refine OpsW.knowB (d := 104) (b := false) (by show some (Value.bool (decide _)) = _; rw [decide_eq_false (fun h => h ⟨rfl, rfl, rfl, rfl⟩)]) ?_
    refine OpsW.pure rfl rfl (pureOp_pick_false rfl rfl) ?_
    refine OpsW.pure rfl rfl (pureOp_move rfl) ?_
    refine OpsW.pure rfl rfl (pureOp_fieldAddr fa29_1 rfl) ?_
    refine OpsW.load rfl rfl (loadOp_obj sc3 rfl (by repeat (first | exact List.Mem.head _ | apply List.Mem.tail)) rfl) ?_
    refine OpsW.pure rfl rfl (pureOp_move rfl) ?_
    refine OpsW.pure rfl rfl (opN_lss rfl rfl) ?_
    refine OpsW.knowB (d := 110) (b := false) (by show some (Value.bool (decide _)) = _; rw [decide_eq_false (by omega)]) ?_
    refine OpsW.pure rfl rfl (pureOp_pick_false rfl rfl) ?_
    refine OpsW.pure rfl rfl (pureOp_move rfl) ?_
    refine OpsW.pure rfl rfl (pureOp_fieldAddr fa29_1 rfl) ?_
    refine OpsW.load rfl rfl (loadOp_obj sc3 rfl (by repeat (first | exact List.Mem.head _ | apply List.Mem.tail)) rfl) ?_
    refine OpsW.pure rfl rfl (pureOp_move rfl) ?_
    refine OpsW.pure rfl rfl (opN_add (b := 1) rfl rfl (by omega)) ?_
    refine OpsW.pure rfl rfl (opN_gtr rfl rfl) ?_
    refine OpsW.knowB (d := 117) (b := false) (by show some (Value.bool (decide _)) = _; rw [decide_eq_false (by omega)]) ?_
    refine OpsW.pure rfl rfl (pureOp_pick_false rfl rfl) ?_
    refine OpsW.pure rfl rfl (pureOp_move rfl) ?_
    refine OpsW.pure rfl rfl (pureOp_move rfl) ?_
    refine OpsW.pure rfl rfl (opN_eql (b := 0) rfl rfl) ?_
    refine OpsW.splitP (d := 121) rfl (fun h121 => ?_) (fun h121 => ?_)
    · skip
      refine OpsW.pure rfl rfl (pureOp_move rfl) ?_
      refine OpsW.pure rfl rfl (pureOp_fieldAddr fa29_1 rfl) ?_
      refine OpsW.load rfl rfl (loadOp_obj sc3 rfl (by repeat (first | exact List.Mem.head _ | apply List.Mem.tail)) rfl) ?_
      refine OpsW.pure rfl rfl (pureOp_move rfl) ?_
      refine OpsW.pure rfl rfl (opN_add (b := 1) rfl rfl (by omega)) ?_
      refine OpsW.pure rfl rfl (opN_neq rfl rfl) ?_
      refine OpsW.knowB (d := 127) (b := false) (by show some (Value.bool (decide _)) = _; rw [decide_eq_false (by omega)]) ?_
      refine OpsW.pure rfl rfl (pureOp_pick_true rfl rfl) ?_
      refine OpsW.pure rfl rfl (pureOp_pick_false rfl rfl) ?_
      refine OpsW.nil ?_
      refine ⟨_, [.obj b1 _, .sl lv 256 _, .sl wv4 257 _, .mp mb4 (mapC (nowL D4.wait)), .obj b4 _, .obj b17 _], _, sub_put (i := 2) rfl (sub_put (i := 3) rfl (sub_put (i := 4) rfl (sub_put (i := 11) rfl (sub_put (i := 13) rfl (sub_put (i := 14) rfl (sub_put (i := 17) rfl (sub_put (i := 129) rfl (sub_nil)))))))), Sel.perm (by repeat (first | exact Sel.nil | (apply Sel.cons; (repeat (first | exact Ext.here | apply Ext.there))))), ?_⟩
      exact ⟨rfl, rfl, rfl⟩
    · skip
      refine OpsW.pure rfl rfl (pureOp_move rfl) ?_
      refine OpsW.skipG rfl rfl ?_
      refine OpsW.skipG rfl rfl ?_
      refine OpsW.skipG rfl rfl ?_
      refine OpsW.skipG rfl rfl ?_
      refine OpsW.skipG rfl rfl ?_
      refine OpsW.pure rfl rfl (pureOp_pick_false rfl rfl) ?_
      refine OpsW.pure rfl rfl (pureOp_pick_false rfl rfl) ?_
      refine OpsW.nil ?_
      refine ⟨_, [.obj b1 _, .sl lv 256 _, .sl wv4 257 _, .mp mb4 (mapC (nowL D4.wait)), .obj b4 _, .obj b17 _], _, sub_put (i := 2) rfl (sub_put (i := 3) rfl (sub_put (i := 4) rfl (sub_put (i := 11) rfl (sub_put (i := 13) rfl (sub_put (i := 14) rfl (sub_put (i := 17) rfl (sub_put (i := 129) rfl (sub_nil)))))))), Sel.perm (by repeat (first | exact Sel.nil | (apply Sel.cons; (repeat (first | exact Ext.here | apply Ext.there))))), ?_⟩
      exact ⟨rfl, rfl, rfl⟩
  rintro m _ _ ⟨rfl, rfl, rfl⟩
  refine AWp.cond_false rfl ?_
  refine AWp.skip ?_
  refine AWp.region ?_
  refine OpsW.pure rfl rfl (pureOp_fieldAddr fa29_1 rfl) ?_
  refine OpsW.load rfl rfl (loadOp_obj sc3 rfl (by repeat (first | exact List.Mem.head _ | apply List.Mem.tail)) rfl) ?_
  refine OpsW.pure rfl rfl (pureOp_assign rfl) ?_
  refine OpsW.nil ?_
  refine AWp.forget ?_ (sub_put (i := 2) rfl (sub_put (i := 3) rfl (sub_put (i := 4) rfl (sub_put (i := 11) rfl (sub_put (i := 13) rfl (sub_put (i := 14) rfl (sub_put (i := 17) rfl (sub_put (i := 129) rfl (sub_nil)))))))))
  refine AWp.region ?_
  refine OpsW.pure rfl rfl (pureOp_move rfl) ?_
  refine OpsW.pure rfl rfl (opN_add (b := 1) rfl rfl (by omega)) ?_
  refine OpsW.pure rfl rfl (pureOp_assign rfl) ?_
  refine OpsW.forget ?_ (sub_put (i := 2) rfl (sub_put (i := 3) rfl (sub_put (i := 4) rfl (sub_put (i := 11) rfl (sub_put (i := 13) rfl (sub_put (i := 14) rfl (sub_nil)))))))
  refine OpsW.keep (L' := [.obj b1 _, .sl lv 256 _, .sl wv4 257 _, .mp mb4 _, .obj b4 _]) (by repeat (first | exact Sel.nil | (apply Sel.cons; (repeat (first | exact Ext.here | apply Ext.there))))) ?_
  refine OpsW.nil ?_
  exact ⟨_, by omega, k + 1, now4, D4, wv4, mb4, rfl, by omega, hD4, by omega, hw4, hl4, rfl, rfl, rfl⟩
  refine AWp.exit (exit_here ?_)
  refine AWp.seq ?_
  refine AWp.region ?_
  refine OpsW.callA rfl rfl (callOp Try.call20 rfl) permNone (works_c _) ?_
  rintro _ _ ⟨rfl, rfl⟩
  refine OpsW.pure rfl rfl (pureOp_assign rfl) ?_
  refine OpsW.nil ?_
  refine AWp.forget ?_ (sub_put (i := 2) rfl (sub_put (i := 3) rfl (sub_put (i := 4) rfl (sub_put (i := 8) rfl (sub_put (i := 11) rfl (sub_put (i := 13) rfl (sub_put (i := 14) rfl (sub_put (i := 63) rfl (sub_nil)))))))))
  refine AWp.ret ?_
  exact ⟨_, [], _, permNone, res_tmp rfl rfl, rfl, rfl⟩

end Go.Proofs.Ytpnipajadjeifaa.Sep
