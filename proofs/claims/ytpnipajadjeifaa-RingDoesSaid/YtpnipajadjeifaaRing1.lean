/- The walks of ring.Put, Get and of the reference 36 for these. -/
import Derived.Test.YtpnipajadjeifaaSuper1
import Derived.Test.YtpnipajadjeifaaRingA
import Derived.Test.YtpnipajadjeifaaProg
namespace Go.Proofs.Ytpnipajadjeifaa.Sep
open Go Go.RowKit
set_option linter.unusedVariables false
set_option linter.unusedSimpArgs false



set_option maxRecDepth 20000 in
set_option maxHeartbeats 4000000 in
theorem rput_c (n : Int) (bv : Value) (b : List UInt8) (m : Mem) (hb : Rd m bv 1 (b.map bV)) (hbl : b.length ≤ 1099511627776) :
    Ctr Try.prog 29 [.int .i64 n, bv] m [] (fun _ r L => r = .tuple #[.agg ((putR n b).1.map bV).toArray, iV (putR n b).2] ∧ L = []) := by
  have ho := hb.1
  refine Ctr.intro Try.func29 rfl Try.ntmps29 (by simp) fun w0 => ?_
  refine AWp.forget ?_ (sub_put (i := 0) rfl (sub_put (i := 1) rfl (sub_nil)))
  refine AWp.seq ?_
  refine AWp.region ?_
  refine OpsW.alloc rfl rfl (allocOp_alloc zt24) ?_
  rintro _ _ ⟨b4, rfl, rfl⟩
  refine OpsW.pure rfl rfl (pureOp_assign rfl) ?_
  refine OpsW.nil ?_
  refine AWp.forget ?_ (sub_put (i := 0) rfl (sub_put (i := 1) rfl (sub_put (i := 4) rfl (sub_put (i := 5) rfl (sub_nil)))))
  refine AWp.seq ?_
  refine AWp.block ?_
  refine AWp.seq ?_
  refine AWp.joinW (fun m' T' L' => ∃ bb : Bool, (bb = true ↔ (n < 0 ∨ 1099511627776 < n)) ∧ m' = m ∧ T' = put (put (put (put (tnil) 8 (.bool bb)) 4 (.pointer (some ⟨b4, 0, none⟩))) 1 (bv)) 0 (.int .i64 n) ∧ L' = [.obj b4 (List.replicate 256 (.int .u8 0))]) ?_ ?_
  · skip
    refine AWp.region ?_
    refine OpsW.pure rfl rfl (pureOp_move rfl) ?_
    refine OpsW.pure rfl rfl (pureOp_lss rfl rfl) ?_
    refine OpsW.splitP (d := 10) rfl (fun h10 => ?_) (fun h10 => ?_)
    · skip
      refine OpsW.pure rfl rfl (pureOp_move rfl) ?_
      refine OpsW.skipG rfl rfl ?_
      refine OpsW.skipG rfl rfl ?_
      refine OpsW.pure rfl rfl (pureOp_pick_true rfl rfl) ?_
      refine OpsW.pure rfl rfl (pureOp_assign rfl) ?_
      refine OpsW.nil ?_
      refine ⟨_, [.obj b4 _], _, sub_put (i := 0) rfl (sub_put (i := 1) rfl (sub_put (i := 4) rfl (sub_put (i := 8) rfl (sub_nil)))), Sel.perm (by repeat (first | exact Sel.nil | (apply Sel.cons; (repeat (first | exact Ext.here | apply Ext.there))))), ?_⟩
      exact ⟨_, (by first | exact ⟨fun _ => .inl h10, fun _ => rfl⟩ | exact ⟨fun h => .inr (of_decide_eq_true h), fun h => decide_eq_true (h.resolve_left h10)⟩), rfl, rfl, rfl⟩
    · skip
      refine OpsW.pure rfl rfl (pureOp_move rfl) ?_
      refine OpsW.pure rfl rfl (pureOp_move rfl) ?_
      refine OpsW.pure rfl rfl (pureOp_gtr rfl rfl) ?_
      refine OpsW.pure rfl rfl (pureOp_pick_false rfl rfl) ?_
      refine OpsW.pure rfl rfl (pureOp_assign rfl) ?_
      refine OpsW.nil ?_
      refine ⟨_, [.obj b4 _], _, sub_put (i := 0) rfl (sub_put (i := 1) rfl (sub_put (i := 4) rfl (sub_put (i := 8) rfl (sub_nil)))), Sel.perm (by repeat (first | exact Sel.nil | (apply Sel.cons; (repeat (first | exact Ext.here | apply Ext.there))))), ?_⟩
      exact ⟨_, (by first | exact ⟨fun _ => .inl h10, fun _ => rfl⟩ | exact ⟨fun h => .inr (of_decide_eq_true h), fun h => decide_eq_true (h.resolve_left h10)⟩), rfl, rfl, rfl⟩
  rintro m _ _ ⟨bb, hbb, rfl, rfl, rfl⟩
  refine AWp.cond rfl (fun ht8 => ?_) (fun ht8 => ?_)
  · skip
    refine AWp.seq ?_
    refine AWp.region ?_
    refine OpsW.pure rfl rfl (opBuildArr0 arr24 zt24) ?_
    refine OpsW.upd rfl rfl (by repeat (first | exact Pos.here | apply Pos.there)) (lop_storeAllN 256 Try.sizeOf24 rfl rfl List.length_replicate List.length_replicate (fun u hu => by rw [List.eq_of_mem_replicate hu]; rfl)) ?_
    rintro _ _ ⟨rfl, rfl⟩
    refine OpsW.pure rfl rfl (pureOp_assign rfl) ?_
    refine OpsW.nil ?_
    refine AWp.forget ?_ (sub_put (i := 0) rfl (sub_put (i := 1) rfl (sub_put (i := 4) rfl (sub_put (i := 5) rfl (sub_put (i := 8) rfl (sub_nil))))))
    refine AWp.ret ?_
    exact ⟨_, [], _, permNone, resCellTmp rfl rfl (by repeat (first | exact List.Mem.head _ | apply List.Mem.tail)) List.length_replicate ag24 rfl, by rw [putR_far (hbb.1 ht8), ← zero256_map]; rfl, rfl⟩
  refine AWp.seq ?_
  have hnn : ¬ (n < 0 ∨ 1099511627776 < n) := fun h => by rw [hbb.2 h] at ht8; cases ht8
  obtain ⟨n, rfl⟩ : ∃ q : Nat, n = (q : Int) := ⟨n.toNat, by omega⟩
  refine AWp.region ?_
  refine OpsW.pure rfl rfl (pureOp_move rfl) ?_
  refine OpsW.pure rfl rfl (opN_len1 b.length Try.underlying46 rfl (by assumption) (List.length_map ..)) ?_
  refine OpsW.pure rfl rfl (opN_gtr (b := 224) rfl rfl) ?_
  refine OpsW.pure rfl rfl (pureOp_assign rfl) ?_
  refine OpsW.nil ?_
  refine AWp.forget ?_ (sub_put (i := 0) rfl (sub_put (i := 1) rfl (sub_put (i := 4) rfl (sub_put (i := 8) rfl (sub_put (i := 16) rfl (sub_nil))))))
  refine AWp.condP rfl (fun ht16 => ?_) (fun ht16 => ?_)
  · skip
    refine AWp.seq ?_
    refine AWp.region ?_
    refine OpsW.pure rfl rfl (opBuildArr0 arr24 zt24) ?_
    refine OpsW.upd rfl rfl (by repeat (first | exact Pos.here | apply Pos.there)) (lop_storeAllN 256 Try.sizeOf24 rfl rfl List.length_replicate List.length_replicate (fun u hu => by rw [List.eq_of_mem_replicate hu]; rfl)) ?_
    rintro _ _ ⟨rfl, rfl⟩
    refine OpsW.pure rfl rfl (pureOp_assign rfl) ?_
    refine OpsW.nil ?_
    refine AWp.forget ?_ (sub_put (i := 0) rfl (sub_put (i := 1) rfl (sub_put (i := 4) rfl (sub_put (i := 5) rfl (sub_put (i := 8) rfl (sub_put (i := 16) rfl (sub_nil)))))))
    refine AWp.ret ?_
    exact ⟨_, [], _, permNone, resCellTmp rfl rfl (by repeat (first | exact List.Mem.head _ | apply List.Mem.tail)) List.length_replicate ag24 rfl, by rw [putR_long hnn ht16, ← zero256_map]; rfl, rfl⟩
  refine AWp.skip ?_
  refine AWp.seq ?_
  refine AWp.region ?_
  refine OpsW.alloc rfl rfl (allocOp_buildSlice slt46 rfl rfl (by first | exact cells_rfl rfl | simp [Value.cells]) (by decide)) ?_
  rintro v21 _ ⟨hv21, hn21, rfl⟩
  rw [show List.flatMap (fun x : Value => x.cells.toList) [.int .u8 82, .int .u8 73, .int .u8 78, .int .u8 71] = ringM.map bV from rfl] at hv21 ⊢
  refine OpsW.upd rfl rfl (by repeat (first | exact Pos.here | apply Pos.there)) (lop_convMark Try.underlying46 Try.underlying5 rfl (by assumption)) ?_
  rintro u _ ⟨e, rfl⟩
  rw [e]
  clear e
  refine OpsW.pure rfl rfl (pureOp_move rfl) ?_
  refine OpsW.pure rfl rfl (op_convI_64 Try.underlying3 Try.underlying122 rfl (by omega)) ?_
  refine OpsW.callA rfl rfl (callOp Try.call69 rfl) permNone (put_c (UInt64.ofNat n) 8 _ (by decide)) ?_
  rintro v25 _ ⟨hv25, hn25, rfl⟩
  refine OpsW.upd rfl rfl (by repeat (first | exact Pos.here | apply Pos.there)) (lop_append (k := _) slt46 ni46 rfl rfl (Nat.mul_one _).symm (src_rd (n := _) (by first | exact Rd.ro (by assumption) | exact Rd.of_sl (by repeat (first | exact List.Mem.head _ | apply List.Mem.tail)) (by assumption)) (Nat.mul_one _).symm (by decide)) (by simp only [List.length_map, putF_length]; decide) (by first | exact one_map (fun _ => rfl) _ | exact one_rfl rfl | exact one_sup _ | (simp [one, *]; done)) (by decide) (by decide)) ?_
  rintro v26 _ ⟨hv26, rfl⟩
  rw [← List.map_append] at hv26 ⊢
  refine OpsW.pure rfl rfl (pureOp_assign rfl) ?_
  refine OpsW.nil ?_
  refine AWp.forget ?_ (sub_put (i := 0) rfl (sub_put (i := 1) rfl (sub_put (i := 4) rfl (sub_put (i := 6) rfl (sub_put (i := 8) rfl (sub_put (i := 16) rfl (sub_nil)))))))
  refine AWp.seq ?_
  refine AWp.region ?_
  refine OpsW.pure rfl rfl (pureOp_move rfl) ?_
  refine OpsW.pure rfl rfl (pureOp_move rfl) ?_
  refine OpsW.pure rfl rfl (opN_len1 b.length Try.underlying46 rfl (by assumption) (List.length_map ..)) ?_
  refine OpsW.pure rfl rfl (op_convI_8 Try.underlying3 Try.underlying5 rfl) ?_
  refine OpsW.alloc rfl rfl (allocOp_buildSlice slt46 rfl rfl (by first | exact cells_rfl rfl | simp [Value.cells]) (by decide)) ?_
  rintro v31 _ ⟨hv31, hn31, rfl⟩
  rw [flat_b1] at hv31 ⊢
  refine OpsW.upd rfl rfl (by repeat (first | exact Pos.here | apply Pos.there)) (lop_append (k := _) slt46 ni46 rfl rfl (Nat.mul_one _).symm (src_rd (n := _) (by first | exact Rd.ro (by assumption) | exact Rd.of_sl (by repeat (first | exact List.Mem.head _ | apply List.Mem.tail)) (by assumption)) (Nat.mul_one _).symm (by decide)) (by simp only [List.length_map, List.length_append, putF_length, List.length_cons, List.length_nil]; decide) (by first | exact one_map (fun _ => rfl) _ | exact one_rfl rfl | exact one_sup _ | (simp [one, *]; done)) (by decide) (by decide)) ?_
  rintro v32 _ ⟨hv32, rfl⟩
  rw [← List.map_append] at hv32 ⊢
  refine OpsW.pure rfl rfl (pureOp_assign rfl) ?_
  refine OpsW.nil ?_
  refine AWp.forget ?_ (sub_put (i := 0) rfl (sub_put (i := 1) rfl (sub_put (i := 4) rfl (sub_put (i := 6) rfl (sub_put (i := 8) rfl (sub_put (i := 16) rfl (sub_nil)))))))
  refine AWp.seq ?_
  refine AWp.region ?_
  refine OpsW.pure rfl rfl (pureOp_move rfl) ?_
  refine OpsW.pure rfl rfl (pureOp_move rfl) ?_
  refine OpsW.upd rfl rfl (by repeat (first | exact Pos.here | apply Pos.there)) (lop_append (k := _) slt46 ni46 rfl rfl (Nat.mul_one _).symm (src_rd (n := _) (by first | exact Rd.ro (by assumption) | exact Rd.of_sl (by repeat (first | exact List.Mem.head _ | apply List.Mem.tail)) (by assumption)) (Nat.mul_one _).symm (by decide)) (by simp only [List.length_map, List.length_append, putF_length, List.length_cons, List.length_nil]; have h4 : ringM.length = 4 := rfl; omega) (by first | exact one_map (fun _ => rfl) _ | exact one_rfl rfl | exact one_sup _ | (simp [one, *]; done)) (by decide) (by decide)) ?_
  rintro v35 _ ⟨hv35, rfl⟩
  rw [← List.map_append, show ringM ++ putF (UInt64.ofNat n) 8 ++ [UInt8.ofNat b.length] ++ b = ringB n b from rfl] at hv35 ⊢
  have hRl := ringB_length n b
  refine OpsW.callA rfl rfl (callOp Try.call70 rfl) permNone (whole_c v35 (ringB n b) _ (Rd.of_sl (by repeat (first | exact List.Mem.head _ | apply List.Mem.tail)) hv35)) ?_
  rintro _ _ ⟨rfl, rfl⟩
  refine OpsW.alloc rfl rfl (allocOp_alloc zt24) ?_
  rintro _ _ ⟨b7, rfl, rfl⟩
  refine OpsW.upd rfl rfl (by repeat (first | exact Pos.here | apply Pos.there)) (lop_storeAllN 256 Try.sizeOf24 rfl rfl List.length_replicate (by simp [wholeF_length]) (by first | exact one_map (fun _ => rfl) _ | exact one_rfl rfl | exact one_sup _ | (simp [one, *]; done))) ?_
  rintro _ _ ⟨rfl, rfl⟩
  refine OpsW.nil ?_
  refine AWp.forget ?_ (sub_put (i := 0) rfl (sub_put (i := 1) rfl (sub_put (i := 4) rfl (sub_put (i := 6) rfl (sub_put (i := 7) rfl (sub_put (i := 8) rfl (sub_put (i := 16) rfl (sub_nil))))))))
  refine AWp.seq ?_
  refine AWp.region ?_
  refine OpsW.pure rfl rfl (pureOp_sliceArr (n := 256) (0) (252) Try.underlying24 Try.sizeOf5 rfl (.inl ⟨rfl, rfl⟩) (.inr ⟨_, _, _, rfl, rfl, rfl⟩) (by omega) (by omega)) ?_
  refine OpsW.callA rfl rfl (callOp Try.call71 rfl) permNone (sealed_c _ ((wholeF (ringB n b)).take 252) _ (arr_rdL 0 252 (by repeat (first | exact List.Mem.head _ | apply List.Mem.tail)) (wholeF_length _) (by decide) (by decide)) (by simp; omega)) ?_
  rintro v38 _ ⟨hv38, rfl⟩
  refine OpsW.callA rfl rfl (callOp Try.call70 rfl) permNone (whole_c v38 _ _ (Rd.of_sl (by repeat (first | exact List.Mem.head _ | apply List.Mem.tail)) hv38)) ?_
  rintro _ _ ⟨rfl, rfl⟩
  rw [sec_eq (by omega)]
  have hscl := secF_length (b := ringB n b) (by omega)
  refine OpsW.upd rfl rfl (by repeat (first | exact Pos.here | apply Pos.there)) (lop_storeAllN 256 Try.sizeOf24 rfl rfl List.length_replicate (by simp [hscl]) (by first | exact one_map (fun _ => rfl) _ | exact one_rfl rfl | exact one_sup _ | (simp [one, *]; done))) ?_
  rintro _ _ ⟨rfl, rfl⟩
  refine OpsW.pure rfl rfl (pureOp_assign rfl) ?_
  refine OpsW.nil ?_
  refine AWp.forget ?_ (sub_put (i := 0) rfl (sub_put (i := 1) rfl (sub_put (i := 4) rfl (sub_put (i := 5) rfl (sub_put (i := 6) rfl (sub_put (i := 7) rfl (sub_put (i := 8) rfl (sub_put (i := 16) rfl (sub_nil)))))))))
  refine AWp.ret ?_
  exact ⟨_, [], _, permNone, resCellTmp rfl rfl (by repeat (first | exact List.Mem.head _ | apply List.Mem.tail)) (by simp [hscl]) ag24 rfl, by rw [putR_ok hnn ht16]; rfl, rfl⟩

set_option maxRecDepth 20000 in
set_option maxHeartbeats 4000000 in
theorem rput36_c (n : Int) (bv : Value) (b : List UInt8) (m : Mem) (hb : Rd m bv 1 (b.map bV)) (hbl : b.length ≤ 1099511627776) :
    Ctr Try.prog 30 [.int .i64 n, bv] m [] (fun _ r L => r = .tuple #[.agg ((putR n b).1.map bV).toArray, iV (putR n b).2] ∧ L = []) := by
  have ho := hb.1
  refine Ctr.intro Try.func30 rfl Try.ntmps30 (by simp) fun w0 => ?_
  refine AWp.forget ?_ (sub_put (i := 0) rfl (sub_put (i := 1) rfl (sub_nil)))
  refine AWp.seq ?_
  refine AWp.region ?_
  refine OpsW.alloc rfl rfl (allocOp_alloc zt24) ?_
  rintro _ _ ⟨b4, rfl, rfl⟩
  refine OpsW.pure rfl rfl (pureOp_assign rfl) ?_
  refine OpsW.nil ?_
  refine AWp.forget ?_ (sub_put (i := 0) rfl (sub_put (i := 1) rfl (sub_put (i := 4) rfl (sub_put (i := 5) rfl (sub_nil)))))
  refine AWp.seq ?_
  refine AWp.seq ?_
  refine AWp.joinW (fun m' T' L' => ∃ bb : Bool, (bb = true ↔ (n < 0 ∨ 1099511627776 < n)) ∧ m' = m ∧ T' = put (put (put (put (tnil) 12 (.bool bb)) 4 (.pointer (some ⟨b4, 0, none⟩))) 1 (bv)) 0 (.int .i64 n) ∧ L' = [.obj b4 (List.replicate 256 (.int .u8 0))]) ?_ ?_
  · skip
    refine AWp.region ?_
    refine OpsW.pure rfl rfl (pureOp_move rfl) ?_
    refine OpsW.pure rfl rfl (pureOp_lss rfl rfl) ?_
    refine OpsW.splitP (d := 8) rfl (fun h8 => ?_) (fun h8 => ?_)
    · skip
      refine OpsW.pure rfl rfl (pureOp_move rfl) ?_
      refine OpsW.skipG rfl rfl ?_
      refine OpsW.skipG rfl rfl ?_
      refine OpsW.pure rfl rfl (pureOp_pick_true rfl rfl) ?_
      refine OpsW.nil ?_
      refine ⟨_, [.obj b4 _], _, sub_put (i := 0) rfl (sub_put (i := 1) rfl (sub_put (i := 4) rfl (sub_put (i := 12) rfl (sub_nil)))), Sel.perm (by repeat (first | exact Sel.nil | (apply Sel.cons; (repeat (first | exact Ext.here | apply Ext.there))))), ?_⟩
      exact ⟨_, (by first | exact ⟨fun _ => .inl h8, fun _ => rfl⟩ | exact ⟨fun h => .inr (of_decide_eq_true h), fun h => decide_eq_true (h.resolve_left h8)⟩), rfl, rfl, rfl⟩
    · skip
      refine OpsW.pure rfl rfl (pureOp_move rfl) ?_
      refine OpsW.pure rfl rfl (pureOp_move rfl) ?_
      refine OpsW.pure rfl rfl (pureOp_gtr rfl rfl) ?_
      refine OpsW.pure rfl rfl (pureOp_pick_false rfl rfl) ?_
      refine OpsW.nil ?_
      refine ⟨_, [.obj b4 _], _, sub_put (i := 0) rfl (sub_put (i := 1) rfl (sub_put (i := 4) rfl (sub_put (i := 12) rfl (sub_nil)))), Sel.perm (by repeat (first | exact Sel.nil | (apply Sel.cons; (repeat (first | exact Ext.here | apply Ext.there))))), ?_⟩
      exact ⟨_, (by first | exact ⟨fun _ => .inl h8, fun _ => rfl⟩ | exact ⟨fun h => .inr (of_decide_eq_true h), fun h => decide_eq_true (h.resolve_left h8)⟩), rfl, rfl, rfl⟩
  rintro m _ _ ⟨bb, hbb, rfl, rfl, rfl⟩
  refine AWp.cond rfl (fun ht12 => ?_) (fun ht12 => ?_)
  · skip
    refine AWp.seq ?_
    refine AWp.region ?_
    refine OpsW.pure rfl rfl (opBuildArr0 arr24 zt24) ?_
    refine OpsW.upd rfl rfl (by repeat (first | exact Pos.here | apply Pos.there)) (lop_storeAllN 256 Try.sizeOf24 rfl rfl List.length_replicate List.length_replicate (fun u hu => by rw [List.eq_of_mem_replicate hu]; rfl)) ?_
    rintro _ _ ⟨rfl, rfl⟩
    refine OpsW.pure rfl rfl (pureOp_assign rfl) ?_
    refine OpsW.nil ?_
    refine AWp.forget ?_ (sub_put (i := 0) rfl (sub_put (i := 1) rfl (sub_put (i := 4) rfl (sub_put (i := 5) rfl (sub_put (i := 12) rfl (sub_nil))))))
    refine AWp.ret ?_
    exact ⟨_, [], _, permNone, resCellTmp rfl rfl (by repeat (first | exact List.Mem.head _ | apply List.Mem.tail)) List.length_replicate ag24 rfl, by rw [putR_far (hbb.1 ht12), ← zero256_map]; rfl, rfl⟩
  refine AWp.skip ?_
  refine AWp.seq ?_
  refine AWp.seq ?_
  have hnn : ¬ (n < 0 ∨ 1099511627776 < n) := fun h => by rw [hbb.2 h] at ht12; cases ht12
  obtain ⟨n, rfl⟩ : ∃ q : Nat, n = (q : Int) := ⟨n.toNat, by omega⟩
  refine AWp.region ?_
  refine OpsW.pure rfl rfl (pureOp_move rfl) ?_
  refine OpsW.pure rfl rfl (opN_len1 b.length Try.underlying46 rfl (by assumption) (List.length_map ..)) ?_
  refine OpsW.pure rfl rfl (opN_gtr (b := 224) rfl rfl) ?_
  refine OpsW.nil ?_
  refine AWp.forget ?_ (sub_put (i := 0) rfl (sub_put (i := 1) rfl (sub_put (i := 4) rfl (sub_put (i := 12) rfl (sub_put (i := 16) rfl (sub_nil))))))
  refine AWp.condP rfl (fun ht16 => ?_) (fun ht16 => ?_)
  · skip
    refine AWp.seq ?_
    refine AWp.region ?_
    refine OpsW.pure rfl rfl (opBuildArr0 arr24 zt24) ?_
    refine OpsW.upd rfl rfl (by repeat (first | exact Pos.here | apply Pos.there)) (lop_storeAllN 256 Try.sizeOf24 rfl rfl List.length_replicate List.length_replicate (fun u hu => by rw [List.eq_of_mem_replicate hu]; rfl)) ?_
    rintro _ _ ⟨rfl, rfl⟩
    refine OpsW.pure rfl rfl (pureOp_assign rfl) ?_
    refine OpsW.nil ?_
    refine AWp.forget ?_ (sub_put (i := 0) rfl (sub_put (i := 1) rfl (sub_put (i := 4) rfl (sub_put (i := 5) rfl (sub_put (i := 12) rfl (sub_put (i := 16) rfl (sub_nil)))))))
    refine AWp.ret ?_
    exact ⟨_, [], _, permNone, resCellTmp rfl rfl (by repeat (first | exact List.Mem.head _ | apply List.Mem.tail)) List.length_replicate ag24 rfl, by rw [putR_long hnn ht16, ← zero256_map]; rfl, rfl⟩
  refine AWp.skip ?_
  refine AWp.seq ?_
  refine AWp.region ?_
  refine OpsW.alloc rfl rfl (allocOp_buildSlice slt46 rfl rfl (by first | exact cells_rfl rfl | simp [Value.cells]) (by decide)) ?_
  rintro v18 _ ⟨hv18, hn18, rfl⟩
  rw [show List.flatMap (fun x : Value => x.cells.toList) [.int .u8 82, .int .u8 73, .int .u8 78, .int .u8 71] = ringM.map bV from rfl] at hv18 ⊢
  refine OpsW.upd rfl rfl (by repeat (first | exact Pos.here | apply Pos.there)) (lop_convMark Try.underlying46 Try.underlying5 rfl (by assumption)) ?_
  rintro u _ ⟨e, rfl⟩
  rw [e]
  clear e
  refine OpsW.pure rfl rfl (pureOp_assign rfl) ?_
  refine OpsW.nil ?_
  refine AWp.forget ?_ (sub_put (i := 0) rfl (sub_put (i := 1) rfl (sub_put (i := 4) rfl (sub_put (i := 6) rfl (sub_put (i := 12) rfl (sub_put (i := 16) rfl (sub_nil)))))))
  refine AWp.seq ?_
  refine AWp.region ?_
  refine OpsW.pure rfl rfl (pureOp_move rfl) ?_
  refine OpsW.pure rfl rfl (pureOp_move rfl) ?_
  refine OpsW.pure rfl rfl (op_convI_64 Try.underlying3 Try.underlying122 rfl (by omega)) ?_
  refine OpsW.callA rfl rfl (callOp Try.call73 rfl) permNone (put01_c (UInt64.ofNat n) 8 _ (by decide)) ?_
  rintro v23 _ ⟨hv23, rfl⟩
  refine OpsW.upd rfl rfl (by repeat (first | exact Pos.here | apply Pos.there)) (lop_append (k := _) slt46 ni46 rfl rfl (Nat.mul_one _).symm (src_rd (n := _) (by first | exact Rd.ro (by assumption) | exact Rd.of_sl (by repeat (first | exact List.Mem.head _ | apply List.Mem.tail)) (by assumption)) (Nat.mul_one _).symm (by decide)) (by simp only [List.length_map, putF_length]; decide) (by first | exact one_map (fun _ => rfl) _ | exact one_rfl rfl | exact one_sup _ | (simp [one, *]; done)) (by decide) (by decide)) ?_
  rintro v24 _ ⟨hv24, rfl⟩
  rw [← List.map_append] at hv24 ⊢
  refine OpsW.pure rfl rfl (pureOp_assign rfl) ?_
  refine OpsW.nil ?_
  refine AWp.forget ?_ (sub_put (i := 0) rfl (sub_put (i := 1) rfl (sub_put (i := 4) rfl (sub_put (i := 6) rfl (sub_put (i := 12) rfl (sub_put (i := 16) rfl (sub_nil)))))))
  refine AWp.seq ?_
  refine AWp.region ?_
  refine OpsW.pure rfl rfl (pureOp_move rfl) ?_
  refine OpsW.pure rfl rfl (pureOp_move rfl) ?_
  refine OpsW.pure rfl rfl (opN_len1 b.length Try.underlying46 rfl (by assumption) (List.length_map ..)) ?_
  refine OpsW.pure rfl rfl (op_convI_8 Try.underlying3 Try.underlying5 rfl) ?_
  refine OpsW.alloc rfl rfl (allocOp_buildSlice slt46 rfl rfl (by first | exact cells_rfl rfl | simp [Value.cells]) (by decide)) ?_
  rintro v29 _ ⟨hv29, hn29, rfl⟩
  rw [flat_b1] at hv29 ⊢
  refine OpsW.upd rfl rfl (by repeat (first | exact Pos.here | apply Pos.there)) (lop_append (k := _) slt46 ni46 rfl rfl (Nat.mul_one _).symm (src_rd (n := _) (by first | exact Rd.ro (by assumption) | exact Rd.of_sl (by repeat (first | exact List.Mem.head _ | apply List.Mem.tail)) (by assumption)) (Nat.mul_one _).symm (by decide)) (by simp only [List.length_map, List.length_append, putF_length, List.length_cons, List.length_nil]; decide) (by first | exact one_map (fun _ => rfl) _ | exact one_rfl rfl | exact one_sup _ | (simp [one, *]; done)) (by decide) (by decide)) ?_
  rintro v30 _ ⟨hv30, rfl⟩
  rw [← List.map_append] at hv30 ⊢
  refine OpsW.pure rfl rfl (pureOp_assign rfl) ?_
  refine OpsW.nil ?_
  refine AWp.forget ?_ (sub_put (i := 0) rfl (sub_put (i := 1) rfl (sub_put (i := 4) rfl (sub_put (i := 6) rfl (sub_put (i := 12) rfl (sub_put (i := 16) rfl (sub_nil)))))))
  refine AWp.seq ?_
  refine AWp.region ?_
  refine OpsW.pure rfl rfl (pureOp_move rfl) ?_
  refine OpsW.pure rfl rfl (pureOp_move rfl) ?_
  refine OpsW.upd rfl rfl (by repeat (first | exact Pos.here | apply Pos.there)) (lop_append (k := _) slt46 ni46 rfl rfl (Nat.mul_one _).symm (src_rd (n := _) (by first | exact Rd.ro (by assumption) | exact Rd.of_sl (by repeat (first | exact List.Mem.head _ | apply List.Mem.tail)) (by assumption)) (Nat.mul_one _).symm (by decide)) (by simp only [List.length_map, List.length_append, putF_length, List.length_cons, List.length_nil]; have h4 : ringM.length = 4 := rfl; omega) (by first | exact one_map (fun _ => rfl) _ | exact one_rfl rfl | exact one_sup _ | (simp [one, *]; done)) (by decide) (by decide)) ?_
  rintro v33 _ ⟨hv33, rfl⟩
  rw [← List.map_append, show ringM ++ putF (UInt64.ofNat n) 8 ++ [UInt8.ofNat b.length] ++ b = ringB n b from rfl] at hv33 ⊢
  have hRl := ringB_length n b
  have hscl := secF_length (b := ringB n b) (by omega)
  refine OpsW.callA rfl rfl (callOp Try.call74 rfl) permNone (sealed08_c v33 (ringB n b) _ (Rd.of_sl (by repeat (first | exact List.Mem.head _ | apply List.Mem.tail)) hv33) (by omega)) ?_
  rintro _ _ ⟨rfl, rfl⟩
  refine OpsW.upd rfl rfl (by repeat (first | exact Pos.here | apply Pos.there)) (lop_storeAllN 256 Try.sizeOf24 rfl rfl List.length_replicate (by simp [hscl]) (by first | exact one_map (fun _ => rfl) _ | exact one_rfl rfl | exact one_sup _ | (simp [one, *]; done))) ?_
  rintro _ _ ⟨rfl, rfl⟩
  refine OpsW.pure rfl rfl (pureOp_assign rfl) ?_
  refine OpsW.nil ?_
  refine AWp.forget ?_ (sub_put (i := 0) rfl (sub_put (i := 1) rfl (sub_put (i := 4) rfl (sub_put (i := 5) rfl (sub_put (i := 6) rfl (sub_put (i := 12) rfl (sub_put (i := 16) rfl (sub_nil))))))))
  refine AWp.ret ?_
  exact ⟨_, [], _, permNone, resCellTmp rfl rfl (by repeat (first | exact List.Mem.head _ | apply List.Mem.tail)) (by simp [hscl]) ag24 rfl, by rw [putR_ok hnn ht16]; rfl, rfl⟩

set_option maxRecDepth 20000 in
set_option maxHeartbeats 4000000 in
theorem rget_c (x : List UInt8) (m : Mem) (hx : x.length = 256) :
    Ctr Try.prog 31 [.agg (x.map bV).toArray] m [] (fun _ r L => ∃ (k : Nat) (v : Value) (b : List UInt8), r = .tuple #[iV k, v, .bool (decide (goodR x))] ∧ slOk v 1 (b.map bV) ∧ (goodR x → k = gN x 4 8 ∧ b = rB x) ∧ L = [.sl v 1 (b.map bV)]) := by
  refine Ctr.intro Try.func31 rfl Try.ntmps31 (by simp) fun w0 => ?_
  refine AWp.forget ?_ (sub_put (i := 0) rfl (sub_nil))
  refine AWp.seq ?_
  refine AWp.region ?_
  refine OpsW.alloc rfl rfl (allocOp_boxAgg rfl) ?_
  rintro _ _ ⟨b1, rfl, rfl⟩
  refine OpsW.pure rfl rfl (pureOp_assign rfl) ?_
  refine OpsW.pure rfl rfl (pureOp_assign rfl) ?_
  refine OpsW.pure rfl rfl (pureOp_assign rfl) ?_
  refine OpsW.nil ?_
  refine AWp.forget ?_ (sub_put (i := 0) rfl (sub_put (i := 1) rfl (sub_put (i := 2) rfl (sub_put (i := 3) rfl (sub_put (i := 4) rfl (sub_nil))))))
  refine AWp.seq ?_
  refine AWp.seq ?_
  refine AWp.freeze (fun m1 hm1 hat => ?_)
  have hall : Rd m1 (arrSl b1 0 256 0 256 1) 1 (x.map bV) := arr_all (arr_rd 0 256 hat hx (by decide) (by decide)) hx
  have hw : Rd m1 (arrSl b1 0 256 0 252 1) 1 (((x.drop 0).take 252).map bV) := arr_rd 0 252 hat hx (by decide) (by decide)
  rw [List.drop_zero] at hw
  refine AWp.region ?_
  refine OpsW.pure rfl rfl (pureOp_sliceArr (n := 256) 0 256 Try.underlying24 Try.sizeOf5 rfl (.inl ⟨rfl, rfl⟩) (.inl ⟨rfl, rfl⟩) (by decide) (by decide)) ?_
  refine OpsW.callA rfl rfl (callOp Try.call75 rfl) permNone (holds_c _ x _ hall.ro (by omega)) ?_
  rintro _ _ ⟨rfl, rfl⟩
  obtain ⟨h0, hh0⟩ : ∃ h0, h0 = holdsF x := ⟨_, rfl⟩
  rw [← hh0]
  refine OpsW.pure rfl rfl (pureOp_not rfl) ?_
  refine OpsW.nil ?_
  refine AWp.forget ?_ (sub_put (i := 0) rfl (sub_put (i := 1) rfl (sub_put (i := 2) rfl (sub_put (i := 3) rfl (sub_put (i := 4) rfl (sub_put (i := 12) rfl (sub_nil)))))))
  refine AWp.cond rfl (fun ht12 => ?_) (fun ht12 => ?_)
  · skip
    refine AWp.seq ?_
    refine AWp.nilChunk 1 ?_
    refine AWp.region ?_
    refine OpsW.pure rfl rfl (pureOp_assign rfl) ?_
    refine OpsW.pure rfl rfl (pureOp_assign rfl) ?_
    refine OpsW.pure rfl rfl (pureOp_assign rfl) ?_
    refine OpsW.nil ?_
    refine AWp.forget ?_ (sub_put (i := 0) rfl (sub_put (i := 1) rfl (sub_put (i := 2) rfl (sub_put (i := 3) rfl (sub_put (i := 4) rfl (sub_put (i := 12) rfl (sub_nil)))))))
    refine AWp.ret ?_
    have hng : ¬ goodR x := fun h => by have h9 := h.1.1.1; rw [← hh0] at h9; rw [h9] at ht12; cases ht12
    exact ⟨_, [.sl (.slice none 0 0) 1 _], _, Sel.perm (by repeat (first | exact Sel.nil | (apply Sel.cons; (repeat (first | exact Ext.here | apply Ext.there))))), res_tmp3 rfl rfl rfl rfl, 0, _, [], by rw [decide_eq_false hng]; rfl, .inl ⟨rfl, rfl⟩, fun h => absurd h hng, rfl⟩
  refine AWp.skip ?_
  refine AWp.seq ?_
  have hholds : holdsF x = true := by
    rw [← hh0]
    cases h0 with
    | true => rfl
    | false => cases ht12
  refine AWp.region ?_
  refine OpsW.pure rfl rfl (pureOp_sliceArr (n := 256) (0) (252) Try.underlying24 Try.sizeOf5 rfl (.inl ⟨rfl, rfl⟩) (.inr ⟨_, _, _, rfl, rfl, rfl⟩) (by omega) (by omega)) ?_
  refine OpsW.callA rfl rfl (callOp Try.call76 rfl) permNone (from_c (arrSl b1 0 256 0 252 1) _ (one_sl hw.1)) ?_
  rintro _ _ ⟨b14, rfl, rfl⟩
  refine OpsW.pure rfl rfl (pureOp_assign rfl) ?_
  refine OpsW.nil ?_
  refine AWp.forget ?_ (sub_put (i := 0) rfl (sub_put (i := 1) rfl (sub_put (i := 2) rfl (sub_put (i := 3) rfl (sub_put (i := 4) rfl (sub_put (i := 5) rfl (sub_put (i := 12) rfl (sub_nil))))))))
  refine AWp.seq ?_
  obtain ⟨d0, hd0⟩ : ∃ d, d = x.take 252 := ⟨_, rfl⟩
  have hd0l : d0.length = 252 := by rw [hd0]; simp; omega
  have hg : ∀ k n, k + n ≤ 252 → (d0.drop k).take n = (x.drop k).take n := fun k n h => by rw [hd0, List.drop_take, List.take_take, Nat.min_eq_left (by omega)]
  rw [← hd0] at hw
  refine AWp.draw [(0, .pure), (3, .pure), (5, .pure), (1, .wrO), (2, .loadS), (4, .wrO), (6, .wrO), (7, .pure), (8, .pure), (9, .pure), (10, .pure)] rfl (by decide +kernel) (fun _ _ _ p h => AWp.perm h p.symm) ?_
  refine ⟨_, _, rfl, OpStep.pure rfl rfl (pureOp_move rfl), ?_⟩
  rintro _ _ ⟨rfl, rfl⟩ -
  refine ⟨_, _, rfl, OpStep.pure rfl rfl (pureOp_move rfl), ?_⟩
  rintro _ _ ⟨rfl, rfl⟩ -
  refine ⟨_, _, rfl, OpStep.pure rfl rfl (pureOp_move rfl), ?_⟩
  rintro _ _ ⟨rfl, rfl⟩ -
  refine ⟨_, _, rfl, OpStep.callO rfl rfl (callOp Try.call89 rfl) (Sel.perm (L' := [.obj b14 _]) (by repeat (first | exact Sel.nil | (apply Sel.cons; (repeat (first | exact Ext.here | apply Ext.there)))))) rfl ((bytes_c b14 _ false d0 4 m1 hw (by omega) (by decide)).more (fun _ _ h => .inl h)), ?_⟩
  rintro _ _ ⟨v16, _, ⟨vb16, hv16, hr16, rfl⟩, rfl, rfl⟩ -
  obtain ⟨hc1, hc2, hc3⟩ := cur_ok (d := d0) (n := 4) (by omega)
  have hg0 : d0.take 4 = x.take 4 := by have := hg 0 4 (by decide); rwa [List.drop_zero, List.drop_zero] at this
  rw [hc1, hg0] at hv16
  rw [hc1, hc3, hg0]
  rw [hc2] at hr16
  clear hc1 hc2 hc3
  refine ⟨_, _, rfl, OpStep.loadS (c := .sl v16 1 _) rfl rfl (by repeat (first | exact List.Mem.head _ | apply List.Mem.tail)) rfl (loadOp_toString Try.underlying46 Try.underlying5 Try.underlying9 rfl ((Rd.of_sl (List.Mem.head _) hv16).ro)), ?_⟩
  rintro _ _ ⟨rfl, rfl⟩ -
  refine ⟨_, _, rfl, OpStep.callO rfl rfl (callOp Try.call77 rfl) (Sel.perm (L' := [.obj b14 _]) (by repeat (first | exact Sel.nil | (apply Sel.cons; (repeat (first | exact Ext.here | apply Ext.there)))))) rfl ((num_c b14 vb16 false (d0.drop 4) 8 m1 hr16 (by simp; omega) (by decide)).more (fun _ _ h => .inl h)), ?_⟩
  rintro _ _ ⟨_, _, ⟨v19, rfl, hr19, rfl⟩, rfl, rfl⟩ -
  obtain ⟨hc1, hc2, hc3⟩ := cur_ok (d := d0.drop 4) (n := 8) (by simp; omega)
  rw [hc1, hc3, hg 4 8 (by decide)]
  rw [hc2, List.drop_drop] at hr19
  clear hc1 hc2 hc3
  refine ⟨_, _, rfl, OpStep.callO rfl rfl (callOp Try.call77 rfl) (Sel.perm (L' := [.obj b14 _]) (by repeat (first | exact Sel.nil | (apply Sel.cons; (repeat (first | exact Ext.here | apply Ext.there)))))) rfl ((num_c b14 v19 false (d0.drop 12) 1 m1 hr19 (by simp; omega) (by decide)).more (fun _ _ h => .inl h)), ?_⟩
  rintro _ _ ⟨_, _, ⟨v21, rfl, hr21, rfl⟩, rfl, rfl⟩ -
  obtain ⟨hc1, hc2, hc3⟩ := cur_ok (d := d0.drop 12) (n := 1) (by simp; omega)
  rw [hc1, hc3, hg 12 1 (by decide)]
  rw [hc2, List.drop_drop] at hr21
  clear hc1 hc2 hc3
  refine ⟨_, _, rfl, OpStep.pure rfl rfl (op_conv64_I Try.underlying122 Try.underlying3 rfl (Nat.lt_trans (gN_lt x 12 1 (by decide)) (by decide))), ?_⟩
  rintro _ _ ⟨rfl, rfl⟩ -
  rw [show (getL ((x.drop 12).take 1)).toNat = rLen x from gN_one hx]
  refine ⟨_, _, rfl, OpStep.pure rfl rfl (pureOp_assign rfl), ?_⟩
  rintro _ _ ⟨rfl, rfl⟩ -
  refine ⟨_, _, rfl, OpStep.pure rfl rfl (pureOp_assign rfl), ?_⟩
  rintro _ _ ⟨rfl, rfl⟩ -
  refine ⟨_, _, rfl, OpStep.pure rfl rfl (pureOp_assign rfl), ?_⟩
  rintro _ _ ⟨rfl, rfl⟩ -
  refine AWp.forget ?_ (sub_put (i := 0) rfl (sub_put (i := 1) rfl (sub_put (i := 2) rfl (sub_put (i := 3) rfl (sub_put (i := 4) rfl (sub_put (i := 5) rfl (sub_put (i := 6) rfl (sub_put (i := 7) rfl (sub_put (i := 8) rfl (sub_put (i := 12) rfl (sub_nil)))))))))))
  refine AWp.seq ?_
  refine AWp.seq ?_
  refine AWp.joinW (fun m' T' L' => ∃ bb : Bool, (bb = true ↔ ¬ (x.take 4 = ringM ∧ gN x 4 8 ≤ 1099511627776 ∧ rLen x ≤ 224)) ∧ m' = m1 ∧ T' = put (put (put (put (tnil) 32 (.bool bb)) 8 (iV (rLen x))) 7 (qV (getL ((x.drop 4).take 8)))) 5 (.pointer (some ⟨b14, 0, none⟩)) ∧ L' = [.obj b14 [v21, .bool false]]) ?_ ?_
  · skip
    refine AWp.region ?_
    refine OpsW.pure rfl rfl (pureOp_move rfl) ?_
    refine OpsW.pure rfl rfl (opS_neq (b := ringM) rfl rfl) ?_
    refine OpsW.splitP (d := 24) rfl (fun h24 => ?_) (fun h24 => ?_)
    · skip
      refine OpsW.pure rfl rfl (pureOp_move rfl) ?_
      refine OpsW.skipG rfl rfl ?_
      refine OpsW.skipG rfl rfl ?_
      refine OpsW.pure rfl rfl (pureOp_pick_true rfl rfl) ?_
      refine OpsW.pure rfl rfl (pureOp_move rfl) ?_
      refine OpsW.skipG rfl rfl ?_
      refine OpsW.skipG rfl rfl ?_
      refine OpsW.pure rfl rfl (pureOp_pick_true rfl rfl) ?_
      refine OpsW.nil ?_
      refine ⟨_, [.obj b14 _], _, sub_put (i := 5) rfl (sub_put (i := 7) rfl (sub_put (i := 8) rfl (sub_put (i := 32) rfl (sub_nil)))), Sel.perm (by repeat (first | exact Sel.nil | (apply Sel.cons; (repeat (first | exact Ext.here | apply Ext.there))))), ?_⟩
      exact ⟨_, (by first | exact ⟨fun _ h => h24 h.1, fun _ => rfl⟩ | exact ⟨fun _ h => absurd h27 (Nat.not_lt.2 h.2.1), fun _ => rfl⟩ | exact ⟨fun h k => absurd (of_decide_eq_true h) (Nat.not_lt.2 k.2.2), fun h => decide_eq_true (Nat.lt_of_not_le fun k => h ⟨Decidable.of_not_not h24, Nat.le_of_not_lt h27, k⟩)⟩), rfl, rfl, rfl⟩
    · skip
      refine OpsW.pure rfl rfl (pureOp_move rfl) ?_
      refine OpsW.pure rfl rfl (pureOp_move rfl) ?_
      refine OpsW.pure rfl rfl (op64_gtr (b := 1099511627776) rfl rfl) ?_
      refine OpsW.splitP (d := 27) rfl (fun h27 => ?_) (fun h27 => ?_)
      · skip
        refine OpsW.pure rfl rfl (pureOp_pick_false rfl rfl) ?_
        refine OpsW.pure rfl rfl (pureOp_move rfl) ?_
        refine OpsW.skipG rfl rfl ?_
        refine OpsW.skipG rfl rfl ?_
        refine OpsW.pure rfl rfl (pureOp_pick_true rfl rfl) ?_
        refine OpsW.nil ?_
        refine ⟨_, [.obj b14 _], _, sub_put (i := 5) rfl (sub_put (i := 7) rfl (sub_put (i := 8) rfl (sub_put (i := 32) rfl (sub_nil)))), Sel.perm (by repeat (first | exact Sel.nil | (apply Sel.cons; (repeat (first | exact Ext.here | apply Ext.there))))), ?_⟩
        exact ⟨_, (by first | exact ⟨fun _ h => h24 h.1, fun _ => rfl⟩ | exact ⟨fun _ h => absurd h27 (Nat.not_lt.2 h.2.1), fun _ => rfl⟩ | exact ⟨fun h k => absurd (of_decide_eq_true h) (Nat.not_lt.2 k.2.2), fun h => decide_eq_true (Nat.lt_of_not_le fun k => h ⟨Decidable.of_not_not h24, Nat.le_of_not_lt h27, k⟩)⟩), rfl, rfl, rfl⟩
      · skip
        refine OpsW.pure rfl rfl (pureOp_pick_false rfl rfl) ?_
        refine OpsW.pure rfl rfl (pureOp_move rfl) ?_
        refine OpsW.pure rfl rfl (pureOp_move rfl) ?_
        refine OpsW.pure rfl rfl (opN_gtr (b := 224) rfl rfl) ?_
        refine OpsW.pure rfl rfl (pureOp_pick_false rfl rfl) ?_
        refine OpsW.nil ?_
        refine ⟨_, [.obj b14 _], _, sub_put (i := 5) rfl (sub_put (i := 7) rfl (sub_put (i := 8) rfl (sub_put (i := 32) rfl (sub_nil)))), Sel.perm (by repeat (first | exact Sel.nil | (apply Sel.cons; (repeat (first | exact Ext.here | apply Ext.there))))), ?_⟩
        exact ⟨_, (by first | exact ⟨fun _ h => h24 h.1, fun _ => rfl⟩ | exact ⟨fun _ h => absurd h27 (Nat.not_lt.2 h.2.1), fun _ => rfl⟩ | exact ⟨fun h k => absurd (of_decide_eq_true h) (Nat.not_lt.2 k.2.2), fun h => decide_eq_true (Nat.lt_of_not_le fun k => h ⟨Decidable.of_not_not h24, Nat.le_of_not_lt h27, k⟩)⟩), rfl, rfl, rfl⟩
  rintro m _ _ ⟨bb, hbb, rfl, rfl, rfl⟩
  refine AWp.cond rfl (fun ht32 => ?_) (fun ht32 => ?_)
  · skip
    refine AWp.seq ?_
    refine AWp.nilChunk 1 ?_
    refine AWp.region ?_
    refine OpsW.pure rfl rfl (pureOp_assign rfl) ?_
    refine OpsW.pure rfl rfl (pureOp_assign rfl) ?_
    refine OpsW.pure rfl rfl (pureOp_assign rfl) ?_
    refine OpsW.nil ?_
    refine AWp.forget ?_ (sub_put (i := 2) rfl (sub_put (i := 3) rfl (sub_put (i := 4) rfl (sub_put (i := 5) rfl (sub_put (i := 7) rfl (sub_put (i := 8) rfl (sub_put (i := 32) rfl (sub_nil))))))))
    refine AWp.ret ?_
    have hng : ¬ goodR x := fun h => hbb.1 ht32 ⟨h.1.1.2, h.1.2⟩
    exact ⟨_, [.sl (.slice none 0 0) 1 _], _, Sel.perm (by repeat (first | exact Sel.nil | (apply Sel.cons; (repeat (first | exact Ext.here | apply Ext.there))))), res_tmp3 rfl rfl rfl rfl, 0, _, [], by rw [decide_eq_false hng]; rfl, .inl ⟨rfl, rfl⟩, fun h => absurd h hng, rfl⟩
  refine AWp.skip ?_
  refine AWp.seq ?_
  have hok : x.take 4 = ringM ∧ gN x 4 8 ≤ 1099511627776 ∧ rLen x ≤ 224 := Decidable.byContradiction fun h => by rw [hbb.2 h] at ht32; cases ht32
  have hk := hok.2.2
  refine AWp.region ?_
  refine OpsW.pure rfl rfl (pureOp_move rfl) ?_
  refine OpsW.pure rfl rfl (pureOp_move rfl) ?_
  refine OpsW.callA rfl rfl (callOp Try.call89 rfl) (Sel.perm (L' := [.obj b14 _]) (by repeat (first | exact Sel.nil | (apply Sel.cons; (repeat (first | exact Ext.here | apply Ext.there)))))) ((bytes_c b14 v21 false (d0.drop 13) (rLen x) m hr21 (by simp; omega) (by omega)).more (fun _ _ h => .inl h)) ?_
  rintro v35 _ ⟨v36, hv35, hr36, rfl⟩
  obtain ⟨hc1, hc2, hc3⟩ := cur_ok (d := d0.drop 13) (n := rLen x) (by simp; omega)
  rw [hc1, hg 13 (rLen x) (by omega)] at hv35
  rw [hc1, hc3, hg 13 (rLen x) (by omega)]
  rw [hc2, List.drop_drop] at hr36
  clear hc1 hc2 hc3
  refine OpsW.pure rfl rfl (pureOp_assign rfl) ?_
  refine OpsW.nil ?_
  refine AWp.forget ?_ (sub_put (i := 5) rfl (sub_put (i := 7) rfl (sub_put (i := 8) rfl (sub_put (i := 9) rfl (sub_put (i := 32) rfl (sub_nil))))))
  refine AWp.seq ?_
  refine AWp.region ?_
  refine OpsW.pure rfl rfl (pureOp_move rfl) ?_
  refine OpsW.pure rfl rfl (op_conv64_I Try.underlying122 Try.underlying3 rfl (Nat.lt_of_le_of_lt hok.2.1 (by decide))) ?_
  refine OpsW.pure rfl rfl (pureOp_move rfl) ?_
  refine OpsW.pure rfl rfl (pureOp_move rfl) ?_
  refine OpsW.callA rfl rfl (callOp Try.call78 rfl) (Sel.perm (L' := [.obj b14 _]) (by repeat (first | exact Sel.nil | (apply Sel.cons; (repeat (first | exact Ext.here | apply Ext.there)))))) ((rest_c b14 v36 false (d0.drop (13 + rLen x)) m hr36 (by simp; omega)).more (fun _ _ h => .inl h)) ?_
  rintro _ _ ⟨rfl, rfl⟩
  refine OpsW.pure rfl rfl (pureOp_assign rfl) ?_
  refine OpsW.pure rfl rfl (pureOp_assign rfl) ?_
  refine OpsW.pure rfl rfl (pureOp_assign rfl) ?_
  refine OpsW.nil ?_
  refine AWp.forget ?_ (sub_put (i := 2) rfl (sub_put (i := 3) rfl (sub_put (i := 4) rfl (sub_put (i := 5) rfl (sub_put (i := 7) rfl (sub_put (i := 8) rfl (sub_put (i := 9) rfl (sub_put (i := 32) rfl (sub_nil)))))))))
  refine AWp.ret ?_
  have hz : d0.drop (13 + rLen x) = (x.drop (13 + rLen x)).take (239 - rLen x) := by rw [hd0, List.drop_take]; congr 1; omega
  have hbo : (!false && zeroF (d0.drop (13 + rLen x))) = decide (goodR x) := by
    rw [hz, Bool.not_false, Bool.true_and, Bool.eq_iff_iff, decide_eq_true_iff]
    exact ⟨fun h => ⟨⟨⟨hholds, hok.1⟩, hok.2⟩, h⟩, fun h => h.2⟩
  exact ⟨_, [.sl v35 1 _], _, Sel.perm (by repeat (first | exact Sel.nil | (apply Sel.cons; (repeat (first | exact Ext.here | apply Ext.there))))), res_tmp3 rfl rfl rfl rfl, gN x 4 8, v35, rB x, by rw [hbo]; rfl, hv35, fun _ => ⟨rfl, rfl⟩, rfl⟩

end Go.Proofs.Ytpnipajadjeifaa.Sep
