/- The walks of the package disk. -/
import Derived.Test.YtpnipajadjeifaaSuper2
import Derived.Test.YtpnipajadjeifaaDiskA
import Derived.Test.YtpnipajadjeifaaProg
namespace Go.Proofs.Ytpnipajadjeifaa.Sep
open Go Go.RowKit
set_option linter.unusedVariables false
set_option linter.unusedSimpArgs false
set_option maxRecDepth 100000 in
theorem slt109 : SlT Try.prog 109 24 256 256 (List.replicate 256 (.int .u8 0)) := ⟨Try.underlying109, ⟨_, _, (by kernel_rfl : Try.prog.info? 24 = some Try.t24), rfl, rfl, rfl, rfl, rfl⟩⟩
theorem st134 : StructT Try.prog 134 [(0, 1), (1, 1), (2, 1), (3, 1), (4, 1), (5, 1)] ([.slice none 0 0, .slice none 0 0, .map none, .int .i64 0, .int .i64 0, .bool false]) := ⟨_, _, Try.runUnderlying134, Try.zeroValue134, rfl, by intro w; simp [Try.sizeOf109, Try.sizeOf131, Try.sizeOf132, Try.sizeOf3, Try.sizeOf4]⟩
theorem fa134_0 : FieldAt Try.prog 134 0 0 := by
  intro b o w
  simp [Instr.fieldAt, Try.runUnderlying134, fieldPlace, Instr.sureAddr, Try.sizeOf109, add_mk]
theorem sc109 : Scal Try.prog 109 := ⟨Try.isAgg109, Try.sizeOf109⟩
theorem fa134_5 : FieldAt Try.prog 134 5 5 := by
  intro b o w
  simp [Instr.fieldAt, Try.runUnderlying134, fieldPlace, Instr.sureAddr, Try.sizeOf4, add_mk]
theorem fa134_4 : FieldAt Try.prog 134 4 4 := by
  intro b o w
  simp [Instr.fieldAt, Try.runUnderlying134, fieldPlace, Instr.sureAddr, Try.sizeOf3, add_mk]
theorem fa134_3 : FieldAt Try.prog 134 3 3 := by
  intro b o w
  simp [Instr.fieldAt, Try.runUnderlying134, fieldPlace, Instr.sureAddr, Try.sizeOf3, add_mk]
theorem fa134_2 : FieldAt Try.prog 134 2 2 := by
  intro b o w
  simp [Instr.fieldAt, Try.runUnderlying134, fieldPlace, Instr.sureAddr, Try.sizeOf131, add_mk]
theorem sc131 : Scal Try.prog 131 := ⟨Try.isAgg131, Try.sizeOf131⟩

theorem zt24z : ZeroT Try.prog 24 (zero256.map bV) := by rw [zero256_map]; exact zt24
theorem za24 : ∀ z, (∀ w, (zeroValue 24).run Try.prog w = .ok z w) → z = .agg z.cells := fun z h => by
  have h1 := h default
  rw [Try.zeroValue24 default] at h1
  cases h1; rfl

set_option maxRecDepth 20000 in
set_option maxHeartbeats 1000000 in
theorem dnew_c (n : Nat) (m : Mem) (hn : n < 9223372036854775808) :
    Ctr Try.prog 21 [iV n] m [] (fun _ r L => (n < 1 ∨ 4096 < n) ∧ r = .tuple #[.pointer none, iV 2] ∧ L = [] ∨ (1 ≤ n ∧ n ≤ 4096) ∧ ∃ b lv mb, r = .tuple #[.pointer (some ⟨b, 0, none⟩), iV 0] ∧ DkI (newF n) lv (.slice none 0 0) ∧ L = [.obj b [lv, (.slice none 0 0), .map (some mb), .int .i64 (newF n).steps, .int .i64 (newF n).fuse, .bool (newF n).down], .sl lv 256 (secC (newF n).last), .sl (.slice none 0 0) 257 (wrC (newF n).wait), .mp mb (mapC (nowL (newF n).wait))]) := by
  refine Ctr.intro Try.func21 rfl Try.ntmps21 (by simp) fun w0 => ?_
  refine AWp.forget ?_ (sub_put (i := 0) rfl (sub_nil))
  refine AWp.seq ?_
  refine AWp.region ?_
  refine OpsW.pure rfl rfl (pureOp_assign rfl) ?_
  refine OpsW.pure rfl rfl (pureOp_assign rfl) ?_
  refine OpsW.nil ?_
  refine AWp.forget ?_ (sub_put (i := 0) rfl (sub_put (i := 2) rfl (sub_put (i := 3) rfl (sub_nil))))
  refine AWp.seq ?_
  refine AWp.seq ?_
  refine AWp.joinW (fun m' T' L' => ∃ bb : Bool, (bb = true ↔ (n < 1 ∨ 4096 < n)) ∧ m' = m ∧ T' = put (put (tnil) 9 (.bool bb)) 0 (iV n) ∧ L' = []) ?_ ?_
  · skip
    refine AWp.region ?_
    refine OpsW.pure rfl rfl (pureOp_move rfl) ?_
    refine OpsW.pure rfl rfl (opN_lss (b := 1) rfl rfl) ?_
    refine OpsW.splitP (d := 5) rfl (fun h5 => ?_) (fun h5 => ?_)
    · skip
      refine OpsW.pure rfl rfl (pureOp_move rfl) ?_
      refine OpsW.skipG rfl rfl ?_
      refine OpsW.skipG rfl rfl ?_
      refine OpsW.pure rfl rfl (pureOp_pick_true rfl rfl) ?_
      refine OpsW.nil ?_
      refine ⟨_, [], _, sub_put (i := 0) rfl (sub_put (i := 9) rfl (sub_nil)), Sel.perm (by repeat (first | exact Sel.nil | (apply Sel.cons; (repeat (first | exact Ext.here | apply Ext.there))))), ?_⟩
      exact ⟨_, (by first | exact ⟨fun _ => .inl h5, fun _ => rfl⟩ | exact ⟨fun h => .inr (of_decide_eq_true h), fun h => decide_eq_true (h.resolve_left h5)⟩), rfl, rfl, rfl⟩
    · skip
      refine OpsW.pure rfl rfl (pureOp_move rfl) ?_
      refine OpsW.pure rfl rfl (pureOp_move rfl) ?_
      refine OpsW.pure rfl rfl (opN_gtr (b := 4096) rfl rfl) ?_
      refine OpsW.pure rfl rfl (pureOp_pick_false rfl rfl) ?_
      refine OpsW.nil ?_
      refine ⟨_, [], _, sub_put (i := 0) rfl (sub_put (i := 9) rfl (sub_nil)), Sel.perm (by repeat (first | exact Sel.nil | (apply Sel.cons; (repeat (first | exact Ext.here | apply Ext.there))))), ?_⟩
      exact ⟨_, (by first | exact ⟨fun _ => .inl h5, fun _ => rfl⟩ | exact ⟨fun h => .inr (of_decide_eq_true h), fun h => decide_eq_true (h.resolve_left h5)⟩), rfl, rfl, rfl⟩
  rintro m _ _ ⟨bb, hbb, rfl, rfl, rfl⟩
  refine AWp.cond rfl (fun ht9 => ?_) (fun ht9 => ?_)
  · skip
    refine AWp.seq ?_
    refine AWp.region ?_
    refine OpsW.pure rfl rfl (pureOp_assign rfl) ?_
    refine OpsW.pure rfl rfl (pureOp_assign rfl) ?_
    refine OpsW.nil ?_
    refine AWp.forget ?_ (sub_put (i := 0) rfl (sub_put (i := 2) rfl (sub_put (i := 3) rfl (sub_put (i := 9) rfl (sub_nil)))))
    refine AWp.ret ?_
    exact ⟨_, [], _, permNone, res_tmp2 rfl rfl rfl, .inl ⟨hbb.1 ht9, rfl, rfl⟩⟩
  refine AWp.skip ?_
  refine AWp.seq ?_
  have hnn : ¬ (n < 1 ∨ 4096 < n) := fun h => by rw [hbb.2 h] at ht9; cases ht9
  refine AWp.nilChunk 257 ?_
  refine AWp.region ?_
  refine OpsW.pure rfl rfl (pureOp_move rfl) ?_
  refine OpsW.alloc rfl rfl (allocOp_makeSliceN slt109 rfl rfl (by omega) (by omega) (by decide)) ?_
  rintro v11 _ ⟨hv11, hn11, rfl⟩
  rw [new_sec] at hv11 ⊢
  refine OpsW.w rfl rfl (allocOp_makeMap) ?_
  rintro _ _ ⟨b12, rfl, rfl⟩
  refine OpsW.pure rfl rfl (opBuildStruct st134 rfl (.cons rfl (by first | rfl | (rw [one_cells (one_sl hv11)]; rfl)) (by first | exact Nat.le_of_ble_eq_true rfl | (rw [one_cells (one_sl hv11)]; exact Nat.le_of_ble_eq_true rfl)) (.cons rfl (by first | rfl | (rw [one_cells (one_sl hv11)]; rfl)) (by first | exact Nat.le_of_ble_eq_true rfl | (rw [one_cells (one_sl hv11)]; exact Nat.le_of_ble_eq_true rfl)) (.cons rfl (by first | rfl | (rw [one_cells (one_sl hv11)]; rfl)) (by first | exact Nat.le_of_ble_eq_true rfl | (rw [one_cells (one_sl hv11)]; exact Nat.le_of_ble_eq_true rfl)) (.nil))))) ?_
  refine OpsW.alloc rfl rfl (allocOp_boxAgg rfl) ?_
  rintro _ _ ⟨b14, rfl, rfl⟩
  rw [one_cells (one_sl hv11)]
  refine OpsW.pure rfl rfl (pureOp_assign rfl) ?_
  refine OpsW.pure rfl rfl (pureOp_assign rfl) ?_
  refine OpsW.nil ?_
  refine AWp.forget ?_ (sub_put (i := 0) rfl (sub_put (i := 2) rfl (sub_put (i := 3) rfl (sub_put (i := 9) rfl (sub_nil)))))
  refine AWp.ret ?_
  exact ⟨_, [.obj b14 _, .sl v11 256 _, .sl (.slice none 0 0) 257 _, .mp b12 _], _, Sel.perm (by repeat (first | exact Sel.nil | (apply Sel.cons; (repeat (first | exact Ext.here | apply Ext.there))))), res_tmp2 rfl rfl rfl, .inr ⟨by omega, b14, v11, b12, rfl, ⟨hv11, .inl ⟨rfl, rfl⟩, newF_ok (by omega)⟩, rfl⟩⟩

set_option maxRecDepth 20000 in
set_option maxHeartbeats 1000000 in
theorem dinside_c (b : Nat) (lv wv : Value) (mb : Nat) (D : Dk) (i : Int) (m : Mem) (h : DkI D lv wv) :
    Ctr Try.prog 82 [.pointer (some ⟨b, 0, none⟩), .int .i64 i] m [.obj b [lv, wv, .map (some mb), .int .i64 D.steps, .int .i64 D.fuse, .bool D.down], .sl lv 256 (secC D.last), .sl wv 257 (wrC D.wait), .mp mb (mapC (nowL D.wait))] (fun _ r L => r = .bool (decide (inF D i)) ∧ L = [.obj b [lv, wv, .map (some mb), .int .i64 D.steps, .int .i64 D.fuse, .bool D.down], .sl lv 256 (secC D.last), .sl wv 257 (wrC D.wait), .mp mb (mapC (nowL D.wait))]) := by
  obtain ⟨hl, hw, ok⟩ := h
  have hlC := secC_length ok.sec
  have hwC := wrC_length ok.wait
  refine Ctr.intro Try.func82 rfl Try.ntmps82 (by simp) fun w0 => ?_
  refine AWp.forget ?_ (sub_put (i := 0) rfl (sub_put (i := 1) rfl (sub_nil)))
  refine AWp.seq ?_
  refine AWp.region ?_
  refine OpsW.pure rfl rfl (pureOp_assign rfl) ?_
  refine OpsW.nil ?_
  refine AWp.forget ?_ (sub_put (i := 0) rfl (sub_put (i := 1) rfl (sub_put (i := 4) rfl (sub_nil))))
  refine AWp.seq ?_
  refine AWp.joinW (fun m' T' L' => ∃ bb : Bool, (bb = true ↔ inF D i) ∧ m' = m ∧ T' = put (tnil) 4 (.bool bb) ∧ L' = [.obj b [lv, wv, .map (some mb), .int .i64 D.steps, .int .i64 D.fuse, .bool D.down], .sl lv 256 (secC D.last), .sl wv 257 (wrC D.wait), .mp mb (mapC (nowL D.wait))]) ?_ ?_
  · skip
    refine AWp.region ?_
    refine OpsW.pure rfl rfl (pureOp_move rfl) ?_
    refine OpsW.pure rfl rfl (pureOp_geq rfl rfl) ?_
    refine OpsW.splitP (d := 6) rfl (fun h6 => ?_) (fun h6 => ?_)
    · skip
      refine OpsW.pure rfl rfl (pureOp_move rfl) ?_
      refine OpsW.pure rfl rfl (pureOp_move rfl) ?_
      refine OpsW.pure rfl rfl (pureOp_move rfl) ?_
      refine OpsW.pure rfl rfl (pureOp_nilCheck rfl) ?_
      refine OpsW.pure rfl rfl (pureOp_fieldAddr fa134_0 rfl) ?_
      refine OpsW.load rfl rfl (loadOp_obj (u := lv) sc109 rfl (by repeat (first | exact List.Mem.head _ | apply List.Mem.tail)) rfl) ?_
      refine OpsW.pure rfl rfl (pureOp_len (n := D.last.length) Try.underlying109 rfl (by assumption) hlC (by decide)) ?_
      refine OpsW.pure rfl rfl (pureOp_lss rfl rfl) ?_
      refine OpsW.pure rfl rfl (pureOp_pick_true rfl rfl) ?_
      refine OpsW.pure rfl rfl (pureOp_assign rfl) ?_
      refine OpsW.nil ?_
      refine ⟨_, [.obj b _, .sl lv 256 _, .sl wv 257 _, .mp mb (mapC (nowL D.wait))], _, sub_put (i := 4) rfl (sub_nil), Sel.perm (by repeat (first | exact Sel.nil | (apply Sel.cons; (repeat (first | exact Ext.here | apply Ext.there))))), ?_⟩
      exact ⟨_, (by unfold inF; first | exact ⟨fun h => ⟨h6, of_decide_eq_true h⟩, fun h => decide_eq_true h.2⟩ | exact ⟨fun h => (by cases h), fun h => absurd h.1 h6⟩), rfl, rfl, rfl⟩
    · skip
      refine OpsW.pure rfl rfl (pureOp_move rfl) ?_
      refine OpsW.skipG rfl rfl ?_
      refine OpsW.skipG rfl rfl ?_
      refine OpsW.skipG rfl rfl ?_
      refine OpsW.skipG rfl rfl ?_
      refine OpsW.skipG rfl rfl ?_
      refine OpsW.skipG rfl rfl ?_
      refine OpsW.skipG rfl rfl ?_
      refine OpsW.pure rfl rfl (pureOp_pick_false rfl rfl) ?_
      refine OpsW.pure rfl rfl (pureOp_assign rfl) ?_
      refine OpsW.nil ?_
      refine ⟨_, [.obj b _, .sl lv 256 _, .sl wv 257 _, .mp mb (mapC (nowL D.wait))], _, sub_put (i := 4) rfl (sub_nil), Sel.perm (by repeat (first | exact Sel.nil | (apply Sel.cons; (repeat (first | exact Ext.here | apply Ext.there))))), ?_⟩
      exact ⟨_, (by unfold inF; first | exact ⟨fun h => ⟨h6, of_decide_eq_true h⟩, fun h => decide_eq_true h.2⟩ | exact ⟨fun h => (by cases h), fun h => absurd h.1 h6⟩), rfl, rfl, rfl⟩
  rintro m _ _ ⟨bb, hbb, rfl, rfl, rfl⟩
  refine AWp.ret ?_
  exact ⟨_, [.obj b _, .sl lv 256 _, .sl wv 257 _, .mp mb _], _, Sel.perm (by repeat (first | exact Sel.nil | (apply Sel.cons; (repeat (first | exact Ext.here | apply Ext.there))))), res_tmp rfl rfl, by congr 1; rw [Bool.eq_iff_iff, hbb, decide_eq_true_eq], rfl⟩

set_option maxRecDepth 20000 in
set_option maxHeartbeats 2000000 in
theorem dstep_c (b : Nat) (lv wv : Value) (mb : Nat) (D : Dk) (m : Mem) (h : DkI D lv wv) :
    Ctr Try.prog 83 [.pointer (some ⟨b, 0, none⟩)] m [.obj b [lv, wv, .map (some mb), .int .i64 D.steps, .int .i64 D.fuse, .bool D.down], .sl lv 256 (secC D.last), .sl wv 257 (wrC D.wait), .mp mb (mapC (nowL D.wait))] (fun _ r L => r = iV (stepF D).2 ∧ L = [.obj b [lv, wv, .map (some mb), .int .i64 (stepF D).1.steps, .int .i64 (stepF D).1.fuse, .bool (stepF D).1.down], .sl lv 256 (secC (stepF D).1.last), .sl wv 257 (wrC (stepF D).1.wait), .mp mb (mapC (nowL (stepF D).1.wait))]) := by
  obtain ⟨hl, hw, ok⟩ := h
  have hlC := secC_length ok.sec
  have hwC := wrC_length ok.wait
  have hfz := ok.fuse
  refine Ctr.intro Try.func83 rfl Try.ntmps83 (by simp) fun w0 => ?_
  refine AWp.forget ?_ (sub_put (i := 0) rfl (sub_nil))
  refine AWp.seq ?_
  refine AWp.region ?_
  refine OpsW.pure rfl rfl (pureOp_assign rfl) ?_
  refine OpsW.nil ?_
  refine AWp.forget ?_ (sub_put (i := 0) rfl (sub_put (i := 2) rfl (sub_nil)))
  refine AWp.seq ?_
  refine AWp.seq ?_
  refine AWp.joinW (fun m' T' L' => ∃ bb : Bool, (bb = true ↔ (D.down = true ∨ D.fuse = 0)) ∧ m' = m ∧ T' = put (put (tnil) 13 (.bool bb)) 0 (.pointer (some ⟨b, 0, none⟩)) ∧ L' = [.obj b [lv, wv, .map (some mb), .int .i64 D.steps, .int .i64 D.fuse, .bool D.down], .sl lv 256 (secC D.last), .sl wv 257 (wrC D.wait), .mp mb (mapC (nowL D.wait))]) ?_ ?_
  · skip
    refine AWp.region ?_
    refine OpsW.pure rfl rfl (pureOp_move rfl) ?_
    refine OpsW.pure rfl rfl (pureOp_nilCheck rfl) ?_
    refine OpsW.pure rfl rfl (pureOp_fieldAddr fa134_5 rfl) ?_
    refine OpsW.load rfl rfl (loadOp_obj sc4 rfl (by repeat (first | exact List.Mem.head _ | apply List.Mem.tail)) rfl) ?_
    refine OpsW.split (d := 6) rfl (fun h6 => ?_) (fun h6 => ?_)
    · skip
      refine OpsW.pure rfl rfl (pureOp_move rfl) ?_
      refine OpsW.skipG rfl rfl ?_
      refine OpsW.skipG rfl rfl ?_
      refine OpsW.skipG rfl rfl ?_
      refine OpsW.skipG rfl rfl ?_
      refine OpsW.skipG rfl rfl ?_
      refine OpsW.pure rfl rfl (pureOp_pick_true rfl rfl) ?_
      refine OpsW.nil ?_
      refine ⟨_, [.obj b _, .sl lv 256 _, .sl wv 257 _, .mp mb (mapC (nowL D.wait))], _, sub_put (i := 0) rfl (sub_put (i := 13) rfl (sub_nil)), Sel.perm (by repeat (first | exact Sel.nil | (apply Sel.cons; (repeat (first | exact Ext.here | apply Ext.there))))), ?_⟩
      exact ⟨_, (by first | exact ⟨fun _ => .inl h6, fun _ => rfl⟩ | exact ⟨fun h => .inr (of_decide_eq_true h), fun h => decide_eq_true (h.resolve_left (by rw [h6]; decide))⟩), rfl, rfl, rfl⟩
    · skip
      refine OpsW.pure rfl rfl (pureOp_move rfl) ?_
      refine OpsW.pure rfl rfl (pureOp_move rfl) ?_
      refine OpsW.pure rfl rfl (pureOp_nilCheck rfl) ?_
      refine OpsW.pure rfl rfl (pureOp_fieldAddr fa134_4 rfl) ?_
      refine OpsW.load rfl rfl (loadOp_obj sc3 rfl (by repeat (first | exact List.Mem.head _ | apply List.Mem.tail)) rfl) ?_
      refine OpsW.pure rfl rfl (pureOp_eql rfl rfl) ?_
      refine OpsW.pure rfl rfl (pureOp_pick_false rfl rfl) ?_
      refine OpsW.nil ?_
      refine ⟨_, [.obj b _, .sl lv 256 _, .sl wv 257 _, .mp mb (mapC (nowL D.wait))], _, sub_put (i := 0) rfl (sub_put (i := 13) rfl (sub_nil)), Sel.perm (by repeat (first | exact Sel.nil | (apply Sel.cons; (repeat (first | exact Ext.here | apply Ext.there))))), ?_⟩
      exact ⟨_, (by first | exact ⟨fun _ => .inl h6, fun _ => rfl⟩ | exact ⟨fun h => .inr (of_decide_eq_true h), fun h => decide_eq_true (h.resolve_left (by rw [h6]; decide))⟩), rfl, rfl, rfl⟩
  rintro m _ _ ⟨bb, hbb, rfl, rfl, rfl⟩
  refine AWp.cond rfl (fun ht13 => ?_) (fun ht13 => ?_)
  · skip
    refine AWp.seq ?_
    refine AWp.region ?_
    refine OpsW.pure rfl rfl (pureOp_move rfl) ?_
    refine OpsW.pure rfl rfl (pureOp_nilCheck rfl) ?_
    refine OpsW.pure rfl rfl (pureOp_fieldAddr fa134_5 rfl) ?_
    refine OpsW.upd rfl rfl (by repeat (first | exact Pos.here | apply Pos.there)) (lop_store1 Try.sizeOf4 rfl rfl (by first | rfl | assumption | exact one_sl (by assumption)) (by first | rfl | assumption | (rw [List.length_map]; assumption) | (simp [*]; done) | (simp [*]; omega) | omega)) ?_
    rintro _ _ ⟨rfl, rfl⟩
    refine OpsW.nil ?_
    refine AWp.forget ?_ (sub_put (i := 0) rfl (sub_put (i := 13) rfl (sub_nil)))
    refine AWp.seq ?_
    refine AWp.region ?_
    refine OpsW.pure rfl rfl (pureOp_assign rfl) ?_
    refine OpsW.nil ?_
    refine AWp.forget ?_ (sub_put (i := 0) rfl (sub_put (i := 2) rfl (sub_put (i := 13) rfl (sub_nil))))
    refine AWp.ret ?_
    exact ⟨_, [.obj b _, .sl lv 256 _, .sl wv 257 _, .mp mb _], _, Sel.perm (by repeat (first | exact Sel.nil | (apply Sel.cons; (repeat (first | exact Ext.here | apply Ext.there))))), res_tmp rfl rfl, by rw [stepF, if_pos (hbb.1 ht13)]; rfl, by rw [stepF, if_pos (hbb.1 ht13)]; rfl⟩
  refine AWp.skip ?_
  refine AWp.seq ?_
  refine AWp.seq ?_
  refine AWp.region ?_
  refine OpsW.pure rfl rfl (pureOp_move rfl) ?_
  refine OpsW.pure rfl rfl (pureOp_nilCheck rfl) ?_
  refine OpsW.pure rfl rfl (pureOp_fieldAddr fa134_4 rfl) ?_
  refine OpsW.load rfl rfl (loadOp_obj sc3 rfl (by repeat (first | exact List.Mem.head _ | apply List.Mem.tail)) rfl) ?_
  refine OpsW.pure rfl rfl (pureOp_gtr rfl rfl) ?_
  refine OpsW.nil ?_
  refine AWp.forget ?_ (sub_put (i := 0) rfl (sub_put (i := 13) rfl (sub_put (i := 21) rfl (sub_nil))))
  refine AWp.joinW (fun m' T' L' => ∃ (f2 : Int), f2 = (if 0 < D.fuse then D.fuse - 1 else D.fuse) ∧ m' = m ∧ T' = put (tnil) 0 (.pointer (some ⟨b, 0, none⟩)) ∧ L' = [.obj b [lv, wv, .map (some mb), .int .i64 D.steps, .int .i64 f2, .bool D.down], .sl lv 256 (secC D.last), .sl wv 257 (wrC D.wait), .mp mb (mapC (nowL D.wait))]) ?_ ?_
  · skip
    refine AWp.condP rfl (fun ht21 => ?_) (fun ht21 => ?_)
    · skip
      refine AWp.region ?_
      refine OpsW.pure rfl rfl (pureOp_move rfl) ?_
      refine OpsW.pure rfl rfl (pureOp_nilCheck rfl) ?_
      refine OpsW.pure rfl rfl (pureOp_fieldAddr fa134_4 rfl) ?_
      refine OpsW.load rfl rfl (loadOp_obj sc3 rfl (by repeat (first | exact List.Mem.head _ | apply List.Mem.tail)) rfl) ?_
      refine OpsW.pure rfl rfl (pureOp_subI rfl rfl (by omega)) ?_
      refine OpsW.pure rfl rfl (pureOp_nilCheck rfl) ?_
      refine OpsW.pure rfl rfl (pureOp_fieldAddr fa134_4 rfl) ?_
      refine OpsW.upd rfl rfl (by repeat (first | exact Pos.here | apply Pos.there)) (lop_store1 Try.sizeOf3 rfl rfl (by first | rfl | assumption | exact one_sl (by assumption)) (by first | rfl | assumption | (rw [List.length_map]; assumption) | (simp [*]; done) | (simp [*]; omega) | omega)) ?_
      rintro _ _ ⟨rfl, rfl⟩
      refine OpsW.nil ?_
      refine ⟨_, [.obj b _, .sl lv 256 _, .sl wv 257 _, .mp mb (mapC (nowL D.wait))], _, sub_put (i := 0) rfl (sub_nil), Sel.perm (by repeat (first | exact Sel.nil | (apply Sel.cons; (repeat (first | exact Ext.here | apply Ext.there))))), ?_⟩
      exact ⟨D.fuse - 1, by rw [if_pos ht21], rfl, rfl, rfl⟩
    · skip
      refine AWp.skip ?_
      refine ⟨_, [.obj b _, .sl lv 256 _, .sl wv 257 _, .mp mb (mapC (nowL D.wait))], _, sub_put (i := 0) rfl (sub_nil), Sel.perm (by repeat (first | exact Sel.nil | (apply Sel.cons; (repeat (first | exact Ext.here | apply Ext.there))))), ?_⟩
      exact ⟨D.fuse, by rw [if_neg ht21], rfl, rfl, rfl⟩
  rintro m _ _ ⟨f2, hf2, rfl, rfl, rfl⟩
  refine AWp.seq ?_
  refine AWp.region ?_
  refine OpsW.pure rfl rfl (pureOp_move rfl) ?_
  refine OpsW.pure rfl rfl (pureOp_nilCheck rfl) ?_
  refine OpsW.pure rfl rfl (pureOp_fieldAddr fa134_3 rfl) ?_
  refine OpsW.load rfl rfl (loadOp_obj sc3 rfl (by repeat (first | exact List.Mem.head _ | apply List.Mem.tail)) rfl) ?_
  refine OpsW.pure rfl rfl (pureOp_add rfl rfl) ?_
  refine OpsW.pure rfl rfl (pureOp_nilCheck rfl) ?_
  refine OpsW.pure rfl rfl (pureOp_fieldAddr fa134_3 rfl) ?_
  refine OpsW.upd rfl rfl (by repeat (first | exact Pos.here | apply Pos.there)) (lop_store1 Try.sizeOf3 rfl rfl (by first | rfl | assumption | exact one_sl (by assumption)) (by first | rfl | assumption | (rw [List.length_map]; assumption) | (simp [*]; done) | (simp [*]; omega) | omega)) ?_
  rintro _ _ ⟨rfl, rfl⟩
  refine OpsW.nil ?_
  refine AWp.forget ?_ (sub_put (i := 0) rfl (sub_nil))
  refine AWp.seq ?_
  refine AWp.region ?_
  refine OpsW.pure rfl rfl (pureOp_assign rfl) ?_
  refine OpsW.nil ?_
  refine AWp.forget ?_ (sub_put (i := 0) rfl (sub_put (i := 2) rfl (sub_nil)))
  refine AWp.ret ?_
  have hn : ¬ (D.down = true ∨ D.fuse = 0) := fun h => by rw [hbb.2 h] at ht13; cases ht13
  exact ⟨_, [.obj b _, .sl lv 256 _, .sl wv 257 _, .mp mb _], _, Sel.perm (by repeat (first | exact Sel.nil | (apply Sel.cons; (repeat (first | exact Ext.here | apply Ext.there))))), res_tmp rfl rfl, by rw [stepF, if_neg hn]; rfl, by rw [stepF, if_neg hn, hf2]; rfl⟩

set_option maxRecDepth 20000 in
set_option maxHeartbeats 2000000 in
theorem dread_c (b : Nat) (lv wv : Value) (mb : Nat) (D : Dk) (i : Int) (m : Mem) (h : DkI D lv wv) :
    Ctr Try.prog 87 [.pointer (some ⟨b, 0, none⟩), .int .i64 i] m [.obj b [lv, wv, .map (some mb), .int .i64 D.steps, .int .i64 D.fuse, .bool D.down], .sl lv 256 (secC D.last), .sl wv 257 (wrC D.wait), .mp mb (mapC (nowL D.wait))] (fun _ r L => r = .tuple #[.agg ((readF D i).1.map bV).toArray, iV (readF D i).2] ∧ L = [.obj b [lv, wv, .map (some mb), .int .i64 D.steps, .int .i64 D.fuse, .bool D.down], .sl lv 256 (secC D.last), .sl wv 257 (wrC D.wait), .mp mb (mapC (nowL D.wait))]) := by
  obtain ⟨hl, hw, ok⟩ := h
  have hlC := secC_length ok.sec
  have hwC := wrC_length ok.wait
  refine Ctr.intro Try.func87 rfl Try.ntmps87 (by simp) fun w0 => ?_
  refine AWp.forget ?_ (sub_put (i := 0) rfl (sub_put (i := 1) rfl (sub_nil)))
  refine AWp.seq ?_
  refine AWp.region ?_
  refine OpsW.alloc rfl rfl (allocOp_alloc zt24) ?_
  rintro _ _ ⟨b4, rfl, rfl⟩
  refine OpsW.pure rfl rfl (pureOp_assign rfl) ?_
  refine OpsW.nil ?_
  refine AWp.forget ?_ (sub_put (i := 0) rfl (sub_put (i := 1) rfl (sub_put (i := 4) rfl (sub_put (i := 5) rfl (sub_nil)))))
  refine AWp.seq ?_
  refine AWp.block ?_
  refine AWp.seq ?_
  refine AWp.region ?_
  refine OpsW.pure rfl rfl (pureOp_move rfl) ?_
  refine OpsW.pure rfl rfl (pureOp_move rfl) ?_
  refine OpsW.callA rfl rfl (callOp Try.call82 rfl) (Sel.perm (L' := [.obj b _, .sl lv 256 _, .sl wv 257 _, .mp mb _]) (by repeat (first | exact Sel.nil | (apply Sel.cons; (repeat (first | exact Ext.here | apply Ext.there)))))) (dinside_c b lv wv mb D i _ ⟨hl, hw, ok⟩) ?_
  rintro _ _ ⟨rfl, rfl⟩
  refine OpsW.pure rfl rfl (pureOp_notP rfl) ?_
  refine OpsW.pure rfl rfl (pureOp_assign rfl) ?_
  refine OpsW.nil ?_
  refine AWp.forget ?_ (sub_put (i := 0) rfl (sub_put (i := 1) rfl (sub_put (i := 4) rfl (sub_put (i := 5) rfl (sub_put (i := 8) rfl (sub_nil))))))
  refine AWp.condP rfl (fun ht8 => ?_) (fun ht8 => ?_)
  · skip
    refine AWp.seq ?_
    refine AWp.region ?_
    refine OpsW.pure rfl rfl (opBuildArr0 arr24 zt24) ?_
    refine OpsW.upd rfl rfl (by repeat (first | exact Pos.here | apply Pos.there)) (lop_storeAllN 256 Try.sizeOf24 rfl rfl List.length_replicate List.length_replicate (fun u hu => by rw [List.eq_of_mem_replicate hu]; rfl)) ?_
    rintro _ _ ⟨rfl, rfl⟩
    refine OpsW.pure rfl rfl (pureOp_assign rfl) ?_
    refine OpsW.nil ?_
    refine AWp.forget ?_ (sub_put (i := 0) rfl (sub_put (i := 1) rfl (sub_put (i := 4) rfl (sub_put (i := 5) rfl (sub_put (i := 8) rfl (sub_nil))))))
    refine AWp.ret ?_
    exact ⟨_, [.obj b _, .sl lv 256 _, .sl wv 257 _, .mp mb _], _, Sel.perm (by repeat (first | exact Sel.nil | (apply Sel.cons; (repeat (first | exact Ext.here | apply Ext.there))))), resCellTmp rfl rfl (by repeat (first | exact List.Mem.head _ | apply List.Mem.tail)) List.length_replicate ag24 rfl, by rw [readF, if_neg ht8]; rw [← zero256_map]; rfl, rfl⟩
  refine AWp.seq ?_
  refine AWp.region ?_
  refine OpsW.pure rfl rfl (pureOp_move rfl) ?_
  refine OpsW.pure rfl rfl (pureOp_nilCheck rfl) ?_
  refine OpsW.pure rfl rfl (pureOp_fieldAddr fa134_5 rfl) ?_
  refine OpsW.load rfl rfl (loadOp_obj sc4 rfl (by repeat (first | exact List.Mem.head _ | apply List.Mem.tail)) rfl) ?_
  refine OpsW.pure rfl rfl (pureOp_assign rfl) ?_
  refine OpsW.nil ?_
  refine AWp.forget ?_ (sub_put (i := 0) rfl (sub_put (i := 1) rfl (sub_put (i := 4) rfl (sub_put (i := 5) rfl (sub_put (i := 8) rfl (sub_put (i := 14) rfl (sub_nil)))))))
  refine AWp.cond rfl (fun ht14 => ?_) (fun ht14 => ?_)
  · skip
    refine AWp.seq ?_
    refine AWp.region ?_
    refine OpsW.pure rfl rfl (opBuildArr0 arr24 zt24) ?_
    refine OpsW.upd rfl rfl (by repeat (first | exact Pos.here | apply Pos.there)) (lop_storeAllN 256 Try.sizeOf24 rfl rfl List.length_replicate List.length_replicate (fun u hu => by rw [List.eq_of_mem_replicate hu]; rfl)) ?_
    rintro _ _ ⟨rfl, rfl⟩
    refine OpsW.pure rfl rfl (pureOp_assign rfl) ?_
    refine OpsW.nil ?_
    refine AWp.forget ?_ (sub_put (i := 0) rfl (sub_put (i := 1) rfl (sub_put (i := 4) rfl (sub_put (i := 5) rfl (sub_put (i := 8) rfl (sub_put (i := 14) rfl (sub_nil)))))))
    refine AWp.ret ?_
    exact ⟨_, [.obj b _, .sl lv 256 _, .sl wv 257 _, .mp mb _], _, Sel.perm (by repeat (first | exact Sel.nil | (apply Sel.cons; (repeat (first | exact Ext.here | apply Ext.there))))), resCellTmp rfl rfl (by repeat (first | exact List.Mem.head _ | apply List.Mem.tail)) List.length_replicate ag24 rfl, by rw [readF, if_pos (Decidable.of_not_not ht8), if_pos ht14]; rw [← zero256_map]; rfl, rfl⟩
  refine AWp.skip ?_
  refine AWp.seq ?_
  refine AWp.seq ?_
  have hin : inF D i := Decidable.of_not_not ht8
  obtain ⟨j, rfl⟩ : ∃ q : Nat, i = (q : Int) := ⟨i.toNat, by unfold inF at hin; omega⟩
  have hj : j < D.last.length := by unfold inF at hin; omega
  obtain ⟨g, hg⟩ : ∃ g, g = aget (nowL D.wait) (j : Int) := ⟨_, rfl⟩
  have hgl : (g.getD zero256).length = 256 := by rw [hg]; exact now_len ok.wait (j : Int)
  refine AWp.region ?_
  refine OpsW.pure rfl rfl (pureOp_move rfl) ?_
  refine OpsW.pure rfl rfl (pureOp_nilCheck rfl) ?_
  refine OpsW.pure rfl rfl (pureOp_fieldAddr fa134_2 rfl) ?_
  refine OpsW.load rfl rfl (loadOp_obj sc131 rfl (by repeat (first | exact List.Mem.head _ | apply List.Mem.tail)) rfl) ?_
  refine OpsW.pure rfl rfl (pureOp_move rfl) ?_
  refine OpsW.load rfl rfl (loadOp_lookup (zs := zero256) Try.underlying131 Try.underlying3 zt24z za24 rfl rfl (by repeat (first | exact List.Mem.head _ | apply List.Mem.tail))) ?_
  rw [← hg]
  refine OpsW.pure rfl rfl (pureOp_move rfl) ?_
  refine OpsW.pure rfl rfl (pureOp_extract rfl rfl) ?_
  refine OpsW.pure rfl rfl (pureOp_extract rfl rfl) ?_
  refine OpsW.alloc rfl rfl (allocOp_alloc zt24) ?_
  rintro _ _ ⟨b6, rfl, rfl⟩
  refine OpsW.upd rfl rfl (by repeat (first | exact Pos.here | apply Pos.there)) (lop_storeAllN 256 Try.sizeOf24 rfl rfl List.length_replicate (by simp [hgl]) (by first | exact one_map (fun _ => rfl) _ | exact one_rfl rfl | exact one_sup _ | (simp [one, *]; done))) ?_
  rintro _ _ ⟨rfl, rfl⟩
  refine OpsW.pure rfl rfl (pureOp_assign rfl) ?_
  refine OpsW.nil ?_
  refine AWp.forget ?_ (sub_put (i := 0) rfl (sub_put (i := 1) rfl (sub_put (i := 4) rfl (sub_put (i := 5) rfl (sub_put (i := 6) rfl (sub_put (i := 7) rfl (sub_put (i := 8) rfl (sub_put (i := 14) rfl (sub_nil)))))))))
  refine AWp.seq ?_
  refine AWp.region ?_
  refine OpsW.pure rfl rfl (pureOp_move rfl) ?_
  refine OpsW.nil ?_
  refine AWp.forget ?_ (sub_put (i := 0) rfl (sub_put (i := 1) rfl (sub_put (i := 4) rfl (sub_put (i := 5) rfl (sub_put (i := 6) rfl (sub_put (i := 7) rfl (sub_put (i := 8) rfl (sub_put (i := 14) rfl (sub_put (i := 29) rfl (sub_nil))))))))))
  refine AWp.cond rfl (fun ht29 => ?_) (fun ht29 => ?_)
  · skip
    refine AWp.seq ?_
    refine AWp.region ?_
    refine OpsW.load rfl rfl (loadAll rfl (by repeat (first | exact List.Mem.head _ | apply List.Mem.tail)) (by simp [hgl]) ag24) ?_
    refine OpsW.upd rfl rfl (by repeat (first | exact Pos.here | apply Pos.there)) (lop_storeAllN 256 Try.sizeOf24 rfl rfl List.length_replicate (by simp [hgl]) (by first | exact one_map (fun _ => rfl) _ | exact one_rfl rfl | exact one_sup _ | (simp [one, *]; done))) ?_
    rintro _ _ ⟨rfl, rfl⟩
    refine OpsW.pure rfl rfl (pureOp_assign rfl) ?_
    refine OpsW.nil ?_
    refine AWp.forget ?_ (sub_put (i := 0) rfl (sub_put (i := 1) rfl (sub_put (i := 4) rfl (sub_put (i := 5) rfl (sub_put (i := 6) rfl (sub_put (i := 7) rfl (sub_put (i := 8) rfl (sub_put (i := 14) rfl (sub_put (i := 29) rfl (sub_nil))))))))))
    refine AWp.ret ?_
    exact ⟨_, [.obj b _, .sl lv 256 _, .sl wv 257 _, .mp mb _], _, Sel.perm (by repeat (first | exact Sel.nil | (apply Sel.cons; (repeat (first | exact Ext.here | apply Ext.there))))), resCellTmp rfl rfl (by repeat (first | exact List.Mem.head _ | apply List.Mem.tail)) (by simp [hgl]) ag24 rfl, (by rw [readF, if_pos hin, if_neg (by rw [ht14]; decide), seeF, Int.toNat_natCast, ← hg]; cases g; (cases ht29); rfl), rfl⟩
  refine AWp.skip ?_
  refine AWp.seq ?_
  have hsl := ok.sec.getD hj
  refine AWp.region ?_
  refine OpsW.pure rfl rfl (pureOp_move rfl) ?_
  refine OpsW.pure rfl rfl (pureOp_nilCheck rfl) ?_
  refine OpsW.pure rfl rfl (pureOp_fieldAddr fa134_0 rfl) ?_
  refine OpsW.load rfl rfl (loadOp_obj (u := lv) sc109 rfl (by repeat (first | exact List.Mem.head _ | apply List.Mem.tail)) rfl) ?_
  refine OpsW.pure rfl rfl (pureOp_move rfl) ?_
  refine OpsW.pure rfl rfl (opN_indexSl (n := D.last.length) Try.underlying109 Try.sizeOf24 rfl (by assumption) hlC (by decide) rfl (by omega)) ?_
  refine OpsW.load rfl rfl (loadSec (i := j) (ls := D.last) ag24 rfl (Rd.of_sl (by repeat (first | exact List.Mem.head _ | apply List.Mem.tail)) hl) ok.sec hj (by decide)) ?_
  refine OpsW.upd rfl rfl (by repeat (first | exact Pos.here | apply Pos.there)) (lop_storeAllN 256 Try.sizeOf24 rfl rfl List.length_replicate (by rw [List.length_map]; exact hsl) (by first | exact one_map (fun _ => rfl) _ | exact one_rfl rfl | exact one_sup _ | (simp [one, *]; done))) ?_
  rintro _ _ ⟨rfl, rfl⟩
  refine OpsW.pure rfl rfl (pureOp_assign rfl) ?_
  refine OpsW.nil ?_
  refine AWp.forget ?_ (sub_put (i := 0) rfl (sub_put (i := 1) rfl (sub_put (i := 4) rfl (sub_put (i := 5) rfl (sub_put (i := 6) rfl (sub_put (i := 7) rfl (sub_put (i := 8) rfl (sub_put (i := 14) rfl (sub_put (i := 29) rfl (sub_nil))))))))))
  refine AWp.ret ?_
  exact ⟨_, [.obj b _, .sl lv 256 _, .sl wv 257 _, .mp mb _], _, Sel.perm (by repeat (first | exact Sel.nil | (apply Sel.cons; (repeat (first | exact Ext.here | apply Ext.there))))), resCellTmp rfl rfl (by repeat (first | exact List.Mem.head _ | apply List.Mem.tail)) (by rw [List.length_map]; exact hsl) ag24 rfl, (by rw [readF, if_pos hin, if_neg (by rw [ht14]; decide), seeF, Int.toNat_natCast, ← hg]; cases g; rfl; cases ht29), rfl⟩

end Go.Proofs.Ytpnipajadjeifaa.Sep
