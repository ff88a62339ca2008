/- The walks of super.Get, super.Choose, and of the reference 08 for these. -/
import Derived.Test.YtpnipajadjeifaaSuper1
import Derived.Test.YtpnipajadjeifaaProg
namespace Go.Proofs.Ytpnipajadjeifaa.Sep
open Go Go.RowKit
set_option linter.unusedVariables false
set_option linter.unusedSimpArgs false
theorem zt29 : ZeroT Try.prog 29 ([.int .i64 0, .int .i64 0, .int .i64 0, .int .i64 0, .int .i64 0]) := ⟨_, Try.zeroValue29, rfl⟩
theorem by118 : BytesT Try.prog 118 8 := ⟨_, Try.underlying118, Try.underlying5, by kernel_rfl, by kernel_rfl⟩
theorem st29 : StructT Try.prog 29 [(0, 4), (4, 1)] ([.int .i64 0, .int .i64 0, .int .i64 0, .int .i64 0, .int .i64 0]) := ⟨_, _, Try.runUnderlying29, Try.zeroValue29, rfl, by intro w; simp [Try.sizeOf23, Try.sizeOf3]⟩
theorem st23 : StructT Try.prog 23 [(0, 1), (1, 1), (2, 1), (3, 1)] ([.int .i64 0, .int .i64 0, .int .i64 0, .int .i64 0]) := ⟨_, _, Try.runUnderlying23, Try.zeroValue23, rfl, by intro w; simp [Try.sizeOf3]⟩
theorem zt23 : ZeroT Try.prog 23 ([.int .i64 0, .int .i64 0, .int .i64 0, .int .i64 0]) := ⟨_, Try.zeroValue23, rfl⟩
theorem zt31 : ZeroT Try.prog 31 ([.int .i64 0, .int .i64 0, .int .i64 0, .int .i64 0, .int .i64 0]) := ⟨_, Try.zeroValue31, rfl⟩
theorem st31 : StructT Try.prog 31 [(0, 4), (4, 1)] ([.int .i64 0, .int .i64 0, .int .i64 0, .int .i64 0, .int .i64 0]) := ⟨_, _, Try.runUnderlying31, Try.zeroValue31, rfl, by intro w; simp [Try.sizeOf23, Try.sizeOf3]⟩
theorem ag31 : AggT Try.prog 31 5 := ⟨Try.isAgg31, Try.sizeOf31⟩
theorem by24 : BytesT Try.prog 24 256 := ⟨_, Try.underlying24, Try.underlying5, by kernel_rfl, by kernel_rfl⟩
theorem ag29 : AggT Try.prog 29 5 := ⟨Try.isAgg29, Try.sizeOf29⟩


set_option maxRecDepth 20000 in
set_option maxHeartbeats 4000000 in
theorem sget_c (x : List UInt8) (m : Mem) (hx : x.length = 256) :
    Ctr Try.prog 16 [.agg (x.map bV).toArray] m [] (fun _ r L => r = .tuple #[.agg (supC x).toArray, iV (supK x)] ∧ L = []) := by
  refine Ctr.intro Try.func16 rfl Try.ntmps16 (by simp) fun w0 => ?_
  refine AWp.forget ?_ (sub_put (i := 0) rfl (sub_nil))
  refine AWp.seq ?_
  refine AWp.region ?_
  refine OpsW.alloc rfl rfl (allocOp_boxAgg rfl) ?_
  rintro _ _ ⟨b1, rfl, rfl⟩
  refine OpsW.alloc rfl rfl (allocOp_alloc zt29) ?_
  rintro _ _ ⟨b2, rfl, rfl⟩
  refine OpsW.pure rfl rfl (pureOp_assign rfl) ?_
  refine OpsW.nil ?_
  refine AWp.forget ?_ (sub_put (i := 0) rfl (sub_put (i := 1) rfl (sub_put (i := 2) rfl (sub_put (i := 3) rfl (sub_nil)))))
  refine AWp.seq ?_
  refine AWp.seq ?_
  refine AWp.keep (L' := [.obj b1 _, .obj b2 _]) (by repeat (first | exact Sel.nil | (apply Sel.cons; (repeat (first | exact Ext.here | apply Ext.there))))) ?_
  refine AWp.freeze (fun m1 hm1 hat => ?_)
  have hall : Rd m1 (arrSl b1 0 256 0 256 1) 1 (x.map bV) := arr_all (arr_rd 0 256 hat hx (by decide) (by decide)) hx
  have hs8 : Rd m1 (arrSl b1 0 256 0 8 1) 1 ((x.take 8).map bV) := arr_rd 0 8 hat hx (by decide) (by decide)
  have hw : Rd m1 (arrSl b1 0 256 8 252 1) 1 (((x.drop 8).take 244).map bV) := arr_rd 8 252 hat hx (by decide) (by decide)
  have ho8 := hs8.1
  refine AWp.joinW (fun m' T' L' => ∃ bb : Bool, (bb = true ↔ ¬ (holdsF x = true ∧ x.take 8 = markL)) ∧ m' = m1 ∧ T' = put (put (put (tnil) 16 (.bool bb)) 2 (.pointer (some ⟨b2, 0, none⟩))) 1 (.pointer (some ⟨b1, 0, none⟩)) ∧ L' = [.obj b2 [.int .i64 0, .int .i64 0, .int .i64 0, .int .i64 0, .int .i64 0]]) ?_ ?_
  · skip
    refine AWp.draw [(0, .pure), (1, .call), (2, .pure), (3, .pure), (4, .pure), (5, .pure), (6, .load), (7, .call), (8, .pure), (9, .pure)] rfl (by decide +kernel) Weak.perm ?_
    refine ⟨_, _, rfl, OpStep.pure rfl rfl (pureOp_sliceArr (n := 256) 0 256 Try.underlying24 Try.sizeOf5 rfl (.inl ⟨rfl, rfl⟩) (.inl ⟨rfl, rfl⟩) (by decide) (by decide)), ?_⟩
    rintro _ _ ⟨rfl, rfl⟩ -
    refine ⟨_, _, rfl, OpStep.call rfl rfl (callOp Try.call75 rfl) (holds_c _ x _ hall.ro (by omega)), ?_⟩
    rintro _ _ ⟨_, _, ⟨rfl, rfl⟩, rfl, rfl⟩ -
    refine chain_splitB (d := 8) rfl (fun h8 => ?_) (fun h8 => ?_)
    · skip
      refine ⟨_, _, rfl, OpStep.pure rfl rfl (pureOp_not rfl), ?_⟩
      rintro _ _ ⟨rfl, rfl⟩ -
      refine ⟨_, _, rfl, OpStep.pure rfl rfl (pureOp_move rfl), ?_⟩
      rintro _ _ ⟨rfl, rfl⟩ -
      refine ⟨_, _, rfl, OpStep.pure rfl rfl (pureOp_sliceArr (n := 256) (0) (8) Try.underlying24 Try.sizeOf5 rfl (.inl ⟨rfl, rfl⟩) (.inr ⟨_, _, _, rfl, rfl, rfl⟩) (by omega) (by omega)), ?_⟩
      rintro _ _ ⟨rfl, rfl⟩ -
      refine ⟨_, _, rfl, OpStep.pure rfl rfl (opN_arrayAt Try.underlying118 rfl (by assumption) (by simp; rfl) (by omega) (by decide)), ?_⟩
      rintro _ _ ⟨rfl, rfl⟩ -
      refine ⟨_, _, rfl, OpStep.load rfl rfl (loadOp_arr (l := x.take 8) ag118 rfl hs8.ro (by simp; omega) (by decide)), ?_⟩
      rintro _ _ ⟨rfl, rfl⟩ -
      rw [List.take_take, Nat.min_self]
      refine ⟨_, _, rfl, OpStep.call rfl rfl (callOp Try.call68 rfl) (mark_c _), ?_⟩
      rintro _ _ ⟨_, _, ⟨rfl, rfl⟩, rfl, rfl⟩ -
      refine ⟨_, _, rfl, OpStep.pure rfl rfl (opB_neq by118 dpth rfl rfl (by simp; omega) rfl), ?_⟩
      rintro _ _ ⟨rfl, rfl⟩ -
      refine ⟨_, _, rfl, OpStep.pure rfl rfl (pureOp_pick_false rfl rfl), ?_⟩
      rintro _ _ ⟨rfl, rfl⟩ -
      refine ⟨_, [.obj b2 _], _, sub_put (i := 1) rfl (sub_put (i := 2) rfl (sub_put (i := 16) rfl (sub_nil))), Sel.perm (by repeat (first | exact Sel.nil | (apply Sel.cons; (repeat (first | exact Ext.here | apply Ext.there))))), ?_⟩
      exact ⟨_, (by simp [h8]), rfl, rfl, rfl⟩
    · skip
      refine ⟨_, _, rfl, OpStep.pure rfl rfl (pureOp_not rfl), ?_⟩
      rintro _ _ ⟨rfl, rfl⟩ -
      refine ⟨_, _, rfl, OpStep.pure rfl rfl (pureOp_move rfl), ?_⟩
      rintro _ _ ⟨rfl, rfl⟩ -
      refine ⟨_, _, rfl, OpStep.skip rfl rfl, ?_⟩
      rintro _ _ ⟨rfl, rfl⟩ -
      refine ⟨_, _, rfl, OpStep.skip rfl rfl, ?_⟩
      rintro _ _ ⟨rfl, rfl⟩ -
      refine ⟨_, _, rfl, OpStep.skip rfl rfl, ?_⟩
      rintro _ _ ⟨rfl, rfl⟩ -
      refine ⟨_, _, rfl, OpStep.skip rfl rfl, ?_⟩
      rintro _ _ ⟨rfl, rfl⟩ -
      refine ⟨_, _, rfl, OpStep.skip rfl rfl, ?_⟩
      rintro _ _ ⟨rfl, rfl⟩ -
      refine ⟨_, _, rfl, OpStep.pure rfl rfl (pureOp_pick_true rfl rfl), ?_⟩
      rintro _ _ ⟨rfl, rfl⟩ -
      refine ⟨_, [.obj b2 _], _, sub_put (i := 1) rfl (sub_put (i := 2) rfl (sub_put (i := 16) rfl (sub_nil))), Sel.perm (by repeat (first | exact Sel.nil | (apply Sel.cons; (repeat (first | exact Ext.here | apply Ext.there))))), ?_⟩
      exact ⟨_, (by simp [h8]), rfl, rfl, rfl⟩
  rintro m _ _ ⟨bb, hbb, rfl, rfl, rfl⟩
  refine AWp.cond rfl (fun ht16 => ?_) (fun ht16 => ?_)
  · skip
    refine AWp.seq ?_
    refine AWp.region ?_
    refine OpsW.pure rfl rfl (opBuildStruct st29 rfl (.nil)) ?_
    refine OpsW.upd rfl rfl (by repeat (first | exact Pos.here | apply Pos.there)) (lop_storeAllN 5 Try.sizeOf29 rfl rfl (by first | rfl | assumption | (rw [List.length_map]; assumption) | (simp [*]; done) | (simp [*]; omega) | omega) (by first | rfl | assumption | (rw [List.length_map]; assumption) | (simp [*]; done) | (simp [*]; omega) | omega) (by first | exact one_map (fun _ => rfl) _ | exact one_rfl rfl | exact one_sup _ | (simp [one, *]; done))) ?_
    rintro _ _ ⟨rfl, rfl⟩
    refine OpsW.pure rfl rfl (pureOp_assign rfl) ?_
    refine OpsW.nil ?_
    refine AWp.forget ?_ (sub_put (i := 1) rfl (sub_put (i := 2) rfl (sub_put (i := 3) rfl (sub_put (i := 16) rfl (sub_nil)))))
    refine AWp.ret ?_
    have hgs : ¬ goodS x := fun h => hbb.1 ht16 h.1
    exact ⟨_, [], _, permNone, resCellTmp rfl rfl (by repeat (first | exact List.Mem.head _ | apply List.Mem.tail)) (by rfl) ag29 rfl, by rw [supC, if_neg hgs, supK, if_neg hgs]; rfl, rfl⟩
  refine AWp.skip ?_
  refine AWp.seq ?_
  have hgood : holdsF x = true ∧ x.take 8 = markL := Decidable.byContradiction fun h => by rw [hbb.2 h] at ht16; cases ht16
  refine AWp.region ?_
  refine OpsW.pure rfl rfl (pureOp_sliceArr (n := 256) (8) (252) Try.underlying24 Try.sizeOf5 rfl (.inr ⟨_, _, _, rfl, rfl, rfl⟩) (.inr ⟨_, _, _, rfl, rfl, rfl⟩) (by omega) (by omega)) ?_
  refine OpsW.callA rfl rfl (callOp Try.call76 rfl) permNone (from_c (arrSl b1 0 256 8 252 1) _ (one_sl hw.1)) ?_
  rintro _ _ ⟨b19, rfl, rfl⟩
  refine OpsW.pure rfl rfl (pureOp_assign rfl) ?_
  refine OpsW.nil ?_
  refine AWp.forget ?_ (sub_put (i := 1) rfl (sub_put (i := 2) rfl (sub_put (i := 4) rfl (sub_put (i := 16) rfl (sub_nil)))))
  refine AWp.seq ?_
  obtain ⟨d0, hd0⟩ : ∃ d, d = (x.drop 8).take 244 := ⟨_, rfl⟩
  have hd0l : d0.length = 244 := by rw [hd0]; simp; omega
  have hg : ∀ k n, k + n ≤ 244 → (d0.drop k).take n = (x.drop (8 + k)).take n := fun k n h => by rw [hd0, piece 8 244 k n h]
  rw [← hd0] at hw
  refine AWp.region ?_
  refine OpsW.pure rfl rfl (pureOp_move rfl) ?_
  refine OpsW.callA rfl rfl (callOp Try.call77 rfl) (Sel.perm (L' := [.obj b19 _]) (by repeat (first | exact Sel.nil | (apply Sel.cons; (repeat (first | exact Ext.here | apply Ext.there)))))) ((num_c b19 _ false (d0.drop 0) 2 m hw (by simp; omega) (by decide)).more (fun _ _ h => .inl h)) ?_
  rintro _ _ ⟨v21, rfl, hr21, rfl⟩
  obtain ⟨hc1, hc2, hc3⟩ := cur_ok (d := d0.drop 0) (n := 2) (by simp; omega)
  rw [hc1, hc3, hg 0 2 (by decide)]
  rw [hc2, List.drop_drop] at hr21
  clear hc1 hc2 hc3
  refine OpsW.pure rfl rfl (op_conv64_I Try.underlying122 Try.underlying3 rfl (Nat.lt_trans (gN_lt x 8 2 (by decide)) (by decide))) ?_
  refine OpsW.pure rfl rfl (pureOp_move rfl) ?_
  refine OpsW.callA rfl rfl (callOp Try.call77 rfl) (Sel.perm (L' := [.obj b19 _]) (by repeat (first | exact Sel.nil | (apply Sel.cons; (repeat (first | exact Ext.here | apply Ext.there)))))) ((num_c b19 v21 false (d0.drop 2) 2 m hr21 (by simp; omega) (by decide)).more (fun _ _ h => .inl h)) ?_
  rintro _ _ ⟨v24, rfl, hr24, rfl⟩
  obtain ⟨hc1, hc2, hc3⟩ := cur_ok (d := d0.drop 2) (n := 2) (by simp; omega)
  rw [hc1, hc3, hg 2 2 (by decide)]
  rw [hc2, List.drop_drop] at hr24
  clear hc1 hc2 hc3
  refine OpsW.pure rfl rfl (op_conv64_I Try.underlying122 Try.underlying3 rfl (Nat.lt_trans (gN_lt x 10 2 (by decide)) (by decide))) ?_
  refine OpsW.pure rfl rfl (pureOp_move rfl) ?_
  refine OpsW.callA rfl rfl (callOp Try.call77 rfl) (Sel.perm (L' := [.obj b19 _]) (by repeat (first | exact Sel.nil | (apply Sel.cons; (repeat (first | exact Ext.here | apply Ext.there)))))) ((num_c b19 v24 false (d0.drop 4) 2 m hr24 (by simp; omega) (by decide)).more (fun _ _ h => .inl h)) ?_
  rintro _ _ ⟨v27, rfl, hr27, rfl⟩
  obtain ⟨hc1, hc2, hc3⟩ := cur_ok (d := d0.drop 4) (n := 2) (by simp; omega)
  rw [hc1, hc3, hg 4 2 (by decide)]
  rw [hc2, List.drop_drop] at hr27
  clear hc1 hc2 hc3
  refine OpsW.pure rfl rfl (op_conv64_I Try.underlying122 Try.underlying3 rfl (Nat.lt_trans (gN_lt x 12 2 (by decide)) (by decide))) ?_
  refine OpsW.pure rfl rfl (pureOp_move rfl) ?_
  refine OpsW.callA rfl rfl (callOp Try.call77 rfl) (Sel.perm (L' := [.obj b19 _]) (by repeat (first | exact Sel.nil | (apply Sel.cons; (repeat (first | exact Ext.here | apply Ext.there)))))) ((num_c b19 v27 false (d0.drop 6) 2 m hr27 (by simp; omega) (by decide)).more (fun _ _ h => .inl h)) ?_
  rintro _ _ ⟨v30, rfl, hr30, rfl⟩
  obtain ⟨hc1, hc2, hc3⟩ := cur_ok (d := d0.drop 6) (n := 2) (by simp; omega)
  rw [hc1, hc3, hg 6 2 (by decide)]
  rw [hc2, List.drop_drop] at hr30
  clear hc1 hc2 hc3
  refine OpsW.pure rfl rfl (op_conv64_I Try.underlying122 Try.underlying3 rfl (Nat.lt_trans (gN_lt x 14 2 (by decide)) (by decide))) ?_
  refine OpsW.pure rfl rfl (opBuildStruct st23 rfl (.cons rfl (by first | rfl | (simp [Value.cells, *]; done)) (by first | exact Nat.le_of_ble_eq_true rfl | (simp [segs_length, *]; done)) (.cons rfl (by first | rfl | (simp [Value.cells, *]; done)) (by first | exact Nat.le_of_ble_eq_true rfl | (simp [segs_length, *]; done)) (.cons rfl (by first | rfl | (simp [Value.cells, *]; done)) (by first | exact Nat.le_of_ble_eq_true rfl | (simp [segs_length, *]; done)) (.cons rfl (by first | rfl | (simp [Value.cells, *]; done)) (by first | exact Nat.le_of_ble_eq_true rfl | (simp [segs_length, *]; done)) (.nil)))))) ?_
  refine OpsW.alloc rfl rfl (allocOp_alloc zt23) ?_
  rintro _ _ ⟨b5, rfl, rfl⟩
  refine OpsW.upd rfl rfl (by repeat (first | exact Pos.here | apply Pos.there)) (lop_storeAllN 4 Try.sizeOf23 rfl rfl (by first | rfl | assumption | (rw [List.length_map]; assumption) | (simp [*]; done) | (simp [*]; omega) | omega) (by first | rfl | assumption | (rw [List.length_map]; assumption) | (simp [*]; done) | (simp [*]; omega) | omega) (by first | exact one_map (fun _ => rfl) _ | exact one_rfl rfl | exact one_sup _ | (simp [one, *]; done))) ?_
  rintro _ _ ⟨rfl, rfl⟩
  refine OpsW.nil ?_
  refine AWp.forget ?_ (sub_put (i := 1) rfl (sub_put (i := 2) rfl (sub_put (i := 4) rfl (sub_put (i := 5) rfl (sub_put (i := 16) rfl (sub_nil))))))
  refine AWp.seq ?_
  refine AWp.region ?_
  refine OpsW.pure rfl rfl (pureOp_move rfl) ?_
  refine OpsW.callA rfl rfl (callOp Try.call77 rfl) (Sel.perm (L' := [.obj b19 _]) (by repeat (first | exact Sel.nil | (apply Sel.cons; (repeat (first | exact Ext.here | apply Ext.there)))))) ((num_c b19 v30 false (d0.drop 8) 8 m hr30 (by simp; omega) (by decide)).more (fun _ _ h => .inl h)) ?_
  rintro _ _ ⟨v34, rfl, hr34, rfl⟩
  obtain ⟨hc1, hc2, hc3⟩ := cur_ok (d := d0.drop 8) (n := 8) (by simp; omega)
  rw [hc1, hc3, hg 8 8 (by decide)]
  rw [hc2, List.drop_drop] at hr34
  clear hc1 hc2 hc3
  refine OpsW.pure rfl rfl (pureOp_assign rfl) ?_
  refine OpsW.nil ?_
  refine AWp.forget ?_ (sub_put (i := 1) rfl (sub_put (i := 2) rfl (sub_put (i := 4) rfl (sub_put (i := 5) rfl (sub_put (i := 6) rfl (sub_put (i := 16) rfl (sub_nil)))))))
  refine AWp.seq ?_
  refine AWp.seq ?_
  refine AWp.joinW (fun m' T' L' => ∃ bb : Bool, (bb = true ↔ ¬ (zeroF ((x.drop 24).take 228) = true ∧ planOk (gN x 8 2) (gN x 10 2) (gN x 12 2) (gN x 14 2) ∧ gN x 16 8 ≤ 1099511627776)) ∧ m' = m ∧ T' = put (put (put (put (tnil) 46 (.bool bb)) 6 (qV (getL ((x.drop 16).take 8)))) 5 (.pointer (some ⟨b5, 0, none⟩))) 2 (.pointer (some ⟨b2, 0, none⟩)) ∧ L' = [.obj b5 [iV (gN x 8 2), iV (gN x 10 2), iV (gN x 12 2), iV (gN x 14 2)], .obj b2 [.int .i64 0, .int .i64 0, .int .i64 0, .int .i64 0, .int .i64 0]]) ?_ ?_
  · skip
    refine AWp.region ?_
    refine OpsW.pure rfl rfl (pureOp_move rfl) ?_
    refine OpsW.callA rfl rfl (callOp Try.call78 rfl) (Sel.perm (L' := [.obj b19 _]) (by repeat (first | exact Sel.nil | (apply Sel.cons; (repeat (first | exact Ext.here | apply Ext.there)))))) ((rest_c b19 v34 false (d0.drop 16) m hr34 (by simp; omega)).more (fun _ _ h => .inl h)) ?_
    rintro _ _ ⟨rfl, rfl⟩
    refine OpsW.split (d := 36) rfl (fun h36 => ?_) (fun h36 => ?_)
    · skip
      refine OpsW.pure rfl rfl (pureOp_not rfl) ?_
      refine OpsW.pure rfl rfl (pureOp_move rfl) ?_
      refine OpsW.load rfl rfl (loadAll rfl (by repeat (first | exact List.Mem.head _ | apply List.Mem.tail)) (by rfl) ag23) ?_
      refine OpsW.callA rfl rfl (callOp Try.call67 rfl) permNone (planchk_c (gN x 8 2) (gN x 10 2) (gN x 12 2) (gN x 14 2) _) ?_
      rintro _ _ ⟨rfl, rfl⟩
      refine OpsW.pure rfl rfl (opN_neq (b := 0) rfl rfl) ?_
      refine OpsW.splitP (d := 41) rfl (fun h41 => ?_) (fun h41 => ?_)
      · skip
        refine OpsW.pure rfl rfl (pureOp_pick_false rfl rfl) ?_
        refine OpsW.pure rfl rfl (pureOp_move rfl) ?_
        refine OpsW.skipG rfl rfl ?_
        refine OpsW.skipG rfl rfl ?_
        refine OpsW.pure rfl rfl (pureOp_pick_true rfl rfl) ?_
        refine OpsW.nil ?_
        have hzz : zeroF (d0.drop 16) = zeroF ((x.drop 24).take 228) := by rw [hd0, List.drop_take, List.drop_drop]
        refine ⟨_, [.obj b5 _, .obj b2 _], _, sub_put (i := 2) rfl (sub_put (i := 5) rfl (sub_put (i := 6) rfl (sub_put (i := 46) rfl (sub_nil)))), Sel.perm (by repeat (first | exact Sel.nil | (apply Sel.cons; (repeat (first | exact Ext.here | apply Ext.there))))), ?_⟩
        exact ⟨_, (by first | exact ⟨fun _ h => (by have h2 := h.1; rw [← hzz] at h2; rw [h2] at h36; exact absurd h36 (by decide)), fun _ => rfl⟩ | exact ⟨fun _ h => planChk_ne h41 h.2.1, fun _ => rfl⟩ | exact ⟨fun h k => absurd (of_decide_eq_true h) (Nat.not_lt.2 k.2.2), fun h => decide_eq_true (Nat.lt_of_not_le fun k => h ⟨by rw [← hzz]; simpa using h36, planChk_eq h41, k⟩)⟩), rfl, rfl, rfl⟩
      · skip
        refine OpsW.pure rfl rfl (pureOp_pick_false rfl rfl) ?_
        refine OpsW.pure rfl rfl (pureOp_move rfl) ?_
        refine OpsW.pure rfl rfl (pureOp_move rfl) ?_
        refine OpsW.pure rfl rfl (op64_gtr (b := 1099511627776) rfl rfl) ?_
        refine OpsW.pure rfl rfl (pureOp_pick_false rfl rfl) ?_
        refine OpsW.nil ?_
        have hzz : zeroF (d0.drop 16) = zeroF ((x.drop 24).take 228) := by rw [hd0, List.drop_take, List.drop_drop]
        refine ⟨_, [.obj b5 _, .obj b2 _], _, sub_put (i := 2) rfl (sub_put (i := 5) rfl (sub_put (i := 6) rfl (sub_put (i := 46) rfl (sub_nil)))), Sel.perm (by repeat (first | exact Sel.nil | (apply Sel.cons; (repeat (first | exact Ext.here | apply Ext.there))))), ?_⟩
        exact ⟨_, (by first | exact ⟨fun _ h => (by have h2 := h.1; rw [← hzz] at h2; rw [h2] at h36; exact absurd h36 (by decide)), fun _ => rfl⟩ | exact ⟨fun _ h => planChk_ne h41 h.2.1, fun _ => rfl⟩ | exact ⟨fun h k => absurd (of_decide_eq_true h) (Nat.not_lt.2 k.2.2), fun h => decide_eq_true (Nat.lt_of_not_le fun k => h ⟨by rw [← hzz]; simpa using h36, planChk_eq h41, k⟩)⟩), rfl, rfl, rfl⟩
    · skip
      refine OpsW.pure rfl rfl (pureOp_not rfl) ?_
      refine OpsW.pure rfl rfl (pureOp_move rfl) ?_
      refine OpsW.skipG rfl rfl ?_
      refine OpsW.skipG rfl rfl ?_
      refine OpsW.skipG rfl rfl ?_
      refine OpsW.pure rfl rfl (pureOp_pick_true rfl rfl) ?_
      refine OpsW.pure rfl rfl (pureOp_move rfl) ?_
      refine OpsW.skipG rfl rfl ?_
      refine OpsW.skipG rfl rfl ?_
      refine OpsW.pure rfl rfl (pureOp_pick_true rfl rfl) ?_
      refine OpsW.nil ?_
      have hzz : zeroF (d0.drop 16) = zeroF ((x.drop 24).take 228) := by rw [hd0, List.drop_take, List.drop_drop]
      refine ⟨_, [.obj b5 _, .obj b2 _], _, sub_put (i := 2) rfl (sub_put (i := 5) rfl (sub_put (i := 6) rfl (sub_put (i := 46) rfl (sub_nil)))), Sel.perm (by repeat (first | exact Sel.nil | (apply Sel.cons; (repeat (first | exact Ext.here | apply Ext.there))))), ?_⟩
      exact ⟨_, (by first | exact ⟨fun _ h => (by have h2 := h.1; rw [← hzz] at h2; rw [h2] at h36; exact absurd h36 (by decide)), fun _ => rfl⟩ | exact ⟨fun _ h => planChk_ne h41 h.2.1, fun _ => rfl⟩ | exact ⟨fun h k => absurd (of_decide_eq_true h) (Nat.not_lt.2 k.2.2), fun h => decide_eq_true (Nat.lt_of_not_le fun k => h ⟨by rw [← hzz]; simpa using h36, planChk_eq h41, k⟩)⟩), rfl, rfl, rfl⟩
  rintro m _ _ ⟨bb, hbb2, rfl, rfl, rfl⟩
  refine AWp.cond rfl (fun ht46 => ?_) (fun ht46 => ?_)
  · skip
    refine AWp.seq ?_
    refine AWp.region ?_
    refine OpsW.pure rfl rfl (opBuildStruct st29 rfl (.nil)) ?_
    refine OpsW.upd rfl rfl (by repeat (first | exact Pos.here | apply Pos.there)) (lop_storeAllN 5 Try.sizeOf29 rfl rfl (by first | rfl | assumption | (rw [List.length_map]; assumption) | (simp [*]; done) | (simp [*]; omega) | omega) (by first | rfl | assumption | (rw [List.length_map]; assumption) | (simp [*]; done) | (simp [*]; omega) | omega) (by first | exact one_map (fun _ => rfl) _ | exact one_rfl rfl | exact one_sup _ | (simp [one, *]; done))) ?_
    rintro _ _ ⟨rfl, rfl⟩
    refine OpsW.pure rfl rfl (pureOp_assign rfl) ?_
    refine OpsW.nil ?_
    refine AWp.forget ?_ (sub_put (i := 2) rfl (sub_put (i := 3) rfl (sub_put (i := 5) rfl (sub_put (i := 6) rfl (sub_put (i := 46) rfl (sub_nil))))))
    refine AWp.ret ?_
    have hgs : ¬ goodS x := fun h => hbb2.1 ht46 ⟨h.2.1.1, h.2.1.2, h.2.2⟩
    exact ⟨_, [], _, permNone, resCellTmp rfl rfl (by repeat (first | exact List.Mem.head _ | apply List.Mem.tail)) (by rfl) ag29 rfl, by rw [supC, if_neg hgs, supK, if_neg hgs]; rfl, rfl⟩
  refine AWp.skip ?_
  refine AWp.seq ?_
  have hgood2 : zeroF ((x.drop 24).take 228) = true ∧ planOk (gN x 8 2) (gN x 10 2) (gN x 12 2) (gN x 14 2) ∧ gN x 16 8 ≤ 1099511627776 := Decidable.byContradiction fun h => by rw [hbb2.2 h] at ht46; cases ht46
  have hgs : goodS x := ⟨hgood, ⟨hgood2.1, hgood2.2.1⟩, hgood2.2.2⟩
  refine AWp.region ?_
  refine OpsW.load rfl rfl (loadAll rfl (by repeat (first | exact List.Mem.head _ | apply List.Mem.tail)) (by rfl) ag23) ?_
  refine OpsW.pure rfl rfl (pureOp_move rfl) ?_
  refine OpsW.pure rfl rfl (op_conv64_I Try.underlying122 Try.underlying3 rfl (Nat.lt_of_le_of_lt hgood2.2.2 (by decide))) ?_
  refine OpsW.pure rfl rfl (opBuildStruct st29 rfl (.cons rfl (by first | rfl | (simp [Value.cells, *]; done)) (by first | exact Nat.le_of_ble_eq_true rfl | (simp [segs_length, *]; done)) (.cons rfl (by first | rfl | (simp [Value.cells, *]; done)) (by first | exact Nat.le_of_ble_eq_true rfl | (simp [segs_length, *]; done)) (.nil)))) ?_
  refine OpsW.upd rfl rfl (by repeat (first | exact Pos.here | apply Pos.there)) (lop_storeAllN 5 Try.sizeOf29 rfl rfl (by first | rfl | assumption | (rw [List.length_map]; assumption) | (simp [*]; done) | (simp [*]; omega) | omega) (by first | rfl | assumption | (rw [List.length_map]; assumption) | (simp [*]; done) | (simp [*]; omega) | omega) (by first | exact one_map (fun _ => rfl) _ | exact one_rfl rfl | exact one_sup _ | (simp [one, *]; done))) ?_
  rintro _ _ ⟨rfl, rfl⟩
  refine OpsW.pure rfl rfl (pureOp_assign rfl) ?_
  refine OpsW.nil ?_
  refine AWp.forget ?_ (sub_put (i := 2) rfl (sub_put (i := 3) rfl (sub_put (i := 5) rfl (sub_put (i := 6) rfl (sub_put (i := 46) rfl (sub_nil))))))
  refine AWp.ret ?_
  exact ⟨_, [], _, permNone, resCellTmp rfl rfl (by repeat (first | exact List.Mem.head _ | apply List.Mem.tail)) (by rfl) ag29 rfl, by rw [supC, if_pos hgs, supK, if_pos hgs]; rfl, rfl⟩

set_option maxRecDepth 20000 in
set_option maxHeartbeats 1000000 in
theorem num8_c (x : List UInt8) (i : Nat) (m : Mem) (hx : x.length = 256) (hi : i + 2 ≤ 256) :
    Ctr Try.prog 80 [.agg (x.map bV).toArray, iV i] m [] (fun _ r L => r = iV (gN x i 2) ∧ L = []) := by
  refine Ctr.intro Try.func80 rfl Try.ntmps80 (by simp) fun w0 => ?_
  refine AWp.forget ?_ (sub_put (i := 0) rfl (sub_put (i := 1) rfl (sub_nil)))
  refine AWp.seq ?_
  refine AWp.region ?_
  refine OpsW.alloc rfl rfl (allocOp_boxAgg rfl) ?_
  rintro _ _ ⟨b2, rfl, rfl⟩
  refine OpsW.pure rfl rfl (pureOp_assign rfl) ?_
  refine OpsW.nil ?_
  refine AWp.forget ?_ (sub_put (i := 0) rfl (sub_put (i := 1) rfl (sub_put (i := 2) rfl (sub_put (i := 4) rfl (sub_nil)))))
  refine AWp.seq ?_
  have hb1 := (x.getD i 0).toNat_lt
  have hb2 := (x.getD (i + 1) 0).toNat_lt
  refine AWp.draw [(0, .pure), (1, .pure), (2, .load), (3, .pure), (4, .pure), (5, .pure), (6, .pure), (7, .load), (8, .pure), (9, .pure), (10, .pure), (11, .pure)] rfl (by decide +kernel) (fun _ _ _ p h => AWp.perm h p.symm) ?_
  refine ⟨_, _, rfl, OpStep.pure rfl rfl (pureOp_move rfl), ?_⟩
  rintro _ _ ⟨rfl, rfl⟩ -
  refine ⟨_, _, rfl, OpStep.pure rfl rfl (opN_indexArr0 arr24 rfl rfl (by omega)), ?_⟩
  rintro _ _ ⟨rfl, rfl⟩ -
  refine ⟨_, _, rfl, OpStep.load rfl rfl (loadOp_obj (u := bV (x.getD i 0)) sc5 rfl (by repeat (first | exact List.Mem.head _ | apply List.Mem.tail)) (get_map (by omega))), ?_⟩
  rintro _ _ ⟨rfl, rfl⟩ -
  refine ⟨_, _, rfl, OpStep.pure rfl rfl (op_conv8_I Try.underlying5 Try.underlying3 rfl), ?_⟩
  rintro _ _ ⟨rfl, rfl⟩ -
  refine ⟨_, _, rfl, OpStep.pure rfl rfl (pureOp_move rfl), ?_⟩
  rintro _ _ ⟨rfl, rfl⟩ -
  refine ⟨_, _, rfl, OpStep.pure rfl rfl (opN_add (b := 1) rfl rfl (by omega)), ?_⟩
  rintro _ _ ⟨rfl, rfl⟩ -
  refine ⟨_, _, rfl, OpStep.pure rfl rfl (opN_indexArr0 arr24 rfl rfl (by omega)), ?_⟩
  rintro _ _ ⟨rfl, rfl⟩ -
  refine ⟨_, _, rfl, OpStep.load rfl rfl (loadOp_obj (u := bV (x.getD (i + 1) 0)) sc5 rfl (by repeat (first | exact List.Mem.head _ | apply List.Mem.tail)) (get_map (by omega))), ?_⟩
  rintro _ _ ⟨rfl, rfl⟩ -
  refine ⟨_, _, rfl, OpStep.pure rfl rfl (op_conv8_I Try.underlying5 Try.underlying3 rfl), ?_⟩
  rintro _ _ ⟨rfl, rfl⟩ -
  refine ⟨_, _, rfl, OpStep.pure rfl rfl (opN_mul (a := 256) rfl rfl (by omega)), ?_⟩
  rintro _ _ ⟨rfl, rfl⟩ -
  refine ⟨_, _, rfl, OpStep.pure rfl rfl (opN_add rfl rfl (by omega)), ?_⟩
  rintro _ _ ⟨rfl, rfl⟩ -
  refine ⟨_, _, rfl, OpStep.pure rfl rfl (pureOp_assign rfl), ?_⟩
  rintro _ _ ⟨rfl, rfl⟩ -
  refine AWp.forget ?_ (sub_put (i := 0) rfl (sub_put (i := 1) rfl (sub_put (i := 2) rfl (sub_put (i := 4) rfl (sub_nil)))))
  refine AWp.ret ?_
  exact ⟨_, [], _, permNone, res_tmp rfl rfl, by rw [gN_two (by omega)], rfl⟩

set_option maxRecDepth 20000 in
set_option maxHeartbeats 4000000 in
theorem sget8_c (x : List UInt8) (m : Mem) (hx : x.length = 256) :
    Ctr Try.prog 17 [.agg (x.map bV).toArray] m [] (fun _ r L => r = .tuple #[.agg (supC x).toArray, iV (supK x)] ∧ L = []) := by
  refine Ctr.intro Try.func17 rfl Try.ntmps17 (by simp) fun w0 => ?_
  refine AWp.forget ?_ (sub_put (i := 0) rfl (sub_nil))
  refine AWp.seq ?_
  refine AWp.region ?_
  refine OpsW.alloc rfl rfl (allocOp_boxAgg rfl) ?_
  rintro _ _ ⟨b1, rfl, rfl⟩
  refine OpsW.alloc rfl rfl (allocOp_alloc zt31) ?_
  rintro _ _ ⟨b2, rfl, rfl⟩
  refine OpsW.pure rfl rfl (pureOp_assign rfl) ?_
  refine OpsW.nil ?_
  refine AWp.forget ?_ (sub_put (i := 0) rfl (sub_put (i := 1) rfl (sub_put (i := 2) rfl (sub_put (i := 3) rfl (sub_nil)))))
  refine AWp.seq ?_
  refine AWp.nilChunk 1 ?_
  refine AWp.region ?_
  refine OpsW.pure rfl rfl (pureOp_assign rfl) ?_
  refine OpsW.nil ?_
  refine AWp.forget ?_ (sub_put (i := 0) rfl (sub_put (i := 1) rfl (sub_put (i := 2) rfl (sub_put (i := 3) rfl (sub_put (i := 4) rfl (sub_nil))))))
  refine AWp.seq ?_
  refine AWp.seq ?_
  refine AWp.region ?_
  refine OpsW.pure rfl rfl (pureOp_assign rfl) ?_
  refine OpsW.nil ?_
  refine AWp.forget ?_ (sub_put (i := 0) rfl (sub_put (i := 1) rfl (sub_put (i := 2) rfl (sub_put (i := 3) rfl (sub_put (i := 4) rfl (sub_put (i := 5) rfl (sub_nil)))))))
  refine AWp.block ?_
  refine AWp.forget ?_ (sub_put (i := 1) rfl (sub_put (i := 2) rfl (sub_put (i := 4) rfl (sub_put (i := 5) rfl (sub_nil)))))
  refine AWp.keep (L' := [.sl (.slice none 0 0) 1 _, .obj b1 _, .obj b2 _]) (by repeat (first | exact Sel.nil | (apply Sel.cons; (repeat (first | exact Ext.here | apply Ext.there))))) ?_
  refine AWp.loop (fun N m' T' L' => ∃ (k : Nat) (vv : Value), N = 8 - k ∧ k ≤ 8 ∧ slOk vv 1 (((x.drop 16).take k).map bV) ∧ m' = m ∧ T' = put (put (put (put (tnil) 5 (iV (16 + k))) 4 (vv)) 2 (.pointer (some ⟨b2, 0, none⟩))) 1 (.pointer (some ⟨b1, 0, none⟩)) ∧ L' = [.sl vv 1 (((x.drop 16).take k).map bV), .obj b1 (x.map bV), .obj b2 [.int .i64 0, .int .i64 0, .int .i64 0, .int .i64 0, .int .i64 0]]) _ (⟨0, .slice none 0 0, rfl, Nat.zero_le _, .inl ⟨rfl, rfl⟩, rfl, rfl, rfl⟩) ?_
  rintro _ m _ _ ⟨k, vv, rfl, hk, hvv, rfl, rfl, rfl⟩
  refine AWp.seq ?_
  refine AWp.seq ?_
  refine AWp.region ?_
  refine OpsW.pure rfl rfl (pureOp_move rfl) ?_
  refine OpsW.pure rfl rfl (opN_lss (b := 24) rfl rfl) ?_
  refine OpsW.nil ?_
  refine AWp.forget ?_ (sub_put (i := 1) rfl (sub_put (i := 2) rfl (sub_put (i := 4) rfl (sub_put (i := 5) rfl (sub_put (i := 11) rfl (sub_nil))))))
  refine AWp.condP rfl (fun ht11 => ?_) (fun ht11 => ?_)
  refine AWp.skip ?_
  refine AWp.seq ?_
  refine AWp.block ?_
  refine AWp.region ?_
  refine OpsW.pure rfl rfl (pureOp_move rfl) ?_
  refine OpsW.pure rfl rfl (pureOp_move rfl) ?_
  refine OpsW.pure rfl rfl (opN_indexArr0 arr24 rfl rfl (by omega)) ?_
  refine OpsW.load rfl rfl (loadOp_obj (u := bV (x.getD (16 + k) 0)) sc5 rfl (by repeat (first | exact List.Mem.head _ | apply List.Mem.tail)) (get_map (by omega))) ?_
  refine OpsW.alloc rfl rfl (allocOp_buildSlice slt46 rfl rfl (by first | exact cells_rfl rfl | simp [Value.cells]) (by decide)) ?_
  rintro v18 _ ⟨hv18, hn18, rfl⟩
  rw [flat_b1] at hv18 ⊢
  refine OpsW.upd rfl rfl (by repeat (first | exact Pos.here | apply Pos.there)) (lop_append (k := _) slt46 ni46 rfl rfl (Nat.mul_one _).symm (src_rd (n := _) (by first | exact Rd.ro (by assumption) | exact Rd.of_sl (by repeat (first | exact List.Mem.head _ | apply List.Mem.tail)) (by assumption)) (Nat.mul_one _).symm (by decide)) (by simp; omega) (by first | exact one_map (fun _ => rfl) _ | exact one_rfl rfl | exact one_sup _ | (simp [one, *]; done)) (by decide) (by decide)) ?_
  rintro v19 _ ⟨hv19, rfl⟩
  rw [← List.map_append, take_next (show 16 + k < x.length by omega)] at hv19 ⊢
  refine OpsW.pure rfl rfl (pureOp_assign rfl) ?_
  refine OpsW.nil ?_
  refine AWp.forget ?_ (sub_put (i := 1) rfl (sub_put (i := 2) rfl (sub_put (i := 4) rfl (sub_put (i := 5) rfl (sub_put (i := 11) rfl (sub_nil))))))
  refine AWp.region ?_
  refine OpsW.pure rfl rfl (pureOp_move rfl) ?_
  refine OpsW.pure rfl rfl (opN_add (b := 1) rfl rfl (by omega)) ?_
  refine OpsW.pure rfl rfl (pureOp_assign rfl) ?_
  refine OpsW.forget ?_ (sub_put (i := 1) rfl (sub_put (i := 2) rfl (sub_put (i := 4) rfl (sub_put (i := 5) rfl (sub_nil)))))
  refine OpsW.keep (L' := [.sl v19 1 _, .obj b1 _, .obj b2 _]) (by repeat (first | exact Sel.nil | (apply Sel.cons; (repeat (first | exact Ext.here | apply Ext.there))))) ?_
  refine OpsW.nil ?_
  exact ⟨_, by omega, k + 1, v19, rfl, by omega, hv19, rfl, rfl, rfl⟩
  obtain rfl : k = 8 := by omega
  refine AWp.exit (exit_here ?_)
  refine AWp.seq ?_
  refine AWp.region ?_
  refine OpsW.pure rfl rfl (pureOp_move rfl) ?_
  refine OpsW.callA rfl rfl (callOp Try.call79 rfl) permNone (get01_c vv ((x.drop 16).take 8) _ (Rd.of_sl (by repeat (first | exact List.Mem.head _ | apply List.Mem.tail)) hvv)) ?_
  rintro _ _ ⟨rfl, rfl⟩
  refine OpsW.pure rfl rfl (pureOp_assign rfl) ?_
  refine OpsW.nil ?_
  refine AWp.forget ?_ (sub_put (i := 1) rfl (sub_put (i := 2) rfl (sub_put (i := 4) rfl (sub_put (i := 5) rfl (sub_put (i := 6) rfl (sub_put (i := 11) rfl (sub_nil)))))))
  refine AWp.seq ?_
  refine AWp.seq ?_
  refine AWp.region ?_
  refine OpsW.pure rfl rfl (pureOp_move rfl) ?_
  refine OpsW.pure rfl rfl (op64_gtr (b := 1099511627776) rfl rfl) ?_
  rw [show (getL ((x.drop 16).take 8)).toNat = gN x 16 8 from rfl]
  refine OpsW.nil ?_
  refine AWp.forget ?_ (sub_put (i := 1) rfl (sub_put (i := 2) rfl (sub_put (i := 4) rfl (sub_put (i := 5) rfl (sub_put (i := 6) rfl (sub_put (i := 11) rfl (sub_put (i := 23) rfl (sub_nil))))))))
  refine AWp.condP rfl (fun ht23 => ?_) (fun ht23 => ?_)
  · skip
    refine AWp.seq ?_
    refine AWp.region ?_
    refine OpsW.pure rfl rfl (opBuildStruct st31 rfl (.nil)) ?_
    refine OpsW.upd rfl rfl (by repeat (first | exact Pos.here | apply Pos.there)) (lop_storeAllN 5 Try.sizeOf31 rfl rfl (by first | rfl | assumption | (rw [List.length_map]; assumption) | (simp [*]; done) | (simp [*]; omega) | omega) (by first | rfl | assumption | (rw [List.length_map]; assumption) | (simp [*]; done) | (simp [*]; omega) | omega) (by first | exact one_map (fun _ => rfl) _ | exact one_rfl rfl | exact one_sup _ | (simp [one, *]; done))) ?_
    rintro _ _ ⟨rfl, rfl⟩
    refine OpsW.pure rfl rfl (pureOp_assign rfl) ?_
    refine OpsW.nil ?_
    refine AWp.forget ?_ (sub_put (i := 1) rfl (sub_put (i := 2) rfl (sub_put (i := 3) rfl (sub_put (i := 4) rfl (sub_put (i := 5) rfl (sub_put (i := 6) rfl (sub_put (i := 11) rfl (sub_put (i := 23) rfl (sub_nil)))))))))
    refine AWp.ret ?_
    have hgs : ¬ goodS x := fun h => Nat.not_lt.2 h.2.2 ht23
    exact ⟨_, [], _, permNone, resCellTmp rfl rfl (by repeat (first | exact List.Mem.head _ | apply List.Mem.tail)) (by rfl) ag31 rfl, by rw [supC, if_neg hgs, supK, if_neg hgs]; rfl, rfl⟩
  refine AWp.skip ?_
  refine AWp.seq ?_
  refine AWp.keep (L' := [.obj b1 _, .obj b2 _]) (by repeat (first | exact Sel.nil | (apply Sel.cons; (repeat (first | exact Ext.here | apply Ext.there))))) ?_
  refine AWp.freeze (fun m1 hm1 hat => ?_)
  refine AWp.draw [(0, .load), (2, .load), (4, .load), (6, .load), (9, .pure), (10, .pure), (1, .call), (3, .call), (5, .call), (7, .call), (8, .pure), (11, .pure), (12, .alloc), (13, .wr)] rfl (by decide +kernel) (fun _ _ _ p h => AWp.perm h p.symm) ?_
  refine ⟨_, _, rfl, OpStep.load rfl rfl (loadOp_agg (cs := x.map bV) (by rw [List.length_map, hx]; exact ag24) rfl (fun j u hj => by rw [add_mk]; exact .inl (hat _ _ ⟨_, rfl, by rw [Nat.zero_add]; exact hj⟩))), ?_⟩
  rintro _ _ ⟨rfl, rfl⟩ -
  refine ⟨_, _, rfl, OpStep.load rfl rfl (loadOp_agg (cs := x.map bV) (by rw [List.length_map, hx]; exact ag24) rfl (fun j u hj => by rw [add_mk]; exact .inl (hat _ _ ⟨_, rfl, by rw [Nat.zero_add]; exact hj⟩))), ?_⟩
  rintro _ _ ⟨rfl, rfl⟩ -
  refine ⟨_, _, rfl, OpStep.load rfl rfl (loadOp_agg (cs := x.map bV) (by rw [List.length_map, hx]; exact ag24) rfl (fun j u hj => by rw [add_mk]; exact .inl (hat _ _ ⟨_, rfl, by rw [Nat.zero_add]; exact hj⟩))), ?_⟩
  rintro _ _ ⟨rfl, rfl⟩ -
  refine ⟨_, _, rfl, OpStep.load rfl rfl (loadOp_agg (cs := x.map bV) (by rw [List.length_map, hx]; exact ag24) rfl (fun j u hj => by rw [add_mk]; exact .inl (hat _ _ ⟨_, rfl, by rw [Nat.zero_add]; exact hj⟩))), ?_⟩
  rintro _ _ ⟨rfl, rfl⟩ -
  refine ⟨_, _, rfl, OpStep.pure rfl rfl (pureOp_move rfl), ?_⟩
  rintro _ _ ⟨rfl, rfl⟩ -
  refine ⟨_, _, rfl, OpStep.pure rfl rfl (op_conv64_I Try.underlying122 Try.underlying3 rfl (by have h9 : gN x 16 8 ≤ 1099511627776 := Nat.le_of_not_lt ht23; exact Nat.lt_of_le_of_lt h9 (by decide))), ?_⟩
  rintro _ _ ⟨rfl, rfl⟩ -
  refine ⟨_, _, rfl, OpStep.call rfl rfl (callOp Try.call80 rfl) (num8_c x 8 _ hx (by decide)), ?_⟩
  rintro _ _ ⟨_, _, ⟨rfl, rfl⟩, rfl, rfl⟩ -
  refine ⟨_, _, rfl, OpStep.call rfl rfl (callOp Try.call80 rfl) (num8_c x 10 _ hx (by decide)), ?_⟩
  rintro _ _ ⟨_, _, ⟨rfl, rfl⟩, rfl, rfl⟩ -
  refine ⟨_, _, rfl, OpStep.call rfl rfl (callOp Try.call80 rfl) (num8_c x 12 _ hx (by decide)), ?_⟩
  rintro _ _ ⟨_, _, ⟨rfl, rfl⟩, rfl, rfl⟩ -
  refine ⟨_, _, rfl, OpStep.call rfl rfl (callOp Try.call80 rfl) (num8_c x 14 _ hx (by decide)), ?_⟩
  rintro _ _ ⟨_, _, ⟨rfl, rfl⟩, rfl, rfl⟩ -
  refine ⟨_, _, rfl, OpStep.pure rfl rfl (opBuildStruct st23 rfl (.cons rfl (by first | rfl | (simp [Value.cells, *]; done)) (by first | exact Nat.le_of_ble_eq_true rfl | (simp [segs_length, *]; done)) (.cons rfl (by first | rfl | (simp [Value.cells, *]; done)) (by first | exact Nat.le_of_ble_eq_true rfl | (simp [segs_length, *]; done)) (.cons rfl (by first | rfl | (simp [Value.cells, *]; done)) (by first | exact Nat.le_of_ble_eq_true rfl | (simp [segs_length, *]; done)) (.cons rfl (by first | rfl | (simp [Value.cells, *]; done)) (by first | exact Nat.le_of_ble_eq_true rfl | (simp [segs_length, *]; done)) (.nil)))))), ?_⟩
  rintro _ _ ⟨rfl, rfl⟩ -
  refine ⟨_, _, rfl, OpStep.pure rfl rfl (opBuildStruct st31 rfl (.cons rfl (by first | rfl | (simp [Value.cells, *]; done)) (by first | exact Nat.le_of_ble_eq_true rfl | (simp [segs_length, *]; done)) (.cons rfl (by first | rfl | (simp [Value.cells, *]; done)) (by first | exact Nat.le_of_ble_eq_true rfl | (simp [segs_length, *]; done)) (.nil)))), ?_⟩
  rintro _ _ ⟨rfl, rfl⟩ -
  refine ⟨_, _, rfl, allocStep_alloc rfl rfl zt31, ?_⟩
  rintro _ _ ⟨_, _, ⟨b7, rfl, rfl⟩, rfl, rfl⟩ -
  refine ⟨_, _, rfl, OpStep.wr rfl rfl (toWp (by repeat (first | exact Pos.here | apply Pos.there)) (lop_storeAllN 5 Try.sizeOf31 rfl rfl (by first | rfl | assumption | (rw [List.length_map]; assumption) | (simp [*]; done) | (simp [*]; omega) | omega) (by first | rfl | assumption | (rw [List.length_map]; assumption) | (simp [*]; done) | (simp [*]; omega) | omega) (by first | exact one_map (fun _ => rfl) _ | exact one_rfl rfl | exact one_sup _ | (simp [one, *]; done)))), ?_⟩
  rintro _ _ ⟨_, ⟨_, ⟨rfl, rfl⟩, rfl⟩, rfl⟩ -
  refine AWp.forget ?_ (sub_put (i := 1) rfl (sub_put (i := 2) rfl (sub_put (i := 4) rfl (sub_put (i := 5) rfl (sub_put (i := 6) rfl (sub_put (i := 7) rfl (sub_put (i := 11) rfl (sub_put (i := 23) rfl (sub_nil)))))))))
  refine AWp.seq ?_
  refine AWp.region ?_
  refine OpsW.load rfl rfl (loadAll rfl (by repeat (first | exact List.Mem.head _ | apply List.Mem.tail)) (by rfl) ag31) ?_
  refine OpsW.callA rfl rfl (callOp Try.call15 rfl) permNone (sput8_c (gN x 8 2) (gN x 10 2) (gN x 12 2) (gN x 14 2) (gN x 16 8) _) ?_
  rintro _ _ ⟨rfl, rfl⟩
  obtain ⟨y, c, hY⟩ : ∃ y c, putS (gN x 8 2) (gN x 10 2) (gN x 12 2) (gN x 14 2) (gN x 16 8) = (y, c) := ⟨_, _, rfl⟩
  have hyl : y.length = 256 := by have := putS_length (gN x 8 2) (gN x 10 2) (gN x 12 2) (gN x 14 2) (gN x 16 8); rwa [hY] at this
  rw [hY]
  refine OpsW.pure rfl rfl (pureOp_move rfl) ?_
  refine OpsW.pure rfl rfl (pureOp_extract rfl rfl) ?_
  refine OpsW.pure rfl rfl (pureOp_extract rfl rfl) ?_
  refine OpsW.alloc rfl rfl (allocOp_alloc zt24) ?_
  rintro _ _ ⟨b8, rfl, rfl⟩
  refine OpsW.upd rfl rfl (by repeat (first | exact Pos.here | apply Pos.there)) (lop_storeAllN 256 Try.sizeOf24 rfl rfl List.length_replicate (by simp [hyl]) (by first | exact one_map (fun _ => rfl) _ | exact one_rfl rfl | exact one_sup _ | (simp [one, *]; done))) ?_
  rintro _ _ ⟨rfl, rfl⟩
  refine OpsW.pure rfl rfl (pureOp_assign rfl) ?_
  refine OpsW.nil ?_
  refine AWp.forget ?_ (sub_put (i := 1) rfl (sub_put (i := 2) rfl (sub_put (i := 4) rfl (sub_put (i := 5) rfl (sub_put (i := 6) rfl (sub_put (i := 7) rfl (sub_put (i := 8) rfl (sub_put (i := 9) rfl (sub_put (i := 11) rfl (sub_put (i := 23) rfl (sub_nil)))))))))))
  refine AWp.seq ?_
  refine AWp.seq ?_
  refine AWp.joinW (fun m' T' L' => ∃ bb : Bool, (bb = true ↔ ¬ (c = 0 ∧ y = x)) ∧ m' = m1 ∧ T' = put (put (put (tnil) 48 (.bool bb)) 7 (.pointer (some ⟨b7, 0, none⟩))) 2 (.pointer (some ⟨b2, 0, none⟩)) ∧ L' = [.obj b7 [iV (gN x 8 2), iV (gN x 10 2), iV (gN x 12 2), iV (gN x 14 2), iV (gN x 16 8)], .obj b2 [.int .i64 0, .int .i64 0, .int .i64 0, .int .i64 0, .int .i64 0]]) ?_ ?_
  · skip
    refine AWp.region ?_
    refine OpsW.pure rfl rfl (pureOp_move rfl) ?_
    refine OpsW.pure rfl rfl (opN_neq (b := 0) rfl rfl) ?_
    refine OpsW.splitP (d := 43) rfl (fun h43 => ?_) (fun h43 => ?_)
    · skip
      refine OpsW.pure rfl rfl (pureOp_move rfl) ?_
      refine OpsW.skipG rfl rfl ?_
      refine OpsW.skipG rfl rfl ?_
      refine OpsW.skipG rfl rfl ?_
      refine OpsW.pure rfl rfl (pureOp_pick_true rfl rfl) ?_
      refine OpsW.nil ?_
      refine ⟨_, [.obj b7 _, .obj b2 _], _, sub_put (i := 2) rfl (sub_put (i := 7) rfl (sub_put (i := 48) rfl (sub_nil))), Sel.perm (by repeat (first | exact Sel.nil | (apply Sel.cons; (repeat (first | exact Ext.here | apply Ext.there))))), ?_⟩
      exact ⟨_, (by first | exact ⟨fun _ h => h43 h.1, fun _ => rfl⟩ | exact ⟨fun h k => of_decide_eq_true h k.2, fun h => decide_eq_true fun k => h ⟨Decidable.of_not_not h43, k⟩⟩), rfl, rfl, rfl⟩
    · skip
      refine OpsW.pure rfl rfl (pureOp_move rfl) ?_
      refine OpsW.load rfl rfl (loadAll rfl (by repeat (first | exact List.Mem.head _ | apply List.Mem.tail)) (by simp [hyl]) ag24) ?_
      refine OpsW.load rfl rfl (loadOp_agg (cs := x.map bV) (by rw [List.length_map, hx]; exact ag24) rfl (fun j u hj => by rw [add_mk]; exact .inl (hat _ _ ⟨_, rfl, by rw [Nat.zero_add]; exact hj⟩))) ?_
      refine OpsW.pure rfl rfl (opB_neq by24 dpth rfl rfl hyl hx) ?_
      refine OpsW.pure rfl rfl (pureOp_pick_false rfl rfl) ?_
      refine OpsW.nil ?_
      refine ⟨_, [.obj b7 _, .obj b2 _], _, sub_put (i := 2) rfl (sub_put (i := 7) rfl (sub_put (i := 48) rfl (sub_nil))), Sel.perm (by repeat (first | exact Sel.nil | (apply Sel.cons; (repeat (first | exact Ext.here | apply Ext.there))))), ?_⟩
      exact ⟨_, (by first | exact ⟨fun _ h => h43 h.1, fun _ => rfl⟩ | exact ⟨fun h k => of_decide_eq_true h k.2, fun h => decide_eq_true fun k => h ⟨Decidable.of_not_not h43, k⟩⟩), rfl, rfl, rfl⟩
  rintro m _ _ ⟨bb, hbb, rfl, rfl, rfl⟩
  refine AWp.cond rfl (fun ht48 => ?_) (fun ht48 => ?_)
  · skip
    refine AWp.seq ?_
    have hgs : ¬ goodS x := fun h => hbb.1 ht48 (by have := ((goodS_iff hx).1 h).2; rw [hY, Prod.mk.injEq] at this; exact ⟨this.2, this.1⟩)
    refine AWp.region ?_
    refine OpsW.pure rfl rfl (opBuildStruct st31 rfl (.nil)) ?_
    refine OpsW.upd rfl rfl (by repeat (first | exact Pos.here | apply Pos.there)) (lop_storeAllN 5 Try.sizeOf31 rfl rfl (by first | rfl | assumption | (rw [List.length_map]; assumption) | (simp [*]; done) | (simp [*]; omega) | omega) (by first | rfl | assumption | (rw [List.length_map]; assumption) | (simp [*]; done) | (simp [*]; omega) | omega) (by first | exact one_map (fun _ => rfl) _ | exact one_rfl rfl | exact one_sup _ | (simp [one, *]; done))) ?_
    rintro _ _ ⟨rfl, rfl⟩
    refine OpsW.pure rfl rfl (pureOp_assign rfl) ?_
    refine OpsW.nil ?_
    refine AWp.forget ?_ (sub_put (i := 2) rfl (sub_put (i := 3) rfl (sub_put (i := 7) rfl (sub_put (i := 48) rfl (sub_nil)))))
    refine AWp.ret ?_
    exact ⟨_, [], _, permNone, resCellTmp rfl rfl (by repeat (first | exact List.Mem.head _ | apply List.Mem.tail)) (by rfl) ag31 rfl, by rw [supC, if_neg hgs, supK, if_neg hgs]; rfl, rfl⟩
  refine AWp.skip ?_
  refine AWp.seq ?_
  have hgs : goodS x := (goodS_iff hx).2 ⟨Nat.le_of_not_lt ht23, by
    have hcy : c = 0 ∧ y = x := Decidable.byContradiction fun h => by rw [hbb.2 h] at ht48; cases ht48
    rw [hY, hcy.1, hcy.2]⟩
  refine AWp.region ?_
  refine OpsW.load rfl rfl (loadAll rfl (by repeat (first | exact List.Mem.head _ | apply List.Mem.tail)) (by first | rfl | assumption | (rw [List.length_map]; assumption) | (simp [*]; done) | (simp [*]; omega) | omega) ag31) ?_
  refine OpsW.upd rfl rfl (by repeat (first | exact Pos.here | apply Pos.there)) (lop_storeAllN 5 Try.sizeOf31 rfl rfl (by first | rfl | assumption | (rw [List.length_map]; assumption) | (simp [*]; done) | (simp [*]; omega) | omega) (by first | rfl | assumption | (rw [List.length_map]; assumption) | (simp [*]; done) | (simp [*]; omega) | omega) (by first | exact one_map (fun _ => rfl) _ | exact one_rfl rfl | exact one_sup _ | (simp [one, *]; done))) ?_
  rintro _ _ ⟨rfl, rfl⟩
  refine OpsW.pure rfl rfl (pureOp_assign rfl) ?_
  refine OpsW.nil ?_
  refine AWp.forget ?_ (sub_put (i := 2) rfl (sub_put (i := 3) rfl (sub_put (i := 7) rfl (sub_put (i := 48) rfl (sub_nil)))))
  refine AWp.ret ?_
  exact ⟨_, [], _, permNone, resCellTmp rfl rfl (by repeat (first | exact List.Mem.head _ | apply List.Mem.tail)) (by rfl) ag31 rfl, by rw [supC, if_pos hgs, supK, if_pos hgs]; rfl, rfl⟩

end Go.Proofs.Ytpnipajadjeifaa.Sep
