/- The walks of plan.Check, super.Put, and of the references 07, 08 for these. -/
import Derived.Test.YtpnipajadjeifaaWord2
import Derived.Test.YtpnipajadjeifaaSuperA
import Derived.Test.YtpnipajadjeifaaProg
namespace Go.Proofs.Ytpnipajadjeifaa.Sep
open Go Go.RowKit
set_option linter.unusedVariables false
set_option linter.unusedSimpArgs false
theorem fa23_0 : FieldAt Try.prog 23 0 0 := by
  intro b o w
  simp [Instr.fieldAt, Try.runUnderlying23, fieldPlace, Instr.sureAddr, Try.sizeOf3, add_mk]
theorem sc3 : Scal Try.prog 3 := ⟨Try.isAgg3, Try.sizeOf3⟩
theorem arr164 : ArrT Try.prog 164 2 1 := ⟨3, Try.underlying164, Try.sizeOf3⟩
theorem zt164 : ZeroT Try.prog 164 ([.int .i64 0, .int .i64 0]) := ⟨_, Try.zeroValue164, rfl⟩
theorem fa23_1 : FieldAt Try.prog 23 1 1 := by
  intro b o w
  simp [Instr.fieldAt, Try.runUnderlying23, fieldPlace, Instr.sureAddr, Try.sizeOf3, add_mk]
theorem fa23_2 : FieldAt Try.prog 23 2 2 := by
  intro b o w
  simp [Instr.fieldAt, Try.runUnderlying23, fieldPlace, Instr.sureAddr, Try.sizeOf3, add_mk]
theorem fa23_3 : FieldAt Try.prog 23 3 3 := by
  intro b o w
  simp [Instr.fieldAt, Try.runUnderlying23, fieldPlace, Instr.sureAddr, Try.sizeOf3, add_mk]
theorem arr165 : ArrT Try.prog 165 4 2 := ⟨164, Try.underlying165, Try.sizeOf164⟩
theorem zt165 : ZeroT Try.prog 165 (List.replicate 8 (.int .i64 0)) := ⟨_, Try.zeroValue165, rfl⟩
theorem ag23 : AggT Try.prog 23 4 := ⟨Try.isAgg23, Try.sizeOf23⟩
theorem zt118 : ZeroT Try.prog 118 (List.replicate 8 (.int .u8 0)) := ⟨_, Try.zeroValue118, rfl⟩
theorem fa29_0 : FieldAt Try.prog 29 0 0 := by
  intro b o w
  simp [Instr.fieldAt, Try.runUnderlying29, fieldPlace, Instr.sureAddr, Try.sizeOf23, add_mk]
theorem fa29_1 : FieldAt Try.prog 29 1 4 := by
  intro b o w
  simp [Instr.fieldAt, Try.runUnderlying29, fieldPlace, Instr.sureAddr, Try.sizeOf3, add_mk]
theorem arr120 : ArrT Try.prog 120 4 1 := ⟨3, Try.underlying120, Try.sizeOf3⟩
theorem zt120 : ZeroT Try.prog 120 ([.int .i64 0, .int .i64 0, .int .i64 0, .int .i64 0]) := ⟨_, Try.zeroValue120, rfl⟩
theorem fa31_0 : FieldAt Try.prog 31 0 0 := by
  intro b o w
  simp [Instr.fieldAt, Try.runUnderlying31, fieldPlace, Instr.sureAddr, Try.sizeOf23, add_mk]
theorem fa31_1 : FieldAt Try.prog 31 1 4 := by
  intro b o w
  simp [Instr.fieldAt, Try.runUnderlying31, fieldPlace, Instr.sureAddr, Try.sizeOf3, add_mk]
theorem ag164 : AggT Try.prog 164 2 := ⟨Try.isAgg164, Try.sizeOf164⟩
theorem ag118 : AggT Try.prog 118 8 := ⟨Try.isAgg118, Try.sizeOf118⟩


set_option maxRecDepth 20000 in
set_option maxHeartbeats 2000000 in
theorem planchk_c (a b c d : Int) (m : Mem) :
    Ctr Try.prog 67 [.agg [.int .i64 a, .int .i64 b, .int .i64 c, .int .i64 d].toArray] m [] (fun _ r L => r = iV (planChk a b c d) ∧ L = []) := by
  refine Ctr.intro Try.func67 rfl Try.ntmps67 (by simp) fun w0 => ?_
  refine AWp.forget ?_ (sub_put (i := 0) rfl (sub_nil))
  refine AWp.seq ?_
  refine AWp.region ?_
  refine OpsW.alloc rfl rfl (allocOp_boxAgg rfl) ?_
  rintro _ _ ⟨b1, rfl, rfl⟩
  refine OpsW.pure rfl rfl (pureOp_assign rfl) ?_
  refine OpsW.nil ?_
  refine AWp.forget ?_ (sub_put (i := 0) rfl (sub_put (i := 1) rfl (sub_put (i := 2) rfl (sub_nil))))
  refine AWp.seq ?_
  refine AWp.seq ?_
  refine AWp.region ?_
  refine OpsW.pure rfl rfl (pureOp_fieldAddr fa23_0 rfl) ?_
  refine OpsW.load rfl rfl (loadOp_obj sc3 rfl (by repeat (first | exact List.Mem.head _ | apply List.Mem.tail)) rfl) ?_
  refine OpsW.pure rfl rfl (opBuildArr arr164 zt164 (by simp) rfl rfl (by first | exact cells_rfl rfl | simp [Value.cells])) ?_
  refine OpsW.pure rfl rfl (pureOp_fieldAddr fa23_1 rfl) ?_
  refine OpsW.load rfl rfl (loadOp_obj sc3 rfl (by repeat (first | exact List.Mem.head _ | apply List.Mem.tail)) rfl) ?_
  refine OpsW.pure rfl rfl (opBuildArr arr164 zt164 (by simp) rfl rfl (by first | exact cells_rfl rfl | simp [Value.cells])) ?_
  refine OpsW.pure rfl rfl (pureOp_fieldAddr fa23_2 rfl) ?_
  refine OpsW.load rfl rfl (loadOp_obj sc3 rfl (by repeat (first | exact List.Mem.head _ | apply List.Mem.tail)) rfl) ?_
  refine OpsW.pure rfl rfl (opBuildArr arr164 zt164 (by simp) rfl rfl (by first | exact cells_rfl rfl | simp [Value.cells])) ?_
  refine OpsW.pure rfl rfl (pureOp_fieldAddr fa23_3 rfl) ?_
  refine OpsW.load rfl rfl (loadOp_obj sc3 rfl (by repeat (first | exact List.Mem.head _ | apply List.Mem.tail)) rfl) ?_
  refine OpsW.pure rfl rfl (opBuildArr arr164 zt164 (by simp) rfl rfl (by first | exact cells_rfl rfl | simp [Value.cells])) ?_
  refine OpsW.pure rfl rfl (opBuildArr arr165 zt165 (by simp) rfl rfl (by first | exact cells_rfl rfl | simp [Value.cells])) ?_
  refine OpsW.pure rfl rfl (pureOp_move rfl) ?_
  refine OpsW.nil ?_
  refine AWp.forget ?_ (sub_put (i := 0) rfl (sub_put (i := 1) rfl (sub_put (i := 2) rfl (sub_put (i := 17) rfl (sub_put (i := 18) rfl (sub_nil))))))
  refine AWp.block ?_
  refine AWp.forget ?_ (sub_put (i := 17) rfl (sub_put (i := 18) rfl (sub_nil)))
  refine AWp.keep (L' := []) (by repeat (first | exact Sel.nil | (apply Sel.cons; (repeat (first | exact Ext.here | apply Ext.there))))) ?_
  refine AWp.loop (fun N m' T' L' => ∃ k : Nat, N = 4 - k ∧ k ≤ 4 ∧ (∀ j, j < k → ¬ (((planL a b c d).getD j (0, 0)).1 < 1 ∨ ((planL a b c d).getD j (0, 0)).2 < ((planL a b c d).getD j (0, 0)).1)) ∧ m' = m ∧ T' = put (put (tnil) 18 (iV k)) 17 (.agg (pairsC (planL a b c d)).toArray) ∧ L' = []) _ (⟨0, rfl, by omega, fun j hj => absurd hj (Nat.not_lt_zero j), rfl, rfl, rfl⟩) ?_
  rintro _ m _ _ ⟨k, rfl, hk, hall, rfl, rfl, rfl⟩
  refine AWp.seq ?_
  refine AWp.region ?_
  refine OpsW.pure rfl rfl (opN_lss (b := 4) rfl rfl) ?_
  refine OpsW.nil ?_
  refine AWp.forget ?_ (sub_put (i := 17) rfl (sub_put (i := 18) rfl (sub_put (i := 19) rfl (sub_nil))))
  refine AWp.seq ?_
  refine AWp.condP rfl (fun ht19 => ?_) (fun ht19 => ?_)
  refine AWp.skip ?_
  refine AWp.seq ?_
  refine AWp.block ?_
  refine AWp.seq ?_
  refine AWp.region ?_
  refine OpsW.pure rfl rfl (opN_index (i := k) (v := .agg [.int .i64 ((planL a b c d).getD k (0, 0)).1, .int .i64 ((planL a b c d).getD k (0, 0)).2].toArray) Try.underlying165 Try.sizeOf164 rfl rfl (by omega) (fun w => by have := part_agg ag164 (cs := pairsC (planL a b c d)) (i := k * 2) w; rwa [pairs_get _ _ (show k < 4 by omega)] at this)) ?_
  refine OpsW.alloc rfl rfl (allocOp_alloc zt164) ?_
  rintro _ _ ⟨b4, rfl, rfl⟩
  refine OpsW.upd rfl rfl (by repeat (first | exact Pos.here | apply Pos.there)) (lop_storeAllN 2 Try.sizeOf164 rfl rfl (by first | rfl | assumption | (rw [List.length_map]; assumption) | (simp [*]; done) | (simp [*]; omega) | omega) (by first | rfl | assumption | (rw [List.length_map]; assumption) | (simp [*]; done) | (simp [*]; omega) | omega) (by first | exact one_map (fun _ => rfl) _ | exact one_rfl rfl | exact one_sup _ | (simp [one, *]; done))) ?_
  rintro _ _ ⟨rfl, rfl⟩
  refine OpsW.nil ?_
  refine AWp.forget ?_ (sub_put (i := 4) rfl (sub_put (i := 17) rfl (sub_put (i := 18) rfl (sub_put (i := 19) rfl (sub_nil)))))
  refine AWp.seq ?_
  refine AWp.joinW (fun m' T' L' => ∃ bb : Bool, (bb = true ↔ (((planL a b c d).getD k (0, 0)).1 < 1 ∨ ((planL a b c d).getD k (0, 0)).2 < ((planL a b c d).getD k (0, 0)).1)) ∧ m' = m ∧ T' = put (put (put (tnil) 30 (.bool bb)) 18 (iV k)) 17 (.agg (pairsC (planL a b c d)).toArray) ∧ L' = []) ?_ ?_
  · skip
    refine AWp.region ?_
    refine OpsW.pure rfl rfl (opN_indexArr0 (i := 0) arr164 rfl rfl (by omega)) ?_
    refine OpsW.load rfl rfl (loadOp_obj sc3 rfl (by repeat (first | exact List.Mem.head _ | apply List.Mem.tail)) rfl) ?_
    refine OpsW.pure rfl rfl (pureOp_lss rfl rfl) ?_
    refine OpsW.splitP (d := 23) rfl (fun h23 => ?_) (fun h23 => ?_)
    · skip
      refine OpsW.pure rfl rfl (pureOp_move rfl) ?_
      refine OpsW.skipG rfl rfl ?_
      refine OpsW.skipG rfl rfl ?_
      refine OpsW.skipG rfl rfl ?_
      refine OpsW.skipG rfl rfl ?_
      refine OpsW.skipG rfl rfl ?_
      refine OpsW.pure rfl rfl (pureOp_pick_true rfl rfl) ?_
      refine OpsW.nil ?_
      refine ⟨_, [], _, sub_put (i := 17) rfl (sub_put (i := 18) rfl (sub_put (i := 30) rfl (sub_nil))), Sel.perm (by repeat (first | exact Sel.nil | (apply Sel.cons; (repeat (first | exact Ext.here | apply Ext.there))))), ?_⟩
      exact ⟨_, (by first | exact ⟨fun _ => .inl h23, fun _ => rfl⟩ | exact ⟨fun h => .inr (of_decide_eq_true h), fun h => decide_eq_true (h.resolve_left h23)⟩), rfl, rfl, rfl⟩
    · skip
      refine OpsW.pure rfl rfl (pureOp_move rfl) ?_
      refine OpsW.pure rfl rfl (opN_indexArr0 (i := 0) arr164 rfl rfl (by omega)) ?_
      refine OpsW.load rfl rfl (loadOp_obj sc3 rfl (by repeat (first | exact List.Mem.head _ | apply List.Mem.tail)) rfl) ?_
      refine OpsW.pure rfl rfl (opN_indexArr0 (i := 1) arr164 rfl rfl (by omega)) ?_
      refine OpsW.load rfl rfl (loadOp_obj sc3 rfl (by repeat (first | exact List.Mem.head _ | apply List.Mem.tail)) rfl) ?_
      refine OpsW.pure rfl rfl (pureOp_gtr rfl rfl) ?_
      refine OpsW.pure rfl rfl (pureOp_pick_false rfl rfl) ?_
      refine OpsW.nil ?_
      refine ⟨_, [], _, sub_put (i := 17) rfl (sub_put (i := 18) rfl (sub_put (i := 30) rfl (sub_nil))), Sel.perm (by repeat (first | exact Sel.nil | (apply Sel.cons; (repeat (first | exact Ext.here | apply Ext.there))))), ?_⟩
      exact ⟨_, (by first | exact ⟨fun _ => .inl h23, fun _ => rfl⟩ | exact ⟨fun h => .inr (of_decide_eq_true h), fun h => decide_eq_true (h.resolve_left h23)⟩), rfl, rfl, rfl⟩
  rintro m _ _ ⟨bb, hbb, rfl, rfl, rfl⟩
  refine AWp.cond rfl (fun ht30 => ?_) (fun ht30 => ?_)
  · skip
    refine AWp.seq ?_
    refine AWp.region ?_
    refine OpsW.pure rfl rfl (pureOp_assign rfl) ?_
    refine OpsW.nil ?_
    refine AWp.forget ?_ (sub_put (i := 2) rfl (sub_put (i := 17) rfl (sub_put (i := 18) rfl (sub_put (i := 30) rfl (sub_nil)))))
    refine AWp.ret ?_
    exact ⟨_, [], _, permNone, res_tmp rfl rfl, by rw [planChk, if_neg (planL_bad (by omega) (hbb.1 ht30))]; rfl, rfl⟩
  refine AWp.skip ?_
  refine AWp.region ?_
  refine OpsW.pure rfl rfl (opN_add (b := 1) rfl rfl (by omega)) ?_
  refine OpsW.pure rfl rfl (pureOp_move rfl) ?_
  refine OpsW.forget ?_ (sub_put (i := 17) rfl (sub_put (i := 18) rfl (sub_nil)))
  refine OpsW.keep (L' := []) (by repeat (first | exact Sel.nil | (apply Sel.cons; (repeat (first | exact Ext.here | apply Ext.there))))) ?_
  refine OpsW.nil ?_
  exact ⟨_, by omega, k + 1, rfl, by omega, fun j hj => (by rcases Nat.lt_or_ge j k with h | h; exact hall j h; obtain rfl : j = k := (by omega); exact fun h => by rw [hbb.2 h] at ht30; cases ht30), rfl, rfl, rfl⟩
  obtain rfl : k = 4 := by omega
  refine AWp.exit (exit_here ?_)
  refine AWp.seq ?_
  refine AWp.region ?_
  refine OpsW.pure rfl rfl (pureOp_assign rfl) ?_
  refine OpsW.nil ?_
  refine AWp.forget ?_ (sub_put (i := 2) rfl (sub_put (i := 17) rfl (sub_put (i := 18) rfl (sub_put (i := 19) rfl (sub_nil)))))
  refine AWp.ret ?_
  exact ⟨_, [], _, permNone, res_tmp rfl rfl, by rw [planChk, if_pos (planL_ok hall)]; rfl, rfl⟩

set_option maxRecDepth 20000 in
set_option maxHeartbeats 2000000 in
theorem right_c (a b c d : Int) (m : Mem) :
    Ctr Try.prog 115 [.agg [.int .i64 a, .int .i64 b, .int .i64 c, .int .i64 d].toArray] m [] (fun _ r L => r = .bool (decide (planOk a b c d)) ∧ L = []) := by
  refine Ctr.intro Try.func115 rfl Try.ntmps115 (by simp) fun w0 => ?_
  refine AWp.forget ?_ (sub_put (i := 0) rfl (sub_nil))
  refine AWp.seq ?_
  refine AWp.region ?_
  refine OpsW.alloc rfl rfl (allocOp_boxAgg rfl) ?_
  rintro _ _ ⟨b1, rfl, rfl⟩
  refine OpsW.pure rfl rfl (pureOp_assign rfl) ?_
  refine OpsW.nil ?_
  refine AWp.forget ?_ (sub_put (i := 0) rfl (sub_put (i := 1) rfl (sub_put (i := 2) rfl (sub_nil))))
  refine AWp.seq ?_
  refine AWp.joinW (fun m' T' L' => ∃ bb : Bool, (bb = true ↔ planOk a b c d) ∧ m' = m ∧ T' = put (tnil) 2 (.bool bb) ∧ L' = []) ?_ ?_
  · skip
    refine AWp.region ?_
    refine OpsW.pure rfl rfl (pureOp_fieldAddr fa23_0 rfl) ?_
    refine OpsW.load rfl rfl (loadOp_obj sc3 rfl (by repeat (first | exact List.Mem.head _ | apply List.Mem.tail)) rfl) ?_
    refine OpsW.pure rfl rfl (pureOp_geq rfl rfl) ?_
    refine OpsW.splitP (d := 5) rfl (fun h5 => ?_) (fun h5 => ?_)
    · skip
      refine OpsW.pure rfl rfl (pureOp_move rfl) ?_
      refine OpsW.pure rfl rfl (pureOp_fieldAddr fa23_0 rfl) ?_
      refine OpsW.load rfl rfl (loadOp_obj sc3 rfl (by repeat (first | exact List.Mem.head _ | apply List.Mem.tail)) rfl) ?_
      refine OpsW.pure rfl rfl (pureOp_leq rfl rfl) ?_
      refine OpsW.splitP (d := 9) rfl (fun h9 => ?_) (fun h9 => ?_)
      · skip
        refine OpsW.pure rfl rfl (pureOp_pick_true rfl rfl) ?_
        refine OpsW.pure rfl rfl (pureOp_move rfl) ?_
        refine OpsW.pure rfl rfl (pureOp_fieldAddr fa23_1 rfl) ?_
        refine OpsW.load rfl rfl (loadOp_obj sc3 rfl (by repeat (first | exact List.Mem.head _ | apply List.Mem.tail)) rfl) ?_
        refine OpsW.pure rfl rfl (pureOp_geq rfl rfl) ?_
        refine OpsW.splitP (d := 14) rfl (fun h14 => ?_) (fun h14 => ?_)
        · skip
          refine OpsW.pure rfl rfl (pureOp_pick_true rfl rfl) ?_
          refine OpsW.pure rfl rfl (pureOp_move rfl) ?_
          refine OpsW.pure rfl rfl (pureOp_fieldAddr fa23_1 rfl) ?_
          refine OpsW.load rfl rfl (loadOp_obj sc3 rfl (by repeat (first | exact List.Mem.head _ | apply List.Mem.tail)) rfl) ?_
          refine OpsW.pure rfl rfl (pureOp_leq rfl rfl) ?_
          refine OpsW.splitP (d := 19) rfl (fun h19 => ?_) (fun h19 => ?_)
          · skip
            refine OpsW.pure rfl rfl (pureOp_pick_true rfl rfl) ?_
            refine OpsW.pure rfl rfl (pureOp_move rfl) ?_
            refine OpsW.pure rfl rfl (pureOp_fieldAddr fa23_2 rfl) ?_
            refine OpsW.load rfl rfl (loadOp_obj sc3 rfl (by repeat (first | exact List.Mem.head _ | apply List.Mem.tail)) rfl) ?_
            refine OpsW.pure rfl rfl (pureOp_geq rfl rfl) ?_
            refine OpsW.splitP (d := 24) rfl (fun h24 => ?_) (fun h24 => ?_)
            · skip
              refine OpsW.pure rfl rfl (pureOp_pick_true rfl rfl) ?_
              refine OpsW.pure rfl rfl (pureOp_move rfl) ?_
              refine OpsW.pure rfl rfl (pureOp_fieldAddr fa23_2 rfl) ?_
              refine OpsW.load rfl rfl (loadOp_obj sc3 rfl (by repeat (first | exact List.Mem.head _ | apply List.Mem.tail)) rfl) ?_
              refine OpsW.pure rfl rfl (pureOp_leq rfl rfl) ?_
              refine OpsW.splitP (d := 29) rfl (fun h29 => ?_) (fun h29 => ?_)
              · skip
                refine OpsW.pure rfl rfl (pureOp_pick_true rfl rfl) ?_
                refine OpsW.pure rfl rfl (pureOp_move rfl) ?_
                refine OpsW.pure rfl rfl (pureOp_fieldAddr fa23_3 rfl) ?_
                refine OpsW.load rfl rfl (loadOp_obj sc3 rfl (by repeat (first | exact List.Mem.head _ | apply List.Mem.tail)) rfl) ?_
                refine OpsW.pure rfl rfl (pureOp_geq rfl rfl) ?_
                refine OpsW.splitP (d := 34) rfl (fun h34 => ?_) (fun h34 => ?_)
                · skip
                  refine OpsW.pure rfl rfl (pureOp_pick_true rfl rfl) ?_
                  refine OpsW.pure rfl rfl (pureOp_move rfl) ?_
                  refine OpsW.pure rfl rfl (pureOp_fieldAddr fa23_3 rfl) ?_
                  refine OpsW.load rfl rfl (loadOp_obj sc3 rfl (by repeat (first | exact List.Mem.head _ | apply List.Mem.tail)) rfl) ?_
                  refine OpsW.pure rfl rfl (pureOp_leq rfl rfl) ?_
                  refine OpsW.splitP (d := 39) rfl (fun h39 => ?_) (fun h39 => ?_)
                  · skip
                    refine OpsW.pure rfl rfl (pureOp_pick_true rfl rfl) ?_
                    refine OpsW.pure rfl rfl (pureOp_assign rfl) ?_
                    refine OpsW.nil ?_
                    refine ⟨_, [], _, sub_put (i := 2) rfl (sub_nil), Sel.perm (by repeat (first | exact Sel.nil | (apply Sel.cons; (repeat (first | exact Ext.here | apply Ext.there))))), ?_⟩
                    exact ⟨_, (by unfold planOk; constructor <;> intro h <;> first | (cases h; done) | rfl | omega | (exfalso; omega)), rfl, rfl, rfl⟩
                  · skip
                    refine OpsW.pure rfl rfl (pureOp_pick_true rfl rfl) ?_
                    refine OpsW.pure rfl rfl (pureOp_assign rfl) ?_
                    refine OpsW.nil ?_
                    refine ⟨_, [], _, sub_put (i := 2) rfl (sub_nil), Sel.perm (by repeat (first | exact Sel.nil | (apply Sel.cons; (repeat (first | exact Ext.here | apply Ext.there))))), ?_⟩
                    exact ⟨_, (by unfold planOk; constructor <;> intro h <;> first | (cases h; done) | rfl | omega | (exfalso; omega)), rfl, rfl, rfl⟩
                · skip
                  refine OpsW.pure rfl rfl (pureOp_pick_true rfl rfl) ?_
                  refine OpsW.pure rfl rfl (pureOp_move rfl) ?_
                  refine OpsW.skipG rfl rfl ?_
                  refine OpsW.skipG rfl rfl ?_
                  refine OpsW.skipG rfl rfl ?_
                  refine OpsW.pure rfl rfl (pureOp_pick_false rfl rfl) ?_
                  refine OpsW.pure rfl rfl (pureOp_assign rfl) ?_
                  refine OpsW.nil ?_
                  refine ⟨_, [], _, sub_put (i := 2) rfl (sub_nil), Sel.perm (by repeat (first | exact Sel.nil | (apply Sel.cons; (repeat (first | exact Ext.here | apply Ext.there))))), ?_⟩
                  exact ⟨_, (by unfold planOk; constructor <;> intro h <;> first | (cases h; done) | rfl | omega | (exfalso; omega)), rfl, rfl, rfl⟩
              · skip
                refine OpsW.pure rfl rfl (pureOp_pick_true rfl rfl) ?_
                refine OpsW.pure rfl rfl (pureOp_move rfl) ?_
                refine OpsW.skipG rfl rfl ?_
                refine OpsW.skipG rfl rfl ?_
                refine OpsW.skipG rfl rfl ?_
                refine OpsW.pure rfl rfl (pureOp_pick_false rfl rfl) ?_
                refine OpsW.pure rfl rfl (pureOp_move rfl) ?_
                refine OpsW.skipG rfl rfl ?_
                refine OpsW.skipG rfl rfl ?_
                refine OpsW.skipG rfl rfl ?_
                refine OpsW.pure rfl rfl (pureOp_pick_false rfl rfl) ?_
                refine OpsW.pure rfl rfl (pureOp_assign rfl) ?_
                refine OpsW.nil ?_
                refine ⟨_, [], _, sub_put (i := 2) rfl (sub_nil), Sel.perm (by repeat (first | exact Sel.nil | (apply Sel.cons; (repeat (first | exact Ext.here | apply Ext.there))))), ?_⟩
                exact ⟨_, (by unfold planOk; constructor <;> intro h <;> first | (cases h; done) | rfl | omega | (exfalso; omega)), rfl, rfl, rfl⟩
            · skip
              refine OpsW.pure rfl rfl (pureOp_pick_true rfl rfl) ?_
              refine OpsW.pure rfl rfl (pureOp_move rfl) ?_
              refine OpsW.skipG rfl rfl ?_
              refine OpsW.skipG rfl rfl ?_
              refine OpsW.skipG rfl rfl ?_
              refine OpsW.pure rfl rfl (pureOp_pick_false rfl rfl) ?_
              refine OpsW.pure rfl rfl (pureOp_move rfl) ?_
              refine OpsW.skipG rfl rfl ?_
              refine OpsW.skipG rfl rfl ?_
              refine OpsW.skipG rfl rfl ?_
              refine OpsW.pure rfl rfl (pureOp_pick_false rfl rfl) ?_
              refine OpsW.pure rfl rfl (pureOp_move rfl) ?_
              refine OpsW.skipG rfl rfl ?_
              refine OpsW.skipG rfl rfl ?_
              refine OpsW.skipG rfl rfl ?_
              refine OpsW.pure rfl rfl (pureOp_pick_false rfl rfl) ?_
              refine OpsW.pure rfl rfl (pureOp_assign rfl) ?_
              refine OpsW.nil ?_
              refine ⟨_, [], _, sub_put (i := 2) rfl (sub_nil), Sel.perm (by repeat (first | exact Sel.nil | (apply Sel.cons; (repeat (first | exact Ext.here | apply Ext.there))))), ?_⟩
              exact ⟨_, (by unfold planOk; constructor <;> intro h <;> first | (cases h; done) | rfl | omega | (exfalso; omega)), rfl, rfl, rfl⟩
          · skip
            refine OpsW.pure rfl rfl (pureOp_pick_true rfl rfl) ?_
            refine OpsW.pure rfl rfl (pureOp_move rfl) ?_
            refine OpsW.skipG rfl rfl ?_
            refine OpsW.skipG rfl rfl ?_
            refine OpsW.skipG rfl rfl ?_
            refine OpsW.pure rfl rfl (pureOp_pick_false rfl rfl) ?_
            refine OpsW.pure rfl rfl (pureOp_move rfl) ?_
            refine OpsW.skipG rfl rfl ?_
            refine OpsW.skipG rfl rfl ?_
            refine OpsW.skipG rfl rfl ?_
            refine OpsW.pure rfl rfl (pureOp_pick_false rfl rfl) ?_
            refine OpsW.pure rfl rfl (pureOp_move rfl) ?_
            refine OpsW.skipG rfl rfl ?_
            refine OpsW.skipG rfl rfl ?_
            refine OpsW.skipG rfl rfl ?_
            refine OpsW.pure rfl rfl (pureOp_pick_false rfl rfl) ?_
            refine OpsW.pure rfl rfl (pureOp_move rfl) ?_
            refine OpsW.skipG rfl rfl ?_
            refine OpsW.skipG rfl rfl ?_
            refine OpsW.skipG rfl rfl ?_
            refine OpsW.pure rfl rfl (pureOp_pick_false rfl rfl) ?_
            refine OpsW.pure rfl rfl (pureOp_assign rfl) ?_
            refine OpsW.nil ?_
            refine ⟨_, [], _, sub_put (i := 2) rfl (sub_nil), Sel.perm (by repeat (first | exact Sel.nil | (apply Sel.cons; (repeat (first | exact Ext.here | apply Ext.there))))), ?_⟩
            exact ⟨_, (by unfold planOk; constructor <;> intro h <;> first | (cases h; done) | rfl | omega | (exfalso; omega)), rfl, rfl, rfl⟩
        · skip
          refine OpsW.pure rfl rfl (pureOp_pick_true rfl rfl) ?_
          refine OpsW.pure rfl rfl (pureOp_move rfl) ?_
          refine OpsW.skipG rfl rfl ?_
          refine OpsW.skipG rfl rfl ?_
          refine OpsW.skipG rfl rfl ?_
          refine OpsW.pure rfl rfl (pureOp_pick_false rfl rfl) ?_
          refine OpsW.pure rfl rfl (pureOp_move rfl) ?_
          refine OpsW.skipG rfl rfl ?_
          refine OpsW.skipG rfl rfl ?_
          refine OpsW.skipG rfl rfl ?_
          refine OpsW.pure rfl rfl (pureOp_pick_false rfl rfl) ?_
          refine OpsW.pure rfl rfl (pureOp_move rfl) ?_
          refine OpsW.skipG rfl rfl ?_
          refine OpsW.skipG rfl rfl ?_
          refine OpsW.skipG rfl rfl ?_
          refine OpsW.pure rfl rfl (pureOp_pick_false rfl rfl) ?_
          refine OpsW.pure rfl rfl (pureOp_move rfl) ?_
          refine OpsW.skipG rfl rfl ?_
          refine OpsW.skipG rfl rfl ?_
          refine OpsW.skipG rfl rfl ?_
          refine OpsW.pure rfl rfl (pureOp_pick_false rfl rfl) ?_
          refine OpsW.pure rfl rfl (pureOp_move rfl) ?_
          refine OpsW.skipG rfl rfl ?_
          refine OpsW.skipG rfl rfl ?_
          refine OpsW.skipG rfl rfl ?_
          refine OpsW.pure rfl rfl (pureOp_pick_false rfl rfl) ?_
          refine OpsW.pure rfl rfl (pureOp_assign rfl) ?_
          refine OpsW.nil ?_
          refine ⟨_, [], _, sub_put (i := 2) rfl (sub_nil), Sel.perm (by repeat (first | exact Sel.nil | (apply Sel.cons; (repeat (first | exact Ext.here | apply Ext.there))))), ?_⟩
          exact ⟨_, (by unfold planOk; constructor <;> intro h <;> first | (cases h; done) | rfl | omega | (exfalso; omega)), rfl, rfl, rfl⟩
      · skip
        refine OpsW.pure rfl rfl (pureOp_pick_true rfl rfl) ?_
        refine OpsW.pure rfl rfl (pureOp_move rfl) ?_
        refine OpsW.skipG rfl rfl ?_
        refine OpsW.skipG rfl rfl ?_
        refine OpsW.skipG rfl rfl ?_
        refine OpsW.pure rfl rfl (pureOp_pick_false rfl rfl) ?_
        refine OpsW.pure rfl rfl (pureOp_move rfl) ?_
        refine OpsW.skipG rfl rfl ?_
        refine OpsW.skipG rfl rfl ?_
        refine OpsW.skipG rfl rfl ?_
        refine OpsW.pure rfl rfl (pureOp_pick_false rfl rfl) ?_
        refine OpsW.pure rfl rfl (pureOp_move rfl) ?_
        refine OpsW.skipG rfl rfl ?_
        refine OpsW.skipG rfl rfl ?_
        refine OpsW.skipG rfl rfl ?_
        refine OpsW.pure rfl rfl (pureOp_pick_false rfl rfl) ?_
        refine OpsW.pure rfl rfl (pureOp_move rfl) ?_
        refine OpsW.skipG rfl rfl ?_
        refine OpsW.skipG rfl rfl ?_
        refine OpsW.skipG rfl rfl ?_
        refine OpsW.pure rfl rfl (pureOp_pick_false rfl rfl) ?_
        refine OpsW.pure rfl rfl (pureOp_move rfl) ?_
        refine OpsW.skipG rfl rfl ?_
        refine OpsW.skipG rfl rfl ?_
        refine OpsW.skipG rfl rfl ?_
        refine OpsW.pure rfl rfl (pureOp_pick_false rfl rfl) ?_
        refine OpsW.pure rfl rfl (pureOp_move rfl) ?_
        refine OpsW.skipG rfl rfl ?_
        refine OpsW.skipG rfl rfl ?_
        refine OpsW.skipG rfl rfl ?_
        refine OpsW.pure rfl rfl (pureOp_pick_false rfl rfl) ?_
        refine OpsW.pure rfl rfl (pureOp_assign rfl) ?_
        refine OpsW.nil ?_
        refine ⟨_, [], _, sub_put (i := 2) rfl (sub_nil), Sel.perm (by repeat (first | exact Sel.nil | (apply Sel.cons; (repeat (first | exact Ext.here | apply Ext.there))))), ?_⟩
        exact ⟨_, (by unfold planOk; constructor <;> intro h <;> first | (cases h; done) | rfl | omega | (exfalso; omega)), rfl, rfl, rfl⟩
    · skip
      refine OpsW.pure rfl rfl (pureOp_move rfl) ?_
      refine OpsW.skipG rfl rfl ?_
      refine OpsW.skipG rfl rfl ?_
      refine OpsW.skipG rfl rfl ?_
      refine OpsW.pure rfl rfl (pureOp_pick_false rfl rfl) ?_
      refine OpsW.pure rfl rfl (pureOp_move rfl) ?_
      refine OpsW.skipG rfl rfl ?_
      refine OpsW.skipG rfl rfl ?_
      refine OpsW.skipG rfl rfl ?_
      refine OpsW.pure rfl rfl (pureOp_pick_false rfl rfl) ?_
      refine OpsW.pure rfl rfl (pureOp_move rfl) ?_
      refine OpsW.skipG rfl rfl ?_
      refine OpsW.skipG rfl rfl ?_
      refine OpsW.skipG rfl rfl ?_
      refine OpsW.pure rfl rfl (pureOp_pick_false rfl rfl) ?_
      refine OpsW.pure rfl rfl (pureOp_move rfl) ?_
      refine OpsW.skipG rfl rfl ?_
      refine OpsW.skipG rfl rfl ?_
      refine OpsW.skipG rfl rfl ?_
      refine OpsW.pure rfl rfl (pureOp_pick_false rfl rfl) ?_
      refine OpsW.pure rfl rfl (pureOp_move rfl) ?_
      refine OpsW.skipG rfl rfl ?_
      refine OpsW.skipG rfl rfl ?_
      refine OpsW.skipG rfl rfl ?_
      refine OpsW.pure rfl rfl (pureOp_pick_false rfl rfl) ?_
      refine OpsW.pure rfl rfl (pureOp_move rfl) ?_
      refine OpsW.skipG rfl rfl ?_
      refine OpsW.skipG rfl rfl ?_
      refine OpsW.skipG rfl rfl ?_
      refine OpsW.pure rfl rfl (pureOp_pick_false rfl rfl) ?_
      refine OpsW.pure rfl rfl (pureOp_move rfl) ?_
      refine OpsW.skipG rfl rfl ?_
      refine OpsW.skipG rfl rfl ?_
      refine OpsW.skipG rfl rfl ?_
      refine OpsW.pure rfl rfl (pureOp_pick_false rfl rfl) ?_
      refine OpsW.pure rfl rfl (pureOp_assign rfl) ?_
      refine OpsW.nil ?_
      refine ⟨_, [], _, sub_put (i := 2) rfl (sub_nil), Sel.perm (by repeat (first | exact Sel.nil | (apply Sel.cons; (repeat (first | exact Ext.here | apply Ext.there))))), ?_⟩
      exact ⟨_, (by unfold planOk; constructor <;> intro h <;> first | (cases h; done) | rfl | omega | (exfalso; omega)), rfl, rfl, rfl⟩
  rintro m _ _ ⟨bb, hbb, rfl, rfl, rfl⟩
  refine AWp.ret ?_
  exact ⟨_, [], _, permNone, res_tmp rfl rfl, by congr 1; rw [Bool.eq_iff_iff, hbb, decide_eq_true_eq], rfl⟩

set_option maxRecDepth 20000 in
set_option maxHeartbeats 1000000 in
theorem planchk7_c (a b c d : Int) (m : Mem) :
    Ctr Try.prog 72 [.agg [.int .i64 a, .int .i64 b, .int .i64 c, .int .i64 d].toArray] m [] (fun _ r L => r = iV (planChk a b c d) ∧ L = []) := by
  refine Ctr.intro Try.func72 rfl Try.ntmps72 (by simp) fun w0 => ?_
  refine AWp.forget ?_ (sub_put (i := 0) rfl (sub_nil))
  refine AWp.seq ?_
  refine AWp.region ?_
  refine OpsW.alloc rfl rfl (allocOp_boxAgg rfl) ?_
  rintro _ _ ⟨b1, rfl, rfl⟩
  refine OpsW.pure rfl rfl (pureOp_assign rfl) ?_
  refine OpsW.nil ?_
  refine AWp.forget ?_ (sub_put (i := 0) rfl (sub_put (i := 1) rfl (sub_put (i := 2) rfl (sub_nil))))
  refine AWp.seq ?_
  refine AWp.seq ?_
  refine AWp.region ?_
  refine OpsW.load rfl rfl (loadAll rfl (by repeat (first | exact List.Mem.head _ | apply List.Mem.tail)) (by rfl) ag23) ?_
  refine OpsW.callA rfl rfl (callOp Try.call115 rfl) permNone (right_c a b c d _) ?_
  rintro _ _ ⟨rfl, rfl⟩
  refine OpsW.pure rfl rfl (pureOp_notP rfl) ?_
  refine OpsW.nil ?_
  refine AWp.forget ?_ (sub_put (i := 0) rfl (sub_put (i := 1) rfl (sub_put (i := 2) rfl (sub_put (i := 5) rfl (sub_nil)))))
  refine AWp.condP rfl (fun ht5 => ?_) (fun ht5 => ?_)
  · skip
    refine AWp.seq ?_
    refine AWp.region ?_
    refine OpsW.pure rfl rfl (pureOp_assign rfl) ?_
    refine OpsW.nil ?_
    refine AWp.forget ?_ (sub_put (i := 0) rfl (sub_put (i := 1) rfl (sub_put (i := 2) rfl (sub_put (i := 5) rfl (sub_nil)))))
    refine AWp.ret ?_
    exact ⟨_, [], _, permNone, res_tmp rfl rfl, by rw [planChk, if_neg ht5]; rfl, rfl⟩
  refine AWp.skip ?_
  refine AWp.seq ?_
  refine AWp.region ?_
  refine OpsW.pure rfl rfl (pureOp_assign rfl) ?_
  refine OpsW.nil ?_
  refine AWp.forget ?_ (sub_put (i := 0) rfl (sub_put (i := 1) rfl (sub_put (i := 2) rfl (sub_put (i := 5) rfl (sub_nil)))))
  refine AWp.ret ?_
  exact ⟨_, [], _, permNone, res_tmp rfl rfl, by rw [planChk, if_pos (Decidable.of_not_not ht5)]; rfl, rfl⟩

set_option maxRecDepth 20000 in
set_option maxHeartbeats 1000000 in
theorem mark_c  (m : Mem) :
    Ctr Try.prog 68 [] m [] (fun _ r L => r = .agg (markL.map bV).toArray ∧ L = []) := by
  refine Ctr.intro Try.func68 rfl Try.ntmps68 (by simp) fun w0 => ?_
  refine AWp.forget ?_ (sub_nil)
  refine AWp.seq ?_
  refine AWp.region ?_
  refine OpsW.alloc rfl rfl (allocOp_alloc zt118) ?_
  rintro _ _ ⟨b0, rfl, rfl⟩
  refine OpsW.nil ?_
  refine AWp.forget ?_ (sub_put (i := 0) rfl (sub_nil))
  refine AWp.seq ?_
  refine AWp.region ?_
  refine OpsW.alloc rfl rfl (allocOp_buildSlice slt46 rfl rfl (by first | exact cells_rfl rfl | simp [Value.cells]) (by decide)) ?_
  rintro v1 _ ⟨hv1, hn1, rfl⟩
  rw [show List.flatMap (fun x : Value => x.cells.toList) [.int .u8 77, .int .u8 79, .int .u8 82, .int .u8 84, .int .u8 77, .int .u8 65, .int .u8 73, .int .u8 78] = markL.map bV from rfl] at hv1 ⊢
  refine OpsW.upd rfl rfl (by repeat (first | exact Pos.here | apply Pos.there)) (lop_convMark Try.underlying46 Try.underlying5 rfl (by assumption)) ?_
  rintro u _ ⟨e, rfl⟩
  rw [e]
  clear e
  refine OpsW.pure rfl rfl (opN_arrayAt Try.underlying118 rfl (by assumption) rfl (Nat.le_refl _) (by decide)) ?_
  refine OpsW.load rfl rfl (loadOp_arr (l := markL) ag118 rfl (Rd.of_sl (by repeat (first | exact List.Mem.head _ | apply List.Mem.tail)) hv1) (by decide) (by decide)) ?_
  refine OpsW.upd rfl rfl (by repeat (first | exact Pos.here | apply Pos.there)) (lop_storeAllN 8 Try.sizeOf118 rfl rfl (by first | rfl | assumption | (rw [List.length_map]; assumption) | (simp [*]; done) | (simp [*]; omega) | omega) (by first | rfl | assumption | (rw [List.length_map]; assumption) | (simp [*]; done) | (simp [*]; omega) | omega) (by first | exact one_map (fun _ => rfl) _ | exact one_rfl rfl | exact one_sup _ | (simp [one, *]; done))) ?_
  rintro _ _ ⟨rfl, rfl⟩
  refine OpsW.nil ?_
  refine AWp.forget ?_ (sub_put (i := 0) rfl (sub_nil))
  refine AWp.ret ?_
  exact ⟨_, [], _, permNone, resCell rfl rfl (by repeat (first | exact List.Mem.head _ | apply List.Mem.tail)) (by rfl) ag118, rfl, rfl⟩

set_option maxRecDepth 20000 in
set_option maxHeartbeats 4000000 in
theorem sput_c (a b c d n : Int) (m : Mem) :
    Ctr Try.prog 14 [.agg [.int .i64 a, .int .i64 b, .int .i64 c, .int .i64 d, .int .i64 n].toArray] m [] (fun _ r L => r = .tuple #[.agg ((putS a b c d n).1.map bV).toArray, iV (putS a b c d n).2] ∧ L = []) := by
  refine Ctr.intro Try.func14 rfl Try.ntmps14 (by simp) fun w0 => ?_
  refine AWp.forget ?_ (sub_put (i := 0) rfl (sub_nil))
  refine AWp.seq ?_
  refine AWp.region ?_
  refine OpsW.alloc rfl rfl (allocOp_boxAgg rfl) ?_
  rintro _ _ ⟨b1, rfl, rfl⟩
  refine OpsW.alloc rfl rfl (allocOp_alloc zt24) ?_
  rintro _ _ ⟨b2, rfl, rfl⟩
  refine OpsW.pure rfl rfl (pureOp_assign rfl) ?_
  refine OpsW.nil ?_
  refine AWp.forget ?_ (sub_put (i := 0) rfl (sub_put (i := 1) rfl (sub_put (i := 2) rfl (sub_put (i := 3) rfl (sub_nil)))))
  refine AWp.seq ?_
  refine AWp.seq ?_
  refine AWp.region ?_
  refine OpsW.pure rfl rfl (pureOp_fieldAddr fa29_0 rfl) ?_
  refine OpsW.load rfl rfl (loadOp_objAgg ag23 rfl (by repeat (first | exact List.Mem.head _ | apply List.Mem.tail)) (Nat.le_of_ble_eq_true rfl)) ?_
  refine OpsW.callA rfl rfl (callOp Try.call67 rfl) permNone (planchk_c a b c d _) ?_
  rintro _ _ ⟨rfl, rfl⟩
  refine OpsW.pure rfl rfl (pureOp_assign rfl) ?_
  refine OpsW.nil ?_
  refine AWp.forget ?_ (sub_put (i := 0) rfl (sub_put (i := 1) rfl (sub_put (i := 2) rfl (sub_put (i := 3) rfl (sub_put (i := 4) rfl (sub_nil))))))
  refine AWp.seq ?_
  refine AWp.region ?_
  refine OpsW.pure rfl rfl (pureOp_move rfl) ?_
  refine OpsW.pure rfl rfl (opN_neq (b := 0) rfl rfl) ?_
  refine OpsW.nil ?_
  refine AWp.forget ?_ (sub_put (i := 0) rfl (sub_put (i := 1) rfl (sub_put (i := 2) rfl (sub_put (i := 3) rfl (sub_put (i := 4) rfl (sub_put (i := 14) rfl (sub_nil)))))))
  refine AWp.condP rfl (fun ht14 => ?_) (fun ht14 => ?_)
  · skip
    refine AWp.seq ?_
    refine AWp.region ?_
    refine OpsW.pure rfl rfl (opBuildArr0 arr24 zt24) ?_
    refine OpsW.pure rfl rfl (pureOp_move rfl) ?_
    refine OpsW.upd rfl rfl (by repeat (first | exact Pos.here | apply Pos.there)) (lop_storeAllN 256 Try.sizeOf24 rfl rfl List.length_replicate List.length_replicate (fun u hu => by rw [List.eq_of_mem_replicate hu]; rfl)) ?_
    rintro _ _ ⟨rfl, rfl⟩
    refine OpsW.pure rfl rfl (pureOp_assign rfl) ?_
    refine OpsW.nil ?_
    refine AWp.forget ?_ (sub_put (i := 0) rfl (sub_put (i := 1) rfl (sub_put (i := 2) rfl (sub_put (i := 3) rfl (sub_put (i := 4) rfl (sub_put (i := 14) rfl (sub_nil)))))))
    refine AWp.ret ?_
    exact ⟨_, [], _, permNone, resCellTmp rfl rfl (by repeat (first | exact List.Mem.head _ | apply List.Mem.tail)) List.length_replicate ag24 rfl, by rw [putS_bad (planChk_ne ht14), ← zero256_map, planChk, if_neg (planChk_ne ht14)], rfl⟩
  refine AWp.skip ?_
  refine AWp.seq ?_
  refine AWp.seq ?_
  refine AWp.joinW (fun m' T' L' => ∃ bb : Bool, (bb = true ↔ (n < 0 ∨ 1099511627776 < n)) ∧ m' = m ∧ T' = put (put (put (tnil) 24 (.bool bb)) 2 (.pointer (some ⟨b2, 0, none⟩))) 1 (.pointer (some ⟨b1, 0, none⟩)) ∧ L' = [.obj b1 [.int .i64 a, .int .i64 b, .int .i64 c, .int .i64 d, .int .i64 n], .obj b2 (List.replicate 256 (.int .u8 0))]) ?_ ?_
  · skip
    refine AWp.region ?_
    refine OpsW.pure rfl rfl (pureOp_fieldAddr fa29_1 rfl) ?_
    refine OpsW.load rfl rfl (loadOp_obj sc3 rfl (by repeat (first | exact List.Mem.head _ | apply List.Mem.tail)) rfl) ?_
    refine OpsW.pure rfl rfl (pureOp_lss rfl rfl) ?_
    refine OpsW.splitP (d := 19) rfl (fun h19 => ?_) (fun h19 => ?_)
    · skip
      refine OpsW.pure rfl rfl (pureOp_move rfl) ?_
      refine OpsW.skipG rfl rfl ?_
      refine OpsW.skipG rfl rfl ?_
      refine OpsW.skipG rfl rfl ?_
      refine OpsW.pure rfl rfl (pureOp_pick_true rfl rfl) ?_
      refine OpsW.nil ?_
      refine ⟨_, [.obj b1 _, .obj b2 _], _, sub_put (i := 1) rfl (sub_put (i := 2) rfl (sub_put (i := 24) rfl (sub_nil))), Sel.perm (by repeat (first | exact Sel.nil | (apply Sel.cons; (repeat (first | exact Ext.here | apply Ext.there))))), ?_⟩
      exact ⟨_, (by first | exact ⟨fun _ => .inl h19, fun _ => rfl⟩ | exact ⟨fun h => .inr (of_decide_eq_true h), fun h => decide_eq_true (h.resolve_left h19)⟩), rfl, rfl, rfl⟩
    · skip
      refine OpsW.pure rfl rfl (pureOp_move rfl) ?_
      refine OpsW.pure rfl rfl (pureOp_fieldAddr fa29_1 rfl) ?_
      refine OpsW.load rfl rfl (loadOp_obj sc3 rfl (by repeat (first | exact List.Mem.head _ | apply List.Mem.tail)) rfl) ?_
      refine OpsW.pure rfl rfl (pureOp_gtr rfl rfl) ?_
      refine OpsW.pure rfl rfl (pureOp_pick_false rfl rfl) ?_
      refine OpsW.nil ?_
      refine ⟨_, [.obj b1 _, .obj b2 _], _, sub_put (i := 1) rfl (sub_put (i := 2) rfl (sub_put (i := 24) rfl (sub_nil))), Sel.perm (by repeat (first | exact Sel.nil | (apply Sel.cons; (repeat (first | exact Ext.here | apply Ext.there))))), ?_⟩
      exact ⟨_, (by first | exact ⟨fun _ => .inl h19, fun _ => rfl⟩ | exact ⟨fun h => .inr (of_decide_eq_true h), fun h => decide_eq_true (h.resolve_left h19)⟩), rfl, rfl, rfl⟩
  rintro m _ _ ⟨bb, hbb, rfl, rfl, rfl⟩
  refine AWp.cond rfl (fun ht24 => ?_) (fun ht24 => ?_)
  · skip
    refine AWp.seq ?_
    refine AWp.region ?_
    refine OpsW.pure rfl rfl (opBuildArr0 arr24 zt24) ?_
    refine OpsW.upd rfl rfl (by repeat (first | exact Pos.here | apply Pos.there)) (lop_storeAllN 256 Try.sizeOf24 rfl rfl List.length_replicate List.length_replicate (fun u hu => by rw [List.eq_of_mem_replicate hu]; rfl)) ?_
    rintro _ _ ⟨rfl, rfl⟩
    refine OpsW.pure rfl rfl (pureOp_assign rfl) ?_
    refine OpsW.nil ?_
    refine AWp.forget ?_ (sub_put (i := 1) rfl (sub_put (i := 2) rfl (sub_put (i := 3) rfl (sub_put (i := 24) rfl (sub_nil)))))
    refine AWp.ret ?_
    exact ⟨_, [], _, permNone, resCellTmp rfl rfl (by repeat (first | exact List.Mem.head _ | apply List.Mem.tail)) List.length_replicate ag24 rfl, by rw [putS_far (planChk_eq ht14) (hbb.1 ht24), ← zero256_map]; rfl, rfl⟩
  refine AWp.skip ?_
  refine AWp.seq ?_
  have hpl := planChk_eq ht14
  obtain ⟨a0, rfl⟩ : ∃ q : Nat, a = (q : Int) := ⟨a.toNat, by unfold planOk at hpl; omega⟩
  obtain ⟨b0, rfl⟩ : ∃ q : Nat, b = (q : Int) := ⟨b.toNat, by unfold planOk at hpl; omega⟩
  obtain ⟨c0, rfl⟩ : ∃ q : Nat, c = (q : Int) := ⟨c.toNat, by unfold planOk at hpl; omega⟩
  obtain ⟨d0, rfl⟩ : ∃ q : Nat, d = (q : Int) := ⟨d.toNat, by unfold planOk at hpl; omega⟩
  have hnn : ¬ (n < 0 ∨ 1099511627776 < n) := fun h => by rw [hbb.2 h] at ht24; cases ht24
  obtain ⟨n0, rfl⟩ : ∃ q : Nat, n = (q : Int) := ⟨n.toNat, by omega⟩
  refine AWp.region ?_
  refine OpsW.callA rfl rfl (callOp Try.call68 rfl) permNone (mark_c _) ?_
  rintro _ _ ⟨rfl, rfl⟩
  refine OpsW.alloc rfl rfl (allocOp_alloc zt118) ?_
  rintro _ _ ⟨b5, rfl, rfl⟩
  refine OpsW.upd rfl rfl (by repeat (first | exact Pos.here | apply Pos.there)) (lop_storeAllN 8 Try.sizeOf118 rfl rfl (by rfl) (by rfl) (by first | exact one_map (fun _ => rfl) _ | exact one_rfl rfl | exact one_sup _ | (simp [one, *]; done))) ?_
  rintro _ _ ⟨rfl, rfl⟩
  refine OpsW.nil ?_
  refine AWp.forget ?_ (sub_put (i := 1) rfl (sub_put (i := 2) rfl (sub_put (i := 5) rfl (sub_put (i := 24) rfl (sub_nil)))))
  refine AWp.seq ?_
  refine AWp.region ?_
  refine OpsW.pure rfl rfl (pureOp_sliceArr (n := 8) 0 8 Try.underlying118 Try.sizeOf5 rfl (.inl ⟨rfl, rfl⟩) (.inl ⟨rfl, rfl⟩) (by decide) (by decide)) ?_
  refine OpsW.pure rfl rfl (pureOp_assign rfl) ?_
  refine OpsW.nil ?_
  refine AWp.forget ?_ (sub_put (i := 1) rfl (sub_put (i := 2) rfl (sub_put (i := 5) rfl (sub_put (i := 6) rfl (sub_put (i := 24) rfl (sub_nil))))))
  refine AWp.seq ?_
  refine AWp.seq ?_
  refine AWp.retell (.sl (arrSl b5 0 8 0 8 1) 1 (markL.map bV)) (by repeat (first | exact Pos.here | apply Pos.there)) (fun w h => obj_sl h (by rfl) (by decide)) (fun k h => obj_sl_has k h) ?_
  refine AWp.region ?_
  refine OpsW.pure rfl rfl (pureOp_fieldAddr fa29_0 rfl) ?_
  refine OpsW.pure rfl rfl (pureOp_fieldAddr fa23_0 rfl) ?_
  refine OpsW.load rfl rfl (loadOp_obj sc3 rfl (by repeat (first | exact List.Mem.head _ | apply List.Mem.tail)) rfl) ?_
  refine OpsW.pure rfl rfl (pureOp_fieldAddr fa29_0 rfl) ?_
  refine OpsW.pure rfl rfl (pureOp_fieldAddr fa23_1 rfl) ?_
  refine OpsW.load rfl rfl (loadOp_obj sc3 rfl (by repeat (first | exact List.Mem.head _ | apply List.Mem.tail)) rfl) ?_
  refine OpsW.pure rfl rfl (pureOp_fieldAddr fa29_0 rfl) ?_
  refine OpsW.pure rfl rfl (pureOp_fieldAddr fa23_2 rfl) ?_
  refine OpsW.load rfl rfl (loadOp_obj sc3 rfl (by repeat (first | exact List.Mem.head _ | apply List.Mem.tail)) rfl) ?_
  refine OpsW.pure rfl rfl (pureOp_fieldAddr fa29_0 rfl) ?_
  refine OpsW.pure rfl rfl (pureOp_fieldAddr fa23_3 rfl) ?_
  refine OpsW.load rfl rfl (loadOp_obj sc3 rfl (by repeat (first | exact List.Mem.head _ | apply List.Mem.tail)) rfl) ?_
  refine OpsW.pure rfl rfl (opBuildArr arr120 zt120 (by simp) rfl rfl (by first | exact cells_rfl rfl | simp [Value.cells])) ?_
  refine OpsW.pure rfl rfl (pureOp_move rfl) ?_
  refine OpsW.nil ?_
  refine AWp.forget ?_ (sub_put (i := 1) rfl (sub_put (i := 2) rfl (sub_put (i := 5) rfl (sub_put (i := 6) rfl (sub_put (i := 24) rfl (sub_put (i := 40) rfl (sub_put (i := 41) rfl (sub_nil))))))))
  refine AWp.block ?_
  refine AWp.forget ?_ (sub_put (i := 1) rfl (sub_put (i := 2) rfl (sub_put (i := 6) rfl (sub_put (i := 40) rfl (sub_put (i := 41) rfl (sub_nil))))))
  refine AWp.keep (L' := [.sl (arrSl b5 0 8 0 8 1) 1 _, .obj b1 _, .obj b2 _]) (by repeat (first | exact Sel.nil | (apply Sel.cons; (repeat (first | exact Ext.here | apply Ext.there))))) ?_
  refine AWp.loop (fun N m' T' L' => ∃ (k : Nat) (vv : Value), N = 4 - k ∧ k ≤ 4 ∧ slOk vv 1 ((supP [a0, b0, c0, d0] k).map bV) ∧ m' = m ∧ T' = put (put (put (put (put (tnil) 41 (iV k)) 40 (.agg ([a0, b0, c0, d0].map iV).toArray)) 6 (vv)) 2 (.pointer (some ⟨b2, 0, none⟩))) 1 (.pointer (some ⟨b1, 0, none⟩)) ∧ L' = [.sl vv 1 ((supP [a0, b0, c0, d0] k).map bV), .obj b1 [iV a0, iV b0, iV c0, iV d0, iV n0], .obj b2 (List.replicate 256 (.int .u8 0))]) _ (⟨0, arrSl b5 0 8 0 8 1, rfl, Nat.zero_le _, arrSl_ok (by rfl), rfl, rfl, rfl⟩) ?_
  rintro _ m _ _ ⟨k, vv, rfl, hk, hvv, rfl, rfl, rfl⟩
  refine AWp.seq ?_
  refine AWp.region ?_
  refine OpsW.pure rfl rfl (opN_lss (b := 4) rfl rfl) ?_
  refine OpsW.nil ?_
  refine AWp.forget ?_ (sub_put (i := 1) rfl (sub_put (i := 2) rfl (sub_put (i := 6) rfl (sub_put (i := 40) rfl (sub_put (i := 41) rfl (sub_put (i := 42) rfl (sub_nil)))))))
  refine AWp.seq ?_
  refine AWp.condP rfl (fun ht42 => ?_) (fun ht42 => ?_)
  refine AWp.skip ?_
  refine AWp.seq ?_
  refine AWp.block ?_
  refine AWp.seq ?_
  refine AWp.region ?_
  refine OpsW.pure rfl rfl (opN_index (i := k) (v := iV ([a0, b0, c0, d0].getD k 0)) Try.underlying120 Try.sizeOf3 rfl rfl (by omega) (fun w => by rw [Nat.mul_one]; exact part_one sc3 (get_map (f := iV) (show k < 4 by omega)) w)) ?_
  refine OpsW.pure rfl rfl (pureOp_assign rfl) ?_
  refine OpsW.nil ?_
  refine AWp.forget ?_ (sub_put (i := 1) rfl (sub_put (i := 2) rfl (sub_put (i := 6) rfl (sub_put (i := 8) rfl (sub_put (i := 40) rfl (sub_put (i := 41) rfl (sub_put (i := 42) rfl (sub_nil))))))))
  refine AWp.region ?_
  refine OpsW.pure rfl rfl (pureOp_move rfl) ?_
  refine OpsW.pure rfl rfl (pureOp_move rfl) ?_
  have hnl := nums_lt hpl (show k < 4 by omega)
  have hsl := supP_length [a0, b0, c0, d0] k
  refine OpsW.pure rfl rfl (op_convI_64 Try.underlying3 Try.underlying122 rfl (by omega)) ?_
  refine OpsW.callA rfl rfl (callOp Try.call69 rfl) permNone (put_c (UInt64.ofNat ([a0, b0, c0, d0].getD k 0)) 2 _ (by decide)) ?_
  rintro v47 _ ⟨hv47, hn47, rfl⟩
  refine OpsW.upd rfl rfl (by repeat (first | exact Pos.here | apply Pos.there)) (lop_append (k := _) slt46 ni46 rfl rfl (Nat.mul_one _).symm (src_rd (n := _) (by first | exact Rd.ro (by assumption) | exact Rd.of_sl (by repeat (first | exact List.Mem.head _ | apply List.Mem.tail)) (by assumption)) (Nat.mul_one _).symm (by decide)) (by simp only [List.length_map, putF_length]; omega) (by first | exact one_map (fun _ => rfl) _ | exact one_rfl rfl | exact one_sup _ | (simp [one, *]; done)) (by decide) (by decide)) ?_
  rintro v48 _ ⟨hv48, rfl⟩
  rw [← List.map_append, supP_succ (show k < 4 by omega)] at hv48 ⊢
  refine OpsW.pure rfl rfl (pureOp_assign rfl) ?_
  refine OpsW.nil ?_
  refine AWp.forget ?_ (sub_put (i := 1) rfl (sub_put (i := 2) rfl (sub_put (i := 6) rfl (sub_put (i := 8) rfl (sub_put (i := 40) rfl (sub_put (i := 41) rfl (sub_put (i := 42) rfl (sub_nil))))))))
  refine AWp.region ?_
  refine OpsW.pure rfl rfl (opN_add (b := 1) rfl rfl (by omega)) ?_
  refine OpsW.pure rfl rfl (pureOp_move rfl) ?_
  refine OpsW.forget ?_ (sub_put (i := 1) rfl (sub_put (i := 2) rfl (sub_put (i := 6) rfl (sub_put (i := 40) rfl (sub_put (i := 41) rfl (sub_nil))))))
  refine OpsW.keep (L' := [.sl v48 1 _, .obj b1 _, .obj b2 _]) (by repeat (first | exact Sel.nil | (apply Sel.cons; (repeat (first | exact Ext.here | apply Ext.there))))) ?_
  refine OpsW.nil ?_
  exact ⟨_, by omega, k + 1, v48, rfl, by omega, hv48, rfl, rfl, rfl⟩
  obtain rfl : k = 4 := by omega
  refine AWp.exit (exit_here ?_)
  refine AWp.seq ?_
  refine AWp.region ?_
  refine OpsW.pure rfl rfl (pureOp_move rfl) ?_
  refine OpsW.pure rfl rfl (pureOp_fieldAddr fa29_1 rfl) ?_
  refine OpsW.load rfl rfl (loadOp_obj sc3 rfl (by repeat (first | exact List.Mem.head _ | apply List.Mem.tail)) rfl) ?_
  have hsl := supP_length [a0, b0, c0, d0] 4
  refine OpsW.pure rfl rfl (op_convI_64 Try.underlying3 Try.underlying122 rfl (by omega)) ?_
  refine OpsW.callA rfl rfl (callOp Try.call69 rfl) permNone (put_c (UInt64.ofNat n0) 8 _ (by decide)) ?_
  rintro v54 _ ⟨hv54, hn54, rfl⟩
  refine OpsW.upd rfl rfl (by repeat (first | exact Pos.here | apply Pos.there)) (lop_append (k := _) slt46 ni46 rfl rfl (Nat.mul_one _).symm (src_rd (n := _) (by first | exact Rd.ro (by assumption) | exact Rd.of_sl (by repeat (first | exact List.Mem.head _ | apply List.Mem.tail)) (by assumption)) (Nat.mul_one _).symm (by decide)) (by simp only [List.length_map, putF_length]; omega) (by first | exact one_map (fun _ => rfl) _ | exact one_rfl rfl | exact one_sup _ | (simp [one, *]; done)) (by decide) (by decide)) ?_
  rintro v55 _ ⟨hv55, rfl⟩
  rw [← List.map_append, supP_all] at hv55 ⊢
  have hBl := supB_length a0 b0 c0 d0 n0
  refine OpsW.pure rfl rfl (pureOp_assign rfl) ?_
  refine OpsW.nil ?_
  refine AWp.forget ?_ (sub_put (i := 1) rfl (sub_put (i := 2) rfl (sub_put (i := 6) rfl (sub_put (i := 40) rfl (sub_put (i := 41) rfl (sub_put (i := 42) rfl (sub_nil)))))))
  refine AWp.seq ?_
  refine AWp.region ?_
  refine OpsW.pure rfl rfl (pureOp_move rfl) ?_
  refine OpsW.callA rfl rfl (callOp Try.call70 rfl) permNone (whole_c v55 (supB a0 b0 c0 d0 n0) _ (Rd.of_sl (by repeat (first | exact List.Mem.head _ | apply List.Mem.tail)) hv55)) ?_
  rintro _ _ ⟨rfl, rfl⟩
  refine OpsW.alloc rfl rfl (allocOp_alloc zt24) ?_
  rintro _ _ ⟨b9, rfl, rfl⟩
  refine OpsW.upd rfl rfl (by repeat (first | exact Pos.here | apply Pos.there)) (lop_storeAllN 256 Try.sizeOf24 rfl rfl List.length_replicate (by simp [wholeF_length]) (by first | exact one_map (fun _ => rfl) _ | exact one_rfl rfl | exact one_sup _ | (simp [one, *]; done))) ?_
  rintro _ _ ⟨rfl, rfl⟩
  refine OpsW.nil ?_
  refine AWp.forget ?_ (sub_put (i := 1) rfl (sub_put (i := 2) rfl (sub_put (i := 6) rfl (sub_put (i := 9) rfl (sub_put (i := 40) rfl (sub_put (i := 41) rfl (sub_put (i := 42) rfl (sub_nil))))))))
  refine AWp.seq ?_
  refine AWp.region ?_
  refine OpsW.pure rfl rfl (pureOp_sliceArr (n := 256) (0) (252) Try.underlying24 Try.sizeOf5 rfl (.inl ⟨rfl, rfl⟩) (.inr ⟨_, _, _, rfl, rfl, rfl⟩) (by omega) (by omega)) ?_
  refine OpsW.callA rfl rfl (callOp Try.call71 rfl) permNone (sealed_c _ ((wholeF (supB a0 b0 c0 d0 n0)).take 252) _ (arr_rdL 0 252 (by repeat (first | exact List.Mem.head _ | apply List.Mem.tail)) (wholeF_length _) (by decide) (by decide)) (by simp; omega)) ?_
  rintro v59 _ ⟨hv59, rfl⟩
  refine OpsW.callA rfl rfl (callOp Try.call70 rfl) permNone (whole_c v59 _ _ (Rd.of_sl (by repeat (first | exact List.Mem.head _ | apply List.Mem.tail)) hv59)) ?_
  rintro _ _ ⟨rfl, rfl⟩
  rw [sec_eq (by omega)]
  have hscl := secF_length (b := supB a0 b0 c0 d0 n0) (by omega)
  refine OpsW.upd rfl rfl (by repeat (first | exact Pos.here | apply Pos.there)) (lop_storeAllN 256 Try.sizeOf24 rfl rfl List.length_replicate (by simp [hscl]) (by first | exact one_map (fun _ => rfl) _ | exact one_rfl rfl | exact one_sup _ | (simp [one, *]; done))) ?_
  rintro _ _ ⟨rfl, rfl⟩
  refine OpsW.pure rfl rfl (pureOp_assign rfl) ?_
  refine OpsW.nil ?_
  refine AWp.forget ?_ (sub_put (i := 1) rfl (sub_put (i := 2) rfl (sub_put (i := 3) rfl (sub_put (i := 6) rfl (sub_put (i := 9) rfl (sub_put (i := 40) rfl (sub_put (i := 41) rfl (sub_put (i := 42) rfl (sub_nil)))))))))
  refine AWp.ret ?_
  exact ⟨_, [], _, permNone, resCellTmp rfl rfl (by repeat (first | exact List.Mem.head _ | apply List.Mem.tail)) (by simp [hscl]) ag24 rfl, by rw [putS_ok hpl (by omega)]; rfl, rfl⟩

set_option maxRecDepth 20000 in
set_option maxHeartbeats 4000000 in
theorem sput8_c (a b c d n : Int) (m : Mem) :
    Ctr Try.prog 15 [.agg [.int .i64 a, .int .i64 b, .int .i64 c, .int .i64 d, .int .i64 n].toArray] m [] (fun _ r L => r = .tuple #[.agg ((putS a b c d n).1.map bV).toArray, iV (putS a b c d n).2] ∧ L = []) := by
  refine Ctr.intro Try.func15 rfl Try.ntmps15 (by simp) fun w0 => ?_
  refine AWp.forget ?_ (sub_put (i := 0) rfl (sub_nil))
  refine AWp.seq ?_
  refine AWp.region ?_
  refine OpsW.alloc rfl rfl (allocOp_boxAgg rfl) ?_
  rintro _ _ ⟨b1, rfl, rfl⟩
  refine OpsW.alloc rfl rfl (allocOp_alloc zt24) ?_
  rintro _ _ ⟨b2, rfl, rfl⟩
  refine OpsW.pure rfl rfl (pureOp_assign rfl) ?_
  refine OpsW.nil ?_
  refine AWp.forget ?_ (sub_put (i := 0) rfl (sub_put (i := 1) rfl (sub_put (i := 2) rfl (sub_put (i := 3) rfl (sub_nil)))))
  refine AWp.seq ?_
  refine AWp.seq ?_
  refine AWp.region ?_
  refine OpsW.pure rfl rfl (pureOp_fieldAddr fa31_0 rfl) ?_
  refine OpsW.load rfl rfl (loadOp_objAgg ag23 rfl (by repeat (first | exact List.Mem.head _ | apply List.Mem.tail)) (Nat.le_of_ble_eq_true rfl)) ?_
  refine OpsW.callA rfl rfl (callOp Try.call72 rfl) permNone (planchk7_c a b c d _) ?_
  rintro _ _ ⟨rfl, rfl⟩
  refine OpsW.pure rfl rfl (pureOp_assign rfl) ?_
  refine OpsW.nil ?_
  refine AWp.forget ?_ (sub_put (i := 0) rfl (sub_put (i := 1) rfl (sub_put (i := 2) rfl (sub_put (i := 3) rfl (sub_put (i := 4) rfl (sub_nil))))))
  refine AWp.seq ?_
  refine AWp.region ?_
  refine OpsW.pure rfl rfl (pureOp_move rfl) ?_
  refine OpsW.pure rfl rfl (opN_neq (b := 0) rfl rfl) ?_
  refine OpsW.nil ?_
  refine AWp.forget ?_ (sub_put (i := 0) rfl (sub_put (i := 1) rfl (sub_put (i := 2) rfl (sub_put (i := 3) rfl (sub_put (i := 4) rfl (sub_put (i := 10) rfl (sub_nil)))))))
  refine AWp.condP rfl (fun ht10 => ?_) (fun ht10 => ?_)
  · skip
    refine AWp.seq ?_
    refine AWp.region ?_
    refine OpsW.pure rfl rfl (opBuildArr0 arr24 zt24) ?_
    refine OpsW.pure rfl rfl (pureOp_move rfl) ?_
    refine OpsW.upd rfl rfl (by repeat (first | exact Pos.here | apply Pos.there)) (lop_storeAllN 256 Try.sizeOf24 rfl rfl List.length_replicate List.length_replicate (fun u hu => by rw [List.eq_of_mem_replicate hu]; rfl)) ?_
    rintro _ _ ⟨rfl, rfl⟩
    refine OpsW.pure rfl rfl (pureOp_assign rfl) ?_
    refine OpsW.nil ?_
    refine AWp.forget ?_ (sub_put (i := 0) rfl (sub_put (i := 1) rfl (sub_put (i := 2) rfl (sub_put (i := 3) rfl (sub_put (i := 4) rfl (sub_put (i := 10) rfl (sub_nil)))))))
    refine AWp.ret ?_
    exact ⟨_, [], _, permNone, resCellTmp rfl rfl (by repeat (first | exact List.Mem.head _ | apply List.Mem.tail)) List.length_replicate ag24 rfl, by rw [putS_bad (planChk_ne ht10), ← zero256_map, planChk, if_neg (planChk_ne ht10)], rfl⟩
  refine AWp.skip ?_
  refine AWp.seq ?_
  refine AWp.seq ?_
  refine AWp.joinW (fun m' T' L' => ∃ bb : Bool, (bb = true ↔ (n < 0 ∨ 1099511627776 < n)) ∧ m' = m ∧ T' = put (put (put (tnil) 20 (.bool bb)) 2 (.pointer (some ⟨b2, 0, none⟩))) 1 (.pointer (some ⟨b1, 0, none⟩)) ∧ L' = [.obj b1 [.int .i64 a, .int .i64 b, .int .i64 c, .int .i64 d, .int .i64 n], .obj b2 (List.replicate 256 (.int .u8 0))]) ?_ ?_
  · skip
    refine AWp.region ?_
    refine OpsW.pure rfl rfl (pureOp_fieldAddr fa31_1 rfl) ?_
    refine OpsW.load rfl rfl (loadOp_obj sc3 rfl (by repeat (first | exact List.Mem.head _ | apply List.Mem.tail)) rfl) ?_
    refine OpsW.pure rfl rfl (pureOp_lss rfl rfl) ?_
    refine OpsW.splitP (d := 15) rfl (fun h15 => ?_) (fun h15 => ?_)
    · skip
      refine OpsW.pure rfl rfl (pureOp_move rfl) ?_
      refine OpsW.skipG rfl rfl ?_
      refine OpsW.skipG rfl rfl ?_
      refine OpsW.skipG rfl rfl ?_
      refine OpsW.pure rfl rfl (pureOp_pick_true rfl rfl) ?_
      refine OpsW.nil ?_
      refine ⟨_, [.obj b1 _, .obj b2 _], _, sub_put (i := 1) rfl (sub_put (i := 2) rfl (sub_put (i := 20) rfl (sub_nil))), Sel.perm (by repeat (first | exact Sel.nil | (apply Sel.cons; (repeat (first | exact Ext.here | apply Ext.there))))), ?_⟩
      exact ⟨_, (by first | exact ⟨fun _ => .inl h15, fun _ => rfl⟩ | exact ⟨fun h => .inr (of_decide_eq_true h), fun h => decide_eq_true (h.resolve_left h15)⟩), rfl, rfl, rfl⟩
    · skip
      refine OpsW.pure rfl rfl (pureOp_move rfl) ?_
      refine OpsW.pure rfl rfl (pureOp_fieldAddr fa31_1 rfl) ?_
      refine OpsW.load rfl rfl (loadOp_obj sc3 rfl (by repeat (first | exact List.Mem.head _ | apply List.Mem.tail)) rfl) ?_
      refine OpsW.pure rfl rfl (pureOp_gtr rfl rfl) ?_
      refine OpsW.pure rfl rfl (pureOp_pick_false rfl rfl) ?_
      refine OpsW.nil ?_
      refine ⟨_, [.obj b1 _, .obj b2 _], _, sub_put (i := 1) rfl (sub_put (i := 2) rfl (sub_put (i := 20) rfl (sub_nil))), Sel.perm (by repeat (first | exact Sel.nil | (apply Sel.cons; (repeat (first | exact Ext.here | apply Ext.there))))), ?_⟩
      exact ⟨_, (by first | exact ⟨fun _ => .inl h15, fun _ => rfl⟩ | exact ⟨fun h => .inr (of_decide_eq_true h), fun h => decide_eq_true (h.resolve_left h15)⟩), rfl, rfl, rfl⟩
  rintro m _ _ ⟨bb, hbb, rfl, rfl, rfl⟩
  refine AWp.cond rfl (fun ht20 => ?_) (fun ht20 => ?_)
  · skip
    refine AWp.seq ?_
    refine AWp.region ?_
    refine OpsW.pure rfl rfl (opBuildArr0 arr24 zt24) ?_
    refine OpsW.upd rfl rfl (by repeat (first | exact Pos.here | apply Pos.there)) (lop_storeAllN 256 Try.sizeOf24 rfl rfl List.length_replicate List.length_replicate (fun u hu => by rw [List.eq_of_mem_replicate hu]; rfl)) ?_
    rintro _ _ ⟨rfl, rfl⟩
    refine OpsW.pure rfl rfl (pureOp_assign rfl) ?_
    refine OpsW.nil ?_
    refine AWp.forget ?_ (sub_put (i := 1) rfl (sub_put (i := 2) rfl (sub_put (i := 3) rfl (sub_put (i := 20) rfl (sub_nil)))))
    refine AWp.ret ?_
    exact ⟨_, [], _, permNone, resCellTmp rfl rfl (by repeat (first | exact List.Mem.head _ | apply List.Mem.tail)) List.length_replicate ag24 rfl, by rw [putS_far (planChk_eq ht10) (hbb.1 ht20), ← zero256_map]; rfl, rfl⟩
  refine AWp.skip ?_
  refine AWp.seq ?_
  have hpl := planChk_eq ht10
  obtain ⟨a0, rfl⟩ : ∃ q : Nat, a = (q : Int) := ⟨a.toNat, by unfold planOk at hpl; omega⟩
  obtain ⟨b0, rfl⟩ : ∃ q : Nat, b = (q : Int) := ⟨b.toNat, by unfold planOk at hpl; omega⟩
  obtain ⟨c0, rfl⟩ : ∃ q : Nat, c = (q : Int) := ⟨c.toNat, by unfold planOk at hpl; omega⟩
  obtain ⟨d0, rfl⟩ : ∃ q : Nat, d = (q : Int) := ⟨d.toNat, by unfold planOk at hpl; omega⟩
  have hnn : ¬ (n < 0 ∨ 1099511627776 < n) := fun h => by rw [hbb.2 h] at ht20; cases ht20
  obtain ⟨n0, rfl⟩ : ∃ q : Nat, n = (q : Int) := ⟨n.toNat, by omega⟩
  have hpl2 := hpl
  unfold planOk at hpl2
  refine AWp.region ?_
  refine OpsW.alloc rfl rfl (allocOp_buildSlice slt46 rfl rfl (by first | exact cells_rfl rfl | simp [Value.cells]) (by decide)) ?_
  rintro v22 _ ⟨hv22, hn22, rfl⟩
  rw [show List.flatMap (fun x : Value => x.cells.toList) [.int .u8 77, .int .u8 79, .int .u8 82, .int .u8 84, .int .u8 77, .int .u8 65, .int .u8 73, .int .u8 78] = markL.map bV from rfl] at hv22 ⊢
  refine OpsW.upd rfl rfl (by repeat (first | exact Pos.here | apply Pos.there)) (lop_convMark Try.underlying46 Try.underlying5 rfl (by assumption)) ?_
  rintro u _ ⟨e, rfl⟩
  rw [e]
  clear e
  refine OpsW.pure rfl rfl (pureOp_assign rfl) ?_
  refine OpsW.nil ?_
  refine AWp.forget ?_ (sub_put (i := 1) rfl (sub_put (i := 2) rfl (sub_put (i := 5) rfl (sub_put (i := 20) rfl (sub_nil)))))
  refine AWp.seq ?_
  refine AWp.region ?_
  refine OpsW.pure rfl rfl (pureOp_move rfl) ?_
  refine OpsW.pure rfl rfl (pureOp_fieldAddr fa31_0 rfl) ?_
  refine OpsW.pure rfl rfl (pureOp_fieldAddr fa23_0 rfl) ?_
  refine OpsW.load rfl rfl (loadOp_obj sc3 rfl (by repeat (first | exact List.Mem.head _ | apply List.Mem.tail)) rfl) ?_
  refine OpsW.pure rfl rfl (op_convI_64 Try.underlying3 Try.underlying122 rfl (by omega)) ?_
  refine OpsW.callA rfl rfl (callOp Try.call73 rfl) permNone (put01_c (UInt64.ofNat a0) 2 _ (by decide)) ?_
  rintro v29 _ ⟨hv29, rfl⟩
  refine OpsW.upd rfl rfl (by repeat (first | exact Pos.here | apply Pos.there)) (lop_append (k := _) slt46 ni46 rfl rfl (Nat.mul_one _).symm (src_rd (n := _) (by first | exact Rd.ro (by assumption) | exact Rd.of_sl (by repeat (first | exact List.Mem.head _ | apply List.Mem.tail)) (by assumption)) (Nat.mul_one _).symm (by decide)) (by simp only [List.length_map, List.length_append, putF_length, markL, List.length_cons, List.length_nil]; omega) (by first | exact one_map (fun _ => rfl) _ | exact one_rfl rfl | exact one_sup _ | (simp [one, *]; done)) (by decide) (by decide)) ?_
  rintro v30 _ ⟨hv30, rfl⟩
  rw [← List.map_append] at hv30 ⊢
  refine OpsW.pure rfl rfl (pureOp_assign rfl) ?_
  refine OpsW.nil ?_
  refine AWp.forget ?_ (sub_put (i := 1) rfl (sub_put (i := 2) rfl (sub_put (i := 5) rfl (sub_put (i := 20) rfl (sub_nil)))))
  refine AWp.seq ?_
  refine AWp.region ?_
  refine OpsW.pure rfl rfl (pureOp_move rfl) ?_
  refine OpsW.pure rfl rfl (pureOp_fieldAddr fa31_0 rfl) ?_
  refine OpsW.pure rfl rfl (pureOp_fieldAddr fa23_1 rfl) ?_
  refine OpsW.load rfl rfl (loadOp_obj sc3 rfl (by repeat (first | exact List.Mem.head _ | apply List.Mem.tail)) rfl) ?_
  refine OpsW.pure rfl rfl (op_convI_64 Try.underlying3 Try.underlying122 rfl (by omega)) ?_
  refine OpsW.callA rfl rfl (callOp Try.call73 rfl) permNone (put01_c (UInt64.ofNat b0) 2 _ (by decide)) ?_
  rintro v36 _ ⟨hv36, rfl⟩
  refine OpsW.upd rfl rfl (by repeat (first | exact Pos.here | apply Pos.there)) (lop_append (k := _) slt46 ni46 rfl rfl (Nat.mul_one _).symm (src_rd (n := _) (by first | exact Rd.ro (by assumption) | exact Rd.of_sl (by repeat (first | exact List.Mem.head _ | apply List.Mem.tail)) (by assumption)) (Nat.mul_one _).symm (by decide)) (by simp only [List.length_map, List.length_append, putF_length, markL, List.length_cons, List.length_nil]; omega) (by first | exact one_map (fun _ => rfl) _ | exact one_rfl rfl | exact one_sup _ | (simp [one, *]; done)) (by decide) (by decide)) ?_
  rintro v37 _ ⟨hv37, rfl⟩
  rw [← List.map_append] at hv37 ⊢
  refine OpsW.pure rfl rfl (pureOp_assign rfl) ?_
  refine OpsW.nil ?_
  refine AWp.forget ?_ (sub_put (i := 1) rfl (sub_put (i := 2) rfl (sub_put (i := 5) rfl (sub_put (i := 20) rfl (sub_nil)))))
  refine AWp.seq ?_
  refine AWp.region ?_
  refine OpsW.pure rfl rfl (pureOp_move rfl) ?_
  refine OpsW.pure rfl rfl (pureOp_fieldAddr fa31_0 rfl) ?_
  refine OpsW.pure rfl rfl (pureOp_fieldAddr fa23_2 rfl) ?_
  refine OpsW.load rfl rfl (loadOp_obj sc3 rfl (by repeat (first | exact List.Mem.head _ | apply List.Mem.tail)) rfl) ?_
  refine OpsW.pure rfl rfl (op_convI_64 Try.underlying3 Try.underlying122 rfl (by omega)) ?_
  refine OpsW.callA rfl rfl (callOp Try.call73 rfl) permNone (put01_c (UInt64.ofNat c0) 2 _ (by decide)) ?_
  rintro v43 _ ⟨hv43, rfl⟩
  refine OpsW.upd rfl rfl (by repeat (first | exact Pos.here | apply Pos.there)) (lop_append (k := _) slt46 ni46 rfl rfl (Nat.mul_one _).symm (src_rd (n := _) (by first | exact Rd.ro (by assumption) | exact Rd.of_sl (by repeat (first | exact List.Mem.head _ | apply List.Mem.tail)) (by assumption)) (Nat.mul_one _).symm (by decide)) (by simp only [List.length_map, List.length_append, putF_length, markL, List.length_cons, List.length_nil]; omega) (by first | exact one_map (fun _ => rfl) _ | exact one_rfl rfl | exact one_sup _ | (simp [one, *]; done)) (by decide) (by decide)) ?_
  rintro v44 _ ⟨hv44, rfl⟩
  rw [← List.map_append] at hv44 ⊢
  refine OpsW.pure rfl rfl (pureOp_assign rfl) ?_
  refine OpsW.nil ?_
  refine AWp.forget ?_ (sub_put (i := 1) rfl (sub_put (i := 2) rfl (sub_put (i := 5) rfl (sub_put (i := 20) rfl (sub_nil)))))
  refine AWp.seq ?_
  refine AWp.region ?_
  refine OpsW.pure rfl rfl (pureOp_move rfl) ?_
  refine OpsW.pure rfl rfl (pureOp_fieldAddr fa31_0 rfl) ?_
  refine OpsW.pure rfl rfl (pureOp_fieldAddr fa23_3 rfl) ?_
  refine OpsW.load rfl rfl (loadOp_obj sc3 rfl (by repeat (first | exact List.Mem.head _ | apply List.Mem.tail)) rfl) ?_
  refine OpsW.pure rfl rfl (op_convI_64 Try.underlying3 Try.underlying122 rfl (by omega)) ?_
  refine OpsW.callA rfl rfl (callOp Try.call73 rfl) permNone (put01_c (UInt64.ofNat d0) 2 _ (by decide)) ?_
  rintro v50 _ ⟨hv50, rfl⟩
  refine OpsW.upd rfl rfl (by repeat (first | exact Pos.here | apply Pos.there)) (lop_append (k := _) slt46 ni46 rfl rfl (Nat.mul_one _).symm (src_rd (n := _) (by first | exact Rd.ro (by assumption) | exact Rd.of_sl (by repeat (first | exact List.Mem.head _ | apply List.Mem.tail)) (by assumption)) (Nat.mul_one _).symm (by decide)) (by simp only [List.length_map, List.length_append, putF_length, markL, List.length_cons, List.length_nil]; omega) (by first | exact one_map (fun _ => rfl) _ | exact one_rfl rfl | exact one_sup _ | (simp [one, *]; done)) (by decide) (by decide)) ?_
  rintro v51 _ ⟨hv51, rfl⟩
  rw [← List.map_append] at hv51 ⊢
  refine OpsW.pure rfl rfl (pureOp_assign rfl) ?_
  refine OpsW.nil ?_
  refine AWp.forget ?_ (sub_put (i := 1) rfl (sub_put (i := 2) rfl (sub_put (i := 5) rfl (sub_put (i := 20) rfl (sub_nil)))))
  refine AWp.seq ?_
  refine AWp.region ?_
  refine OpsW.pure rfl rfl (pureOp_move rfl) ?_
  refine OpsW.pure rfl rfl (pureOp_fieldAddr fa31_1 rfl) ?_
  refine OpsW.load rfl rfl (loadOp_obj sc3 rfl (by repeat (first | exact List.Mem.head _ | apply List.Mem.tail)) rfl) ?_
  refine OpsW.pure rfl rfl (op_convI_64 Try.underlying3 Try.underlying122 rfl (by omega)) ?_
  refine OpsW.callA rfl rfl (callOp Try.call73 rfl) permNone (put01_c (UInt64.ofNat n0) 8 _ (by decide)) ?_
  rintro v56 _ ⟨hv56, rfl⟩
  refine OpsW.upd rfl rfl (by repeat (first | exact Pos.here | apply Pos.there)) (lop_append (k := _) slt46 ni46 rfl rfl (Nat.mul_one _).symm (src_rd (n := _) (by first | exact Rd.ro (by assumption) | exact Rd.of_sl (by repeat (first | exact List.Mem.head _ | apply List.Mem.tail)) (by assumption)) (Nat.mul_one _).symm (by decide)) (by simp only [List.length_map, List.length_append, putF_length, markL, List.length_cons, List.length_nil]; omega) (by first | exact one_map (fun _ => rfl) _ | exact one_rfl rfl | exact one_sup _ | (simp [one, *]; done)) (by decide) (by decide)) ?_
  rintro v57 _ ⟨hv57, rfl⟩
  rw [← List.map_append] at hv57 ⊢
  have hBl := supB_length a0 b0 c0 d0 n0
  have hscl := secF_length (b := supB a0 b0 c0 d0 n0) (by omega)
  refine OpsW.pure rfl rfl (pureOp_assign rfl) ?_
  refine OpsW.nil ?_
  refine AWp.forget ?_ (sub_put (i := 1) rfl (sub_put (i := 2) rfl (sub_put (i := 5) rfl (sub_put (i := 20) rfl (sub_nil)))))
  refine AWp.seq ?_
  refine AWp.region ?_
  refine OpsW.pure rfl rfl (pureOp_move rfl) ?_
  refine OpsW.callA rfl rfl (callOp Try.call74 rfl) permNone (sealed08_c v57 (supB a0 b0 c0 d0 n0) _ (Rd.of_sl (by repeat (first | exact List.Mem.head _ | apply List.Mem.tail)) hv57) (by omega)) ?_
  rintro _ _ ⟨rfl, rfl⟩
  refine OpsW.upd rfl rfl (by repeat (first | exact Pos.here | apply Pos.there)) (lop_storeAllN 256 Try.sizeOf24 rfl rfl List.length_replicate (by simp [hscl]) (by first | exact one_map (fun _ => rfl) _ | exact one_rfl rfl | exact one_sup _ | (simp [one, *]; done))) ?_
  rintro _ _ ⟨rfl, rfl⟩
  refine OpsW.pure rfl rfl (pureOp_assign rfl) ?_
  refine OpsW.nil ?_
  refine AWp.forget ?_ (sub_put (i := 1) rfl (sub_put (i := 2) rfl (sub_put (i := 3) rfl (sub_put (i := 5) rfl (sub_put (i := 20) rfl (sub_nil))))))
  refine AWp.ret ?_
  exact ⟨_, [], _, permNone, resCellTmp rfl rfl (by repeat (first | exact List.Mem.head _ | apply List.Mem.tail)) (by simp [hscl]) ag24 rfl, by rw [putS_ok hpl (by omega)]; rfl, rfl⟩

end Go.Proofs.Ytpnipajadjeifaa.Sep
