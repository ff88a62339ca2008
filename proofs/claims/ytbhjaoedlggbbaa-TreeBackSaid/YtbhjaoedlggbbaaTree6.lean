/- The walks of Climb and Verify. -/
import Derived.Test.YtbhjaoedlggbbaaTreeG
import Derived.Test.YtbhjaoedlggbbaaTree5
import Derived.Test.YtbhjaoedlggbbaaProg
namespace Go.Proofs.Ytbhjaoedlggbbaa.Sep
open Go Go.RowKit
set_option linter.unusedVariables false
set_option linter.unusedSimpArgs false
theorem fa32_1 : FieldAt Try.prog 32 1 1 := by
  intro b o w
  simp [Instr.fieldAt, Try.runUnderlying32, fieldPlace, Instr.sureAddr, Try.sizeOf3, add_mk]
theorem sc3 : Scal Try.prog 3 := ⟨Try.isAgg3, Try.sizeOf3⟩
theorem fa32_0 : FieldAt Try.prog 32 0 0 := by
  intro b o w
  simp [Instr.fieldAt, Try.runUnderlying32, fieldPlace, Instr.sureAddr, Try.sizeOf3, add_mk]


set_option maxRecDepth 20000 in
set_option maxHeartbeats 2000000 in
theorem climb_c (k n : Int) (pv v : Value) (ps : List (List UInt8)) (d : List UInt8) (m : Mem) (hp : Rd m pv 32 (hC ps)) (okps : HsOk ps) (hd : Rd m v 1 (d.map bV)) (hdl : d.length ≤ 549755813888) :
    Ctr Try.prog 20 [.agg [.int .i64 k, .int .i64 n, pv].toArray, v] m [] (fun _ r L => r = .tuple #[.agg ((climbF k n ps d).1.map bV).toArray, .bool (climbF k n ps d).2] ∧ L = []) := by
  refine Ctr.intro Try.func20 rfl Try.ntmps20 (by simp) fun w0 => ?_
  refine AWp.forget ?_ (sub_put (i := 0) rfl (sub_put (i := 1) rfl (sub_nil)))
  refine AWp.seq ?_
  refine AWp.region ?_
  refine OpsW.alloc rfl rfl (allocOp_boxAgg rfl) ?_
  rintro _ _ ⟨b2, rfl, rfl⟩
  refine OpsW.alloc rfl rfl (allocOp_alloc zt25) ?_
  rintro _ _ ⟨b4, rfl, rfl⟩
  refine OpsW.pure rfl rfl (pureOp_assign rfl) ?_
  refine OpsW.nil ?_
  refine AWp.forget ?_ (sub_put (i := 0) rfl (sub_put (i := 1) rfl (sub_put (i := 2) rfl (sub_put (i := 4) rfl (sub_put (i := 5) rfl (sub_nil))))))
  refine AWp.seq ?_
  refine AWp.seq ?_
  refine AWp.joinW (fun m' T' L' => ∃ bb : Bool, (bb = true ↔ (n < 1 ∨ 1024 < n ∨ k < 0 ∨ n ≤ k)) ∧ m' = m ∧ T' = put (put (put (put (tnil) 29 (.bool bb)) 4 (.pointer (some ⟨b4, 0, none⟩))) 2 (.pointer (some ⟨b2, 0, none⟩))) 1 (v) ∧ L' = [.obj b4 (List.replicate 32 (.int .u8 0)), .obj b2 [.int .i64 k, .int .i64 n, pv]]) ?_ ?_
  · skip
    refine AWp.region ?_
    refine OpsW.pure rfl rfl (pureOp_fieldAddr fa32_1 rfl) ?_
    refine OpsW.load rfl rfl (loadOp_obj sc3 rfl (by repeat (first | exact List.Mem.head _ | apply List.Mem.tail)) rfl) ?_
    refine OpsW.pure rfl rfl (pureOp_lss rfl rfl) ?_
    refine OpsW.pure rfl rfl (pureOp_move rfl) ?_
    refine OpsW.splitP (d := 13) rfl (fun h13 => ?_) (fun h13 => ?_)
    · skip
      refine OpsW.skipG rfl rfl ?_
      refine OpsW.skipG rfl rfl ?_
      refine OpsW.skipG rfl rfl ?_
      refine OpsW.pure rfl rfl (pureOp_pick_true rfl rfl) ?_
      refine OpsW.pure rfl rfl (pureOp_move rfl) ?_
      refine OpsW.skipG rfl rfl ?_
      refine OpsW.skipG rfl rfl ?_
      refine OpsW.skipG rfl rfl ?_
      refine OpsW.pure rfl rfl (pureOp_pick_true rfl rfl) ?_
      refine OpsW.pure rfl rfl (pureOp_move rfl) ?_
      refine OpsW.skipG rfl rfl ?_
      refine OpsW.skipG rfl rfl ?_
      refine OpsW.skipG rfl rfl ?_
      refine OpsW.skipG rfl rfl ?_
      refine OpsW.skipG rfl rfl ?_
      refine OpsW.pure rfl rfl (pureOp_pick_true rfl rfl) ?_
      refine OpsW.nil ?_
      refine ⟨_, [.obj b4 _, .obj b2 _], _, sub_put (i := 1) rfl (sub_put (i := 2) rfl (sub_put (i := 4) rfl (sub_put (i := 29) rfl (sub_nil)))), Sel.perm (by repeat (first | exact Sel.nil | (apply Sel.cons; (repeat (first | exact Ext.here | apply Ext.there))))), ?_⟩
      exact ⟨_, by simp [h13], rfl, rfl, rfl⟩
    · skip
      refine OpsW.pure rfl rfl (pureOp_fieldAddr fa32_1 rfl) ?_
      refine OpsW.load rfl rfl (loadOp_obj sc3 rfl (by repeat (first | exact List.Mem.head _ | apply List.Mem.tail)) rfl) ?_
      refine OpsW.pure rfl rfl (pureOp_gtr rfl rfl) ?_
      refine OpsW.pure rfl rfl (pureOp_pick_false rfl rfl) ?_
      refine OpsW.pure rfl rfl (pureOp_move rfl) ?_
      refine OpsW.splitP (d := 18) rfl (fun h18 => ?_) (fun h18 => ?_)
      · skip
        refine OpsW.skipG rfl rfl ?_
        refine OpsW.skipG rfl rfl ?_
        refine OpsW.skipG rfl rfl ?_
        refine OpsW.pure rfl rfl (pureOp_pick_true rfl rfl) ?_
        refine OpsW.pure rfl rfl (pureOp_move rfl) ?_
        refine OpsW.skipG rfl rfl ?_
        refine OpsW.skipG rfl rfl ?_
        refine OpsW.skipG rfl rfl ?_
        refine OpsW.skipG rfl rfl ?_
        refine OpsW.skipG rfl rfl ?_
        refine OpsW.pure rfl rfl (pureOp_pick_true rfl rfl) ?_
        refine OpsW.nil ?_
        refine ⟨_, [.obj b4 _, .obj b2 _], _, sub_put (i := 1) rfl (sub_put (i := 2) rfl (sub_put (i := 4) rfl (sub_put (i := 29) rfl (sub_nil)))), Sel.perm (by repeat (first | exact Sel.nil | (apply Sel.cons; (repeat (first | exact Ext.here | apply Ext.there))))), ?_⟩
        exact ⟨_, by simp [h13, h18], rfl, rfl, rfl⟩
      · skip
        refine OpsW.pure rfl rfl (pureOp_fieldAddr fa32_0 rfl) ?_
        refine OpsW.load rfl rfl (loadOp_obj sc3 rfl (by repeat (first | exact List.Mem.head _ | apply List.Mem.tail)) rfl) ?_
        refine OpsW.pure rfl rfl (pureOp_lss rfl rfl) ?_
        refine OpsW.pure rfl rfl (pureOp_pick_false rfl rfl) ?_
        refine OpsW.pure rfl rfl (pureOp_move rfl) ?_
        refine OpsW.splitP (d := 23) rfl (fun h23 => ?_) (fun h23 => ?_)
        · skip
          refine OpsW.skipG rfl rfl ?_
          refine OpsW.skipG rfl rfl ?_
          refine OpsW.skipG rfl rfl ?_
          refine OpsW.skipG rfl rfl ?_
          refine OpsW.skipG rfl rfl ?_
          refine OpsW.pure rfl rfl (pureOp_pick_true rfl rfl) ?_
          refine OpsW.nil ?_
          refine ⟨_, [.obj b4 _, .obj b2 _], _, sub_put (i := 1) rfl (sub_put (i := 2) rfl (sub_put (i := 4) rfl (sub_put (i := 29) rfl (sub_nil)))), Sel.perm (by repeat (first | exact Sel.nil | (apply Sel.cons; (repeat (first | exact Ext.here | apply Ext.there))))), ?_⟩
          exact ⟨_, by simp [h13, h18, h23], rfl, rfl, rfl⟩
        · skip
          refine OpsW.pure rfl rfl (pureOp_fieldAddr fa32_0 rfl) ?_
          refine OpsW.load rfl rfl (loadOp_obj sc3 rfl (by repeat (first | exact List.Mem.head _ | apply List.Mem.tail)) rfl) ?_
          refine OpsW.pure rfl rfl (pureOp_fieldAddr fa32_1 rfl) ?_
          refine OpsW.load rfl rfl (loadOp_obj sc3 rfl (by repeat (first | exact List.Mem.head _ | apply List.Mem.tail)) rfl) ?_
          refine OpsW.pure rfl rfl (pureOp_geq rfl rfl) ?_
          refine OpsW.pure rfl rfl (pureOp_pick_false rfl rfl) ?_
          refine OpsW.nil ?_
          refine ⟨_, [.obj b4 _, .obj b2 _], _, sub_put (i := 1) rfl (sub_put (i := 2) rfl (sub_put (i := 4) rfl (sub_put (i := 29) rfl (sub_nil)))), Sel.perm (by repeat (first | exact Sel.nil | (apply Sel.cons; (repeat (first | exact Ext.here | apply Ext.there))))), ?_⟩
          exact ⟨_, by simp [h13, h18, h23], rfl, rfl, rfl⟩
  rintro m _ _ ⟨bb, hbb, rfl, rfl, rfl⟩
  refine AWp.cond rfl (fun ht29 => ?_) (fun ht29 => ?_)
  · skip
    refine AWp.seq ?_
    refine AWp.region ?_
    refine OpsW.pure rfl rfl (opBuildArr0 arr25 zt25) ?_
    refine OpsW.upd rfl rfl (by repeat (first | exact Pos.here | apply Pos.there)) (lop_storeAllN 32 Try.sizeOf25 rfl rfl (by simp) (by simp) (one_rfl rfl)) ?_
    rintro _ _ ⟨rfl, rfl⟩
    refine OpsW.pure rfl rfl (pureOp_assign rfl) ?_
    refine OpsW.nil ?_
    refine AWp.forget ?_ (sub_put (i := 1) rfl (sub_put (i := 2) rfl (sub_put (i := 4) rfl (sub_put (i := 5) rfl (sub_put (i := 29) rfl (sub_nil))))))
    refine AWp.ret ?_
    have hz : climbF k n ps d = (zero32, false) := by rw [climbF, if_pos (hbb.1 ht29)]
    rw [hz]
    exact ⟨_, [], _, permNone, resCellTmp rfl rfl (by repeat (first | exact List.Mem.head _ | apply List.Mem.tail)) (by rfl) ag25 rfl, rfl, rfl⟩
  refine AWp.skip ?_
  refine AWp.seq ?_
  have hok : ¬ (n < 1 ∨ 1024 < n ∨ k < 0 ∨ n ≤ k) := fun h => by rw [hbb.2 h] at ht29; cases ht29
  obtain ⟨q0, rfl⟩ : ∃ q : Nat, k = (q : Int) := ⟨k.toNat, by omega⟩
  obtain ⟨n0, rfl⟩ : ∃ q : Nat, n = (q : Int) := ⟨n.toNat, by omega⟩
  refine AWp.lend (Sel.perm (L' := [.obj b4 _]) (by repeat (first | exact Sel.nil | (apply Sel.cons; (repeat (first | exact Ext.here | apply Ext.there)))))) (fun w1 => ?_)
  refine AWp.draw [(0, .pure), (1, .ro), (2, .pure), (4, .pure), (5, .ro), (6, .pure), (7, .ro), (8, .pure), (9, .ro), (3, .call), (10, .alloc), (11, .wr), (12, .pure), (13, .pure), (14, .pure)] rfl (by decide +kernel) (fun _ _ _ p h => ⟨h.1, AWp.perm h.2 (p.symm.append_right _)⟩) ?_
  refine ⟨_, _, rfl, OpStep.pure rfl rfl (pureOp_fieldAddr fa32_0 rfl), ?_⟩
  rintro _ _ ⟨rfl, rfl⟩ -
  refine ⟨_, _, rfl, OpStep.ro rfl rfl (roObj sc3 rfl (by repeat (first | exact List.Mem.head _ | apply List.Mem.tail)) rfl), ?_⟩
  rintro _ _ ⟨rfl, rfl⟩ -
  refine ⟨_, _, rfl, OpStep.pure rfl rfl (pureOp_move rfl), ?_⟩
  rintro _ _ ⟨rfl, rfl⟩ -
  refine ⟨_, _, rfl, OpStep.pure rfl rfl (pureOp_fieldAddr fa32_0 rfl), ?_⟩
  rintro _ _ ⟨rfl, rfl⟩ -
  refine ⟨_, _, rfl, OpStep.ro rfl rfl (roObj sc3 rfl (by repeat (first | exact List.Mem.head _ | apply List.Mem.tail)) rfl), ?_⟩
  rintro _ _ ⟨rfl, rfl⟩ -
  refine ⟨_, _, rfl, OpStep.pure rfl rfl (pureOp_fieldAddr fa32_1 rfl), ?_⟩
  rintro _ _ ⟨rfl, rfl⟩ -
  refine ⟨_, _, rfl, OpStep.ro rfl rfl (roObj sc3 rfl (by repeat (first | exact List.Mem.head _ | apply List.Mem.tail)) rfl), ?_⟩
  rintro _ _ ⟨rfl, rfl⟩ -
  refine ⟨_, _, rfl, OpStep.pure rfl rfl (pureOp_fieldAddr fa32_2 rfl), ?_⟩
  rintro _ _ ⟨rfl, rfl⟩ -
  refine ⟨_, _, rfl, OpStep.ro rfl rfl (roObj sc30 rfl (by repeat (first | exact List.Mem.head _ | apply List.Mem.tail)) rfl), ?_⟩
  rintro _ _ ⟨rfl, rfl⟩ -
  refine ⟨_, _, rfl, OpStep.call rfl rfl (callOp Try.call14 rfl) (leaf_c q0 _ d _ (by omega) hd.ro.ro hdl), ?_⟩
  rintro _ _ ⟨_, _, ⟨rfl, rfl⟩, rfl, rfl⟩ -
  refine ⟨_, _, rfl, allocStep_alloc rfl rfl zt25, ?_⟩
  rintro _ _ ⟨_, _, ⟨b6, rfl, rfl⟩, rfl, rfl⟩ -
  refine ⟨_, _, rfl, OpStep.wr rfl rfl (toWp (by repeat (first | exact Pos.here | apply Pos.there)) (lop_storeAllN 32 Try.sizeOf25 rfl rfl (by simp) (by simp [shaF_length]) (by first | exact one_map (fun _ => rfl) _ | exact one_rfl rfl | simp [one]))), ?_⟩
  rintro _ _ ⟨_, ⟨_, ⟨rfl, rfl⟩, rfl⟩, rfl⟩ -
  refine ⟨_, _, rfl, OpStep.pure rfl rfl (pureOp_assign rfl), ?_⟩
  rintro _ _ ⟨rfl, rfl⟩ -
  refine ⟨_, _, rfl, OpStep.pure rfl rfl (pureOp_assign rfl), ?_⟩
  rintro _ _ ⟨rfl, rfl⟩ -
  refine ⟨_, _, rfl, OpStep.pure rfl rfl (pureOp_assign rfl), ?_⟩
  rintro _ _ ⟨rfl, rfl⟩ -
  refine ⟨rfl, ?_⟩
  refine AWp.keep (L' := [.obj b4 _, .obj b2 _, .obj b6 _]) (by repeat (first | exact Sel.nil | (apply Sel.cons; (repeat (first | exact Ext.here | apply Ext.there))))) ?_
  refine AWp.forget ?_ (sub_put (i := 1) rfl (sub_put (i := 2) rfl (sub_put (i := 4) rfl (sub_put (i := 6) rfl (sub_put (i := 7) rfl (sub_put (i := 8) rfl (sub_put (i := 9) rfl (sub_put (i := 29) rfl (sub_nil)))))))))
  refine AWp.seq ?_
  refine AWp.block ?_
  refine AWp.forget ?_ (sub_put (i := 2) rfl (sub_put (i := 4) rfl (sub_put (i := 6) rfl (sub_put (i := 7) rfl (sub_put (i := 8) rfl (sub_put (i := 9) rfl (sub_nil)))))))
  refine AWp.keep (L' := [.obj b4 _, .obj b2 _, .obj b6 _]) (by repeat (first | exact Sel.nil | (apply Sel.cons; (repeat (first | exact Ext.here | apply Ext.there))))) ?_
  obtain ⟨C0, hCd⟩ : ∃ C0, C0 = climbN n0 q0 n0 (shaF (leafText q0 d)) ps := ⟨_, rfl⟩
  refine AWp.loop (fun N m' T' L' => ∃ (f q n1 : Nat) (h : List UInt8) (ps1 : List (List UInt8)) (pv1 : Value), N = f ∧ h.length = 32 ∧ Rd m pv1 32 (hC ps1) ∧ HsOk ps1 ∧ n1 ≤ f ∧ f ≤ 1024 ∧ q < n1 ∧ climbN f q n1 h ps1 = C0 ∧ m' = m ∧ T' = put (put (put (put (put (put (tnil) 9 (pv1)) 8 (iV n1)) 7 (iV q)) 6 (.pointer (some ⟨b6, 0, none⟩))) 4 (.pointer (some ⟨b4, 0, none⟩))) 2 (.pointer (some ⟨b2, 0, none⟩)) ∧ L' = [.obj b4 (List.replicate 32 (.int .u8 0)), .obj b2 [.int .i64 (q0 : Int), .int .i64 (n0 : Int), pv], .obj b6 (h.map bV)]) _ (⟨n0, q0, n0, _, ps, pv, rfl, shaF_length _, hp, okps, Nat.le_refl _, by omega, by omega, hCd.symm, rfl, rfl, rfl⟩) ?_
  rintro _ m _ _ ⟨f, q, n1, h, ps1, pv1, hN, hh, hp1, okp, hnf, hf, hq, hC0, rfl, rfl, rfl⟩
  have hop := hp1.1
  refine AWp.seq ?_
  refine AWp.seq ?_
  refine AWp.region ?_
  refine OpsW.pure rfl rfl (pureOp_move rfl) ?_
  refine OpsW.pure rfl rfl (opN_gtr (b := 1) rfl rfl) ?_
  refine OpsW.nil ?_
  refine AWp.forget ?_ (sub_put (i := 2) rfl (sub_put (i := 4) rfl (sub_put (i := 6) rfl (sub_put (i := 7) rfl (sub_put (i := 8) rfl (sub_put (i := 9) rfl (sub_put (i := 42) rfl (sub_nil))))))))
  refine AWp.condP rfl (fun ht42 => ?_) (fun ht42 => ?_)
  refine AWp.skip ?_
  refine AWp.block ?_
  refine AWp.seq ?_
  refine AWp.seq ?_
  obtain ⟨f2, rfl⟩ : ∃ g, f = g + 1 := ⟨f - 1, by omega⟩
  rw [climbN, if_neg (by omega)] at hC0
  have hxq := xor_one q
  refine AWp.region ?_
  refine OpsW.pure rfl rfl (pureOp_move rfl) ?_
  refine OpsW.pure rfl rfl (opN_xor (b := 1) rfl rfl (by omega) (by omega)) ?_
  refine OpsW.pure rfl rfl (pureOp_move rfl) ?_
  refine OpsW.pure rfl rfl (opN_lss rfl rfl) ?_
  refine OpsW.nil ?_
  refine AWp.forget ?_ (sub_put (i := 2) rfl (sub_put (i := 4) rfl (sub_put (i := 6) rfl (sub_put (i := 7) rfl (sub_put (i := 8) rfl (sub_put (i := 9) rfl (sub_put (i := 42) rfl (sub_put (i := 46) rfl (sub_nil)))))))))
  refine AWp.joinW (fun m' T' L' => ∃ (h2 : List UInt8) (ps2 : List (List UInt8)) (pv2 : Value), h2.length = 32 ∧ Rd m pv2 32 (hC ps2) ∧ HsOk ps2 ∧ climbN f2 (q / 2) ((n1 + 1) / 2) h2 ps2 = C0 ∧ m' = m ∧ T' = put (put (put (put (put (put (tnil) 9 (pv2)) 8 (iV n1)) 7 (iV q)) 6 (.pointer (some ⟨b6, 0, none⟩))) 4 (.pointer (some ⟨b4, 0, none⟩))) 2 (.pointer (some ⟨b2, 0, none⟩)) ∧ L' = [.obj b4 (List.replicate 32 (.int .u8 0)), .obj b2 [.int .i64 (q0 : Int), .int .i64 (n0 : Int), pv], .obj b6 (h2.map bV)]) ?_ ?_
  · skip
    refine AWp.condP rfl (fun ht46 => ?_) (fun ht46 => ?_)
    · skip
      refine AWp.seq ?_
      refine AWp.seq ?_
      rw [if_pos ht46] at hC0
      refine AWp.region ?_
      refine OpsW.pure rfl rfl (pureOp_move rfl) ?_
      refine OpsW.pure rfl rfl (pureOp_len (n := ps1.length) Try.underlying30 rfl (by assumption) (hC_length okp) (by decide)) ?_
      refine OpsW.pure rfl rfl (opN_eql (b := 0) rfl rfl) ?_
      refine OpsW.nil ?_
      refine AWp.forget ?_ (sub_put (i := 2) rfl (sub_put (i := 4) rfl (sub_put (i := 6) rfl (sub_put (i := 7) rfl (sub_put (i := 8) rfl (sub_put (i := 9) rfl (sub_put (i := 42) rfl (sub_put (i := 46) rfl (sub_put (i := 49) rfl (sub_nil))))))))))
      refine AWp.condP rfl (fun ht49 => ?_) (fun ht49 => ?_)
      · skip
        refine AWp.seq ?_
        refine AWp.region ?_
        refine OpsW.pure rfl rfl (opBuildArr0 arr25 zt25) ?_
        refine OpsW.upd rfl rfl (by repeat (first | exact Pos.here | apply Pos.there)) (lop_storeAllN 32 Try.sizeOf25 rfl rfl (by simp) (by simp) (one_rfl rfl)) ?_
        rintro _ _ ⟨rfl, rfl⟩
        refine OpsW.pure rfl rfl (pureOp_assign rfl) ?_
        refine OpsW.nil ?_
        refine AWp.forget ?_ (sub_put (i := 2) rfl (sub_put (i := 4) rfl (sub_put (i := 5) rfl (sub_put (i := 6) rfl (sub_put (i := 7) rfl (sub_put (i := 8) rfl (sub_put (i := 9) rfl (sub_put (i := 42) rfl (sub_put (i := 46) rfl (sub_put (i := 49) rfl (sub_nil)))))))))))
        refine AWp.ret ?_
        rw [if_pos (List.length_eq_zero_iff.1 ht49)] at hC0
        have hz := climbF_none hok (hCd.symm.trans hC0.symm)
        rw [hz]
        exact ⟨_, [], _, permNone, resCellTmp rfl rfl (by repeat (first | exact List.Mem.head _ | apply List.Mem.tail)) (by rfl) ag25 rfl, rfl, rfl⟩
      refine AWp.skip ?_
      refine AWp.seq ?_
      refine AWp.seq ?_
      rw [if_neg (fun e => ht49 (by rw [e]; rfl))] at hC0
      refine AWp.region ?_
      refine OpsW.pure rfl rfl (pureOp_move rfl) ?_
      refine OpsW.pure rfl rfl (opN_rem (b := 2) rfl rfl (by omega) (by omega)) ?_
      refine OpsW.pure rfl rfl (opN_eql (b := 0) rfl rfl) ?_
      refine OpsW.nil ?_
      refine AWp.forget ?_ (sub_put (i := 2) rfl (sub_put (i := 4) rfl (sub_put (i := 6) rfl (sub_put (i := 7) rfl (sub_put (i := 8) rfl (sub_put (i := 9) rfl (sub_put (i := 42) rfl (sub_put (i := 46) rfl (sub_put (i := 49) rfl (sub_put (i := 53) rfl (sub_nil)))))))))))
      refine AWp.joinW (fun m' T' L' => m' = m ∧ T' = put (put (put (put (put (put (tnil) 9 (pv1)) 8 (iV n1)) 7 (iV q)) 6 (.pointer (some ⟨b6, 0, none⟩))) 4 (.pointer (some ⟨b4, 0, none⟩))) 2 (.pointer (some ⟨b2, 0, none⟩)) ∧ L' = [.obj b4 (List.replicate 32 (.int .u8 0)), .obj b2 [.int .i64 (q0 : Int), .int .i64 (n0 : Int), pv], .obj b6 ((if q % 2 = 0 then joinF h (ps1.getD 0 []) else joinF (ps1.getD 0 []) h).map bV)]) ?_ ?_
      · skip
        refine AWp.condP rfl (fun ht53 => ?_) (fun ht53 => ?_)
        · skip
          refine AWp.draw [(0, .load), (1, .pure), (2, .pure), (3, .load), (4, .call), (5, .wr)] rfl (by decide +kernel) Weak.perm ?_
          refine ⟨_, _, rfl, OpStep.load rfl rfl (loadAll rfl (by repeat (first | exact List.Mem.head _ | apply List.Mem.tail)) (by simp [hh]) ag25), ?_⟩
          rintro _ _ ⟨rfl, rfl⟩ -
          refine ⟨_, _, rfl, OpStep.pure rfl rfl (pureOp_move rfl), ?_⟩
          rintro _ _ ⟨rfl, rfl⟩ -
          refine ⟨_, _, rfl, OpStep.pure rfl rfl (opN_indexSl (i := 0) (n := ps1.length) Try.underlying30 Try.sizeOf25 rfl (by assumption) (hC_length okp) (by decide) rfl (by omega)), ?_⟩
          rintro _ _ ⟨rfl, rfl⟩ -
          refine ⟨_, _, rfl, OpStep.load rfl rfl (loadHash (hs := ps1) (i := 0) ag25 rfl (by first | exact Rd.ro (by assumption) | exact Rd.of_sl (by repeat (first | exact List.Mem.head _ | apply List.Mem.tail)) (by assumption)) okp (by omega)), ?_⟩
          rintro _ _ ⟨rfl, rfl⟩ -
          refine ⟨_, _, rfl, OpStep.call rfl rfl (callOp Try.call38 rfl) (join_c h (ps1.getD 0 []) _ hh (okp.getD (by omega))), ?_⟩
          rintro _ _ ⟨_, _, ⟨rfl, rfl⟩, rfl, rfl⟩ -
          refine ⟨_, _, rfl, OpStep.wr rfl rfl (toWp (by repeat (first | exact Pos.here | apply Pos.there)) (lop_storeAllN 32 Try.sizeOf25 rfl rfl (by simp [hh]) (by simp [shaF_length]) (by first | exact one_map (fun _ => rfl) _ | exact one_rfl rfl | simp [one]))), ?_⟩
          rintro _ _ ⟨_, ⟨_, ⟨rfl, rfl⟩, rfl⟩, rfl⟩ -
          refine ⟨_, [.obj b4 _, .obj b2 _, .obj b6 _], _, sub_put (i := 2) rfl (sub_put (i := 4) rfl (sub_put (i := 6) rfl (sub_put (i := 7) rfl (sub_put (i := 8) rfl (sub_put (i := 9) rfl (sub_nil)))))), Sel.perm (by repeat (first | exact Sel.nil | (apply Sel.cons; (repeat (first | exact Ext.here | apply Ext.there))))), ?_⟩
          exact ⟨rfl, rfl, by rw [if_pos ht53]; rfl⟩
        · skip
          refine AWp.draw [(0, .pure), (1, .pure), (2, .load), (3, .load), (4, .call), (5, .wr)] rfl (by decide +kernel) Weak.perm ?_
          refine ⟨_, _, rfl, OpStep.pure rfl rfl (pureOp_move rfl), ?_⟩
          rintro _ _ ⟨rfl, rfl⟩ -
          refine ⟨_, _, rfl, OpStep.pure rfl rfl (opN_indexSl (i := 0) (n := ps1.length) Try.underlying30 Try.sizeOf25 rfl (by assumption) (hC_length okp) (by decide) rfl (by omega)), ?_⟩
          rintro _ _ ⟨rfl, rfl⟩ -
          refine ⟨_, _, rfl, OpStep.load rfl rfl (loadHash (hs := ps1) (i := 0) ag25 rfl (by first | exact Rd.ro (by assumption) | exact Rd.of_sl (by repeat (first | exact List.Mem.head _ | apply List.Mem.tail)) (by assumption)) okp (by omega)), ?_⟩
          rintro _ _ ⟨rfl, rfl⟩ -
          refine ⟨_, _, rfl, OpStep.load rfl rfl (loadAll rfl (by repeat (first | exact List.Mem.head _ | apply List.Mem.tail)) (by simp [hh]) ag25), ?_⟩
          rintro _ _ ⟨rfl, rfl⟩ -
          refine ⟨_, _, rfl, OpStep.call rfl rfl (callOp Try.call38 rfl) (join_c (ps1.getD 0 []) h _ (okp.getD (by omega)) hh), ?_⟩
          rintro _ _ ⟨_, _, ⟨rfl, rfl⟩, rfl, rfl⟩ -
          refine ⟨_, _, rfl, OpStep.wr rfl rfl (toWp (by repeat (first | exact Pos.here | apply Pos.there)) (lop_storeAllN 32 Try.sizeOf25 rfl rfl (by simp [hh]) (by simp [shaF_length]) (by first | exact one_map (fun _ => rfl) _ | exact one_rfl rfl | simp [one]))), ?_⟩
          rintro _ _ ⟨_, ⟨_, ⟨rfl, rfl⟩, rfl⟩, rfl⟩ -
          refine ⟨_, [.obj b4 _, .obj b2 _, .obj b6 _], _, sub_put (i := 2) rfl (sub_put (i := 4) rfl (sub_put (i := 6) rfl (sub_put (i := 7) rfl (sub_put (i := 8) rfl (sub_put (i := 9) rfl (sub_nil)))))), Sel.perm (by repeat (first | exact Sel.nil | (apply Sel.cons; (repeat (first | exact Ext.here | apply Ext.there))))), ?_⟩
          exact ⟨rfl, rfl, by rw [if_neg ht53]; rfl⟩
      rintro m _ _ ⟨rfl, rfl, rfl⟩
      refine AWp.region ?_
      refine OpsW.pure rfl rfl (pureOp_move rfl) ?_
      refine OpsW.pure rfl rfl (pureOp_slice (n := ps1.length) (1) (ps1.length) Try.underlying30 Try.sizeOf25 rfl (by assumption) (hC_length okp) (by decide) (.inr ⟨_, _, _, rfl, rfl, rfl⟩) (.inl ⟨rfl, rfl⟩) (by omega) (by omega)) ?_
      refine OpsW.pure rfl rfl (pureOp_assign rfl) ?_
      refine OpsW.nil ?_
      refine ⟨_, [.obj b4 _, .obj b2 _, .obj b6 _], _, sub_put (i := 2) rfl (sub_put (i := 4) rfl (sub_put (i := 6) rfl (sub_put (i := 7) rfl (sub_put (i := 8) rfl (sub_put (i := 9) rfl (sub_nil)))))), Sel.perm (by repeat (first | exact Sel.nil | (apply Sel.cons; (repeat (first | exact Ext.here | apply Ext.there))))), ?_⟩
      exact ⟨_, ps1.drop 1, slc pv1 1 ps1.length 32, (by split <;> exact joinF_length _ _), hC_rd_drop hp1 okp (by omega), okp.drop 1, hC0, rfl, rfl, rfl⟩
    · skip
      refine AWp.skip ?_
      refine ⟨_, [.obj b4 _, .obj b2 _, .obj b6 _], _, sub_put (i := 2) rfl (sub_put (i := 4) rfl (sub_put (i := 6) rfl (sub_put (i := 7) rfl (sub_put (i := 8) rfl (sub_put (i := 9) rfl (sub_nil)))))), Sel.perm (by repeat (first | exact Sel.nil | (apply Sel.cons; (repeat (first | exact Ext.here | apply Ext.there))))), ?_⟩
      exact ⟨h, ps1, pv1, hh, hp1, okp, (by rw [if_neg ht46] at hC0; exact hC0), rfl, rfl, rfl⟩
  rintro m _ _ ⟨h2, ps2, pv2, hh2, hp2, okp2, hC2, rfl, rfl, rfl⟩
  refine AWp.region ?_
  refine OpsW.pure rfl rfl (pureOp_move rfl) ?_
  refine OpsW.pure rfl rfl (opN_quo (b := 2) rfl rfl (by omega) (by omega)) ?_
  refine OpsW.pure rfl rfl (pureOp_move rfl) ?_
  refine OpsW.pure rfl rfl (opN_add (b := 1) rfl rfl (by omega)) ?_
  refine OpsW.pure rfl rfl (opN_quo (b := 2) rfl rfl (by omega) (by omega)) ?_
  refine OpsW.pure rfl rfl (pureOp_assign rfl) ?_
  refine OpsW.pure rfl rfl (pureOp_assign rfl) ?_
  refine OpsW.forget ?_ (sub_put (i := 2) rfl (sub_put (i := 4) rfl (sub_put (i := 6) rfl (sub_put (i := 7) rfl (sub_put (i := 8) rfl (sub_put (i := 9) rfl (sub_nil)))))))
  refine OpsW.keep (L' := [.obj b4 _, .obj b2 _, .obj b6 _]) (by repeat (first | exact Sel.nil | (apply Sel.cons; (repeat (first | exact Ext.here | apply Ext.there))))) ?_
  refine OpsW.nil ?_
  exact ⟨_, by omega, f2, q / 2, (n1 + 1) / 2, h2, ps2, pv2, rfl, hh2, hp2, okp2, by omega, by omega, by omega, hC2, rfl, rfl, rfl⟩
  refine AWp.exit (exit_here ?_)
  refine AWp.seq ?_
  refine AWp.region ?_
  refine OpsW.pure rfl rfl (pureOp_fieldAddr fa32_1 rfl) ?_
  refine OpsW.load rfl rfl (loadOp_obj sc3 rfl (by repeat (first | exact List.Mem.head _ | apply List.Mem.tail)) rfl) ?_
  refine OpsW.load rfl rfl (loadAll rfl (by repeat (first | exact List.Mem.head _ | apply List.Mem.tail)) (by simp [hh]) ag25) ?_
  refine OpsW.callA rfl rfl (callOp Try.call26 rfl) permNone (crown_c n0 h _ (by omega) hh) ?_
  rintro _ _ ⟨rfl, rfl⟩
  refine OpsW.pure rfl rfl (pureOp_move rfl) ?_
  refine OpsW.pure rfl rfl (pureOp_len (n := ps1.length) Try.underlying30 rfl (by assumption) (hC_length okp) (by decide)) ?_
  refine OpsW.pure rfl rfl (opN_eql (b := 0) rfl rfl) ?_
  refine OpsW.upd rfl rfl (by repeat (first | exact Pos.here | apply Pos.there)) (lop_storeAllN 32 Try.sizeOf25 rfl rfl (by simp) (by simp [shaF_length]) (by first | exact one_map (fun _ => rfl) _ | exact one_rfl rfl | simp [one])) ?_
  rintro _ _ ⟨rfl, rfl⟩
  refine OpsW.pure rfl rfl (pureOp_assign rfl) ?_
  refine OpsW.nil ?_
  refine AWp.forget ?_ (sub_put (i := 2) rfl (sub_put (i := 4) rfl (sub_put (i := 5) rfl (sub_put (i := 6) rfl (sub_put (i := 7) rfl (sub_put (i := 8) rfl (sub_put (i := 9) rfl (sub_put (i := 42) rfl (sub_nil)))))))))
  refine AWp.ret ?_
  rw [climbN_stop (by omega)] at hC0
  have hz := climbF_some hok (hCd.symm.trans hC0.symm)
  rw [hz]
  refine ⟨_, [], _, permNone, resCellTmp rfl rfl (by repeat (first | exact List.Mem.head _ | apply List.Mem.tail)) (by simp [shaF_length]) ag25 rfl, ?_, rfl⟩
  rw [show decide (ps1 = []) = decide (ps1.length = 0) from decide_eq_decide.2 List.length_eq_zero_iff.symm]

set_option maxRecDepth 20000 in
set_option maxHeartbeats 1000000 in
theorem verify_c (rt : List UInt8) (k n : Int) (pv v : Value) (ps : List (List UInt8)) (d : List UInt8) (m : Mem) (hr : rt.length = 32) (hp : Rd m pv 32 (hC ps)) (okps : HsOk ps) (hd : Rd m v 1 (d.map bV)) (hdl : d.length ≤ 549755813888) :
    Ctr Try.prog 21 [.agg (rt.map bV).toArray, .agg [.int .i64 k, .int .i64 n, pv].toArray, v] m [] (fun _ r L => r = .bool ((climbF k n ps d).2 && decide ((climbF k n ps d).1 = rt)) ∧ L = []) := by
  have hcl := climbF_len k n ps d
  refine Ctr.intro Try.func21 rfl Try.ntmps21 (by simp) fun w0 => ?_
  refine AWp.forget ?_ (sub_put (i := 0) rfl (sub_put (i := 1) rfl (sub_put (i := 2) rfl (sub_nil))))
  refine AWp.seq ?_
  refine AWp.region ?_
  refine OpsW.alloc rfl rfl (allocOp_boxAgg rfl) ?_
  rintro _ _ ⟨b3, rfl, rfl⟩
  refine OpsW.alloc rfl rfl (allocOp_boxAgg rfl) ?_
  rintro _ _ ⟨b4, rfl, rfl⟩
  refine OpsW.pure rfl rfl (pureOp_assign rfl) ?_
  refine OpsW.nil ?_
  refine AWp.forget ?_ (sub_put (i := 0) rfl (sub_put (i := 1) rfl (sub_put (i := 2) rfl (sub_put (i := 3) rfl (sub_put (i := 4) rfl (sub_put (i := 6) rfl (sub_nil)))))))
  refine AWp.seq ?_
  refine AWp.region ?_
  refine OpsW.load rfl rfl (loadAll rfl (by repeat (first | exact List.Mem.head _ | apply List.Mem.tail)) (by rfl) ag32) ?_
  refine OpsW.pure rfl rfl (pureOp_move rfl) ?_
  refine OpsW.callA rfl rfl (callOp Try.call20 rfl) permNone (climb_c k n pv v ps d _ hp.ro okps hd.ro hdl) ?_
  rintro _ _ ⟨rfl, rfl⟩
  refine OpsW.pure rfl rfl (pureOp_move rfl) ?_
  refine OpsW.pure rfl rfl (pureOp_extract rfl rfl) ?_
  refine OpsW.pure rfl rfl (pureOp_extract rfl rfl) ?_
  refine OpsW.alloc rfl rfl (allocOp_alloc zt25) ?_
  rintro _ _ ⟨b7, rfl, rfl⟩
  refine OpsW.upd rfl rfl (by repeat (first | exact Pos.here | apply Pos.there)) (lop_storeAllN 32 Try.sizeOf25 rfl rfl (by simp <;> omega) (by simp <;> omega) (by first | exact one_map (fun _ => rfl) _ | exact one_rfl rfl | simp [one])) ?_
  rintro _ _ ⟨rfl, rfl⟩
  refine OpsW.pure rfl rfl (pureOp_assign rfl) ?_
  refine OpsW.nil ?_
  refine AWp.forget ?_ (sub_put (i := 0) rfl (sub_put (i := 1) rfl (sub_put (i := 2) rfl (sub_put (i := 3) rfl (sub_put (i := 4) rfl (sub_put (i := 6) rfl (sub_put (i := 7) rfl (sub_put (i := 8) rfl (sub_nil)))))))))
  refine AWp.seq ?_
  refine AWp.joinW (fun m' T' L' => ∃ bb : Bool, bb = ((climbF k n ps d).2 && decide ((climbF k n ps d).1 = rt)) ∧ m' = m ∧ T' = put (tnil) 6 (.bool bb) ∧ L' = []) ?_ ?_
  · skip
    refine AWp.region ?_
    refine OpsW.pure rfl rfl (pureOp_move rfl) ?_
    refine OpsW.pure rfl rfl (pureOp_move rfl) ?_
    refine OpsW.split (d := 16) rfl (fun h16 => ?_) (fun h16 => ?_)
    · skip
      refine OpsW.load rfl rfl (loadAll rfl (by repeat (first | exact List.Mem.head _ | apply List.Mem.tail)) (by simp [hcl]) ag25) ?_
      refine OpsW.load rfl rfl (loadAll rfl (by repeat (first | exact List.Mem.head _ | apply List.Mem.tail)) (by simp [hr]) ag25) ?_
      refine OpsW.pure rfl rfl (opB_eql by25 dpth rfl rfl hcl hr) ?_
      refine OpsW.pure rfl rfl (pureOp_pick_true rfl rfl) ?_
      refine OpsW.pure rfl rfl (pureOp_assign rfl) ?_
      refine OpsW.nil ?_
      refine ⟨_, [], _, sub_put (i := 6) rfl (sub_nil), Sel.perm (by repeat (first | exact Sel.nil | (apply Sel.cons; (repeat (first | exact Ext.here | apply Ext.there))))), ?_⟩
      exact ⟨_, by simp [h16], rfl, rfl, rfl⟩
    · skip
      refine OpsW.skipG rfl rfl ?_
      refine OpsW.skipG rfl rfl ?_
      refine OpsW.skipG rfl rfl ?_
      refine OpsW.pure rfl rfl (pureOp_pick_false rfl rfl) ?_
      refine OpsW.pure rfl rfl (pureOp_assign rfl) ?_
      refine OpsW.nil ?_
      refine ⟨_, [], _, sub_put (i := 6) rfl (sub_nil), Sel.perm (by repeat (first | exact Sel.nil | (apply Sel.cons; (repeat (first | exact Ext.here | apply Ext.there))))), ?_⟩
      exact ⟨_, by simp [h16], rfl, rfl, rfl⟩
  rintro m _ _ ⟨bb, hbb, rfl, rfl, rfl⟩
  refine AWp.ret ?_
  exact ⟨_, [], _, permNone, res_tmp rfl rfl, by rw [hbb], rfl⟩

end Go.Proofs.Ytbhjaoedlggbbaa.Sep
