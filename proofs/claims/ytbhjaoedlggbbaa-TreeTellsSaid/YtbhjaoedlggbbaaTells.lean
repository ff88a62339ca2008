/- The walks of texts, clash and the law TreeTells. -/
import Derived.Test.YtbhjaoedlggbbaaWorks
import Derived.Test.YtbhjaoedlggbbaaTreeK
import Derived.Test.YtbhjaoedlggbbaaProg
namespace Go.Proofs.Ytbhjaoedlggbbaa.Sep
open Go Go.RowKit
set_option linter.unusedVariables false
set_option linter.unusedSimpArgs false
theorem ni22 : NotInt Try.prog 22 := ⟨_, Try.underlying22, fun k h => by cases h⟩


set_option maxRecDepth 20000 in
set_option maxHeartbeats 4000000 in
theorem texts_c (q n : Nat) (pv v : Value) (ps : List (List UInt8)) (d : List UInt8) (m : Mem) (hp : Rd m pv 32 (hC ps)) (okps : HsOk ps) (hd : Rd m v 1 (d.map bV)) (hdl : d.length ≤ 1000) (hq : q < n) (hn : n ≤ 1024) :
    Ctr Try.prog 22 [.agg [iV q, iV n, pv].toArray, v] m [] (fun _ r L => ∃ tvs μ, Parts μ (textsF q n ps d) tvs ∧ slOk r 1 tvs ∧ L = [.sl r 1 tvs, .fz μ]) := by
  refine Ctr.intro Try.func22 rfl Try.ntmps22 (by simp) fun w0 => ?_
  refine AWp.forget ?_ (sub_put (i := 0) rfl (sub_put (i := 1) rfl (sub_nil)))
  refine AWp.seq ?_
  refine AWp.region ?_
  refine OpsW.alloc rfl rfl (allocOp_boxAgg rfl) ?_
  rintro _ _ ⟨b2, rfl, rfl⟩
  refine OpsW.pure rfl rfl (pureOp_assign rfl) ?_
  refine OpsW.nil ?_
  refine AWp.forget ?_ (sub_put (i := 0) rfl (sub_put (i := 1) rfl (sub_put (i := 2) rfl (sub_put (i := 4) rfl (sub_nil)))))
  refine AWp.seq ?_
  refine AWp.region ?_
  refine OpsW.pure rfl rfl (pureOp_fieldAddr fa32_0 rfl) ?_
  refine OpsW.load rfl rfl (loadOp_obj sc3 rfl (by repeat (first | exact List.Mem.head _ | apply List.Mem.tail)) rfl) ?_
  refine OpsW.pure rfl rfl (pureOp_move rfl) ?_
  refine OpsW.callA rfl rfl (callOp Try.call16 rfl) permNone (leafText_c q _ d _ (by omega) hd.ro (by omega)) ?_
  rintro v14 _ ⟨hv14, rfl⟩
  refine OpsW.pure rfl rfl (pureOp_assign rfl) ?_
  refine OpsW.nil ?_
  refine AWp.forget ?_ (sub_put (i := 0) rfl (sub_put (i := 1) rfl (sub_put (i := 2) rfl (sub_put (i := 4) rfl (sub_put (i := 5) rfl (sub_nil))))))
  refine AWp.seq ?_
  refine AWp.region ?_
  refine OpsW.pure rfl rfl (pureOp_move rfl) ?_
  refine OpsW.alloc rfl rfl (allocOp_buildSlice slt22 rfl rfl (fun v hv => by rw [List.mem_singleton.1 hv]; exact size_sl hv14) (by decide)) ?_
  rintro v16 _ ⟨hv16, hn16, rfl⟩
  rw [show List.flatMap (fun x : Value => x.cells.toList) [v14] = [v14] from by simp [cells_sl hv14]] at hv16 ⊢
  refine OpsW.pure rfl rfl (pureOp_assign rfl) ?_
  refine OpsW.nil ?_
  refine AWp.forget ?_ (sub_put (i := 0) rfl (sub_put (i := 1) rfl (sub_put (i := 2) rfl (sub_put (i := 4) rfl (sub_put (i := 5) rfl (sub_put (i := 6) rfl (sub_nil)))))))
  refine AWp.seq ?_
  refine AWp.fz0 ?_
  refine AWp.keep (L' := [.sl v14 1 _, .fz _, .sl v16 1 _, .obj b2 _]) (by repeat (first | exact Sel.nil | (apply Sel.cons; (repeat (first | exact Ext.here | apply Ext.there))))) ?_
  refine AWp.gather ?_
  have hr14 : Rd (fun z u => False ∨ (Chunk.sl v14 1 ((leafText q d).map bV)).at z u) v14 1 ((leafText q d).map bV) := Rd.of_at hv14 fun z u h => .inr h
  revert hr14
  generalize (fun z u => False ∨ (Chunk.sl v14 1 ((leafText q d).map bV)).at z u) = μ0
  intro hr14
  refine AWp.draw [(0, .pure), (1, .load), (2, .pure), (3, .load), (4, .pure), (5, .load), (6, .pure), (7, .pure), (8, .pure)] rfl (by decide +kernel) (fun _ _ _ p h => AWp.perm h p.symm) ?_
  refine ⟨_, _, rfl, OpStep.pure rfl rfl (pureOp_fieldAddr fa32_0 rfl), ?_⟩
  rintro _ _ ⟨rfl, rfl⟩ -
  refine ⟨_, _, rfl, OpStep.load rfl rfl (loadOp_obj sc3 rfl (by repeat (first | exact List.Mem.head _ | apply List.Mem.tail)) rfl), ?_⟩
  rintro _ _ ⟨rfl, rfl⟩ -
  refine ⟨_, _, rfl, OpStep.pure rfl rfl (pureOp_fieldAddr fa32_1 rfl), ?_⟩
  rintro _ _ ⟨rfl, rfl⟩ -
  refine ⟨_, _, rfl, OpStep.load rfl rfl (loadOp_obj sc3 rfl (by repeat (first | exact List.Mem.head _ | apply List.Mem.tail)) rfl), ?_⟩
  rintro _ _ ⟨rfl, rfl⟩ -
  refine ⟨_, _, rfl, OpStep.pure rfl rfl (pureOp_fieldAddr fa32_2 rfl), ?_⟩
  rintro _ _ ⟨rfl, rfl⟩ -
  refine ⟨_, _, rfl, OpStep.load rfl rfl (loadOp_obj sc30 rfl (by repeat (first | exact List.Mem.head _ | apply List.Mem.tail)) rfl), ?_⟩
  rintro _ _ ⟨rfl, rfl⟩ -
  refine ⟨_, _, rfl, OpStep.pure rfl rfl (pureOp_assign rfl), ?_⟩
  rintro _ _ ⟨rfl, rfl⟩ -
  refine ⟨_, _, rfl, OpStep.pure rfl rfl (pureOp_assign rfl), ?_⟩
  rintro _ _ ⟨rfl, rfl⟩ -
  refine ⟨_, _, rfl, OpStep.pure rfl rfl (pureOp_assign rfl), ?_⟩
  rintro _ _ ⟨rfl, rfl⟩ -
  refine AWp.forget ?_ (sub_put (i := 0) rfl (sub_put (i := 1) rfl (sub_put (i := 2) rfl (sub_put (i := 4) rfl (sub_put (i := 5) rfl (sub_put (i := 6) rfl (sub_put (i := 7) rfl (sub_put (i := 8) rfl (sub_put (i := 9) rfl (sub_nil))))))))))
  refine AWp.seq ?_
  refine AWp.block ?_
  refine AWp.forget ?_ (sub_put (i := 2) rfl (sub_put (i := 5) rfl (sub_put (i := 6) rfl (sub_put (i := 7) rfl (sub_put (i := 8) rfl (sub_put (i := 9) rfl (sub_nil)))))))
  refine AWp.keep (L' := [.sl v16 1 _, .fz _, .obj b2 _]) (by repeat (first | exact Sel.nil | (apply Sel.cons; (repeat (first | exact Ext.here | apply Ext.there))))) ?_
  obtain ⟨TF, hTF⟩ : ∃ TF, TF = textsF q n ps d := ⟨_, rfl⟩
  refine AWp.loop (fun N m' T' L' => ∃ (f k n1 : Nat) (a : List UInt8) (ps1 acc : List (List UInt8)) (pv1 av ov : Value) (ovs : List Value) (μ : Mem), N = f ∧ n1 ≤ f ∧ f ≤ 1024 ∧ k < n1 ∧ acc.length + f ≤ 1026 ∧ a.length ≤ 2000 ∧ HsOk ps1 ∧ Rd m pv1 32 (hC ps1) ∧ Rd μ av 1 (a.map bV) ∧ Parts μ acc ovs ∧ slOk ov 1 ovs ∧ acc ++ textsN f k n1 a ps1 n = TF ∧ m' = m ∧ T' = put (put (put (put (put (put (tnil) 9 (pv1)) 8 (iV n1)) 7 (iV k)) 6 (ov)) 5 (av)) 2 (.pointer (some ⟨b2, 0, none⟩)) ∧ L' = [.sl ov 1 ovs, .fz μ, .obj b2 [iV q, iV n, pv]]) _ (⟨n, q, n, _, ps, [leafText q d], pv, v14, v16, [v14], μ0, rfl, Nat.le_refl _, hn, hq, by simp; omega, by rw [leafText_length]; omega, okps, hp, hr14, Parts.one hr14, hv16, hTF.symm, rfl, rfl, rfl⟩) ?_
  rintro _ m _ _ ⟨f, k, n1, a, ps1, acc, pv1, av, ov, ovs, μ, hN, hnf, hf, hk, hacc, ha, okp, hp1, hav, hparts, hov, hT, rfl, rfl, rfl⟩
  have hop := hp1.1
  have hal := hav.1
  refine AWp.seq ?_
  refine AWp.seq ?_
  refine AWp.joinW (fun m' T' L' => ∃ bb : Bool, (bb = true ↔ 1 < n1) ∧ m' = m ∧ T' = put (put (put (put (put (put (put (tnil) 29 (.bool bb)) 9 (pv1)) 8 (iV n1)) 7 (iV k)) 6 (ov)) 5 (av)) 2 (.pointer (some ⟨b2, 0, none⟩)) ∧ L' = [.sl ov 1 ovs, .fz μ, .obj b2 [iV q, iV n, pv]]) ?_ ?_
  · skip
    refine AWp.region ?_
    refine OpsW.pure rfl rfl (pureOp_move rfl) ?_
    refine OpsW.pure rfl rfl (opN_gtr (b := 1) rfl rfl) ?_
    refine OpsW.splitP (d := 24) rfl (fun h24 => ?_) (fun h24 => ?_)
    · skip
      refine OpsW.pure rfl rfl (pureOp_move rfl) ?_
      refine OpsW.pure rfl rfl (pureOp_move rfl) ?_
      refine OpsW.pure rfl rfl (pureOp_len (n := ps1.length) Try.underlying30 rfl (by assumption) (hC_length okp) (by decide)) ?_
      refine OpsW.pure rfl rfl (opN_geq (b := 0) rfl rfl) ?_
      refine OpsW.knowB (d := 28) (b := true) (by show some (Value.bool (decide _)) = _; rw [decide_eq_true (Nat.zero_le _)]) ?_
      refine OpsW.pure rfl rfl (pureOp_pick_true rfl rfl) ?_
      refine OpsW.nil ?_
      refine ⟨_, [.sl ov 1 _, .fz μ, .obj b2 _], _, sub_put (i := 2) rfl (sub_put (i := 5) rfl (sub_put (i := 6) rfl (sub_put (i := 7) rfl (sub_put (i := 8) rfl (sub_put (i := 9) rfl (sub_put (i := 29) rfl (sub_nil))))))), Sel.perm (by repeat (first | exact Sel.nil | (apply Sel.cons; (repeat (first | exact Ext.here | apply Ext.there))))), ?_⟩
      exact ⟨_, by simp [h24], rfl, rfl, rfl⟩
    · skip
      refine OpsW.pure rfl rfl (pureOp_move rfl) ?_
      refine OpsW.skipG rfl rfl ?_
      refine OpsW.skipG rfl rfl ?_
      refine OpsW.skipG rfl rfl ?_
      refine OpsW.pure rfl rfl (pureOp_pick_false rfl rfl) ?_
      refine OpsW.nil ?_
      refine ⟨_, [.sl ov 1 _, .fz μ, .obj b2 _], _, sub_put (i := 2) rfl (sub_put (i := 5) rfl (sub_put (i := 6) rfl (sub_put (i := 7) rfl (sub_put (i := 8) rfl (sub_put (i := 9) rfl (sub_put (i := 29) rfl (sub_nil))))))), Sel.perm (by repeat (first | exact Sel.nil | (apply Sel.cons; (repeat (first | exact Ext.here | apply Ext.there))))), ?_⟩
      exact ⟨_, by simp [h24], rfl, rfl, rfl⟩
  rintro m _ _ ⟨bb, hbb, rfl, rfl, rfl⟩
  refine AWp.cond rfl (fun ht29 => ?_) (fun ht29 => ?_)
  refine AWp.skip ?_
  refine AWp.block ?_
  refine AWp.seq ?_
  refine AWp.seq ?_
  have h1n := hbb.1 ht29
  obtain ⟨f2, rfl⟩ : ∃ g, f = g + 1 := ⟨f - 1, by omega⟩
  rw [textsN, if_neg (by omega)] at hT
  have hxq := xor_one k
  refine AWp.region ?_
  refine OpsW.pure rfl rfl (pureOp_move rfl) ?_
  refine OpsW.pure rfl rfl (opN_xor (b := 1) rfl rfl (by omega) (by omega)) ?_
  refine OpsW.pure rfl rfl (pureOp_move rfl) ?_
  refine OpsW.pure rfl rfl (opN_lss rfl rfl) ?_
  refine OpsW.nil ?_
  refine AWp.forget ?_ (sub_put (i := 2) rfl (sub_put (i := 5) rfl (sub_put (i := 6) rfl (sub_put (i := 7) rfl (sub_put (i := 8) rfl (sub_put (i := 9) rfl (sub_put (i := 29) rfl (sub_put (i := 33) rfl (sub_nil)))))))))
  refine AWp.joinW (fun m' T' L' => ∃ (a2 : List UInt8) (ps2 acc2 : List (List UInt8)) (pv2 av2 ov2 : Value) (ovs2 : List Value) (μ2 : Mem), acc2.length + f2 ≤ 1026 ∧ a2.length ≤ 2000 ∧ HsOk ps2 ∧ Rd m pv2 32 (hC ps2) ∧ Rd μ2 av2 1 (a2.map bV) ∧ Parts μ2 acc2 ovs2 ∧ slOk ov2 1 ovs2 ∧ acc2 ++ textsN f2 (k / 2) ((n1 + 1) / 2) a2 ps2 n = TF ∧ m' = m ∧ T' = put (put (put (put (put (put (tnil) 9 (pv2)) 8 (iV n1)) 7 (iV k)) 6 (ov2)) 5 (av2)) 2 (.pointer (some ⟨b2, 0, none⟩)) ∧ L' = [.sl ov2 1 ovs2, .fz μ2, .obj b2 [iV q, iV n, pv]]) ?_ ?_
  · skip
    refine AWp.condP rfl (fun ht33 => ?_) (fun ht33 => ?_)
    · skip
      refine AWp.seq ?_
      refine AWp.seq ?_
      rw [if_pos ht33] at hT
      refine AWp.region ?_
      refine OpsW.pure rfl rfl (pureOp_move rfl) ?_
      refine OpsW.pure rfl rfl (pureOp_len (n := ps1.length) Try.underlying30 rfl (by assumption) (hC_length okp) (by decide)) ?_
      refine OpsW.pure rfl rfl (opN_eql (b := 0) rfl rfl) ?_
      refine OpsW.nil ?_
      refine AWp.forget ?_ (sub_put (i := 2) rfl (sub_put (i := 5) rfl (sub_put (i := 6) rfl (sub_put (i := 7) rfl (sub_put (i := 8) rfl (sub_put (i := 9) rfl (sub_put (i := 29) rfl (sub_put (i := 33) rfl (sub_put (i := 36) rfl (sub_nil))))))))))
      refine AWp.condP rfl (fun ht36 => ?_) (fun ht36 => ?_)
      · skip
        refine AWp.seq ?_
        refine AWp.region ?_
        refine OpsW.pure rfl rfl (pureOp_move rfl) ?_
        refine OpsW.pure rfl rfl (pureOp_assign rfl) ?_
        refine OpsW.nil ?_
        refine AWp.forget ?_ (sub_put (i := 2) rfl (sub_put (i := 4) rfl (sub_put (i := 5) rfl (sub_put (i := 6) rfl (sub_put (i := 7) rfl (sub_put (i := 8) rfl (sub_put (i := 9) rfl (sub_put (i := 29) rfl (sub_put (i := 33) rfl (sub_put (i := 36) rfl (sub_nil)))))))))))
        refine AWp.ret ?_
        rw [if_pos (List.length_eq_zero_iff.1 ht36), List.append_nil] at hT
        subst hTF
        exact ⟨_, [.sl ov 1 _, .fz _], _, Sel.perm (by repeat (first | exact Sel.nil | (apply Sel.cons; (repeat (first | exact Ext.here | apply Ext.there))))), res_tmp rfl rfl, ovs, μ, hT ▸ hparts, hov, rfl⟩
      refine AWp.skip ?_
      refine AWp.seq ?_
      have hne : ps1 ≠ [] := fun e => ht36 (by rw [e]; rfl)
      have hpos : 0 < ps1.length := List.length_pos_iff.2 hne
      rw [if_neg hne] at hT
      refine AWp.region ?_
      refine OpsW.pure rfl rfl (pureOp_move rfl) ?_
      refine OpsW.callA rfl rfl (callOp Try.call15 rfl) permNone (sum03_c av a _ (hav.fz (by repeat (first | exact List.Mem.head _ | apply List.Mem.tail))) (by omega)) ?_
      rintro _ _ ⟨rfl, rfl⟩
      refine OpsW.alloc rfl rfl (allocOp_alloc zt25) ?_
      rintro _ _ ⟨b10, rfl, rfl⟩
      refine OpsW.upd rfl rfl (by repeat (first | exact Pos.here | apply Pos.there)) (lop_storeAllN 32 Try.sizeOf25 rfl rfl (by simp) (by simp [shaF_length]) (by first | exact one_map (fun _ => rfl) _ | exact one_rfl rfl | simp [one])) ?_
      rintro _ _ ⟨rfl, rfl⟩
      refine OpsW.nil ?_
      refine AWp.forget ?_ (sub_put (i := 2) rfl (sub_put (i := 5) rfl (sub_put (i := 6) rfl (sub_put (i := 7) rfl (sub_put (i := 8) rfl (sub_put (i := 9) rfl (sub_put (i := 10) rfl (sub_put (i := 29) rfl (sub_put (i := 33) rfl (sub_put (i := 36) rfl (sub_nil)))))))))))
      refine AWp.seq ?_
      refine AWp.seq ?_
      refine AWp.region ?_
      refine OpsW.pure rfl rfl (pureOp_move rfl) ?_
      refine OpsW.pure rfl rfl (opN_rem (b := 2) rfl rfl (by omega) (by omega)) ?_
      refine OpsW.pure rfl rfl (opN_eql (b := 0) rfl rfl) ?_
      refine OpsW.nil ?_
      refine AWp.forget ?_ (sub_put (i := 2) rfl (sub_put (i := 5) rfl (sub_put (i := 6) rfl (sub_put (i := 7) rfl (sub_put (i := 8) rfl (sub_put (i := 9) rfl (sub_put (i := 10) rfl (sub_put (i := 29) rfl (sub_put (i := 33) rfl (sub_put (i := 36) rfl (sub_put (i := 42) rfl (sub_nil))))))))))))
      refine AWp.joinW (fun m' T' L' => ∃ (nv : Value), slOk nv 1 ((stepT k a (ps1.getD 0 [])).map bV) ∧ m' = m ∧ T' = put (put (put (put (put (put (tnil) 9 (pv1)) 8 (iV n1)) 7 (iV k)) 6 (ov)) 5 (nv)) 2 (.pointer (some ⟨b2, 0, none⟩)) ∧ L' = [.sl nv 1 ((stepT k a (ps1.getD 0 [])).map bV), .fz μ, .sl ov 1 ovs, .obj b2 [iV q, iV n, pv]]) ?_ ?_
      · skip
        refine AWp.condP rfl (fun ht42 => ?_) (fun ht42 => ?_)
        · skip
          refine AWp.draw [(0, .load), (1, .pure), (2, .pure), (3, .load), (4, .call), (5, .pure)] rfl (by decide +kernel) Weak.perm ?_
          refine ⟨_, _, rfl, OpStep.load rfl rfl (loadAll rfl (by repeat (first | exact List.Mem.head _ | apply List.Mem.tail)) (by simp [shaF_length]) ag25), ?_⟩
          rintro _ _ ⟨rfl, rfl⟩ -
          refine ⟨_, _, rfl, OpStep.pure rfl rfl (pureOp_move rfl), ?_⟩
          rintro _ _ ⟨rfl, rfl⟩ -
          refine ⟨_, _, rfl, OpStep.pure rfl rfl (opN_indexSl (i := 0) (n := ps1.length) Try.underlying30 Try.sizeOf25 rfl (by assumption) (hC_length okp) (by decide) rfl (by omega)), ?_⟩
          rintro _ _ ⟨rfl, rfl⟩ -
          refine ⟨_, _, rfl, OpStep.load rfl rfl (loadHash (hs := ps1) (i := 0) ag25 rfl (by first | exact Rd.ro (by assumption) | exact Rd.of_sl (by repeat (first | exact List.Mem.head _ | apply List.Mem.tail)) (by assumption)) okp (by omega)), ?_⟩
          rintro _ _ ⟨rfl, rfl⟩ -
          refine ⟨_, _, rfl, OpStep.call rfl rfl (callOp Try.call39 rfl) (nodeText_c (shaF a) (ps1.getD 0 []) _ (shaF_length _) (okp.getD hpos)), ?_⟩
          rintro _ _ ⟨v47, _, ⟨hv47, rfl⟩, rfl, rfl⟩ -
          refine ⟨_, _, rfl, OpStep.pure rfl rfl (pureOp_assign rfl), ?_⟩
          rintro _ _ ⟨rfl, rfl⟩ -
          refine ⟨_, [.sl v47 1 _, .fz _, .sl ov 1 _, .obj b2 _], _, sub_put (i := 2) rfl (sub_put (i := 5) rfl (sub_put (i := 6) rfl (sub_put (i := 7) rfl (sub_put (i := 8) rfl (sub_put (i := 9) rfl (sub_nil)))))), Sel.perm (by repeat (first | exact Sel.nil | (apply Sel.cons; (repeat (first | exact Ext.here | apply Ext.there))))), ?_⟩
          exact ⟨v47, by unfold stepT; rw [if_pos ht42]; exact hv47, rfl, rfl, by unfold stepT; rw [if_pos ht42]⟩
        · skip
          refine AWp.draw [(0, .pure), (1, .pure), (2, .load), (3, .load), (4, .call), (5, .pure)] rfl (by decide +kernel) Weak.perm ?_
          refine ⟨_, _, rfl, OpStep.pure rfl rfl (pureOp_move rfl), ?_⟩
          rintro _ _ ⟨rfl, rfl⟩ -
          refine ⟨_, _, rfl, OpStep.pure rfl rfl (opN_indexSl (i := 0) (n := ps1.length) Try.underlying30 Try.sizeOf25 rfl (by assumption) (hC_length okp) (by decide) rfl (by omega)), ?_⟩
          rintro _ _ ⟨rfl, rfl⟩ -
          refine ⟨_, _, rfl, OpStep.load rfl rfl (loadHash (hs := ps1) (i := 0) ag25 rfl (by first | exact Rd.ro (by assumption) | exact Rd.of_sl (by repeat (first | exact List.Mem.head _ | apply List.Mem.tail)) (by assumption)) okp (by omega)), ?_⟩
          rintro _ _ ⟨rfl, rfl⟩ -
          refine ⟨_, _, rfl, OpStep.load rfl rfl (loadAll rfl (by repeat (first | exact List.Mem.head _ | apply List.Mem.tail)) (by simp [shaF_length]) ag25), ?_⟩
          rintro _ _ ⟨rfl, rfl⟩ -
          refine ⟨_, _, rfl, OpStep.call rfl rfl (callOp Try.call39 rfl) (nodeText_c (ps1.getD 0 []) (shaF a) _ (okp.getD hpos) (shaF_length _)), ?_⟩
          rintro _ _ ⟨v52, _, ⟨hv52, rfl⟩, rfl, rfl⟩ -
          refine ⟨_, _, rfl, OpStep.pure rfl rfl (pureOp_assign rfl), ?_⟩
          rintro _ _ ⟨rfl, rfl⟩ -
          refine ⟨_, [.sl v52 1 _, .fz _, .sl ov 1 _, .obj b2 _], _, sub_put (i := 2) rfl (sub_put (i := 5) rfl (sub_put (i := 6) rfl (sub_put (i := 7) rfl (sub_put (i := 8) rfl (sub_put (i := 9) rfl (sub_nil)))))), Sel.perm (by repeat (first | exact Sel.nil | (apply Sel.cons; (repeat (first | exact Ext.here | apply Ext.there))))), ?_⟩
          exact ⟨v52, by unfold stepT; rw [if_neg ht42]; exact hv52, rfl, rfl, by unfold stepT; rw [if_neg ht42]⟩
      rintro m _ _ ⟨nv, hnv, rfl, rfl, rfl⟩
      refine AWp.seq ?_
      refine AWp.region ?_
      refine OpsW.pure rfl rfl (pureOp_move rfl) ?_
      refine OpsW.pure rfl rfl (pureOp_move rfl) ?_
      refine OpsW.alloc rfl rfl (allocOp_buildSlice slt22 rfl rfl (fun v hv => by rw [List.mem_singleton.1 hv]; exact size_sl hnv) (by decide)) ?_
      rintro v55 _ ⟨hv55, hn55, rfl⟩
      rw [show List.flatMap (fun x : Value => x.cells.toList) [nv] = [nv] from by simp [cells_sl hnv]] at hv55 ⊢
      refine OpsW.upd rfl rfl (by repeat (first | exact Pos.here | apply Pos.there)) (lop_append (k := ovs.length) slt22 ni22 rfl rfl (by simp) (src_rd (n := 1) (by first | exact Rd.ro (by assumption) | exact Rd.of_sl (by repeat (first | exact List.Mem.head _ | apply List.Mem.tail)) (by assumption)) rfl (by decide)) (by have := hparts.1; omega) (by intro u hu; rw [List.mem_singleton.1 hu]; exact one_sl hnv) (by decide) (by decide)) ?_
      rintro v56 _ ⟨hv56, rfl⟩
      refine OpsW.pure rfl rfl (pureOp_assign rfl) ?_
      refine OpsW.nil ?_
      refine AWp.forget ?_ (sub_put (i := 2) rfl (sub_put (i := 5) rfl (sub_put (i := 6) rfl (sub_put (i := 7) rfl (sub_put (i := 8) rfl (sub_put (i := 9) rfl (sub_nil)))))))
      refine AWp.keep (L' := [.sl nv 1 _, .fz μ, .sl v56 1 _, .obj b2 _]) (by repeat (first | exact Sel.nil | (apply Sel.cons; (repeat (first | exact Ext.here | apply Ext.there))))) ?_
      refine AWp.gather ?_
      have hrn : Rd (fun z u => μ z u ∨ (Chunk.sl nv 1 ((stepT k a (ps1.getD 0 [])).map bV)).at z u) nv 1 ((stepT k a (ps1.getD 0 [])).map bV) := Rd.of_at hnv fun z u h => .inr h
      have hpm : Parts (fun z u => μ z u ∨ (Chunk.sl nv 1 ((stepT k a (ps1.getD 0 [])).map bV)).at z u) (acc ++ [(stepT k a (ps1.getD 0 []))]) (ovs ++ [nv]) := (hparts.mono fun z u h => .inl h).append (Parts.one hrn)
      revert hrn hpm
      generalize (fun z u => μ z u ∨ (Chunk.sl nv 1 ((stepT k a (ps1.getD 0 [])).map bV)).at z u) = μ2
      intro hrn hpm
      refine AWp.region ?_
      refine OpsW.pure rfl rfl (pureOp_move rfl) ?_
      refine OpsW.pure rfl rfl (pureOp_slice (n := ps1.length) (1) (ps1.length) Try.underlying30 Try.sizeOf25 rfl (by assumption) (hC_length okp) (by decide) (.inr ⟨_, _, _, rfl, rfl, rfl⟩) (.inl ⟨rfl, rfl⟩) (by omega) (by omega)) ?_
      refine OpsW.pure rfl rfl (pureOp_assign rfl) ?_
      refine OpsW.nil ?_
      refine ⟨_, [.sl v56 1 _, .fz _, .obj b2 _], _, sub_put (i := 2) rfl (sub_put (i := 5) rfl (sub_put (i := 6) rfl (sub_put (i := 7) rfl (sub_put (i := 8) rfl (sub_put (i := 9) rfl (sub_nil)))))), Sel.perm (by repeat (first | exact Sel.nil | (apply Sel.cons; (repeat (first | exact Ext.here | apply Ext.there))))), ?_⟩
      exact ⟨_, ps1.drop 1, acc ++ [(stepT k a (ps1.getD 0 []))], slc pv1 1 ps1.length 32, nv, v56, ovs ++ [nv], μ2, by simp; omega, by rw [stepT_length _ (okp.getD hpos)]; decide, okp.drop 1, hC_rd_drop hp1 okp (by omega), hrn, hpm, hv56, by rw [List.append_assoc]; exact hT, rfl, rfl, rfl⟩
    · skip
      refine AWp.skip ?_
      refine ⟨_, [.sl ov 1 _, .fz _, .obj b2 _], _, sub_put (i := 2) rfl (sub_put (i := 5) rfl (sub_put (i := 6) rfl (sub_put (i := 7) rfl (sub_put (i := 8) rfl (sub_put (i := 9) rfl (sub_nil)))))), Sel.perm (by repeat (first | exact Sel.nil | (apply Sel.cons; (repeat (first | exact Ext.here | apply Ext.there))))), ?_⟩
      exact ⟨a, ps1, acc, pv1, av, ov, ovs, μ, by omega, ha, okp, hp1, hav, hparts, hov, by rw [if_neg ht33] at hT; exact hT, rfl, rfl, rfl⟩
  rintro m _ _ ⟨a2, ps2, acc2, pv2, av2, ov2, ovs2, μ2, hacc2, ha2, okp2, hp2, hav2, hparts2, hov2, hT2, rfl, rfl, rfl⟩
  refine AWp.region ?_
  refine OpsW.pure rfl rfl (pureOp_move rfl) ?_
  refine OpsW.pure rfl rfl (opN_quo (b := 2) rfl rfl (by omega) (by omega)) ?_
  refine OpsW.pure rfl rfl (pureOp_move rfl) ?_
  refine OpsW.pure rfl rfl (opN_add (b := 1) rfl rfl (by omega)) ?_
  refine OpsW.pure rfl rfl (opN_quo (b := 2) rfl rfl (by omega) (by omega)) ?_
  refine OpsW.pure rfl rfl (pureOp_assign rfl) ?_
  refine OpsW.pure rfl rfl (pureOp_assign rfl) ?_
  refine OpsW.forget ?_ (sub_put (i := 2) rfl (sub_put (i := 5) rfl (sub_put (i := 6) rfl (sub_put (i := 7) rfl (sub_put (i := 8) rfl (sub_put (i := 9) rfl (sub_nil)))))))
  refine OpsW.keep (L' := [.sl ov2 1 _, .fz _, .obj b2 _]) (by repeat (first | exact Sel.nil | (apply Sel.cons; (repeat (first | exact Ext.here | apply Ext.there))))) ?_
  refine OpsW.nil ?_
  exact ⟨_, by omega, f2, k / 2, (n1 + 1) / 2, a2, ps2, acc2, pv2, av2, ov2, ovs2, μ2, rfl, by omega, by omega, by omega, hacc2, ha2, okp2, hp2, hav2, hparts2, hov2, hT2, rfl, rfl, rfl⟩
  refine AWp.exit (exit_here ?_)
  refine AWp.seq ?_
  have hn1 : ¬ 1 < n1 := fun h => by rw [hbb.2 h] at ht29; cases ht29
  rw [textsN_stop (by omega)] at hT
  subst hTF
  refine AWp.draw [(0, .pure), (1, .pure), (2, .load), (3, .pure), (4, .call), (5, .call), (6, .alloc), (7, .wr), (8, .pure)] rfl (by decide +kernel) (fun _ _ _ p h => AWp.perm h p.symm) ?_
  refine ⟨_, _, rfl, OpStep.pure rfl rfl (pureOp_move rfl), ?_⟩
  rintro _ _ ⟨rfl, rfl⟩ -
  refine ⟨_, _, rfl, OpStep.pure rfl rfl (pureOp_fieldAddr fa32_1 rfl), ?_⟩
  rintro _ _ ⟨rfl, rfl⟩ -
  refine ⟨_, _, rfl, OpStep.load rfl rfl (loadOp_obj sc3 rfl (by repeat (first | exact List.Mem.head _ | apply List.Mem.tail)) rfl), ?_⟩
  rintro _ _ ⟨rfl, rfl⟩ -
  refine ⟨_, _, rfl, OpStep.pure rfl rfl (pureOp_move rfl), ?_⟩
  rintro _ _ ⟨rfl, rfl⟩ -
  refine ⟨_, _, rfl, OpStep.call rfl rfl (callOp Try.call15 rfl) (sum03_c av a _ (hav.fz (by repeat (first | exact List.Mem.head _ | apply List.Mem.tail))) (by omega)), ?_⟩
  rintro _ _ ⟨_, _, ⟨rfl, rfl⟩, rfl, rfl⟩ -
  refine ⟨_, _, rfl, OpStep.call rfl rfl (callOp Try.call28 rfl) (rootText_c n (shaF a) _ (by omega) (shaF_length _)), ?_⟩
  rintro _ _ ⟨v69, _, ⟨hv69, rfl⟩, rfl, rfl⟩ -
  refine ⟨_, _, rfl, allocStep_buildSlice rfl rfl slt22 rfl rfl (fun v hv => by rw [List.mem_singleton.1 hv]; exact size_sl hv69) (by decide), ?_⟩
  rintro _ _ ⟨v70, _, ⟨hv70, hn70, rfl⟩, rfl, rfl⟩ -
  rw [show List.flatMap (fun x : Value => x.cells.toList) [v69] = [v69] from by simp [cells_sl hv69]] at hv70 ⊢
  refine ⟨_, _, rfl, OpStep.wr rfl rfl (toWp (by repeat (first | exact Pos.here | apply Pos.there)) (lop_append (k := ovs.length) slt22 ni22 rfl rfl (by simp) (src_rd (n := 1) (by first | exact Rd.ro (by assumption) | exact Rd.of_sl (by repeat (first | exact List.Mem.head _ | apply List.Mem.tail)) (by assumption)) rfl (by decide)) (by have := hparts.1; omega) (by intro u hu; rw [List.mem_singleton.1 hu]; exact one_sl hv69) (by decide) (by decide))), ?_⟩
  rintro _ _ ⟨v71, ⟨_, ⟨hv71, rfl⟩, rfl⟩, rfl⟩ -
  refine ⟨_, _, rfl, OpStep.pure rfl rfl (pureOp_assign rfl), ?_⟩
  rintro _ _ ⟨rfl, rfl⟩ -
  refine AWp.keep (L' := [.sl v69 1 _, .fz μ, .sl v71 1 _]) (by repeat (first | exact Sel.nil | (apply Sel.cons; (repeat (first | exact Ext.here | apply Ext.there))))) ?_
  refine AWp.gather ?_
  have hrn : Rd (fun z u => μ z u ∨ (Chunk.sl v69 1 ((rootText n (shaF a)).map bV)).at z u) v69 1 ((rootText n (shaF a)).map bV) := Rd.of_at hv69 fun z u h => .inr h
  have hpm : Parts (fun z u => μ z u ∨ (Chunk.sl v69 1 ((rootText n (shaF a)).map bV)).at z u) (acc ++ [rootText n (shaF a)]) (ovs ++ [v69]) := (hparts.mono fun z u h => .inl h).append (Parts.one hrn)
  refine AWp.ret ?_
  exact ⟨_, [.sl v71 1 _, .fz _], _, Sel.perm (by repeat (first | exact Sel.nil | (apply Sel.cons; (repeat (first | exact Ext.here | apply Ext.there))))), res_tmp rfl rfl, ovs ++ [v69], _, hT ▸ hpm, hv71, rfl⟩

set_option maxRecDepth 20000 in
set_option maxHeartbeats 4000000 in
theorem clash_c (v : Value) (ls : List (List UInt8)) (vs : List Value) (m : Mem) (hv : Rds m v ls vs) (hbd : ∀ i, (ls.getD i []).length ≤ 2000) (hbl : ls.length ≤ 100000) :
    Ctr Try.prog 23 [v] m [] (fun _ r L => (∃ c, r = .bool c ∧ (Clash ls → c = true)) ∧ L = []) := by
  have ho := hv.rd.1
  have hrd := hv.rd
  have hvl := hv.len
  refine Ctr.intro Try.func23 rfl Try.ntmps23 (by simp) fun w0 => ?_
  refine AWp.forget ?_ (sub_put (i := 0) rfl (sub_nil))
  refine AWp.seq ?_
  refine AWp.region ?_
  refine OpsW.pure rfl rfl (pureOp_assign rfl) ?_
  refine OpsW.nil ?_
  refine AWp.forget ?_ (sub_put (i := 0) rfl (sub_put (i := 2) rfl (sub_nil)))
  refine AWp.seq ?_
  refine AWp.seq ?_
  refine AWp.region ?_
  refine OpsW.pure rfl rfl (pureOp_assign rfl) ?_
  refine OpsW.nil ?_
  refine AWp.forget ?_ (sub_put (i := 0) rfl (sub_put (i := 2) rfl (sub_put (i := 3) rfl (sub_nil))))
  refine AWp.block ?_
  refine AWp.forget ?_ (sub_put (i := 0) rfl (sub_put (i := 3) rfl (sub_nil)))
  refine AWp.loop (fun N m' T' L' => ∃ i : Nat, N = ls.length - i ∧ i ≤ ls.length ∧ (∀ x, x < i → ∀ y, y < x → ¬ (ls.getD x [] ≠ ls.getD y [] ∧ shaF (ls.getD x []) = shaF (ls.getD y []))) ∧ m' = m ∧ T' = put (put (tnil) 3 (iV i)) 0 (v) ∧ L' = []) _ (⟨0, rfl, Nat.zero_le _, fun x hx => absurd hx (Nat.not_lt_zero x), rfl, rfl, rfl⟩) ?_
  rintro _ m _ _ ⟨i, rfl, hi, hall, rfl, rfl, rfl⟩
  refine AWp.seq ?_
  refine AWp.seq ?_
  refine AWp.region ?_
  refine OpsW.pure rfl rfl (pureOp_move rfl) ?_
  refine OpsW.pure rfl rfl (pureOp_move rfl) ?_
  refine OpsW.pure rfl rfl (opN_len1 ls.length Try.underlying22 rfl (by assumption) hvl) ?_
  refine OpsW.pure rfl rfl (opN_lss rfl rfl) ?_
  refine OpsW.nil ?_
  refine AWp.forget ?_ (sub_put (i := 0) rfl (sub_put (i := 3) rfl (sub_put (i := 8) rfl (sub_nil))))
  refine AWp.condP rfl (fun ht8 => ?_) (fun ht8 => ?_)
  refine AWp.skip ?_
  refine AWp.seq ?_
  refine AWp.block ?_
  refine AWp.seq ?_
  refine AWp.region ?_
  refine OpsW.pure rfl rfl (pureOp_assign rfl) ?_
  refine OpsW.nil ?_
  refine AWp.forget ?_ (sub_put (i := 0) rfl (sub_put (i := 3) rfl (sub_put (i := 4) rfl (sub_put (i := 8) rfl (sub_nil)))))
  refine AWp.block ?_
  refine AWp.forget ?_ (sub_put (i := 0) rfl (sub_put (i := 3) rfl (sub_put (i := 4) rfl (sub_nil))))
  refine AWp.loop (fun N m' T' L' => ∃ k : Nat, N = i - k ∧ k ≤ i ∧ (∀ y, y < k → ¬ (ls.getD i [] ≠ ls.getD y [] ∧ shaF (ls.getD i []) = shaF (ls.getD y []))) ∧ m' = m ∧ T' = put (put (put (tnil) 4 (iV k)) 3 (iV i)) 0 (v) ∧ L' = []) _ (⟨0, rfl, Nat.zero_le _, fun x hx => absurd hx (Nat.not_lt_zero x), rfl, rfl, rfl⟩) ?_
  rintro _ m _ _ ⟨k, rfl, hk, hin, rfl, rfl, rfl⟩
  refine AWp.seq ?_
  refine AWp.seq ?_
  refine AWp.region ?_
  refine OpsW.pure rfl rfl (pureOp_move rfl) ?_
  refine OpsW.pure rfl rfl (pureOp_move rfl) ?_
  refine OpsW.pure rfl rfl (opN_lss rfl rfl) ?_
  refine OpsW.nil ?_
  refine AWp.forget ?_ (sub_put (i := 0) rfl (sub_put (i := 3) rfl (sub_put (i := 4) rfl (sub_put (i := 13) rfl (sub_nil)))))
  refine AWp.condP rfl (fun ht13 => ?_) (fun ht13 => ?_)
  refine AWp.skip ?_
  refine AWp.seq ?_
  refine AWp.block ?_
  refine AWp.seq ?_
  refine AWp.joinW (fun m' T' L' => ∃ bb : Bool, (bb = true ↔ (ls.getD i [] ≠ ls.getD k [] ∧ shaF (ls.getD i []) = shaF (ls.getD k []))) ∧ m' = m ∧ T' = put (put (put (put (tnil) 39 (.bool bb)) 4 (iV k)) 3 (iV i)) 0 (v) ∧ L' = []) ?_ ?_
  · skip
    refine AWp.draw [(0, .pure), (1, .pure), (2, .pure), (3, .load), (4, .load), (5, .pure), (6, .pure), (7, .pure), (8, .load), (9, .load), (10, .pure), (11, .pure), (12, .pure), (13, .pure), (14, .pure), (15, .load), (17, .pure), (18, .pure), (19, .pure), (20, .load), (16, .call), (21, .call), (22, .pure), (23, .pure)] rfl (by decide +kernel) Weak.perm ?_
    refine ⟨_, _, rfl, OpStep.pure rfl rfl (pureOp_move rfl), ?_⟩
    rintro _ _ ⟨rfl, rfl⟩ -
    refine ⟨_, _, rfl, OpStep.pure rfl rfl (pureOp_move rfl), ?_⟩
    rintro _ _ ⟨rfl, rfl⟩ -
    refine ⟨_, _, rfl, OpStep.pure rfl rfl (opN_indexSl1 Try.underlying22 Try.sizeOf38 rfl (by assumption) rfl (by omega)), ?_⟩
    rintro _ _ ⟨rfl, rfl⟩ -
    refine ⟨_, _, rfl, OpStep.load rfl rfl (loadOp_elem (u := vs.getD i undef) sc38 rfl (by first | exact Rd.ro (by assumption) | exact Rd.of_sl (by repeat (first | exact List.Mem.head _ | apply List.Mem.tail)) (by assumption)) (get_D (by omega))), ?_⟩
    rintro _ _ ⟨rfl, rfl⟩ -
    refine ⟨_, _, rfl, OpStep.load rfl rfl (loadOp_toString (d := ls.getD i []) Try.underlying38 Try.underlying5 Try.underlying9 rfl (hv.part i (by omega)).ro), ?_⟩
    rintro _ _ ⟨rfl, rfl⟩ -
    refine ⟨_, _, rfl, OpStep.pure rfl rfl (pureOp_move rfl), ?_⟩
    rintro _ _ ⟨rfl, rfl⟩ -
    refine ⟨_, _, rfl, OpStep.pure rfl rfl (pureOp_move rfl), ?_⟩
    rintro _ _ ⟨rfl, rfl⟩ -
    refine ⟨_, _, rfl, OpStep.pure rfl rfl (opN_indexSl1 Try.underlying22 Try.sizeOf38 rfl (by assumption) rfl (by omega)), ?_⟩
    rintro _ _ ⟨rfl, rfl⟩ -
    refine ⟨_, _, rfl, OpStep.load rfl rfl (loadOp_elem (u := vs.getD k undef) sc38 rfl (by first | exact Rd.ro (by assumption) | exact Rd.of_sl (by repeat (first | exact List.Mem.head _ | apply List.Mem.tail)) (by assumption)) (get_D (by omega))), ?_⟩
    rintro _ _ ⟨rfl, rfl⟩ -
    refine ⟨_, _, rfl, OpStep.load rfl rfl (loadOp_toString (d := ls.getD k []) Try.underlying38 Try.underlying5 Try.underlying9 rfl (hv.part k (by omega)).ro), ?_⟩
    rintro _ _ ⟨rfl, rfl⟩ -
    refine ⟨_, _, rfl, OpStep.pure rfl rfl (opS_neq rfl rfl), ?_⟩
    rintro _ _ ⟨rfl, rfl⟩ -
    refine chain_splitP (d := 26) rfl (fun h26 => ?_) (fun h26 => ?_)
    · skip
      refine ⟨_, _, rfl, OpStep.pure rfl rfl (pureOp_move rfl), ?_⟩
      rintro _ _ ⟨rfl, rfl⟩ -
      refine ⟨_, _, rfl, OpStep.pure rfl rfl (pureOp_move rfl), ?_⟩
      rintro _ _ ⟨rfl, rfl⟩ -
      refine ⟨_, _, rfl, OpStep.pure rfl rfl (pureOp_move rfl), ?_⟩
      rintro _ _ ⟨rfl, rfl⟩ -
      refine ⟨_, _, rfl, OpStep.pure rfl rfl (opN_indexSl1 Try.underlying22 Try.sizeOf38 rfl (by assumption) rfl (by omega)), ?_⟩
      rintro _ _ ⟨rfl, rfl⟩ -
      refine ⟨_, _, rfl, OpStep.load rfl rfl (loadOp_elem (u := vs.getD i undef) sc38 rfl (by first | exact Rd.ro (by assumption) | exact Rd.of_sl (by repeat (first | exact List.Mem.head _ | apply List.Mem.tail)) (by assumption)) (get_D (by omega))), ?_⟩
      rintro _ _ ⟨rfl, rfl⟩ -
      refine ⟨_, _, rfl, OpStep.pure rfl rfl (pureOp_move rfl), ?_⟩
      rintro _ _ ⟨rfl, rfl⟩ -
      refine ⟨_, _, rfl, OpStep.pure rfl rfl (pureOp_move rfl), ?_⟩
      rintro _ _ ⟨rfl, rfl⟩ -
      refine ⟨_, _, rfl, OpStep.pure rfl rfl (opN_indexSl1 Try.underlying22 Try.sizeOf38 rfl (by assumption) rfl (by omega)), ?_⟩
      rintro _ _ ⟨rfl, rfl⟩ -
      refine ⟨_, _, rfl, OpStep.load rfl rfl (loadOp_elem (u := vs.getD k undef) sc38 rfl (by first | exact Rd.ro (by assumption) | exact Rd.of_sl (by repeat (first | exact List.Mem.head _ | apply List.Mem.tail)) (by assumption)) (get_D (by omega))), ?_⟩
      rintro _ _ ⟨rfl, rfl⟩ -
      refine ⟨_, _, rfl, OpStep.call rfl rfl (callOp Try.call15 rfl) (sum03_c (vs.getD i undef) (ls.getD i []) _ (hv.part i (by omega)).ro (Nat.le_trans (hbd i) (by decide))), ?_⟩
      rintro _ _ ⟨_, _, ⟨rfl, rfl⟩, rfl, rfl⟩ -
      refine ⟨_, _, rfl, OpStep.call rfl rfl (callOp Try.call15 rfl) (sum03_c (vs.getD k undef) (ls.getD k []) _ (hv.part k (by omega)).ro (Nat.le_trans (hbd k) (by decide))), ?_⟩
      rintro _ _ ⟨_, _, ⟨rfl, rfl⟩, rfl, rfl⟩ -
      refine ⟨_, _, rfl, OpStep.pure rfl rfl (opB_eql by25 dpth rfl rfl (shaF_length _) (shaF_length _)), ?_⟩
      rintro _ _ ⟨rfl, rfl⟩ -
      refine ⟨_, _, rfl, OpStep.pure rfl rfl (pureOp_pick_true rfl rfl), ?_⟩
      rintro _ _ ⟨rfl, rfl⟩ -
      refine ⟨_, [], _, sub_put (i := 0) rfl (sub_put (i := 3) rfl (sub_put (i := 4) rfl (sub_put (i := 39) rfl (sub_nil)))), Sel.perm (by repeat (first | exact Sel.nil | (apply Sel.cons; (repeat (first | exact Ext.here | apply Ext.there))))), ?_⟩
      exact ⟨_, (by first | exact ⟨fun h => ⟨h26, of_decide_eq_true h⟩, fun h => decide_eq_true h.2⟩ | exact ⟨fun h => (by cases h), fun h => absurd h.1 h26⟩), rfl, rfl, rfl⟩
    · skip
      refine ⟨_, _, rfl, OpStep.pure rfl rfl (pureOp_move rfl), ?_⟩
      rintro _ _ ⟨rfl, rfl⟩ -
      refine ⟨_, _, rfl, OpStep.skip rfl rfl, ?_⟩
      rintro _ _ ⟨rfl, rfl⟩ -
      refine ⟨_, _, rfl, OpStep.skip rfl rfl, ?_⟩
      rintro _ _ ⟨rfl, rfl⟩ -
      refine ⟨_, _, rfl, OpStep.skip rfl rfl, ?_⟩
      rintro _ _ ⟨rfl, rfl⟩ -
      refine ⟨_, _, rfl, OpStep.skip rfl rfl, ?_⟩
      rintro _ _ ⟨rfl, rfl⟩ -
      refine ⟨_, _, rfl, OpStep.skip rfl rfl, ?_⟩
      rintro _ _ ⟨rfl, rfl⟩ -
      refine ⟨_, _, rfl, OpStep.skip rfl rfl, ?_⟩
      rintro _ _ ⟨rfl, rfl⟩ -
      refine ⟨_, _, rfl, OpStep.skip rfl rfl, ?_⟩
      rintro _ _ ⟨rfl, rfl⟩ -
      refine ⟨_, _, rfl, OpStep.skip rfl rfl, ?_⟩
      rintro _ _ ⟨rfl, rfl⟩ -
      refine ⟨_, _, rfl, OpStep.skip rfl rfl, ?_⟩
      rintro _ _ ⟨rfl, rfl⟩ -
      refine ⟨_, _, rfl, OpStep.skip rfl rfl, ?_⟩
      rintro _ _ ⟨rfl, rfl⟩ -
      refine ⟨_, _, rfl, OpStep.skip rfl rfl, ?_⟩
      rintro _ _ ⟨rfl, rfl⟩ -
      refine ⟨_, _, rfl, OpStep.pure rfl rfl (pureOp_pick_false rfl rfl), ?_⟩
      rintro _ _ ⟨rfl, rfl⟩ -
      refine ⟨_, [], _, sub_put (i := 0) rfl (sub_put (i := 3) rfl (sub_put (i := 4) rfl (sub_put (i := 39) rfl (sub_nil)))), Sel.perm (by repeat (first | exact Sel.nil | (apply Sel.cons; (repeat (first | exact Ext.here | apply Ext.there))))), ?_⟩
      exact ⟨_, (by first | exact ⟨fun h => ⟨h26, of_decide_eq_true h⟩, fun h => decide_eq_true h.2⟩ | exact ⟨fun h => (by cases h), fun h => absurd h.1 h26⟩), rfl, rfl, rfl⟩
  rintro m _ _ ⟨bb, hbb, rfl, rfl, rfl⟩
  refine AWp.cond rfl (fun ht39 => ?_) (fun ht39 => ?_)
  · skip
    refine AWp.seq ?_
    refine AWp.region ?_
    refine OpsW.pure rfl rfl (pureOp_assign rfl) ?_
    refine OpsW.nil ?_
    refine AWp.forget ?_ (sub_put (i := 0) rfl (sub_put (i := 2) rfl (sub_put (i := 3) rfl (sub_put (i := 4) rfl (sub_put (i := 39) rfl (sub_nil))))))
    refine AWp.ret ?_
    exact ⟨_, [], _, permNone, res_tmp rfl rfl, ⟨true, rfl, fun _ => rfl⟩, rfl⟩
  refine AWp.skip ?_
  refine AWp.region ?_
  refine OpsW.pure rfl rfl (pureOp_move rfl) ?_
  refine OpsW.pure rfl rfl (opN_add (b := 1) rfl rfl (by omega)) ?_
  refine OpsW.pure rfl rfl (pureOp_assign rfl) ?_
  refine OpsW.forget ?_ (sub_put (i := 0) rfl (sub_put (i := 3) rfl (sub_put (i := 4) rfl (sub_nil))))
  refine OpsW.keep (L' := []) (by repeat (first | exact Sel.nil | (apply Sel.cons; (repeat (first | exact Ext.here | apply Ext.there))))) ?_
  refine OpsW.nil ?_
  exact ⟨_, by omega, k + 1, rfl, by omega, fun y hy => (by rcases Nat.lt_or_ge y k with h | h; exact hin y h; obtain rfl : y = k := (by omega); exact fun h => by rw [hbb.2 h] at ht39; cases ht39), rfl, rfl, rfl⟩
  obtain rfl : k = i := by omega
  refine AWp.exit (exit_here ?_)
  refine AWp.region ?_
  refine OpsW.pure rfl rfl (pureOp_move rfl) ?_
  refine OpsW.pure rfl rfl (opN_add (b := 1) rfl rfl (by omega)) ?_
  refine OpsW.pure rfl rfl (pureOp_assign rfl) ?_
  refine OpsW.forget ?_ (sub_put (i := 0) rfl (sub_put (i := 3) rfl (sub_nil)))
  refine OpsW.keep (L' := []) (by repeat (first | exact Sel.nil | (apply Sel.cons; (repeat (first | exact Ext.here | apply Ext.there))))) ?_
  refine OpsW.nil ?_
  exact ⟨_, by omega, k + 1, rfl, by omega, fun x hx y hy => (by rcases Nat.lt_or_ge x k with h | h; exact hall x h y hy; obtain rfl : x = k := (by omega); exact hin y (by omega)), rfl, rfl, rfl⟩
  refine AWp.exit (exit_here ?_)
  refine AWp.seq ?_
  refine AWp.region ?_
  refine OpsW.pure rfl rfl (pureOp_assign rfl) ?_
  refine OpsW.nil ?_
  refine AWp.forget ?_ (sub_put (i := 0) rfl (sub_put (i := 2) rfl (sub_put (i := 3) rfl (sub_put (i := 8) rfl (sub_nil)))))
  refine AWp.ret ?_
  exact ⟨_, [], _, permNone, res_tmp rfl rfl, ⟨false, rfl, fun hc => by
    obtain ⟨x, y, hy, hx, hc⟩ := clash_idx hc
    exact absurd hc (hall x (by omega) y hy)⟩, rfl⟩

end Go.Proofs.Ytbhjaoedlggbbaa.Sep
