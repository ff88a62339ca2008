/- The walk of the law TreeTells. -/
import Derived.Test.YtbhjaoedlggbbaaTells
import Derived.Test.YtbhjaoedlggbbaaProg
namespace Go.Proofs.Ytbhjaoedlggbbaa.Sep
open Go Go.RowKit
set_option linter.unusedVariables false
set_option linter.unusedSimpArgs false



set_option maxRecDepth 20000 in
set_option maxHeartbeats 4000000 in
theorem tells_c (v w : Value) (ls : List (List UInt8)) (vs : List Value) (k n : Int) (pv : Value) (ps : List (List UInt8)) (d : List UInt8) (m : Mem) (hv : Rds m v ls vs) (hp : Rd m pv 32 (hC ps)) (okp : HsOk ps) (hd : Rd m w 1 (d.map bV)) :
    Ctr Try.prog 5 [v, .agg [.int .i64 k, .int .i64 n, pv].toArray, w] m [] (fun _ r L => r = .bool true ∧ L = []) := by
  have ho := hv.rd.1
  have hrd := hv.rd
  have hvl := hv.len
  have hop := hp.1
  have hdo := hd.1
  refine Ctr.intro Try.func5 rfl Try.ntmps5 (by simp) fun w0 => ?_
  refine AWp.forget ?_ (sub_put (i := 0) rfl (sub_put (i := 1) rfl (sub_put (i := 2) rfl (sub_nil))))
  refine AWp.seq ?_
  refine AWp.region ?_
  refine OpsW.alloc rfl rfl (allocOp_boxAgg rfl) ?_
  rintro _ _ ⟨b4, rfl, rfl⟩
  refine OpsW.pure rfl rfl (pureOp_assign rfl) ?_
  refine OpsW.nil ?_
  refine AWp.forget ?_ (sub_put (i := 0) rfl (sub_put (i := 1) rfl (sub_put (i := 2) rfl (sub_put (i := 4) rfl (sub_put (i := 6) rfl (sub_nil))))))
  refine AWp.seq ?_
  refine AWp.seq ?_
  refine AWp.joinW (fun m' T' L' => ∃ bb : Bool, (bb = false → lightP ls ∧ ls.length ≠ 0 ∧ d.length ≤ 100 ∧ ps.length ≤ 20) ∧ m' = m ∧ T' = put (put (put (put (tnil) 32 (.bool bb)) 4 (.pointer (some ⟨b4, 0, none⟩))) 2 (w)) 0 (v) ∧ L' = [.obj b4 [.int .i64 k, .int .i64 n, pv]]) ?_ ?_
  · skip
    refine AWp.region ?_
    refine OpsW.pure rfl rfl (pureOp_move rfl) ?_
    refine OpsW.callA rfl rfl (callOp Try.call6 rfl) permNone (light_c v ls vs _ hv.ro) ?_
    rintro _ _ ⟨⟨b, rfl, hb⟩, rfl⟩
    refine OpsW.split (d := 15) rfl (fun h15 => ?_) (fun h15 => ?_)
    · skip
      refine OpsW.pure rfl rfl (pureOp_not rfl) ?_
      refine OpsW.pure rfl rfl (pureOp_move rfl) ?_
      refine OpsW.pure rfl rfl (pureOp_move rfl) ?_
      refine OpsW.pure rfl rfl (opN_len1 ls.length Try.underlying22 rfl (by assumption) hvl) ?_
      refine OpsW.pure rfl rfl (opN_eql (b := 0) rfl rfl) ?_
      refine OpsW.splitP (d := 20) rfl (fun h20 => ?_) (fun h20 => ?_)
      · skip
        refine OpsW.pure rfl rfl (pureOp_pick_false rfl rfl) ?_
        refine OpsW.pure rfl rfl (pureOp_move rfl) ?_
        refine OpsW.skipG rfl rfl ?_
        refine OpsW.skipG rfl rfl ?_
        refine OpsW.skipG rfl rfl ?_
        refine OpsW.pure rfl rfl (pureOp_pick_true rfl rfl) ?_
        refine OpsW.pure rfl rfl (pureOp_move rfl) ?_
        refine OpsW.skipG rfl rfl ?_
        refine OpsW.skipG rfl rfl ?_
        refine OpsW.skipG rfl rfl ?_
        refine OpsW.skipG rfl rfl ?_
        refine OpsW.pure rfl rfl (pureOp_pick_true rfl rfl) ?_
        refine OpsW.nil ?_
        refine ⟨_, [.obj b4 _], _, sub_put (i := 0) rfl (sub_put (i := 2) rfl (sub_put (i := 4) rfl (sub_put (i := 32) rfl (sub_nil)))), Sel.perm (by repeat (first | exact Sel.nil | (apply Sel.cons; (repeat (first | exact Ext.here | apply Ext.there))))), ?_⟩
        exact ⟨_, (by intro h; first | (cases h; done) | exact ⟨hb h15, h20, by omega, by omega⟩), rfl, rfl, rfl⟩
      · skip
        refine OpsW.pure rfl rfl (pureOp_pick_false rfl rfl) ?_
        refine OpsW.pure rfl rfl (pureOp_move rfl) ?_
        refine OpsW.pure rfl rfl (pureOp_move rfl) ?_
        refine OpsW.pure rfl rfl (opN_len1 d.length Try.underlying38 rfl (by assumption) (by simp)) ?_
        refine OpsW.pure rfl rfl (opN_gtr (b := 100) rfl rfl) ?_
        refine OpsW.splitP (d := 25) rfl (fun h25 => ?_) (fun h25 => ?_)
        · skip
          refine OpsW.pure rfl rfl (pureOp_pick_false rfl rfl) ?_
          refine OpsW.pure rfl rfl (pureOp_move rfl) ?_
          refine OpsW.skipG rfl rfl ?_
          refine OpsW.skipG rfl rfl ?_
          refine OpsW.skipG rfl rfl ?_
          refine OpsW.skipG rfl rfl ?_
          refine OpsW.pure rfl rfl (pureOp_pick_true rfl rfl) ?_
          refine OpsW.nil ?_
          refine ⟨_, [.obj b4 _], _, sub_put (i := 0) rfl (sub_put (i := 2) rfl (sub_put (i := 4) rfl (sub_put (i := 32) rfl (sub_nil)))), Sel.perm (by repeat (first | exact Sel.nil | (apply Sel.cons; (repeat (first | exact Ext.here | apply Ext.there))))), ?_⟩
          exact ⟨_, (by intro h; first | (cases h; done) | exact ⟨hb h15, h20, by omega, by omega⟩), rfl, rfl, rfl⟩
        · skip
          refine OpsW.pure rfl rfl (pureOp_pick_false rfl rfl) ?_
          refine OpsW.pure rfl rfl (pureOp_move rfl) ?_
          refine OpsW.pure rfl rfl (pureOp_fieldAddr fa32_2 rfl) ?_
          refine OpsW.load rfl rfl (loadOp_obj sc30 rfl (by repeat (first | exact List.Mem.head _ | apply List.Mem.tail)) rfl) ?_
          refine OpsW.pure rfl rfl (pureOp_len (n := ps.length) Try.underlying30 rfl (by assumption) (hC_length okp) (by decide)) ?_
          refine OpsW.pure rfl rfl (opN_gtr (b := 20) rfl rfl) ?_
          refine OpsW.splitP (d := 31) rfl (fun h31 => ?_) (fun h31 => ?_)
          · skip
            refine OpsW.pure rfl rfl (pureOp_pick_false rfl rfl) ?_
            refine OpsW.nil ?_
            refine ⟨_, [.obj b4 _], _, sub_put (i := 0) rfl (sub_put (i := 2) rfl (sub_put (i := 4) rfl (sub_put (i := 32) rfl (sub_nil)))), Sel.perm (by repeat (first | exact Sel.nil | (apply Sel.cons; (repeat (first | exact Ext.here | apply Ext.there))))), ?_⟩
            exact ⟨_, (by intro h; first | (cases h; done) | exact ⟨hb h15, h20, by omega, by omega⟩), rfl, rfl, rfl⟩
          · skip
            refine OpsW.pure rfl rfl (pureOp_pick_false rfl rfl) ?_
            refine OpsW.nil ?_
            refine ⟨_, [.obj b4 _], _, sub_put (i := 0) rfl (sub_put (i := 2) rfl (sub_put (i := 4) rfl (sub_put (i := 32) rfl (sub_nil)))), Sel.perm (by repeat (first | exact Sel.nil | (apply Sel.cons; (repeat (first | exact Ext.here | apply Ext.there))))), ?_⟩
            exact ⟨_, (by intro h; first | (cases h; done) | exact ⟨hb h15, h20, by omega, by omega⟩), rfl, rfl, rfl⟩
    · skip
      refine OpsW.pure rfl rfl (pureOp_not rfl) ?_
      refine OpsW.pure rfl rfl (pureOp_move rfl) ?_
      refine OpsW.skipG rfl rfl ?_
      refine OpsW.skipG rfl rfl ?_
      refine OpsW.skipG rfl rfl ?_
      refine OpsW.pure rfl rfl (pureOp_pick_true rfl rfl) ?_
      refine OpsW.pure rfl rfl (pureOp_move rfl) ?_
      refine OpsW.skipG rfl rfl ?_
      refine OpsW.skipG rfl rfl ?_
      refine OpsW.skipG rfl rfl ?_
      refine OpsW.pure rfl rfl (pureOp_pick_true rfl rfl) ?_
      refine OpsW.pure rfl rfl (pureOp_move rfl) ?_
      refine OpsW.skipG rfl rfl ?_
      refine OpsW.skipG rfl rfl ?_
      refine OpsW.skipG rfl rfl ?_
      refine OpsW.skipG rfl rfl ?_
      refine OpsW.pure rfl rfl (pureOp_pick_true rfl rfl) ?_
      refine OpsW.nil ?_
      refine ⟨_, [.obj b4 _], _, sub_put (i := 0) rfl (sub_put (i := 2) rfl (sub_put (i := 4) rfl (sub_put (i := 32) rfl (sub_nil)))), Sel.perm (by repeat (first | exact Sel.nil | (apply Sel.cons; (repeat (first | exact Ext.here | apply Ext.there))))), ?_⟩
      exact ⟨_, (by intro h; first | (cases h; done) | exact ⟨hb h15, h20, by omega, by omega⟩), rfl, rfl, rfl⟩
  rintro m _ _ ⟨bb, hbb, rfl, rfl, rfl⟩
  refine AWp.cond rfl (fun ht32 => ?_) (fun ht32 => ?_)
  · skip
    refine AWp.seq ?_
    refine AWp.region ?_
    refine OpsW.callA rfl rfl (callOp Try.call7 rfl) permNone (works_c _) ?_
    rintro _ _ ⟨rfl, rfl⟩
    refine OpsW.pure rfl rfl (pureOp_assign rfl) ?_
    refine OpsW.nil ?_
    refine AWp.forget ?_ (sub_put (i := 0) rfl (sub_put (i := 2) rfl (sub_put (i := 4) rfl (sub_put (i := 6) rfl (sub_put (i := 32) rfl (sub_nil))))))
    refine AWp.ret ?_
    exact ⟨_, [], _, permNone, res_tmp rfl rfl, rfl, rfl⟩
  refine AWp.skip ?_
  refine AWp.seq ?_
  obtain ⟨hli, hne, hdl, hpl⟩ := hbb ht32
  have hlen := hli.1
  have hc0 : checkF ls.length = 0 := by rw [checkF, if_neg hne, if_neg (by omega)]
  obtain ⟨R, hRd⟩ : ∃ R, R = shaF (rootText ls.length (topF (leafHs ls ls.length))) := ⟨_, rfl⟩
  have hR : rootF ls = (R, 0) := by rw [rootF, if_pos hc0, ← hRd]
  have hrl : R.length = 32 := by rw [hRd]; exact shaF_length _
  refine AWp.region ?_
  refine OpsW.pure rfl rfl (pureOp_move rfl) ?_
  refine OpsW.callA rfl rfl (callOp Try.call8 rfl) permNone (root_c v ls vs _ hv.ro (light_bd hli (by decide)) (by omega)) ?_
  rintro _ _ ⟨rfl, rfl⟩
  rw [hR]
  refine OpsW.pure rfl rfl (pureOp_move rfl) ?_
  refine OpsW.pure rfl rfl (pureOp_extract rfl rfl) ?_
  refine OpsW.pure rfl rfl (pureOp_extract rfl rfl) ?_
  refine OpsW.alloc rfl rfl (allocOp_alloc zt25) ?_
  rintro _ _ ⟨b7, rfl, rfl⟩
  refine OpsW.upd rfl rfl (by repeat (first | exact Pos.here | apply Pos.there)) (lop_storeAllN 32 Try.sizeOf25 rfl rfl (by simp) (by simp [hrl]) (by first | exact one_map (fun _ => rfl) _ | exact one_rfl rfl | simp [one])) ?_
  rintro _ _ ⟨rfl, rfl⟩
  refine OpsW.pure rfl rfl (pureOp_assign rfl) ?_
  refine OpsW.nil ?_
  refine AWp.forget ?_ (sub_put (i := 0) rfl (sub_put (i := 2) rfl (sub_put (i := 4) rfl (sub_put (i := 7) rfl (sub_put (i := 8) rfl (sub_put (i := 32) rfl (sub_nil)))))))
  refine AWp.seq ?_
  refine AWp.seq ?_
  refine AWp.joinW (fun m' T' L' => ∃ bb : Bool, (bb = false → climbF k n ps d = (R, true)) ∧ m' = m ∧ T' = put (put (put (put (tnil) 47 (.bool bb)) 4 (.pointer (some ⟨b4, 0, none⟩))) 2 (w)) 0 (v) ∧ L' = [.obj b4 [.int .i64 k, .int .i64 n, pv]]) ?_ ?_
  · skip
    refine AWp.region ?_
    refine OpsW.pure rfl rfl (pureOp_move rfl) ?_
    refine OpsW.pure rfl rfl (opN_neq (b := 0) rfl rfl) ?_
    refine OpsW.knowB (d := 40) (b := false) rfl ?_
    refine OpsW.pure rfl rfl (pureOp_move rfl) ?_
    refine OpsW.load rfl rfl (loadAll rfl (by repeat (first | exact List.Mem.head _ | apply List.Mem.tail)) (by simp [hrl]) ag25) ?_
    refine OpsW.load rfl rfl (loadAll rfl (by repeat (first | exact List.Mem.head _ | apply List.Mem.tail)) (by rfl) ag32) ?_
    refine OpsW.pure rfl rfl (pureOp_move rfl) ?_
    refine OpsW.callA rfl rfl (callOp Try.call21 rfl) permNone (verify_c R k n pv w ps d _ hrl hp.ro okp hd.ro (by omega)) ?_
    rintro _ _ ⟨rfl, rfl⟩
    refine OpsW.split (d := 45) rfl (fun h45 => ?_) (fun h45 => ?_)
    · skip
      refine OpsW.pure rfl rfl (pureOp_not rfl) ?_
      refine OpsW.pure rfl rfl (pureOp_pick_false rfl rfl) ?_
      refine OpsW.nil ?_
      refine ⟨_, [.obj b4 _], _, sub_put (i := 0) rfl (sub_put (i := 2) rfl (sub_put (i := 4) rfl (sub_put (i := 47) rfl (sub_nil)))), Sel.perm (by repeat (first | exact Sel.nil | (apply Sel.cons; (repeat (first | exact Ext.here | apply Ext.there))))), ?_⟩
      exact ⟨_, (by intro h; first | (cases h; done) | (simp only [Bool.and_eq_true, decide_eq_true_eq] at h45; exact Prod.ext h45.2 h45.1)), rfl, rfl, rfl⟩
    · skip
      refine OpsW.pure rfl rfl (pureOp_not rfl) ?_
      refine OpsW.pure rfl rfl (pureOp_pick_false rfl rfl) ?_
      refine OpsW.nil ?_
      refine ⟨_, [.obj b4 _], _, sub_put (i := 0) rfl (sub_put (i := 2) rfl (sub_put (i := 4) rfl (sub_put (i := 47) rfl (sub_nil)))), Sel.perm (by repeat (first | exact Sel.nil | (apply Sel.cons; (repeat (first | exact Ext.here | apply Ext.there))))), ?_⟩
      exact ⟨_, (by intro h; first | (cases h; done) | (simp only [Bool.and_eq_true, decide_eq_true_eq] at h45; exact Prod.ext h45.2 h45.1)), rfl, rfl, rfl⟩
  rintro m _ _ ⟨bb, hbb2, rfl, rfl, rfl⟩
  refine AWp.cond rfl (fun ht47 => ?_) (fun ht47 => ?_)
  · skip
    refine AWp.seq ?_
    refine AWp.region ?_
    refine OpsW.callA rfl rfl (callOp Try.call7 rfl) permNone (works_c _) ?_
    rintro _ _ ⟨rfl, rfl⟩
    refine OpsW.pure rfl rfl (pureOp_assign rfl) ?_
    refine OpsW.nil ?_
    refine AWp.forget ?_ (sub_put (i := 0) rfl (sub_put (i := 2) rfl (sub_put (i := 4) rfl (sub_put (i := 6) rfl (sub_put (i := 47) rfl (sub_nil))))))
    refine AWp.ret ?_
    exact ⟨_, [], _, permNone, res_tmp rfl rfl, rfl, rfl⟩
  refine AWp.skip ?_
  refine AWp.seq ?_
  refine AWp.seq ?_
  have hcf := hbb2 ht47
  have hin : ¬ (n < 1 ∨ 1024 < n ∨ k < 0 ∨ n ≤ k) := fun h => by rw [climbF, if_pos h] at hcf; exact Bool.noConfusion (congrArg Prod.snd hcf)
  obtain ⟨q0, rfl⟩ : ∃ q : Nat, k = (q : Int) := ⟨k.toNat, by omega⟩
  obtain ⟨n0, rfl⟩ : ∃ q : Nat, n = (q : Int) := ⟨n.toNat, by omega⟩
  rw [hRd] at hcf
  refine AWp.joinW (fun m' T' L' => ∃ bb : Bool, (bb = false → n0 ≠ ls.length ∨ ls.length ≤ q0 ∨ d ≠ ls.getD q0 []) ∧ m' = m ∧ T' = put (put (put (put (tnil) 76 (.bool bb)) 4 (.pointer (some ⟨b4, 0, none⟩))) 2 (w)) 0 (v) ∧ L' = [.obj b4 [iV q0, iV n0, pv]]) ?_ ?_
  · skip
    refine AWp.draw [(0, .pure), (1, .load), (2, .pure), (3, .pure), (4, .pure), (5, .pure), (6, .pure), (7, .load), (8, .pure), (9, .pure), (10, .pure), (11, .pure), (12, .load), (13, .pure), (14, .pure), (15, .pure), (16, .pure), (17, .pure), (18, .pure), (19, .pure), (20, .load), (21, .pure), (22, .load), (23, .load), (24, .pure), (25, .load), (26, .pure), (27, .pure)] rfl (by decide +kernel) Weak.perm ?_
    refine ⟨_, _, rfl, OpStep.pure rfl rfl (pureOp_fieldAddr fa32_1 rfl), ?_⟩
    rintro _ _ ⟨rfl, rfl⟩ -
    refine ⟨_, _, rfl, OpStep.load rfl rfl (loadOp_obj sc3 rfl (by repeat (first | exact List.Mem.head _ | apply List.Mem.tail)) rfl), ?_⟩
    rintro _ _ ⟨rfl, rfl⟩ -
    refine ⟨_, _, rfl, OpStep.pure rfl rfl (pureOp_move rfl), ?_⟩
    rintro _ _ ⟨rfl, rfl⟩ -
    refine ⟨_, _, rfl, OpStep.pure rfl rfl (opN_len1 ls.length Try.underlying22 rfl (by assumption) hvl), ?_⟩
    rintro _ _ ⟨rfl, rfl⟩ -
    refine ⟨_, _, rfl, OpStep.pure rfl rfl (opN_eql rfl rfl), ?_⟩
    rintro _ _ ⟨rfl, rfl⟩ -
    refine chain_splitP (d := 53) rfl (fun h53 => ?_) (fun h53 => ?_)
    · skip
      refine ⟨_, _, rfl, OpStep.pure rfl rfl (pureOp_move rfl), ?_⟩
      rintro _ _ ⟨rfl, rfl⟩ -
      refine ⟨_, _, rfl, OpStep.pure rfl rfl (pureOp_fieldAddr fa32_0 rfl), ?_⟩
      rintro _ _ ⟨rfl, rfl⟩ -
      refine ⟨_, _, rfl, OpStep.load rfl rfl (loadOp_obj sc3 rfl (by repeat (first | exact List.Mem.head _ | apply List.Mem.tail)) rfl), ?_⟩
      rintro _ _ ⟨rfl, rfl⟩ -
      refine ⟨_, _, rfl, OpStep.pure rfl rfl (opN_geq (b := 0) rfl rfl), ?_⟩
      rintro _ _ ⟨rfl, rfl⟩ -
      refine chain_knowB (d := 57) (b := true) (by show some (Value.bool (decide _)) = _; rw [decide_eq_true (Nat.zero_le _)]) ?_
      refine ⟨_, _, rfl, OpStep.pure rfl rfl (pureOp_pick_true rfl rfl), ?_⟩
      rintro _ _ ⟨rfl, rfl⟩ -
      refine ⟨_, _, rfl, OpStep.pure rfl rfl (pureOp_move rfl), ?_⟩
      rintro _ _ ⟨rfl, rfl⟩ -
      refine ⟨_, _, rfl, OpStep.pure rfl rfl (pureOp_fieldAddr fa32_0 rfl), ?_⟩
      rintro _ _ ⟨rfl, rfl⟩ -
      refine ⟨_, _, rfl, OpStep.load rfl rfl (loadOp_obj sc3 rfl (by repeat (first | exact List.Mem.head _ | apply List.Mem.tail)) rfl), ?_⟩
      rintro _ _ ⟨rfl, rfl⟩ -
      refine ⟨_, _, rfl, OpStep.pure rfl rfl (pureOp_move rfl), ?_⟩
      rintro _ _ ⟨rfl, rfl⟩ -
      refine ⟨_, _, rfl, OpStep.pure rfl rfl (opN_len1 ls.length Try.underlying22 rfl (by assumption) hvl), ?_⟩
      rintro _ _ ⟨rfl, rfl⟩ -
      refine ⟨_, _, rfl, OpStep.pure rfl rfl (opN_lss rfl rfl), ?_⟩
      rintro _ _ ⟨rfl, rfl⟩ -
      refine chain_splitP (d := 64) rfl (fun h64 => ?_) (fun h64 => ?_)
      · skip
        refine ⟨_, _, rfl, OpStep.pure rfl rfl (pureOp_pick_true rfl rfl), ?_⟩
        rintro _ _ ⟨rfl, rfl⟩ -
        refine ⟨_, _, rfl, OpStep.pure rfl rfl (pureOp_move rfl), ?_⟩
        rintro _ _ ⟨rfl, rfl⟩ -
        refine ⟨_, _, rfl, OpStep.pure rfl rfl (pureOp_move rfl), ?_⟩
        rintro _ _ ⟨rfl, rfl⟩ -
        refine ⟨_, _, rfl, OpStep.pure rfl rfl (pureOp_fieldAddr fa32_0 rfl), ?_⟩
        rintro _ _ ⟨rfl, rfl⟩ -
        refine ⟨_, _, rfl, OpStep.load rfl rfl (loadOp_obj sc3 rfl (by repeat (first | exact List.Mem.head _ | apply List.Mem.tail)) rfl), ?_⟩
        rintro _ _ ⟨rfl, rfl⟩ -
        refine ⟨_, _, rfl, OpStep.pure rfl rfl (opN_indexSl1 Try.underlying22 Try.sizeOf38 rfl (by assumption) rfl (by omega)), ?_⟩
        rintro _ _ ⟨rfl, rfl⟩ -
        refine ⟨_, _, rfl, OpStep.load rfl rfl (loadOp_elem (u := vs.getD q0 undef) sc38 rfl (by first | exact Rd.ro (by assumption) | exact Rd.of_sl (by repeat (first | exact List.Mem.head _ | apply List.Mem.tail)) (by assumption)) (get_D (by omega))), ?_⟩
        rintro _ _ ⟨rfl, rfl⟩ -
        refine ⟨_, _, rfl, OpStep.load rfl rfl (loadOp_toString (d := ls.getD q0 []) Try.underlying38 Try.underlying5 Try.underlying9 rfl (hv.part q0 (by omega)).ro), ?_⟩
        rintro _ _ ⟨rfl, rfl⟩ -
        refine ⟨_, _, rfl, OpStep.pure rfl rfl (pureOp_move rfl), ?_⟩
        rintro _ _ ⟨rfl, rfl⟩ -
        refine ⟨_, _, rfl, OpStep.load rfl rfl (loadOp_toString (d := d) Try.underlying38 Try.underlying5 Try.underlying9 rfl hd.ro), ?_⟩
        rintro _ _ ⟨rfl, rfl⟩ -
        refine ⟨_, _, rfl, OpStep.pure rfl rfl (opS_eql rfl rfl), ?_⟩
        rintro _ _ ⟨rfl, rfl⟩ -
        refine chain_splitP (d := 75) rfl (fun h75 => ?_) (fun h75 => ?_)
        · skip
          refine ⟨_, _, rfl, OpStep.pure rfl rfl (pureOp_pick_true rfl rfl), ?_⟩
          rintro _ _ ⟨rfl, rfl⟩ -
          refine ⟨_, [.obj b4 _], _, sub_put (i := 0) rfl (sub_put (i := 2) rfl (sub_put (i := 4) rfl (sub_put (i := 76) rfl (sub_nil)))), Sel.perm (by repeat (first | exact Sel.nil | (apply Sel.cons; (repeat (first | exact Ext.here | apply Ext.there))))), ?_⟩
          exact ⟨_, (by intro h; first | (cases h; done) | exact .inr (.inr (fun e => h75 e.symm)) | exact .inr (.inl (by omega)) | exact .inl (by omega)), rfl, rfl, rfl⟩
        · skip
          refine ⟨_, _, rfl, OpStep.pure rfl rfl (pureOp_pick_true rfl rfl), ?_⟩
          rintro _ _ ⟨rfl, rfl⟩ -
          refine ⟨_, [.obj b4 _], _, sub_put (i := 0) rfl (sub_put (i := 2) rfl (sub_put (i := 4) rfl (sub_put (i := 76) rfl (sub_nil)))), Sel.perm (by repeat (first | exact Sel.nil | (apply Sel.cons; (repeat (first | exact Ext.here | apply Ext.there))))), ?_⟩
          exact ⟨_, (by intro h; first | (cases h; done) | exact .inr (.inr (fun e => h75 e.symm)) | exact .inr (.inl (by omega)) | exact .inl (by omega)), rfl, rfl, rfl⟩
      · skip
        refine ⟨_, _, rfl, OpStep.pure rfl rfl (pureOp_pick_true rfl rfl), ?_⟩
        rintro _ _ ⟨rfl, rfl⟩ -
        refine ⟨_, _, rfl, OpStep.pure rfl rfl (pureOp_move rfl), ?_⟩
        rintro _ _ ⟨rfl, rfl⟩ -
        refine ⟨_, _, rfl, OpStep.skip rfl rfl, ?_⟩
        rintro _ _ ⟨rfl, rfl⟩ -
        refine ⟨_, _, rfl, OpStep.skip rfl rfl, ?_⟩
        rintro _ _ ⟨rfl, rfl⟩ -
        refine ⟨_, _, rfl, OpStep.skip rfl rfl, ?_⟩
        rintro _ _ ⟨rfl, rfl⟩ -
        refine ⟨_, _, rfl, OpStep.skip rfl rfl, ?_⟩
        rintro _ _ ⟨rfl, rfl⟩ -
        refine ⟨_, _, rfl, OpStep.skip rfl rfl, ?_⟩
        rintro _ _ ⟨rfl, rfl⟩ -
        refine ⟨_, _, rfl, OpStep.skip rfl rfl, ?_⟩
        rintro _ _ ⟨rfl, rfl⟩ -
        refine ⟨_, _, rfl, OpStep.skip rfl rfl, ?_⟩
        rintro _ _ ⟨rfl, rfl⟩ -
        refine ⟨_, _, rfl, OpStep.skip rfl rfl, ?_⟩
        rintro _ _ ⟨rfl, rfl⟩ -
        refine ⟨_, _, rfl, OpStep.skip rfl rfl, ?_⟩
        rintro _ _ ⟨rfl, rfl⟩ -
        refine ⟨_, _, rfl, OpStep.pure rfl rfl (pureOp_pick_false rfl rfl), ?_⟩
        rintro _ _ ⟨rfl, rfl⟩ -
        refine ⟨_, [.obj b4 _], _, sub_put (i := 0) rfl (sub_put (i := 2) rfl (sub_put (i := 4) rfl (sub_put (i := 76) rfl (sub_nil)))), Sel.perm (by repeat (first | exact Sel.nil | (apply Sel.cons; (repeat (first | exact Ext.here | apply Ext.there))))), ?_⟩
        exact ⟨_, (by intro h; first | (cases h; done) | exact .inr (.inr (fun e => h75 e.symm)) | exact .inr (.inl (by omega)) | exact .inl (by omega)), rfl, rfl, rfl⟩
    · skip
      refine ⟨_, _, rfl, OpStep.pure rfl rfl (pureOp_move rfl), ?_⟩
      rintro _ _ ⟨rfl, rfl⟩ -
      refine ⟨_, _, rfl, OpStep.skip rfl rfl, ?_⟩
      rintro _ _ ⟨rfl, rfl⟩ -
      refine ⟨_, _, rfl, OpStep.skip rfl rfl, ?_⟩
      rintro _ _ ⟨rfl, rfl⟩ -
      refine ⟨_, _, rfl, OpStep.skip rfl rfl, ?_⟩
      rintro _ _ ⟨rfl, rfl⟩ -
      refine ⟨_, _, rfl, OpStep.pure rfl rfl (pureOp_pick_false rfl rfl), ?_⟩
      rintro _ _ ⟨rfl, rfl⟩ -
      refine ⟨_, _, rfl, OpStep.pure rfl rfl (pureOp_move rfl), ?_⟩
      rintro _ _ ⟨rfl, rfl⟩ -
      refine ⟨_, _, rfl, OpStep.skip rfl rfl, ?_⟩
      rintro _ _ ⟨rfl, rfl⟩ -
      refine ⟨_, _, rfl, OpStep.skip rfl rfl, ?_⟩
      rintro _ _ ⟨rfl, rfl⟩ -
      refine ⟨_, _, rfl, OpStep.skip rfl rfl, ?_⟩
      rintro _ _ ⟨rfl, rfl⟩ -
      refine ⟨_, _, rfl, OpStep.skip rfl rfl, ?_⟩
      rintro _ _ ⟨rfl, rfl⟩ -
      refine ⟨_, _, rfl, OpStep.skip rfl rfl, ?_⟩
      rintro _ _ ⟨rfl, rfl⟩ -
      refine ⟨_, _, rfl, OpStep.pure rfl rfl (pureOp_pick_false rfl rfl), ?_⟩
      rintro _ _ ⟨rfl, rfl⟩ -
      refine ⟨_, _, rfl, OpStep.pure rfl rfl (pureOp_move rfl), ?_⟩
      rintro _ _ ⟨rfl, rfl⟩ -
      refine ⟨_, _, rfl, OpStep.skip rfl rfl, ?_⟩
      rintro _ _ ⟨rfl, rfl⟩ -
      refine ⟨_, _, rfl, OpStep.skip rfl rfl, ?_⟩
      rintro _ _ ⟨rfl, rfl⟩ -
      refine ⟨_, _, rfl, OpStep.skip rfl rfl, ?_⟩
      rintro _ _ ⟨rfl, rfl⟩ -
      refine ⟨_, _, rfl, OpStep.skip rfl rfl, ?_⟩
      rintro _ _ ⟨rfl, rfl⟩ -
      refine ⟨_, _, rfl, OpStep.skip rfl rfl, ?_⟩
      rintro _ _ ⟨rfl, rfl⟩ -
      refine ⟨_, _, rfl, OpStep.skip rfl rfl, ?_⟩
      rintro _ _ ⟨rfl, rfl⟩ -
      refine ⟨_, _, rfl, OpStep.skip rfl rfl, ?_⟩
      rintro _ _ ⟨rfl, rfl⟩ -
      refine ⟨_, _, rfl, OpStep.skip rfl rfl, ?_⟩
      rintro _ _ ⟨rfl, rfl⟩ -
      refine ⟨_, _, rfl, OpStep.skip rfl rfl, ?_⟩
      rintro _ _ ⟨rfl, rfl⟩ -
      refine ⟨_, _, rfl, OpStep.pure rfl rfl (pureOp_pick_false rfl rfl), ?_⟩
      rintro _ _ ⟨rfl, rfl⟩ -
      refine ⟨_, [.obj b4 _], _, sub_put (i := 0) rfl (sub_put (i := 2) rfl (sub_put (i := 4) rfl (sub_put (i := 76) rfl (sub_nil)))), Sel.perm (by repeat (first | exact Sel.nil | (apply Sel.cons; (repeat (first | exact Ext.here | apply Ext.there))))), ?_⟩
      exact ⟨_, (by intro h; first | (cases h; done) | exact .inr (.inr (fun e => h75 e.symm)) | exact .inr (.inl (by omega)) | exact .inl (by omega)), rfl, rfl, rfl⟩
  rintro m _ _ ⟨bb, hbb3, rfl, rfl, rfl⟩
  refine AWp.cond rfl (fun ht76 => ?_) (fun ht76 => ?_)
  · skip
    refine AWp.seq ?_
    refine AWp.region ?_
    refine OpsW.callA rfl rfl (callOp Try.call7 rfl) permNone (works_c _) ?_
    rintro _ _ ⟨rfl, rfl⟩
    refine OpsW.pure rfl rfl (pureOp_assign rfl) ?_
    refine OpsW.nil ?_
    refine AWp.forget ?_ (sub_put (i := 0) rfl (sub_put (i := 2) rfl (sub_put (i := 4) rfl (sub_put (i := 6) rfl (sub_put (i := 76) rfl (sub_nil))))))
    refine AWp.ret ?_
    exact ⟨_, [], _, permNone, res_tmp rfl rfl, rfl, rfl⟩
  refine AWp.skip ?_
  refine AWp.seq ?_
  have hno := hbb3 ht76
  have htb : ∀ j, j < ls.length → ∀ i, ((textsF q0 n0 ps d ++ textsF j ls.length (pathF j (leafHs ls ls.length)) (ls.getD j [])).getD i []).length ≤ 2000 := fun j hj => getD_bd fun t ht => by
    rcases List.mem_append.1 ht with ht | ht
    · exact Nat.le_trans (textsF_bd okp hdl t ht) (by decide)
    · exact Nat.le_trans (textsF_bd (hsP j ls) (hli.2 j) t ht) (by decide)
  refine AWp.region ?_
  refine OpsW.load rfl rfl (loadAll rfl (by repeat (first | exact List.Mem.head _ | apply List.Mem.tail)) (by rfl) ag32) ?_
  refine OpsW.pure rfl rfl (pureOp_move rfl) ?_
  refine OpsW.callA rfl rfl (callOp Try.call22 rfl) permNone (texts_c q0 n0 pv w ps d _ hp.ro okp hd.ro (by omega) (by omega) (by omega)) ?_
  rintro v80 _ ⟨tvs, μ, hP1, hv80, rfl⟩
  have htl1 := textsF_len q0 n0 ps d
  have htp1 := hP1.1
  refine OpsW.pure rfl rfl (pureOp_assign rfl) ?_
  refine OpsW.nil ?_
  refine AWp.forget ?_ (sub_put (i := 0) rfl (sub_put (i := 2) rfl (sub_put (i := 4) rfl (sub_put (i := 9) rfl (sub_put (i := 76) rfl (sub_nil))))))
  refine AWp.seq ?_
  refine AWp.seq ?_
  refine AWp.joinW (fun m' T' L' => ∃ bb : Bool, (bb = true ↔ ls.length ≤ q0) ∧ m' = m ∧ T' = put (put (put (put (tnil) 90 (.bool bb)) 9 (v80)) 4 (.pointer (some ⟨b4, 0, none⟩))) 0 (v) ∧ L' = [.sl v80 1 tvs, .fz μ, .obj b4 [iV q0, iV n0, pv]]) ?_ ?_
  · skip
    refine AWp.region ?_
    refine OpsW.pure rfl rfl (pureOp_fieldAddr fa32_0 rfl) ?_
    refine OpsW.load rfl rfl (loadOp_obj sc3 rfl (by repeat (first | exact List.Mem.head _ | apply List.Mem.tail)) rfl) ?_
    refine OpsW.pure rfl rfl (pureOp_lss rfl rfl) ?_
    refine OpsW.knowB (d := 83) (b := false) (by show some (Value.bool (decide _)) = _; rw [decide_eq_false (by omega)]) ?_
    refine OpsW.pure rfl rfl (pureOp_move rfl) ?_
    refine OpsW.pure rfl rfl (pureOp_fieldAddr fa32_0 rfl) ?_
    refine OpsW.load rfl rfl (loadOp_obj sc3 rfl (by repeat (first | exact List.Mem.head _ | apply List.Mem.tail)) rfl) ?_
    refine OpsW.pure rfl rfl (pureOp_move rfl) ?_
    refine OpsW.pure rfl rfl (opN_len1 ls.length Try.underlying22 rfl (by assumption) hvl) ?_
    refine OpsW.pure rfl rfl (opN_geq rfl rfl) ?_
    refine OpsW.splitP (d := 89) rfl (fun h89 => ?_) (fun h89 => ?_)
    · skip
      refine OpsW.pure rfl rfl (pureOp_pick_false rfl rfl) ?_
      refine OpsW.nil ?_
      refine ⟨_, [.sl v80 1 _, .fz μ, .obj b4 _], _, sub_put (i := 0) rfl (sub_put (i := 4) rfl (sub_put (i := 9) rfl (sub_put (i := 90) rfl (sub_nil)))), Sel.perm (by repeat (first | exact Sel.nil | (apply Sel.cons; (repeat (first | exact Ext.here | apply Ext.there))))), ?_⟩
      exact ⟨_, by simp [h89]; try omega, rfl, rfl, rfl⟩
    · skip
      refine OpsW.pure rfl rfl (pureOp_pick_false rfl rfl) ?_
      refine OpsW.nil ?_
      refine ⟨_, [.sl v80 1 _, .fz μ, .obj b4 _], _, sub_put (i := 0) rfl (sub_put (i := 4) rfl (sub_put (i := 9) rfl (sub_put (i := 90) rfl (sub_nil)))), Sel.perm (by repeat (first | exact Sel.nil | (apply Sel.cons; (repeat (first | exact Ext.here | apply Ext.there))))), ?_⟩
      exact ⟨_, by simp [h89]; try omega, rfl, rfl, rfl⟩
  rintro m _ _ ⟨bb, hbb4, rfl, rfl, rfl⟩
  refine AWp.cond rfl (fun ht90 => ?_) (fun ht90 => ?_)
  · skip
    refine AWp.seq ?_
    have hq := hbb4.1 ht90
    obtain ⟨P2, hP2⟩ : ∃ P, P = pathF 0 (leafHs ls ls.length) := ⟨_, rfl⟩
    have okP2 : HsOk P2 := by rw [hP2]; exact hsP 0 ls
    refine AWp.region ?_
    refine OpsW.pure rfl rfl (pureOp_move rfl) ?_
    refine OpsW.callA rfl rfl (callOp Try.call11 rfl) permNone (prove_c v ls vs ((0 : Nat) : Int) _ hv.ro (light_bd hli (by decide)) (by omega)) ?_
    rintro _ _ ⟨p2, rfl, hp2, rfl⟩
    rw [proveF_ok hc0 (show 0 < ls.length by omega), ← hP2] at hp2 ⊢
    refine OpsW.pure rfl rfl (pureOp_move rfl) ?_
    refine OpsW.pure rfl rfl (pureOp_extract rfl rfl) ?_
    refine OpsW.pure rfl rfl (pureOp_extract rfl rfl) ?_
    refine OpsW.alloc rfl rfl (allocOp_alloc zt32) ?_
    rintro _ _ ⟨b10, rfl, rfl⟩
    refine OpsW.upd rfl rfl (by repeat (first | exact Pos.here | apply Pos.there)) (lop_storeAllN 3 Try.sizeOf32 rfl rfl rfl rfl (one3 rfl rfl (one_sl hp2))) ?_
    rintro _ _ ⟨rfl, rfl⟩
    refine OpsW.pure rfl rfl (pureOp_assign rfl) ?_
    refine OpsW.nil ?_
    refine AWp.forget ?_ (sub_put (i := 0) rfl (sub_put (i := 4) rfl (sub_put (i := 9) rfl (sub_put (i := 10) rfl (sub_put (i := 90) rfl (sub_nil))))))
    refine AWp.seq ?_
    refine AWp.draw [(0, .pure), (1, .load), (2, .pure), (3, .pure), (4, .load), (5, .call), (6, .wr), (7, .call), (8, .pure)] rfl (by decide +kernel) (fun _ _ _ p h => AWp.perm h p.symm) ?_
    refine ⟨_, _, rfl, OpStep.pure rfl rfl (pureOp_move rfl), ?_⟩
    rintro _ _ ⟨rfl, rfl⟩ -
    refine ⟨_, _, rfl, OpStep.load rfl rfl (loadAll rfl (by repeat (first | exact List.Mem.head _ | apply List.Mem.tail)) (by rfl) ag32), ?_⟩
    rintro _ _ ⟨rfl, rfl⟩ -
    refine ⟨_, _, rfl, OpStep.pure rfl rfl (pureOp_move rfl), ?_⟩
    rintro _ _ ⟨rfl, rfl⟩ -
    refine ⟨_, _, rfl, OpStep.pure rfl rfl (opN_indexSl1 (i := 0) Try.underlying22 Try.sizeOf38 rfl (by assumption) rfl (by omega)), ?_⟩
    rintro _ _ ⟨rfl, rfl⟩ -
    refine ⟨_, _, rfl, OpStep.load rfl rfl (loadOp_elem (u := vs.getD 0 undef) sc38 rfl (by first | exact Rd.ro (by assumption) | exact Rd.of_sl (by repeat (first | exact List.Mem.head _ | apply List.Mem.tail)) (by assumption)) (get_D (by omega))), ?_⟩
    rintro _ _ ⟨rfl, rfl⟩ -
    refine ⟨_, _, rfl, OpStep.call rfl rfl (callOp Try.call22 rfl) (texts_c 0 ls.length p2 (vs.getD 0 undef) P2 (ls.getD 0 []) _ (Rd.of_sl (by repeat (first | exact List.Mem.head _ | apply List.Mem.tail)) hp2) okP2 (hv.part 0 (by omega)).ro (light_bd hli (by decide) 0) (by omega) (by omega)), ?_⟩
    rintro _ _ ⟨v101, _, ⟨tvs2, μ2, hPt2, hv101, rfl⟩, rfl, rfl⟩ -
    have htl2 := textsF_len 0 ls.length P2 (ls.getD 0 [])
    have htp2 := hPt2.1
    refine ⟨_, _, rfl, OpStep.wr rfl rfl (toWp (by repeat (first | exact Pos.here | apply Pos.there)) (lop_append (k := tvs.length) slt22 ni22 rfl rfl (by simp) (src_rd (n := tvs2.length) (by first | exact Rd.ro (by assumption) | exact Rd.of_sl (by repeat (first | exact List.Mem.head _ | apply List.Mem.tail)) (by assumption)) (by simp) (by decide)) (by omega) hPt2.ones (by decide) (by decide))), ?_⟩
    rintro _ _ ⟨v102, ⟨_, ⟨hv102, rfl⟩, rfl⟩, rfl⟩ -
    refine ⟨_, _, rfl, OpStep.call rfl rfl (callOp Try.call23 rfl) (clash_c v102 (textsF q0 n0 ps d ++ textsF 0 ls.length P2 (ls.getD 0 [])) (tvs ++ tvs2) _ (Parts.rds ((hP1.fz (by repeat (first | exact List.Mem.head _ | apply List.Mem.tail))).append (hPt2.fz (by repeat (first | exact List.Mem.head _ | apply List.Mem.tail)))) (Rd.of_sl (by repeat (first | exact List.Mem.head _ | apply List.Mem.tail)) hv102)) (hP2 ▸ htb 0 (by omega)) (by rw [List.length_append]; omega)), ?_⟩
    rintro _ _ ⟨_, _, ⟨⟨c, rfl, hcl⟩, rfl⟩, rfl, rfl⟩ -
    obtain rfl := hcl (hP2 ▸ tells (j := 0) hc0 (by omega) okp hcf (.inl (by omega)))
    refine ⟨_, _, rfl, OpStep.pure rfl rfl (pureOp_assign rfl), ?_⟩
    rintro _ _ ⟨rfl, rfl⟩ -
    refine AWp.forget ?_ (sub_put (i := 0) rfl (sub_put (i := 4) rfl (sub_put (i := 6) rfl (sub_put (i := 9) rfl (sub_put (i := 10) rfl (sub_put (i := 90) rfl (sub_nil)))))))
    refine AWp.ret ?_
    exact ⟨_, [], _, permNone, res_tmp rfl rfl, rfl, rfl⟩
  refine AWp.skip ?_
  refine AWp.seq ?_
  have hq : q0 < ls.length := Nat.lt_of_not_le fun h => by rw [hbb4.2 h] at ht90; cases ht90
  obtain ⟨P2, hP2⟩ : ∃ P, P = pathF q0 (leafHs ls ls.length) := ⟨_, rfl⟩
  have okP2 : HsOk P2 := by rw [hP2]; exact hsP q0 ls
  refine AWp.region ?_
  refine OpsW.pure rfl rfl (pureOp_move rfl) ?_
  refine OpsW.pure rfl rfl (pureOp_fieldAddr fa32_0 rfl) ?_
  refine OpsW.load rfl rfl (loadOp_obj sc3 rfl (by repeat (first | exact List.Mem.head _ | apply List.Mem.tail)) rfl) ?_
  refine OpsW.callA rfl rfl (callOp Try.call11 rfl) permNone (prove_c v ls vs (q0 : Int) _ hv.ro (light_bd hli (by decide)) (by omega)) ?_
  rintro _ _ ⟨p2, rfl, hp2, rfl⟩
  rw [proveF_ok hc0 hq, ← hP2] at hp2 ⊢
  refine OpsW.pure rfl rfl (pureOp_move rfl) ?_
  refine OpsW.pure rfl rfl (pureOp_extract rfl rfl) ?_
  refine OpsW.pure rfl rfl (pureOp_extract rfl rfl) ?_
  refine OpsW.alloc rfl rfl (allocOp_alloc zt32) ?_
  rintro _ _ ⟨b12, rfl, rfl⟩
  refine OpsW.upd rfl rfl (by repeat (first | exact Pos.here | apply Pos.there)) (lop_storeAllN 3 Try.sizeOf32 rfl rfl rfl rfl (one3 rfl rfl (one_sl hp2))) ?_
  rintro _ _ ⟨rfl, rfl⟩
  refine OpsW.pure rfl rfl (pureOp_assign rfl) ?_
  refine OpsW.nil ?_
  refine AWp.forget ?_ (sub_put (i := 0) rfl (sub_put (i := 4) rfl (sub_put (i := 9) rfl (sub_put (i := 12) rfl (sub_put (i := 90) rfl (sub_nil))))))
  refine AWp.seq ?_
  refine AWp.draw [(0, .pure), (1, .load), (2, .pure), (3, .pure), (4, .load), (5, .pure), (6, .load), (7, .call), (8, .wr), (9, .call), (10, .pure)] rfl (by decide +kernel) (fun _ _ _ p h => AWp.perm h p.symm) ?_
  refine ⟨_, _, rfl, OpStep.pure rfl rfl (pureOp_move rfl), ?_⟩
  rintro _ _ ⟨rfl, rfl⟩ -
  refine ⟨_, _, rfl, OpStep.load rfl rfl (loadAll rfl (by repeat (first | exact List.Mem.head _ | apply List.Mem.tail)) (by rfl) ag32), ?_⟩
  rintro _ _ ⟨rfl, rfl⟩ -
  refine ⟨_, _, rfl, OpStep.pure rfl rfl (pureOp_move rfl), ?_⟩
  rintro _ _ ⟨rfl, rfl⟩ -
  refine ⟨_, _, rfl, OpStep.pure rfl rfl (pureOp_fieldAddr fa32_0 rfl), ?_⟩
  rintro _ _ ⟨rfl, rfl⟩ -
  refine ⟨_, _, rfl, OpStep.load rfl rfl (loadOp_obj sc3 rfl (by repeat (first | exact List.Mem.head _ | apply List.Mem.tail)) rfl), ?_⟩
  rintro _ _ ⟨rfl, rfl⟩ -
  refine ⟨_, _, rfl, OpStep.pure rfl rfl (opN_indexSl1 Try.underlying22 Try.sizeOf38 rfl (by assumption) rfl (by omega)), ?_⟩
  rintro _ _ ⟨rfl, rfl⟩ -
  refine ⟨_, _, rfl, OpStep.load rfl rfl (loadOp_elem (u := vs.getD q0 undef) sc38 rfl (by first | exact Rd.ro (by assumption) | exact Rd.of_sl (by repeat (first | exact List.Mem.head _ | apply List.Mem.tail)) (by assumption)) (get_D (by omega))), ?_⟩
  rintro _ _ ⟨rfl, rfl⟩ -
  refine ⟨_, _, rfl, OpStep.call rfl rfl (callOp Try.call22 rfl) (texts_c q0 ls.length p2 (vs.getD q0 undef) P2 (ls.getD q0 []) _ (Rd.of_sl (by repeat (first | exact List.Mem.head _ | apply List.Mem.tail)) hp2) okP2 (hv.part q0 hq).ro (light_bd hli (by decide) q0) hq (by omega)), ?_⟩
  rintro _ _ ⟨v118, _, ⟨tvs2, μ2, hPt2, hv118, rfl⟩, rfl, rfl⟩ -
  have htl2 := textsF_len q0 ls.length P2 (ls.getD q0 [])
  have htp2 := hPt2.1
  refine ⟨_, _, rfl, OpStep.wr rfl rfl (toWp (by repeat (first | exact Pos.here | apply Pos.there)) (lop_append (k := tvs.length) slt22 ni22 rfl rfl (by simp) (src_rd (n := tvs2.length) (by first | exact Rd.ro (by assumption) | exact Rd.of_sl (by repeat (first | exact List.Mem.head _ | apply List.Mem.tail)) (by assumption)) (by simp) (by decide)) (by omega) hPt2.ones (by decide) (by decide))), ?_⟩
  rintro _ _ ⟨v119, ⟨_, ⟨hv119, rfl⟩, rfl⟩, rfl⟩ -
  refine ⟨_, _, rfl, OpStep.call rfl rfl (callOp Try.call23 rfl) (clash_c v119 (textsF q0 n0 ps d ++ textsF q0 ls.length P2 (ls.getD q0 [])) (tvs ++ tvs2) _ (Parts.rds ((hP1.fz (by repeat (first | exact List.Mem.head _ | apply List.Mem.tail))).append (hPt2.fz (by repeat (first | exact List.Mem.head _ | apply List.Mem.tail)))) (Rd.of_sl (by repeat (first | exact List.Mem.head _ | apply List.Mem.tail)) hv119)) (hP2 ▸ htb q0 hq) (by rw [List.length_append]; omega)), ?_⟩
  rintro _ _ ⟨_, _, ⟨⟨c, rfl, hcl⟩, rfl⟩, rfl, rfl⟩ -
  obtain rfl := hcl (hP2 ▸ tells (j := q0) hc0 hq okp hcf (hno.imp id fun h => ⟨rfl, h.resolve_left (by omega)⟩))
  refine ⟨_, _, rfl, OpStep.pure rfl rfl (pureOp_assign rfl), ?_⟩
  rintro _ _ ⟨rfl, rfl⟩ -
  refine AWp.forget ?_ (sub_put (i := 0) rfl (sub_put (i := 4) rfl (sub_put (i := 6) rfl (sub_put (i := 9) rfl (sub_put (i := 12) rfl (sub_put (i := 90) rfl (sub_nil)))))))
  refine AWp.ret ?_
  exact ⟨_, [], _, permNone, res_tmp rfl rfl, rfl, rfl⟩

end Go.Proofs.Ytbhjaoedlggbbaa.Sep
