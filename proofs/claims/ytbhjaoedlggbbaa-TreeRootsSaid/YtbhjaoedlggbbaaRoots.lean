/- The walk of the law TreeRoots. -/
import Derived.Test.YtbhjaoedlggbbaaWorks
import Derived.Test.YtbhjaoedlggbbaaProg
namespace Go.Proofs.Ytbhjaoedlggbbaa.Sep
open Go Go.RowKit
set_option linter.unusedVariables false
set_option linter.unusedSimpArgs false



set_option maxRecDepth 20000 in
set_option maxHeartbeats 4000000 in
theorem roots_c (v : Value) (ls : List (List UInt8)) (vs : List Value) (k d : Int) (m : Mem) (hv : Rds m v ls vs) :
    Ctr Try.prog 3 [v, .int .i64 k, .int .i64 d] m [] (fun _ r L => r = .bool true ∧ L = []) := by
  have ho := hv.rd.1
  have hrd := hv.rd
  have hvl := hv.len
  obtain ⟨R, c, hR⟩ : ∃ R c, rootF ls = (R, c) := ⟨_, _, rfl⟩
  have hRl : R.length = 32 := by have := rootF_len ls; rwa [hR] at this
  have hcc : checkF ls.length = c := by have := rootF_code ls; rw [hR] at this; exact this.symm
  refine Ctr.intro Try.func3 rfl Try.ntmps3 (by simp) fun w0 => ?_
  refine AWp.forget ?_ (sub_put (i := 0) rfl (sub_put (i := 1) rfl (sub_put (i := 2) rfl (sub_nil))))
  refine AWp.seq ?_
  refine AWp.region ?_
  refine OpsW.pure rfl rfl (pureOp_assign rfl) ?_
  refine OpsW.nil ?_
  refine AWp.forget ?_ (sub_put (i := 0) rfl (sub_put (i := 1) rfl (sub_put (i := 2) rfl (sub_put (i := 6) rfl (sub_nil)))))
  refine AWp.seq ?_
  refine AWp.seq ?_
  refine AWp.region ?_
  refine OpsW.pure rfl rfl (pureOp_move rfl) ?_
  refine OpsW.callA rfl rfl (callOp Try.call6 rfl) permNone (light_c v ls vs _ hv.ro) ?_
  rintro _ _ ⟨⟨b, rfl, hb⟩, rfl⟩
  refine OpsW.pure rfl rfl (pureOp_not rfl) ?_
  refine OpsW.nil ?_
  refine AWp.forget ?_ (sub_put (i := 0) rfl (sub_put (i := 1) rfl (sub_put (i := 2) rfl (sub_put (i := 6) rfl (sub_put (i := 15) rfl (sub_nil))))))
  refine AWp.cond rfl (fun ht15 => ?_) (fun ht15 => ?_)
  · skip
    refine AWp.seq ?_
    refine AWp.region ?_
    refine OpsW.callA rfl rfl (callOp Try.call7 rfl) permNone (works_c _) ?_
    rintro _ _ ⟨rfl, rfl⟩
    refine OpsW.pure rfl rfl (pureOp_assign rfl) ?_
    refine OpsW.nil ?_
    refine AWp.forget ?_ (sub_put (i := 0) rfl (sub_put (i := 1) rfl (sub_put (i := 2) rfl (sub_put (i := 6) rfl (sub_put (i := 15) rfl (sub_nil))))))
    refine AWp.ret ?_
    exact ⟨_, [], _, permNone, res_tmp rfl rfl, rfl, rfl⟩
  refine AWp.skip ?_
  refine AWp.seq ?_
  have hli : lightP ls := hb (by simpa using ht15)
  have hlen := hli.1
  refine AWp.region ?_
  refine OpsW.pure rfl rfl (pureOp_move rfl) ?_
  refine OpsW.callA rfl rfl (callOp Try.call8 rfl) permNone (root_c v ls vs _ hv.ro (light_bd hli (by decide)) (by omega)) ?_
  rintro _ _ ⟨rfl, rfl⟩
  rw [hR]
  refine OpsW.pure rfl rfl (pureOp_move rfl) ?_
  refine OpsW.pure rfl rfl (pureOp_extract rfl rfl) ?_
  refine OpsW.pure rfl rfl (pureOp_extract rfl rfl) ?_
  refine OpsW.alloc rfl rfl (allocOp_alloc zt25) ?_
  rintro _ _ ⟨b7, rfl, rfl⟩
  refine OpsW.upd rfl rfl (by repeat (first | exact Pos.here | apply Pos.there)) (lop_storeAllN 32 Try.sizeOf25 rfl rfl (by simp) (by simp [hRl]) (by first | exact one_map (fun _ => rfl) _ | exact one_rfl rfl | simp [one])) ?_
  rintro _ _ ⟨rfl, rfl⟩
  refine OpsW.pure rfl rfl (pureOp_assign rfl) ?_
  refine OpsW.nil ?_
  refine AWp.forget ?_ (sub_put (i := 0) rfl (sub_put (i := 1) rfl (sub_put (i := 2) rfl (sub_put (i := 6) rfl (sub_put (i := 7) rfl (sub_put (i := 8) rfl (sub_put (i := 15) rfl (sub_nil))))))))
  refine AWp.seq ?_
  refine AWp.region ?_
  refine OpsW.pure rfl rfl (pureOp_move rfl) ?_
  refine OpsW.callA rfl rfl (callOp Try.call9 rfl) permNone (root31_c v ls vs _ hv.ro (light_bd hli (by decide)) (by omega)) ?_
  rintro _ _ ⟨rfl, rfl⟩
  rw [hR]
  refine OpsW.pure rfl rfl (pureOp_move rfl) ?_
  refine OpsW.pure rfl rfl (pureOp_extract rfl rfl) ?_
  refine OpsW.pure rfl rfl (pureOp_extract rfl rfl) ?_
  refine OpsW.alloc rfl rfl (allocOp_alloc zt25) ?_
  rintro _ _ ⟨b9, rfl, rfl⟩
  refine OpsW.upd rfl rfl (by repeat (first | exact Pos.here | apply Pos.there)) (lop_storeAllN 32 Try.sizeOf25 rfl rfl (by simp) (by simp [hRl]) (by first | exact one_map (fun _ => rfl) _ | exact one_rfl rfl | simp [one])) ?_
  rintro _ _ ⟨rfl, rfl⟩
  refine OpsW.pure rfl rfl (pureOp_assign rfl) ?_
  refine OpsW.nil ?_
  refine AWp.forget ?_ (sub_put (i := 0) rfl (sub_put (i := 1) rfl (sub_put (i := 2) rfl (sub_put (i := 6) rfl (sub_put (i := 7) rfl (sub_put (i := 8) rfl (sub_put (i := 9) rfl (sub_put (i := 10) rfl (sub_put (i := 15) rfl (sub_nil))))))))))
  refine AWp.seq ?_
  refine AWp.seq ?_
  refine AWp.region ?_
  refine OpsW.load rfl rfl (loadAll rfl (by repeat (first | exact List.Mem.head _ | apply List.Mem.tail)) (by simp [hRl]) ag25) ?_
  refine OpsW.load rfl rfl (loadAll rfl (by repeat (first | exact List.Mem.head _ | apply List.Mem.tail)) (by simp [hRl]) ag25) ?_
  refine OpsW.pure rfl rfl (opB_neq by25 dpth rfl rfl hRl hRl) ?_
  refine OpsW.knowB (d := 29) (b := false) (by show some (Value.bool (decide _)) = _; rw [decide_eq_false (fun h => h rfl)]) ?_
  refine OpsW.pure rfl rfl (pureOp_move rfl) ?_
  refine OpsW.pure rfl rfl (pureOp_move rfl) ?_
  refine OpsW.pure rfl rfl (pureOp_move rfl) ?_
  refine OpsW.pure rfl rfl (opN_neq rfl rfl) ?_
  refine OpsW.knowB (d := 33) (b := false) (by show some (Value.bool (decide _)) = _; rw [decide_eq_false (fun h => h rfl)]) ?_
  refine OpsW.pure rfl rfl (pureOp_pick_false rfl rfl) ?_
  refine OpsW.pure rfl rfl (pureOp_move rfl) ?_
  refine OpsW.pure rfl rfl (pureOp_move rfl) ?_
  refine OpsW.callA rfl rfl (callOp Try.call10 rfl) permNone (check_c v ls vs _ hv.ro (light_bd hli (by decide)) (by omega)) ?_
  rintro _ _ ⟨rfl, rfl⟩
  rw [hcc]
  refine OpsW.pure rfl rfl (pureOp_move rfl) ?_
  refine OpsW.pure rfl rfl (opN_neq rfl rfl) ?_
  refine OpsW.knowB (d := 39) (b := false) (by show some (Value.bool (decide _)) = _; rw [decide_eq_false (fun h => h rfl)]) ?_
  refine OpsW.pure rfl rfl (pureOp_pick_false rfl rfl) ?_
  refine OpsW.nil ?_
  refine AWp.forget ?_ (sub_put (i := 0) rfl (sub_put (i := 1) rfl (sub_put (i := 2) rfl (sub_put (i := 6) rfl (sub_put (i := 7) rfl (sub_put (i := 8) rfl (sub_put (i := 9) rfl (sub_put (i := 10) rfl (sub_put (i := 15) rfl (sub_put (i := 40) rfl (sub_nil)))))))))))
  refine AWp.cond_false rfl ?_
  refine AWp.skip ?_
  refine AWp.seq ?_
  refine AWp.region ?_
  refine OpsW.pure rfl rfl (pureOp_move rfl) ?_
  refine OpsW.pure rfl rfl (pureOp_move rfl) ?_
  refine OpsW.callA rfl rfl (callOp Try.call11 rfl) permNone (prove_c v ls vs k _ hv.ro (light_bd hli (by decide)) (by omega)) ?_
  rintro _ _ ⟨pv, rfl, hpv, rfl⟩
  obtain ⟨a1, a2, pp, code, hP⟩ : ∃ a1 a2 pp code, proveF ls k = (a1, a2, pp, code) := ⟨_, _, _, _, rfl⟩
  simp only [hP] at hpv ⊢
  refine OpsW.pure rfl rfl (pureOp_move rfl) ?_
  refine OpsW.pure rfl rfl (pureOp_extract rfl rfl) ?_
  refine OpsW.pure rfl rfl (pureOp_extract rfl rfl) ?_
  refine OpsW.alloc rfl rfl (allocOp_alloc zt32) ?_
  rintro _ _ ⟨b11, rfl, rfl⟩
  refine OpsW.upd rfl rfl (by repeat (first | exact Pos.here | apply Pos.there)) (lop_storeAllN 3 Try.sizeOf32 rfl rfl rfl rfl (one3 rfl rfl (one_sl hpv))) ?_
  rintro _ _ ⟨rfl, rfl⟩
  refine OpsW.pure rfl rfl (pureOp_assign rfl) ?_
  refine OpsW.nil ?_
  refine AWp.forget ?_ (sub_put (i := 0) rfl (sub_put (i := 1) rfl (sub_put (i := 2) rfl (sub_put (i := 6) rfl (sub_put (i := 7) rfl (sub_put (i := 8) rfl (sub_put (i := 9) rfl (sub_put (i := 10) rfl (sub_put (i := 11) rfl (sub_put (i := 12) rfl (sub_put (i := 15) rfl (sub_put (i := 40) rfl (sub_nil)))))))))))))
  refine AWp.seq ?_
  refine AWp.seq ?_
  refine AWp.joinW (fun m' T' L' => ∃ bb : Bool, (bb = true ↔ (c ≠ 0 ∨ k < 0 ∨ (ls.length : Int) ≤ k)) ∧ m' = m ∧ T' = put (put (put (put (put (put (put (tnil) 58 (.bool bb)) 12 (iV code)) 11 (.pointer (some ⟨b11, 0, none⟩))) 10 (iV c)) 2 (.int .i64 d)) 1 (.int .i64 k)) 0 (v) ∧ L' = [.obj b11 [iV a1, iV a2, pv], .sl pv 32 (hC pp)]) ?_ ?_
  · skip
    refine AWp.region ?_
    refine OpsW.pure rfl rfl (pureOp_move rfl) ?_
    refine OpsW.pure rfl rfl (opN_neq (b := 0) rfl rfl) ?_
    refine OpsW.pure rfl rfl (pureOp_move rfl) ?_
    refine OpsW.splitP (d := 49) rfl (fun h49 => ?_) (fun h49 => ?_)
    · skip
      refine OpsW.skipG rfl rfl ?_
      refine OpsW.skipG rfl rfl ?_
      refine OpsW.pure rfl rfl (pureOp_pick_true rfl rfl) ?_
      refine OpsW.pure rfl rfl (pureOp_move rfl) ?_
      refine OpsW.skipG rfl rfl ?_
      refine OpsW.skipG rfl rfl ?_
      refine OpsW.skipG rfl rfl ?_
      refine OpsW.skipG rfl rfl ?_
      refine OpsW.pure rfl rfl (pureOp_pick_true rfl rfl) ?_
      refine OpsW.nil ?_
      refine ⟨_, [.obj b11 _, .sl pv 32 _], _, sub_put (i := 0) rfl (sub_put (i := 1) rfl (sub_put (i := 2) rfl (sub_put (i := 10) rfl (sub_put (i := 11) rfl (sub_put (i := 12) rfl (sub_put (i := 58) rfl (sub_nil))))))), Sel.perm (by repeat (first | exact Sel.nil | (apply Sel.cons; (repeat (first | exact Ext.here | apply Ext.there))))), ?_⟩
      exact ⟨_, by simp [h49], rfl, rfl, rfl⟩
    · skip
      refine OpsW.pure rfl rfl (pureOp_move rfl) ?_
      refine OpsW.pure rfl rfl (pureOp_lss rfl rfl) ?_
      refine OpsW.pure rfl rfl (pureOp_pick_false rfl rfl) ?_
      refine OpsW.pure rfl rfl (pureOp_move rfl) ?_
      refine OpsW.splitP (d := 53) rfl (fun h53 => ?_) (fun h53 => ?_)
      · skip
        refine OpsW.skipG rfl rfl ?_
        refine OpsW.skipG rfl rfl ?_
        refine OpsW.skipG rfl rfl ?_
        refine OpsW.skipG rfl rfl ?_
        refine OpsW.pure rfl rfl (pureOp_pick_true rfl rfl) ?_
        refine OpsW.nil ?_
        refine ⟨_, [.obj b11 _, .sl pv 32 _], _, sub_put (i := 0) rfl (sub_put (i := 1) rfl (sub_put (i := 2) rfl (sub_put (i := 10) rfl (sub_put (i := 11) rfl (sub_put (i := 12) rfl (sub_put (i := 58) rfl (sub_nil))))))), Sel.perm (by repeat (first | exact Sel.nil | (apply Sel.cons; (repeat (first | exact Ext.here | apply Ext.there))))), ?_⟩
        exact ⟨_, by simp [h49, h53], rfl, rfl, rfl⟩
      · skip
        refine OpsW.pure rfl rfl (pureOp_move rfl) ?_
        refine OpsW.pure rfl rfl (pureOp_move rfl) ?_
        refine OpsW.pure rfl rfl (opN_len1 ls.length Try.underlying22 rfl (by assumption) hvl) ?_
        refine OpsW.pure rfl rfl (pureOp_geq rfl rfl) ?_
        refine OpsW.pure rfl rfl (pureOp_pick_false rfl rfl) ?_
        refine OpsW.nil ?_
        refine ⟨_, [.obj b11 _, .sl pv 32 _], _, sub_put (i := 0) rfl (sub_put (i := 1) rfl (sub_put (i := 2) rfl (sub_put (i := 10) rfl (sub_put (i := 11) rfl (sub_put (i := 12) rfl (sub_put (i := 58) rfl (sub_nil))))))), Sel.perm (by repeat (first | exact Sel.nil | (apply Sel.cons; (repeat (first | exact Ext.here | apply Ext.there))))), ?_⟩
        exact ⟨_, by simp [h49, h53], rfl, rfl, rfl⟩
  rintro m _ _ ⟨bb, hbb, rfl, rfl, rfl⟩
  refine AWp.cond rfl (fun ht58 => ?_) (fun ht58 => ?_)
  · skip
    refine AWp.seq ?_
    obtain ⟨code2, hP2, hA, hB⟩ := proveF_bad (ls := ls) (k := k) (by rw [hcc]; exact hbb.1 ht58)
    rw [hP] at hP2
    cases hP2
    rw [hcc] at hA hB
    refine AWp.joinW (fun m' T' L' => m' = m ∧ T' = put (tnil) 6 (.bool true) ∧ L' = []) ?_ ?_
    · skip
      refine AWp.region ?_
      refine OpsW.pure rfl rfl (pureOp_move rfl) ?_
      refine OpsW.pure rfl rfl (opN_neq (b := 0) rfl rfl) ?_
      refine OpsW.knowB (d := 60) (b := true) (by show some (Value.bool (decide _)) = _; rw [decide_eq_true (by omega)]) ?_
      refine OpsW.pure rfl rfl (pureOp_move rfl) ?_
      refine OpsW.pure rfl rfl (pureOp_move rfl) ?_
      refine OpsW.pure rfl rfl (opN_eql (b := 0) rfl rfl) ?_
      refine OpsW.pure rfl rfl (pureOp_move rfl) ?_
      refine OpsW.splitP (d := 64) rfl (fun h64 => ?_) (fun h64 => ?_)
      · skip
        refine OpsW.skipG rfl rfl ?_
        refine OpsW.skipG rfl rfl ?_
        refine OpsW.skipG rfl rfl ?_
        refine OpsW.pure rfl rfl (pureOp_pick_true rfl rfl) ?_
        refine OpsW.pure rfl rfl (pureOp_pick_true rfl rfl) ?_
        refine OpsW.pure rfl rfl (pureOp_move rfl) ?_
        refine OpsW.pure rfl rfl (pureOp_move rfl) ?_
        refine OpsW.pure rfl rfl (opN_neq (b := 0) rfl rfl) ?_
        refine OpsW.pure rfl rfl (pureOp_move rfl) ?_
        refine OpsW.splitP (d := 73) rfl (fun h73 => ?_) (fun h73 => ?_)
        · skip
          refine OpsW.skipG rfl rfl ?_
          refine OpsW.skipG rfl rfl ?_
          refine OpsW.pure rfl rfl (pureOp_pick_true rfl rfl) ?_
          refine OpsW.pure rfl rfl (pureOp_pick_true rfl rfl) ?_
          refine OpsW.pure rfl rfl (pureOp_move rfl) ?_
          refine OpsW.pure rfl rfl (pureOp_fieldAddr fa32_2 rfl) ?_
          refine OpsW.load rfl rfl (loadOp_obj sc30 rfl (by repeat (first | exact List.Mem.head _ | apply List.Mem.tail)) rfl) ?_
          refine OpsW.pure rfl rfl (pureOp_len (n := 0) Try.underlying30 rfl (by assumption) rfl (by decide)) ?_
          refine OpsW.pure rfl rfl (opN_eql (b := 0) rfl rfl) ?_
          refine OpsW.knowB (d := 82) (b := true) rfl ?_
          refine OpsW.pure rfl rfl (pureOp_pick_true rfl rfl) ?_
          refine OpsW.pure rfl rfl (pureOp_move rfl) ?_
          refine OpsW.callA rfl rfl (callOp Try.call7 rfl) permNone (works_c _) ?_
          rintro _ _ ⟨rfl, rfl⟩
          refine OpsW.knowB (d := 85) (b := true) rfl ?_
          refine OpsW.pure rfl rfl (pureOp_pick_true rfl rfl) ?_
          refine OpsW.pure rfl rfl (pureOp_assign rfl) ?_
          refine OpsW.nil ?_
          refine ⟨_, [], _, sub_put (i := 6) rfl (sub_nil), Sel.perm (by repeat (first | exact Sel.nil | (apply Sel.cons; (repeat (first | exact Ext.here | apply Ext.there))))), ?_⟩
          exact ⟨rfl, rfl, rfl⟩
        · skip
          refine OpsW.pure rfl rfl (pureOp_move rfl) ?_
          refine OpsW.pure rfl rfl (opN_eql (b := 2) rfl rfl) ?_
          refine OpsW.knowB (d := 75) (b := true) (by show some (Value.bool (decide _)) = _; rw [decide_eq_true (by omega)]) ?_
          refine OpsW.pure rfl rfl (pureOp_pick_false rfl rfl) ?_
          refine OpsW.pure rfl rfl (pureOp_pick_true rfl rfl) ?_
          refine OpsW.pure rfl rfl (pureOp_move rfl) ?_
          refine OpsW.pure rfl rfl (pureOp_fieldAddr fa32_2 rfl) ?_
          refine OpsW.load rfl rfl (loadOp_obj sc30 rfl (by repeat (first | exact List.Mem.head _ | apply List.Mem.tail)) rfl) ?_
          refine OpsW.pure rfl rfl (pureOp_len (n := 0) Try.underlying30 rfl (by assumption) rfl (by decide)) ?_
          refine OpsW.pure rfl rfl (opN_eql (b := 0) rfl rfl) ?_
          refine OpsW.knowB (d := 82) (b := true) rfl ?_
          refine OpsW.pure rfl rfl (pureOp_pick_true rfl rfl) ?_
          refine OpsW.pure rfl rfl (pureOp_move rfl) ?_
          refine OpsW.callA rfl rfl (callOp Try.call7 rfl) permNone (works_c _) ?_
          rintro _ _ ⟨rfl, rfl⟩
          refine OpsW.knowB (d := 85) (b := true) rfl ?_
          refine OpsW.pure rfl rfl (pureOp_pick_true rfl rfl) ?_
          refine OpsW.pure rfl rfl (pureOp_assign rfl) ?_
          refine OpsW.nil ?_
          refine ⟨_, [], _, sub_put (i := 6) rfl (sub_nil), Sel.perm (by repeat (first | exact Sel.nil | (apply Sel.cons; (repeat (first | exact Ext.here | apply Ext.there))))), ?_⟩
          exact ⟨rfl, rfl, rfl⟩
      · skip
        refine OpsW.pure rfl rfl (pureOp_move rfl) ?_
        refine OpsW.pure rfl rfl (pureOp_move rfl) ?_
        refine OpsW.pure rfl rfl (opN_eql rfl rfl) ?_
        refine OpsW.knowB (d := 67) (b := true) (by show some (Value.bool (decide _)) = _; rw [decide_eq_true (by omega)]) ?_
        refine OpsW.pure rfl rfl (pureOp_pick_false rfl rfl) ?_
        refine OpsW.pure rfl rfl (pureOp_pick_true rfl rfl) ?_
        refine OpsW.pure rfl rfl (pureOp_move rfl) ?_
        refine OpsW.pure rfl rfl (pureOp_move rfl) ?_
        refine OpsW.pure rfl rfl (opN_neq (b := 0) rfl rfl) ?_
        refine OpsW.pure rfl rfl (pureOp_move rfl) ?_
        refine OpsW.splitP (d := 73) rfl (fun h73_1 => ?_) (fun h73_1 => ?_)
        · skip
          refine OpsW.skipG rfl rfl ?_
          refine OpsW.skipG rfl rfl ?_
          refine OpsW.pure rfl rfl (pureOp_pick_true rfl rfl) ?_
          refine OpsW.pure rfl rfl (pureOp_pick_true rfl rfl) ?_
          refine OpsW.pure rfl rfl (pureOp_move rfl) ?_
          refine OpsW.pure rfl rfl (pureOp_fieldAddr fa32_2 rfl) ?_
          refine OpsW.load rfl rfl (loadOp_obj sc30 rfl (by repeat (first | exact List.Mem.head _ | apply List.Mem.tail)) rfl) ?_
          refine OpsW.pure rfl rfl (pureOp_len (n := 0) Try.underlying30 rfl (by assumption) rfl (by decide)) ?_
          refine OpsW.pure rfl rfl (opN_eql (b := 0) rfl rfl) ?_
          refine OpsW.knowB (d := 82) (b := true) rfl ?_
          refine OpsW.pure rfl rfl (pureOp_pick_true rfl rfl) ?_
          refine OpsW.pure rfl rfl (pureOp_move rfl) ?_
          refine OpsW.callA rfl rfl (callOp Try.call7 rfl) permNone (works_c _) ?_
          rintro _ _ ⟨rfl, rfl⟩
          refine OpsW.knowB (d := 85) (b := true) rfl ?_
          refine OpsW.pure rfl rfl (pureOp_pick_true rfl rfl) ?_
          refine OpsW.pure rfl rfl (pureOp_assign rfl) ?_
          refine OpsW.nil ?_
          refine ⟨_, [], _, sub_put (i := 6) rfl (sub_nil), Sel.perm (by repeat (first | exact Sel.nil | (apply Sel.cons; (repeat (first | exact Ext.here | apply Ext.there))))), ?_⟩
          exact ⟨rfl, rfl, rfl⟩
        · skip
          refine OpsW.pure rfl rfl (pureOp_move rfl) ?_
          refine OpsW.pure rfl rfl (opN_eql (b := 2) rfl rfl) ?_
          refine OpsW.knowB (d := 75) (b := true) (by show some (Value.bool (decide _)) = _; rw [decide_eq_true (by omega)]) ?_
          refine OpsW.pure rfl rfl (pureOp_pick_false rfl rfl) ?_
          refine OpsW.pure rfl rfl (pureOp_pick_true rfl rfl) ?_
          refine OpsW.pure rfl rfl (pureOp_move rfl) ?_
          refine OpsW.pure rfl rfl (pureOp_fieldAddr fa32_2 rfl) ?_
          refine OpsW.load rfl rfl (loadOp_obj sc30 rfl (by repeat (first | exact List.Mem.head _ | apply List.Mem.tail)) rfl) ?_
          refine OpsW.pure rfl rfl (pureOp_len (n := 0) Try.underlying30 rfl (by assumption) rfl (by decide)) ?_
          refine OpsW.pure rfl rfl (opN_eql (b := 0) rfl rfl) ?_
          refine OpsW.knowB (d := 82) (b := true) rfl ?_
          refine OpsW.pure rfl rfl (pureOp_pick_true rfl rfl) ?_
          refine OpsW.pure rfl rfl (pureOp_move rfl) ?_
          refine OpsW.callA rfl rfl (callOp Try.call7 rfl) permNone (works_c _) ?_
          rintro _ _ ⟨rfl, rfl⟩
          refine OpsW.knowB (d := 85) (b := true) rfl ?_
          refine OpsW.pure rfl rfl (pureOp_pick_true rfl rfl) ?_
          refine OpsW.pure rfl rfl (pureOp_assign rfl) ?_
          refine OpsW.nil ?_
          refine ⟨_, [], _, sub_put (i := 6) rfl (sub_nil), Sel.perm (by repeat (first | exact Sel.nil | (apply Sel.cons; (repeat (first | exact Ext.here | apply Ext.there))))), ?_⟩
          exact ⟨rfl, rfl, rfl⟩
    rintro m _ _ ⟨rfl, rfl, rfl⟩
    refine AWp.ret ?_
    exact ⟨_, [], _, permNone, res_tmp rfl rfl, rfl, rfl⟩
  refine AWp.skip ?_
  refine AWp.seq ?_
  refine AWp.seq ?_
  have hgood : ¬ (c ≠ 0 ∨ k < 0 ∨ (ls.length : Int) ≤ k) := fun h => by rw [hbb.2 h] at ht58; cases ht58
  obtain ⟨q0, rfl⟩ : ∃ q : Nat, k = (q : Int) := ⟨k.toNat, by omega⟩
  have hc0 : checkF ls.length = 0 := by omega
  rw [proveF_ok hc0 (by omega)] at hP
  cases hP
  have okp : HsOk (pathF a1 (leafHs ls ls.length)) := hsP a1 ls
  have hplen : (pathF a1 (leafHs ls ls.length)).length ≤ ls.length := by have := pathF_bd (k := a1) (hs := leafHs ls ls.length) (by rw [leafHs_length]; omega); rwa [leafHs_length] at this
  refine AWp.draw [(0, .pure), (1, .pure), (2, .pure), (3, .pure), (4, .load), (5, .pure), (6, .pure), (7, .pure), (8, .pure), (9, .pure), (10, .load), (11, .pure), (12, .pure), (13, .pure), (14, .pure), (15, .pure), (16, .pure), (17, .load), (18, .pure), (19, .pure), (20, .call), (21, .call), (22, .pure), (23, .pure), (24, .pure), (25, .pure), (26, .pure), (27, .pure), (28, .pure), (29, .load), (31, .pure), (32, .pure), (33, .pure), (34, .pure), (35, .load), (30, .call), (36, .call), (37, .call), (38, .pure), (39, .pure)] rfl (by decide +kernel) (fun _ _ _ p h => AWp.perm h p.symm) ?_
  refine ⟨_, _, rfl, OpStep.pure rfl rfl (pureOp_move rfl), ?_⟩
  rintro _ _ ⟨rfl, rfl⟩ -
  refine ⟨_, _, rfl, OpStep.pure rfl rfl (opN_neq (b := 0) rfl rfl), ?_⟩
  rintro _ _ ⟨rfl, rfl⟩ -
  refine chain_knowB (d := 88) (b := false) (by show some (Value.bool (decide _)) = _; rw [decide_eq_false (fun h => h rfl)]) ?_
  refine ⟨_, _, rfl, OpStep.pure rfl rfl (pureOp_move rfl), ?_⟩
  rintro _ _ ⟨rfl, rfl⟩ -
  refine ⟨_, _, rfl, OpStep.pure rfl rfl (pureOp_fieldAddr fa32_0 rfl), ?_⟩
  rintro _ _ ⟨rfl, rfl⟩ -
  refine ⟨_, _, rfl, OpStep.load rfl rfl (loadOp_obj sc3 rfl (by repeat (first | exact List.Mem.head _ | apply List.Mem.tail)) rfl), ?_⟩
  rintro _ _ ⟨rfl, rfl⟩ -
  refine ⟨_, _, rfl, OpStep.pure rfl rfl (pureOp_move rfl), ?_⟩
  rintro _ _ ⟨rfl, rfl⟩ -
  refine ⟨_, _, rfl, OpStep.pure rfl rfl (opN_neq rfl rfl), ?_⟩
  rintro _ _ ⟨rfl, rfl⟩ -
  refine chain_knowB (d := 93) (b := false) (by show some (Value.bool (decide _)) = _; rw [decide_eq_false (fun h => h rfl)]) ?_
  refine ⟨_, _, rfl, OpStep.pure rfl rfl (pureOp_pick_false rfl rfl), ?_⟩
  rintro _ _ ⟨rfl, rfl⟩ -
  refine ⟨_, _, rfl, OpStep.pure rfl rfl (pureOp_move rfl), ?_⟩
  rintro _ _ ⟨rfl, rfl⟩ -
  refine ⟨_, _, rfl, OpStep.pure rfl rfl (pureOp_fieldAddr fa32_1 rfl), ?_⟩
  rintro _ _ ⟨rfl, rfl⟩ -
  refine ⟨_, _, rfl, OpStep.load rfl rfl (loadOp_obj sc3 rfl (by repeat (first | exact List.Mem.head _ | apply List.Mem.tail)) rfl), ?_⟩
  rintro _ _ ⟨rfl, rfl⟩ -
  refine ⟨_, _, rfl, OpStep.pure rfl rfl (pureOp_move rfl), ?_⟩
  rintro _ _ ⟨rfl, rfl⟩ -
  refine ⟨_, _, rfl, OpStep.pure rfl rfl (opN_len1 ls.length Try.underlying22 rfl (by assumption) hvl), ?_⟩
  rintro _ _ ⟨rfl, rfl⟩ -
  refine ⟨_, _, rfl, OpStep.pure rfl rfl (opN_neq rfl rfl), ?_⟩
  rintro _ _ ⟨rfl, rfl⟩ -
  refine chain_knowB (d := 100) (b := false) (by show some (Value.bool (decide _)) = _; rw [decide_eq_false (fun h => h rfl)]) ?_
  refine ⟨_, _, rfl, OpStep.pure rfl rfl (pureOp_pick_false rfl rfl), ?_⟩
  rintro _ _ ⟨rfl, rfl⟩ -
  refine ⟨_, _, rfl, OpStep.pure rfl rfl (pureOp_move rfl), ?_⟩
  rintro _ _ ⟨rfl, rfl⟩ -
  refine ⟨_, _, rfl, OpStep.pure rfl rfl (pureOp_fieldAddr fa32_2 rfl), ?_⟩
  rintro _ _ ⟨rfl, rfl⟩ -
  refine ⟨_, _, rfl, OpStep.load rfl rfl (loadOp_obj sc30 rfl (by repeat (first | exact List.Mem.head _ | apply List.Mem.tail)) rfl), ?_⟩
  rintro _ _ ⟨rfl, rfl⟩ -
  refine ⟨_, _, rfl, OpStep.pure rfl rfl (pureOp_move rfl), ?_⟩
  rintro _ _ ⟨rfl, rfl⟩ -
  refine ⟨_, _, rfl, OpStep.pure rfl rfl (pureOp_move rfl), ?_⟩
  rintro _ _ ⟨rfl, rfl⟩ -
  refine ⟨_, _, rfl, OpStep.call rfl rfl (callOp Try.call13 rfl) (pathTop_c v ls vs a1 _ hv.ro (light_bd hli (by decide)) (by omega) (by omega)), ?_⟩
  rintro _ _ ⟨v107, _, ⟨hv107, rfl⟩, rfl, rfl⟩ -
  refine ⟨_, _, rfl, OpStep.call rfl rfl (callOp Try.call12 rfl) (same_c pv v107 _ _ _ (Rd.of_sl (by repeat (first | exact List.Mem.head _ | apply List.Mem.tail)) hpv) (Rd.of_sl (by repeat (first | exact List.Mem.head _ | apply List.Mem.tail)) hv107) okp okp (by omega)), ?_⟩
  rintro _ _ ⟨_, _, ⟨rfl, rfl⟩, rfl, rfl⟩ -
  refine chain_knowB (d := 108) (b := true) (by show some (Value.bool (decide _)) = _; rw [decide_eq_true (rfl)]) ?_
  refine ⟨_, _, rfl, OpStep.pure rfl rfl (pureOp_not rfl), ?_⟩
  rintro _ _ ⟨rfl, rfl⟩ -
  refine ⟨_, _, rfl, OpStep.pure rfl rfl (pureOp_pick_false rfl rfl), ?_⟩
  rintro _ _ ⟨rfl, rfl⟩ -
  refine ⟨_, _, rfl, OpStep.pure rfl rfl (pureOp_move rfl), ?_⟩
  rintro _ _ ⟨rfl, rfl⟩ -
  refine ⟨_, _, rfl, OpStep.pure rfl rfl (pureOp_move rfl), ?_⟩
  rintro _ _ ⟨rfl, rfl⟩ -
  refine ⟨_, _, rfl, OpStep.pure rfl rfl (pureOp_move rfl), ?_⟩
  rintro _ _ ⟨rfl, rfl⟩ -
  refine ⟨_, _, rfl, OpStep.pure rfl rfl (pureOp_move rfl), ?_⟩
  rintro _ _ ⟨rfl, rfl⟩ -
  refine ⟨_, _, rfl, OpStep.pure rfl rfl (opN_indexSl1 Try.underlying22 Try.sizeOf38 rfl (by assumption) rfl (by omega)), ?_⟩
  rintro _ _ ⟨rfl, rfl⟩ -
  refine ⟨_, _, rfl, OpStep.load rfl rfl (loadOp_elem (u := vs.getD a1 undef) sc38 rfl (by first | exact Rd.ro (by assumption) | exact Rd.of_sl (by repeat (first | exact List.Mem.head _ | apply List.Mem.tail)) (by assumption)) (get_D (by omega))), ?_⟩
  rintro _ _ ⟨rfl, rfl⟩ -
  refine ⟨_, _, rfl, OpStep.pure rfl rfl (pureOp_move rfl), ?_⟩
  rintro _ _ ⟨rfl, rfl⟩ -
  refine ⟨_, _, rfl, OpStep.pure rfl rfl (pureOp_move rfl), ?_⟩
  rintro _ _ ⟨rfl, rfl⟩ -
  refine ⟨_, _, rfl, OpStep.pure rfl rfl (pureOp_move rfl), ?_⟩
  rintro _ _ ⟨rfl, rfl⟩ -
  refine ⟨_, _, rfl, OpStep.pure rfl rfl (opN_indexSl1 Try.underlying22 Try.sizeOf38 rfl (by assumption) rfl (by omega)), ?_⟩
  rintro _ _ ⟨rfl, rfl⟩ -
  refine ⟨_, _, rfl, OpStep.load rfl rfl (loadOp_elem (u := vs.getD a1 undef) sc38 rfl (by first | exact Rd.ro (by assumption) | exact Rd.of_sl (by repeat (first | exact List.Mem.head _ | apply List.Mem.tail)) (by assumption)) (get_D (by omega))), ?_⟩
  rintro _ _ ⟨rfl, rfl⟩ -
  refine ⟨_, _, rfl, OpStep.call rfl rfl (callOp Try.call14 rfl) (leaf_c a1 _ (ls.getD a1 []) _ (by omega) (hv.part a1 (by omega)).ro (light_bd hli (by decide) a1)), ?_⟩
  rintro _ _ ⟨_, _, ⟨rfl, rfl⟩, rfl, rfl⟩ -
  refine ⟨_, _, rfl, OpStep.call rfl rfl (callOp Try.call16 rfl) (leafText_c a1 _ (ls.getD a1 []) _ (by omega) (hv.part a1 (by omega)).ro (light_bd hli (by decide) a1)), ?_⟩
  rintro _ _ ⟨v123, _, ⟨hv123, rfl⟩, rfl, rfl⟩ -
  refine ⟨_, _, rfl, OpStep.call rfl rfl (callOp Try.call15 rfl) (sum03_c v123 _ _ (Rd.of_sl (by repeat (first | exact List.Mem.head _ | apply List.Mem.tail)) hv123) (by rw [leafText_length]; have := hli.2 a1; omega)), ?_⟩
  rintro _ _ ⟨_, _, ⟨rfl, rfl⟩, rfl, rfl⟩ -
  refine ⟨_, _, rfl, OpStep.pure rfl rfl (opB_neq by25 dpth rfl rfl (shaF_length _) (shaF_length _)), ?_⟩
  rintro _ _ ⟨rfl, rfl⟩ -
  refine chain_knowB (d := 125) (b := false) (by show some (Value.bool (decide _)) = _; rw [decide_eq_false (fun h => h rfl)]) ?_
  refine ⟨_, _, rfl, OpStep.pure rfl rfl (pureOp_pick_false rfl rfl), ?_⟩
  rintro _ _ ⟨rfl, rfl⟩ -
  refine AWp.forget ?_ (sub_put (i := 0) rfl (sub_put (i := 1) rfl (sub_put (i := 2) rfl (sub_put (i := 10) rfl (sub_put (i := 11) rfl (sub_put (i := 12) rfl (sub_put (i := 58) rfl (sub_put (i := 126) rfl (sub_nil)))))))))
  refine AWp.cond_false rfl ?_
  refine AWp.skip ?_
  refine AWp.seq ?_
  refine AWp.seq ?_
  refine AWp.region ?_
  refine OpsW.pure rfl rfl (pureOp_move rfl) ?_
  refine OpsW.pure rfl rfl (pureOp_gtr rfl rfl) ?_
  refine OpsW.nil ?_
  refine AWp.forget ?_ (sub_put (i := 0) rfl (sub_put (i := 1) rfl (sub_put (i := 2) rfl (sub_put (i := 10) rfl (sub_put (i := 11) rfl (sub_put (i := 12) rfl (sub_put (i := 58) rfl (sub_put (i := 126) rfl (sub_put (i := 128) rfl (sub_nil))))))))))
  refine AWp.condP rfl (fun ht128 => ?_) (fun ht128 => ?_)
  · skip
    refine AWp.seq ?_
    refine AWp.region ?_
    refine OpsW.callA rfl rfl (callOp Try.call7 rfl) permNone (works_c _) ?_
    rintro _ _ ⟨rfl, rfl⟩
    refine OpsW.pure rfl rfl (pureOp_assign rfl) ?_
    refine OpsW.nil ?_
    refine AWp.forget ?_ (sub_put (i := 0) rfl (sub_put (i := 1) rfl (sub_put (i := 2) rfl (sub_put (i := 6) rfl (sub_put (i := 10) rfl (sub_put (i := 11) rfl (sub_put (i := 12) rfl (sub_put (i := 58) rfl (sub_put (i := 126) rfl (sub_put (i := 128) rfl (sub_nil)))))))))))
    refine AWp.ret ?_
    exact ⟨_, [], _, permNone, res_tmp rfl rfl, rfl, rfl⟩
  refine AWp.skip ?_
  refine AWp.seq ?_
  refine AWp.region ?_
  refine OpsW.pure rfl rfl (pureOp_move rfl) ?_
  refine OpsW.callA rfl rfl (callOp Try.call17 rfl) permNone (depth_c d _ (by omega)) ?_
  rintro _ _ ⟨⟨d1, rfl, hd1⟩, rfl⟩
  refine OpsW.pure rfl rfl (pureOp_move rfl) ?_
  refine OpsW.callA rfl rfl (callOp Try.call18 rfl) permNone (rows_c d _ (by omega)) ?_
  rintro _ _ ⟨⟨d2, rfl, hd2⟩, rfl⟩
  obtain rfl := IsLog.uniq hd1 hd2
  refine OpsW.pure rfl rfl (opN_eql rfl rfl) ?_
  refine OpsW.knowB (d := 134) (b := true) (by show some (Value.bool (decide _)) = _; rw [decide_eq_true (rfl)]) ?_
  refine OpsW.pure rfl rfl (pureOp_move rfl) ?_
  refine OpsW.callA rfl rfl (callOp Try.call7 rfl) permNone (works_c _) ?_
  rintro _ _ ⟨rfl, rfl⟩
  refine OpsW.knowB (d := 136) (b := true) rfl ?_
  refine OpsW.pure rfl rfl (pureOp_pick_true rfl rfl) ?_
  refine OpsW.pure rfl rfl (pureOp_assign rfl) ?_
  refine OpsW.nil ?_
  refine AWp.forget ?_ (sub_put (i := 0) rfl (sub_put (i := 1) rfl (sub_put (i := 2) rfl (sub_put (i := 6) rfl (sub_put (i := 10) rfl (sub_put (i := 11) rfl (sub_put (i := 12) rfl (sub_put (i := 58) rfl (sub_put (i := 126) rfl (sub_put (i := 128) rfl (sub_nil)))))))))))
  refine AWp.ret ?_
  exact ⟨_, [], _, permNone, res_tmp rfl rfl, rfl, rfl⟩

end Go.Proofs.Ytbhjaoedlggbbaa.Sep
