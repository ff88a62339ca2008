/- The walk of Prove. -/
import Derived.Test.YtbhjaoedlggbbaaTreeG
import Derived.Test.YtbhjaoedlggbbaaTree4
import Derived.Test.YtbhjaoedlggbbaaProg
namespace Go.Proofs.Ytbhjaoedlggbbaa.Sep
open Go Go.RowKit
set_option linter.unusedVariables false
set_option linter.unusedSimpArgs false
theorem zt32 : ZeroT Try.prog 32 ([.int .i64 0, .int .i64 0, .slice none 0 0]) := ⟨_, Try.zeroValue32, rfl⟩
theorem st32 : StructT Try.prog 32 [(0, 1), (1, 1), (2, 1)] ([.int .i64 0, .int .i64 0, .slice none 0 0]) := ⟨_, _, Try.runUnderlying32, Try.zeroValue32, rfl, by intro w; simp [Try.sizeOf3, Try.sizeOf30]⟩
theorem fa32_2 : FieldAt Try.prog 32 2 2 := by
  intro b o w
  simp [Instr.fieldAt, Try.runUnderlying32, fieldPlace, Instr.sureAddr, Try.sizeOf30, add_mk]
theorem sc30 : Scal Try.prog 30 := ⟨Try.isAgg30, Try.sizeOf30⟩
theorem ag32 : AggT Try.prog 32 3 := ⟨Try.isAgg32, Try.sizeOf32⟩


set_option maxRecDepth 20000 in
set_option maxHeartbeats 2000000 in
theorem prove_c (v : Value) (ls : List (List UInt8)) (vs : List Value) (k : Int) (m : Mem) (hv : Rds m v ls vs) (hbd : ∀ i, (ls.getD i []).length ≤ 549755813888) (hbl : ls.length ≤ 549755813888) :
    Ctr Try.prog 11 [v, .int .i64 k] m [] (fun _ r L => ∃ pv, r = .tuple #[.agg #[iV (proveF ls k).1, iV (proveF ls k).2.1, pv], iV (proveF ls k).2.2.2] ∧ slOk pv 32 (hC (proveF ls k).2.2.1) ∧ L = [.sl pv 32 (hC (proveF ls k).2.2.1)]) := by
  have ho := hv.rd.1
  have hrd := hv.rd
  have hvl := hv.len
  refine Ctr.intro Try.func11 rfl Try.ntmps11 (by simp) fun w0 => ?_
  refine AWp.forget ?_ (sub_put (i := 0) rfl (sub_put (i := 1) rfl (sub_nil)))
  refine AWp.seq ?_
  refine AWp.region ?_
  refine OpsW.alloc rfl rfl (allocOp_alloc zt32) ?_
  rintro _ _ ⟨b4, rfl, rfl⟩
  refine OpsW.pure rfl rfl (pureOp_assign rfl) ?_
  refine OpsW.nil ?_
  refine AWp.forget ?_ (sub_put (i := 0) rfl (sub_put (i := 1) rfl (sub_put (i := 4) rfl (sub_put (i := 5) rfl (sub_nil)))))
  refine AWp.seq ?_
  refine AWp.seq ?_
  refine AWp.region ?_
  refine OpsW.pure rfl rfl (pureOp_move rfl) ?_
  refine OpsW.callA rfl rfl (callOp Try.call10 rfl) permNone (check_c v ls vs _ hv.ro hbd hbl) ?_
  rintro _ _ ⟨rfl, rfl⟩
  refine OpsW.pure rfl rfl (pureOp_assign rfl) ?_
  refine OpsW.nil ?_
  refine AWp.forget ?_ (sub_put (i := 0) rfl (sub_put (i := 1) rfl (sub_put (i := 4) rfl (sub_put (i := 5) rfl (sub_put (i := 6) rfl (sub_nil))))))
  refine AWp.seq ?_
  refine AWp.region ?_
  refine OpsW.pure rfl rfl (pureOp_move rfl) ?_
  refine OpsW.pure rfl rfl (opN_neq (b := 0) rfl rfl) ?_
  refine OpsW.nil ?_
  refine AWp.forget ?_ (sub_put (i := 0) rfl (sub_put (i := 1) rfl (sub_put (i := 4) rfl (sub_put (i := 5) rfl (sub_put (i := 6) rfl (sub_put (i := 13) rfl (sub_nil)))))))
  refine AWp.condP rfl (fun ht13 => ?_) (fun ht13 => ?_)
  · skip
    refine AWp.seq ?_
    refine AWp.nilChunk 32 ?_
    refine AWp.region ?_
    refine OpsW.pure rfl rfl (opBuildStruct st32 rfl (.nil)) ?_
    refine OpsW.pure rfl rfl (pureOp_move rfl) ?_
    refine OpsW.upd rfl rfl (by repeat (first | exact Pos.here | apply Pos.there)) (lop_storeAllN 3 Try.sizeOf32 rfl rfl rfl rfl (one_rfl rfl)) ?_
    rintro _ _ ⟨rfl, rfl⟩
    refine OpsW.pure rfl rfl (pureOp_assign rfl) ?_
    refine OpsW.nil ?_
    refine AWp.forget ?_ (sub_put (i := 0) rfl (sub_put (i := 1) rfl (sub_put (i := 4) rfl (sub_put (i := 5) rfl (sub_put (i := 6) rfl (sub_put (i := 13) rfl (sub_nil)))))))
    refine AWp.ret ?_
    have hz : proveF ls k = (0, 0, [], checkF ls.length) := by rw [proveF, if_neg ht13]
    rw [hz]
    exact ⟨_, [.sl (.slice none 0 0) 32 []], _, Sel.perm (by repeat (first | exact Sel.nil | (apply Sel.cons; (repeat (first | exact Ext.here | apply Ext.there))))), resCellTmp rfl rfl (by repeat (first | exact List.Mem.head _ | apply List.Mem.tail)) (by rfl) ag32 rfl, _, rfl, .inl ⟨rfl, rfl⟩, rfl⟩
  refine AWp.skip ?_
  refine AWp.seq ?_
  refine AWp.seq ?_
  have hc0 : checkF ls.length = 0 := by simpa using ht13
  have hlen : ls.length ≠ 0 ∧ ls.length ≤ 1024 := by simp only [checkF] at hc0; split at hc0 <;> first | omega | (split at hc0 <;> omega)
  refine AWp.joinW (fun m' T' L' => ∃ bb : Bool, (bb = true ↔ (k < 0 ∨ (ls.length : Int) ≤ k)) ∧ m' = m ∧ T' = put (put (put (put (tnil) 23 (.bool bb)) 4 (.pointer (some ⟨b4, 0, none⟩))) 1 (.int .i64 k)) 0 (v) ∧ L' = [.obj b4 [.int .i64 0, .int .i64 0, .slice none 0 0]]) ?_ ?_
  · skip
    refine AWp.region ?_
    refine OpsW.pure rfl rfl (pureOp_move rfl) ?_
    refine OpsW.pure rfl rfl (pureOp_lss rfl rfl) ?_
    refine OpsW.pure rfl rfl (pureOp_move rfl) ?_
    refine OpsW.splitP (d := 18) rfl (fun h18 => ?_) (fun h18 => ?_)
    · skip
      refine OpsW.skipG rfl rfl ?_
      refine OpsW.skipG rfl rfl ?_
      refine OpsW.skipG rfl rfl ?_
      refine OpsW.skipG rfl rfl ?_
      refine OpsW.pure rfl rfl (pureOp_pick_true rfl rfl) ?_
      refine OpsW.nil ?_
      refine ⟨_, [.obj b4 _], _, sub_put (i := 0) rfl (sub_put (i := 1) rfl (sub_put (i := 4) rfl (sub_put (i := 23) rfl (sub_nil)))), Sel.perm (by repeat (first | exact Sel.nil | (apply Sel.cons; (repeat (first | exact Ext.here | apply Ext.there))))), ?_⟩
      exact ⟨_, by simp [h18], rfl, rfl, rfl⟩
    · skip
      refine OpsW.pure rfl rfl (pureOp_move rfl) ?_
      refine OpsW.pure rfl rfl (pureOp_move rfl) ?_
      refine OpsW.pure rfl rfl (opN_len1 ls.length Try.underlying22 rfl (by assumption) hvl) ?_
      refine OpsW.pure rfl rfl (pureOp_geq rfl rfl) ?_
      refine OpsW.pure rfl rfl (pureOp_pick_false rfl rfl) ?_
      refine OpsW.nil ?_
      refine ⟨_, [.obj b4 _], _, sub_put (i := 0) rfl (sub_put (i := 1) rfl (sub_put (i := 4) rfl (sub_put (i := 23) rfl (sub_nil)))), Sel.perm (by repeat (first | exact Sel.nil | (apply Sel.cons; (repeat (first | exact Ext.here | apply Ext.there))))), ?_⟩
      exact ⟨_, by simp [h18], rfl, rfl, rfl⟩
  rintro m _ _ ⟨bb, hbb, rfl, rfl, rfl⟩
  refine AWp.cond rfl (fun ht23 => ?_) (fun ht23 => ?_)
  · skip
    refine AWp.seq ?_
    refine AWp.nilChunk 32 ?_
    refine AWp.region ?_
    refine OpsW.pure rfl rfl (opBuildStruct st32 rfl (.nil)) ?_
    refine OpsW.upd rfl rfl (by repeat (first | exact Pos.here | apply Pos.there)) (lop_storeAllN 3 Try.sizeOf32 rfl rfl rfl rfl (one_rfl rfl)) ?_
    rintro _ _ ⟨rfl, rfl⟩
    refine OpsW.pure rfl rfl (pureOp_assign rfl) ?_
    refine OpsW.nil ?_
    refine AWp.forget ?_ (sub_put (i := 0) rfl (sub_put (i := 1) rfl (sub_put (i := 4) rfl (sub_put (i := 5) rfl (sub_put (i := 23) rfl (sub_nil))))))
    refine AWp.ret ?_
    have hz : proveF ls k = (0, 0, [], 2) := by rw [proveF, if_pos hc0, if_pos (hbb.1 ht23)]
    rw [hz]
    exact ⟨_, [.sl (.slice none 0 0) 32 []], _, Sel.perm (by repeat (first | exact Sel.nil | (apply Sel.cons; (repeat (first | exact Ext.here | apply Ext.there))))), resCellTmp rfl rfl (by repeat (first | exact List.Mem.head _ | apply List.Mem.tail)) (by rfl) ag32 rfl, _, rfl, .inl ⟨rfl, rfl⟩, rfl⟩
  refine AWp.skip ?_
  refine AWp.seq ?_
  have hkk : ¬ (k < 0 ∨ (ls.length : Int) ≤ k) := fun h => by rw [hbb.2 h] at ht23; cases ht23
  obtain ⟨q0, rfl⟩ : ∃ q : Nat, k = (q : Int) := ⟨k.toNat, by omega⟩
  refine AWp.region ?_
  refine OpsW.pure rfl rfl (pureOp_move rfl) ?_
  refine OpsW.pure rfl rfl (pureOp_move rfl) ?_
  refine OpsW.pure rfl rfl (opN_len1 ls.length Try.underlying22 rfl (by assumption) hvl) ?_
  refine OpsW.pure rfl rfl (opBuildStruct st32 rfl (.cons rfl rfl (Nat.le_of_ble_eq_true rfl) (.cons rfl rfl (Nat.le_of_ble_eq_true rfl) (.nil)))) ?_
  refine OpsW.alloc rfl rfl (allocOp_alloc zt32) ?_
  rintro _ _ ⟨b7, rfl, rfl⟩
  refine OpsW.upd rfl rfl (by repeat (first | exact Pos.here | apply Pos.there)) (lop_storeAllN 3 Try.sizeOf32 rfl rfl rfl rfl (one_rfl rfl)) ?_
  rintro _ _ ⟨rfl, rfl⟩
  refine OpsW.nil ?_
  refine AWp.forget ?_ (sub_put (i := 0) rfl (sub_put (i := 1) rfl (sub_put (i := 4) rfl (sub_put (i := 7) rfl (sub_put (i := 23) rfl (sub_nil))))))
  refine AWp.seq ?_
  refine AWp.seq ?_
  refine AWp.nilChunk 32 ?_
  refine AWp.region ?_
  refine OpsW.pure rfl rfl (pureOp_move rfl) ?_
  refine OpsW.callA rfl rfl (callOp Try.call24 rfl) permNone (leaves_c v ls vs _ hv.ro hbd hbl) ?_
  rintro v30 _ ⟨hv30, rfl⟩
  refine OpsW.pure rfl rfl (pureOp_assign rfl) ?_
  refine OpsW.nil ?_
  refine AWp.forget ?_ (sub_put (i := 0) rfl (sub_put (i := 1) rfl (sub_put (i := 4) rfl (sub_put (i := 7) rfl (sub_put (i := 8) rfl (sub_put (i := 23) rfl (sub_nil)))))))
  refine AWp.block ?_
  refine AWp.forget ?_ (sub_put (i := 1) rfl (sub_put (i := 4) rfl (sub_put (i := 7) rfl (sub_put (i := 8) rfl (sub_nil)))))
  refine AWp.keep (L' := [.obj b4 _, .obj b7 _, .sl (.slice none 0 0) 32 _, .sl v30 32 _]) (by repeat (first | exact Sel.nil | (apply Sel.cons; (repeat (first | exact Ext.here | apply Ext.there))))) ?_
  obtain ⟨P0, hP0⟩ : ∃ P0, P0 = pathF q0 (leafHs ls ls.length) := ⟨_, rfl⟩
  have hP1 : P0.length ≤ 1024 := by rw [hP0]; exact Nat.le_trans (pathF_bd (by rw [leafHs_length]; omega)) (by rw [leafHs_length]; omega)
  refine AWp.loop (fun N m' T' L' => ∃ (q : Nat) (hs acc : List (List UInt8)) (vv pv : Value), N = hs.length ∧ HsOk hs ∧ HsOk acc ∧ q < hs.length ∧ hs.length ≤ 1024 ∧ acc ++ pathF q hs = P0 ∧ slOk vv 32 (hC hs) ∧ slOk pv 32 (hC acc) ∧ m' = m ∧ T' = put (put (put (put (tnil) 8 (vv)) 7 (.pointer (some ⟨b7, 0, none⟩))) 4 (.pointer (some ⟨b4, 0, none⟩))) 1 (iV q) ∧ L' = [.obj b4 [.int .i64 0, .int .i64 0, .slice none 0 0], .obj b7 [iV q0, iV ls.length, pv], .sl pv 32 (hC acc), .sl vv 32 (hC hs)]) _ (⟨q0, leafHs ls ls.length, [], v30, .slice none 0 0, rfl, leafHs_ok _ _, HsOk.nil, by rw [leafHs_length]; omega, by rw [leafHs_length]; omega, hP0.symm, hv30, .inl ⟨rfl, rfl⟩, rfl, rfl, rfl⟩) ?_
  rintro _ m _ _ ⟨q, hs, acc, vv, pv, rfl, okh, oka, hq, hle, hP, hvv, hpv, rfl, rfl, rfl⟩
  have hacc : acc.length ≤ 1024 := by have := congrArg List.length hP; rw [List.length_append] at this; omega
  refine AWp.seq ?_
  refine AWp.seq ?_
  refine AWp.region ?_
  refine OpsW.pure rfl rfl (pureOp_move rfl) ?_
  refine OpsW.pure rfl rfl (pureOp_len (n := hs.length) Try.underlying30 rfl (by assumption) (hC_length okh) (by decide)) ?_
  refine OpsW.pure rfl rfl (opN_gtr (b := 1) rfl rfl) ?_
  refine OpsW.nil ?_
  refine AWp.forget ?_ (sub_put (i := 1) rfl (sub_put (i := 4) rfl (sub_put (i := 7) rfl (sub_put (i := 8) rfl (sub_put (i := 33) rfl (sub_nil))))))
  refine AWp.condP rfl (fun ht33 => ?_) (fun ht33 => ?_)
  refine AWp.skip ?_
  refine AWp.seq ?_
  refine AWp.block ?_
  refine AWp.seq ?_
  refine AWp.seq ?_
  refine AWp.region ?_
  refine OpsW.pure rfl rfl (pureOp_move rfl) ?_
  refine OpsW.pure rfl rfl (opN_xor (b := 1) rfl rfl (by omega) (by omega)) ?_
  refine OpsW.pure rfl rfl (pureOp_assign rfl) ?_
  refine OpsW.nil ?_
  refine AWp.forget ?_ (sub_put (i := 1) rfl (sub_put (i := 4) rfl (sub_put (i := 7) rfl (sub_put (i := 8) rfl (sub_put (i := 9) rfl (sub_put (i := 33) rfl (sub_nil)))))))
  refine AWp.seq ?_
  refine AWp.region ?_
  refine OpsW.pure rfl rfl (pureOp_move rfl) ?_
  refine OpsW.pure rfl rfl (pureOp_move rfl) ?_
  refine OpsW.pure rfl rfl (pureOp_len (n := hs.length) Try.underlying30 rfl (by assumption) (hC_length okh) (by decide)) ?_
  refine OpsW.pure rfl rfl (opN_lss rfl rfl) ?_
  refine OpsW.nil ?_
  refine AWp.forget ?_ (sub_put (i := 1) rfl (sub_put (i := 4) rfl (sub_put (i := 7) rfl (sub_put (i := 8) rfl (sub_put (i := 9) rfl (sub_put (i := 33) rfl (sub_put (i := 41) rfl (sub_nil))))))))
  refine AWp.joinW (fun m' T' L' => ∃ (acc2 : List (List UInt8)) (pv2 : Value), HsOk acc2 ∧ acc2 ++ pathF (q / 2) (upF hs) = P0 ∧ slOk pv2 32 (hC acc2) ∧ m' = m ∧ T' = put (put (put (put (tnil) 8 (vv)) 7 (.pointer (some ⟨b7, 0, none⟩))) 4 (.pointer (some ⟨b4, 0, none⟩))) 1 (iV q) ∧ L' = [.obj b4 [.int .i64 0, .int .i64 0, .slice none 0 0], .obj b7 [iV q0, iV ls.length, pv2], .sl pv2 32 (hC acc2), .sl vv 32 (hC hs)]) ?_ ?_
  · skip
    refine AWp.condP rfl (fun ht41 => ?_) (fun ht41 => ?_)
    · skip
      refine AWp.draw [(0, .pure), (1, .load), (2, .pure), (3, .pure), (4, .pure), (5, .load), (6, .alloc), (7, .wr), (8, .pure), (9, .wr)] rfl (by decide +kernel) Weak.perm ?_
      refine ⟨_, _, rfl, OpStep.pure rfl rfl (pureOp_fieldAddr fa32_2 rfl), ?_⟩
      rintro _ _ ⟨rfl, rfl⟩ -
      refine ⟨_, _, rfl, OpStep.load rfl rfl (loadOp_obj sc30 rfl (by repeat (first | exact List.Mem.head _ | apply List.Mem.tail)) rfl), ?_⟩
      rintro _ _ ⟨rfl, rfl⟩ -
      refine ⟨_, _, rfl, OpStep.pure rfl rfl (pureOp_move rfl), ?_⟩
      rintro _ _ ⟨rfl, rfl⟩ -
      refine ⟨_, _, rfl, OpStep.pure rfl rfl (pureOp_move rfl), ?_⟩
      rintro _ _ ⟨rfl, rfl⟩ -
      refine ⟨_, _, rfl, OpStep.pure rfl rfl (opN_indexSl (n := hs.length) Try.underlying30 Try.sizeOf25 rfl (by assumption) (hC_length okh) (by decide) rfl (by omega)), ?_⟩
      rintro _ _ ⟨rfl, rfl⟩ -
      refine ⟨_, _, rfl, OpStep.load rfl rfl (loadHash (hs := hs) (i := (q ^^^ 1)) ag25 rfl (by first | exact Rd.ro (by assumption) | exact Rd.of_sl (by repeat (first | exact List.Mem.head _ | apply List.Mem.tail)) (by assumption)) okh (by omega)), ?_⟩
      rintro _ _ ⟨rfl, rfl⟩ -
      refine ⟨_, _, rfl, allocStep_buildSlice rfl rfl slt30 rfl rfl (fun v hv => by rw [List.mem_singleton.1 hv]; simpa [Value.cells] using okh.getD ht41) (by decide), ?_⟩
      rintro _ _ ⟨v48, _, ⟨hv48, hn48, rfl⟩, rfl, rfl⟩ -
      rw [flat_agg] at hv48 ⊢
      refine ⟨_, _, rfl, OpStep.wr rfl rfl (toWp (by repeat (first | exact Pos.here | apply Pos.there)) (lop_append (k := acc.length) slt30 ni30 rfl rfl (hC_length oka) (src_rd (n := 1) (by first | exact Rd.ro (by assumption) | exact Rd.of_sl (by repeat (first | exact List.Mem.head _ | apply List.Mem.tail)) (by assumption)) (by simpa using okh.getD ht41) (by decide)) (by omega) (one_map (fun _ => rfl) _) (by decide) (by decide))), ?_⟩
      rintro _ _ ⟨v49, ⟨_, ⟨hv49, rfl⟩, rfl⟩, rfl⟩ -
      rw [hC_snoc] at hv49 ⊢
      refine ⟨_, _, rfl, OpStep.pure rfl rfl (pureOp_fieldAddr fa32_2 rfl), ?_⟩
      rintro _ _ ⟨rfl, rfl⟩ -
      refine ⟨_, _, rfl, OpStep.wr rfl rfl (toWp (by repeat (first | exact Pos.here | apply Pos.there)) (lop_store1 Try.sizeOf30 rfl rfl (one_sl hv49) (by simp <;> omega))), ?_⟩
      rintro _ _ ⟨_, ⟨_, ⟨rfl, rfl⟩, rfl⟩, rfl⟩ -
      refine ⟨_, [.obj b4 _, .obj b7 _, .sl v49 32 _, .sl vv 32 _], _, sub_put (i := 1) rfl (sub_put (i := 4) rfl (sub_put (i := 7) rfl (sub_put (i := 8) rfl (sub_nil)))), Sel.perm (by repeat (first | exact Sel.nil | (apply Sel.cons; (repeat (first | exact Ext.here | apply Ext.there))))), ?_⟩
      exact ⟨acc ++ [hs.getD (q ^^^ 1) []], v49, oka.snoc (okh.getD ht41), (by rw [← hP, pathF_step hq, sib, if_pos ht41, List.append_assoc]), hv49, rfl, rfl, rfl⟩
    · skip
      refine AWp.skip ?_
      refine ⟨_, [.obj b4 _, .obj b7 _, .sl pv 32 _, .sl vv 32 _], _, sub_put (i := 1) rfl (sub_put (i := 4) rfl (sub_put (i := 7) rfl (sub_put (i := 8) rfl (sub_nil)))), Sel.perm (by repeat (first | exact Sel.nil | (apply Sel.cons; (repeat (first | exact Ext.here | apply Ext.there))))), ?_⟩
      exact ⟨acc, pv, oka, (by rw [← hP, pathF_step hq, sib, if_neg ht41]; rfl), hpv, rfl, rfl, rfl⟩
  rintro m _ _ ⟨acc2, pv2, oka2, hP2, hpv2, rfl, rfl, rfl⟩
  refine AWp.region ?_
  refine OpsW.pure rfl rfl (pureOp_move rfl) ?_
  refine OpsW.pure rfl rfl (opN_quo (b := 2) rfl rfl (by omega) (by omega)) ?_
  refine OpsW.pure rfl rfl (pureOp_assign rfl) ?_
  refine OpsW.nil ?_
  refine AWp.forget ?_ (sub_put (i := 1) rfl (sub_put (i := 4) rfl (sub_put (i := 7) rfl (sub_put (i := 8) rfl (sub_nil)))))
  refine AWp.region ?_
  refine OpsW.pure rfl rfl (pureOp_move rfl) ?_
  refine OpsW.callA rfl rfl (callOp Try.call25 rfl) permNone (up_c vv hs _ (Rd.of_sl (by repeat (first | exact List.Mem.head _ | apply List.Mem.tail)) hvv) okh (by omega)) ?_
  rintro v35 _ ⟨hv35, rfl⟩
  refine OpsW.pure rfl rfl (pureOp_assign rfl) ?_
  refine OpsW.forget ?_ (sub_put (i := 1) rfl (sub_put (i := 4) rfl (sub_put (i := 7) rfl (sub_put (i := 8) rfl (sub_nil)))))
  refine OpsW.keep (L' := [.obj b4 _, .obj b7 _, .sl pv2 32 _, .sl v35 32 _]) (by repeat (first | exact Sel.nil | (apply Sel.cons; (repeat (first | exact Ext.here | apply Ext.there))))) ?_
  refine OpsW.nil ?_
  exact ⟨_, by rw [upF_length]; omega, q / 2, upF hs, acc2, v35, pv2, rfl, upF_ok okh, oka2, by rw [upF_length]; omega, by rw [upF_length]; omega, hP2, hv35, hpv2, rfl, rfl, rfl⟩
  have hacc2 : acc = P0 := by rw [← hP, pathF_one (by omega), List.append_nil]
  refine AWp.exit (exit_here ?_)
  refine AWp.seq ?_
  refine AWp.region ?_
  refine OpsW.load rfl rfl (loadAll rfl (by repeat (first | exact List.Mem.head _ | apply List.Mem.tail)) (by rfl) ag32) ?_
  refine OpsW.upd rfl rfl (by repeat (first | exact Pos.here | apply Pos.there)) (lop_storeAllN 3 Try.sizeOf32 rfl rfl rfl rfl (one3 rfl rfl (one_sl hpv))) ?_
  rintro _ _ ⟨rfl, rfl⟩
  refine OpsW.pure rfl rfl (pureOp_assign rfl) ?_
  refine OpsW.nil ?_
  refine AWp.forget ?_ (sub_put (i := 1) rfl (sub_put (i := 4) rfl (sub_put (i := 5) rfl (sub_put (i := 7) rfl (sub_put (i := 8) rfl (sub_put (i := 33) rfl (sub_nil)))))))
  refine AWp.ret ?_
  have hz : proveF ls (q0 : Int) = (q0, ls.length, acc, 0) := by rw [proveF, if_pos hc0, if_neg hkk, hacc2, hP0]; rfl
  rw [hz]
  exact ⟨_, [.sl pv 32 (hC acc)], _, Sel.perm (by repeat (first | exact Sel.nil | (apply Sel.cons; (repeat (first | exact Ext.here | apply Ext.there))))), resCellTmp rfl rfl (by repeat (first | exact List.Mem.head _ | apply List.Mem.tail)) (by rfl) ag32 rfl, _, rfl, hpv, rfl⟩

end Go.Proofs.Ytbhjaoedlggbbaa.Sep
