/- The walks of the reference 36 for Get, of a ring's small functions. -/
import Derived.Test.YtpnipajadjeifaaRing1
import Derived.Test.YtpnipajadjeifaaDisk2
import Derived.Test.YtpnipajadjeifaaRingB
import Derived.Test.YtpnipajadjeifaaProg
namespace Go.Proofs.Ytpnipajadjeifaa.Sep
open Go Go.RowKit
set_option linter.unusedVariables false
set_option linter.unusedSimpArgs false
theorem fa144_4 : FieldAt Try.prog 144 4 4 := by
  intro b o w
  simp [Instr.fieldAt, Try.runUnderlying144, fieldPlace, Instr.sureAddr, Try.sizeOf3, add_mk]
theorem fa144_3 : FieldAt Try.prog 144 3 3 := by
  intro b o w
  simp [Instr.fieldAt, Try.runUnderlying144, fieldPlace, Instr.sureAddr, Try.sizeOf3, add_mk]
theorem fa144_1 : FieldAt Try.prog 144 1 1 := by
  intro b o w
  simp [Instr.fieldAt, Try.runUnderlying144, fieldPlace, Instr.sureAddr, Try.sizeOf3, add_mk]
theorem fa144_2 : FieldAt Try.prog 144 2 2 := by
  intro b o w
  simp [Instr.fieldAt, Try.runUnderlying144, fieldPlace, Instr.sureAddr, Try.sizeOf3, add_mk]


set_option maxRecDepth 20000 in
set_option maxHeartbeats 4000000 in
theorem rget36_c (x : List UInt8) (m : Mem) (hx : x.length = 256) :
    Ctr Try.prog 32 [.agg (x.map bV).toArray] m [] (fun _ r L => ∃ (k : Nat) (v : Value) (b : List UInt8), r = .tuple #[iV k, v, .bool (decide (goodR x))] ∧ slOk v 1 (b.map bV) ∧ (goodR x → k = gN x 4 8 ∧ b = rB x) ∧ L = [.sl v 1 (b.map bV)]) := by
  refine Ctr.intro Try.func32 rfl Try.ntmps32 (by simp) fun w0 => ?_
  refine AWp.forget ?_ (sub_put (i := 0) rfl (sub_nil))
  refine AWp.seq ?_
  refine AWp.region ?_
  refine OpsW.alloc rfl rfl (allocOp_boxAgg rfl) ?_
  rintro _ _ ⟨b1, rfl, rfl⟩
  refine OpsW.pure rfl rfl (pureOp_assign rfl) ?_
  refine OpsW.pure rfl rfl (pureOp_assign rfl) ?_
  refine OpsW.pure rfl rfl (pureOp_assign rfl) ?_
  refine OpsW.nil ?_
  refine AWp.forget ?_ (sub_put (i := 0) rfl (sub_put (i := 1) rfl (sub_put (i := 2) rfl (sub_put (i := 3) rfl (sub_put (i := 4) rfl (sub_nil))))))
  refine AWp.seq ?_
  refine AWp.region ?_
  refine OpsW.pure rfl rfl (pureOp_assign rfl) ?_
  refine OpsW.nil ?_
  refine AWp.forget ?_ (sub_put (i := 0) rfl (sub_put (i := 1) rfl (sub_put (i := 2) rfl (sub_put (i := 3) rfl (sub_put (i := 4) rfl (sub_put (i := 5) rfl (sub_nil)))))))
  refine AWp.seq ?_
  refine AWp.seq ?_
  refine AWp.nilChunk 1 ?_
  refine AWp.region ?_
  refine OpsW.pure rfl rfl (pureOp_assign rfl) ?_
  refine OpsW.nil ?_
  refine AWp.forget ?_ (sub_put (i := 0) rfl (sub_put (i := 1) rfl (sub_put (i := 2) rfl (sub_put (i := 3) rfl (sub_put (i := 4) rfl (sub_put (i := 5) rfl (sub_put (i := 6) rfl (sub_nil))))))))
  refine AWp.block ?_
  refine AWp.forget ?_ (sub_put (i := 1) rfl (sub_put (i := 5) rfl (sub_put (i := 6) rfl (sub_nil))))
  refine AWp.keep (L' := [.sl (.slice none 0 0) 1 _, .obj b1 _]) (by repeat (first | exact Sel.nil | (apply Sel.cons; (repeat (first | exact Ext.here | apply Ext.there))))) ?_
  refine AWp.loop (fun N m' T' L' => ∃ (k : Nat) (vv : Value), N = 256 - k ∧ k ≤ 256 ∧ slOk vv 1 ((x.take k).map bV) ∧ m' = m ∧ T' = put (put (put (tnil) 6 (iV k)) 5 (vv)) 1 (.pointer (some ⟨b1, 0, none⟩)) ∧ L' = [.sl vv 1 ((x.take k).map bV), .obj b1 (x.map bV)]) _ (⟨0, .slice none 0 0, rfl, Nat.zero_le _, .inl ⟨rfl, rfl⟩, rfl, rfl, rfl⟩) ?_
  rintro _ m _ _ ⟨k, vv, rfl, hk, hvv, rfl, rfl, rfl⟩
  refine AWp.seq ?_
  refine AWp.seq ?_
  refine AWp.region ?_
  refine OpsW.pure rfl rfl (pureOp_move rfl) ?_
  refine OpsW.pure rfl rfl (opN_lss (b := 256) rfl rfl) ?_
  refine OpsW.nil ?_
  refine AWp.forget ?_ (sub_put (i := 1) rfl (sub_put (i := 5) rfl (sub_put (i := 6) rfl (sub_put (i := 12) rfl (sub_nil)))))
  refine AWp.condP rfl (fun ht12 => ?_) (fun ht12 => ?_)
  refine AWp.skip ?_
  refine AWp.seq ?_
  refine AWp.block ?_
  refine AWp.region ?_
  refine OpsW.pure rfl rfl (pureOp_move rfl) ?_
  refine OpsW.pure rfl rfl (pureOp_move rfl) ?_
  refine OpsW.pure rfl rfl (opN_indexArr0 arr24 rfl rfl (by omega)) ?_
  refine OpsW.load rfl rfl (loadOp_obj (u := bV (x.getD k 0)) sc5 rfl (by repeat (first | exact List.Mem.head _ | apply List.Mem.tail)) (get_map (by omega))) ?_
  refine OpsW.alloc rfl rfl (allocOp_buildSlice slt46 rfl rfl (by first | exact cells_rfl rfl | simp [Value.cells]) (by decide)) ?_
  rintro v19 _ ⟨hv19, hn19, rfl⟩
  rw [flat_b1] at hv19 ⊢
  refine OpsW.upd rfl rfl (by repeat (first | exact Pos.here | apply Pos.there)) (lop_append (k := _) slt46 ni46 rfl rfl (Nat.mul_one _).symm (src_rd (n := _) (by first | exact Rd.ro (by assumption) | exact Rd.of_sl (by repeat (first | exact List.Mem.head _ | apply List.Mem.tail)) (by assumption)) (Nat.mul_one _).symm (by decide)) (by simp; omega) (by first | exact one_map (fun _ => rfl) _ | exact one_rfl rfl | exact one_sup _ | (simp [one, *]; done)) (by decide) (by decide)) ?_
  rintro v20 _ ⟨hv20, rfl⟩
  rw [← List.map_append, take_nextR (show k < x.length by omega)] at hv20 ⊢
  refine OpsW.pure rfl rfl (pureOp_assign rfl) ?_
  refine OpsW.nil ?_
  refine AWp.forget ?_ (sub_put (i := 1) rfl (sub_put (i := 5) rfl (sub_put (i := 6) rfl (sub_put (i := 12) rfl (sub_nil)))))
  refine AWp.region ?_
  refine OpsW.pure rfl rfl (pureOp_move rfl) ?_
  refine OpsW.pure rfl rfl (opN_add (b := 1) rfl rfl (by omega)) ?_
  refine OpsW.pure rfl rfl (pureOp_assign rfl) ?_
  refine OpsW.forget ?_ (sub_put (i := 1) rfl (sub_put (i := 5) rfl (sub_put (i := 6) rfl (sub_nil))))
  refine OpsW.keep (L' := [.sl v20 1 _, .obj b1 _]) (by repeat (first | exact Sel.nil | (apply Sel.cons; (repeat (first | exact Ext.here | apply Ext.there))))) ?_
  refine OpsW.nil ?_
  exact ⟨_, by omega, k + 1, v20, rfl, by omega, hv20, rfl, rfl, rfl⟩
  obtain rfl : k = 256 := by omega
  rw [List.take_of_length_le (by omega)] at hvv ⊢
  refine AWp.exit (exit_here ?_)
  refine AWp.seq ?_
  refine AWp.region ?_
  refine OpsW.pure rfl rfl (pureOp_move rfl) ?_
  refine OpsW.pure rfl rfl (pureOp_slice (n := 256) (4) (12) Try.underlying46 Try.sizeOf5 rfl (by assumption) (by rw [List.length_map, hx]) (by decide) (.inr ⟨_, _, _, rfl, rfl, rfl⟩) (.inr ⟨_, _, _, rfl, rfl, rfl⟩) (by omega) (by omega)) ?_
  refine OpsW.callA rfl rfl (callOp Try.call79 rfl) permNone (get01_c _ ((x.drop 4).take 8) _ (slc_at 4 12 (Rd.of_sl (by repeat (first | exact List.Mem.head _ | apply List.Mem.tail)) hvv) (by decide) (by omega) rfl)) ?_
  rintro _ _ ⟨rfl, rfl⟩
  refine OpsW.pure rfl rfl (pureOp_assign rfl) ?_
  refine OpsW.nil ?_
  refine AWp.forget ?_ (sub_put (i := 1) rfl (sub_put (i := 5) rfl (sub_put (i := 6) rfl (sub_put (i := 7) rfl (sub_put (i := 12) rfl (sub_nil))))))
  refine AWp.seq ?_
  have hb12 := (x.getD 12 0).toNat_lt
  refine AWp.region ?_
  refine OpsW.pure rfl rfl (pureOp_move rfl) ?_
  refine OpsW.pure rfl rfl (opN_indexSl1 (i := 12) Try.underlying46 Try.sizeOf5 rfl (by assumption) rfl (by simp; omega)) ?_
  refine OpsW.load rfl rfl (loadOp_elem (u := bV (x.getD 12 0)) sc5 rfl (by first | exact Rd.ro (by assumption) | exact Rd.of_sl (by repeat (first | exact List.Mem.head _ | apply List.Mem.tail)) (by assumption)) (get_map (by omega))) ?_
  refine OpsW.pure rfl rfl (op_conv8_I Try.underlying5 Try.underlying3 rfl) ?_
  rw [show (x.getD 12 0).toNat = rLen x from rfl]
  refine OpsW.pure rfl rfl (pureOp_assign rfl) ?_
  refine OpsW.nil ?_
  refine AWp.forget ?_ (sub_put (i := 1) rfl (sub_put (i := 5) rfl (sub_put (i := 6) rfl (sub_put (i := 7) rfl (sub_put (i := 8) rfl (sub_put (i := 12) rfl (sub_nil)))))))
  refine AWp.seq ?_
  refine AWp.seq ?_
  refine AWp.joinW (fun m' T' L' => ∃ bb : Bool, (bb = true ↔ ¬ (gN x 4 8 ≤ 1099511627776 ∧ rLen x ≤ 224)) ∧ m' = m ∧ T' = put (put (put (put (put (tnil) 33 (.bool bb)) 8 (iV (rLen x))) 7 (qV (getL ((x.drop 4).take 8)))) 5 (vv)) 1 (.pointer (some ⟨b1, 0, none⟩)) ∧ L' = [.sl vv 1 (x.map bV), .obj b1 (x.map bV)]) ?_ ?_
  · skip
    refine AWp.region ?_
    refine OpsW.pure rfl rfl (pureOp_move rfl) ?_
    refine OpsW.pure rfl rfl (op64_gtr (b := 1099511627776) rfl rfl) ?_
    refine OpsW.splitP (d := 29) rfl (fun h29 => ?_) (fun h29 => ?_)
    · skip
      refine OpsW.pure rfl rfl (pureOp_move rfl) ?_
      refine OpsW.skipG rfl rfl ?_
      refine OpsW.skipG rfl rfl ?_
      refine OpsW.pure rfl rfl (pureOp_pick_true rfl rfl) ?_
      refine OpsW.nil ?_
      refine ⟨_, [.sl vv 1 _, .obj b1 _], _, sub_put (i := 1) rfl (sub_put (i := 5) rfl (sub_put (i := 7) rfl (sub_put (i := 8) rfl (sub_put (i := 33) rfl (sub_nil))))), Sel.perm (by repeat (first | exact Sel.nil | (apply Sel.cons; (repeat (first | exact Ext.here | apply Ext.there))))), ?_⟩
      exact ⟨_, (by first | exact ⟨fun _ h => absurd h29 (Nat.not_lt.2 h.1), fun _ => rfl⟩ | exact ⟨fun h k => absurd (of_decide_eq_true h) (Nat.not_lt.2 k.2), fun h => decide_eq_true (Nat.lt_of_not_le fun k => h ⟨Nat.le_of_not_lt h29, k⟩)⟩), rfl, rfl, rfl⟩
    · skip
      refine OpsW.pure rfl rfl (pureOp_move rfl) ?_
      refine OpsW.pure rfl rfl (pureOp_move rfl) ?_
      refine OpsW.pure rfl rfl (opN_gtr (b := 224) rfl rfl) ?_
      refine OpsW.pure rfl rfl (pureOp_pick_false rfl rfl) ?_
      refine OpsW.nil ?_
      refine ⟨_, [.sl vv 1 _, .obj b1 _], _, sub_put (i := 1) rfl (sub_put (i := 5) rfl (sub_put (i := 7) rfl (sub_put (i := 8) rfl (sub_put (i := 33) rfl (sub_nil))))), Sel.perm (by repeat (first | exact Sel.nil | (apply Sel.cons; (repeat (first | exact Ext.here | apply Ext.there))))), ?_⟩
      exact ⟨_, (by first | exact ⟨fun _ h => absurd h29 (Nat.not_lt.2 h.1), fun _ => rfl⟩ | exact ⟨fun h k => absurd (of_decide_eq_true h) (Nat.not_lt.2 k.2), fun h => decide_eq_true (Nat.lt_of_not_le fun k => h ⟨Nat.le_of_not_lt h29, k⟩)⟩), rfl, rfl, rfl⟩
  rintro m _ _ ⟨bb, hbb, rfl, rfl, rfl⟩
  refine AWp.cond rfl (fun ht33 => ?_) (fun ht33 => ?_)
  · skip
    refine AWp.seq ?_
    have hng : ¬ goodR x := fun h => hbb.1 ht33 h.1.2
    refine AWp.nilChunk 1 ?_
    refine AWp.region ?_
    refine OpsW.pure rfl rfl (pureOp_assign rfl) ?_
    refine OpsW.pure rfl rfl (pureOp_assign rfl) ?_
    refine OpsW.pure rfl rfl (pureOp_assign rfl) ?_
    refine OpsW.nil ?_
    refine AWp.forget ?_ (sub_put (i := 1) rfl (sub_put (i := 2) rfl (sub_put (i := 3) rfl (sub_put (i := 4) rfl (sub_put (i := 5) rfl (sub_put (i := 7) rfl (sub_put (i := 8) rfl (sub_put (i := 33) rfl (sub_nil)))))))))
    refine AWp.ret ?_
    exact ⟨_, [.sl (.slice none 0 0) 1 _], _, Sel.perm (by repeat (first | exact Sel.nil | (apply Sel.cons; (repeat (first | exact Ext.here | apply Ext.there))))), res_tmp3 rfl rfl rfl rfl, 0, _, [], by rw [decide_eq_false hng]; rfl, .inl ⟨rfl, rfl⟩, fun h => absurd h hng, rfl⟩
  refine AWp.skip ?_
  refine AWp.seq ?_
  have hok : gN x 4 8 ≤ 1099511627776 ∧ rLen x ≤ 224 := Decidable.byContradiction fun h => by rw [hbb.2 h] at ht33; cases ht33
  have hk := hok.2
  have hrl := rB_length hx hk
  have hrb : (x.drop 13).take (13 + rLen x - 13) = rB x := by rw [Nat.add_sub_cancel_left]; rfl
  refine AWp.region ?_
  refine OpsW.pure rfl rfl (pureOp_move rfl) ?_
  refine OpsW.pure rfl rfl (op_conv64_I Try.underlying122 Try.underlying3 rfl (Nat.lt_of_le_of_lt hok.1 (by decide))) ?_
  refine OpsW.pure rfl rfl (pureOp_move rfl) ?_
  refine OpsW.pure rfl rfl (pureOp_move rfl) ?_
  refine OpsW.pure rfl rfl (opN_add (a := 13) rfl rfl (by omega)) ?_
  refine OpsW.pure rfl rfl (pureOp_slice (n := 256) (13) (13 + rLen x) Try.underlying46 Try.sizeOf5 rfl (by assumption) (by rw [List.length_map, hx]) (by decide) (.inr ⟨_, _, _, rfl, rfl, rfl⟩) (.inr ⟨_, _, _, rfl, rfl, rfl⟩) (by omega) (by omega)) ?_
  refine OpsW.callA rfl rfl (callOp Try.call30 rfl) permNone (rput36_c (gN x 4 8 : Nat) _ (rB x) _ (slc_at 13 (13 + rLen x) (Rd.of_sl (by repeat (first | exact List.Mem.head _ | apply List.Mem.tail)) hvv) (by omega) (by omega) hrb) (by omega)) ?_
  rintro _ _ ⟨rfl, rfl⟩
  rw [putR_ok (by omega) (by omega)]
  dsimp only
  have hscl := secF_length (b := ringB (gN x 4 8) (rB x)) (by rw [ringB_length]; omega)
  refine OpsW.pure rfl rfl (pureOp_move rfl) ?_
  refine OpsW.pure rfl rfl (pureOp_extract rfl rfl) ?_
  refine OpsW.pure rfl rfl (pureOp_extract rfl rfl) ?_
  refine OpsW.alloc rfl rfl (allocOp_alloc zt24) ?_
  rintro _ _ ⟨b9, rfl, rfl⟩
  refine OpsW.upd rfl rfl (by repeat (first | exact Pos.here | apply Pos.there)) (lop_storeAllN 256 Try.sizeOf24 rfl rfl (by first | rfl | assumption | (rw [List.length_map]; assumption) | (simp [*]; done) | (simp [*]; omega) | omega) (by first | rfl | assumption | (rw [List.length_map]; assumption) | (simp [*]; done) | (simp [*]; omega) | omega) (by first | exact one_map (fun _ => rfl) _ | exact one_rfl rfl | exact one_sup _ | (simp [one, *]; done))) ?_
  rintro _ _ ⟨rfl, rfl⟩
  refine OpsW.pure rfl rfl (pureOp_assign rfl) ?_
  refine OpsW.nil ?_
  refine AWp.forget ?_ (sub_put (i := 1) rfl (sub_put (i := 5) rfl (sub_put (i := 7) rfl (sub_put (i := 8) rfl (sub_put (i := 9) rfl (sub_put (i := 33) rfl (sub_nil)))))))
  refine AWp.seq ?_
  refine AWp.seq ?_
  refine AWp.region ?_
  refine OpsW.load rfl rfl (loadAll rfl (by repeat (first | exact List.Mem.head _ | apply List.Mem.tail)) (by simp [hscl]) ag24) ?_
  refine OpsW.load rfl rfl (loadAll rfl (by repeat (first | exact List.Mem.head _ | apply List.Mem.tail)) (by rw [List.length_map, hx]) ag24) ?_
  refine OpsW.pure rfl rfl (opB_neq by24 dpth rfl rfl hscl hx) ?_
  refine OpsW.nil ?_
  refine AWp.forget ?_ (sub_put (i := 1) rfl (sub_put (i := 5) rfl (sub_put (i := 7) rfl (sub_put (i := 8) rfl (sub_put (i := 9) rfl (sub_put (i := 33) rfl (sub_put (i := 46) rfl (sub_nil))))))))
  refine AWp.condP rfl (fun ht46 => ?_) (fun ht46 => ?_)
  · skip
    refine AWp.seq ?_
    have hng : ¬ goodR x := fun h => ht46 ((goodR_iff hx).1 h).2
    refine AWp.nilChunk 1 ?_
    refine AWp.region ?_
    refine OpsW.pure rfl rfl (pureOp_assign rfl) ?_
    refine OpsW.pure rfl rfl (pureOp_assign rfl) ?_
    refine OpsW.pure rfl rfl (pureOp_assign rfl) ?_
    refine OpsW.nil ?_
    refine AWp.forget ?_ (sub_put (i := 1) rfl (sub_put (i := 2) rfl (sub_put (i := 3) rfl (sub_put (i := 4) rfl (sub_put (i := 5) rfl (sub_put (i := 7) rfl (sub_put (i := 8) rfl (sub_put (i := 9) rfl (sub_put (i := 33) rfl (sub_put (i := 46) rfl (sub_nil)))))))))))
    refine AWp.ret ?_
    exact ⟨_, [.sl (.slice none 0 0) 1 _], _, Sel.perm (by repeat (first | exact Sel.nil | (apply Sel.cons; (repeat (first | exact Ext.here | apply Ext.there))))), res_tmp3 rfl rfl rfl rfl, 0, _, [], by rw [decide_eq_false hng]; rfl, .inl ⟨rfl, rfl⟩, fun h => absurd h hng, rfl⟩
  refine AWp.skip ?_
  refine AWp.seq ?_
  have hgd : goodR x := (goodR_iff hx).2 ⟨hok, Decidable.of_not_not ht46⟩
  refine AWp.retell (.sl (slc vv 13 (13 + rLen x) 1) 1 ((rB x).map bV)) (by repeat (first | exact Pos.here | apply Pos.there)) (fun w h => cut_bytes 13 (13 + rLen x) (by omega) (by omega) hrb h) (fun k h => has_cut hvv (by simp; omega) h) ?_
  have hcut := cut_ok 13 (13 + rLen x) hvv (by omega) (by omega) hrb
  refine AWp.draw [(0, .pure), (1, .pure), (2, .pure), (3, .pure), (4, .pure), (5, .pure), (6, .pure), (7, .pure), (8, .pure)] rfl (by decide +kernel) (fun _ _ _ p h => AWp.perm h p.symm) ?_
  refine ⟨_, _, rfl, OpStep.pure rfl rfl (pureOp_move rfl), ?_⟩
  rintro _ _ ⟨rfl, rfl⟩ -
  refine ⟨_, _, rfl, OpStep.pure rfl rfl (op_conv64_I Try.underlying122 Try.underlying3 rfl (Nat.lt_of_le_of_lt hok.1 (by decide))), ?_⟩
  rintro _ _ ⟨rfl, rfl⟩ -
  refine ⟨_, _, rfl, OpStep.pure rfl rfl (pureOp_move rfl), ?_⟩
  rintro _ _ ⟨rfl, rfl⟩ -
  refine ⟨_, _, rfl, OpStep.pure rfl rfl (pureOp_move rfl), ?_⟩
  rintro _ _ ⟨rfl, rfl⟩ -
  refine ⟨_, _, rfl, OpStep.pure rfl rfl (opN_add (a := 13) rfl rfl (by omega)), ?_⟩
  rintro _ _ ⟨rfl, rfl⟩ -
  refine ⟨_, _, rfl, OpStep.pure rfl rfl (pureOp_slice (n := 256) (13) (13 + rLen x) Try.underlying46 Try.sizeOf5 rfl (by assumption) (by rw [List.length_map, hx]) (by decide) (.inr ⟨_, _, _, rfl, rfl, rfl⟩) (.inr ⟨_, _, _, rfl, rfl, rfl⟩) (by omega) (by omega)), ?_⟩
  rintro _ _ ⟨rfl, rfl⟩ -
  refine ⟨_, _, rfl, OpStep.pure rfl rfl (pureOp_assign rfl), ?_⟩
  rintro _ _ ⟨rfl, rfl⟩ -
  refine ⟨_, _, rfl, OpStep.pure rfl rfl (pureOp_assign rfl), ?_⟩
  rintro _ _ ⟨rfl, rfl⟩ -
  refine ⟨_, _, rfl, OpStep.pure rfl rfl (pureOp_assign rfl), ?_⟩
  rintro _ _ ⟨rfl, rfl⟩ -
  refine AWp.forget ?_ (sub_put (i := 1) rfl (sub_put (i := 2) rfl (sub_put (i := 3) rfl (sub_put (i := 4) rfl (sub_put (i := 5) rfl (sub_put (i := 7) rfl (sub_put (i := 8) rfl (sub_put (i := 9) rfl (sub_put (i := 33) rfl (sub_put (i := 46) rfl (sub_nil)))))))))))
  refine AWp.ret ?_
  exact ⟨_, [.sl (slc vv 13 (13 + rLen x) 1) 1 _], _, Sel.perm (by repeat (first | exact Sel.nil | (apply Sel.cons; (repeat (first | exact Ext.here | apply Ext.there))))), res_tmp3 rfl rfl rfl rfl, gN x 4 8, _, rB x, by rw [decide_eq_true hgd]; rfl, hcut, fun _ => ⟨rfl, rfl⟩, rfl⟩

set_option maxRecDepth 20000 in
set_option maxHeartbeats 1000000 in
theorem rnext_c (rb b fr sz tl hd : Nat) (m : Mem) (hr : RgM m rb b fr sz tl hd) :
    Ctr Try.prog 42 [.pointer (some ⟨rb, 0, none⟩)] m [] (fun _ r L => r = iV hd ∧ L = []) := by
  refine Ctr.intro Try.func42 rfl Try.ntmps42 (by simp) fun w0 => ?_
  refine AWp.forget ?_ (sub_put (i := 0) rfl (sub_nil))
  refine AWp.seq ?_
  refine AWp.region ?_
  refine OpsW.pure rfl rfl (pureOp_assign rfl) ?_
  refine OpsW.nil ?_
  refine AWp.forget ?_ (sub_put (i := 0) rfl (sub_put (i := 2) rfl (sub_nil)))
  refine AWp.seq ?_
  refine AWp.region ?_
  refine OpsW.pure rfl rfl (pureOp_move rfl) ?_
  refine OpsW.pure rfl rfl (pureOp_nilCheck rfl) ?_
  refine OpsW.pure rfl rfl (pureOp_fieldAddr fa144_4 rfl) ?_
  refine OpsW.load rfl rfl (loadOp_scal sc3 rfl (.inl hr.h)) ?_
  refine OpsW.pure rfl rfl (pureOp_assign rfl) ?_
  refine OpsW.nil ?_
  refine AWp.forget ?_ (sub_put (i := 0) rfl (sub_put (i := 2) rfl (sub_nil)))
  refine AWp.ret ?_
  exact ⟨_, [], _, permNone, res_tmp rfl rfl, rfl, rfl⟩

set_option maxRecDepth 20000 in
set_option maxHeartbeats 1000000 in
theorem rfirst_c (rb b fr sz tl hd : Nat) (m : Mem) (hr : RgM m rb b fr sz tl hd) :
    Ctr Try.prog 44 [.pointer (some ⟨rb, 0, none⟩)] m [] (fun _ r L => r = iV tl ∧ L = []) := by
  refine Ctr.intro Try.func44 rfl Try.ntmps44 (by simp) fun w0 => ?_
  refine AWp.forget ?_ (sub_put (i := 0) rfl (sub_nil))
  refine AWp.seq ?_
  refine AWp.region ?_
  refine OpsW.pure rfl rfl (pureOp_assign rfl) ?_
  refine OpsW.nil ?_
  refine AWp.forget ?_ (sub_put (i := 0) rfl (sub_put (i := 2) rfl (sub_nil)))
  refine AWp.seq ?_
  refine AWp.region ?_
  refine OpsW.pure rfl rfl (pureOp_move rfl) ?_
  refine OpsW.pure rfl rfl (pureOp_nilCheck rfl) ?_
  refine OpsW.pure rfl rfl (pureOp_fieldAddr fa144_3 rfl) ?_
  refine OpsW.load rfl rfl (loadOp_scal sc3 rfl (.inl hr.t)) ?_
  refine OpsW.pure rfl rfl (pureOp_assign rfl) ?_
  refine OpsW.nil ?_
  refine AWp.forget ?_ (sub_put (i := 0) rfl (sub_put (i := 2) rfl (sub_nil)))
  refine AWp.ret ?_
  exact ⟨_, [], _, permNone, res_tmp rfl rfl, rfl, rfl⟩

set_option maxRecDepth 20000 in
set_option maxHeartbeats 1000000 in
theorem rlen_c (rb b fr sz tl hd : Nat) (m : Mem) (hr : RgM m rb b fr sz tl hd) (hle : tl ≤ hd) (hbig : hd ≤ 4000000000000) :
    Ctr Try.prog 43 [.pointer (some ⟨rb, 0, none⟩)] m [] (fun _ r L => r = iV (hd - tl) ∧ L = []) := by
  refine Ctr.intro Try.func43 rfl Try.ntmps43 (by simp) fun w0 => ?_
  refine AWp.forget ?_ (sub_put (i := 0) rfl (sub_nil))
  refine AWp.seq ?_
  refine AWp.region ?_
  refine OpsW.pure rfl rfl (pureOp_assign rfl) ?_
  refine OpsW.nil ?_
  refine AWp.forget ?_ (sub_put (i := 0) rfl (sub_put (i := 2) rfl (sub_nil)))
  refine AWp.seq ?_
  refine AWp.draw [(0, .pure), (1, .pure), (2, .pure), (3, .ro), (4, .pure), (5, .pure), (6, .pure), (7, .ro), (8, .pure), (9, .pure)] rfl (by decide +kernel) (fun _ _ _ p h => AWp.perm h p.symm) ?_
  refine ⟨_, _, rfl, OpStep.pure rfl rfl (pureOp_move rfl), ?_⟩
  rintro _ _ ⟨rfl, rfl⟩ -
  refine ⟨_, _, rfl, OpStep.pure rfl rfl (pureOp_nilCheck rfl), ?_⟩
  rintro _ _ ⟨rfl, rfl⟩ -
  refine ⟨_, _, rfl, OpStep.pure rfl rfl (pureOp_fieldAddr fa144_4 rfl), ?_⟩
  rintro _ _ ⟨rfl, rfl⟩ -
  refine ⟨_, _, rfl, OpStep.ro rfl rfl (loadOp_scal sc3 rfl (.inl hr.h)), ?_⟩
  rintro _ _ ⟨rfl, rfl⟩ -
  refine ⟨_, _, rfl, OpStep.pure rfl rfl (pureOp_move rfl), ?_⟩
  rintro _ _ ⟨rfl, rfl⟩ -
  refine ⟨_, _, rfl, OpStep.pure rfl rfl (pureOp_nilCheck rfl), ?_⟩
  rintro _ _ ⟨rfl, rfl⟩ -
  refine ⟨_, _, rfl, OpStep.pure rfl rfl (pureOp_fieldAddr fa144_3 rfl), ?_⟩
  rintro _ _ ⟨rfl, rfl⟩ -
  refine ⟨_, _, rfl, OpStep.ro rfl rfl (loadOp_scal sc3 rfl (.inl hr.t)), ?_⟩
  rintro _ _ ⟨rfl, rfl⟩ -
  refine ⟨_, _, rfl, OpStep.pure rfl rfl (opN_sub rfl rfl (by omega)), ?_⟩
  rintro _ _ ⟨rfl, rfl⟩ -
  refine ⟨_, _, rfl, OpStep.pure rfl rfl (pureOp_assign rfl), ?_⟩
  rintro _ _ ⟨rfl, rfl⟩ -
  refine AWp.forget ?_ (sub_put (i := 0) rfl (sub_put (i := 2) rfl (sub_nil)))
  refine AWp.ret ?_
  exact ⟨_, [], _, permNone, res_tmp rfl rfl, rfl, rfl⟩

set_option maxRecDepth 20000 in
set_option maxHeartbeats 1000000 in
theorem rat_c (rb b fr sz tl hd : Nat) (n : Nat) (m : Mem) (hr : RgM m rb b fr sz tl hd) (h0 : 0 < sz) (hf : fr ≤ 1000000) (hs : sz ≤ 1000000) (hn : n < 9223372036854775808) :
    Ctr Try.prog 91 [.pointer (some ⟨rb, 0, none⟩), iV n] m [] (fun _ r L => r = iV (fr + n % sz) ∧ L = []) := by
  have hmod := Nat.mod_lt n h0
  refine Ctr.intro Try.func91 rfl Try.ntmps91 (by simp) fun w0 => ?_
  refine AWp.forget ?_ (sub_put (i := 0) rfl (sub_put (i := 1) rfl (sub_nil)))
  refine AWp.seq ?_
  refine AWp.region ?_
  refine OpsW.pure rfl rfl (pureOp_assign rfl) ?_
  refine OpsW.nil ?_
  refine AWp.forget ?_ (sub_put (i := 0) rfl (sub_put (i := 1) rfl (sub_put (i := 4) rfl (sub_nil))))
  refine AWp.seq ?_
  refine AWp.draw [(0, .pure), (1, .pure), (2, .pure), (3, .ro), (4, .pure), (5, .pure), (6, .pure), (7, .pure), (8, .ro), (9, .pure), (10, .pure), (11, .pure)] rfl (by decide +kernel) (fun _ _ _ p h => AWp.perm h p.symm) ?_
  refine ⟨_, _, rfl, OpStep.pure rfl rfl (pureOp_move rfl), ?_⟩
  rintro _ _ ⟨rfl, rfl⟩ -
  refine ⟨_, _, rfl, OpStep.pure rfl rfl (pureOp_nilCheck rfl), ?_⟩
  rintro _ _ ⟨rfl, rfl⟩ -
  refine ⟨_, _, rfl, OpStep.pure rfl rfl (pureOp_fieldAddr fa144_1 rfl), ?_⟩
  rintro _ _ ⟨rfl, rfl⟩ -
  refine ⟨_, _, rfl, OpStep.ro rfl rfl (loadOp_scal sc3 rfl (.inl hr.f)), ?_⟩
  rintro _ _ ⟨rfl, rfl⟩ -
  refine ⟨_, _, rfl, OpStep.pure rfl rfl (pureOp_move rfl), ?_⟩
  rintro _ _ ⟨rfl, rfl⟩ -
  refine ⟨_, _, rfl, OpStep.pure rfl rfl (pureOp_move rfl), ?_⟩
  rintro _ _ ⟨rfl, rfl⟩ -
  refine ⟨_, _, rfl, OpStep.pure rfl rfl (pureOp_nilCheck rfl), ?_⟩
  rintro _ _ ⟨rfl, rfl⟩ -
  refine ⟨_, _, rfl, OpStep.pure rfl rfl (pureOp_fieldAddr fa144_2 rfl), ?_⟩
  rintro _ _ ⟨rfl, rfl⟩ -
  refine ⟨_, _, rfl, OpStep.ro rfl rfl (loadOp_scal sc3 rfl (.inl hr.s)), ?_⟩
  rintro _ _ ⟨rfl, rfl⟩ -
  refine ⟨_, _, rfl, OpStep.pure rfl rfl (opN_rem rfl rfl (by omega) (by omega)), ?_⟩
  rintro _ _ ⟨rfl, rfl⟩ -
  refine ⟨_, _, rfl, OpStep.pure rfl rfl (opN_add rfl rfl (by omega)), ?_⟩
  rintro _ _ ⟨rfl, rfl⟩ -
  refine ⟨_, _, rfl, OpStep.pure rfl rfl (pureOp_assign rfl), ?_⟩
  rintro _ _ ⟨rfl, rfl⟩ -
  refine AWp.forget ?_ (sub_put (i := 0) rfl (sub_put (i := 1) rfl (sub_put (i := 4) rfl (sub_nil))))
  refine AWp.ret ?_
  exact ⟨_, [], _, permNone, res_tmp rfl rfl, rfl, rfl⟩

end Go.Proofs.Ytpnipajadjeifaa.Sep
