/- The walk of RingSectors. -/
import Derived.Test.YtpnipajadjeifaaRing8
import Derived.Test.YtpnipajadjeifaaProg
namespace Go.Proofs.Ytpnipajadjeifaa.Sep
open Go Go.RowKit
set_option linter.unusedVariables false
set_option linter.unusedSimpArgs false



set_option maxRecDepth 20000 in
set_option maxHeartbeats 4000000 in
theorem rsectors_c (n : Int) (bv : Value) (b x : List UInt8) (m : Mem) (hb : Rd m bv 1 (b.map bV)) (hx : x.length = 256) :
    Ctr Try.prog 6 [.int .i64 n, bv, .agg (x.map bV).toArray] m [] (fun _ r L => r = .bool true ∧ L = []) := by
  have hmx : (x.map bV).length = 256 := by rw [List.length_map]; exact hx
  have ho := hb.1
  refine Ctr.intro Try.func6 rfl Try.ntmps6 (by simp) fun w0 => ?_
  refine AWp.forget ?_ (sub_put (i := 0) rfl (sub_put (i := 1) rfl (sub_put (i := 2) rfl (sub_nil))))
  refine AWp.seq ?_
  refine AWp.region ?_
  refine OpsW.alloc rfl rfl (allocOp_boxAgg rfl) ?_
  rintro _ _ ⟨b5, rfl, rfl⟩
  refine OpsW.pure rfl rfl (pureOp_assign rfl) ?_
  refine OpsW.nil ?_
  refine AWp.forget ?_ (sub_put (i := 0) rfl (sub_put (i := 1) rfl (sub_put (i := 2) rfl (sub_put (i := 5) rfl (sub_put (i := 6) rfl (sub_nil))))))
  refine AWp.seq ?_
  refine AWp.seq ?_
  refine AWp.region ?_
  refine OpsW.pure rfl rfl (pureOp_move rfl) ?_
  refine OpsW.pure rfl rfl (opN_len1 b.length Try.underlying46 rfl (by assumption) (List.length_map ..)) ?_
  refine OpsW.pure rfl rfl (opN_gtr (b := 400) rfl rfl) ?_
  refine OpsW.nil ?_
  refine AWp.forget ?_ (sub_put (i := 0) rfl (sub_put (i := 1) rfl (sub_put (i := 2) rfl (sub_put (i := 5) rfl (sub_put (i := 6) rfl (sub_put (i := 19) rfl (sub_nil)))))))
  refine AWp.condP rfl (fun ht19 => ?_) (fun ht19 => ?_)
  · skip
    refine AWp.seq ?_
    refine AWp.region ?_
    refine OpsW.callA rfl rfl (callOp Try.call28 rfl) permNone (works36_c _) ?_
    rintro _ _ ⟨rfl, rfl⟩
    refine OpsW.pure rfl rfl (pureOp_assign rfl) ?_
    refine OpsW.nil ?_
    refine AWp.forget ?_ (sub_put (i := 0) rfl (sub_put (i := 1) rfl (sub_put (i := 2) rfl (sub_put (i := 5) rfl (sub_put (i := 6) rfl (sub_put (i := 19) rfl (sub_nil)))))))
    refine AWp.ret ?_
    exact ⟨_, [], _, permNone, res_tmp rfl rfl, rfl, rfl⟩
  refine AWp.skip ?_
  refine AWp.seq ?_
  refine AWp.region ?_
  refine OpsW.pure rfl rfl (pureOp_move rfl) ?_
  refine OpsW.pure rfl rfl (pureOp_move rfl) ?_
  refine OpsW.callA rfl rfl (callOp Try.call29 rfl) permNone (rput_c n bv b _ hb.ro (by omega)) ?_
  rintro _ _ ⟨rfl, rfl⟩
  obtain ⟨s, e, hP⟩ : ∃ s e, putR n b = (s, e) := ⟨_, _, rfl⟩
  have hsl := putR_length n b
  rw [hP] at hsl ⊢
  dsimp only at hsl ⊢
  have hsm : (s.map bV).length = 256 := by rw [List.length_map]; exact hsl
  refine OpsW.pure rfl rfl (pureOp_move rfl) ?_
  refine OpsW.pure rfl rfl (pureOp_extract rfl rfl) ?_
  refine OpsW.pure rfl rfl (pureOp_extract rfl rfl) ?_
  refine OpsW.alloc rfl rfl (allocOp_alloc zt24) ?_
  rintro _ _ ⟨b7, rfl, rfl⟩
  refine OpsW.upd rfl rfl (by repeat (first | exact Pos.here | apply Pos.there)) (lop_storeAllN 256 Try.sizeOf24 rfl rfl List.length_replicate hsm (by first | exact one_map (fun _ => rfl) _ | exact one_rfl rfl | exact one_sup _ | (simp [one, *]; done))) ?_
  rintro _ _ ⟨rfl, rfl⟩
  refine OpsW.pure rfl rfl (pureOp_assign rfl) ?_
  refine OpsW.nil ?_
  refine AWp.forget ?_ (sub_put (i := 0) rfl (sub_put (i := 1) rfl (sub_put (i := 2) rfl (sub_put (i := 5) rfl (sub_put (i := 6) rfl (sub_put (i := 7) rfl (sub_put (i := 8) rfl (sub_put (i := 19) rfl (sub_nil)))))))))
  refine AWp.seq ?_
  refine AWp.region ?_
  refine OpsW.pure rfl rfl (pureOp_move rfl) ?_
  refine OpsW.pure rfl rfl (pureOp_move rfl) ?_
  refine OpsW.callA rfl rfl (callOp Try.call30 rfl) permNone (rput36_c n bv b _ hb.ro (by omega)) ?_
  rintro _ _ ⟨rfl, rfl⟩
  rw [hP]
  dsimp only
  refine OpsW.pure rfl rfl (pureOp_move rfl) ?_
  refine OpsW.pure rfl rfl (pureOp_extract rfl rfl) ?_
  refine OpsW.pure rfl rfl (pureOp_extract rfl rfl) ?_
  refine OpsW.alloc rfl rfl (allocOp_alloc zt24) ?_
  rintro _ _ ⟨b9, rfl, rfl⟩
  refine OpsW.upd rfl rfl (by repeat (first | exact Pos.here | apply Pos.there)) (lop_storeAllN 256 Try.sizeOf24 rfl rfl List.length_replicate hsm (by first | exact one_map (fun _ => rfl) _ | exact one_rfl rfl | exact one_sup _ | (simp [one, *]; done))) ?_
  rintro _ _ ⟨rfl, rfl⟩
  refine OpsW.pure rfl rfl (pureOp_assign rfl) ?_
  refine OpsW.nil ?_
  refine AWp.forget ?_ (sub_put (i := 0) rfl (sub_put (i := 1) rfl (sub_put (i := 2) rfl (sub_put (i := 5) rfl (sub_put (i := 6) rfl (sub_put (i := 7) rfl (sub_put (i := 8) rfl (sub_put (i := 9) rfl (sub_put (i := 10) rfl (sub_put (i := 19) rfl (sub_nil)))))))))))
  refine AWp.seq ?_
  refine AWp.region ?_
  refine OpsW.load rfl rfl (loadAll rfl (by repeat (first | exact List.Mem.head _ | apply List.Mem.tail)) hmx ag24) ?_
  refine OpsW.callA rfl rfl (callOp Try.call31 rfl) permNone (rget_c x _ hx) ?_
  rintro _ _ ⟨k1, v1, bs1, rfl, hv1, hg1, rfl⟩
  refine OpsW.pure rfl rfl (pureOp_move rfl) ?_
  refine OpsW.pure rfl rfl (pureOp_extract (v := iV k1) rfl rfl) ?_
  refine OpsW.pure rfl rfl (pureOp_extract (v := v1) rfl rfl) ?_
  refine OpsW.pure rfl rfl (pureOp_extract (v := .bool (decide (goodR x))) rfl rfl) ?_
  refine OpsW.pure rfl rfl (pureOp_assign rfl) ?_
  refine OpsW.pure rfl rfl (pureOp_assign rfl) ?_
  refine OpsW.pure rfl rfl (pureOp_assign rfl) ?_
  refine OpsW.nil ?_
  refine AWp.forget ?_ (sub_put (i := 0) rfl (sub_put (i := 1) rfl (sub_put (i := 2) rfl (sub_put (i := 5) rfl (sub_put (i := 6) rfl (sub_put (i := 7) rfl (sub_put (i := 8) rfl (sub_put (i := 9) rfl (sub_put (i := 10) rfl (sub_put (i := 11) rfl (sub_put (i := 12) rfl (sub_put (i := 13) rfl (sub_put (i := 19) rfl (sub_nil))))))))))))))
  refine AWp.seq ?_
  refine AWp.region ?_
  refine OpsW.load rfl rfl (loadAll rfl (by repeat (first | exact List.Mem.head _ | apply List.Mem.tail)) hmx ag24) ?_
  refine OpsW.callA rfl rfl (callOp Try.call32 rfl) permNone (rget36_c x _ hx) ?_
  rintro _ _ ⟨k2, v2, bs2, rfl, hv2, hg2, rfl⟩
  refine OpsW.pure rfl rfl (pureOp_move rfl) ?_
  refine OpsW.pure rfl rfl (pureOp_extract (v := iV k2) rfl rfl) ?_
  refine OpsW.pure rfl rfl (pureOp_extract (v := v2) rfl rfl) ?_
  refine OpsW.pure rfl rfl (pureOp_extract (v := .bool (decide (goodR x))) rfl rfl) ?_
  refine OpsW.pure rfl rfl (pureOp_assign rfl) ?_
  refine OpsW.pure rfl rfl (pureOp_assign rfl) ?_
  refine OpsW.pure rfl rfl (pureOp_assign rfl) ?_
  refine OpsW.nil ?_
  refine AWp.forget ?_ (sub_put (i := 0) rfl (sub_put (i := 1) rfl (sub_put (i := 2) rfl (sub_put (i := 5) rfl (sub_put (i := 6) rfl (sub_put (i := 7) rfl (sub_put (i := 8) rfl (sub_put (i := 9) rfl (sub_put (i := 10) rfl (sub_put (i := 11) rfl (sub_put (i := 12) rfl (sub_put (i := 13) rfl (sub_put (i := 14) rfl (sub_put (i := 15) rfl (sub_put (i := 16) rfl (sub_put (i := 19) rfl (sub_nil)))))))))))))))))
  refine AWp.seq ?_
  refine AWp.joinW (fun m' T' L' => m' = m ∧ T' = put (tnil) 6 (.bool true) ∧ L' = []) ?_ ?_
  · skip
    refine AWp.region ?_
    refine OpsW.load rfl rfl (loadAll rfl (by repeat (first | exact List.Mem.head _ | apply List.Mem.tail)) hsm ag24) ?_
    refine OpsW.load rfl rfl (loadAll rfl (by repeat (first | exact List.Mem.head _ | apply List.Mem.tail)) hsm ag24) ?_
    refine OpsW.pure rfl rfl (opB_eql by24 dpth rfl rfl hsl hsl) ?_
    refine OpsW.knowB (d := 47) (b := true) (by show some (Value.bool (decide _)) = _; rw [decide_eq_true (rfl)]) ?_
    refine OpsW.pure rfl rfl (pureOp_move rfl) ?_
    refine OpsW.pure rfl rfl (pureOp_move rfl) ?_
    refine OpsW.pure rfl rfl (pureOp_move rfl) ?_
    refine OpsW.pure rfl rfl (opN_eql rfl rfl) ?_
    refine OpsW.knowB (d := 51) (b := true) (by show some (Value.bool (decide _)) = _; rw [decide_eq_true (rfl)]) ?_
    refine OpsW.pure rfl rfl (pureOp_pick_true rfl rfl) ?_
    refine OpsW.pure rfl rfl (pureOp_move rfl) ?_
    refine OpsW.pure rfl rfl (pureOp_move rfl) ?_
    refine OpsW.pure rfl rfl (pureOp_move rfl) ?_
    refine OpsW.pure rfl rfl (opBool_eql Try.underlying4 rfl rfl) ?_
    refine OpsW.knowB (d := 56) (b := true) (by show some (Value.bool (decide _)) = _; rw [decide_eq_true (rfl)]) ?_
    refine OpsW.pure rfl rfl (pureOp_pick_true rfl rfl) ?_
    refine OpsW.pure rfl rfl (pureOp_move rfl) ?_
    refine OpsW.pure rfl rfl (pureOp_move rfl) ?_
    refine OpsW.pure rfl rfl (pureOp_notP rfl) ?_
    refine OpsW.splitP (d := 60) rfl (fun h60 => ?_) (fun h60 => ?_)
    · skip
      refine OpsW.pure rfl rfl (pureOp_move rfl) ?_
      refine OpsW.skipG rfl rfl ?_
      refine OpsW.skipG rfl rfl ?_
      refine OpsW.skipG rfl rfl ?_
      refine OpsW.skipG rfl rfl ?_
      refine OpsW.skipG rfl rfl ?_
      refine OpsW.skipG rfl rfl ?_
      refine OpsW.skipG rfl rfl ?_
      refine OpsW.skipG rfl rfl ?_
      refine OpsW.pure rfl rfl (pureOp_pick_true rfl rfl) ?_
      refine OpsW.pure rfl rfl (pureOp_pick_true rfl rfl) ?_
      refine OpsW.pure rfl rfl (pureOp_move rfl) ?_
      refine OpsW.callA rfl rfl (callOp Try.call28 rfl) permNone (works36_c _) ?_
      rintro _ _ ⟨rfl, rfl⟩
      refine OpsW.knowB (d := 73) (b := true) rfl ?_
      refine OpsW.pure rfl rfl (pureOp_pick_true rfl rfl) ?_
      refine OpsW.pure rfl rfl (pureOp_assign rfl) ?_
      refine OpsW.nil ?_
      refine ⟨_, [], _, sub_put (i := 6) rfl (sub_nil), Sel.perm (by repeat (first | exact Sel.nil | (apply Sel.cons; (repeat (first | exact Ext.here | apply Ext.there))))), ?_⟩
      exact ⟨rfl, rfl, rfl⟩
    · skip
      refine OpsW.pure rfl rfl (pureOp_move rfl) ?_
      refine OpsW.pure rfl rfl (pureOp_move rfl) ?_
      refine OpsW.pure rfl rfl (pureOp_move rfl) ?_
      refine OpsW.pure rfl rfl (opN_eql rfl rfl) ?_
      refine OpsW.knowB (d := 64) (b := true) (by show some (Value.bool (decide _)) = _; rw [decide_eq_true (by rw [(hg1 (Decidable.of_not_not h60)).1, (hg2 (Decidable.of_not_not h60)).1])]) ?_
      refine OpsW.pure rfl rfl (pureOp_move rfl) ?_
      refine OpsW.pure rfl rfl (pureOp_move rfl) ?_
      refine OpsW.pure rfl rfl (pureOp_move rfl) ?_
      refine OpsW.callA rfl rfl (callOp Try.call33 rfl) permNone (same01_c v1 v2 bs1 bs2 _ (Rd.of_sl (by repeat (first | exact List.Mem.head _ | apply List.Mem.tail)) hv1) (Rd.of_sl (by repeat (first | exact List.Mem.head _ | apply List.Mem.tail)) hv2)) ?_
      rintro _ _ ⟨rfl, rfl⟩
      refine OpsW.knowB (d := 68) (b := true) (by show some (Value.bool (decide _)) = _; rw [decide_eq_true (by rw [(hg1 (Decidable.of_not_not h60)).2, (hg2 (Decidable.of_not_not h60)).2])]) ?_
      refine OpsW.pure rfl rfl (pureOp_pick_true rfl rfl) ?_
      refine OpsW.pure rfl rfl (pureOp_pick_false rfl rfl) ?_
      refine OpsW.pure rfl rfl (pureOp_pick_true rfl rfl) ?_
      refine OpsW.pure rfl rfl (pureOp_move rfl) ?_
      refine OpsW.callA rfl rfl (callOp Try.call28 rfl) permNone (works36_c _) ?_
      rintro _ _ ⟨rfl, rfl⟩
      refine OpsW.knowB (d := 73) (b := true) rfl ?_
      refine OpsW.pure rfl rfl (pureOp_pick_true rfl rfl) ?_
      refine OpsW.pure rfl rfl (pureOp_assign rfl) ?_
      refine OpsW.nil ?_
      refine ⟨_, [], _, sub_put (i := 6) rfl (sub_nil), Sel.perm (by repeat (first | exact Sel.nil | (apply Sel.cons; (repeat (first | exact Ext.here | apply Ext.there))))), ?_⟩
      exact ⟨rfl, rfl, rfl⟩
  rintro m _ _ ⟨rfl, rfl, rfl⟩
  refine AWp.ret ?_
  exact ⟨_, [], _, permNone, res_tmp rfl rfl, rfl, rfl⟩

end Go.Proofs.Ytpnipajadjeifaa.Sep
