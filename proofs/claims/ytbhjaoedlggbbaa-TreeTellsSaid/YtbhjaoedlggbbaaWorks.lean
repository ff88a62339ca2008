/- The walk of the law's own works. -/
import Derived.Test.YtbhjaoedlggbbaaTreeI
import Derived.Test.YtbhjaoedlggbbaaTree7
import Derived.Test.YtbhjaoedlggbbaaProg
namespace Go.Proofs.Ytbhjaoedlggbbaa.Sep
open Go Go.RowKit
set_option linter.unusedVariables false
set_option linter.unusedSimpArgs false



set_option maxRecDepth 20000 in
set_option maxHeartbeats 4000000 in
theorem works_c  (m : Mem) :
    Ctr Try.prog 7 [] m [] (fun _ r L => r = .bool true ∧ L = []) := by
  refine Ctr.intro Try.func7 rfl Try.ntmps7 (by simp) fun w0 => ?_
  refine AWp.forget ?_ (sub_nil)
  refine AWp.seq ?_
  refine AWp.region ?_
  refine OpsW.pure rfl rfl (pureOp_assign rfl) ?_
  refine OpsW.nil ?_
  refine AWp.forget ?_ (sub_put (i := 0) rfl (sub_nil))
  refine AWp.seq ?_
  refine AWp.region ?_
  refine OpsW.alloc rfl rfl (allocOp_buildSlice slt38 rfl rfl (by first | exact cells_rfl rfl | simp [Value.cells]) (by decide)) ?_
  rintro v14 _ ⟨hv14, hn14, rfl⟩
  rw [show List.flatMap (fun x => x.cells.toList) [Value.int .u8 97] = List.map bV [97] from rfl] at hv14 ⊢
  refine OpsW.upd rfl rfl (by repeat (first | exact Pos.here | apply Pos.there)) (lop_convMark Try.underlying38 Try.underlying5 rfl (by assumption)) ?_
  rintro u _ ⟨e, rfl⟩
  rw [e]
  clear e
  refine OpsW.alloc rfl rfl (allocOp_buildSlice slt38 rfl rfl (by first | exact cells_rfl rfl | simp [Value.cells]) (by decide)) ?_
  rintro v16 _ ⟨hv16, hn16, rfl⟩
  rw [show List.flatMap (fun x => x.cells.toList) [Value.int .u8 98] = List.map bV [98] from rfl] at hv16 ⊢
  refine OpsW.upd rfl rfl (by repeat (first | exact Pos.here | apply Pos.there)) (lop_convMark Try.underlying38 Try.underlying5 rfl (by assumption)) ?_
  rintro u _ ⟨e, rfl⟩
  rw [e]
  clear e
  refine OpsW.alloc rfl rfl (allocOp_buildSlice slt38 rfl rfl (by first | exact cells_rfl rfl | simp [Value.cells]) (by decide)) ?_
  rintro v18 _ ⟨hv18, hn18, rfl⟩
  rw [show List.flatMap (fun x => x.cells.toList) [Value.int .u8 99] = List.map bV [99] from rfl] at hv18 ⊢
  refine OpsW.upd rfl rfl (by repeat (first | exact Pos.here | apply Pos.there)) (lop_convMark Try.underlying38 Try.underlying5 rfl (by assumption)) ?_
  rintro u _ ⟨e, rfl⟩
  rw [e]
  clear e
  refine OpsW.alloc rfl rfl (allocOp_buildSlice slt22 rfl rfl (sizes3 (size_sl hv14) (size_sl hv16) (size_sl hv18)) (by decide)) ?_
  rintro v20 _ ⟨hv20, hn20, rfl⟩
  rw [flat3 (cells_sl hv14) (cells_sl hv16) (cells_sl hv18)] at hv20 ⊢
  refine OpsW.pure rfl rfl (pureOp_assign rfl) ?_
  refine OpsW.nil ?_
  refine AWp.forget ?_ (sub_put (i := 0) rfl (sub_put (i := 1) rfl (sub_nil)))
  refine AWp.seq ?_
  refine AWp.keep (L' := [.sl v20 1 _, .sl v14 1 _, .sl v16 1 _, .sl v18 1 _]) (by repeat (first | exact Sel.nil | (apply Sel.cons; (repeat (first | exact Ext.here | apply Ext.there))))) ?_
  refine AWp.freeze (fun m1 hm1 h20 => AWp.freeze (fun m2 hm2 h14 => AWp.freeze (fun m3 hm3 h16 => AWp.freeze (fun m4 hm4 h18 => ?_))))
  have hv : Rds m4 v20 ls3 [v14, v16, v18] := rds3 (((Rd.of_at hv20 h20).mono fun a u h => hm4 a u (hm3 a u (hm2 a u h)))) ((Rd.of_at hv14 h14).mono fun a u h => hm4 a u (hm3 a u h)) ((Rd.of_at hv16 h16).mono hm4) (Rd.of_at hv18 h18)
  obtain ⟨R3, hR3⟩ : ∃ R, R = shaF (rootText 3 (topF (leafHs ls3 3))) := ⟨_, rfl⟩
  have hrl : R3.length = 32 := by rw [hR3]; exact shaF_length _
  obtain ⟨P2, hP2⟩ : ∃ P, P = pathF 2 (leafHs ls3 3) := ⟨_, rfl⟩
  have okP : HsOk P2 := by rw [hP2]; exact hsP 2 ls3
  have hpl : P2.length = 1 := by rw [hP2]; exact ls3_path
  refine AWp.region ?_
  refine OpsW.pure rfl rfl (pureOp_move rfl) ?_
  refine OpsW.callA rfl rfl (callOp Try.call8 rfl) permNone (root_c v20 ls3 [v14, v16, v18] _ hv.ro ls3_bd (by decide)) ?_
  rintro _ _ ⟨rfl, rfl⟩
  rw [ls3_root, ← hR3]
  refine OpsW.pure rfl rfl (pureOp_move rfl) ?_
  refine OpsW.pure rfl rfl (pureOp_extract rfl rfl) ?_
  refine OpsW.pure rfl rfl (pureOp_extract rfl rfl) ?_
  refine OpsW.alloc rfl rfl (allocOp_alloc zt25) ?_
  rintro _ _ ⟨b2, rfl, rfl⟩
  refine OpsW.upd rfl rfl (by repeat (first | exact Pos.here | apply Pos.there)) (lop_storeAllN 32 Try.sizeOf25 rfl rfl (by simp) (by simp [hrl]) (by first | exact one_map (fun _ => rfl) _ | exact one_rfl rfl | simp [one])) ?_
  rintro _ _ ⟨rfl, rfl⟩
  refine OpsW.pure rfl rfl (pureOp_assign rfl) ?_
  refine OpsW.nil ?_
  refine AWp.forget ?_ (sub_put (i := 0) rfl (sub_put (i := 1) rfl (sub_put (i := 2) rfl (sub_put (i := 3) rfl (sub_nil)))))
  refine AWp.seq ?_
  refine AWp.region ?_
  refine OpsW.pure rfl rfl (pureOp_move rfl) ?_
  refine OpsW.callA rfl rfl (callOp Try.call11 rfl) permNone (prove_c v20 ls3 [v14, v16, v18] 2 _ hv.ro ls3_bd (by decide)) ?_
  rintro _ _ ⟨p2, rfl, hp2, rfl⟩
  rw [ls3_prove, ← hP2] at hp2 ⊢
  refine OpsW.pure rfl rfl (pureOp_move rfl) ?_
  refine OpsW.pure rfl rfl (pureOp_extract rfl rfl) ?_
  refine OpsW.pure rfl rfl (pureOp_extract rfl rfl) ?_
  refine OpsW.alloc rfl rfl (allocOp_alloc zt32) ?_
  rintro _ _ ⟨b4, rfl, rfl⟩
  refine OpsW.upd rfl rfl (by repeat (first | exact Pos.here | apply Pos.there)) (lop_storeAllN 3 Try.sizeOf32 rfl rfl rfl rfl (one3 rfl rfl (one_sl hp2))) ?_
  rintro _ _ ⟨rfl, rfl⟩
  refine OpsW.pure rfl rfl (pureOp_assign rfl) ?_
  refine OpsW.nil ?_
  refine AWp.forget ?_ (sub_put (i := 0) rfl (sub_put (i := 1) rfl (sub_put (i := 2) rfl (sub_put (i := 3) rfl (sub_put (i := 4) rfl (sub_put (i := 5) rfl (sub_nil)))))))
  refine AWp.seq ?_
  refine AWp.region ?_
  refine OpsW.pure rfl rfl (pureOp_move rfl) ?_
  refine OpsW.callA rfl rfl (callOp Try.call11 rfl) permNone (prove_c v20 ls3 [v14, v16, v18] 3 _ hv.ro ls3_bd (by decide)) ?_
  rintro _ _ ⟨p3, rfl, hp3, rfl⟩
  rw [ls3_prove3] at hp3 ⊢
  refine OpsW.pure rfl rfl (pureOp_move rfl) ?_
  refine OpsW.pure rfl rfl (pureOp_extract rfl rfl) ?_
  refine OpsW.pure rfl rfl (pureOp_extract rfl rfl) ?_
  refine OpsW.alloc rfl rfl (allocOp_alloc zt32) ?_
  rintro _ _ ⟨b6, rfl, rfl⟩
  refine OpsW.upd rfl rfl (by repeat (first | exact Pos.here | apply Pos.there)) (lop_storeAllN 3 Try.sizeOf32 rfl rfl rfl rfl (one3 rfl rfl (one_sl hp3))) ?_
  rintro _ _ ⟨rfl, rfl⟩
  refine OpsW.pure rfl rfl (pureOp_assign rfl) ?_
  refine OpsW.nil ?_
  refine AWp.forget ?_ (sub_put (i := 0) rfl (sub_put (i := 1) rfl (sub_put (i := 2) rfl (sub_put (i := 3) rfl (sub_put (i := 4) rfl (sub_put (i := 5) rfl (sub_put (i := 7) rfl (sub_nil))))))))
  refine AWp.seq ?_
  refine AWp.region ?_
  refine OpsW.callA rfl rfl (callOp Try.call8 rfl) permNone (root_c _ [] [] _ rdsNil (fun i => by simp) (by simp)) ?_
  rintro _ _ ⟨rfl, rfl⟩
  rw [nil_root]
  refine OpsW.pure rfl rfl (pureOp_move rfl) ?_
  refine OpsW.pure rfl rfl (pureOp_extract rfl rfl) ?_
  refine OpsW.pure rfl rfl (pureOp_extract rfl rfl) ?_
  refine OpsW.alloc rfl rfl (allocOp_alloc zt25) ?_
  rintro _ _ ⟨b8, rfl, rfl⟩
  refine OpsW.upd rfl rfl (by repeat (first | exact Pos.here | apply Pos.there)) (lop_storeAllN 32 Try.sizeOf25 rfl rfl (by rfl) (by rfl) (by first | exact one_map (fun _ => rfl) _ | exact one_rfl rfl | simp [one])) ?_
  rintro _ _ ⟨rfl, rfl⟩
  refine OpsW.pure rfl rfl (pureOp_assign rfl) ?_
  refine OpsW.nil ?_
  refine AWp.forget ?_ (sub_put (i := 0) rfl (sub_put (i := 1) rfl (sub_put (i := 2) rfl (sub_put (i := 3) rfl (sub_put (i := 4) rfl (sub_put (i := 5) rfl (sub_put (i := 7) rfl (sub_put (i := 9) rfl (sub_nil)))))))))
  refine AWp.seq ?_
  refine AWp.region ?_
  refine OpsW.pure rfl rfl (pureOp_move rfl) ?_
  refine OpsW.callB rfl rfl (callOp Try.call19 rfl) permNone (all_c v20 ls3 [v14, v16, v18] _ hv ls3_bd (by decide) rfl) ?_
  rintro m5 _ _ hm5 ⟨rv, pvs, rfl, hpvl, hpp, hrv, rfl⟩
  have hv := hv.mono hm5
  refine OpsW.pure rfl rfl (pureOp_move rfl) ?_
  refine OpsW.pure rfl rfl (pureOp_extract rfl rfl) ?_
  refine OpsW.pure rfl rfl (pureOp_extract rfl rfl) ?_
  refine OpsW.pure rfl rfl (pureOp_assign rfl) ?_
  refine OpsW.pure rfl rfl (pureOp_assign rfl) ?_
  refine OpsW.nil ?_
  refine AWp.forget ?_ (sub_put (i := 0) rfl (sub_put (i := 1) rfl (sub_put (i := 2) rfl (sub_put (i := 3) rfl (sub_put (i := 4) rfl (sub_put (i := 5) rfl (sub_put (i := 7) rfl (sub_put (i := 9) rfl (sub_put (i := 10) rfl (sub_put (i := 11) rfl (sub_nil)))))))))))
  refine AWp.seq ?_
  refine AWp.region ?_
  refine OpsW.load rfl rfl (loadAll rfl (by repeat (first | exact List.Mem.head _ | apply List.Mem.tail)) (by rfl) ag32) ?_
  refine OpsW.alloc rfl rfl (allocOp_buildSlice slt38 rfl rfl (by first | exact cells_rfl rfl | simp [Value.cells]) (by decide)) ?_
  rintro v47 _ ⟨hv47, hn47, rfl⟩
  rw [show List.flatMap (fun x => x.cells.toList) [Value.int .u8 99] = List.map bV [99] from rfl] at hv47 ⊢
  refine OpsW.upd rfl rfl (by repeat (first | exact Pos.here | apply Pos.there)) (lop_convMark Try.underlying38 Try.underlying5 rfl (by assumption)) ?_
  rintro u _ ⟨e, rfl⟩
  rw [e]
  clear e
  refine OpsW.callA rfl rfl (callOp Try.call20 rfl) permNone (climb_c 2 3 p2 v47 P2 [99] _ (Rd.of_sl (by repeat (first | exact List.Mem.head _ | apply List.Mem.tail)) hp2) okP (Rd.of_sl (by repeat (first | exact List.Mem.head _ | apply List.Mem.tail)) hv47) (by decide)) ?_
  rintro _ _ ⟨rfl, rfl⟩
  rw [hP2, ls3_climb, ← hR3, ← hP2]
  refine OpsW.pure rfl rfl (pureOp_move rfl) ?_
  refine OpsW.pure rfl rfl (pureOp_extract rfl rfl) ?_
  refine OpsW.pure rfl rfl (pureOp_extract rfl rfl) ?_
  refine OpsW.alloc rfl rfl (allocOp_alloc zt25) ?_
  rintro _ _ ⟨b12, rfl, rfl⟩
  refine OpsW.upd rfl rfl (by repeat (first | exact Pos.here | apply Pos.there)) (lop_storeAllN 32 Try.sizeOf25 rfl rfl (by simp) (by simp [hrl]) (by first | exact one_map (fun _ => rfl) _ | exact one_rfl rfl | simp [one])) ?_
  rintro _ _ ⟨rfl, rfl⟩
  refine OpsW.pure rfl rfl (pureOp_assign rfl) ?_
  refine OpsW.nil ?_
  refine AWp.forget ?_ (sub_put (i := 0) rfl (sub_put (i := 1) rfl (sub_put (i := 2) rfl (sub_put (i := 3) rfl (sub_put (i := 4) rfl (sub_put (i := 5) rfl (sub_put (i := 7) rfl (sub_put (i := 9) rfl (sub_put (i := 10) rfl (sub_put (i := 11) rfl (sub_put (i := 12) rfl (sub_put (i := 13) rfl (sub_nil)))))))))))))
  refine AWp.seq ?_
  refine AWp.region ?_
  refine OpsW.pure rfl rfl (pureOp_move rfl) ?_
  refine OpsW.pure rfl rfl (opN_eql (b := 0) rfl rfl) ?_
  refine OpsW.knowB (d := 53) (b := true) rfl ?_
  refine OpsW.pure rfl rfl (pureOp_move rfl) ?_
  refine OpsW.pure rfl rfl (pureOp_move rfl) ?_
  refine OpsW.pure rfl rfl (opN_eql (b := 0) rfl rfl) ?_
  refine OpsW.knowB (d := 56) (b := true) rfl ?_
  refine OpsW.pure rfl rfl (pureOp_pick_true rfl rfl) ?_
  refine OpsW.pure rfl rfl (pureOp_move rfl) ?_
  refine OpsW.pure rfl rfl (pureOp_fieldAddr fa32_2 rfl) ?_
  refine OpsW.load rfl rfl (loadOp_obj sc30 rfl (by repeat (first | exact List.Mem.head _ | apply List.Mem.tail)) rfl) ?_
  refine OpsW.pure rfl rfl (pureOp_len (n := 1) Try.underlying30 rfl (by assumption) (by rw [hC_length okP, hpl]) (by decide)) ?_
  refine OpsW.pure rfl rfl (opN_eql (b := 1) rfl rfl) ?_
  refine OpsW.knowB (d := 62) (b := true) rfl ?_
  refine OpsW.pure rfl rfl (pureOp_pick_true rfl rfl) ?_
  refine OpsW.pure rfl rfl (pureOp_move rfl) ?_
  refine OpsW.load rfl rfl (loadAll rfl (by repeat (first | exact List.Mem.head _ | apply List.Mem.tail)) (by simp [hrl]) ag25) ?_
  refine OpsW.load rfl rfl (loadAll rfl (by repeat (first | exact List.Mem.head _ | apply List.Mem.tail)) (by rfl) ag32) ?_
  refine OpsW.alloc rfl rfl (allocOp_buildSlice slt38 rfl rfl (by first | exact cells_rfl rfl | simp [Value.cells]) (by decide)) ?_
  rintro v67 _ ⟨hv67, hn67, rfl⟩
  rw [show List.flatMap (fun x => x.cells.toList) [Value.int .u8 99] = List.map bV [99] from rfl] at hv67 ⊢
  refine OpsW.upd rfl rfl (by repeat (first | exact Pos.here | apply Pos.there)) (lop_convMark Try.underlying38 Try.underlying5 rfl (by assumption)) ?_
  rintro u _ ⟨e, rfl⟩
  rw [e]
  clear e
  refine OpsW.callA rfl rfl (callOp Try.call21 rfl) permNone (verify_c R3 2 3 p2 v67 P2 [99] _ hrl (Rd.of_sl (by repeat (first | exact List.Mem.head _ | apply List.Mem.tail)) hp2) okP (Rd.of_sl (by repeat (first | exact List.Mem.head _ | apply List.Mem.tail)) hv67) (by decide)) ?_
  rintro _ _ ⟨rfl, rfl⟩
  rw [show climbF 2 3 P2 [99] = (R3, true) from by rw [hP2, ls3_climb, hR3]]
  refine OpsW.knowB (d := 69) (b := true) (by show some (Value.bool (true && decide (R3 = R3))) = _; simp) ?_
  refine OpsW.pure rfl rfl (pureOp_pick_true rfl rfl) ?_
  refine OpsW.pure rfl rfl (pureOp_move rfl) ?_
  refine OpsW.load rfl rfl (loadAll rfl (by repeat (first | exact List.Mem.head _ | apply List.Mem.tail)) (by simp [hrl]) ag25) ?_
  refine OpsW.load rfl rfl (loadAll rfl (by repeat (first | exact List.Mem.head _ | apply List.Mem.tail)) (by rfl) ag32) ?_
  refine OpsW.alloc rfl rfl (allocOp_buildSlice slt38 rfl rfl (by first | exact cells_rfl rfl | simp [Value.cells]) (by decide)) ?_
  rintro v74 _ ⟨hv74, hn74, rfl⟩
  rw [show List.flatMap (fun x => x.cells.toList) [Value.int .u8 100] = List.map bV [100] from rfl] at hv74 ⊢
  refine OpsW.upd rfl rfl (by repeat (first | exact Pos.here | apply Pos.there)) (lop_convMark Try.underlying38 Try.underlying5 rfl (by assumption)) ?_
  rintro u _ ⟨e, rfl⟩
  rw [e]
  clear e
  refine OpsW.callA rfl rfl (callOp Try.call21 rfl) permNone (verify_c R3 2 3 p2 v74 P2 [100] _ hrl (Rd.of_sl (by repeat (first | exact List.Mem.head _ | apply List.Mem.tail)) hp2) okP (Rd.of_sl (by repeat (first | exact List.Mem.head _ | apply List.Mem.tail)) hv74) (by decide)) ?_
  rintro _ _ ⟨rfl, rfl⟩
  have hbad : ((climbF 2 3 P2 [100]).2 && decide ((climbF 2 3 P2 [100]).1 = R3)) = false := by rw [decide_eq_false (by rw [hP2, hR3]; exact ls3_bad), Bool.and_false]
  rw [hbad]
  refine OpsW.knowB (d := 76) (b := false) rfl ?_
  refine OpsW.pure rfl rfl (pureOp_not rfl) ?_
  refine OpsW.pure rfl rfl (pureOp_pick_true rfl rfl) ?_
  refine OpsW.pure rfl rfl (pureOp_move rfl) ?_
  refine OpsW.pure rfl rfl (pureOp_move rfl) ?_
  refine OpsW.pure rfl rfl (opN_eql (b := 2) rfl rfl) ?_
  refine OpsW.knowB (d := 81) (b := true) rfl ?_
  refine OpsW.pure rfl rfl (pureOp_pick_true rfl rfl) ?_
  refine OpsW.pure rfl rfl (pureOp_move rfl) ?_
  refine OpsW.pure rfl rfl (pureOp_move rfl) ?_
  refine OpsW.pure rfl rfl (opN_eql (b := 1) rfl rfl) ?_
  refine OpsW.knowB (d := 85) (b := true) rfl ?_
  refine OpsW.pure rfl rfl (pureOp_pick_true rfl rfl) ?_
  refine OpsW.pure rfl rfl (pureOp_move rfl) ?_
  refine OpsW.pure rfl rfl (pureOp_move rfl) ?_
  refine OpsW.pure rfl rfl (opN_eql (b := 0) rfl rfl) ?_
  refine OpsW.knowB (d := 89) (b := true) rfl ?_
  refine OpsW.pure rfl rfl (pureOp_pick_true rfl rfl) ?_
  refine OpsW.pure rfl rfl (pureOp_move rfl) ?_
  refine OpsW.pure rfl rfl (pureOp_move rfl) ?_
  refine OpsW.pure rfl rfl (pureOp_len (n := 3) Try.underlying43 rfl (by assumption) (by rw [rowC_length, hpvl]; rfl) (by decide)) ?_
  refine OpsW.pure rfl rfl (opN_eql (b := 3) rfl rfl) ?_
  refine OpsW.knowB (d := 94) (b := true) rfl ?_
  refine OpsW.pure rfl rfl (pureOp_pick_true rfl rfl) ?_
  refine OpsW.pure rfl rfl (pureOp_move rfl) ?_
  refine OpsW.pure rfl rfl (pureOp_move rfl) ?_
  refine OpsW.knowB (d := 97) (b := true) rfl ?_
  refine OpsW.pure rfl rfl (pureOp_pick_true rfl rfl) ?_
  refine OpsW.pure rfl rfl (pureOp_move rfl) ?_
  refine OpsW.load rfl rfl (loadAll rfl (by repeat (first | exact List.Mem.head _ | apply List.Mem.tail)) (by simp [hrl]) ag25) ?_
  refine OpsW.load rfl rfl (loadAll rfl (by repeat (first | exact List.Mem.head _ | apply List.Mem.tail)) (by simp [hrl]) ag25) ?_
  refine OpsW.pure rfl rfl (opB_eql by25 dpth rfl rfl hrl hrl) ?_
  refine OpsW.knowB (d := 102) (b := true) (by show some (Value.bool (decide (R3 = R3))) = _; simp) ?_
  refine OpsW.pure rfl rfl (pureOp_pick_true rfl rfl) ?_
  refine OpsW.pure rfl rfl (pureOp_move rfl) ?_
  refine OpsW.callA rfl rfl (callOp Try.call17 rfl) permNone (depth_c 3 _ (by decide)) ?_
  rintro _ _ ⟨⟨d, rfl, hd⟩, rfl⟩
  obtain rfl := IsLog.uniq hd log3
  refine OpsW.pure rfl rfl (opN_eql (b := 2) rfl rfl) ?_
  refine OpsW.knowB (d := 106) (b := true) rfl ?_
  refine OpsW.pure rfl rfl (pureOp_pick_true rfl rfl) ?_
  refine OpsW.pure rfl rfl (pureOp_move rfl) ?_
  refine OpsW.callA rfl rfl (callOp Try.call17 rfl) permNone (depth_c 1 _ (by decide)) ?_
  rintro _ _ ⟨⟨d, rfl, hd⟩, rfl⟩
  obtain rfl := IsLog.uniq hd log1
  refine OpsW.pure rfl rfl (opN_eql (b := 0) rfl rfl) ?_
  refine OpsW.knowB (d := 110) (b := true) rfl ?_
  refine OpsW.pure rfl rfl (pureOp_pick_true rfl rfl) ?_
  refine OpsW.pure rfl rfl (pureOp_move rfl) ?_
  refine OpsW.pure rfl rfl (pureOp_move rfl) ?_
  refine OpsW.callA rfl rfl (callOp Try.call10 rfl) permNone (check_c v20 ls3 [v14, v16, v18] _ hv.ro ls3_bd (by decide)) ?_
  rintro _ _ ⟨rfl, rfl⟩
  refine OpsW.pure rfl rfl (opN_eql (b := 0) rfl rfl) ?_
  refine OpsW.knowB (d := 115) (b := true) rfl ?_
  refine OpsW.pure rfl rfl (pureOp_pick_true rfl rfl) ?_
  refine OpsW.pure rfl rfl (pureOp_move rfl) ?_
  refine OpsW.callA rfl rfl (callOp Try.call14 rfl) permNone (leaf_c 0 _ [] _ (by decide) rdNil (by decide)) ?_
  rintro _ _ ⟨rfl, rfl⟩
  refine OpsW.callA rfl rfl (callOp Try.call14 rfl) permNone (leaf_c 1 _ [] _ (by decide) rdNil (by decide)) ?_
  rintro _ _ ⟨rfl, rfl⟩
  refine OpsW.pure rfl rfl (opB_neq by25 dpth rfl rfl (shaF_length _) (shaF_length _)) ?_
  refine OpsW.knowB (d := 120) (b := true) (by show some (Value.bool (decide (shaF (leafText 0 []) ≠ shaF (leafText 1 [])))) = _; rw [decide_eq_true leaf01]) ?_
  refine OpsW.pure rfl rfl (pureOp_pick_true rfl rfl) ?_
  refine OpsW.pure rfl rfl (pureOp_assign rfl) ?_
  refine OpsW.nil ?_
  refine AWp.forget ?_ (sub_put (i := 0) rfl (sub_put (i := 1) rfl (sub_put (i := 2) rfl (sub_put (i := 3) rfl (sub_put (i := 4) rfl (sub_put (i := 5) rfl (sub_put (i := 7) rfl (sub_put (i := 9) rfl (sub_put (i := 10) rfl (sub_put (i := 11) rfl (sub_put (i := 12) rfl (sub_put (i := 13) rfl (sub_nil)))))))))))))
  refine AWp.ret ?_
  exact ⟨_, [], _, permNone, res_tmp rfl rfl, rfl, rfl⟩

end Go.Proofs.Ytbhjaoedlggbbaa.Sep
