/- The walks of the package digest. -/
import Derived.Test.YtbhjaoedlggbbaaShaPure2
import Derived.Test.YtbhjaoedlggbbaaProg
namespace Go.Proofs.Ytbhjaoedlggbbaa.Sep
open Go Go.RowKit
set_option linter.unusedVariables false
set_option linter.unusedSimpArgs false
theorem zt66 : ZeroT Try.prog 66 (List.replicate 64 (.int .u32 0)) := ⟨_, Try.zeroValue66, rfl⟩
theorem sc5 : Scal Try.prog 5 := ⟨Try.isAgg5, Try.sizeOf5⟩
theorem arr66 : ArrT Try.prog 66 64 1 := ⟨62, Try.underlying66, Try.sizeOf62⟩
theorem sc62 : Scal Try.prog 62 := ⟨Try.isAgg62, Try.sizeOf62⟩
theorem ag66 : AggT Try.prog 66 64 := ⟨Try.isAgg66, Try.sizeOf66⟩
theorem zt63 : ZeroT Try.prog 63 (List.replicate 8 (.int .u32 0)) := ⟨_, Try.zeroValue63, rfl⟩
theorem ag63 : AggT Try.prog 63 8 := ⟨Try.isAgg63, Try.sizeOf63⟩
theorem arr63 : ArrT Try.prog 63 8 1 := ⟨62, Try.underlying63, Try.sizeOf62⟩
theorem st78 : StructT Try.prog 78 [(0, 8), (8, 1), (9, 1)] (List.replicate 8 (.int .u32 0) ++ [.slice none 0 0, .int .u64 0]) := ⟨_, _, Try.runUnderlying78, Try.zeroValue78, rfl, by intro w; simp [Try.sizeOf38, Try.sizeOf59, Try.sizeOf63]⟩
theorem fa78_2 : FieldAt Try.prog 78 2 9 := by
  intro b o w
  simp [Instr.fieldAt, Try.runUnderlying78, fieldPlace, Instr.sureAddr, Try.sizeOf59, add_mk]
theorem sc59 : Scal Try.prog 59 := ⟨Try.isAgg59, Try.sizeOf59⟩
theorem fa78_1 : FieldAt Try.prog 78 1 8 := by
  intro b o w
  simp [Instr.fieldAt, Try.runUnderlying78, fieldPlace, Instr.sureAddr, Try.sizeOf38, add_mk]
theorem sc38 : Scal Try.prog 38 := ⟨Try.isAgg38, Try.sizeOf38⟩
theorem slt38 : SlT Try.prog 38 5 1 1 [.int .u8 0] := ⟨Try.underlying38, ⟨_, _, (by kernel_rfl : Try.prog.info? 5 = some Try.t5), rfl, rfl, rfl, rfl, rfl⟩⟩
theorem ni38 : NotInt Try.prog 38 := ⟨_, Try.underlying38, fun k h => by cases h⟩
theorem fa78_0 : FieldAt Try.prog 78 0 0 := by
  intro b o w
  simp [Instr.fieldAt, Try.runUnderlying78, fieldPlace, Instr.sureAddr, Try.sizeOf63, add_mk]


set_option maxRecDepth 20000 in
set_option maxHeartbeats 1000000 in
theorem spin_c (x : UInt32) (n : Nat) (h : n ≤ 32) (m : Mem) :
    Ctr Try.prog 49 [wV x, iV n] m [] (fun _ r L => r = wV (spinF x n) ∧ L = []) := by
  refine Ctr.intro Try.func49 rfl Try.ntmps49 (by simp) fun w0 => ?_
  refine AWp.forget ?_ (sub_put (i := 0) rfl (sub_put (i := 1) rfl (sub_nil)))
  refine AWp.seq ?_
  refine AWp.region ?_
  refine OpsW.pure rfl rfl (pureOp_assign rfl) ?_
  refine OpsW.nil ?_
  refine AWp.forget ?_ (sub_put (i := 0) rfl (sub_put (i := 1) rfl (sub_put (i := 4) rfl (sub_nil))))
  refine AWp.seq ?_
  refine AWp.draw [(0, .pure), (1, .pure), (2, .pure), (3, .pure), (4, .pure), (5, .pure), (6, .pure), (7, .pure), (8, .pure)] rfl (by decide +kernel) (fun _ _ _ p h => AWp.perm h p.symm) ?_
  refine ⟨_, _, rfl, OpStep.pure rfl rfl (pureOp_move rfl), ?_⟩
  rintro _ _ ⟨rfl, rfl⟩ -
  refine ⟨_, _, rfl, OpStep.pure rfl rfl (pureOp_move rfl), ?_⟩
  rintro _ _ ⟨rfl, rfl⟩ -
  refine ⟨_, _, rfl, OpStep.pure rfl rfl (op32_shr (n := n) rfl rfl), ?_⟩
  rintro _ _ ⟨rfl, rfl⟩ -
  refine ⟨_, _, rfl, OpStep.pure rfl rfl (pureOp_move rfl), ?_⟩
  rintro _ _ ⟨rfl, rfl⟩ -
  refine ⟨_, _, rfl, OpStep.pure rfl rfl (pureOp_move rfl), ?_⟩
  rintro _ _ ⟨rfl, rfl⟩ -
  refine ⟨_, _, rfl, OpStep.pure rfl rfl (opN_sub (a := 32) rfl rfl (by omega)), ?_⟩
  rintro _ _ ⟨rfl, rfl⟩ -
  refine ⟨_, _, rfl, OpStep.pure rfl rfl (op32_shl (n := 32 - n) rfl rfl), ?_⟩
  rintro _ _ ⟨rfl, rfl⟩ -
  refine ⟨_, _, rfl, OpStep.pure rfl rfl (op32_or rfl rfl), ?_⟩
  rintro _ _ ⟨rfl, rfl⟩ -
  refine ⟨_, _, rfl, OpStep.pure rfl rfl (pureOp_assign rfl), ?_⟩
  rintro _ _ ⟨rfl, rfl⟩ -
  refine AWp.forget ?_ (sub_put (i := 0) rfl (sub_put (i := 1) rfl (sub_put (i := 4) rfl (sub_nil))))
  refine AWp.ret ?_
  exact ⟨_, [], _, permNone, res_tmp rfl rfl, rfl, rfl⟩

set_option maxRecDepth 20000 in
set_option maxHeartbeats 1000000 in
theorem spread_c (v : Value) (bs : List UInt8) (m : Mem) (hv : Rd m v 1 (bs.map bV)) (hl : 64 ≤ bs.length) :
    Ctr Try.prog 47 [v] m [] (fun _ r L => r = .agg ((spreadF bs).map wV).toArray ∧ L = []) := by
  have ho := hv.1
  refine Ctr.intro Try.func47 rfl Try.ntmps47 (by simp) fun w0 => ?_
  refine AWp.forget ?_ (sub_put (i := 0) rfl (sub_nil))
  refine AWp.seq ?_
  refine AWp.region ?_
  refine OpsW.alloc rfl rfl (allocOp_alloc zt66) ?_
  rintro _ _ ⟨b2, rfl, rfl⟩
  refine OpsW.nil ?_
  refine AWp.forget ?_ (sub_put (i := 0) rfl (sub_put (i := 2) rfl (sub_nil)))
  refine AWp.seq ?_
  refine AWp.region ?_
  refine OpsW.alloc rfl rfl (allocOp_alloc zt66) ?_
  rintro _ _ ⟨b3, rfl, rfl⟩
  refine OpsW.nil ?_
  refine AWp.forget ?_ (sub_put (i := 0) rfl (sub_put (i := 2) rfl (sub_put (i := 3) rfl (sub_nil))))
  refine AWp.seq ?_
  refine AWp.seq ?_
  refine AWp.region ?_
  refine OpsW.pure rfl rfl (pureOp_move rfl) ?_
  refine OpsW.nil ?_
  refine AWp.forget ?_ (sub_put (i := 0) rfl (sub_put (i := 2) rfl (sub_put (i := 3) rfl (sub_put (i := 8) rfl (sub_nil)))))
  refine AWp.block ?_
  refine AWp.forget ?_ (sub_put (i := 0) rfl (sub_put (i := 2) rfl (sub_put (i := 3) rfl (sub_put (i := 8) rfl (sub_nil)))))
  refine AWp.loop (fun N m' T' L' => ∃ ws : List UInt32, N = 64 - ws.length ∧ ws.length ≤ 16 ∧ ws = (List.range ws.length).map (firstW bs) ∧ m' = m ∧ T' = put (put (put (put (tnil) 8 (iV ws.length)) 3 (.pointer (some ⟨b3, 0, none⟩))) 2 (.pointer (some ⟨b2, 0, none⟩))) 0 (v) ∧ L' = [.obj b3 (ws.map wV ++ List.replicate (64 - ws.length) (.int .u32 0)), .obj b2 (List.replicate 64 (.int .u32 0))]) _ (⟨[], rfl, by simp, rfl, rfl, rfl, rfl⟩) ?_
  rintro _ m _ _ ⟨ws, rfl, hk, hws, rfl, rfl, rfl⟩
  refine AWp.seq ?_
  refine AWp.region ?_
  refine OpsW.pure rfl rfl (opN_lss (b := 16) rfl rfl) ?_
  refine OpsW.nil ?_
  refine AWp.forget ?_ (sub_put (i := 0) rfl (sub_put (i := 2) rfl (sub_put (i := 3) rfl (sub_put (i := 8) rfl (sub_put (i := 9) rfl (sub_nil))))))
  refine AWp.seq ?_
  refine AWp.condP rfl (fun ht9 => ?_) (fun ht9 => ?_)
  refine AWp.skip ?_
  refine AWp.seq ?_
  refine AWp.block ?_
  refine AWp.seq ?_
  refine AWp.region ?_
  refine OpsW.pure rfl rfl (pureOp_move rfl) ?_
  refine OpsW.pure rfl rfl (pureOp_assign rfl) ?_
  refine OpsW.nil ?_
  refine AWp.forget ?_ (sub_put (i := 0) rfl (sub_put (i := 2) rfl (sub_put (i := 3) rfl (sub_put (i := 4) rfl (sub_put (i := 8) rfl (sub_put (i := 9) rfl (sub_nil)))))))
  refine AWp.draw [(0, .pure), (1, .pure), (2, .pure), (3, .pure), (4, .pure), (5, .load), (6, .pure), (7, .pure), (8, .pure), (9, .pure), (10, .pure), (11, .pure), (12, .pure), (13, .load), (14, .pure), (15, .pure), (16, .pure), (17, .pure), (18, .pure), (19, .pure), (20, .pure), (21, .pure), (22, .load), (23, .pure), (24, .pure), (25, .pure), (26, .pure), (27, .pure), (28, .pure), (29, .pure), (30, .pure), (31, .load), (32, .pure), (33, .pure), (34, .pure), (35, .wr)] rfl (by decide +kernel) (fun _ _ _ p h => AWp.perm h p.symm) ?_
  refine ⟨_, _, rfl, OpStep.pure rfl rfl (pureOp_move rfl), ?_⟩
  rintro _ _ ⟨rfl, rfl⟩ -
  refine ⟨_, _, rfl, OpStep.pure rfl rfl (pureOp_move rfl), ?_⟩
  rintro _ _ ⟨rfl, rfl⟩ -
  refine ⟨_, _, rfl, OpStep.pure rfl rfl (pureOp_move rfl), ?_⟩
  rintro _ _ ⟨rfl, rfl⟩ -
  refine ⟨_, _, rfl, OpStep.pure rfl rfl (opN_mul (a := 4) rfl rfl (by omega)), ?_⟩
  rintro _ _ ⟨rfl, rfl⟩ -
  refine ⟨_, _, rfl, OpStep.pure rfl rfl (opN_indexSl1 Try.underlying38 Try.sizeOf5 rfl (by assumption) rfl (by simp; omega)), ?_⟩
  rintro _ _ ⟨rfl, rfl⟩ -
  refine ⟨_, _, rfl, OpStep.load rfl rfl (loadOp_elem (u := bV (bs.getD (4 * ws.length) 0)) sc5 rfl (by first | exact Rd.ro (by assumption) | exact Rd.of_sl (by repeat (first | exact List.Mem.head _ | apply List.Mem.tail)) (by assumption)) (get_map (by omega))), ?_⟩
  rintro _ _ ⟨rfl, rfl⟩ -
  refine ⟨_, _, rfl, OpStep.pure rfl rfl (op_conv8_32 Try.underlying5 Try.underlying62 rfl), ?_⟩
  rintro _ _ ⟨rfl, rfl⟩ -
  refine ⟨_, _, rfl, OpStep.pure rfl rfl (op32_shl (n := 24) rfl rfl), ?_⟩
  rintro _ _ ⟨rfl, rfl⟩ -
  refine ⟨_, _, rfl, OpStep.pure rfl rfl (pureOp_move rfl), ?_⟩
  rintro _ _ ⟨rfl, rfl⟩ -
  refine ⟨_, _, rfl, OpStep.pure rfl rfl (pureOp_move rfl), ?_⟩
  rintro _ _ ⟨rfl, rfl⟩ -
  refine ⟨_, _, rfl, OpStep.pure rfl rfl (opN_mul (a := 4) rfl rfl (by omega)), ?_⟩
  rintro _ _ ⟨rfl, rfl⟩ -
  refine ⟨_, _, rfl, OpStep.pure rfl rfl (opN_add (b := 1) rfl rfl (by omega)), ?_⟩
  rintro _ _ ⟨rfl, rfl⟩ -
  refine ⟨_, _, rfl, OpStep.pure rfl rfl (opN_indexSl1 Try.underlying38 Try.sizeOf5 rfl (by assumption) rfl (by simp; omega)), ?_⟩
  rintro _ _ ⟨rfl, rfl⟩ -
  refine ⟨_, _, rfl, OpStep.load rfl rfl (loadOp_elem (u := bV (bs.getD (4 * ws.length + 1) 0)) sc5 rfl (by first | exact Rd.ro (by assumption) | exact Rd.of_sl (by repeat (first | exact List.Mem.head _ | apply List.Mem.tail)) (by assumption)) (get_map (by omega))), ?_⟩
  rintro _ _ ⟨rfl, rfl⟩ -
  refine ⟨_, _, rfl, OpStep.pure rfl rfl (op_conv8_32 Try.underlying5 Try.underlying62 rfl), ?_⟩
  rintro _ _ ⟨rfl, rfl⟩ -
  refine ⟨_, _, rfl, OpStep.pure rfl rfl (op32_shl (n := 16) rfl rfl), ?_⟩
  rintro _ _ ⟨rfl, rfl⟩ -
  refine ⟨_, _, rfl, OpStep.pure rfl rfl (op32_or rfl rfl), ?_⟩
  rintro _ _ ⟨rfl, rfl⟩ -
  refine ⟨_, _, rfl, OpStep.pure rfl rfl (pureOp_move rfl), ?_⟩
  rintro _ _ ⟨rfl, rfl⟩ -
  refine ⟨_, _, rfl, OpStep.pure rfl rfl (pureOp_move rfl), ?_⟩
  rintro _ _ ⟨rfl, rfl⟩ -
  refine ⟨_, _, rfl, OpStep.pure rfl rfl (opN_mul (a := 4) rfl rfl (by omega)), ?_⟩
  rintro _ _ ⟨rfl, rfl⟩ -
  refine ⟨_, _, rfl, OpStep.pure rfl rfl (opN_add (b := 2) rfl rfl (by omega)), ?_⟩
  rintro _ _ ⟨rfl, rfl⟩ -
  refine ⟨_, _, rfl, OpStep.pure rfl rfl (opN_indexSl1 Try.underlying38 Try.sizeOf5 rfl (by assumption) rfl (by simp; omega)), ?_⟩
  rintro _ _ ⟨rfl, rfl⟩ -
  refine ⟨_, _, rfl, OpStep.load rfl rfl (loadOp_elem (u := bV (bs.getD (4 * ws.length + 2) 0)) sc5 rfl (by first | exact Rd.ro (by assumption) | exact Rd.of_sl (by repeat (first | exact List.Mem.head _ | apply List.Mem.tail)) (by assumption)) (get_map (by omega))), ?_⟩
  rintro _ _ ⟨rfl, rfl⟩ -
  refine ⟨_, _, rfl, OpStep.pure rfl rfl (op_conv8_32 Try.underlying5 Try.underlying62 rfl), ?_⟩
  rintro _ _ ⟨rfl, rfl⟩ -
  refine ⟨_, _, rfl, OpStep.pure rfl rfl (op32_shl (n := 8) rfl rfl), ?_⟩
  rintro _ _ ⟨rfl, rfl⟩ -
  refine ⟨_, _, rfl, OpStep.pure rfl rfl (op32_or rfl rfl), ?_⟩
  rintro _ _ ⟨rfl, rfl⟩ -
  refine ⟨_, _, rfl, OpStep.pure rfl rfl (pureOp_move rfl), ?_⟩
  rintro _ _ ⟨rfl, rfl⟩ -
  refine ⟨_, _, rfl, OpStep.pure rfl rfl (pureOp_move rfl), ?_⟩
  rintro _ _ ⟨rfl, rfl⟩ -
  refine ⟨_, _, rfl, OpStep.pure rfl rfl (opN_mul (a := 4) rfl rfl (by omega)), ?_⟩
  rintro _ _ ⟨rfl, rfl⟩ -
  refine ⟨_, _, rfl, OpStep.pure rfl rfl (opN_add (b := 3) rfl rfl (by omega)), ?_⟩
  rintro _ _ ⟨rfl, rfl⟩ -
  refine ⟨_, _, rfl, OpStep.pure rfl rfl (opN_indexSl1 Try.underlying38 Try.sizeOf5 rfl (by assumption) rfl (by simp; omega)), ?_⟩
  rintro _ _ ⟨rfl, rfl⟩ -
  refine ⟨_, _, rfl, OpStep.load rfl rfl (loadOp_elem (u := bV (bs.getD (4 * ws.length + 3) 0)) sc5 rfl (by first | exact Rd.ro (by assumption) | exact Rd.of_sl (by repeat (first | exact List.Mem.head _ | apply List.Mem.tail)) (by assumption)) (get_map (by omega))), ?_⟩
  rintro _ _ ⟨rfl, rfl⟩ -
  refine ⟨_, _, rfl, OpStep.pure rfl rfl (op_conv8_32 Try.underlying5 Try.underlying62 rfl), ?_⟩
  rintro _ _ ⟨rfl, rfl⟩ -
  refine ⟨_, _, rfl, OpStep.pure rfl rfl (op32_or rfl rfl), ?_⟩
  rintro _ _ ⟨rfl, rfl⟩ -
  refine ⟨_, _, rfl, OpStep.pure rfl rfl (opN_indexArr0 arr66 rfl rfl (by omega)), ?_⟩
  rintro _ _ ⟨rfl, rfl⟩ -
  refine ⟨_, _, rfl, OpStep.wr rfl rfl (toWp (by repeat (first | exact Pos.here | apply Pos.there)) (lop_store1 Try.sizeOf62 rfl rfl rfl (by simp <;> omega))), ?_⟩
  rintro _ _ ⟨_, ⟨_, ⟨rfl, rfl⟩, rfl⟩, rfl⟩ -
  rw [set_ws rfl (by omega)]
  refine AWp.forget ?_ (sub_put (i := 0) rfl (sub_put (i := 2) rfl (sub_put (i := 3) rfl (sub_put (i := 4) rfl (sub_put (i := 8) rfl (sub_put (i := 9) rfl (sub_nil)))))))
  refine AWp.region ?_
  refine OpsW.pure rfl rfl (opN_add (b := 1) rfl rfl (by omega)) ?_
  refine OpsW.pure rfl rfl (pureOp_move rfl) ?_
  refine OpsW.forget ?_ (sub_put (i := 0) rfl (sub_put (i := 2) rfl (sub_put (i := 3) rfl (sub_put (i := 8) rfl (sub_nil)))))
  refine OpsW.keep (L' := [.obj b3 _, .obj b2 _]) (by repeat (first | exact Sel.nil | (apply Sel.cons; (repeat (first | exact Ext.here | apply Ext.there))))) ?_
  refine OpsW.nil ?_
  exact ⟨_, by simp; omega, ws ++ [firstW bs ws.length], rfl, by simp; omega, by simp [List.range_succ, ← hws], rfl, by simp, by simp [firstW]⟩
  have h16 : ws.length = 16 := by omega
  rw [h16] at hws
  subst hws
  refine AWp.exit (exit_here ?_)
  refine AWp.seq ?_
  refine AWp.seq ?_
  refine AWp.region ?_
  refine OpsW.pure rfl rfl (pureOp_assign rfl) ?_
  refine OpsW.nil ?_
  refine AWp.forget ?_ (sub_put (i := 0) rfl (sub_put (i := 2) rfl (sub_put (i := 3) rfl (sub_put (i := 5) rfl (sub_put (i := 8) rfl (sub_put (i := 9) rfl (sub_nil)))))))
  refine AWp.block ?_
  refine AWp.forget ?_ (sub_put (i := 2) rfl (sub_put (i := 3) rfl (sub_put (i := 5) rfl (sub_nil))))
  refine AWp.loop (fun N m' T' L' => ∃ n : Nat, N = 48 - n ∧ n ≤ 48 ∧ m' = m ∧ T' = put (put (put (tnil) 5 (iV (n + 16))) 3 (.pointer (some ⟨b3, 0, none⟩))) 2 (.pointer (some ⟨b2, 0, none⟩)) ∧ L' = [.obj b3 ((grow n ((List.range 16).map (firstW bs))).map wV ++ List.replicate (64 - (n + 16)) (.int .u32 0)), .obj b2 (List.replicate 64 (.int .u32 0))]) _ (⟨0, rfl, by omega, rfl, rfl, by simp [grow]⟩) ?_
  rintro _ m _ _ ⟨n, rfl, hn, rfl, rfl, rfl⟩
  have hlen : (grow n ((List.range 16).map (firstW bs))).length = n + 16 := by rw [grow_length]; simp; omega
  generalize hws : grow n ((List.range 16).map (firstW bs)) = ws at hlen ⊢
  refine AWp.seq ?_
  refine AWp.seq ?_
  refine AWp.region ?_
  refine OpsW.pure rfl rfl (pureOp_move rfl) ?_
  refine OpsW.pure rfl rfl (opN_lss (b := 64) rfl rfl) ?_
  refine OpsW.nil ?_
  refine AWp.forget ?_ (sub_put (i := 2) rfl (sub_put (i := 3) rfl (sub_put (i := 5) rfl (sub_put (i := 48) rfl (sub_nil)))))
  refine AWp.condP rfl (fun ht48 => ?_) (fun ht48 => ?_)
  refine AWp.skip ?_
  refine AWp.seq ?_
  refine AWp.block ?_
  refine AWp.seq ?_
  refine AWp.draw [(0, .pure), (1, .pure), (2, .pure), (3, .load), (4, .pure), (5, .pure), (6, .pure), (7, .load), (8, .pure), (9, .pure)] rfl (by decide +kernel) (fun _ _ _ p h => AWp.perm h p.symm) ?_
  refine ⟨_, _, rfl, OpStep.pure rfl rfl (pureOp_move rfl), ?_⟩
  rintro _ _ ⟨rfl, rfl⟩ -
  refine ⟨_, _, rfl, OpStep.pure rfl rfl (opN_sub (b := 15) rfl rfl (by omega)), ?_⟩
  rintro _ _ ⟨rfl, rfl⟩ -
  refine ⟨_, _, rfl, OpStep.pure rfl rfl (opN_indexArr0 arr66 rfl rfl (by omega)), ?_⟩
  rintro _ _ ⟨rfl, rfl⟩ -
  refine ⟨_, _, rfl, OpStep.load rfl rfl (loadOp_obj (u := wV (ws.getD (n + 16 - 15) 0)) sc62 rfl (by repeat (first | exact List.Mem.head _ | apply List.Mem.tail)) (by first | exact get_map (by omega) | exact get_app (get_map (by omega)))), ?_⟩
  rintro _ _ ⟨rfl, rfl⟩ -
  refine ⟨_, _, rfl, OpStep.pure rfl rfl (pureOp_move rfl), ?_⟩
  rintro _ _ ⟨rfl, rfl⟩ -
  refine ⟨_, _, rfl, OpStep.pure rfl rfl (opN_sub (b := 2) rfl rfl (by omega)), ?_⟩
  rintro _ _ ⟨rfl, rfl⟩ -
  refine ⟨_, _, rfl, OpStep.pure rfl rfl (opN_indexArr0 arr66 rfl rfl (by omega)), ?_⟩
  rintro _ _ ⟨rfl, rfl⟩ -
  refine ⟨_, _, rfl, OpStep.load rfl rfl (loadOp_obj (u := wV (ws.getD (n + 16 - 2) 0)) sc62 rfl (by repeat (first | exact List.Mem.head _ | apply List.Mem.tail)) (by first | exact get_map (by omega) | exact get_app (get_map (by omega)))), ?_⟩
  rintro _ _ ⟨rfl, rfl⟩ -
  refine ⟨_, _, rfl, OpStep.pure rfl rfl (pureOp_assign rfl), ?_⟩
  rintro _ _ ⟨rfl, rfl⟩ -
  refine ⟨_, _, rfl, OpStep.pure rfl rfl (pureOp_assign rfl), ?_⟩
  rintro _ _ ⟨rfl, rfl⟩ -
  refine AWp.forget ?_ (sub_put (i := 2) rfl (sub_put (i := 3) rfl (sub_put (i := 5) rfl (sub_put (i := 6) rfl (sub_put (i := 7) rfl (sub_put (i := 48) rfl (sub_nil)))))))
  refine AWp.draw [(0, .pure), (1, .pure), (2, .pure), (3, .pure), (4, .load), (5, .pure), (7, .pure), (10, .pure), (11, .pure), (14, .pure), (15, .pure), (16, .pure), (17, .load), (19, .pure), (21, .pure), (24, .pure), (25, .pure), (6, .call), (8, .call), (9, .pure), (12, .pure), (13, .pure), (18, .pure), (20, .call), (22, .call), (23, .pure), (26, .pure), (27, .pure), (28, .pure), (29, .wr)] rfl (by decide +kernel) (fun _ _ _ p h => AWp.perm h p.symm) ?_
  refine ⟨_, _, rfl, OpStep.pure rfl rfl (pureOp_move rfl), ?_⟩
  rintro _ _ ⟨rfl, rfl⟩ -
  refine ⟨_, _, rfl, OpStep.pure rfl rfl (pureOp_move rfl), ?_⟩
  rintro _ _ ⟨rfl, rfl⟩ -
  refine ⟨_, _, rfl, OpStep.pure rfl rfl (opN_sub (b := 16) rfl rfl (by omega)), ?_⟩
  rintro _ _ ⟨rfl, rfl⟩ -
  refine ⟨_, _, rfl, OpStep.pure rfl rfl (opN_indexArr0 arr66 rfl rfl (by omega)), ?_⟩
  rintro _ _ ⟨rfl, rfl⟩ -
  refine ⟨_, _, rfl, OpStep.load rfl rfl (loadOp_obj (u := wV (ws.getD (n + 16 - 16) 0)) sc62 rfl (by repeat (first | exact List.Mem.head _ | apply List.Mem.tail)) (by first | exact get_map (by omega) | exact get_app (get_map (by omega)))), ?_⟩
  rintro _ _ ⟨rfl, rfl⟩ -
  refine ⟨_, _, rfl, OpStep.pure rfl rfl (pureOp_move rfl), ?_⟩
  rintro _ _ ⟨rfl, rfl⟩ -
  refine ⟨_, _, rfl, OpStep.pure rfl rfl (pureOp_move rfl), ?_⟩
  rintro _ _ ⟨rfl, rfl⟩ -
  refine ⟨_, _, rfl, OpStep.pure rfl rfl (pureOp_move rfl), ?_⟩
  rintro _ _ ⟨rfl, rfl⟩ -
  refine ⟨_, _, rfl, OpStep.pure rfl rfl (op32_shr (n := 3) rfl rfl), ?_⟩
  rintro _ _ ⟨rfl, rfl⟩ -
  refine ⟨_, _, rfl, OpStep.pure rfl rfl (pureOp_move rfl), ?_⟩
  rintro _ _ ⟨rfl, rfl⟩ -
  refine ⟨_, _, rfl, OpStep.pure rfl rfl (opN_sub (b := 7) rfl rfl (by omega)), ?_⟩
  rintro _ _ ⟨rfl, rfl⟩ -
  refine ⟨_, _, rfl, OpStep.pure rfl rfl (opN_indexArr0 arr66 rfl rfl (by omega)), ?_⟩
  rintro _ _ ⟨rfl, rfl⟩ -
  refine ⟨_, _, rfl, OpStep.load rfl rfl (loadOp_obj (u := wV (ws.getD (n + 16 - 7) 0)) sc62 rfl (by repeat (first | exact List.Mem.head _ | apply List.Mem.tail)) (by first | exact get_map (by omega) | exact get_app (get_map (by omega)))), ?_⟩
  rintro _ _ ⟨rfl, rfl⟩ -
  refine ⟨_, _, rfl, OpStep.pure rfl rfl (pureOp_move rfl), ?_⟩
  rintro _ _ ⟨rfl, rfl⟩ -
  refine ⟨_, _, rfl, OpStep.pure rfl rfl (pureOp_move rfl), ?_⟩
  rintro _ _ ⟨rfl, rfl⟩ -
  refine ⟨_, _, rfl, OpStep.pure rfl rfl (pureOp_move rfl), ?_⟩
  rintro _ _ ⟨rfl, rfl⟩ -
  refine ⟨_, _, rfl, OpStep.pure rfl rfl (op32_shr (n := 10) rfl rfl), ?_⟩
  rintro _ _ ⟨rfl, rfl⟩ -
  refine ⟨_, _, rfl, OpStep.call rfl rfl (callOp Try.call49 rfl) (spin_c _ 7 (by decide) _), ?_⟩
  rintro _ _ ⟨_, _, ⟨rfl, rfl⟩, rfl, rfl⟩ -
  refine ⟨_, _, rfl, OpStep.call rfl rfl (callOp Try.call49 rfl) (spin_c _ 18 (by decide) _), ?_⟩
  rintro _ _ ⟨_, _, ⟨rfl, rfl⟩, rfl, rfl⟩ -
  refine ⟨_, _, rfl, OpStep.pure rfl rfl (op32_xor rfl rfl), ?_⟩
  rintro _ _ ⟨rfl, rfl⟩ -
  refine ⟨_, _, rfl, OpStep.pure rfl rfl (op32_xor rfl rfl), ?_⟩
  rintro _ _ ⟨rfl, rfl⟩ -
  refine ⟨_, _, rfl, OpStep.pure rfl rfl (op32_add rfl rfl), ?_⟩
  rintro _ _ ⟨rfl, rfl⟩ -
  refine ⟨_, _, rfl, OpStep.pure rfl rfl (op32_add rfl rfl), ?_⟩
  rintro _ _ ⟨rfl, rfl⟩ -
  refine ⟨_, _, rfl, OpStep.call rfl rfl (callOp Try.call49 rfl) (spin_c _ 17 (by decide) _), ?_⟩
  rintro _ _ ⟨_, _, ⟨rfl, rfl⟩, rfl, rfl⟩ -
  refine ⟨_, _, rfl, OpStep.call rfl rfl (callOp Try.call49 rfl) (spin_c _ 19 (by decide) _), ?_⟩
  rintro _ _ ⟨_, _, ⟨rfl, rfl⟩, rfl, rfl⟩ -
  refine ⟨_, _, rfl, OpStep.pure rfl rfl (op32_xor rfl rfl), ?_⟩
  rintro _ _ ⟨rfl, rfl⟩ -
  refine ⟨_, _, rfl, OpStep.pure rfl rfl (op32_xor rfl rfl), ?_⟩
  rintro _ _ ⟨rfl, rfl⟩ -
  refine ⟨_, _, rfl, OpStep.pure rfl rfl (op32_add rfl rfl), ?_⟩
  rintro _ _ ⟨rfl, rfl⟩ -
  refine ⟨_, _, rfl, OpStep.pure rfl rfl (opN_indexArr0 arr66 rfl rfl (by omega)), ?_⟩
  rintro _ _ ⟨rfl, rfl⟩ -
  refine ⟨_, _, rfl, OpStep.wr rfl rfl (toWp (by repeat (first | exact Pos.here | apply Pos.there)) (lop_store1 Try.sizeOf62 rfl rfl rfl (by simp <;> omega))), ?_⟩
  rintro _ _ ⟨_, ⟨_, ⟨rfl, rfl⟩, rfl⟩, rfl⟩ -
  rw [set_ws hlen (by omega)]
  have hsch : (ws ++ [sched ws]) = ws ++ [sched ws] := rfl
  refine AWp.forget ?_ (sub_put (i := 2) rfl (sub_put (i := 3) rfl (sub_put (i := 5) rfl (sub_put (i := 6) rfl (sub_put (i := 7) rfl (sub_put (i := 48) rfl (sub_nil)))))))
  refine AWp.region ?_
  refine OpsW.pure rfl rfl (pureOp_move rfl) ?_
  refine OpsW.pure rfl rfl (opN_add (b := 1) rfl rfl (by omega)) ?_
  refine OpsW.pure rfl rfl (pureOp_assign rfl) ?_
  refine OpsW.forget ?_ (sub_put (i := 2) rfl (sub_put (i := 3) rfl (sub_put (i := 5) rfl (sub_nil))))
  refine OpsW.keep (L' := [.obj b3 _, .obj b2 _]) (by repeat (first | exact Sel.nil | (apply Sel.cons; (repeat (first | exact Ext.here | apply Ext.there))))) ?_
  refine OpsW.nil ?_
  exact ⟨_, by omega, n + 1, rfl, by omega, rfl, rfl, by rw [grow_snoc, hws, sched, hlen]⟩
  have hn48 : n = 48 := by omega
  subst hn48
  subst hws
  refine AWp.exit (exit_here ?_)
  refine AWp.seq ?_
  refine AWp.region ?_
  refine OpsW.load rfl rfl (loadAll rfl (by repeat (first | exact List.Mem.head _ | apply List.Mem.tail)) (by simp [grow_length]) ag66) ?_
  refine OpsW.upd rfl rfl (by repeat (first | exact Pos.here | apply Pos.there)) (lop_storeAllN 64 Try.sizeOf66 rfl rfl (by simp [grow_length]) (by simp [grow_length]) (by simp [one])) ?_
  rintro _ _ ⟨rfl, rfl⟩
  refine OpsW.nil ?_
  refine AWp.forget ?_ (sub_put (i := 2) rfl (sub_put (i := 3) rfl (sub_put (i := 5) rfl (sub_put (i := 48) rfl (sub_nil)))))
  refine AWp.ret ?_
  refine ⟨_, [], _, permNone, resCell rfl rfl (by repeat (first | exact List.Mem.head _ | apply List.Mem.tail)) (by simp [grow_length]) ag66, ?_, rfl⟩
  simp [spreadF]

set_option maxRecDepth 20000 in
set_option maxHeartbeats 1000000 in
theorem rounds_c  (m : Mem) :
    Ctr Try.prog 48 [] m [] (fun _ r L => r = .agg (kTab.map wV).toArray ∧ L = []) := by
  refine Ctr.intro Try.func48 rfl Try.ntmps48 (by simp) fun w0 => ?_
  refine AWp.forget ?_ (sub_nil)
  refine AWp.seq ?_
  refine AWp.region ?_
  refine OpsW.alloc rfl rfl (allocOp_alloc zt66) ?_
  rintro _ _ ⟨b0, rfl, rfl⟩
  refine OpsW.nil ?_
  refine AWp.forget ?_ (sub_put (i := 0) rfl (sub_nil))
  refine AWp.seq ?_
  refine AWp.region ?_
  refine OpsW.pure rfl rfl (opBuildArr arr66 zt66 (by simp) rfl rfl (by first | exact cells_rfl rfl | simp [Value.cells])) ?_
  refine OpsW.upd rfl rfl (by repeat (first | exact Pos.here | apply Pos.there)) (lop_storeAllN 64 Try.sizeOf66 rfl rfl rfl rfl (by first | exact one_map (fun _ => rfl) _ | exact one_rfl rfl | simp [one])) ?_
  rintro _ _ ⟨rfl, rfl⟩
  refine OpsW.nil ?_
  refine AWp.forget ?_ (sub_put (i := 0) rfl (sub_nil))
  refine AWp.ret ?_
  exact ⟨_, [], _, permNone, resCell rfl rfl (by repeat (first | exact List.Mem.head _ | apply List.Mem.tail)) (by rfl) ag66, rfl, rfl⟩

set_option maxRecDepth 20000 in
set_option maxHeartbeats 4000000 in
theorem mix_c (s : List UInt32) (v : Value) (bs : List UInt8) (m : Mem) (hs : s.length = 8) (hv : Rd m v 1 (bs.map bV)) (hl : 64 ≤ bs.length) :
    Ctr Try.prog 46 [.agg (s.map wV).toArray, v] m [] (fun _ r L => r = .agg ((mixF s bs).map wV).toArray ∧ L = []) := by
  refine Ctr.intro Try.func46 rfl Try.ntmps46 (by simp) fun w0 => ?_
  refine AWp.forget ?_ (sub_put (i := 0) rfl (sub_put (i := 1) rfl (sub_nil)))
  refine AWp.seq ?_
  refine AWp.region ?_
  refine OpsW.alloc rfl rfl (allocOp_boxAgg rfl) ?_
  rintro _ _ ⟨b2, rfl, rfl⟩
  refine OpsW.alloc rfl rfl (allocOp_alloc zt63) ?_
  rintro _ _ ⟨b4, rfl, rfl⟩
  refine OpsW.nil ?_
  refine AWp.forget ?_ (sub_put (i := 0) rfl (sub_put (i := 1) rfl (sub_put (i := 2) rfl (sub_put (i := 4) rfl (sub_nil)))))
  refine AWp.seq ?_
  refine AWp.lend (Sel.perm (L' := [.obj b4 _]) (by repeat (first | exact Sel.nil | (apply Sel.cons; (repeat (first | exact Ext.here | apply Ext.there)))))) (fun w1 => ?_)
  refine AWp.draw [(0, .pure), (3, .ro), (1, .call), (2, .call), (4, .alloc), (5, .alloc), (6, .alloc), (7, .wr), (8, .wr), (9, .wr)] rfl (by decide +kernel) (fun _ _ _ p h => ⟨h.1, AWp.perm h.2 (p.symm.append_right _)⟩) ?_
  refine ⟨_, _, rfl, OpStep.pure rfl rfl (pureOp_move rfl), ?_⟩
  rintro _ _ ⟨rfl, rfl⟩ -
  refine ⟨_, _, rfl, OpStep.ro rfl rfl (roAll rfl (by repeat (first | exact List.Mem.head _ | apply List.Mem.tail)) (by simp [Value.cells, hs]) ag63), ?_⟩
  rintro _ _ ⟨rfl, rfl⟩ -
  refine ⟨_, _, rfl, OpStep.call rfl rfl (callOp Try.call47 rfl) (spread_c v bs _ hv.ro.ro hl), ?_⟩
  rintro _ _ ⟨_, _, ⟨rfl, rfl⟩, rfl, rfl⟩ -
  refine ⟨_, _, rfl, OpStep.call rfl rfl (callOp Try.call48 rfl) (rounds_c _), ?_⟩
  rintro _ _ ⟨_, _, ⟨rfl, rfl⟩, rfl, rfl⟩ -
  refine ⟨_, _, rfl, allocStep_alloc rfl rfl zt66, ?_⟩
  rintro _ _ ⟨_, _, ⟨b5, rfl, rfl⟩, rfl, rfl⟩ -
  refine ⟨_, _, rfl, allocStep_alloc rfl rfl zt66, ?_⟩
  rintro _ _ ⟨_, _, ⟨b6, rfl, rfl⟩, rfl, rfl⟩ -
  refine ⟨_, _, rfl, allocStep_alloc rfl rfl zt63, ?_⟩
  rintro _ _ ⟨_, _, ⟨b7, rfl, rfl⟩, rfl, rfl⟩ -
  refine ⟨_, _, rfl, OpStep.wr rfl rfl (toWp (by repeat (first | exact Pos.here | apply Pos.there)) (lop_storeAllN 64 Try.sizeOf66 rfl rfl (by simp [spreadF_length]) (by simp [spreadF_length]) (by first | exact one_map (fun _ => rfl) _ | exact one_rfl rfl | simp [one]))), ?_⟩
  rintro _ _ ⟨_, ⟨_, ⟨rfl, rfl⟩, rfl⟩, rfl⟩ -
  refine ⟨_, _, rfl, OpStep.wr rfl rfl (toWp (by repeat (first | exact Pos.here | apply Pos.there)) (lop_storeAllN 64 Try.sizeOf66 rfl rfl (by rfl) (by rfl) (by first | exact one_map (fun _ => rfl) _ | exact one_rfl rfl | simp [one]))), ?_⟩
  rintro _ _ ⟨_, ⟨_, ⟨rfl, rfl⟩, rfl⟩, rfl⟩ -
  refine ⟨_, _, rfl, OpStep.wr rfl rfl (toWp (by repeat (first | exact Pos.here | apply Pos.there)) (lop_storeAllN 8 Try.sizeOf63 rfl rfl (by simp [hs]) (by simp [hs]) (by first | exact one_map (fun _ => rfl) _ | exact one_rfl rfl | simp [one]))), ?_⟩
  rintro _ _ ⟨_, ⟨_, ⟨rfl, rfl⟩, rfl⟩, rfl⟩ -
  refine ⟨rfl, ?_⟩
  refine AWp.keep (L' := [.obj b7 _, .obj b6 _, .obj b5 _, .obj b4 _, .obj b2 _]) (by repeat (first | exact Sel.nil | (apply Sel.cons; (repeat (first | exact Ext.here | apply Ext.there))))) ?_
  refine AWp.forget ?_ (sub_put (i := 0) rfl (sub_put (i := 1) rfl (sub_put (i := 2) rfl (sub_put (i := 4) rfl (sub_put (i := 5) rfl (sub_put (i := 6) rfl (sub_put (i := 7) rfl (sub_nil))))))))
  refine AWp.seq ?_
  refine AWp.seq ?_
  refine AWp.region ?_
  refine OpsW.pure rfl rfl (pureOp_move rfl) ?_
  refine OpsW.nil ?_
  refine AWp.forget ?_ (sub_put (i := 0) rfl (sub_put (i := 1) rfl (sub_put (i := 2) rfl (sub_put (i := 4) rfl (sub_put (i := 5) rfl (sub_put (i := 6) rfl (sub_put (i := 7) rfl (sub_put (i := 18) rfl (sub_nil)))))))))
  refine AWp.block ?_
  refine AWp.forget ?_ (sub_put (i := 18) rfl (sub_put (i := 2) rfl (sub_put (i := 4) rfl (sub_put (i := 5) rfl (sub_put (i := 6) rfl (sub_put (i := 7) rfl (sub_nil)))))))
  refine AWp.loop (fun N m' T' L' => ∃ n : Nat, N = 64 - n ∧ n ≤ 64 ∧ m' = m ∧ T' = put (put (put (put (put (put (tnil) 7 (.pointer (some ⟨b7, 0, none⟩))) 6 (.pointer (some ⟨b6, 0, none⟩))) 5 (.pointer (some ⟨b5, 0, none⟩))) 4 (.pointer (some ⟨b4, 0, none⟩))) 2 (.pointer (some ⟨b2, 0, none⟩))) 18 (iV n) ∧ L' = [.obj b7 ((roundsF (spreadF bs) n s).map wV), .obj b6 (kTab.map wV), .obj b5 ((spreadF bs).map wV), .obj b4 (List.replicate 8 (.int .u32 0)), .obj b2 (s.map wV)]) _ (⟨0, rfl, by omega, rfl, rfl, rfl⟩) ?_
  rintro _ m _ _ ⟨n, rfl, hn, rfl, rfl, rfl⟩
  have hlen : (roundsF (spreadF bs) n s).length = 8 := roundsF_length _ _ hs n
  generalize hws : roundsF (spreadF bs) n s = ws at hlen ⊢
  refine AWp.seq ?_
  refine AWp.region ?_
  refine OpsW.pure rfl rfl (opN_lss (b := 64) rfl rfl) ?_
  refine OpsW.nil ?_
  refine AWp.forget ?_ (sub_put (i := 2) rfl (sub_put (i := 4) rfl (sub_put (i := 5) rfl (sub_put (i := 6) rfl (sub_put (i := 7) rfl (sub_put (i := 18) rfl (sub_put (i := 19) rfl (sub_nil))))))))
  refine AWp.seq ?_
  refine AWp.condP rfl (fun ht19 => ?_) (fun ht19 => ?_)
  refine AWp.skip ?_
  refine AWp.seq ?_
  refine AWp.block ?_
  refine AWp.seq ?_
  refine AWp.region ?_
  refine OpsW.pure rfl rfl (pureOp_move rfl) ?_
  refine OpsW.pure rfl rfl (pureOp_assign rfl) ?_
  refine OpsW.nil ?_
  refine AWp.forget ?_ (sub_put (i := 2) rfl (sub_put (i := 4) rfl (sub_put (i := 5) rfl (sub_put (i := 6) rfl (sub_put (i := 7) rfl (sub_put (i := 8) rfl (sub_put (i := 18) rfl (sub_put (i := 19) rfl (sub_nil)))))))))
  refine AWp.seq ?_
  refine AWp.draw [(0, .pure), (1, .load), (2, .pure), (3, .load), (4, .pure), (5, .pure)] rfl (by decide +kernel) (fun _ _ _ p h => AWp.perm h p.symm) ?_
  refine ⟨_, _, rfl, OpStep.pure rfl rfl (opN_indexArr0 (i := 4) arr63 rfl rfl (by omega)), ?_⟩
  rintro _ _ ⟨rfl, rfl⟩ -
  refine ⟨_, _, rfl, OpStep.load rfl rfl (loadOp_obj (u := wV (ws.getD (4) 0)) sc62 rfl (by repeat (first | exact List.Mem.head _ | apply List.Mem.tail)) (by first | exact get_map (by omega) | exact get_app (get_map (by omega)))), ?_⟩
  rintro _ _ ⟨rfl, rfl⟩ -
  refine ⟨_, _, rfl, OpStep.pure rfl rfl (opN_indexArr0 (i := 0) arr63 rfl rfl (by omega)), ?_⟩
  rintro _ _ ⟨rfl, rfl⟩ -
  refine ⟨_, _, rfl, OpStep.load rfl rfl (loadOp_obj (u := wV (ws.getD (0) 0)) sc62 rfl (by repeat (first | exact List.Mem.head _ | apply List.Mem.tail)) (by first | exact get_map (by omega) | exact get_app (get_map (by omega)))), ?_⟩
  rintro _ _ ⟨rfl, rfl⟩ -
  refine ⟨_, _, rfl, OpStep.pure rfl rfl (pureOp_assign rfl), ?_⟩
  rintro _ _ ⟨rfl, rfl⟩ -
  refine ⟨_, _, rfl, OpStep.pure rfl rfl (pureOp_assign rfl), ?_⟩
  rintro _ _ ⟨rfl, rfl⟩ -
  refine AWp.forget ?_ (sub_put (i := 2) rfl (sub_put (i := 4) rfl (sub_put (i := 5) rfl (sub_put (i := 6) rfl (sub_put (i := 7) rfl (sub_put (i := 8) rfl (sub_put (i := 9) rfl (sub_put (i := 10) rfl (sub_put (i := 18) rfl (sub_put (i := 19) rfl (sub_nil)))))))))))
  refine AWp.seq ?_
  refine AWp.draw [(0, .pure), (1, .load), (2, .pure), (4, .pure), (7, .pure), (11, .pure), (12, .pure), (13, .load), (14, .pure), (15, .pure), (16, .pure), (17, .pure), (18, .load), (19, .pure), (20, .pure), (22, .pure), (23, .pure), (24, .load), (26, .pure), (27, .pure), (28, .load), (3, .call), (5, .call), (6, .pure), (8, .call), (9, .pure), (10, .pure), (21, .pure), (25, .pure), (29, .pure), (30, .pure)] rfl (by decide +kernel) (fun _ _ _ p h => AWp.perm h p.symm) ?_
  refine ⟨_, _, rfl, OpStep.pure rfl rfl (opN_indexArr0 (i := 7) arr63 rfl rfl (by omega)), ?_⟩
  rintro _ _ ⟨rfl, rfl⟩ -
  refine ⟨_, _, rfl, OpStep.load rfl rfl (loadOp_obj (u := wV (ws.getD (7) 0)) sc62 rfl (by repeat (first | exact List.Mem.head _ | apply List.Mem.tail)) (by first | exact get_map (by omega) | exact get_app (get_map (by omega)))), ?_⟩
  rintro _ _ ⟨rfl, rfl⟩ -
  refine ⟨_, _, rfl, OpStep.pure rfl rfl (pureOp_move rfl), ?_⟩
  rintro _ _ ⟨rfl, rfl⟩ -
  refine ⟨_, _, rfl, OpStep.pure rfl rfl (pureOp_move rfl), ?_⟩
  rintro _ _ ⟨rfl, rfl⟩ -
  refine ⟨_, _, rfl, OpStep.pure rfl rfl (pureOp_move rfl), ?_⟩
  rintro _ _ ⟨rfl, rfl⟩ -
  refine ⟨_, _, rfl, OpStep.pure rfl rfl (pureOp_move rfl), ?_⟩
  rintro _ _ ⟨rfl, rfl⟩ -
  refine ⟨_, _, rfl, OpStep.pure rfl rfl (opN_indexArr0 (i := 5) arr63 rfl rfl (by omega)), ?_⟩
  rintro _ _ ⟨rfl, rfl⟩ -
  refine ⟨_, _, rfl, OpStep.load rfl rfl (loadOp_obj (u := wV (ws.getD (5) 0)) sc62 rfl (by repeat (first | exact List.Mem.head _ | apply List.Mem.tail)) (by first | exact get_map (by omega) | exact get_app (get_map (by omega)))), ?_⟩
  rintro _ _ ⟨rfl, rfl⟩ -
  refine ⟨_, _, rfl, OpStep.pure rfl rfl (op32_and rfl rfl), ?_⟩
  rintro _ _ ⟨rfl, rfl⟩ -
  refine ⟨_, _, rfl, OpStep.pure rfl rfl (pureOp_move rfl), ?_⟩
  rintro _ _ ⟨rfl, rfl⟩ -
  refine ⟨_, _, rfl, OpStep.pure rfl rfl (op32_not rfl), ?_⟩
  rintro _ _ ⟨rfl, rfl⟩ -
  refine ⟨_, _, rfl, OpStep.pure rfl rfl (opN_indexArr0 (i := 6) arr63 rfl rfl (by omega)), ?_⟩
  rintro _ _ ⟨rfl, rfl⟩ -
  refine ⟨_, _, rfl, OpStep.load rfl rfl (loadOp_obj (u := wV (ws.getD (6) 0)) sc62 rfl (by repeat (first | exact List.Mem.head _ | apply List.Mem.tail)) (by first | exact get_map (by omega) | exact get_app (get_map (by omega)))), ?_⟩
  rintro _ _ ⟨rfl, rfl⟩ -
  refine ⟨_, _, rfl, OpStep.pure rfl rfl (op32_and rfl rfl), ?_⟩
  rintro _ _ ⟨rfl, rfl⟩ -
  refine ⟨_, _, rfl, OpStep.pure rfl rfl (op32_xor rfl rfl), ?_⟩
  rintro _ _ ⟨rfl, rfl⟩ -
  refine ⟨_, _, rfl, OpStep.pure rfl rfl (pureOp_move rfl), ?_⟩
  rintro _ _ ⟨rfl, rfl⟩ -
  refine ⟨_, _, rfl, OpStep.pure rfl rfl (opN_indexArr0 arr66 rfl rfl (by omega)), ?_⟩
  rintro _ _ ⟨rfl, rfl⟩ -
  refine ⟨_, _, rfl, OpStep.load rfl rfl (loadOp_obj (u := wV (kTab.getD n 0)) sc62 rfl (by repeat (first | exact List.Mem.head _ | apply List.Mem.tail)) (get_map (by simp [kTab]; omega))), ?_⟩
  rintro _ _ ⟨rfl, rfl⟩ -
  refine ⟨_, _, rfl, OpStep.pure rfl rfl (pureOp_move rfl), ?_⟩
  rintro _ _ ⟨rfl, rfl⟩ -
  refine ⟨_, _, rfl, OpStep.pure rfl rfl (opN_indexArr0 arr66 rfl rfl (by omega)), ?_⟩
  rintro _ _ ⟨rfl, rfl⟩ -
  refine ⟨_, _, rfl, OpStep.load rfl rfl (loadOp_obj (u := wV ((spreadF bs).getD n 0)) sc62 rfl (by repeat (first | exact List.Mem.head _ | apply List.Mem.tail)) (get_map (by simp [spreadF_length]; omega))), ?_⟩
  rintro _ _ ⟨rfl, rfl⟩ -
  refine ⟨_, _, rfl, OpStep.call rfl rfl (callOp Try.call49 rfl) (spin_c _ 6 (by decide) _), ?_⟩
  rintro _ _ ⟨_, _, ⟨rfl, rfl⟩, rfl, rfl⟩ -
  refine ⟨_, _, rfl, OpStep.call rfl rfl (callOp Try.call49 rfl) (spin_c _ 11 (by decide) _), ?_⟩
  rintro _ _ ⟨_, _, ⟨rfl, rfl⟩, rfl, rfl⟩ -
  refine ⟨_, _, rfl, OpStep.pure rfl rfl (op32_xor rfl rfl), ?_⟩
  rintro _ _ ⟨rfl, rfl⟩ -
  refine ⟨_, _, rfl, OpStep.call rfl rfl (callOp Try.call49 rfl) (spin_c _ 25 (by decide) _), ?_⟩
  rintro _ _ ⟨_, _, ⟨rfl, rfl⟩, rfl, rfl⟩ -
  refine ⟨_, _, rfl, OpStep.pure rfl rfl (op32_xor rfl rfl), ?_⟩
  rintro _ _ ⟨rfl, rfl⟩ -
  refine ⟨_, _, rfl, OpStep.pure rfl rfl (op32_add rfl rfl), ?_⟩
  rintro _ _ ⟨rfl, rfl⟩ -
  refine ⟨_, _, rfl, OpStep.pure rfl rfl (op32_add rfl rfl), ?_⟩
  rintro _ _ ⟨rfl, rfl⟩ -
  refine ⟨_, _, rfl, OpStep.pure rfl rfl (op32_add rfl rfl), ?_⟩
  rintro _ _ ⟨rfl, rfl⟩ -
  refine ⟨_, _, rfl, OpStep.pure rfl rfl (op32_add rfl rfl), ?_⟩
  rintro _ _ ⟨rfl, rfl⟩ -
  refine ⟨_, _, rfl, OpStep.pure rfl rfl (pureOp_assign rfl), ?_⟩
  rintro _ _ ⟨rfl, rfl⟩ -
  refine AWp.forget ?_ (sub_put (i := 2) rfl (sub_put (i := 4) rfl (sub_put (i := 5) rfl (sub_put (i := 6) rfl (sub_put (i := 7) rfl (sub_put (i := 8) rfl (sub_put (i := 9) rfl (sub_put (i := 10) rfl (sub_put (i := 11) rfl (sub_put (i := 18) rfl (sub_put (i := 19) rfl (sub_nil))))))))))))
  refine AWp.seq ?_
  refine AWp.draw [(0, .pure), (2, .pure), (5, .pure), (8, .pure), (9, .pure), (10, .load), (11, .pure), (12, .pure), (13, .pure), (14, .load), (15, .pure), (16, .pure), (17, .pure), (18, .load), (19, .pure), (20, .load), (21, .pure), (22, .pure), (1, .call), (3, .call), (4, .pure), (6, .call), (7, .pure), (23, .pure), (24, .pure)] rfl (by decide +kernel) (fun _ _ _ p h => AWp.perm h p.symm) ?_
  refine ⟨_, _, rfl, OpStep.pure rfl rfl (pureOp_move rfl), ?_⟩
  rintro _ _ ⟨rfl, rfl⟩ -
  refine ⟨_, _, rfl, OpStep.pure rfl rfl (pureOp_move rfl), ?_⟩
  rintro _ _ ⟨rfl, rfl⟩ -
  refine ⟨_, _, rfl, OpStep.pure rfl rfl (pureOp_move rfl), ?_⟩
  rintro _ _ ⟨rfl, rfl⟩ -
  refine ⟨_, _, rfl, OpStep.pure rfl rfl (pureOp_move rfl), ?_⟩
  rintro _ _ ⟨rfl, rfl⟩ -
  refine ⟨_, _, rfl, OpStep.pure rfl rfl (opN_indexArr0 (i := 1) arr63 rfl rfl (by omega)), ?_⟩
  rintro _ _ ⟨rfl, rfl⟩ -
  refine ⟨_, _, rfl, OpStep.load rfl rfl (loadOp_obj (u := wV (ws.getD (1) 0)) sc62 rfl (by repeat (first | exact List.Mem.head _ | apply List.Mem.tail)) (by first | exact get_map (by omega) | exact get_app (get_map (by omega)))), ?_⟩
  rintro _ _ ⟨rfl, rfl⟩ -
  refine ⟨_, _, rfl, OpStep.pure rfl rfl (op32_and rfl rfl), ?_⟩
  rintro _ _ ⟨rfl, rfl⟩ -
  refine ⟨_, _, rfl, OpStep.pure rfl rfl (pureOp_move rfl), ?_⟩
  rintro _ _ ⟨rfl, rfl⟩ -
  refine ⟨_, _, rfl, OpStep.pure rfl rfl (opN_indexArr0 (i := 2) arr63 rfl rfl (by omega)), ?_⟩
  rintro _ _ ⟨rfl, rfl⟩ -
  refine ⟨_, _, rfl, OpStep.load rfl rfl (loadOp_obj (u := wV (ws.getD (2) 0)) sc62 rfl (by repeat (first | exact List.Mem.head _ | apply List.Mem.tail)) (by first | exact get_map (by omega) | exact get_app (get_map (by omega)))), ?_⟩
  rintro _ _ ⟨rfl, rfl⟩ -
  refine ⟨_, _, rfl, OpStep.pure rfl rfl (op32_and rfl rfl), ?_⟩
  rintro _ _ ⟨rfl, rfl⟩ -
  refine ⟨_, _, rfl, OpStep.pure rfl rfl (op32_xor rfl rfl), ?_⟩
  rintro _ _ ⟨rfl, rfl⟩ -
  refine ⟨_, _, rfl, OpStep.pure rfl rfl (opN_indexArr0 (i := 1) arr63 rfl rfl (by omega)), ?_⟩
  rintro _ _ ⟨rfl, rfl⟩ -
  refine ⟨_, _, rfl, OpStep.load rfl rfl (loadOp_obj (u := wV (ws.getD (1) 0)) sc62 rfl (by repeat (first | exact List.Mem.head _ | apply List.Mem.tail)) (by first | exact get_map (by omega) | exact get_app (get_map (by omega)))), ?_⟩
  rintro _ _ ⟨rfl, rfl⟩ -
  refine ⟨_, _, rfl, OpStep.pure rfl rfl (opN_indexArr0 (i := 2) arr63 rfl rfl (by omega)), ?_⟩
  rintro _ _ ⟨rfl, rfl⟩ -
  refine ⟨_, _, rfl, OpStep.load rfl rfl (loadOp_obj (u := wV (ws.getD (2) 0)) sc62 rfl (by repeat (first | exact List.Mem.head _ | apply List.Mem.tail)) (by first | exact get_map (by omega) | exact get_app (get_map (by omega)))), ?_⟩
  rintro _ _ ⟨rfl, rfl⟩ -
  refine ⟨_, _, rfl, OpStep.pure rfl rfl (op32_and rfl rfl), ?_⟩
  rintro _ _ ⟨rfl, rfl⟩ -
  refine ⟨_, _, rfl, OpStep.pure rfl rfl (op32_xor rfl rfl), ?_⟩
  rintro _ _ ⟨rfl, rfl⟩ -
  refine ⟨_, _, rfl, OpStep.call rfl rfl (callOp Try.call49 rfl) (spin_c _ 2 (by decide) _), ?_⟩
  rintro _ _ ⟨_, _, ⟨rfl, rfl⟩, rfl, rfl⟩ -
  refine ⟨_, _, rfl, OpStep.call rfl rfl (callOp Try.call49 rfl) (spin_c _ 13 (by decide) _), ?_⟩
  rintro _ _ ⟨_, _, ⟨rfl, rfl⟩, rfl, rfl⟩ -
  refine ⟨_, _, rfl, OpStep.pure rfl rfl (op32_xor rfl rfl), ?_⟩
  rintro _ _ ⟨rfl, rfl⟩ -
  refine ⟨_, _, rfl, OpStep.call rfl rfl (callOp Try.call49 rfl) (spin_c _ 22 (by decide) _), ?_⟩
  rintro _ _ ⟨_, _, ⟨rfl, rfl⟩, rfl, rfl⟩ -
  refine ⟨_, _, rfl, OpStep.pure rfl rfl (op32_xor rfl rfl), ?_⟩
  rintro _ _ ⟨rfl, rfl⟩ -
  refine ⟨_, _, rfl, OpStep.pure rfl rfl (op32_add rfl rfl), ?_⟩
  rintro _ _ ⟨rfl, rfl⟩ -
  refine ⟨_, _, rfl, OpStep.pure rfl rfl (pureOp_assign rfl), ?_⟩
  rintro _ _ ⟨rfl, rfl⟩ -
  refine AWp.forget ?_ (sub_put (i := 2) rfl (sub_put (i := 4) rfl (sub_put (i := 5) rfl (sub_put (i := 6) rfl (sub_put (i := 7) rfl (sub_put (i := 8) rfl (sub_put (i := 9) rfl (sub_put (i := 10) rfl (sub_put (i := 11) rfl (sub_put (i := 12) rfl (sub_put (i := 18) rfl (sub_put (i := 19) rfl (sub_nil)))))))))))))
  refine AWp.region ?_
  refine OpsW.pure rfl rfl (pureOp_move rfl) ?_
  refine OpsW.pure rfl rfl (pureOp_move rfl) ?_
  refine OpsW.pure rfl rfl (op32_add rfl rfl) ?_
  refine OpsW.pure rfl rfl (opN_indexArr0 (i := 0) arr63 rfl rfl (by omega)) ?_
  refine OpsW.load rfl rfl (loadOp_obj (u := wV (ws.getD (0) 0)) sc62 rfl (by repeat (first | exact List.Mem.head _ | apply List.Mem.tail)) (by first | exact get_map (by omega) | exact get_app (get_map (by omega)))) ?_
  refine OpsW.pure rfl rfl (opN_indexArr0 (i := 1) arr63 rfl rfl (by omega)) ?_
  refine OpsW.load rfl rfl (loadOp_obj (u := wV (ws.getD (1) 0)) sc62 rfl (by repeat (first | exact List.Mem.head _ | apply List.Mem.tail)) (by first | exact get_map (by omega) | exact get_app (get_map (by omega)))) ?_
  refine OpsW.pure rfl rfl (opN_indexArr0 (i := 2) arr63 rfl rfl (by omega)) ?_
  refine OpsW.load rfl rfl (loadOp_obj (u := wV (ws.getD (2) 0)) sc62 rfl (by repeat (first | exact List.Mem.head _ | apply List.Mem.tail)) (by first | exact get_map (by omega) | exact get_app (get_map (by omega)))) ?_
  refine OpsW.pure rfl rfl (opN_indexArr0 (i := 3) arr63 rfl rfl (by omega)) ?_
  refine OpsW.load rfl rfl (loadOp_obj (u := wV (ws.getD (3) 0)) sc62 rfl (by repeat (first | exact List.Mem.head _ | apply List.Mem.tail)) (by first | exact get_map (by omega) | exact get_app (get_map (by omega)))) ?_
  refine OpsW.pure rfl rfl (pureOp_move rfl) ?_
  refine OpsW.pure rfl rfl (op32_add rfl rfl) ?_
  refine OpsW.pure rfl rfl (opN_indexArr0 (i := 4) arr63 rfl rfl (by omega)) ?_
  refine OpsW.load rfl rfl (loadOp_obj (u := wV (ws.getD (4) 0)) sc62 rfl (by repeat (first | exact List.Mem.head _ | apply List.Mem.tail)) (by first | exact get_map (by omega) | exact get_app (get_map (by omega)))) ?_
  refine OpsW.pure rfl rfl (opN_indexArr0 (i := 5) arr63 rfl rfl (by omega)) ?_
  refine OpsW.load rfl rfl (loadOp_obj (u := wV (ws.getD (5) 0)) sc62 rfl (by repeat (first | exact List.Mem.head _ | apply List.Mem.tail)) (by first | exact get_map (by omega) | exact get_app (get_map (by omega)))) ?_
  refine OpsW.pure rfl rfl (opN_indexArr0 (i := 6) arr63 rfl rfl (by omega)) ?_
  refine OpsW.load rfl rfl (loadOp_obj (u := wV (ws.getD (6) 0)) sc62 rfl (by repeat (first | exact List.Mem.head _ | apply List.Mem.tail)) (by first | exact get_map (by omega) | exact get_app (get_map (by omega)))) ?_
  refine OpsW.pure rfl rfl (opBuildArr arr63 zt63 (by simp) rfl rfl (by first | exact cells_rfl rfl | simp [Value.cells])) ?_
  refine OpsW.upd rfl rfl (by repeat (first | exact Pos.here | apply Pos.there)) (lop_storeAllN 8 Try.sizeOf63 rfl rfl (by simp [hlen]) rfl (one_rfl rfl)) ?_
  rintro _ _ ⟨rfl, rfl⟩
  refine OpsW.nil ?_
  refine AWp.forget ?_ (sub_put (i := 2) rfl (sub_put (i := 4) rfl (sub_put (i := 5) rfl (sub_put (i := 6) rfl (sub_put (i := 7) rfl (sub_put (i := 8) rfl (sub_put (i := 9) rfl (sub_put (i := 10) rfl (sub_put (i := 11) rfl (sub_put (i := 12) rfl (sub_put (i := 18) rfl (sub_put (i := 19) rfl (sub_nil)))))))))))))
  refine AWp.region ?_
  refine OpsW.pure rfl rfl (opN_add (b := 1) rfl rfl (by omega)) ?_
  refine OpsW.pure rfl rfl (pureOp_move rfl) ?_
  refine OpsW.forget ?_ (sub_put (i := 18) rfl (sub_put (i := 2) rfl (sub_put (i := 4) rfl (sub_put (i := 5) rfl (sub_put (i := 6) rfl (sub_put (i := 7) rfl (sub_nil)))))))
  refine OpsW.keep (L' := [.obj b7 _, .obj b6 _, .obj b5 _, .obj b4 _, .obj b2 _]) (by repeat (first | exact Sel.nil | (apply Sel.cons; (repeat (first | exact Ext.here | apply Ext.there))))) ?_
  refine OpsW.nil ?_
  exact ⟨_, by omega, n + 1, rfl, by omega, rfl, rfl, by rw [roundsF, hws]; rfl⟩
  have hn64 : n = 64 := by omega
  subst hn64
  subst hws
  refine AWp.exit (exit_here ?_)
  refine AWp.seq ?_
  refine AWp.seq ?_
  refine AWp.region ?_
  refine OpsW.pure rfl rfl (pureOp_move rfl) ?_
  refine OpsW.nil ?_
  refine AWp.forget ?_ (sub_put (i := 2) rfl (sub_put (i := 4) rfl (sub_put (i := 5) rfl (sub_put (i := 6) rfl (sub_put (i := 7) rfl (sub_put (i := 18) rfl (sub_put (i := 19) rfl (sub_put (i := 100) rfl (sub_nil)))))))))
  refine AWp.block ?_
  refine AWp.forget ?_ (sub_put (i := 100) rfl (sub_put (i := 2) rfl (sub_put (i := 4) rfl (sub_put (i := 7) rfl (sub_nil)))))
  refine AWp.keep (L' := [.obj b2 _, .obj b7 _, .obj b4 _]) (by repeat (first | exact Sel.nil | (apply Sel.cons; (repeat (first | exact Ext.here | apply Ext.there))))) ?_
  have hwl : (roundsF (spreadF bs) 64 s).length = 8 := roundsF_length _ _ hs 64
  generalize hws : roundsF (spreadF bs) 64 s = ws at hwl ⊢
  have hsl : s.length = ws.length := by omega
  refine AWp.loop (fun N m' T' L' => ∃ n : Nat, N = 8 - n ∧ n ≤ 8 ∧ m' = m ∧ T' = put (put (put (put (tnil) 7 (.pointer (some ⟨b7, 0, none⟩))) 4 (.pointer (some ⟨b4, 0, none⟩))) 2 (.pointer (some ⟨b2, 0, none⟩))) 100 (iV n) ∧ L' = [.obj b2 ((addAcc s ws n).map wV), .obj b7 (ws.map wV), .obj b4 (List.replicate 8 (.int .u32 0))]) _ (⟨0, rfl, by omega, rfl, rfl, by simp [addAcc]⟩) ?_
  rintro _ m _ _ ⟨n, rfl, hn, rfl, rfl, rfl⟩
  refine AWp.seq ?_
  refine AWp.region ?_
  refine OpsW.pure rfl rfl (opN_lss (b := 8) rfl rfl) ?_
  refine OpsW.nil ?_
  refine AWp.forget ?_ (sub_put (i := 2) rfl (sub_put (i := 4) rfl (sub_put (i := 7) rfl (sub_put (i := 100) rfl (sub_put (i := 101) rfl (sub_nil))))))
  refine AWp.seq ?_
  refine AWp.condP rfl (fun ht101 => ?_) (fun ht101 => ?_)
  refine AWp.skip ?_
  refine AWp.seq ?_
  refine AWp.block ?_
  refine AWp.seq ?_
  refine AWp.region ?_
  refine OpsW.pure rfl rfl (pureOp_move rfl) ?_
  refine OpsW.pure rfl rfl (pureOp_assign rfl) ?_
  refine OpsW.nil ?_
  refine AWp.forget ?_ (sub_put (i := 2) rfl (sub_put (i := 4) rfl (sub_put (i := 7) rfl (sub_put (i := 13) rfl (sub_put (i := 100) rfl (sub_put (i := 101) rfl (sub_nil)))))))
  refine AWp.draw [(0, .pure), (1, .pure), (2, .load), (3, .pure), (4, .pure), (5, .load), (6, .pure), (7, .pure), (8, .wr)] rfl (by decide +kernel) (fun _ _ _ p h => AWp.perm h p.symm) ?_
  refine ⟨_, _, rfl, OpStep.pure rfl rfl (pureOp_move rfl), ?_⟩
  rintro _ _ ⟨rfl, rfl⟩ -
  refine ⟨_, _, rfl, OpStep.pure rfl rfl (opN_indexArr0 arr63 rfl rfl (by omega)), ?_⟩
  rintro _ _ ⟨rfl, rfl⟩ -
  refine ⟨_, _, rfl, OpStep.load rfl rfl (loadOp_obj (u := wV ((addAcc s ws n).getD n 0)) sc62 rfl (by repeat (first | exact List.Mem.head _ | apply List.Mem.tail)) (get_map (by rw [addAcc_length hsl]; omega))), ?_⟩
  rintro _ _ ⟨rfl, rfl⟩ -
  refine ⟨_, _, rfl, OpStep.pure rfl rfl (pureOp_move rfl), ?_⟩
  rintro _ _ ⟨rfl, rfl⟩ -
  refine ⟨_, _, rfl, OpStep.pure rfl rfl (opN_indexArr0 arr63 rfl rfl (by omega)), ?_⟩
  rintro _ _ ⟨rfl, rfl⟩ -
  refine ⟨_, _, rfl, OpStep.load rfl rfl (loadOp_obj (u := wV (ws.getD n 0)) sc62 rfl (by repeat (first | exact List.Mem.head _ | apply List.Mem.tail)) (get_map (by omega))), ?_⟩
  rintro _ _ ⟨rfl, rfl⟩ -
  refine ⟨_, _, rfl, OpStep.pure rfl rfl (op32_add rfl rfl), ?_⟩
  rintro _ _ ⟨rfl, rfl⟩ -
  refine ⟨_, _, rfl, OpStep.pure rfl rfl (opN_indexArr0 arr63 rfl rfl (by omega)), ?_⟩
  rintro _ _ ⟨rfl, rfl⟩ -
  refine ⟨_, _, rfl, OpStep.wr rfl rfl (toWp (by repeat (first | exact Pos.here | apply Pos.there)) (lop_store1 Try.sizeOf62 rfl rfl rfl (by simp [addAcc_length hsl]; omega))), ?_⟩
  rintro _ _ ⟨_, ⟨_, ⟨rfl, rfl⟩, rfl⟩, rfl⟩ -
  rw [addAcc_get hsl (by omega), ← List.map_set, addAcc_set hsl (by omega)]
  refine AWp.forget ?_ (sub_put (i := 2) rfl (sub_put (i := 4) rfl (sub_put (i := 7) rfl (sub_put (i := 13) rfl (sub_put (i := 100) rfl (sub_put (i := 101) rfl (sub_nil)))))))
  refine AWp.region ?_
  refine OpsW.pure rfl rfl (opN_add (b := 1) rfl rfl (by omega)) ?_
  refine OpsW.pure rfl rfl (pureOp_move rfl) ?_
  refine OpsW.forget ?_ (sub_put (i := 100) rfl (sub_put (i := 2) rfl (sub_put (i := 4) rfl (sub_put (i := 7) rfl (sub_nil)))))
  refine OpsW.keep (L' := [.obj b2 _, .obj b7 _, .obj b4 _]) (by repeat (first | exact Sel.nil | (apply Sel.cons; (repeat (first | exact Ext.here | apply Ext.there))))) ?_
  refine OpsW.nil ?_
  exact ⟨_, by omega, n + 1, rfl, by omega, rfl, rfl, rfl⟩
  have hn8 : n = 8 := by omega
  subst hn8
  refine AWp.exit (exit_here ?_)
  refine AWp.seq ?_
  refine AWp.region ?_
  refine OpsW.load rfl rfl (loadAll rfl (by repeat (first | exact List.Mem.head _ | apply List.Mem.tail)) (by simp [addAcc_length hsl, hs]) ag63) ?_
  refine OpsW.upd rfl rfl (by repeat (first | exact Pos.here | apply Pos.there)) (lop_storeAllN 8 Try.sizeOf63 rfl rfl (by simp [addAcc_length hsl, hs]) (by simp [addAcc_length hsl, hs]) (by first | exact one_map (fun _ => rfl) _ | exact one_rfl rfl | simp [one])) ?_
  rintro _ _ ⟨rfl, rfl⟩
  refine OpsW.nil ?_
  refine AWp.forget ?_ (sub_put (i := 2) rfl (sub_put (i := 4) rfl (sub_put (i := 7) rfl (sub_put (i := 100) rfl (sub_put (i := 101) rfl (sub_nil))))))
  refine AWp.ret ?_
  refine ⟨_, [], _, permNone, resCell rfl rfl (by repeat (first | exact List.Mem.head _ | apply List.Mem.tail)) (by simp [addAcc_length hsl, hs]) ag63, ?_, rfl⟩
  rw [addAcc_all hsl hs.symm, mixF, hws]

set_option maxRecDepth 20000 in
set_option maxHeartbeats 1000000 in
theorem new_c  (m : Mem) :
    Ctr Try.prog 42 [] m [] (fun _ r L => ∃ b, r = .pointer (some ⟨b, 0, none⟩) ∧ L = [.obj b (iv0.map wV ++ [.slice none 0 0, qV 0])]) := by
  refine Ctr.intro Try.func42 rfl Try.ntmps42 (by simp) fun w0 => ?_
  refine AWp.forget ?_ (sub_nil)
  refine AWp.seq ?_
  refine AWp.region ?_
  refine OpsW.pure rfl rfl (pureOp_assign rfl) ?_
  refine OpsW.nil ?_
  refine AWp.forget ?_ (sub_put (i := 0) rfl (sub_nil))
  refine AWp.seq ?_
  refine AWp.region ?_
  refine OpsW.pure rfl rfl (opBuildArr arr63 zt63 (by simp) rfl rfl (by first | exact cells_rfl rfl | simp [Value.cells])) ?_
  refine OpsW.pure rfl rfl (opBuildStruct st78 rfl (.cons rfl rfl (by simp) (.nil))) ?_
  refine OpsW.alloc rfl rfl (allocOp_boxAgg rfl) ?_
  rintro _ _ ⟨b3, rfl, rfl⟩
  refine OpsW.pure rfl rfl (pureOp_assign rfl) ?_
  refine OpsW.nil ?_
  refine AWp.forget ?_ (sub_put (i := 0) rfl (sub_nil))
  refine AWp.ret ?_
  exact ⟨_, [.obj b3 (iv0.map wV ++ [.slice none 0 0, qV 0])], [], .refl _, res_tmp rfl rfl, b3, rfl, rfl⟩

set_option maxRecDepth 20000 in
set_option maxHeartbeats 1000000 in
theorem add_c (hb : Nat) (ws : List UInt32) (rv : Value) (rb : List UInt8) (n : UInt64) (v : Value) (bs : List UInt8) (m : Mem) (hs : ws.length = 8) (hv : Rd m v 1 (bs.map bV)) (hbd : rb.length + bs.length ≤ 1099511627776) :
    Ctr Try.prog 43 [.pointer (some ⟨hb, 0, none⟩), v] m [.obj hb (ws.map wV ++ [rv, qV n]), .sl rv 1 (rb.map bV)] (fun _ _ L => ∃ rv', L = [.obj hb ((blocks ((rb ++ bs).length / 64) ws (rb ++ bs)).map wV ++ [rv', qV (n + UInt64.ofNat bs.length)]), .sl rv' 1 (((rb ++ bs).drop (64 * ((rb ++ bs).length / 64))).map bV)]) := by
  have ho := hv.1
  refine Ctr.intro Try.func43 rfl Try.ntmps43 (by simp) fun w0 => ?_
  refine AWp.forget ?_ (sub_put (i := 0) rfl (sub_put (i := 1) rfl (sub_nil)))
  refine AWp.seq ?_
  refine AWp.region ?_
  refine OpsW.pure rfl rfl (pureOp_move rfl) ?_
  refine OpsW.pure rfl rfl (pureOp_nilCheck rfl) ?_
  refine OpsW.pure rfl rfl (pureOp_fieldAddr fa78_2 rfl) ?_
  refine OpsW.load rfl rfl (loadOp_obj (u := qV n) sc59 rfl (by repeat (first | exact List.Mem.head _ | apply List.Mem.tail)) (get_tail hs 1)) ?_
  refine OpsW.pure rfl rfl (pureOp_move rfl) ?_
  refine OpsW.pure rfl rfl (opN_len1 _ Try.underlying38 rfl (by assumption) (by simp; rfl)) ?_
  refine OpsW.pure rfl rfl (op_convI_64 Try.underlying3 Try.underlying59 rfl (by omega)) ?_
  refine OpsW.pure rfl rfl (op64_add rfl rfl) ?_
  refine OpsW.pure rfl rfl (pureOp_nilCheck rfl) ?_
  refine OpsW.pure rfl rfl (pureOp_fieldAddr fa78_2 rfl) ?_
  refine OpsW.upd rfl rfl (by repeat (first | exact Pos.here | apply Pos.there)) (lop_store1 Try.sizeOf59 rfl rfl rfl (by simp [hs])) ?_
  rintro _ _ ⟨rfl, rfl⟩
  rw [show 0 + 9 = 8 + 1 from rfl, set_tail hs 1]
  try simp only [List.set_cons_succ, List.set_cons_zero]
  refine OpsW.nil ?_
  refine AWp.forget ?_ (sub_put (i := 0) rfl (sub_put (i := 1) rfl (sub_nil)))
  refine AWp.seq ?_
  refine AWp.region ?_
  refine OpsW.pure rfl rfl (pureOp_move rfl) ?_
  refine OpsW.pure rfl rfl (pureOp_nilCheck rfl) ?_
  refine OpsW.pure rfl rfl (pureOp_fieldAddr fa78_1 rfl) ?_
  refine OpsW.load rfl rfl (loadOp_obj (u := rv) sc38 rfl (by repeat (first | exact List.Mem.head _ | apply List.Mem.tail)) (get_tail hs 0)) ?_
  refine OpsW.pure rfl rfl (pureOp_move rfl) ?_
  refine OpsW.upd rfl rfl (by repeat (first | exact Pos.here | apply Pos.there)) (lop_append (k := rb.length) slt38 ni38 rfl rfl (by simp) (src_rd (n := bs.length) (by first | exact Rd.ro (by assumption) | exact Rd.of_sl (by repeat (first | exact List.Mem.head _ | apply List.Mem.tail)) (by assumption)) (by simp) (by decide)) (by omega) (one_map (fun _ => rfl) _) (by decide) (by decide)) ?_
  rintro v20 _ ⟨hv20, rfl⟩
  rw [← List.map_append] at hv20 ⊢
  refine OpsW.pure rfl rfl (pureOp_assign rfl) ?_
  refine OpsW.nil ?_
  refine AWp.forget ?_ (sub_put (i := 0) rfl (sub_put (i := 1) rfl (sub_put (i := 4) rfl (sub_nil))))
  refine AWp.seq ?_
  refine AWp.block ?_
  refine AWp.forget ?_ (sub_put (i := 0) rfl (sub_put (i := 4) rfl (sub_nil)))
  refine AWp.keep (L' := [.obj hb _, .sl v20 1 _]) (by repeat (first | exact Sel.nil | (apply Sel.cons; (repeat (first | exact Ext.here | apply Ext.there))))) ?_
  obtain ⟨all, hall⟩ : ∃ all, all = rb ++ bs := ⟨_, rfl⟩
  rw [← hall] at hv20 ⊢
  have hal : all.length ≤ 1099511627776 := by rw [hall, List.length_append]; exact hbd
  refine AWp.loop (fun N m' T' L' => ∃ (k : Nat) (vv : Value), N = all.length / 64 - k ∧ k ≤ all.length / 64 ∧ slOk vv 1 ((all.drop (64 * k)).map bV) ∧ m' = m ∧ T' = put (put (tnil) 4 (vv)) 0 (.pointer (some ⟨hb, 0, none⟩)) ∧ L' = [.obj hb ((blocks k ws all).map wV ++ [rv, qV (n + UInt64.ofNat bs.length)]), .sl vv 1 ((all.drop (64 * k)).map bV)]) _ (⟨0, v20, rfl, by omega, hv20, rfl, rfl, rfl⟩) ?_
  rintro _ m _ _ ⟨k, vv, rfl, hk, hvv, rfl, rfl, rfl⟩
  have hbl := blocks_length k ws all hs
  refine AWp.seq ?_
  refine AWp.seq ?_
  refine AWp.region ?_
  refine OpsW.pure rfl rfl (pureOp_move rfl) ?_
  refine OpsW.pure rfl rfl (opN_len1 (all.length - 64 * k) Try.underlying38 rfl (by assumption) (by simp)) ?_
  refine OpsW.pure rfl rfl (opN_geq (b := 64) rfl rfl) ?_
  refine OpsW.nil ?_
  refine AWp.forget ?_ (sub_put (i := 0) rfl (sub_put (i := 4) rfl (sub_put (i := 23) rfl (sub_nil))))
  refine AWp.condP rfl (fun ht23 => ?_) (fun ht23 => ?_)
  refine AWp.skip ?_
  refine AWp.block ?_
  refine AWp.seq ?_
  refine AWp.draw [(0, .pure), (1, .pure), (2, .pure), (3, .pure), (4, .load), (5, .pure), (6, .pure), (7, .call), (8, .pure), (9, .pure), (10, .wr)] rfl (by decide +kernel) (fun _ _ _ p h => AWp.perm h p.symm) ?_
  have h64 : 64 ≤ all.length - 64 * k := by omega
  have hcut : slOk (slc vv 64 (all.length - 64 * k) 1) 1 ((all.drop (64 * (k + 1))).map bV) := by
    have := slc_ok (l := 64) (h := all.length - 64 * k) (n := all.length - 64 * k) hvv (by simp) (by omega) (by omega) (by decide)
    rw [← List.map_drop, ← List.map_take, List.drop_drop, List.take_of_length_le (by simp; omega)] at this
    exact this
  have hcutc : ∀ w, (Chunk.sl vv 1 ((all.drop (64 * k)).map bV)).holds w → (Chunk.sl (slc vv 64 (all.length - 64 * k) 1) 1 ((all.drop (64 * (k + 1))).map bV)).holds w := by
    intro w h
    have := cut_bytes 64 (all.length - 64 * k) (by omega) (by simp) w h
    rw [List.drop_drop, List.take_of_length_le (by simp; omega)] at this
    exact this
  refine ⟨_, _, rfl, OpStep.pure rfl rfl (pureOp_move rfl), ?_⟩
  rintro _ _ ⟨rfl, rfl⟩ -
  refine ⟨_, _, rfl, OpStep.pure rfl rfl (pureOp_move rfl), ?_⟩
  rintro _ _ ⟨rfl, rfl⟩ -
  refine ⟨_, _, rfl, OpStep.pure rfl rfl (pureOp_nilCheck rfl), ?_⟩
  rintro _ _ ⟨rfl, rfl⟩ -
  refine ⟨_, _, rfl, OpStep.pure rfl rfl (pureOp_fieldAddr fa78_0 rfl), ?_⟩
  rintro _ _ ⟨rfl, rfl⟩ -
  refine ⟨_, _, rfl, OpStep.load rfl rfl (loadPart ((blocks k ws all).map wV) rfl (by repeat (first | exact List.Mem.head _ | apply List.Mem.tail)) (by simp [hbl]) (by simp [hbl]) (by decide) ag63), ?_⟩
  rintro _ _ ⟨rfl, rfl⟩ -
  refine ⟨_, _, rfl, OpStep.pure rfl rfl (pureOp_move rfl), ?_⟩
  rintro _ _ ⟨rfl, rfl⟩ -
  refine ⟨_, _, rfl, OpStep.pure rfl rfl (pureOp_slice (n := all.length - 64 * k) 0 64 Try.underlying38 Try.sizeOf5 rfl hvv (by simp) (by decide) (.inl ⟨rfl, rfl⟩) (.inr ⟨_, _, _, rfl, rfl, rfl⟩) (by omega) (by omega)), ?_⟩
  rintro _ _ ⟨rfl, rfl⟩ -
  refine ⟨_, _, rfl, OpStep.call rfl rfl (callOp Try.call46 rfl) (mix_c (blocks k ws all) _ ((all.drop (64 * k)).take 64) _ hbl (slc_bytes 0 64 (Rd.of_sl (by repeat (first | exact List.Mem.head _ | apply List.Mem.tail)) hvv) (by omega) (by simp; omega)) (by simp; omega)), ?_⟩
  rintro _ _ ⟨_, _, ⟨rfl, rfl⟩, rfl, rfl⟩ -
  refine ⟨_, _, rfl, OpStep.pure rfl rfl (pureOp_nilCheck rfl), ?_⟩
  rintro _ _ ⟨rfl, rfl⟩ -
  refine ⟨_, _, rfl, OpStep.pure rfl rfl (pureOp_fieldAddr fa78_0 rfl), ?_⟩
  rintro _ _ ⟨rfl, rfl⟩ -
  refine ⟨_, _, rfl, OpStep.wr rfl rfl (toWp (by repeat (first | exact Pos.here | apply Pos.there)) (lop_storeAgg Try.sizeOf63 rfl rfl (by simp [mixF_length _ _ hbl]) (by simp [hbl]) (one_map (fun _ => rfl) _))), ?_⟩
  rintro _ _ ⟨_, ⟨_, ⟨rfl, rfl⟩, rfl⟩, rfl⟩ -
  rw [segs_head (by simp [hbl, mixF_length _ _ hbl])]
  refine AWp.forget ?_ (sub_put (i := 0) rfl (sub_put (i := 4) rfl (sub_put (i := 23) rfl (sub_nil))))
  refine AWp.region ?_
  refine OpsW.pure rfl rfl (pureOp_move rfl) ?_
  refine OpsW.pure rfl rfl (pureOp_slice (n := all.length - 64 * k) 64 (all.length - 64 * k) Try.underlying38 Try.sizeOf5 rfl hvv (by simp) (by decide) (.inr ⟨_, _, _, rfl, rfl, rfl⟩) (.inl ⟨rfl, rfl⟩) (by omega) (by omega)) ?_
  refine OpsW.pure rfl rfl (pureOp_assign rfl) ?_
  refine OpsW.forget ?_ (sub_put (i := 0) rfl (sub_put (i := 4) rfl (sub_nil)))
  refine OpsW.retell (.sl (slc vv 64 (all.length - 64 * k) 1) 1 ((all.drop (64 * (k + 1))).map bV)) (by repeat (first | exact Pos.here | apply Pos.there)) hcutc (fun _ h => has_cut hvv (by simp; omega) h) ?_
  refine OpsW.keep (L' := [.obj hb _, .sl (slc vv 64 (all.length - 64 * k) 1) 1 _]) (by repeat (first | exact Sel.nil | (apply Sel.cons; (repeat (first | exact Ext.here | apply Ext.there))))) ?_
  refine OpsW.nil ?_
  exact ⟨_, by omega, k + 1, slc vv 64 (all.length - 64 * k) 1, rfl, by omega, hcut, rfl, rfl, by rw [blocks_succ]⟩
  have hkk : k = all.length / 64 := by omega
  subst hkk
  refine AWp.exit (exit_here ?_)
  refine AWp.region ?_
  refine OpsW.pure rfl rfl (pureOp_move rfl) ?_
  refine OpsW.alloc rfl rfl (allocOp_buildSlice slt38 rfl rfl (by first | exact cells_rfl rfl | simp [Value.cells]) (by decide)) ?_
  rintro v37 _ ⟨hv37, hn37, rfl⟩
  refine OpsW.pure rfl rfl (pureOp_move rfl) ?_
  refine OpsW.upd rfl rfl (by repeat (first | exact Pos.here | apply Pos.there)) (lop_append (k := 0) slt38 ni38 rfl rfl (by simp) (src_rd (n := (all.length - 64 * (all.length / 64))) (by first | exact Rd.ro (by assumption) | exact Rd.of_sl (by repeat (first | exact List.Mem.head _ | apply List.Mem.tail)) (by assumption)) (by simp) (by decide)) (by omega) (one_map (fun _ => rfl) _) (by decide) (by decide)) ?_
  rintro v39 _ ⟨hv39, rfl⟩
  simp only [List.flatMap_nil, List.nil_append] at hv39 ⊢
  refine OpsW.pure rfl rfl (pureOp_nilCheck rfl) ?_
  refine OpsW.pure rfl rfl (pureOp_fieldAddr fa78_1 rfl) ?_
  refine OpsW.upd rfl rfl (by repeat (first | exact Pos.here | apply Pos.there)) (lop_store1 Try.sizeOf38 rfl rfl (one_sl hv39) (by simp [blocks_length _ _ all hs])) ?_
  rintro _ _ ⟨rfl, rfl⟩
  refine OpsW.nil ?_
  refine ⟨_, [.obj hb _, .sl v39 1 _], _, Sel.perm (by repeat (first | exact Sel.nil | (apply Sel.cons; (repeat (first | exact Ext.here | apply Ext.there))))), res_none rfl, v39, ?_⟩
  rw [show 0 + 8 = 8 + 0 from rfl, set_tail (blocks_length _ _ all hs) 0, hall]
  rfl

end Go.Proofs.Ytbhjaoedlggbbaa.Sep
