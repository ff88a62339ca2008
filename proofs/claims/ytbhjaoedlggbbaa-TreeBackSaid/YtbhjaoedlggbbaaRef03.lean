/- The walks of the package ref03. -/
import Derived.Test.YtbhjaoedlggbbaaTreeC
import Derived.Test.YtbhjaoedlggbbaaTree1
import Derived.Test.YtbhjaoedlggbbaaProg
namespace Go.Proofs.Ytbhjaoedlggbbaa.Sep
open Go Go.RowKit
set_option linter.unusedVariables false
set_option linter.unusedSimpArgs false
theorem slt60 : SlT Try.prog 60 62 1 4 [.int .u32 0] := ⟨Try.underlying60, ⟨_, _, (by kernel_rfl : Try.prog.info? 62 = some Try.t62), rfl, rfl, rfl, rfl, rfl⟩⟩


set_option maxRecDepth 20000 in
set_option maxHeartbeats 1000000 in
theorem right_c (x : UInt32) (n : Nat) (m : Mem) (hn : n ≤ 32) :
    Ctr Try.prog 45 [wV x, .int .u64 (n : Int)] m [] (fun _ r L => r = wV (spinF x n) ∧ L = []) := by
  refine Ctr.intro Try.func45 rfl Try.ntmps45 (by simp) fun w0 => ?_
  refine AWp.forget ?_ (sub_put (i := 0) rfl (sub_put (i := 1) rfl (sub_nil)))
  refine AWp.seq ?_
  refine AWp.region ?_
  refine OpsW.pure rfl rfl (pureOp_assign rfl) ?_
  refine OpsW.nil ?_
  refine AWp.forget ?_ (sub_put (i := 0) rfl (sub_put (i := 1) rfl (sub_put (i := 4) rfl (sub_nil))))
  refine AWp.seq ?_
  refine AWp.region ?_
  refine OpsW.pure rfl rfl (pureOp_move rfl) ?_
  refine OpsW.pure rfl rfl (pureOp_move rfl) ?_
  refine OpsW.pure rfl rfl (op32_shr (n := n) rfl rfl) ?_
  refine OpsW.pure rfl rfl (pureOp_move rfl) ?_
  refine OpsW.pure rfl rfl (pureOp_move rfl) ?_
  refine OpsW.pure rfl rfl (opU_sub (a := 32) rfl rfl (by omega) (by omega)) ?_
  refine OpsW.pure rfl rfl (op32_shl (n := 32 - n) rfl rfl) ?_
  refine OpsW.pure rfl rfl (op32_or rfl rfl) ?_
  refine OpsW.pure rfl rfl (pureOp_assign rfl) ?_
  refine OpsW.nil ?_
  refine AWp.forget ?_ (sub_put (i := 0) rfl (sub_put (i := 1) rfl (sub_put (i := 4) rfl (sub_nil))))
  refine AWp.ret ?_
  exact ⟨_, [], _, permNone, res_tmp rfl rfl, rfl, rfl⟩

set_option maxRecDepth 20000 in
set_option maxHeartbeats 1000000 in
theorem table_c  (m : Mem) :
    Ctr Try.prog 33 [] m [] (fun _ r L => slOk r 1 (kTab.map wV) ∧ L = [.sl r 1 (kTab.map wV)]) := by
  refine Ctr.intro Try.func33 rfl Try.ntmps33 (by simp) fun w0 => ?_
  refine AWp.forget ?_ (sub_nil)
  refine AWp.seq ?_
  refine AWp.region ?_
  refine OpsW.pure rfl rfl (pureOp_assign rfl) ?_
  refine OpsW.nil ?_
  refine AWp.forget ?_ (sub_put (i := 0) rfl (sub_nil))
  refine AWp.seq ?_
  refine AWp.region ?_
  refine OpsW.alloc rfl rfl (allocOp_buildSlice slt60 rfl rfl (by first | exact cells_rfl rfl | simp [Value.cells]) (by decide)) ?_
  rintro v1 _ ⟨hv1, hn1, rfl⟩
  generalize hz : List.flatMap (fun x : Value => x.cells.toList) _ = z at hv1 ⊢
  obtain rfl : z = kTab.map wV := by rw [← hz]; rfl
  refine OpsW.pure rfl rfl (pureOp_assign rfl) ?_
  refine OpsW.nil ?_
  refine AWp.forget ?_ (sub_put (i := 0) rfl (sub_nil))
  refine AWp.ret ?_
  exact ⟨_, [.sl v1 1 _], _, Sel.perm (by repeat (first | exact Sel.nil | (apply Sel.cons; (repeat (first | exact Ext.here | apply Ext.there))))), res_tmp rfl rfl, hv1, rfl⟩

set_option maxRecDepth 20000 in
set_option maxHeartbeats 1000000 in
theorem padded_c (v : Value) (t : List UInt8) (m : Mem) (hv : Rd m v 1 (t.map bV)) (hbd : t.length ≤ 549755813888) :
    Ctr Try.prog 34 [v] m [] (fun _ r L => slOk r 1 ((padded t (UInt64.ofNat t.length)).map bV) ∧ L = [.sl r 1 ((padded t (UInt64.ofNat t.length)).map bV)]) := by
  have ho := hv.1
  refine Ctr.intro Try.func34 rfl Try.ntmps34 (by simp) fun w0 => ?_
  refine AWp.forget ?_ (sub_put (i := 0) rfl (sub_nil))
  refine AWp.seq ?_
  refine AWp.region ?_
  refine OpsW.pure rfl rfl (pureOp_assign rfl) ?_
  refine OpsW.nil ?_
  refine AWp.forget ?_ (sub_put (i := 0) rfl (sub_put (i := 2) rfl (sub_nil)))
  refine AWp.seq ?_
  refine AWp.region ?_
  refine OpsW.pure rfl rfl (pureOp_assign rfl) ?_
  refine OpsW.nil ?_
  refine AWp.forget ?_ (sub_put (i := 0) rfl (sub_put (i := 2) rfl (sub_put (i := 3) rfl (sub_nil))))
  refine AWp.seq ?_
  refine AWp.region ?_
  refine OpsW.pure rfl rfl (pureOp_move rfl) ?_
  refine OpsW.pure rfl rfl (pureOp_move rfl) ?_
  refine OpsW.w rfl rfl (allocOp_appendNil slt38 ni38 rfl rfl (src_rd (n := t.length) (by first | exact Rd.ro (by assumption) | exact Rd.of_sl (by repeat (first | exact List.Mem.head _ | apply List.Mem.tail)) (by assumption)) (by simp) (by decide)) (by omega) (one_map (fun _ => rfl) _) (by decide) (by decide)) ?_
  rintro v8 _ ⟨hv8, rfl⟩
  refine OpsW.pure rfl rfl (pureOp_assign rfl) ?_
  refine OpsW.nil ?_
  refine AWp.forget ?_ (sub_put (i := 0) rfl (sub_put (i := 2) rfl (sub_put (i := 3) rfl (sub_nil))))
  refine AWp.seq ?_
  refine AWp.region ?_
  refine OpsW.pure rfl rfl (pureOp_move rfl) ?_
  refine OpsW.alloc rfl rfl (allocOp_buildSlice slt38 rfl rfl (by first | exact cells_rfl rfl | simp [Value.cells]) (by decide)) ?_
  rintro v10 _ ⟨hv10, hn10, rfl⟩
  refine OpsW.upd rfl rfl (by repeat (first | exact Pos.here | apply Pos.there)) (lop_append (k := t.length) slt38 ni38 rfl rfl (by simp) (src_rd (n := 1) (by first | exact Rd.ro (by assumption) | exact Rd.of_sl (by repeat (first | exact List.Mem.head _ | apply List.Mem.tail)) (by assumption)) rfl (by decide)) (by omega) (one_rfl rfl) (by decide) (by decide)) ?_
  rintro v11 _ ⟨hv11, rfl⟩
  rw [show List.map bV t ++ List.flatMap (fun x => x.cells.toList) [Value.int .u8 128] = List.map bV (t ++ [0x80] ++ List.replicate 0 0) from by simp; rfl] at hv11 ⊢
  refine OpsW.pure rfl rfl (pureOp_assign rfl) ?_
  refine OpsW.nil ?_
  refine AWp.forget ?_ (sub_put (i := 0) rfl (sub_put (i := 2) rfl (sub_put (i := 3) rfl (sub_nil))))
  refine AWp.seq ?_
  refine AWp.block ?_
  refine AWp.forget ?_ (sub_put (i := 0) rfl (sub_put (i := 3) rfl (sub_nil)))
  refine AWp.keep (L' := [.sl v11 1 _]) (by repeat (first | exact Sel.nil | (apply Sel.cons; (repeat (first | exact Ext.here | apply Ext.there))))) ?_
  have hpz := padZ_lt t.length
  refine AWp.loop (fun N m' T' L' => ∃ (k : Nat) (vv : Value), N = padZ t.length - k ∧ k ≤ padZ t.length ∧ slOk vv 1 ((t ++ [0x80] ++ List.replicate k 0).map bV) ∧ m' = m ∧ T' = put (put (tnil) 3 (vv)) 0 (v) ∧ L' = [.sl vv 1 ((t ++ [0x80] ++ List.replicate k 0).map bV)]) _ (⟨0, v11, rfl, Nat.zero_le _, hv11, rfl, rfl, rfl⟩) ?_
  rintro _ m _ _ ⟨k, vv, rfl, hk, hvv, rfl, rfl, rfl⟩
  refine AWp.seq ?_
  refine AWp.seq ?_
  refine AWp.region ?_
  refine OpsW.pure rfl rfl (pureOp_move rfl) ?_
  refine OpsW.pure rfl rfl (opN_len1 (t.length + 1 + k) Try.underlying38 rfl (by assumption) (by simp; omega)) ?_
  refine OpsW.pure rfl rfl (opN_rem (b := 64) rfl rfl (by omega) (by omega)) ?_
  refine OpsW.pure rfl rfl (opN_neq (b := 56) rfl rfl) ?_
  refine OpsW.nil ?_
  refine AWp.forget ?_ (sub_put (i := 0) rfl (sub_put (i := 3) rfl (sub_put (i := 15) rfl (sub_nil))))
  refine AWp.condP rfl (fun ht15 => ?_) (fun ht15 => ?_)
  refine AWp.skip ?_
  refine AWp.block ?_
  refine AWp.region ?_
  have hk2 : k < padZ t.length := Nat.lt_of_le_of_ne hk (fun e => ht15 ((padZ_spec _ _ hk).2 e))
  refine OpsW.pure rfl rfl (pureOp_move rfl) ?_
  refine OpsW.alloc rfl rfl (allocOp_buildSlice slt38 rfl rfl (by first | exact cells_rfl rfl | simp [Value.cells]) (by decide)) ?_
  rintro v17 _ ⟨hv17, hn17, rfl⟩
  refine OpsW.upd rfl rfl (by repeat (first | exact Pos.here | apply Pos.there)) (lop_append (k := (t.length + 1 + k)) slt38 ni38 rfl rfl (by simp; omega) (src_rd (n := 1) (by first | exact Rd.ro (by assumption) | exact Rd.of_sl (by repeat (first | exact List.Mem.head _ | apply List.Mem.tail)) (by assumption)) rfl (by decide)) (by omega) (one_rfl rfl) (by decide) (by decide)) ?_
  rintro v18 _ ⟨hv18, rfl⟩
  rw [show List.map bV (t ++ [0x80] ++ List.replicate k 0) ++ List.flatMap (fun x => x.cells.toList) [Value.int .u8 0] = List.map bV (t ++ [0x80] ++ List.replicate (k + 1) 0) from by rw [List.replicate_succ']; simp; rfl] at hv18 ⊢
  refine OpsW.pure rfl rfl (pureOp_assign rfl) ?_
  refine OpsW.forget ?_ (sub_put (i := 0) rfl (sub_put (i := 3) rfl (sub_nil)))
  refine OpsW.keep (L' := [.sl v18 1 _]) (by repeat (first | exact Sel.nil | (apply Sel.cons; (repeat (first | exact Ext.here | apply Ext.there))))) ?_
  refine OpsW.nil ?_
  exact ⟨_, by omega, k + 1, v18, rfl, by omega, hv18, rfl, rfl, rfl⟩
  have hkk : k = padZ t.length := (padZ_spec _ _ hk).1 (by omega)
  subst hkk
  refine AWp.exit (exit_here ?_)
  refine AWp.seq ?_
  refine AWp.region ?_
  refine OpsW.pure rfl rfl (pureOp_move rfl) ?_
  refine OpsW.pure rfl rfl (opN_len1 t.length Try.underlying38 rfl (by assumption) (by simp)) ?_
  refine OpsW.pure rfl rfl (op_convI_64 Try.underlying3 Try.underlying59 rfl (by omega)) ?_
  refine OpsW.pure rfl rfl (op64_mul (b := 8) rfl rfl) ?_
  refine OpsW.pure rfl rfl (pureOp_assign rfl) ?_
  refine OpsW.nil ?_
  refine AWp.forget ?_ (sub_put (i := 0) rfl (sub_put (i := 3) rfl (sub_put (i := 4) rfl (sub_put (i := 15) rfl (sub_nil)))))
  refine AWp.seq ?_
  refine AWp.seq ?_
  refine AWp.region ?_
  refine OpsW.pure rfl rfl (pureOp_assign rfl) ?_
  refine OpsW.nil ?_
  refine AWp.forget ?_ (sub_put (i := 0) rfl (sub_put (i := 3) rfl (sub_put (i := 4) rfl (sub_put (i := 5) rfl (sub_put (i := 15) rfl (sub_nil))))))
  refine AWp.block ?_
  refine AWp.forget ?_ (sub_put (i := 3) rfl (sub_put (i := 4) rfl (sub_put (i := 5) rfl (sub_nil))))
  obtain ⟨pz, hpzd⟩ : ∃ pz, pz = t ++ [0x80] ++ List.replicate (padZ t.length) 0 := ⟨_, rfl⟩
  rw [← hpzd] at hvv ⊢
  have hpl : pz.length = t.length + 1 + padZ t.length := by rw [hpzd]; simp; omega
  obtain ⟨nn, hnn⟩ : ∃ nn, nn = UInt64.ofNat t.length := ⟨_, rfl⟩
  rw [← hnn]
  refine AWp.loop (fun N m' T' L' => ∃ (j : Nat) (vv : Value), N = 8 - j ∧ j ≤ 8 ∧ slOk vv 1 ((pz ++ (lenBytes nn).take j).map bV) ∧ m' = m ∧ T' = put (put (put (tnil) 5 (iV j)) 4 (qV (nn * 8))) 3 (vv) ∧ L' = [.sl vv 1 ((pz ++ (lenBytes nn).take j).map bV)]) _ (⟨0, vv, rfl, by omega, by simpa using hvv, rfl, rfl, by simp⟩) ?_
  rintro _ m _ _ ⟨j, vv, rfl, hj, hvv, rfl, rfl, rfl⟩
  refine AWp.seq ?_
  refine AWp.seq ?_
  refine AWp.region ?_
  refine OpsW.pure rfl rfl (pureOp_move rfl) ?_
  refine OpsW.pure rfl rfl (opN_lss (b := 8) rfl rfl) ?_
  refine OpsW.nil ?_
  refine AWp.forget ?_ (sub_put (i := 3) rfl (sub_put (i := 4) rfl (sub_put (i := 5) rfl (sub_put (i := 24) rfl (sub_nil)))))
  refine AWp.condP rfl (fun ht24 => ?_) (fun ht24 => ?_)
  refine AWp.skip ?_
  refine AWp.seq ?_
  refine AWp.block ?_
  refine AWp.region ?_
  refine OpsW.pure rfl rfl (pureOp_move rfl) ?_
  refine OpsW.pure rfl rfl (pureOp_move rfl) ?_
  refine OpsW.pure rfl rfl (pureOp_move rfl) ?_
  refine OpsW.pure rfl rfl (opN_mul (a := 8) rfl rfl (by omega)) ?_
  refine OpsW.pure rfl rfl (opN_sub (a := 56) rfl rfl (by omega)) ?_
  refine OpsW.pure rfl rfl (op_convI_uint (k := .u64) Try.underlying3 Try.underlying68 rfl (by omega)) ?_
  refine OpsW.pure rfl rfl (op64_shr (n := (56 - 8 * j)) rfl rfl) ?_
  refine OpsW.pure rfl rfl (op_conv64_8 Try.underlying59 Try.underlying5 rfl) ?_
  refine OpsW.alloc rfl rfl (allocOp_buildSlice slt38 rfl rfl (by first | exact cells_rfl rfl | simp [Value.cells]) (by decide)) ?_
  rintro v35 _ ⟨hv35, hn35, rfl⟩
  refine OpsW.upd rfl rfl (by repeat (first | exact Pos.here | apply Pos.there)) (lop_append (k := (pz.length + j)) slt38 ni38 rfl rfl (by simp [lenBytes]; omega) (src_rd (n := 1) (by first | exact Rd.ro (by assumption) | exact Rd.of_sl (by repeat (first | exact List.Mem.head _ | apply List.Mem.tail)) (by assumption)) rfl (by decide)) (by omega) (one_rfl rfl) (by decide) (by decide)) ?_
  rintro v36 _ ⟨hv36, rfl⟩
  rw [show List.map bV (pz ++ (lenBytes nn).take j) ++ List.flatMap (fun x => x.cells.toList) [bV (shr64 (nn * 8) (56 - 8 * j)).toUInt8] = List.map bV (pz ++ (lenBytes nn).take (j + 1)) from by rw [lenBytes_up nn j (by omega)]; simp; rfl] at hv36 ⊢
  refine OpsW.pure rfl rfl (pureOp_assign rfl) ?_
  refine OpsW.nil ?_
  refine AWp.forget ?_ (sub_put (i := 3) rfl (sub_put (i := 4) rfl (sub_put (i := 5) rfl (sub_put (i := 24) rfl (sub_nil)))))
  refine AWp.region ?_
  refine OpsW.pure rfl rfl (pureOp_move rfl) ?_
  refine OpsW.pure rfl rfl (opN_add (b := 1) rfl rfl (by omega)) ?_
  refine OpsW.pure rfl rfl (pureOp_assign rfl) ?_
  refine OpsW.forget ?_ (sub_put (i := 3) rfl (sub_put (i := 4) rfl (sub_put (i := 5) rfl (sub_nil))))
  refine OpsW.keep (L' := [.sl v36 1 _]) (by repeat (first | exact Sel.nil | (apply Sel.cons; (repeat (first | exact Ext.here | apply Ext.there))))) ?_
  refine OpsW.nil ?_
  exact ⟨_, by omega, j + 1, v36, rfl, by omega, hv36, rfl, rfl, rfl⟩
  obtain rfl : j = 8 := by omega
  refine AWp.exit (exit_here ?_)
  refine AWp.seq ?_
  refine AWp.region ?_
  refine OpsW.pure rfl rfl (pureOp_move rfl) ?_
  refine OpsW.pure rfl rfl (pureOp_assign rfl) ?_
  refine OpsW.nil ?_
  refine AWp.forget ?_ (sub_put (i := 2) rfl (sub_put (i := 3) rfl (sub_put (i := 4) rfl (sub_put (i := 5) rfl (sub_put (i := 24) rfl (sub_nil))))))
  refine AWp.ret ?_
  rw [show pz ++ (lenBytes nn).take 8 = padded t nn from by rw [hpzd, List.take_of_length_le (by simp [lenBytes])]; rfl, hnn] at hvv ⊢
  exact ⟨_, [.sl vv 1 _], _, Sel.perm (by repeat (first | exact Sel.nil | (apply Sel.cons; (repeat (first | exact Ext.here | apply Ext.there))))), res_tmp rfl rfl, hvv, rfl⟩

set_option maxRecDepth 20000 in
set_option maxHeartbeats 2000000 in
theorem words_c (v : Value) (all : List UInt8) (a : Nat) (m : Mem) (hv : Rd m v 1 (all.map bV)) (hal : a + 64 ≤ all.length) (hab : all.length ≤ 1099511627776) :
    Ctr Try.prog 36 [v, iV a] m [] (fun _ r L => r = .agg ((spreadF (all.drop a)).map wV).toArray ∧ L = []) := by
  have ho := hv.1
  refine Ctr.intro Try.func36 rfl Try.ntmps36 (by simp) fun w0 => ?_
  refine AWp.forget ?_ (sub_put (i := 0) rfl (sub_put (i := 1) rfl (sub_nil)))
  refine AWp.seq ?_
  refine AWp.region ?_
  refine OpsW.alloc rfl rfl (allocOp_alloc zt66) ?_
  rintro _ _ ⟨b4, rfl, rfl⟩
  refine OpsW.nil ?_
  refine AWp.forget ?_ (sub_put (i := 0) rfl (sub_put (i := 1) rfl (sub_put (i := 4) rfl (sub_nil))))
  refine AWp.seq ?_
  refine AWp.region ?_
  refine OpsW.alloc rfl rfl (allocOp_alloc zt66) ?_
  rintro _ _ ⟨b5, rfl, rfl⟩
  refine OpsW.nil ?_
  refine AWp.forget ?_ (sub_put (i := 0) rfl (sub_put (i := 1) rfl (sub_put (i := 4) rfl (sub_put (i := 5) rfl (sub_nil)))))
  refine AWp.seq ?_
  refine AWp.seq ?_
  refine AWp.region ?_
  refine OpsW.pure rfl rfl (pureOp_assign rfl) ?_
  refine OpsW.nil ?_
  refine AWp.forget ?_ (sub_put (i := 0) rfl (sub_put (i := 1) rfl (sub_put (i := 4) rfl (sub_put (i := 5) rfl (sub_put (i := 6) rfl (sub_nil))))))
  refine AWp.block ?_
  refine AWp.forget ?_ (sub_put (i := 0) rfl (sub_put (i := 1) rfl (sub_put (i := 4) rfl (sub_put (i := 5) rfl (sub_put (i := 6) rfl (sub_nil))))))
  refine AWp.loop (fun N m' T' L' => ∃ ws : List UInt32, N = 64 - ws.length ∧ ws.length ≤ 16 ∧ ws = (List.range ws.length).map (firstW (all.drop a)) ∧ m' = m ∧ T' = put (put (put (put (put (tnil) 6 (iV ws.length)) 5 (.pointer (some ⟨b5, 0, none⟩))) 4 (.pointer (some ⟨b4, 0, none⟩))) 1 (iV a)) 0 (v) ∧ L' = [.obj b5 (ws.map wV ++ List.replicate (64 - ws.length) (.int .u32 0)), .obj b4 (List.replicate 64 (.int .u32 0))]) _ (⟨[], rfl, by simp, rfl, rfl, rfl, rfl⟩) ?_
  rintro _ m _ _ ⟨ws, rfl, hk, hws, rfl, rfl, rfl⟩
  refine AWp.seq ?_
  refine AWp.seq ?_
  refine AWp.region ?_
  refine OpsW.pure rfl rfl (pureOp_move rfl) ?_
  refine OpsW.pure rfl rfl (opN_lss (b := 16) rfl rfl) ?_
  refine OpsW.nil ?_
  refine AWp.forget ?_ (sub_put (i := 0) rfl (sub_put (i := 1) rfl (sub_put (i := 4) rfl (sub_put (i := 5) rfl (sub_put (i := 6) rfl (sub_put (i := 11) rfl (sub_nil)))))))
  refine AWp.condP rfl (fun ht11 => ?_) (fun ht11 => ?_)
  refine AWp.skip ?_
  refine AWp.seq ?_
  refine AWp.block ?_
  refine AWp.draw [(0, .pure), (1, .pure), (2, .pure), (3, .pure), (4, .pure), (5, .pure), (6, .pure), (7, .load), (8, .pure), (9, .pure), (10, .pure), (11, .pure), (12, .pure), (13, .pure), (14, .pure), (15, .pure), (16, .pure), (17, .load), (18, .pure), (19, .pure), (20, .pure), (21, .pure), (22, .pure), (23, .pure), (24, .pure), (25, .pure), (26, .pure), (27, .pure), (28, .load), (29, .pure), (30, .pure), (31, .pure), (32, .pure), (33, .pure), (34, .pure), (35, .pure), (36, .pure), (37, .pure), (38, .pure), (39, .load), (40, .pure), (41, .pure), (42, .pure), (43, .wr)] rfl (by decide +kernel) (fun _ _ _ p h => AWp.perm h p.symm) ?_
  refine ⟨_, _, rfl, OpStep.pure rfl rfl (pureOp_move rfl), ?_⟩
  rintro _ _ ⟨rfl, rfl⟩ -
  refine ⟨_, _, rfl, OpStep.pure rfl rfl (pureOp_move rfl), ?_⟩
  rintro _ _ ⟨rfl, rfl⟩ -
  refine ⟨_, _, rfl, OpStep.pure rfl rfl (pureOp_move rfl), ?_⟩
  rintro _ _ ⟨rfl, rfl⟩ -
  refine ⟨_, _, rfl, OpStep.pure rfl rfl (pureOp_move rfl), ?_⟩
  rintro _ _ ⟨rfl, rfl⟩ -
  refine ⟨_, _, rfl, OpStep.pure rfl rfl (opN_mul (a := 4) rfl rfl (by omega)), ?_⟩
  rintro _ _ ⟨rfl, rfl⟩ -
  refine ⟨_, _, rfl, OpStep.pure rfl rfl (opN_add rfl rfl (by omega)), ?_⟩
  rintro _ _ ⟨rfl, rfl⟩ -
  refine ⟨_, _, rfl, OpStep.pure rfl rfl (opN_indexSl1 Try.underlying38 Try.sizeOf5 rfl (by assumption) rfl (by simp; omega)), ?_⟩
  rintro _ _ ⟨rfl, rfl⟩ -
  refine ⟨_, _, rfl, OpStep.load rfl rfl (loadOp_elem (u := bV (all.getD (a + 4 * ws.length) 0)) sc5 rfl (by first | exact Rd.ro (by assumption) | exact Rd.of_sl (by repeat (first | exact List.Mem.head _ | apply List.Mem.tail)) (by assumption)) (get_map (by omega))), ?_⟩
  rintro _ _ ⟨rfl, rfl⟩ -
  refine ⟨_, _, rfl, OpStep.pure rfl rfl (op_conv8_32 Try.underlying5 Try.underlying62 rfl), ?_⟩
  rintro _ _ ⟨rfl, rfl⟩ -
  refine ⟨_, _, rfl, OpStep.pure rfl rfl (op32_mul (b := 16777216) rfl rfl), ?_⟩
  rintro _ _ ⟨rfl, rfl⟩ -
  refine ⟨_, _, rfl, OpStep.pure rfl rfl (pureOp_move rfl), ?_⟩
  rintro _ _ ⟨rfl, rfl⟩ -
  refine ⟨_, _, rfl, OpStep.pure rfl rfl (pureOp_move rfl), ?_⟩
  rintro _ _ ⟨rfl, rfl⟩ -
  refine ⟨_, _, rfl, OpStep.pure rfl rfl (pureOp_move rfl), ?_⟩
  rintro _ _ ⟨rfl, rfl⟩ -
  refine ⟨_, _, rfl, OpStep.pure rfl rfl (opN_mul (a := 4) rfl rfl (by omega)), ?_⟩
  rintro _ _ ⟨rfl, rfl⟩ -
  refine ⟨_, _, rfl, OpStep.pure rfl rfl (opN_add rfl rfl (by omega)), ?_⟩
  rintro _ _ ⟨rfl, rfl⟩ -
  refine ⟨_, _, rfl, OpStep.pure rfl rfl (opN_add (b := 1) rfl rfl (by omega)), ?_⟩
  rintro _ _ ⟨rfl, rfl⟩ -
  refine ⟨_, _, rfl, OpStep.pure rfl rfl (opN_indexSl1 Try.underlying38 Try.sizeOf5 rfl (by assumption) rfl (by simp; omega)), ?_⟩
  rintro _ _ ⟨rfl, rfl⟩ -
  refine ⟨_, _, rfl, OpStep.load rfl rfl (loadOp_elem (u := bV (all.getD (a + 4 * ws.length + 1) 0)) sc5 rfl (by first | exact Rd.ro (by assumption) | exact Rd.of_sl (by repeat (first | exact List.Mem.head _ | apply List.Mem.tail)) (by assumption)) (get_map (by omega))), ?_⟩
  rintro _ _ ⟨rfl, rfl⟩ -
  refine ⟨_, _, rfl, OpStep.pure rfl rfl (op_conv8_32 Try.underlying5 Try.underlying62 rfl), ?_⟩
  rintro _ _ ⟨rfl, rfl⟩ -
  refine ⟨_, _, rfl, OpStep.pure rfl rfl (op32_mul (b := 65536) rfl rfl), ?_⟩
  rintro _ _ ⟨rfl, rfl⟩ -
  refine ⟨_, _, rfl, OpStep.pure rfl rfl (op32_add rfl rfl), ?_⟩
  rintro _ _ ⟨rfl, rfl⟩ -
  refine ⟨_, _, rfl, OpStep.pure rfl rfl (pureOp_move rfl), ?_⟩
  rintro _ _ ⟨rfl, rfl⟩ -
  refine ⟨_, _, rfl, OpStep.pure rfl rfl (pureOp_move rfl), ?_⟩
  rintro _ _ ⟨rfl, rfl⟩ -
  refine ⟨_, _, rfl, OpStep.pure rfl rfl (pureOp_move rfl), ?_⟩
  rintro _ _ ⟨rfl, rfl⟩ -
  refine ⟨_, _, rfl, OpStep.pure rfl rfl (opN_mul (a := 4) rfl rfl (by omega)), ?_⟩
  rintro _ _ ⟨rfl, rfl⟩ -
  refine ⟨_, _, rfl, OpStep.pure rfl rfl (opN_add rfl rfl (by omega)), ?_⟩
  rintro _ _ ⟨rfl, rfl⟩ -
  refine ⟨_, _, rfl, OpStep.pure rfl rfl (opN_add (b := 2) rfl rfl (by omega)), ?_⟩
  rintro _ _ ⟨rfl, rfl⟩ -
  refine ⟨_, _, rfl, OpStep.pure rfl rfl (opN_indexSl1 Try.underlying38 Try.sizeOf5 rfl (by assumption) rfl (by simp; omega)), ?_⟩
  rintro _ _ ⟨rfl, rfl⟩ -
  refine ⟨_, _, rfl, OpStep.load rfl rfl (loadOp_elem (u := bV (all.getD (a + 4 * ws.length + 2) 0)) sc5 rfl (by first | exact Rd.ro (by assumption) | exact Rd.of_sl (by repeat (first | exact List.Mem.head _ | apply List.Mem.tail)) (by assumption)) (get_map (by omega))), ?_⟩
  rintro _ _ ⟨rfl, rfl⟩ -
  refine ⟨_, _, rfl, OpStep.pure rfl rfl (op_conv8_32 Try.underlying5 Try.underlying62 rfl), ?_⟩
  rintro _ _ ⟨rfl, rfl⟩ -
  refine ⟨_, _, rfl, OpStep.pure rfl rfl (op32_mul (b := 256) rfl rfl), ?_⟩
  rintro _ _ ⟨rfl, rfl⟩ -
  refine ⟨_, _, rfl, OpStep.pure rfl rfl (op32_add rfl rfl), ?_⟩
  rintro _ _ ⟨rfl, rfl⟩ -
  refine ⟨_, _, rfl, OpStep.pure rfl rfl (pureOp_move rfl), ?_⟩
  rintro _ _ ⟨rfl, rfl⟩ -
  refine ⟨_, _, rfl, OpStep.pure rfl rfl (pureOp_move rfl), ?_⟩
  rintro _ _ ⟨rfl, rfl⟩ -
  refine ⟨_, _, rfl, OpStep.pure rfl rfl (pureOp_move rfl), ?_⟩
  rintro _ _ ⟨rfl, rfl⟩ -
  refine ⟨_, _, rfl, OpStep.pure rfl rfl (opN_mul (a := 4) rfl rfl (by omega)), ?_⟩
  rintro _ _ ⟨rfl, rfl⟩ -
  refine ⟨_, _, rfl, OpStep.pure rfl rfl (opN_add rfl rfl (by omega)), ?_⟩
  rintro _ _ ⟨rfl, rfl⟩ -
  refine ⟨_, _, rfl, OpStep.pure rfl rfl (opN_add (b := 3) rfl rfl (by omega)), ?_⟩
  rintro _ _ ⟨rfl, rfl⟩ -
  refine ⟨_, _, rfl, OpStep.pure rfl rfl (opN_indexSl1 Try.underlying38 Try.sizeOf5 rfl (by assumption) rfl (by simp; omega)), ?_⟩
  rintro _ _ ⟨rfl, rfl⟩ -
  refine ⟨_, _, rfl, OpStep.load rfl rfl (loadOp_elem (u := bV (all.getD (a + 4 * ws.length + 3) 0)) sc5 rfl (by first | exact Rd.ro (by assumption) | exact Rd.of_sl (by repeat (first | exact List.Mem.head _ | apply List.Mem.tail)) (by assumption)) (get_map (by omega))), ?_⟩
  rintro _ _ ⟨rfl, rfl⟩ -
  refine ⟨_, _, rfl, OpStep.pure rfl rfl (op_conv8_32 Try.underlying5 Try.underlying62 rfl), ?_⟩
  rintro _ _ ⟨rfl, rfl⟩ -
  refine ⟨_, _, rfl, OpStep.pure rfl rfl (op32_add rfl rfl), ?_⟩
  rintro _ _ ⟨rfl, rfl⟩ -
  refine ⟨_, _, rfl, OpStep.pure rfl rfl (opN_indexArr0 arr66 rfl rfl (by omega)), ?_⟩
  rintro _ _ ⟨rfl, rfl⟩ -
  refine ⟨_, _, rfl, OpStep.wr rfl rfl (toWp (by repeat (first | exact Pos.here | apply Pos.there)) (lop_store1 Try.sizeOf62 rfl rfl rfl (by simp <;> omega))), ?_⟩
  rintro _ _ ⟨_, ⟨_, ⟨rfl, rfl⟩, rfl⟩, rfl⟩ -
  rw [firstW_drop all a _ (by omega), set_ws rfl (by omega)]
  refine AWp.forget ?_ (sub_put (i := 0) rfl (sub_put (i := 1) rfl (sub_put (i := 4) rfl (sub_put (i := 5) rfl (sub_put (i := 6) rfl (sub_put (i := 11) rfl (sub_nil)))))))
  refine AWp.region ?_
  refine OpsW.pure rfl rfl (pureOp_move rfl) ?_
  refine OpsW.pure rfl rfl (opN_add (b := 1) rfl rfl (by omega)) ?_
  refine OpsW.pure rfl rfl (pureOp_assign rfl) ?_
  refine OpsW.forget ?_ (sub_put (i := 0) rfl (sub_put (i := 1) rfl (sub_put (i := 4) rfl (sub_put (i := 5) rfl (sub_put (i := 6) rfl (sub_nil))))))
  refine OpsW.keep (L' := [.obj b5 _, .obj b4 _]) (by repeat (first | exact Sel.nil | (apply Sel.cons; (repeat (first | exact Ext.here | apply Ext.there))))) ?_
  refine OpsW.nil ?_
  exact ⟨_, by simp; omega, ws ++ [firstW (all.drop a) ws.length], rfl, by simp; omega, by simp [List.range_succ, ← hws], rfl, by simp, by simp⟩
  have h16 : ws.length = 16 := by omega
  rw [h16] at hws
  subst hws
  refine AWp.exit (exit_here ?_)
  refine AWp.seq ?_
  refine AWp.seq ?_
  refine AWp.region ?_
  refine OpsW.pure rfl rfl (pureOp_assign rfl) ?_
  refine OpsW.nil ?_
  refine AWp.forget ?_ (sub_put (i := 0) rfl (sub_put (i := 1) rfl (sub_put (i := 4) rfl (sub_put (i := 5) rfl (sub_put (i := 6) rfl (sub_put (i := 7) rfl (sub_put (i := 11) rfl (sub_nil))))))))
  refine AWp.block ?_
  refine AWp.forget ?_ (sub_put (i := 4) rfl (sub_put (i := 5) rfl (sub_put (i := 7) rfl (sub_nil))))
  refine AWp.loop (fun N m' T' L' => ∃ n : Nat, N = 48 - n ∧ n ≤ 48 ∧ m' = m ∧ T' = put (put (put (tnil) 7 (iV (n + 16))) 5 (.pointer (some ⟨b5, 0, none⟩))) 4 (.pointer (some ⟨b4, 0, none⟩)) ∧ L' = [.obj b5 ((grow n ((List.range 16).map (firstW (all.drop a)))).map wV ++ List.replicate (64 - (n + 16)) (.int .u32 0)), .obj b4 (List.replicate 64 (.int .u32 0))]) _ (⟨0, rfl, by omega, rfl, rfl, by simp [grow]⟩) ?_
  rintro _ m _ _ ⟨n, rfl, hn, rfl, rfl, rfl⟩
  have hlen : (grow n ((List.range 16).map (firstW (all.drop a)))).length = n + 16 := by rw [grow_length]; simp; omega
  generalize hws : grow n ((List.range 16).map (firstW (all.drop a))) = ws at hlen ⊢
  refine AWp.seq ?_
  refine AWp.seq ?_
  refine AWp.region ?_
  refine OpsW.pure rfl rfl (pureOp_move rfl) ?_
  refine OpsW.pure rfl rfl (opN_lss (b := 64) rfl rfl) ?_
  refine OpsW.nil ?_
  refine AWp.forget ?_ (sub_put (i := 4) rfl (sub_put (i := 5) rfl (sub_put (i := 7) rfl (sub_put (i := 58) rfl (sub_nil)))))
  refine AWp.condP rfl (fun ht58 => ?_) (fun ht58 => ?_)
  refine AWp.skip ?_
  refine AWp.seq ?_
  refine AWp.block ?_
  refine AWp.seq ?_
  refine AWp.draw [(0, .pure), (1, .pure), (2, .pure), (3, .load), (5, .pure), (6, .pure), (7, .pure), (8, .load), (11, .pure), (12, .pure), (13, .pure), (14, .load), (15, .pure), (4, .call), (9, .call), (10, .pure), (16, .pure), (17, .pure)] rfl (by decide +kernel) (fun _ _ _ p h => AWp.perm h p.symm) ?_
  refine ⟨_, _, rfl, OpStep.pure rfl rfl (pureOp_move rfl), ?_⟩
  rintro _ _ ⟨rfl, rfl⟩ -
  refine ⟨_, _, rfl, OpStep.pure rfl rfl (opN_sub (b := 15) rfl rfl (by omega)), ?_⟩
  rintro _ _ ⟨rfl, rfl⟩ -
  refine ⟨_, _, rfl, OpStep.pure rfl rfl (opN_indexArr0 arr66 rfl rfl (by omega)), ?_⟩
  rintro _ _ ⟨rfl, rfl⟩ -
  refine ⟨_, _, rfl, OpStep.load rfl rfl (loadOp_obj (u := wV (ws.getD (n + 16 - 15) 0)) sc62 rfl (by repeat (first | exact List.Mem.head _ | apply List.Mem.tail)) (by first | exact get_map (by omega) | exact get_app (get_map (by omega)))), ?_⟩
  rintro _ _ ⟨rfl, rfl⟩ -
  refine ⟨_, _, rfl, OpStep.pure rfl rfl (pureOp_move rfl), ?_⟩
  rintro _ _ ⟨rfl, rfl⟩ -
  refine ⟨_, _, rfl, OpStep.pure rfl rfl (opN_sub (b := 15) rfl rfl (by omega)), ?_⟩
  rintro _ _ ⟨rfl, rfl⟩ -
  refine ⟨_, _, rfl, OpStep.pure rfl rfl (opN_indexArr0 arr66 rfl rfl (by omega)), ?_⟩
  rintro _ _ ⟨rfl, rfl⟩ -
  refine ⟨_, _, rfl, OpStep.load rfl rfl (loadOp_obj (u := wV (ws.getD (n + 16 - 15) 0)) sc62 rfl (by repeat (first | exact List.Mem.head _ | apply List.Mem.tail)) (by first | exact get_map (by omega) | exact get_app (get_map (by omega)))), ?_⟩
  rintro _ _ ⟨rfl, rfl⟩ -
  refine ⟨_, _, rfl, OpStep.pure rfl rfl (pureOp_move rfl), ?_⟩
  rintro _ _ ⟨rfl, rfl⟩ -
  refine ⟨_, _, rfl, OpStep.pure rfl rfl (opN_sub (b := 15) rfl rfl (by omega)), ?_⟩
  rintro _ _ ⟨rfl, rfl⟩ -
  refine ⟨_, _, rfl, OpStep.pure rfl rfl (opN_indexArr0 arr66 rfl rfl (by omega)), ?_⟩
  rintro _ _ ⟨rfl, rfl⟩ -
  refine ⟨_, _, rfl, OpStep.load rfl rfl (loadOp_obj (u := wV (ws.getD (n + 16 - 15) 0)) sc62 rfl (by repeat (first | exact List.Mem.head _ | apply List.Mem.tail)) (by first | exact get_map (by omega) | exact get_app (get_map (by omega)))), ?_⟩
  rintro _ _ ⟨rfl, rfl⟩ -
  refine ⟨_, _, rfl, OpStep.pure rfl rfl (op32_shr (n := 3) rfl rfl), ?_⟩
  rintro _ _ ⟨rfl, rfl⟩ -
  refine ⟨_, _, rfl, OpStep.call rfl rfl (callOp Try.call45 rfl) (right_c _ 7 _ (by decide)), ?_⟩
  rintro _ _ ⟨_, _, ⟨rfl, rfl⟩, rfl, rfl⟩ -
  refine ⟨_, _, rfl, OpStep.call rfl rfl (callOp Try.call45 rfl) (right_c _ 18 _ (by decide)), ?_⟩
  rintro _ _ ⟨_, _, ⟨rfl, rfl⟩, rfl, rfl⟩ -
  refine ⟨_, _, rfl, OpStep.pure rfl rfl (op32_xor rfl rfl), ?_⟩
  rintro _ _ ⟨rfl, rfl⟩ -
  refine ⟨_, _, rfl, OpStep.pure rfl rfl (op32_xor rfl rfl), ?_⟩
  rintro _ _ ⟨rfl, rfl⟩ -
  refine ⟨_, _, rfl, OpStep.pure rfl rfl (pureOp_assign rfl), ?_⟩
  rintro _ _ ⟨rfl, rfl⟩ -
  refine AWp.forget ?_ (sub_put (i := 4) rfl (sub_put (i := 5) rfl (sub_put (i := 7) rfl (sub_put (i := 8) rfl (sub_put (i := 58) rfl (sub_nil))))))
  refine AWp.seq ?_
  refine AWp.draw [(0, .pure), (1, .pure), (2, .pure), (3, .load), (5, .pure), (6, .pure), (7, .pure), (8, .load), (11, .pure), (12, .pure), (13, .pure), (14, .load), (15, .pure), (4, .call), (9, .call), (10, .pure), (16, .pure), (17, .pure)] rfl (by decide +kernel) (fun _ _ _ p h => AWp.perm h p.symm) ?_
  refine ⟨_, _, rfl, OpStep.pure rfl rfl (pureOp_move rfl), ?_⟩
  rintro _ _ ⟨rfl, rfl⟩ -
  refine ⟨_, _, rfl, OpStep.pure rfl rfl (opN_sub (b := 2) rfl rfl (by omega)), ?_⟩
  rintro _ _ ⟨rfl, rfl⟩ -
  refine ⟨_, _, rfl, OpStep.pure rfl rfl (opN_indexArr0 arr66 rfl rfl (by omega)), ?_⟩
  rintro _ _ ⟨rfl, rfl⟩ -
  refine ⟨_, _, rfl, OpStep.load rfl rfl (loadOp_obj (u := wV (ws.getD (n + 16 - 2) 0)) sc62 rfl (by repeat (first | exact List.Mem.head _ | apply List.Mem.tail)) (by first | exact get_map (by omega) | exact get_app (get_map (by omega)))), ?_⟩
  rintro _ _ ⟨rfl, rfl⟩ -
  refine ⟨_, _, rfl, OpStep.pure rfl rfl (pureOp_move rfl), ?_⟩
  rintro _ _ ⟨rfl, rfl⟩ -
  refine ⟨_, _, rfl, OpStep.pure rfl rfl (opN_sub (b := 2) rfl rfl (by omega)), ?_⟩
  rintro _ _ ⟨rfl, rfl⟩ -
  refine ⟨_, _, rfl, OpStep.pure rfl rfl (opN_indexArr0 arr66 rfl rfl (by omega)), ?_⟩
  rintro _ _ ⟨rfl, rfl⟩ -
  refine ⟨_, _, rfl, OpStep.load rfl rfl (loadOp_obj (u := wV (ws.getD (n + 16 - 2) 0)) sc62 rfl (by repeat (first | exact List.Mem.head _ | apply List.Mem.tail)) (by first | exact get_map (by omega) | exact get_app (get_map (by omega)))), ?_⟩
  rintro _ _ ⟨rfl, rfl⟩ -
  refine ⟨_, _, rfl, OpStep.pure rfl rfl (pureOp_move rfl), ?_⟩
  rintro _ _ ⟨rfl, rfl⟩ -
  refine ⟨_, _, rfl, OpStep.pure rfl rfl (opN_sub (b := 2) rfl rfl (by omega)), ?_⟩
  rintro _ _ ⟨rfl, rfl⟩ -
  refine ⟨_, _, rfl, OpStep.pure rfl rfl (opN_indexArr0 arr66 rfl rfl (by omega)), ?_⟩
  rintro _ _ ⟨rfl, rfl⟩ -
  refine ⟨_, _, rfl, OpStep.load rfl rfl (loadOp_obj (u := wV (ws.getD (n + 16 - 2) 0)) sc62 rfl (by repeat (first | exact List.Mem.head _ | apply List.Mem.tail)) (by first | exact get_map (by omega) | exact get_app (get_map (by omega)))), ?_⟩
  rintro _ _ ⟨rfl, rfl⟩ -
  refine ⟨_, _, rfl, OpStep.pure rfl rfl (op32_shr (n := 10) rfl rfl), ?_⟩
  rintro _ _ ⟨rfl, rfl⟩ -
  refine ⟨_, _, rfl, OpStep.call rfl rfl (callOp Try.call45 rfl) (right_c _ 17 _ (by decide)), ?_⟩
  rintro _ _ ⟨_, _, ⟨rfl, rfl⟩, rfl, rfl⟩ -
  refine ⟨_, _, rfl, OpStep.call rfl rfl (callOp Try.call45 rfl) (right_c _ 19 _ (by decide)), ?_⟩
  rintro _ _ ⟨_, _, ⟨rfl, rfl⟩, rfl, rfl⟩ -
  refine ⟨_, _, rfl, OpStep.pure rfl rfl (op32_xor rfl rfl), ?_⟩
  rintro _ _ ⟨rfl, rfl⟩ -
  refine ⟨_, _, rfl, OpStep.pure rfl rfl (op32_xor rfl rfl), ?_⟩
  rintro _ _ ⟨rfl, rfl⟩ -
  refine ⟨_, _, rfl, OpStep.pure rfl rfl (pureOp_assign rfl), ?_⟩
  rintro _ _ ⟨rfl, rfl⟩ -
  refine AWp.forget ?_ (sub_put (i := 4) rfl (sub_put (i := 5) rfl (sub_put (i := 7) rfl (sub_put (i := 8) rfl (sub_put (i := 9) rfl (sub_put (i := 58) rfl (sub_nil)))))))
  refine AWp.draw [(0, .pure), (1, .pure), (2, .pure), (3, .pure), (4, .load), (5, .pure), (6, .pure), (7, .pure), (8, .pure), (9, .pure), (10, .load), (11, .pure), (12, .pure), (13, .pure), (14, .pure), (15, .wr)] rfl (by decide +kernel) (fun _ _ _ p h => AWp.perm h p.symm) ?_
  refine ⟨_, _, rfl, OpStep.pure rfl rfl (pureOp_move rfl), ?_⟩
  rintro _ _ ⟨rfl, rfl⟩ -
  refine ⟨_, _, rfl, OpStep.pure rfl rfl (pureOp_move rfl), ?_⟩
  rintro _ _ ⟨rfl, rfl⟩ -
  refine ⟨_, _, rfl, OpStep.pure rfl rfl (opN_sub (b := 16) rfl rfl (by omega)), ?_⟩
  rintro _ _ ⟨rfl, rfl⟩ -
  refine ⟨_, _, rfl, OpStep.pure rfl rfl (opN_indexArr0 arr66 rfl rfl (by omega)), ?_⟩
  rintro _ _ ⟨rfl, rfl⟩ -
  refine ⟨_, _, rfl, OpStep.load rfl rfl (loadOp_obj (u := wV (ws.getD (n + 16 - 16) 0)) sc62 rfl (by repeat (first | exact List.Mem.head _ | apply List.Mem.tail)) (by first | exact get_map (by omega) | exact get_app (get_map (by omega)))), ?_⟩
  rintro _ _ ⟨rfl, rfl⟩ -
  refine ⟨_, _, rfl, OpStep.pure rfl rfl (pureOp_move rfl), ?_⟩
  rintro _ _ ⟨rfl, rfl⟩ -
  refine ⟨_, _, rfl, OpStep.pure rfl rfl (op32_add rfl rfl), ?_⟩
  rintro _ _ ⟨rfl, rfl⟩ -
  refine ⟨_, _, rfl, OpStep.pure rfl rfl (pureOp_move rfl), ?_⟩
  rintro _ _ ⟨rfl, rfl⟩ -
  refine ⟨_, _, rfl, OpStep.pure rfl rfl (opN_sub (b := 7) rfl rfl (by omega)), ?_⟩
  rintro _ _ ⟨rfl, rfl⟩ -
  refine ⟨_, _, rfl, OpStep.pure rfl rfl (opN_indexArr0 arr66 rfl rfl (by omega)), ?_⟩
  rintro _ _ ⟨rfl, rfl⟩ -
  refine ⟨_, _, rfl, OpStep.load rfl rfl (loadOp_obj (u := wV (ws.getD (n + 16 - 7) 0)) sc62 rfl (by repeat (first | exact List.Mem.head _ | apply List.Mem.tail)) (by first | exact get_map (by omega) | exact get_app (get_map (by omega)))), ?_⟩
  rintro _ _ ⟨rfl, rfl⟩ -
  refine ⟨_, _, rfl, OpStep.pure rfl rfl (op32_add rfl rfl), ?_⟩
  rintro _ _ ⟨rfl, rfl⟩ -
  refine ⟨_, _, rfl, OpStep.pure rfl rfl (pureOp_move rfl), ?_⟩
  rintro _ _ ⟨rfl, rfl⟩ -
  refine ⟨_, _, rfl, OpStep.pure rfl rfl (op32_add rfl rfl), ?_⟩
  rintro _ _ ⟨rfl, rfl⟩ -
  refine ⟨_, _, rfl, OpStep.pure rfl rfl (opN_indexArr0 arr66 rfl rfl (by omega)), ?_⟩
  rintro _ _ ⟨rfl, rfl⟩ -
  refine ⟨_, _, rfl, OpStep.wr rfl rfl (toWp (by repeat (first | exact Pos.here | apply Pos.there)) (lop_store1 Try.sizeOf62 rfl rfl rfl (by simp <;> omega))), ?_⟩
  rintro _ _ ⟨_, ⟨_, ⟨rfl, rfl⟩, rfl⟩, rfl⟩ -
  rw [set_ws hlen (by omega)]
  refine AWp.forget ?_ (sub_put (i := 4) rfl (sub_put (i := 5) rfl (sub_put (i := 7) rfl (sub_put (i := 8) rfl (sub_put (i := 9) rfl (sub_put (i := 58) rfl (sub_nil)))))))
  refine AWp.region ?_
  refine OpsW.pure rfl rfl (pureOp_move rfl) ?_
  refine OpsW.pure rfl rfl (opN_add (b := 1) rfl rfl (by omega)) ?_
  refine OpsW.pure rfl rfl (pureOp_assign rfl) ?_
  refine OpsW.forget ?_ (sub_put (i := 4) rfl (sub_put (i := 5) rfl (sub_put (i := 7) rfl (sub_nil))))
  refine OpsW.keep (L' := [.obj b5 _, .obj b4 _]) (by repeat (first | exact Sel.nil | (apply Sel.cons; (repeat (first | exact Ext.here | apply Ext.there))))) ?_
  refine OpsW.nil ?_
  exact ⟨_, by omega, n + 1, rfl, by omega, rfl, rfl, by rw [grow_snoc, hws, sched, hlen]⟩
  have hn48 : n = 48 := by omega
  subst hn48
  subst hws
  refine AWp.exit (exit_here ?_)
  refine AWp.seq ?_
  refine AWp.region ?_
  refine OpsW.load rfl rfl (loadAll rfl (by repeat (first | exact List.Mem.head _ | apply List.Mem.tail)) (by simp [grow_length]) ag66) ?_
  refine OpsW.upd rfl rfl (by repeat (first | exact Pos.here | apply Pos.there)) (lop_storeAllN 64 Try.sizeOf66 rfl rfl (by simp [grow_length]) (by simp [grow_length]) (by simp [one])) ?_
  rintro _ _ ⟨rfl, rfl⟩
  refine OpsW.nil ?_
  refine AWp.forget ?_ (sub_put (i := 4) rfl (sub_put (i := 5) rfl (sub_put (i := 7) rfl (sub_put (i := 58) rfl (sub_nil)))))
  refine AWp.ret ?_
  refine ⟨_, [], _, permNone, resCell rfl rfl (by repeat (first | exact List.Mem.head _ | apply List.Mem.tail)) (by simp [grow_length]) ag66, ?_, rfl⟩
  simp [spreadF]

set_option maxRecDepth 20000 in
set_option maxHeartbeats 4000000 in
theorem mixed_c (s : List UInt32) (kv : Value) (w : List UInt32) (m : Mem) (hs : s.length = 8) (hk : Rd m kv 1 (kTab.map wV)) (hw : w.length = 64) :
    Ctr Try.prog 35 [.agg (s.map wV).toArray, kv, .agg (w.map wV).toArray] m [] (fun _ r L => r = .agg ((List.zipWith (· + ·) s (roundsF w 64 s)).map wV).toArray ∧ L = []) := by
  have ho := hk.1
  refine Ctr.intro Try.func35 rfl Try.ntmps35 (by simp) fun w0 => ?_
  refine AWp.forget ?_ (sub_put (i := 0) rfl (sub_put (i := 1) rfl (sub_put (i := 2) rfl (sub_nil))))
  refine AWp.seq ?_
  refine AWp.region ?_
  refine OpsW.alloc rfl rfl (allocOp_boxAgg rfl) ?_
  rintro _ _ ⟨b3, rfl, rfl⟩
  refine OpsW.alloc rfl rfl (allocOp_boxAgg rfl) ?_
  rintro _ _ ⟨b5, rfl, rfl⟩
  refine OpsW.alloc rfl rfl (allocOp_alloc zt63) ?_
  rintro _ _ ⟨b6, rfl, rfl⟩
  refine OpsW.nil ?_
  refine AWp.forget ?_ (sub_put (i := 0) rfl (sub_put (i := 1) rfl (sub_put (i := 2) rfl (sub_put (i := 3) rfl (sub_put (i := 5) rfl (sub_put (i := 6) rfl (sub_nil)))))))
  refine AWp.seq ?_
  refine AWp.region ?_
  refine OpsW.pure rfl rfl (opN_indexArr0 (i := 0) arr63 rfl rfl (by omega)) ?_
  refine OpsW.load rfl rfl (loadOp_obj (u := wV (s.getD 0 0)) sc62 rfl (by repeat (first | exact List.Mem.head _ | apply List.Mem.tail)) (get_map (by omega))) ?_
  refine OpsW.pure rfl rfl (pureOp_assign rfl) ?_
  refine OpsW.nil ?_
  refine AWp.forget ?_ (sub_put (i := 0) rfl (sub_put (i := 1) rfl (sub_put (i := 2) rfl (sub_put (i := 3) rfl (sub_put (i := 5) rfl (sub_put (i := 6) rfl (sub_put (i := 7) rfl (sub_nil))))))))
  refine AWp.seq ?_
  refine AWp.region ?_
  refine OpsW.pure rfl rfl (opN_indexArr0 (i := 1) arr63 rfl rfl (by omega)) ?_
  refine OpsW.load rfl rfl (loadOp_obj (u := wV (s.getD 1 0)) sc62 rfl (by repeat (first | exact List.Mem.head _ | apply List.Mem.tail)) (get_map (by omega))) ?_
  refine OpsW.pure rfl rfl (pureOp_assign rfl) ?_
  refine OpsW.nil ?_
  refine AWp.forget ?_ (sub_put (i := 0) rfl (sub_put (i := 1) rfl (sub_put (i := 2) rfl (sub_put (i := 3) rfl (sub_put (i := 5) rfl (sub_put (i := 6) rfl (sub_put (i := 7) rfl (sub_put (i := 8) rfl (sub_nil)))))))))
  refine AWp.seq ?_
  refine AWp.region ?_
  refine OpsW.pure rfl rfl (opN_indexArr0 (i := 2) arr63 rfl rfl (by omega)) ?_
  refine OpsW.load rfl rfl (loadOp_obj (u := wV (s.getD 2 0)) sc62 rfl (by repeat (first | exact List.Mem.head _ | apply List.Mem.tail)) (get_map (by omega))) ?_
  refine OpsW.pure rfl rfl (pureOp_assign rfl) ?_
  refine OpsW.nil ?_
  refine AWp.forget ?_ (sub_put (i := 0) rfl (sub_put (i := 1) rfl (sub_put (i := 2) rfl (sub_put (i := 3) rfl (sub_put (i := 5) rfl (sub_put (i := 6) rfl (sub_put (i := 7) rfl (sub_put (i := 8) rfl (sub_put (i := 9) rfl (sub_nil))))))))))
  refine AWp.seq ?_
  refine AWp.region ?_
  refine OpsW.pure rfl rfl (opN_indexArr0 (i := 3) arr63 rfl rfl (by omega)) ?_
  refine OpsW.load rfl rfl (loadOp_obj (u := wV (s.getD 3 0)) sc62 rfl (by repeat (first | exact List.Mem.head _ | apply List.Mem.tail)) (get_map (by omega))) ?_
  refine OpsW.pure rfl rfl (pureOp_assign rfl) ?_
  refine OpsW.nil ?_
  refine AWp.forget ?_ (sub_put (i := 0) rfl (sub_put (i := 1) rfl (sub_put (i := 2) rfl (sub_put (i := 3) rfl (sub_put (i := 5) rfl (sub_put (i := 6) rfl (sub_put (i := 7) rfl (sub_put (i := 8) rfl (sub_put (i := 9) rfl (sub_put (i := 10) rfl (sub_nil)))))))))))
  refine AWp.seq ?_
  refine AWp.region ?_
  refine OpsW.pure rfl rfl (opN_indexArr0 (i := 4) arr63 rfl rfl (by omega)) ?_
  refine OpsW.load rfl rfl (loadOp_obj (u := wV (s.getD 4 0)) sc62 rfl (by repeat (first | exact List.Mem.head _ | apply List.Mem.tail)) (get_map (by omega))) ?_
  refine OpsW.pure rfl rfl (pureOp_assign rfl) ?_
  refine OpsW.nil ?_
  refine AWp.forget ?_ (sub_put (i := 0) rfl (sub_put (i := 1) rfl (sub_put (i := 2) rfl (sub_put (i := 3) rfl (sub_put (i := 5) rfl (sub_put (i := 6) rfl (sub_put (i := 7) rfl (sub_put (i := 8) rfl (sub_put (i := 9) rfl (sub_put (i := 10) rfl (sub_put (i := 11) rfl (sub_nil))))))))))))
  refine AWp.seq ?_
  refine AWp.region ?_
  refine OpsW.pure rfl rfl (opN_indexArr0 (i := 5) arr63 rfl rfl (by omega)) ?_
  refine OpsW.load rfl rfl (loadOp_obj (u := wV (s.getD 5 0)) sc62 rfl (by repeat (first | exact List.Mem.head _ | apply List.Mem.tail)) (get_map (by omega))) ?_
  refine OpsW.pure rfl rfl (pureOp_assign rfl) ?_
  refine OpsW.nil ?_
  refine AWp.forget ?_ (sub_put (i := 0) rfl (sub_put (i := 1) rfl (sub_put (i := 2) rfl (sub_put (i := 3) rfl (sub_put (i := 5) rfl (sub_put (i := 6) rfl (sub_put (i := 7) rfl (sub_put (i := 8) rfl (sub_put (i := 9) rfl (sub_put (i := 10) rfl (sub_put (i := 11) rfl (sub_put (i := 12) rfl (sub_nil)))))))))))))
  refine AWp.seq ?_
  refine AWp.region ?_
  refine OpsW.pure rfl rfl (opN_indexArr0 (i := 6) arr63 rfl rfl (by omega)) ?_
  refine OpsW.load rfl rfl (loadOp_obj (u := wV (s.getD 6 0)) sc62 rfl (by repeat (first | exact List.Mem.head _ | apply List.Mem.tail)) (get_map (by omega))) ?_
  refine OpsW.pure rfl rfl (pureOp_assign rfl) ?_
  refine OpsW.nil ?_
  refine AWp.forget ?_ (sub_put (i := 0) rfl (sub_put (i := 1) rfl (sub_put (i := 2) rfl (sub_put (i := 3) rfl (sub_put (i := 5) rfl (sub_put (i := 6) rfl (sub_put (i := 7) rfl (sub_put (i := 8) rfl (sub_put (i := 9) rfl (sub_put (i := 10) rfl (sub_put (i := 11) rfl (sub_put (i := 12) rfl (sub_put (i := 13) rfl (sub_nil))))))))))))))
  refine AWp.seq ?_
  refine AWp.region ?_
  refine OpsW.pure rfl rfl (opN_indexArr0 (i := 7) arr63 rfl rfl (by omega)) ?_
  refine OpsW.load rfl rfl (loadOp_obj (u := wV (s.getD 7 0)) sc62 rfl (by repeat (first | exact List.Mem.head _ | apply List.Mem.tail)) (get_map (by omega))) ?_
  refine OpsW.pure rfl rfl (pureOp_assign rfl) ?_
  refine OpsW.nil ?_
  refine AWp.forget ?_ (sub_put (i := 0) rfl (sub_put (i := 1) rfl (sub_put (i := 2) rfl (sub_put (i := 3) rfl (sub_put (i := 5) rfl (sub_put (i := 6) rfl (sub_put (i := 7) rfl (sub_put (i := 8) rfl (sub_put (i := 9) rfl (sub_put (i := 10) rfl (sub_put (i := 11) rfl (sub_put (i := 12) rfl (sub_put (i := 13) rfl (sub_put (i := 14) rfl (sub_nil)))))))))))))))
  refine AWp.seq ?_
  refine AWp.seq ?_
  refine AWp.region ?_
  refine OpsW.pure rfl rfl (pureOp_assign rfl) ?_
  refine OpsW.nil ?_
  refine AWp.forget ?_ (sub_put (i := 0) rfl (sub_put (i := 1) rfl (sub_put (i := 2) rfl (sub_put (i := 3) rfl (sub_put (i := 5) rfl (sub_put (i := 6) rfl (sub_put (i := 7) rfl (sub_put (i := 8) rfl (sub_put (i := 9) rfl (sub_put (i := 10) rfl (sub_put (i := 11) rfl (sub_put (i := 12) rfl (sub_put (i := 13) rfl (sub_put (i := 14) rfl (sub_put (i := 15) rfl (sub_nil))))))))))))))))
  refine AWp.block ?_
  refine AWp.forget ?_ (sub_put (i := 1) rfl (sub_put (i := 3) rfl (sub_put (i := 5) rfl (sub_put (i := 6) rfl (sub_put (i := 7) rfl (sub_put (i := 8) rfl (sub_put (i := 9) rfl (sub_put (i := 10) rfl (sub_put (i := 11) rfl (sub_put (i := 12) rfl (sub_put (i := 13) rfl (sub_put (i := 14) rfl (sub_put (i := 15) rfl (sub_nil))))))))))))))
  refine AWp.loop (fun N m' T' L' => ∃ n : Nat, N = 64 - n ∧ n ≤ 64 ∧ m' = m ∧ T' = put (put (put (put (put (put (put (put (put (put (put (put (put (tnil) 15 (iV n)) 14 (wV ((roundsF w n s).getD 7 0))) 13 (wV ((roundsF w n s).getD 6 0))) 12 (wV ((roundsF w n s).getD 5 0))) 11 (wV ((roundsF w n s).getD 4 0))) 10 (wV ((roundsF w n s).getD 3 0))) 9 (wV ((roundsF w n s).getD 2 0))) 8 (wV ((roundsF w n s).getD 1 0))) 7 (wV ((roundsF w n s).getD 0 0))) 6 (.pointer (some ⟨b6, 0, none⟩))) 5 (.pointer (some ⟨b5, 0, none⟩))) 3 (.pointer (some ⟨b3, 0, none⟩))) 1 (kv) ∧ L' = [.obj b6 (List.replicate 8 (.int .u32 0)), .obj b5 (w.map wV), .obj b3 (s.map wV)]) _ (⟨0, rfl, by omega, rfl, rfl, rfl⟩) ?_
  rintro _ m _ _ ⟨n, rfl, hn, rfl, rfl, rfl⟩
  generalize hws : roundsF w n s = q
  refine AWp.seq ?_
  refine AWp.seq ?_
  refine AWp.region ?_
  refine OpsW.pure rfl rfl (pureOp_move rfl) ?_
  refine OpsW.pure rfl rfl (opN_lss (b := 64) rfl rfl) ?_
  refine OpsW.nil ?_
  refine AWp.forget ?_ (sub_put (i := 1) rfl (sub_put (i := 3) rfl (sub_put (i := 5) rfl (sub_put (i := 6) rfl (sub_put (i := 7) rfl (sub_put (i := 8) rfl (sub_put (i := 9) rfl (sub_put (i := 10) rfl (sub_put (i := 11) rfl (sub_put (i := 12) rfl (sub_put (i := 13) rfl (sub_put (i := 14) rfl (sub_put (i := 15) rfl (sub_put (i := 35) rfl (sub_nil)))))))))))))))
  refine AWp.condP rfl (fun ht35 => ?_) (fun ht35 => ?_)
  refine AWp.skip ?_
  refine AWp.seq ?_
  refine AWp.block ?_
  refine AWp.seq ?_
  refine AWp.draw [(0, .pure), (1, .pure), (3, .pure), (6, .pure), (10, .pure), (11, .pure), (12, .pure), (13, .pure), (14, .pure), (15, .pure), (16, .pure), (17, .pure), (19, .pure), (20, .pure), (21, .pure), (22, .load), (24, .pure), (25, .pure), (26, .load), (2, .call), (4, .call), (5, .pure), (7, .call), (8, .pure), (9, .pure), (18, .pure), (23, .pure), (27, .pure), (28, .pure)] rfl (by decide +kernel) (fun _ _ _ p h => AWp.perm h p.symm) ?_
  refine ⟨_, _, rfl, OpStep.pure rfl rfl (pureOp_move rfl), ?_⟩
  rintro _ _ ⟨rfl, rfl⟩ -
  refine ⟨_, _, rfl, OpStep.pure rfl rfl (pureOp_move rfl), ?_⟩
  rintro _ _ ⟨rfl, rfl⟩ -
  refine ⟨_, _, rfl, OpStep.pure rfl rfl (pureOp_move rfl), ?_⟩
  rintro _ _ ⟨rfl, rfl⟩ -
  refine ⟨_, _, rfl, OpStep.pure rfl rfl (pureOp_move rfl), ?_⟩
  rintro _ _ ⟨rfl, rfl⟩ -
  refine ⟨_, _, rfl, OpStep.pure rfl rfl (pureOp_move rfl), ?_⟩
  rintro _ _ ⟨rfl, rfl⟩ -
  refine ⟨_, _, rfl, OpStep.pure rfl rfl (pureOp_move rfl), ?_⟩
  rintro _ _ ⟨rfl, rfl⟩ -
  refine ⟨_, _, rfl, OpStep.pure rfl rfl (op32_and rfl rfl), ?_⟩
  rintro _ _ ⟨rfl, rfl⟩ -
  refine ⟨_, _, rfl, OpStep.pure rfl rfl (pureOp_move rfl), ?_⟩
  rintro _ _ ⟨rfl, rfl⟩ -
  refine ⟨_, _, rfl, OpStep.pure rfl rfl (op32_sub (a := 4294967295) rfl rfl), ?_⟩
  rintro _ _ ⟨rfl, rfl⟩ -
  refine ⟨_, _, rfl, OpStep.pure rfl rfl (pureOp_move rfl), ?_⟩
  rintro _ _ ⟨rfl, rfl⟩ -
  refine ⟨_, _, rfl, OpStep.pure rfl rfl (op32_and rfl rfl), ?_⟩
  rintro _ _ ⟨rfl, rfl⟩ -
  refine ⟨_, _, rfl, OpStep.pure rfl rfl (op32_xor rfl rfl), ?_⟩
  rintro _ _ ⟨rfl, rfl⟩ -
  refine ⟨_, _, rfl, OpStep.pure rfl rfl (pureOp_move rfl), ?_⟩
  rintro _ _ ⟨rfl, rfl⟩ -
  refine ⟨_, _, rfl, OpStep.pure rfl rfl (pureOp_move rfl), ?_⟩
  rintro _ _ ⟨rfl, rfl⟩ -
  refine ⟨_, _, rfl, OpStep.pure rfl rfl (opN_indexSl1 Try.underlying60 Try.sizeOf62 rfl (by assumption) rfl (by simp [kTab]; omega)), ?_⟩
  rintro _ _ ⟨rfl, rfl⟩ -
  refine ⟨_, _, rfl, OpStep.load rfl rfl (loadOp_elem (u := wV (kTab.getD n 0)) sc62 rfl (by first | exact Rd.ro (by assumption) | exact Rd.of_sl (by repeat (first | exact List.Mem.head _ | apply List.Mem.tail)) (by assumption)) (get_map (by simp [kTab]; omega))), ?_⟩
  rintro _ _ ⟨rfl, rfl⟩ -
  refine ⟨_, _, rfl, OpStep.pure rfl rfl (pureOp_move rfl), ?_⟩
  rintro _ _ ⟨rfl, rfl⟩ -
  refine ⟨_, _, rfl, OpStep.pure rfl rfl (opN_indexArr0 arr66 rfl rfl (by omega)), ?_⟩
  rintro _ _ ⟨rfl, rfl⟩ -
  refine ⟨_, _, rfl, OpStep.load rfl rfl (loadOp_obj (u := wV (w.getD n 0)) sc62 rfl (by repeat (first | exact List.Mem.head _ | apply List.Mem.tail)) (get_map (by omega))), ?_⟩
  rintro _ _ ⟨rfl, rfl⟩ -
  refine ⟨_, _, rfl, OpStep.call rfl rfl (callOp Try.call45 rfl) (right_c _ 6 _ (by decide)), ?_⟩
  rintro _ _ ⟨_, _, ⟨rfl, rfl⟩, rfl, rfl⟩ -
  refine ⟨_, _, rfl, OpStep.call rfl rfl (callOp Try.call45 rfl) (right_c _ 11 _ (by decide)), ?_⟩
  rintro _ _ ⟨_, _, ⟨rfl, rfl⟩, rfl, rfl⟩ -
  refine ⟨_, _, rfl, OpStep.pure rfl rfl (op32_xor rfl rfl), ?_⟩
  rintro _ _ ⟨rfl, rfl⟩ -
  refine ⟨_, _, rfl, OpStep.call rfl rfl (callOp Try.call45 rfl) (right_c _ 25 _ (by decide)), ?_⟩
  rintro _ _ ⟨_, _, ⟨rfl, rfl⟩, rfl, rfl⟩ -
  refine ⟨_, _, rfl, OpStep.pure rfl rfl (op32_xor rfl rfl), ?_⟩
  rintro _ _ ⟨rfl, rfl⟩ -
  refine ⟨_, _, rfl, OpStep.pure rfl rfl (op32_add rfl rfl), ?_⟩
  rintro _ _ ⟨rfl, rfl⟩ -
  refine ⟨_, _, rfl, OpStep.pure rfl rfl (op32_add rfl rfl), ?_⟩
  rintro _ _ ⟨rfl, rfl⟩ -
  refine ⟨_, _, rfl, OpStep.pure rfl rfl (op32_add rfl rfl), ?_⟩
  rintro _ _ ⟨rfl, rfl⟩ -
  refine ⟨_, _, rfl, OpStep.pure rfl rfl (op32_add rfl rfl), ?_⟩
  rintro _ _ ⟨rfl, rfl⟩ -
  refine ⟨_, _, rfl, OpStep.pure rfl rfl (pureOp_assign rfl), ?_⟩
  rintro _ _ ⟨rfl, rfl⟩ -
  refine AWp.forget ?_ (sub_put (i := 1) rfl (sub_put (i := 3) rfl (sub_put (i := 5) rfl (sub_put (i := 6) rfl (sub_put (i := 7) rfl (sub_put (i := 8) rfl (sub_put (i := 9) rfl (sub_put (i := 10) rfl (sub_put (i := 11) rfl (sub_put (i := 12) rfl (sub_put (i := 13) rfl (sub_put (i := 14) rfl (sub_put (i := 15) rfl (sub_put (i := 16) rfl (sub_put (i := 35) rfl (sub_nil))))))))))))))))
  refine AWp.seq ?_
  refine AWp.region ?_
  refine OpsW.pure rfl rfl (pureOp_move rfl) ?_
  refine OpsW.callA rfl rfl (callOp Try.call45 rfl) permNone (right_c _ 2 _ (by decide)) ?_
  rintro _ _ ⟨rfl, rfl⟩
  refine OpsW.pure rfl rfl (pureOp_move rfl) ?_
  refine OpsW.callA rfl rfl (callOp Try.call45 rfl) permNone (right_c _ 13 _ (by decide)) ?_
  rintro _ _ ⟨rfl, rfl⟩
  refine OpsW.pure rfl rfl (op32_xor rfl rfl) ?_
  refine OpsW.pure rfl rfl (pureOp_move rfl) ?_
  refine OpsW.callA rfl rfl (callOp Try.call45 rfl) permNone (right_c _ 22 _ (by decide)) ?_
  rintro _ _ ⟨rfl, rfl⟩
  refine OpsW.pure rfl rfl (op32_xor rfl rfl) ?_
  refine OpsW.pure rfl rfl (pureOp_move rfl) ?_
  refine OpsW.pure rfl rfl (pureOp_move rfl) ?_
  refine OpsW.pure rfl rfl (op32_and rfl rfl) ?_
  refine OpsW.pure rfl rfl (pureOp_move rfl) ?_
  refine OpsW.pure rfl rfl (pureOp_move rfl) ?_
  refine OpsW.pure rfl rfl (op32_and rfl rfl) ?_
  refine OpsW.pure rfl rfl (op32_xor rfl rfl) ?_
  refine OpsW.pure rfl rfl (pureOp_move rfl) ?_
  refine OpsW.pure rfl rfl (pureOp_move rfl) ?_
  refine OpsW.pure rfl rfl (op32_and rfl rfl) ?_
  refine OpsW.pure rfl rfl (op32_xor rfl rfl) ?_
  refine OpsW.pure rfl rfl (op32_add rfl rfl) ?_
  refine OpsW.pure rfl rfl (pureOp_assign rfl) ?_
  refine OpsW.nil ?_
  refine AWp.forget ?_ (sub_put (i := 1) rfl (sub_put (i := 3) rfl (sub_put (i := 5) rfl (sub_put (i := 6) rfl (sub_put (i := 7) rfl (sub_put (i := 8) rfl (sub_put (i := 9) rfl (sub_put (i := 10) rfl (sub_put (i := 11) rfl (sub_put (i := 12) rfl (sub_put (i := 13) rfl (sub_put (i := 14) rfl (sub_put (i := 15) rfl (sub_put (i := 16) rfl (sub_put (i := 17) rfl (sub_put (i := 35) rfl (sub_nil)))))))))))))))))
  refine AWp.seq ?_
  refine AWp.region ?_
  refine OpsW.pure rfl rfl (pureOp_move rfl) ?_
  refine OpsW.pure rfl rfl (pureOp_assign rfl) ?_
  refine OpsW.nil ?_
  refine AWp.forget ?_ (sub_put (i := 1) rfl (sub_put (i := 3) rfl (sub_put (i := 5) rfl (sub_put (i := 6) rfl (sub_put (i := 7) rfl (sub_put (i := 8) rfl (sub_put (i := 9) rfl (sub_put (i := 10) rfl (sub_put (i := 11) rfl (sub_put (i := 12) rfl (sub_put (i := 13) rfl (sub_put (i := 14) rfl (sub_put (i := 15) rfl (sub_put (i := 16) rfl (sub_put (i := 17) rfl (sub_put (i := 35) rfl (sub_nil)))))))))))))))))
  refine AWp.seq ?_
  refine AWp.region ?_
  refine OpsW.pure rfl rfl (pureOp_move rfl) ?_
  refine OpsW.pure rfl rfl (pureOp_assign rfl) ?_
  refine OpsW.nil ?_
  refine AWp.forget ?_ (sub_put (i := 1) rfl (sub_put (i := 3) rfl (sub_put (i := 5) rfl (sub_put (i := 6) rfl (sub_put (i := 7) rfl (sub_put (i := 8) rfl (sub_put (i := 9) rfl (sub_put (i := 10) rfl (sub_put (i := 11) rfl (sub_put (i := 12) rfl (sub_put (i := 13) rfl (sub_put (i := 14) rfl (sub_put (i := 15) rfl (sub_put (i := 16) rfl (sub_put (i := 17) rfl (sub_put (i := 35) rfl (sub_nil)))))))))))))))))
  refine AWp.seq ?_
  refine AWp.region ?_
  refine OpsW.pure rfl rfl (pureOp_move rfl) ?_
  refine OpsW.pure rfl rfl (pureOp_assign rfl) ?_
  refine OpsW.nil ?_
  refine AWp.forget ?_ (sub_put (i := 1) rfl (sub_put (i := 3) rfl (sub_put (i := 5) rfl (sub_put (i := 6) rfl (sub_put (i := 7) rfl (sub_put (i := 8) rfl (sub_put (i := 9) rfl (sub_put (i := 10) rfl (sub_put (i := 11) rfl (sub_put (i := 12) rfl (sub_put (i := 13) rfl (sub_put (i := 14) rfl (sub_put (i := 15) rfl (sub_put (i := 16) rfl (sub_put (i := 17) rfl (sub_put (i := 35) rfl (sub_nil)))))))))))))))))
  refine AWp.seq ?_
  refine AWp.region ?_
  refine OpsW.pure rfl rfl (pureOp_move rfl) ?_
  refine OpsW.pure rfl rfl (pureOp_move rfl) ?_
  refine OpsW.pure rfl rfl (op32_add rfl rfl) ?_
  refine OpsW.pure rfl rfl (pureOp_assign rfl) ?_
  refine OpsW.nil ?_
  refine AWp.forget ?_ (sub_put (i := 1) rfl (sub_put (i := 3) rfl (sub_put (i := 5) rfl (sub_put (i := 6) rfl (sub_put (i := 7) rfl (sub_put (i := 8) rfl (sub_put (i := 9) rfl (sub_put (i := 10) rfl (sub_put (i := 11) rfl (sub_put (i := 12) rfl (sub_put (i := 13) rfl (sub_put (i := 14) rfl (sub_put (i := 15) rfl (sub_put (i := 16) rfl (sub_put (i := 17) rfl (sub_put (i := 35) rfl (sub_nil)))))))))))))))))
  refine AWp.seq ?_
  refine AWp.region ?_
  refine OpsW.pure rfl rfl (pureOp_move rfl) ?_
  refine OpsW.pure rfl rfl (pureOp_assign rfl) ?_
  refine OpsW.nil ?_
  refine AWp.forget ?_ (sub_put (i := 1) rfl (sub_put (i := 3) rfl (sub_put (i := 5) rfl (sub_put (i := 6) rfl (sub_put (i := 7) rfl (sub_put (i := 8) rfl (sub_put (i := 9) rfl (sub_put (i := 10) rfl (sub_put (i := 11) rfl (sub_put (i := 12) rfl (sub_put (i := 13) rfl (sub_put (i := 14) rfl (sub_put (i := 15) rfl (sub_put (i := 16) rfl (sub_put (i := 17) rfl (sub_put (i := 35) rfl (sub_nil)))))))))))))))))
  refine AWp.seq ?_
  refine AWp.region ?_
  refine OpsW.pure rfl rfl (pureOp_move rfl) ?_
  refine OpsW.pure rfl rfl (pureOp_assign rfl) ?_
  refine OpsW.nil ?_
  refine AWp.forget ?_ (sub_put (i := 1) rfl (sub_put (i := 3) rfl (sub_put (i := 5) rfl (sub_put (i := 6) rfl (sub_put (i := 7) rfl (sub_put (i := 8) rfl (sub_put (i := 9) rfl (sub_put (i := 10) rfl (sub_put (i := 11) rfl (sub_put (i := 12) rfl (sub_put (i := 13) rfl (sub_put (i := 14) rfl (sub_put (i := 15) rfl (sub_put (i := 16) rfl (sub_put (i := 17) rfl (sub_put (i := 35) rfl (sub_nil)))))))))))))))))
  refine AWp.seq ?_
  refine AWp.region ?_
  refine OpsW.pure rfl rfl (pureOp_move rfl) ?_
  refine OpsW.pure rfl rfl (pureOp_assign rfl) ?_
  refine OpsW.nil ?_
  refine AWp.forget ?_ (sub_put (i := 1) rfl (sub_put (i := 3) rfl (sub_put (i := 5) rfl (sub_put (i := 6) rfl (sub_put (i := 7) rfl (sub_put (i := 8) rfl (sub_put (i := 9) rfl (sub_put (i := 10) rfl (sub_put (i := 11) rfl (sub_put (i := 12) rfl (sub_put (i := 13) rfl (sub_put (i := 14) rfl (sub_put (i := 15) rfl (sub_put (i := 16) rfl (sub_put (i := 17) rfl (sub_put (i := 35) rfl (sub_nil)))))))))))))))))
  refine AWp.region ?_
  refine OpsW.pure rfl rfl (pureOp_move rfl) ?_
  refine OpsW.pure rfl rfl (pureOp_move rfl) ?_
  refine OpsW.pure rfl rfl (op32_add rfl rfl) ?_
  refine OpsW.pure rfl rfl (pureOp_assign rfl) ?_
  refine OpsW.nil ?_
  refine AWp.forget ?_ (sub_put (i := 1) rfl (sub_put (i := 3) rfl (sub_put (i := 5) rfl (sub_put (i := 6) rfl (sub_put (i := 7) rfl (sub_put (i := 8) rfl (sub_put (i := 9) rfl (sub_put (i := 10) rfl (sub_put (i := 11) rfl (sub_put (i := 12) rfl (sub_put (i := 13) rfl (sub_put (i := 14) rfl (sub_put (i := 15) rfl (sub_put (i := 16) rfl (sub_put (i := 17) rfl (sub_put (i := 35) rfl (sub_nil)))))))))))))))))
  refine AWp.region ?_
  refine OpsW.pure rfl rfl (pureOp_move rfl) ?_
  refine OpsW.pure rfl rfl (opN_add (b := 1) rfl rfl (by omega)) ?_
  refine OpsW.pure rfl rfl (pureOp_assign rfl) ?_
  refine OpsW.forget ?_ (sub_put (i := 1) rfl (sub_put (i := 3) rfl (sub_put (i := 5) rfl (sub_put (i := 6) rfl (sub_put (i := 7) rfl (sub_put (i := 8) rfl (sub_put (i := 9) rfl (sub_put (i := 10) rfl (sub_put (i := 11) rfl (sub_put (i := 12) rfl (sub_put (i := 13) rfl (sub_put (i := 14) rfl (sub_put (i := 15) rfl (sub_nil))))))))))))))
  refine OpsW.keep (L' := [.obj b6 _, .obj b5 _, .obj b3 _]) (by repeat (first | exact Sel.nil | (apply Sel.cons; (repeat (first | exact Ext.here | apply Ext.there))))) ?_
  refine OpsW.nil ?_
  exact ⟨_, by omega, n + 1, rfl, by omega, rfl, by rw [roundsF, hws]; simp only [not_sub]; rfl, rfl⟩
  have hn64 : n = 64 := by omega
  subst hn64
  refine AWp.exit (exit_here ?_)
  refine AWp.seq ?_
  refine AWp.region ?_
  refine OpsW.pure rfl rfl (opN_indexArr0 (i := 0) arr63 rfl rfl (by omega)) ?_
  refine OpsW.load rfl rfl (loadOp_obj (u := wV (s.getD 0 0)) sc62 rfl (by repeat (first | exact List.Mem.head _ | apply List.Mem.tail)) (get_map (by omega))) ?_
  refine OpsW.pure rfl rfl (pureOp_move rfl) ?_
  refine OpsW.pure rfl rfl (op32_add rfl rfl) ?_
  refine OpsW.pure rfl rfl (opN_indexArr0 (i := 1) arr63 rfl rfl (by omega)) ?_
  refine OpsW.load rfl rfl (loadOp_obj (u := wV (s.getD 1 0)) sc62 rfl (by repeat (first | exact List.Mem.head _ | apply List.Mem.tail)) (get_map (by omega))) ?_
  refine OpsW.pure rfl rfl (pureOp_move rfl) ?_
  refine OpsW.pure rfl rfl (op32_add rfl rfl) ?_
  refine OpsW.pure rfl rfl (opN_indexArr0 (i := 2) arr63 rfl rfl (by omega)) ?_
  refine OpsW.load rfl rfl (loadOp_obj (u := wV (s.getD 2 0)) sc62 rfl (by repeat (first | exact List.Mem.head _ | apply List.Mem.tail)) (get_map (by omega))) ?_
  refine OpsW.pure rfl rfl (pureOp_move rfl) ?_
  refine OpsW.pure rfl rfl (op32_add rfl rfl) ?_
  refine OpsW.pure rfl rfl (opN_indexArr0 (i := 3) arr63 rfl rfl (by omega)) ?_
  refine OpsW.load rfl rfl (loadOp_obj (u := wV (s.getD 3 0)) sc62 rfl (by repeat (first | exact List.Mem.head _ | apply List.Mem.tail)) (get_map (by omega))) ?_
  refine OpsW.pure rfl rfl (pureOp_move rfl) ?_
  refine OpsW.pure rfl rfl (op32_add rfl rfl) ?_
  refine OpsW.pure rfl rfl (opN_indexArr0 (i := 4) arr63 rfl rfl (by omega)) ?_
  refine OpsW.load rfl rfl (loadOp_obj (u := wV (s.getD 4 0)) sc62 rfl (by repeat (first | exact List.Mem.head _ | apply List.Mem.tail)) (get_map (by omega))) ?_
  refine OpsW.pure rfl rfl (pureOp_move rfl) ?_
  refine OpsW.pure rfl rfl (op32_add rfl rfl) ?_
  refine OpsW.pure rfl rfl (opN_indexArr0 (i := 5) arr63 rfl rfl (by omega)) ?_
  refine OpsW.load rfl rfl (loadOp_obj (u := wV (s.getD 5 0)) sc62 rfl (by repeat (first | exact List.Mem.head _ | apply List.Mem.tail)) (get_map (by omega))) ?_
  refine OpsW.pure rfl rfl (pureOp_move rfl) ?_
  refine OpsW.pure rfl rfl (op32_add rfl rfl) ?_
  refine OpsW.pure rfl rfl (opN_indexArr0 (i := 6) arr63 rfl rfl (by omega)) ?_
  refine OpsW.load rfl rfl (loadOp_obj (u := wV (s.getD 6 0)) sc62 rfl (by repeat (first | exact List.Mem.head _ | apply List.Mem.tail)) (get_map (by omega))) ?_
  refine OpsW.pure rfl rfl (pureOp_move rfl) ?_
  refine OpsW.pure rfl rfl (op32_add rfl rfl) ?_
  refine OpsW.pure rfl rfl (opN_indexArr0 (i := 7) arr63 rfl rfl (by omega)) ?_
  refine OpsW.load rfl rfl (loadOp_obj (u := wV (s.getD 7 0)) sc62 rfl (by repeat (first | exact List.Mem.head _ | apply List.Mem.tail)) (get_map (by omega))) ?_
  refine OpsW.pure rfl rfl (pureOp_move rfl) ?_
  refine OpsW.pure rfl rfl (op32_add rfl rfl) ?_
  refine OpsW.pure rfl rfl (opBuildArr arr63 zt63 (by simp) rfl rfl (by first | exact cells_rfl rfl | simp [Value.cells])) ?_
  refine OpsW.upd rfl rfl (by repeat (first | exact Pos.here | apply Pos.there)) (lop_storeAllN 8 Try.sizeOf63 rfl rfl rfl rfl (one_rfl rfl)) ?_
  rintro _ _ ⟨rfl, rfl⟩
  refine OpsW.nil ?_
  refine AWp.forget ?_ (sub_put (i := 1) rfl (sub_put (i := 3) rfl (sub_put (i := 5) rfl (sub_put (i := 6) rfl (sub_put (i := 7) rfl (sub_put (i := 8) rfl (sub_put (i := 9) rfl (sub_put (i := 10) rfl (sub_put (i := 11) rfl (sub_put (i := 12) rfl (sub_put (i := 13) rfl (sub_put (i := 14) rfl (sub_put (i := 15) rfl (sub_put (i := 35) rfl (sub_nil)))))))))))))))
  refine AWp.ret ?_
  refine ⟨_, [], _, permNone, resCell rfl rfl (by repeat (first | exact List.Mem.head _ | apply List.Mem.tail)) (by rfl) ag63, ?_, rfl⟩
  obtain ⟨a, b, c, d, e, f, g, i, rfl⟩ := eight (s := s) hs
  obtain ⟨a2, b2, c2, d2, e2, f2, g2, i2, hq⟩ := eight (roundsF_length w _ hs 64)
  rw [← hws, hq]
  rfl

set_option maxRecDepth 20000 in
set_option maxHeartbeats 2000000 in
theorem sum03_c (v : Value) (t : List UInt8) (m : Mem) (hv : Rd m v 1 (t.map bV)) (hbd : t.length ≤ 549755813888) :
    Ctr Try.prog 15 [v] m [] (fun _ r L => r = .agg ((shaF t).map bV).toArray ∧ L = []) := by
  refine Ctr.intro Try.func15 rfl Try.ntmps15 (by simp) fun w0 => ?_
  refine AWp.forget ?_ (sub_put (i := 0) rfl (sub_nil))
  refine AWp.seq ?_
  refine AWp.region ?_
  refine OpsW.alloc rfl rfl (allocOp_alloc zt25) ?_
  rintro _ _ ⟨b2, rfl, rfl⟩
  refine OpsW.nil ?_
  refine AWp.forget ?_ (sub_put (i := 0) rfl (sub_put (i := 2) rfl (sub_nil)))
  refine AWp.seq ?_
  refine AWp.region ?_
  refine OpsW.callA rfl rfl (callOp Try.call33 rfl) permNone (table_c _) ?_
  rintro kv _ ⟨hkv, rfl⟩
  refine OpsW.pure rfl rfl (pureOp_assign rfl) ?_
  refine OpsW.nil ?_
  refine AWp.forget ?_ (sub_put (i := 0) rfl (sub_put (i := 2) rfl (sub_put (i := 3) rfl (sub_nil))))
  refine AWp.seq ?_
  refine AWp.region ?_
  refine OpsW.pure rfl rfl (opBuildArr arr63 zt63 (by simp) rfl rfl (by first | exact cells_rfl rfl | simp [Value.cells])) ?_
  try rw [show List.flatMap (fun x : Value => x.cells.toList) _ = iv0.map wV from rfl]
  refine OpsW.alloc rfl rfl (allocOp_alloc zt63) ?_
  rintro _ _ ⟨b4, rfl, rfl⟩
  refine OpsW.upd rfl rfl (by repeat (first | exact Pos.here | apply Pos.there)) (lop_storeAllN 8 Try.sizeOf63 rfl rfl rfl rfl (by first | exact one_map (fun _ => rfl) _ | exact one_rfl rfl | simp [one])) ?_
  rintro _ _ ⟨rfl, rfl⟩
  refine OpsW.nil ?_
  refine AWp.forget ?_ (sub_put (i := 0) rfl (sub_put (i := 2) rfl (sub_put (i := 3) rfl (sub_put (i := 4) rfl (sub_nil)))))
  refine AWp.seq ?_
  refine AWp.region ?_
  refine OpsW.pure rfl rfl (pureOp_move rfl) ?_
  refine OpsW.callA rfl rfl (callOp Try.call34 rfl) permNone (padded_c v t _ hv.ro hbd) ?_
  rintro pv _ ⟨hpv, rfl⟩
  refine OpsW.pure rfl rfl (pureOp_assign rfl) ?_
  refine OpsW.nil ?_
  refine AWp.forget ?_ (sub_put (i := 0) rfl (sub_put (i := 2) rfl (sub_put (i := 3) rfl (sub_put (i := 4) rfl (sub_put (i := 5) rfl (sub_nil))))))
  refine AWp.seq ?_
  refine AWp.seq ?_
  refine AWp.region ?_
  refine OpsW.pure rfl rfl (pureOp_assign rfl) ?_
  refine OpsW.nil ?_
  refine AWp.forget ?_ (sub_put (i := 0) rfl (sub_put (i := 2) rfl (sub_put (i := 3) rfl (sub_put (i := 4) rfl (sub_put (i := 5) rfl (sub_put (i := 6) rfl (sub_nil)))))))
  refine AWp.block ?_
  refine AWp.forget ?_ (sub_put (i := 2) rfl (sub_put (i := 3) rfl (sub_put (i := 4) rfl (sub_put (i := 5) rfl (sub_put (i := 6) rfl (sub_nil))))))
  refine AWp.keep (L' := [.obj b2 _, .obj b4 _, .sl pv 1 _, .sl kv 1 _]) (by repeat (first | exact Sel.nil | (apply Sel.cons; (repeat (first | exact Ext.here | apply Ext.there))))) ?_
  obtain ⟨pd, hpd⟩ : ∃ pd, pd = padded t (UInt64.ofNat t.length) := ⟨_, rfl⟩
  rw [← hpd] at hpv ⊢
  have hpm : pd.length % 64 = 0 := by rw [hpd]; exact padded_mod _ _
  have hpb : pd.length ≤ 1099511627776 := by rw [hpd, padded_length]; have := padZ_lt t.length; omega
  refine AWp.loop (fun N m' T' L' => ∃ k : Nat, N = pd.length / 64 - k ∧ k ≤ pd.length / 64 ∧ m' = m ∧ T' = put (put (put (put (put (tnil) 6 (iV (64 * k))) 5 (pv)) 4 (.pointer (some ⟨b4, 0, none⟩))) 3 (kv)) 2 (.pointer (some ⟨b2, 0, none⟩)) ∧ L' = [.obj b2 (List.replicate 32 (.int .u8 0)), .obj b4 ((blocks k iv0 pd).map wV), .sl pv 1 (pd.map bV), .sl kv 1 (kTab.map wV)]) _ (⟨0, rfl, Nat.zero_le _, rfl, rfl, rfl⟩) ?_
  rintro _ m _ _ ⟨k, rfl, hk, rfl, rfl, rfl⟩
  have hbl := blocks_length k iv0 pd rfl
  refine AWp.seq ?_
  refine AWp.seq ?_
  refine AWp.region ?_
  refine OpsW.pure rfl rfl (pureOp_move rfl) ?_
  refine OpsW.pure rfl rfl (pureOp_move rfl) ?_
  refine OpsW.pure rfl rfl (opN_len1 pd.length Try.underlying38 rfl (by assumption) (by simp)) ?_
  refine OpsW.pure rfl rfl (opN_lss rfl rfl) ?_
  refine OpsW.nil ?_
  refine AWp.forget ?_ (sub_put (i := 2) rfl (sub_put (i := 3) rfl (sub_put (i := 4) rfl (sub_put (i := 5) rfl (sub_put (i := 6) rfl (sub_put (i := 16) rfl (sub_nil)))))))
  refine AWp.condP rfl (fun ht16 => ?_) (fun ht16 => ?_)
  refine AWp.skip ?_
  refine AWp.seq ?_
  refine AWp.block ?_
  refine AWp.draw [(0, .load), (1, .pure), (2, .pure), (3, .pure), (4, .call), (5, .call), (6, .wr)] rfl (by decide +kernel) (fun _ _ _ p h => AWp.perm h p.symm) ?_
  refine ⟨_, _, rfl, OpStep.load rfl rfl (loadAll rfl (by repeat (first | exact List.Mem.head _ | apply List.Mem.tail)) (by simp [hbl]) ag63), ?_⟩
  rintro _ _ ⟨rfl, rfl⟩ -
  refine ⟨_, _, rfl, OpStep.pure rfl rfl (pureOp_move rfl), ?_⟩
  rintro _ _ ⟨rfl, rfl⟩ -
  refine ⟨_, _, rfl, OpStep.pure rfl rfl (pureOp_move rfl), ?_⟩
  rintro _ _ ⟨rfl, rfl⟩ -
  refine ⟨_, _, rfl, OpStep.pure rfl rfl (pureOp_move rfl), ?_⟩
  rintro _ _ ⟨rfl, rfl⟩ -
  refine ⟨_, _, rfl, OpStep.call rfl rfl (callOp Try.call36 rfl) (words_c pv pd (64 * k) _ (Rd.of_sl (by repeat (first | exact List.Mem.head _ | apply List.Mem.tail)) hpv) (by omega) hpb), ?_⟩
  rintro _ _ ⟨_, _, ⟨rfl, rfl⟩, rfl, rfl⟩ -
  refine ⟨_, _, rfl, OpStep.call rfl rfl (callOp Try.call35 rfl) (mixed_c (blocks k iv0 pd) kv (spreadF (pd.drop (64 * k))) _ hbl (Rd.of_sl (by repeat (first | exact List.Mem.head _ | apply List.Mem.tail)) hkv) (spreadF_length _)), ?_⟩
  rintro _ _ ⟨_, _, ⟨rfl, rfl⟩, rfl, rfl⟩ -
  refine ⟨_, _, rfl, OpStep.wr rfl rfl (toWp (by repeat (first | exact Pos.here | apply Pos.there)) (lop_storeAllN 8 Try.sizeOf63 rfl rfl (by simp [hbl]) (by simp [roundsF_length _ _ hbl, hbl]) (by first | exact one_map (fun _ => rfl) _ | exact one_rfl rfl | simp [one]))), ?_⟩
  rintro _ _ ⟨_, ⟨_, ⟨rfl, rfl⟩, rfl⟩, rfl⟩ -
  refine AWp.forget ?_ (sub_put (i := 2) rfl (sub_put (i := 3) rfl (sub_put (i := 4) rfl (sub_put (i := 5) rfl (sub_put (i := 6) rfl (sub_put (i := 16) rfl (sub_nil)))))))
  refine AWp.region ?_
  refine OpsW.pure rfl rfl (pureOp_move rfl) ?_
  refine OpsW.pure rfl rfl (opN_add (b := 64) rfl rfl (by omega)) ?_
  refine OpsW.pure rfl rfl (pureOp_assign rfl) ?_
  refine OpsW.forget ?_ (sub_put (i := 2) rfl (sub_put (i := 3) rfl (sub_put (i := 4) rfl (sub_put (i := 5) rfl (sub_put (i := 6) rfl (sub_nil))))))
  refine OpsW.keep (L' := [.obj b2 _, .obj b4 _, .sl pv 1 _, .sl kv 1 _]) (by repeat (first | exact Sel.nil | (apply Sel.cons; (repeat (first | exact Ext.here | apply Ext.there))))) ?_
  refine OpsW.nil ?_
  exact ⟨_, by omega, k + 1, rfl, by omega, rfl, by rw [show 64 * (k + 1) = 64 * k + 64 by omega], by rw [blocks_succ, mixF, spreadF_take]⟩
  have hkk : k = pd.length / 64 := by omega
  subst hkk
  refine AWp.exit (exit_here ?_)
  refine AWp.seq ?_
  refine AWp.region ?_
  refine OpsW.alloc rfl rfl (allocOp_alloc zt25) ?_
  rintro _ _ ⟨b7, rfl, rfl⟩
  refine OpsW.nil ?_
  refine AWp.forget ?_ (sub_put (i := 2) rfl (sub_put (i := 3) rfl (sub_put (i := 4) rfl (sub_put (i := 5) rfl (sub_put (i := 6) rfl (sub_put (i := 7) rfl (sub_put (i := 16) rfl (sub_nil))))))))
  refine AWp.seq ?_
  refine AWp.seq ?_
  refine AWp.region ?_
  refine OpsW.pure rfl rfl (pureOp_assign rfl) ?_
  refine OpsW.nil ?_
  refine AWp.forget ?_ (sub_put (i := 2) rfl (sub_put (i := 3) rfl (sub_put (i := 4) rfl (sub_put (i := 5) rfl (sub_put (i := 6) rfl (sub_put (i := 7) rfl (sub_put (i := 8) rfl (sub_put (i := 16) rfl (sub_nil)))))))))
  refine AWp.block ?_
  refine AWp.forget ?_ (sub_put (i := 2) rfl (sub_put (i := 4) rfl (sub_put (i := 7) rfl (sub_put (i := 8) rfl (sub_nil)))))
  refine AWp.keep (L' := [.obj b2 _, .obj b4 _, .obj b7 _]) (by repeat (first | exact Sel.nil | (apply Sel.cons; (repeat (first | exact Ext.here | apply Ext.there))))) ?_
  obtain ⟨wf, hwf⟩ : ∃ wf, wf = blocks (pd.length / 64) iv0 pd := ⟨_, rfl⟩
  rw [← hwf]
  have hwl : wf.length = 8 := by rw [hwf]; exact blocks_length _ _ _ rfl
  refine AWp.loop (fun N m' T' L' => ∃ bs : List UInt8, N = 32 - bs.length ∧ bs.length ≤ 32 ∧ bs = (List.range bs.length).map (fun i => (shr32 (wf.getD (i / 4) 0) (24 - 8 * (i % 4))).toUInt8) ∧ m' = m ∧ T' = put (put (put (put (tnil) 8 (iV bs.length)) 7 (.pointer (some ⟨b7, 0, none⟩))) 4 (.pointer (some ⟨b4, 0, none⟩))) 2 (.pointer (some ⟨b2, 0, none⟩)) ∧ L' = [.obj b2 (List.replicate 32 (.int .u8 0)), .obj b4 (wf.map wV), .obj b7 (bs.map bV ++ List.replicate (32 - bs.length) (.int .u8 0))]) _ (⟨[], rfl, by simp, rfl, rfl, rfl, rfl⟩) ?_
  rintro _ m _ _ ⟨bs, rfl, hbs, hbd2, rfl, rfl, rfl⟩
  refine AWp.seq ?_
  refine AWp.seq ?_
  refine AWp.region ?_
  refine OpsW.pure rfl rfl (pureOp_move rfl) ?_
  refine OpsW.pure rfl rfl (opN_lss (b := 32) rfl rfl) ?_
  refine OpsW.nil ?_
  refine AWp.forget ?_ (sub_put (i := 2) rfl (sub_put (i := 4) rfl (sub_put (i := 7) rfl (sub_put (i := 8) rfl (sub_put (i := 26) rfl (sub_nil))))))
  refine AWp.condP rfl (fun ht26 => ?_) (fun ht26 => ?_)
  refine AWp.skip ?_
  refine AWp.seq ?_
  refine AWp.block ?_
  refine AWp.region ?_
  refine OpsW.pure rfl rfl (pureOp_move rfl) ?_
  refine OpsW.pure rfl rfl (pureOp_move rfl) ?_
  refine OpsW.pure rfl rfl (opN_quo (b := 4) rfl rfl (by omega) (by omega)) ?_
  refine OpsW.pure rfl rfl (opN_indexArr0 arr63 rfl rfl (by omega)) ?_
  refine OpsW.load rfl rfl (loadOp_obj (u := wV (wf.getD (bs.length / 4) 0)) sc62 rfl (by repeat (first | exact List.Mem.head _ | apply List.Mem.tail)) (get_map (by omega))) ?_
  refine OpsW.pure rfl rfl (pureOp_move rfl) ?_
  refine OpsW.pure rfl rfl (opN_rem (b := 4) rfl rfl (by omega) (by omega)) ?_
  refine OpsW.pure rfl rfl (opN_mul (a := 8) rfl rfl (by omega)) ?_
  refine OpsW.pure rfl rfl (opN_sub (a := 24) rfl rfl (by omega)) ?_
  refine OpsW.pure rfl rfl (op_convI_uint (k := .u64) Try.underlying3 Try.underlying68 rfl (by omega)) ?_
  refine OpsW.pure rfl rfl (op32_shr (n := (24 - 8 * (bs.length % 4))) rfl rfl) ?_
  refine OpsW.pure rfl rfl (op_conv32_8 Try.underlying62 Try.underlying5 rfl) ?_
  refine OpsW.pure rfl rfl (opN_indexArr0 arr25 rfl rfl (by omega)) ?_
  refine OpsW.upd rfl rfl (by repeat (first | exact Pos.here | apply Pos.there)) (lop_store1 Try.sizeOf5 rfl rfl rfl (by simp <;> omega)) ?_
  rintro _ _ ⟨rfl, rfl⟩
  rw [set_fill rfl (by omega)]
  refine OpsW.nil ?_
  refine AWp.forget ?_ (sub_put (i := 2) rfl (sub_put (i := 4) rfl (sub_put (i := 7) rfl (sub_put (i := 8) rfl (sub_put (i := 26) rfl (sub_nil))))))
  refine AWp.region ?_
  refine OpsW.pure rfl rfl (pureOp_move rfl) ?_
  refine OpsW.pure rfl rfl (opN_add (b := 1) rfl rfl (by omega)) ?_
  refine OpsW.pure rfl rfl (pureOp_assign rfl) ?_
  refine OpsW.forget ?_ (sub_put (i := 2) rfl (sub_put (i := 4) rfl (sub_put (i := 7) rfl (sub_put (i := 8) rfl (sub_nil)))))
  refine OpsW.keep (L' := [.obj b2 _, .obj b4 _, .obj b7 _]) (by repeat (first | exact Sel.nil | (apply Sel.cons; (repeat (first | exact Ext.here | apply Ext.there))))) ?_
  refine OpsW.nil ?_
  exact ⟨_, by simp; omega, bs ++ [_], rfl, by simp; omega, by simp only [List.length_append, List.length_singleton]; rw [List.range_succ, List.map_append, ← hbd2]; rfl, rfl, by simp, by simp⟩
  have h32 : bs.length = 32 := by omega
  rw [h32] at hbd2
  refine AWp.exit (exit_here ?_)
  refine AWp.seq ?_
  refine AWp.region ?_
  refine OpsW.load rfl rfl (loadAll rfl (by repeat (first | exact List.Mem.head _ | apply List.Mem.tail)) (by simp [h32]) ag25) ?_
  refine OpsW.upd rfl rfl (by repeat (first | exact Pos.here | apply Pos.there)) (lop_storeAllN 32 Try.sizeOf25 rfl rfl (by simp [h32]) (by simp [h32]) (by simp [one, h32])) ?_
  rintro _ _ ⟨rfl, rfl⟩
  refine OpsW.nil ?_
  refine AWp.forget ?_ (sub_put (i := 2) rfl (sub_put (i := 4) rfl (sub_put (i := 7) rfl (sub_put (i := 8) rfl (sub_put (i := 26) rfl (sub_nil))))))
  refine AWp.ret ?_
  refine ⟨_, [], _, permNone, resCell rfl rfl (by repeat (first | exact List.Mem.head _ | apply List.Mem.tail)) (by simp [h32]) ag25, ?_, rfl⟩
  rw [shaF, sumOf, ← hpd, ← hwf, wordsBytes, ← hbd2]
  simp [h32]

end Go.Proofs.Ytbhjaoedlggbbaa.Sep
