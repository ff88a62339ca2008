/- The walks of the texts of the tree, and of what sums them up. -/
import Derived.Test.YtbhjaoedlggbbaaTreeB
import Derived.Test.YtbhjaoedlggbbaaPut
import Derived.Test.YtbhjaoedlggbbaaProg
namespace Go.Proofs.Ytbhjaoedlggbbaa.Sep
open Go Go.RowKit
set_option linter.unusedVariables false
set_option linter.unusedSimpArgs false
theorem slt22 : SlT Try.prog 22 38 1 24 [.slice none 0 0] := ⟨Try.underlying22, ⟨_, _, (by kernel_rfl : Try.prog.info? 38 = some Try.t38), rfl, rfl, rfl, rfl, rfl⟩⟩


set_option maxRecDepth 20000 in
set_option maxHeartbeats 1000000 in
theorem leaf_c (i : Nat) (v : Value) (d : List UInt8) (m : Mem) (hi : i < 9223372036854775808) (hd : Rd m v 1 (d.map bV)) (hdl : d.length ≤ 549755813888) :
    Ctr Try.prog 14 [iV i, v] m [] (fun _ r L => r = .agg ((shaF (leafText i d)).map bV).toArray ∧ L = []) := by
  refine Ctr.intro Try.func14 rfl Try.ntmps14 (by simp) fun w0 => ?_
  refine AWp.forget ?_ (sub_put (i := 0) rfl (sub_put (i := 1) rfl (sub_nil)))
  refine AWp.seq ?_
  refine AWp.region ?_
  refine OpsW.alloc rfl rfl (allocOp_alloc zt25) ?_
  rintro _ _ ⟨b4, rfl, rfl⟩
  refine OpsW.nil ?_
  refine AWp.forget ?_ (sub_put (i := 0) rfl (sub_put (i := 1) rfl (sub_put (i := 4) rfl (sub_nil))))
  refine AWp.seq ?_
  refine AWp.region ?_
  refine OpsW.alloc rfl rfl (allocOp_buildSlice slt38 rfl rfl (by first | exact cells_rfl rfl | simp [Value.cells]) (by decide)) ?_
  rintro v5 _ ⟨hv5, hn5, rfl⟩
  rw [show List.flatMap (fun x => x.cells.toList) [Value.int .u8 108, Value.int .u8 101, Value.int .u8 97, Value.int .u8 102] = tagL.map bV from rfl] at hv5 ⊢
  refine OpsW.upd rfl rfl (by repeat (first | exact Pos.here | apply Pos.there)) (lop_convMark Try.underlying38 Try.underlying5 rfl (by assumption)) ?_
  rintro u _ ⟨e, rfl⟩
  rw [e]
  clear e
  refine OpsW.pure rfl rfl (pureOp_move rfl) ?_
  refine OpsW.pure rfl rfl (op_convI_64 Try.underlying3 Try.underlying59 rfl (by omega)) ?_
  refine OpsW.callA rfl rfl (callOp Try.call32 rfl) permNone (put_c _ 4 _ (by decide)) ?_
  rintro v9 _ ⟨hv9, hn9, rfl⟩
  refine OpsW.pure rfl rfl (pureOp_move rfl) ?_
  refine OpsW.alloc rfl rfl (allocOp_buildSlice slt22 rfl rfl (sizes3 (size_sl hv5) (size_sl hv9) (size_sl hd.1)) (by decide)) ?_
  rintro v11 _ ⟨hv11, hn11, rfl⟩
  rw [flat3 (cells_sl hv5) (cells_sl hv9) (cells_sl hd.1)] at hv11 ⊢
  refine OpsW.callA rfl rfl (callOp Try.call31 rfl) permNone (of_c _ [tagL, putF (UInt64.ofNat i) 4, d] [v5, v9, v] _ (rds3 (Rd.of_sl (by repeat (first | exact List.Mem.head _ | apply List.Mem.tail)) hv11) (Rd.of_sl (by repeat (first | exact List.Mem.head _ | apply List.Mem.tail)) hv5) (Rd.of_sl (by repeat (first | exact List.Mem.head _ | apply List.Mem.tail)) hv9) hd.ro) (bd3 (by decide) (by simp [putF_length]) hdl) (by simp)) ?_
  rintro _ _ ⟨rfl, rfl⟩
  rw [flat3b, ← leafText]
  refine OpsW.upd rfl rfl (by repeat (first | exact Pos.here | apply Pos.there)) (lop_storeAllN 32 Try.sizeOf25 rfl rfl (by simp) (by simp [shaF_length]) (by first | exact one_map (fun _ => rfl) _ | exact one_rfl rfl | simp [one])) ?_
  rintro _ _ ⟨rfl, rfl⟩
  refine OpsW.nil ?_
  refine AWp.forget ?_ (sub_put (i := 0) rfl (sub_put (i := 1) rfl (sub_put (i := 4) rfl (sub_nil))))
  refine AWp.ret ?_
  exact ⟨_, [], _, permNone, resCell rfl rfl (by repeat (first | exact List.Mem.head _ | apply List.Mem.tail)) (by simp [shaF_length]) ag25, rfl, rfl⟩

set_option maxRecDepth 20000 in
set_option maxHeartbeats 1000000 in
theorem leafText_c (i : Nat) (v : Value) (d : List UInt8) (m : Mem) (hi : i < 9223372036854775808) (hd : Rd m v 1 (d.map bV)) (hdl : d.length ≤ 549755813888) :
    Ctr Try.prog 16 [iV i, v] m [] (fun _ r L => slOk r 1 ((leafText i d).map bV) ∧ L = [.sl r 1 ((leafText i d).map bV)]) := by
  refine Ctr.intro Try.func16 rfl Try.ntmps16 (by simp) fun w0 => ?_
  refine AWp.forget ?_ (sub_put (i := 0) rfl (sub_put (i := 1) rfl (sub_nil)))
  refine AWp.seq ?_
  refine AWp.region ?_
  refine OpsW.pure rfl rfl (pureOp_assign rfl) ?_
  refine OpsW.nil ?_
  refine AWp.forget ?_ (sub_put (i := 0) rfl (sub_put (i := 1) rfl (sub_put (i := 4) rfl (sub_nil))))
  refine AWp.seq ?_
  refine AWp.region ?_
  refine OpsW.alloc rfl rfl (allocOp_buildSlice slt38 rfl rfl (by first | exact cells_rfl rfl | simp [Value.cells]) (by decide)) ?_
  rintro v6 _ ⟨hv6, hn6, rfl⟩
  rw [show List.flatMap (fun x => x.cells.toList) [Value.int .u8 108, Value.int .u8 101, Value.int .u8 97, Value.int .u8 102] = tagL.map bV from rfl] at hv6 ⊢
  refine OpsW.upd rfl rfl (by repeat (first | exact Pos.here | apply Pos.there)) (lop_convMark Try.underlying38 Try.underlying5 rfl (by assumption)) ?_
  rintro u _ ⟨e, rfl⟩
  rw [e]
  clear e
  refine OpsW.pure rfl rfl (pureOp_assign rfl) ?_
  refine OpsW.nil ?_
  refine AWp.forget ?_ (sub_put (i := 0) rfl (sub_put (i := 1) rfl (sub_put (i := 4) rfl (sub_put (i := 5) rfl (sub_nil)))))
  refine AWp.seq ?_
  refine AWp.region ?_
  refine OpsW.pure rfl rfl (pureOp_move rfl) ?_
  refine OpsW.pure rfl rfl (pureOp_move rfl) ?_
  refine OpsW.pure rfl rfl (op_convI_64 Try.underlying3 Try.underlying59 rfl (by omega)) ?_
  refine OpsW.callA rfl rfl (callOp Try.call37 rfl) permNone (put01_c _ 4 _ (by decide)) ?_
  rintro v11 _ ⟨hv11, rfl⟩
  refine OpsW.upd rfl rfl (by repeat (first | exact Pos.here | apply Pos.there)) (lop_append (k := 4) slt38 ni38 rfl rfl rfl (src_rd (n := 4) (by first | exact Rd.ro (by assumption) | exact Rd.of_sl (by repeat (first | exact List.Mem.head _ | apply List.Mem.tail)) (by assumption)) (by simp [putF_length]) (by decide)) (by decide) (one_map (fun _ => rfl) _) (by decide) (by decide)) ?_
  rintro v12 _ ⟨hv12, rfl⟩
  rw [← List.map_append] at hv12 ⊢
  refine OpsW.pure rfl rfl (pureOp_assign rfl) ?_
  refine OpsW.nil ?_
  refine AWp.forget ?_ (sub_put (i := 0) rfl (sub_put (i := 1) rfl (sub_put (i := 4) rfl (sub_put (i := 5) rfl (sub_nil)))))
  refine AWp.seq ?_
  refine AWp.region ?_
  refine OpsW.pure rfl rfl (pureOp_move rfl) ?_
  refine OpsW.pure rfl rfl (pureOp_move rfl) ?_
  refine OpsW.upd rfl rfl (by repeat (first | exact Pos.here | apply Pos.there)) (lop_append (k := 8) slt38 ni38 rfl rfl (by simp [putF_length, tagL]) (src_rd (n := d.length) (by first | exact Rd.ro (by assumption) | exact Rd.of_sl (by repeat (first | exact List.Mem.head _ | apply List.Mem.tail)) (by assumption)) (by simp) (by decide)) (by omega) (one_map (fun _ => rfl) _) (by decide) (by decide)) ?_
  rintro v15 _ ⟨hv15, rfl⟩
  rw [← List.map_append, ← leafText] at hv15 ⊢
  refine OpsW.pure rfl rfl (pureOp_assign rfl) ?_
  refine OpsW.nil ?_
  refine AWp.forget ?_ (sub_put (i := 0) rfl (sub_put (i := 1) rfl (sub_put (i := 4) rfl (sub_put (i := 5) rfl (sub_nil)))))
  refine AWp.ret ?_
  exact ⟨_, [.sl v15 1 _], _, Sel.perm (by repeat (first | exact Sel.nil | (apply Sel.cons; (repeat (first | exact Ext.here | apply Ext.there))))), res_tmp rfl rfl, hv15, rfl⟩

set_option maxRecDepth 20000 in
set_option maxHeartbeats 1000000 in
theorem behind_c (v : Value) (l h : List UInt8) (m : Mem) (hh : h.length = 32) (hl : l.length ≤ 549755813888) :
    Ctr Try.prog 40 [v, .agg (h.map bV).toArray] m [.sl v 1 (l.map bV)] (fun _ r L => slOk r 1 ((l ++ h).map bV) ∧ L = [.sl r 1 ((l ++ h).map bV)]) := by
  refine Ctr.intro Try.func40 rfl Try.ntmps40 (by simp) fun w0 => ?_
  refine AWp.forget ?_ (sub_put (i := 0) rfl (sub_put (i := 1) rfl (sub_nil)))
  refine AWp.seq ?_
  refine AWp.region ?_
  refine OpsW.alloc rfl rfl (allocOp_boxAgg rfl) ?_
  rintro _ _ ⟨b3, rfl, rfl⟩
  refine OpsW.pure rfl rfl (pureOp_assign rfl) ?_
  refine OpsW.nil ?_
  refine AWp.forget ?_ (sub_put (i := 0) rfl (sub_put (i := 1) rfl (sub_put (i := 3) rfl (sub_put (i := 4) rfl (sub_nil)))))
  refine AWp.seq ?_
  refine AWp.region ?_
  refine OpsW.pure rfl rfl (pureOp_move rfl) ?_
  refine OpsW.pure rfl rfl (pureOp_assign rfl) ?_
  refine OpsW.nil ?_
  refine AWp.forget ?_ (sub_put (i := 0) rfl (sub_put (i := 1) rfl (sub_put (i := 3) rfl (sub_put (i := 4) rfl (sub_put (i := 5) rfl (sub_nil))))))
  refine AWp.seq ?_
  refine AWp.seq ?_
  refine AWp.region ?_
  refine OpsW.pure rfl rfl (pureOp_assign rfl) ?_
  refine OpsW.nil ?_
  refine AWp.forget ?_ (sub_put (i := 0) rfl (sub_put (i := 1) rfl (sub_put (i := 3) rfl (sub_put (i := 4) rfl (sub_put (i := 5) rfl (sub_put (i := 6) rfl (sub_nil)))))))
  refine AWp.block ?_
  refine AWp.forget ?_ (sub_put (i := 3) rfl (sub_put (i := 5) rfl (sub_put (i := 6) rfl (sub_nil))))
  refine AWp.keep (L' := [.sl v 1 _, .obj b3 _]) (by repeat (first | exact Sel.nil | (apply Sel.cons; (repeat (first | exact Ext.here | apply Ext.there))))) ?_
  refine AWp.know (fun w s => s.know_sl (v := v) (sz := 1) (cs := l.map bV) (by repeat (first | exact List.Mem.head _ | apply List.Mem.tail))) (fun hv0 => ?_)
  refine AWp.loop (fun N m' T' L' => ∃ (i : Nat) (vv : Value), N = 32 - i ∧ i ≤ 32 ∧ slOk vv 1 ((l ++ h.take i).map bV) ∧ m' = m ∧ T' = put (put (put (tnil) 6 (iV i)) 5 (vv)) 3 (.pointer (some ⟨b3, 0, none⟩)) ∧ L' = [.sl vv 1 ((l ++ h.take i).map bV), .obj b3 (h.map bV)]) _ (⟨0, v, rfl, by omega, by simpa using hv0, rfl, rfl, by simp⟩) ?_
  rintro _ m _ _ ⟨i, vv, rfl, hi, hvv, rfl, rfl, rfl⟩
  refine AWp.seq ?_
  refine AWp.seq ?_
  refine AWp.region ?_
  refine OpsW.pure rfl rfl (pureOp_move rfl) ?_
  refine OpsW.pure rfl rfl (opN_lss (b := 32) rfl rfl) ?_
  refine OpsW.nil ?_
  refine AWp.forget ?_ (sub_put (i := 3) rfl (sub_put (i := 5) rfl (sub_put (i := 6) rfl (sub_put (i := 9) rfl (sub_nil)))))
  refine AWp.condP rfl (fun ht9 => ?_) (fun ht9 => ?_)
  refine AWp.skip ?_
  refine AWp.seq ?_
  refine AWp.block ?_
  refine AWp.region ?_
  refine OpsW.pure rfl rfl (pureOp_move rfl) ?_
  refine OpsW.pure rfl rfl (pureOp_move rfl) ?_
  refine OpsW.pure rfl rfl (opN_indexArr0 arr25 rfl rfl (by omega)) ?_
  refine OpsW.load rfl rfl (loadOp_obj (u := bV (h.getD i 0)) sc5 rfl (by repeat (first | exact List.Mem.head _ | apply List.Mem.tail)) (get_map (by omega))) ?_
  refine OpsW.alloc rfl rfl (allocOp_buildSlice slt38 rfl rfl (by first | exact cells_rfl rfl | simp [Value.cells]) (by decide)) ?_
  rintro v16 _ ⟨hv16, hn16, rfl⟩
  refine OpsW.upd rfl rfl (by repeat (first | exact Pos.here | apply Pos.there)) (lop_append (k := (l.length + i)) slt38 ni38 rfl rfl (by simp; omega) (src_rd (n := 1) (by first | exact Rd.ro (by assumption) | exact Rd.of_sl (by repeat (first | exact List.Mem.head _ | apply List.Mem.tail)) (by assumption)) rfl (by decide)) (by omega) (one_rfl rfl) (by decide) (by decide)) ?_
  rintro v17 _ ⟨hv17, rfl⟩
  rw [map_snoc, List.append_assoc, ← take_get (by omega)] at hv17 ⊢
  refine OpsW.pure rfl rfl (pureOp_assign rfl) ?_
  refine OpsW.nil ?_
  refine AWp.forget ?_ (sub_put (i := 3) rfl (sub_put (i := 5) rfl (sub_put (i := 6) rfl (sub_put (i := 9) rfl (sub_nil)))))
  refine AWp.region ?_
  refine OpsW.pure rfl rfl (pureOp_move rfl) ?_
  refine OpsW.pure rfl rfl (opN_add (b := 1) rfl rfl (by omega)) ?_
  refine OpsW.pure rfl rfl (pureOp_assign rfl) ?_
  refine OpsW.forget ?_ (sub_put (i := 3) rfl (sub_put (i := 5) rfl (sub_put (i := 6) rfl (sub_nil))))
  refine OpsW.keep (L' := [.sl v17 1 _, .obj b3 _]) (by repeat (first | exact Sel.nil | (apply Sel.cons; (repeat (first | exact Ext.here | apply Ext.there))))) ?_
  refine OpsW.nil ?_
  exact ⟨_, by omega, i + 1, v17, rfl, by omega, hv17, rfl, rfl, rfl⟩
  obtain rfl : i = 32 := by omega
  refine AWp.exit (exit_here ?_)
  refine AWp.seq ?_
  refine AWp.region ?_
  refine OpsW.pure rfl rfl (pureOp_move rfl) ?_
  refine OpsW.pure rfl rfl (pureOp_assign rfl) ?_
  refine OpsW.nil ?_
  refine AWp.forget ?_ (sub_put (i := 3) rfl (sub_put (i := 4) rfl (sub_put (i := 5) rfl (sub_put (i := 6) rfl (sub_put (i := 9) rfl (sub_nil))))))
  refine AWp.ret ?_
  rw [List.take_of_length_le (by omega)] at hvv ⊢
  exact ⟨_, [.sl vv 1 _], _, Sel.perm (by repeat (first | exact Sel.nil | (apply Sel.cons; (repeat (first | exact Ext.here | apply Ext.there))))), res_tmp rfl rfl, hvv, rfl⟩

set_option maxRecDepth 20000 in
set_option maxHeartbeats 1000000 in
theorem nodeText_c (a b : List UInt8) (m : Mem) (ha : a.length = 32) (hb : b.length = 32) :
    Ctr Try.prog 39 [.agg (a.map bV).toArray, .agg (b.map bV).toArray] m [] (fun _ r L => slOk r 1 ((nodeText a b).map bV) ∧ L = [.sl r 1 ((nodeText a b).map bV)]) := by
  refine Ctr.intro Try.func39 rfl Try.ntmps39 (by simp) fun w0 => ?_
  refine AWp.forget ?_ (sub_put (i := 0) rfl (sub_put (i := 1) rfl (sub_nil)))
  refine AWp.seq ?_
  refine AWp.region ?_
  refine OpsW.alloc rfl rfl (allocOp_boxAgg rfl) ?_
  rintro _ _ ⟨b2, rfl, rfl⟩
  refine OpsW.alloc rfl rfl (allocOp_boxAgg rfl) ?_
  rintro _ _ ⟨b3, rfl, rfl⟩
  refine OpsW.pure rfl rfl (pureOp_assign rfl) ?_
  refine OpsW.nil ?_
  refine AWp.forget ?_ (sub_put (i := 0) rfl (sub_put (i := 1) rfl (sub_put (i := 2) rfl (sub_put (i := 3) rfl (sub_put (i := 4) rfl (sub_nil))))))
  refine AWp.seq ?_
  refine AWp.lend (Sel.perm (L' := []) (by repeat (first | exact Sel.nil | (apply Sel.cons; (repeat (first | exact Ext.here | apply Ext.there)))))) (fun w1 => ?_)
  refine AWp.draw [(2, .ro), (4, .ro), (0, .alloc), (1, .mark), (3, .wr), (5, .wr), (6, .pure)] rfl (by decide +kernel) (fun _ _ _ p h => ⟨h.1, AWp.perm h.2 (p.symm.append_right _)⟩) ?_
  refine ⟨_, _, rfl, OpStep.ro rfl rfl (roAll rfl (by repeat (first | exact List.Mem.head _ | apply List.Mem.tail)) (by simp [ha]) ag25), ?_⟩
  rintro _ _ ⟨rfl, rfl⟩ -
  refine ⟨_, _, rfl, OpStep.ro rfl rfl (roAll rfl (by repeat (first | exact List.Mem.head _ | apply List.Mem.tail)) (by simp [hb]) ag25), ?_⟩
  rintro _ _ ⟨rfl, rfl⟩ -
  refine ⟨_, _, rfl, allocStep_buildSlice rfl rfl slt38 rfl rfl (by first | exact cells_rfl rfl | simp [Value.cells]) (by decide), ?_⟩
  rintro _ _ ⟨v5, _, ⟨hv5, hn5, rfl⟩, rfl, rfl⟩ -
  rw [show List.flatMap (fun x => x.cells.toList) [Value.int .u8 110, Value.int .u8 111, Value.int .u8 100, Value.int .u8 101] = tagN.map bV from rfl] at hv5 ⊢
  refine ⟨_, _, rfl, OpStep.mark rfl rfl rfl Try.underlying38 Try.underlying5 rfl (by assumption) (by repeat (first | exact List.Mem.head _ | apply List.Mem.tail)), ?_⟩
  rintro _ _ ⟨rfl, rfl⟩ -
  refine ⟨_, _, rfl, OpStep.callW rfl rfl (callOp Try.call40 rfl) (Sel.perm (L' := [.sl v5 1 _]) (by repeat (first | exact Sel.nil | (apply Sel.cons; (repeat (first | exact Ext.here | apply Ext.there)))))) (behind_c _ tagN a _ ha (by decide)), ?_⟩
  rintro _ _ ⟨v8, _, ⟨hv8, rfl⟩, rfl, rfl⟩ -
  refine ⟨_, _, rfl, OpStep.callW rfl rfl (callOp Try.call40 rfl) (Sel.perm (L' := [.sl v8 1 _]) (by repeat (first | exact Sel.nil | (apply Sel.cons; (repeat (first | exact Ext.here | apply Ext.there)))))) (behind_c _ (tagN ++ a) b _ hb (by simp [tagN, ha])), ?_⟩
  rintro _ _ ⟨v10, _, ⟨hv10, rfl⟩, rfl, rfl⟩ -
  refine ⟨_, _, rfl, OpStep.pure rfl rfl (pureOp_assign rfl), ?_⟩
  rintro _ _ ⟨rfl, rfl⟩ -
  refine ⟨rfl, ?_⟩
  refine AWp.keep (L' := [.sl v10 1 _]) (by repeat (first | exact Sel.nil | (apply Sel.cons; (repeat (first | exact Ext.here | apply Ext.there))))) ?_
  refine AWp.forget ?_ (sub_put (i := 0) rfl (sub_put (i := 1) rfl (sub_put (i := 2) rfl (sub_put (i := 3) rfl (sub_put (i := 4) rfl (sub_nil))))))
  refine AWp.ret ?_
  exact ⟨_, [.sl v10 1 _], _, Sel.perm (by repeat (first | exact Sel.nil | (apply Sel.cons; (repeat (first | exact Ext.here | apply Ext.there))))), res_tmp rfl rfl, hv10, rfl⟩

set_option maxRecDepth 20000 in
set_option maxHeartbeats 1000000 in
theorem rootText_c (n : Nat) (a : List UInt8) (m : Mem) (hn : n < 9223372036854775808) (ha : a.length = 32) :
    Ctr Try.prog 28 [iV n, .agg (a.map bV).toArray] m [] (fun _ r L => slOk r 1 ((rootText n a).map bV) ∧ L = [.sl r 1 ((rootText n a).map bV)]) := by
  refine Ctr.intro Try.func28 rfl Try.ntmps28 (by simp) fun w0 => ?_
  refine AWp.forget ?_ (sub_put (i := 0) rfl (sub_put (i := 1) rfl (sub_nil)))
  refine AWp.seq ?_
  refine AWp.region ?_
  refine OpsW.alloc rfl rfl (allocOp_boxAgg rfl) ?_
  rintro _ _ ⟨b3, rfl, rfl⟩
  refine OpsW.pure rfl rfl (pureOp_assign rfl) ?_
  refine OpsW.nil ?_
  refine AWp.forget ?_ (sub_put (i := 0) rfl (sub_put (i := 1) rfl (sub_put (i := 3) rfl (sub_put (i := 4) rfl (sub_nil)))))
  refine AWp.seq ?_
  refine AWp.region ?_
  refine OpsW.alloc rfl rfl (allocOp_buildSlice slt38 rfl rfl (by first | exact cells_rfl rfl | simp [Value.cells]) (by decide)) ?_
  rintro v6 _ ⟨hv6, hn6, rfl⟩
  rw [show List.flatMap (fun x => x.cells.toList) [Value.int .u8 114, Value.int .u8 111, Value.int .u8 111, Value.int .u8 116] = tagR.map bV from rfl] at hv6 ⊢
  refine OpsW.upd rfl rfl (by repeat (first | exact Pos.here | apply Pos.there)) (lop_convMark Try.underlying38 Try.underlying5 rfl (by assumption)) ?_
  rintro u _ ⟨e, rfl⟩
  rw [e]
  clear e
  refine OpsW.pure rfl rfl (pureOp_assign rfl) ?_
  refine OpsW.nil ?_
  refine AWp.forget ?_ (sub_put (i := 0) rfl (sub_put (i := 1) rfl (sub_put (i := 3) rfl (sub_put (i := 4) rfl (sub_put (i := 5) rfl (sub_nil))))))
  refine AWp.seq ?_
  refine AWp.region ?_
  refine OpsW.pure rfl rfl (pureOp_move rfl) ?_
  refine OpsW.pure rfl rfl (pureOp_move rfl) ?_
  refine OpsW.pure rfl rfl (op_convI_64 Try.underlying3 Try.underlying59 rfl (by omega)) ?_
  refine OpsW.callA rfl rfl (callOp Try.call37 rfl) permNone (put01_c _ 4 _ (by decide)) ?_
  rintro v11 _ ⟨hv11, rfl⟩
  refine OpsW.upd rfl rfl (by repeat (first | exact Pos.here | apply Pos.there)) (lop_append (k := 4) slt38 ni38 rfl rfl rfl (src_rd (n := 4) (by first | exact Rd.ro (by assumption) | exact Rd.of_sl (by repeat (first | exact List.Mem.head _ | apply List.Mem.tail)) (by assumption)) (by simp [putF_length]) (by decide)) (by decide) (one_map (fun _ => rfl) _) (by decide) (by decide)) ?_
  rintro v12 _ ⟨hv12, rfl⟩
  rw [← List.map_append] at hv12 ⊢
  refine OpsW.pure rfl rfl (pureOp_assign rfl) ?_
  refine OpsW.nil ?_
  refine AWp.forget ?_ (sub_put (i := 0) rfl (sub_put (i := 1) rfl (sub_put (i := 3) rfl (sub_put (i := 4) rfl (sub_put (i := 5) rfl (sub_nil))))))
  refine AWp.seq ?_
  refine AWp.region ?_
  refine OpsW.pure rfl rfl (pureOp_move rfl) ?_
  refine OpsW.load rfl rfl (loadAll rfl (by repeat (first | exact List.Mem.head _ | apply List.Mem.tail)) (by simp [ha]) ag25) ?_
  refine OpsW.callA rfl rfl (callOp Try.call40 rfl) (Sel.perm (L' := [.sl v12 1 _]) (by repeat (first | exact Sel.nil | (apply Sel.cons; (repeat (first | exact Ext.here | apply Ext.there)))))) (behind_c _ (tagR ++ putF (UInt64.ofNat n) 4) a _ ha (by simp [tagR, putF_length])) ?_
  rintro v15 _ ⟨hv15, rfl⟩
  refine OpsW.pure rfl rfl (pureOp_assign rfl) ?_
  refine OpsW.nil ?_
  refine AWp.forget ?_ (sub_put (i := 0) rfl (sub_put (i := 1) rfl (sub_put (i := 3) rfl (sub_put (i := 4) rfl (sub_put (i := 5) rfl (sub_nil))))))
  refine AWp.ret ?_
  exact ⟨_, [.sl v15 1 _], _, Sel.perm (by repeat (first | exact Sel.nil | (apply Sel.cons; (repeat (first | exact Ext.here | apply Ext.there))))), res_tmp rfl rfl, hv15, rfl⟩

set_option maxRecDepth 20000 in
set_option maxHeartbeats 1000000 in
theorem join_c (a b : List UInt8) (m : Mem) (ha : a.length = 32) (hb : b.length = 32) :
    Ctr Try.prog 38 [.agg (a.map bV).toArray, .agg (b.map bV).toArray] m [] (fun _ r L => r = .agg ((shaF (nodeText a b)).map bV).toArray ∧ L = []) := by
  refine Ctr.intro Try.func38 rfl Try.ntmps38 (by simp) fun w0 => ?_
  refine AWp.forget ?_ (sub_put (i := 0) rfl (sub_put (i := 1) rfl (sub_nil)))
  refine AWp.seq ?_
  refine AWp.region ?_
  refine OpsW.alloc rfl rfl (allocOp_boxAgg rfl) ?_
  rintro _ _ ⟨b2, rfl, rfl⟩
  refine OpsW.alloc rfl rfl (allocOp_boxAgg rfl) ?_
  rintro _ _ ⟨b3, rfl, rfl⟩
  refine OpsW.alloc rfl rfl (allocOp_alloc zt25) ?_
  rintro _ _ ⟨b4, rfl, rfl⟩
  refine OpsW.nil ?_
  refine AWp.forget ?_ (sub_put (i := 0) rfl (sub_put (i := 1) rfl (sub_put (i := 2) rfl (sub_put (i := 3) rfl (sub_put (i := 4) rfl (sub_nil))))))
  refine AWp.seq ?_
  refine AWp.draw [(2, .pure), (3, .pure), (0, .alloc), (1, .mark), (4, .alloc), (5, .call), (6, .wr)] rfl (by decide +kernel) (fun _ _ _ p h => AWp.perm h p.symm) ?_
  refine ⟨_, _, rfl, OpStep.pure rfl rfl (pureOp_sliceArr (n := 32) 0 32 Try.underlying25 Try.sizeOf5 rfl (.inl ⟨rfl, rfl⟩) (.inl ⟨rfl, rfl⟩) (by decide) (by decide)), ?_⟩
  rintro _ _ ⟨rfl, rfl⟩ -
  rw [show arrSl b2 0 32 0 32 1 = .slice (some ⟨b2, 0, none⟩) 32 32 from rfl]
  refine ⟨_, _, rfl, OpStep.pure rfl rfl (pureOp_sliceArr (n := 32) 0 32 Try.underlying25 Try.sizeOf5 rfl (.inl ⟨rfl, rfl⟩) (.inl ⟨rfl, rfl⟩) (by decide) (by decide)), ?_⟩
  rintro _ _ ⟨rfl, rfl⟩ -
  rw [show arrSl b3 0 32 0 32 1 = .slice (some ⟨b3, 0, none⟩) 32 32 from rfl]
  refine ⟨_, _, rfl, allocStep_buildSlice rfl rfl slt38 rfl rfl (by first | exact cells_rfl rfl | simp [Value.cells]) (by decide), ?_⟩
  rintro _ _ ⟨v5, _, ⟨hv5, hn5, rfl⟩, rfl, rfl⟩ -
  rw [show List.flatMap (fun x => x.cells.toList) [Value.int .u8 110, Value.int .u8 111, Value.int .u8 100, Value.int .u8 101] = tagN.map bV from rfl] at hv5 ⊢
  refine ⟨_, _, rfl, OpStep.mark rfl rfl rfl Try.underlying38 Try.underlying5 rfl (by assumption) (by repeat (first | exact List.Mem.head _ | apply List.Mem.tail)), ?_⟩
  rintro _ _ ⟨rfl, rfl⟩ -
  refine ⟨_, _, rfl, allocStep_buildSlice rfl rfl slt22 rfl rfl (sizes3 (size_sl hv5) rfl rfl) (by decide), ?_⟩
  rintro _ _ ⟨v9, _, ⟨hv9, hn9, rfl⟩, rfl, rfl⟩ -
  rw [flat3 (cells_sl hv5) rfl rfl] at hv9 ⊢
  refine ⟨_, _, rfl, OpStep.call rfl rfl (callOp Try.call31 rfl) (of_c _ [tagN, a, b] [v5, _, _] _ (rds3 (Rd.of_sl (by repeat (first | exact List.Mem.head _ | apply List.Mem.tail)) hv9) (Rd.of_sl (by repeat (first | exact List.Mem.head _ | apply List.Mem.tail)) hv5) (Rd.of_obj (by repeat (first | exact List.Mem.head _ | apply List.Mem.tail)) (by simp [ha]) (Nat.le_refl _)) (Rd.of_obj (by repeat (first | exact List.Mem.head _ | apply List.Mem.tail)) (by simp [hb]) (Nat.le_refl _))) (bd3 (by decide) (by omega) (by omega)) (by simp)), ?_⟩
  rintro _ _ ⟨_, _, ⟨rfl, rfl⟩, rfl, rfl⟩ -
  rw [flat3b, ← nodeText]
  refine ⟨_, _, rfl, OpStep.wr rfl rfl (toWp (by repeat (first | exact Pos.here | apply Pos.there)) (lop_storeAllN 32 Try.sizeOf25 rfl rfl (by simp) (by simp [shaF_length]) (by first | exact one_map (fun _ => rfl) _ | exact one_rfl rfl | simp [one]))), ?_⟩
  rintro _ _ ⟨_, ⟨_, ⟨rfl, rfl⟩, rfl⟩, rfl⟩ -
  refine AWp.forget ?_ (sub_put (i := 0) rfl (sub_put (i := 1) rfl (sub_put (i := 2) rfl (sub_put (i := 3) rfl (sub_put (i := 4) rfl (sub_nil))))))
  refine AWp.ret ?_
  exact ⟨_, [], _, permNone, resCell rfl rfl (by repeat (first | exact List.Mem.head _ | apply List.Mem.tail)) (by simp [shaF_length]) ag25, rfl, rfl⟩

set_option maxRecDepth 20000 in
set_option maxHeartbeats 1000000 in
theorem crown_c (n : Nat) (a : List UInt8) (m : Mem) (hn : n < 9223372036854775808) (ha : a.length = 32) :
    Ctr Try.prog 26 [iV n, .agg (a.map bV).toArray] m [] (fun _ r L => r = .agg ((shaF (rootText n a)).map bV).toArray ∧ L = []) := by
  refine Ctr.intro Try.func26 rfl Try.ntmps26 (by simp) fun w0 => ?_
  refine AWp.forget ?_ (sub_put (i := 0) rfl (sub_put (i := 1) rfl (sub_nil)))
  refine AWp.seq ?_
  refine AWp.region ?_
  refine OpsW.alloc rfl rfl (allocOp_boxAgg rfl) ?_
  rintro _ _ ⟨b3, rfl, rfl⟩
  refine OpsW.alloc rfl rfl (allocOp_alloc zt25) ?_
  rintro _ _ ⟨b4, rfl, rfl⟩
  refine OpsW.nil ?_
  refine AWp.forget ?_ (sub_put (i := 0) rfl (sub_put (i := 1) rfl (sub_put (i := 3) rfl (sub_put (i := 4) rfl (sub_nil)))))
  refine AWp.seq ?_
  refine AWp.draw [(2, .pure), (3, .pure), (5, .pure), (4, .call), (0, .alloc), (1, .mark), (6, .alloc), (7, .call), (8, .wr)] rfl (by decide +kernel) (fun _ _ _ p h => AWp.perm h p.symm) ?_
  refine ⟨_, _, rfl, OpStep.pure rfl rfl (pureOp_move rfl), ?_⟩
  rintro _ _ ⟨rfl, rfl⟩ -
  refine ⟨_, _, rfl, OpStep.pure rfl rfl (op_convI_64 Try.underlying3 Try.underlying59 rfl (by omega)), ?_⟩
  rintro _ _ ⟨rfl, rfl⟩ -
  refine ⟨_, _, rfl, OpStep.pure rfl rfl (pureOp_sliceArr (n := 32) 0 32 Try.underlying25 Try.sizeOf5 rfl (.inl ⟨rfl, rfl⟩) (.inl ⟨rfl, rfl⟩) (by decide) (by decide)), ?_⟩
  rintro _ _ ⟨rfl, rfl⟩ -
  rw [show arrSl b3 0 32 0 32 1 = .slice (some ⟨b3, 0, none⟩) 32 32 from rfl]
  refine ⟨_, _, rfl, OpStep.call rfl rfl (callOp Try.call32 rfl) (put_c _ 4 _ (by decide)), ?_⟩
  rintro _ _ ⟨v9, _, ⟨hv9, hn9, rfl⟩, rfl, rfl⟩ -
  refine ⟨_, _, rfl, allocStep_buildSlice rfl rfl slt38 rfl rfl (by first | exact cells_rfl rfl | simp [Value.cells]) (by decide), ?_⟩
  rintro _ _ ⟨v5, _, ⟨hv5, hn5, rfl⟩, rfl, rfl⟩ -
  rw [show List.flatMap (fun x => x.cells.toList) [Value.int .u8 114, Value.int .u8 111, Value.int .u8 111, Value.int .u8 116] = tagR.map bV from rfl] at hv5 ⊢
  refine ⟨_, _, rfl, OpStep.mark rfl rfl rfl Try.underlying38 Try.underlying5 rfl (by assumption) (by repeat (first | exact List.Mem.head _ | apply List.Mem.tail)), ?_⟩
  rintro _ _ ⟨rfl, rfl⟩ -
  refine ⟨_, _, rfl, allocStep_buildSlice rfl rfl slt22 rfl rfl (sizes3 (size_sl hv5) (size_sl hv9) rfl) (by decide), ?_⟩
  rintro _ _ ⟨v11, _, ⟨hv11, hn11, rfl⟩, rfl, rfl⟩ -
  rw [flat3 (cells_sl hv5) (cells_sl hv9) rfl] at hv11 ⊢
  refine ⟨_, _, rfl, OpStep.call rfl rfl (callOp Try.call31 rfl) (of_c _ [tagR, putF (UInt64.ofNat n) 4, a] [v5, v9, _] _ (rds3 (Rd.of_sl (by repeat (first | exact List.Mem.head _ | apply List.Mem.tail)) hv11) (Rd.of_sl (by repeat (first | exact List.Mem.head _ | apply List.Mem.tail)) hv5) (Rd.of_sl (by repeat (first | exact List.Mem.head _ | apply List.Mem.tail)) hv9) (Rd.of_obj (by repeat (first | exact List.Mem.head _ | apply List.Mem.tail)) (by simp [ha]) (Nat.le_refl _))) (bd3 (by decide) (by simp [putF_length]) (by omega)) (by simp)), ?_⟩
  rintro _ _ ⟨_, _, ⟨rfl, rfl⟩, rfl, rfl⟩ -
  rw [flat3b, ← rootText]
  refine ⟨_, _, rfl, OpStep.wr rfl rfl (toWp (by repeat (first | exact Pos.here | apply Pos.there)) (lop_storeAllN 32 Try.sizeOf25 rfl rfl (by simp) (by simp [shaF_length]) (by first | exact one_map (fun _ => rfl) _ | exact one_rfl rfl | simp [one]))), ?_⟩
  rintro _ _ ⟨_, ⟨_, ⟨rfl, rfl⟩, rfl⟩, rfl⟩ -
  refine AWp.forget ?_ (sub_put (i := 0) rfl (sub_put (i := 1) rfl (sub_put (i := 3) rfl (sub_put (i := 4) rfl (sub_nil)))))
  refine AWp.ret ?_
  exact ⟨_, [], _, permNone, resCell rfl rfl (by repeat (first | exact List.Mem.head _ | apply List.Mem.tail)) (by simp [shaF_length]) ag25, rfl, rfl⟩

end Go.Proofs.Ytbhjaoedlggbbaa.Sep
