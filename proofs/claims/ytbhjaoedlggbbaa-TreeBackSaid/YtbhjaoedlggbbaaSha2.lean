/- The walks of the package digest, the second part. -/
import Derived.Test.YtbhjaoedlggbbaaShaPure3
import Derived.Test.YtbhjaoedlggbbaaSha
import Derived.Test.YtbhjaoedlggbbaaProg
namespace Go.Proofs.Ytbhjaoedlggbbaa.Sep
open Go Go.RowKit
set_option linter.unusedVariables false
set_option linter.unusedSimpArgs false
theorem zt25 : ZeroT Try.prog 25 (List.replicate 32 (.int .u8 0)) := ⟨_, Try.zeroValue25, rfl⟩
theorem arr25 : ArrT Try.prog 25 32 1 := ⟨5, Try.underlying25, Try.sizeOf5⟩
theorem ag25 : AggT Try.prog 25 32 := ⟨Try.isAgg25, Try.sizeOf25⟩


set_option maxRecDepth 20000 in
set_option maxHeartbeats 2000000 in
theorem sum_c (hb : Nat) (ws : List UInt32) (rv : Value) (rb : List UInt8) (n : UInt64) (m : Mem) (hs : ws.length = 8) (hbd : rb.length ≤ 1099511627776) :
    Ctr Try.prog 44 [.pointer (some ⟨hb, 0, none⟩)] m [.obj hb (ws.map wV ++ [rv, qV n]), .sl rv 1 (rb.map bV)] (fun _ r L => r = .agg ((sumOf ws rb n).map bV).toArray ∧ L = []) := by
  refine Ctr.intro Try.func44 rfl Try.ntmps44 (by simp) fun w0 => ?_
  refine AWp.forget ?_ (sub_put (i := 0) rfl (sub_nil))
  refine AWp.seq ?_
  refine AWp.region ?_
  refine OpsW.alloc rfl rfl (allocOp_alloc zt25) ?_
  rintro _ _ ⟨b2, rfl, rfl⟩
  refine OpsW.nil ?_
  refine AWp.forget ?_ (sub_put (i := 0) rfl (sub_put (i := 2) rfl (sub_nil)))
  refine AWp.seq ?_
  refine AWp.region ?_
  refine OpsW.alloc rfl rfl (allocOp_buildSlice slt38 rfl rfl (by first | exact cells_rfl rfl | simp [Value.cells]) (by decide)) ?_
  rintro v8 _ ⟨hv8, hn8, rfl⟩
  refine OpsW.pure rfl rfl (pureOp_move rfl) ?_
  refine OpsW.pure rfl rfl (pureOp_nilCheck rfl) ?_
  refine OpsW.pure rfl rfl (pureOp_fieldAddr fa78_1 rfl) ?_
  refine OpsW.load rfl rfl (loadOp_obj (u := rv) sc38 rfl (by repeat (first | exact List.Mem.head _ | apply List.Mem.tail)) (get_tail hs 0)) ?_
  refine OpsW.know (fun w s => s.know_sl (v := rv) (sz := 1) (cs := rb.map bV) (by repeat (first | exact List.Mem.head _ | apply List.Mem.tail))) (fun hrv => ?_)
  refine OpsW.upd rfl rfl (by repeat (first | exact Pos.here | apply Pos.there)) (lop_append (k := 0) slt38 ni38 rfl rfl (by simp) (src_rd (n := rb.length) (by first | exact Rd.ro (by assumption) | exact Rd.of_sl (by repeat (first | exact List.Mem.head _ | apply List.Mem.tail)) (by assumption)) (by simp) (by decide)) (by omega) (one_map (fun _ => rfl) _) (by decide) (by decide)) ?_
  rintro v13 _ ⟨hv13, rfl⟩
  simp only [List.flatMap_nil, List.nil_append] at hv13 ⊢
  refine OpsW.alloc rfl rfl (allocOp_buildSlice slt38 rfl rfl (by first | exact cells_rfl rfl | simp [Value.cells]) (by decide)) ?_
  rintro v14 _ ⟨hv14, hn14, rfl⟩
  refine OpsW.upd rfl rfl (by repeat (first | exact Pos.here | apply Pos.there)) (lop_append (k := rb.length) slt38 ni38 rfl rfl (by simp) (src_rd (n := 1) (by first | exact Rd.ro (by assumption) | exact Rd.of_sl (by repeat (first | exact List.Mem.head _ | apply List.Mem.tail)) (by assumption)) rfl (by decide)) (by omega) (one_rfl rfl) (by decide) (by decide)) ?_
  rintro v15 _ ⟨hv15, rfl⟩
  rw [show rb.map bV ++ List.flatMap (fun x => x.cells.toList) [Value.int .u8 128] = (rb ++ [0x80] ++ List.replicate 0 0).map bV from by simp; rfl] at hv15 ⊢
  refine OpsW.pure rfl rfl (pureOp_assign rfl) ?_
  refine OpsW.nil ?_
  refine AWp.forget ?_ (sub_put (i := 0) rfl (sub_put (i := 2) rfl (sub_put (i := 3) rfl (sub_nil))))
  refine AWp.seq ?_
  refine AWp.block ?_
  refine AWp.forget ?_ (sub_put (i := 0) rfl (sub_put (i := 2) rfl (sub_put (i := 3) rfl (sub_nil))))
  refine AWp.keep (L' := [.obj hb _, .obj b2 _, .sl v15 1 _]) (by repeat (first | exact Sel.nil | (apply Sel.cons; (repeat (first | exact Ext.here | apply Ext.there))))) ?_
  have hpz := padZ_lt rb.length
  refine AWp.loop (fun N m' T' L' => ∃ (k : Nat) (vv : Value), N = padZ rb.length - k ∧ k ≤ padZ rb.length ∧ slOk vv 1 ((rb ++ [0x80] ++ List.replicate k 0).map bV) ∧ m' = m ∧ T' = put (put (put (tnil) 3 (vv)) 2 (.pointer (some ⟨b2, 0, none⟩))) 0 (.pointer (some ⟨hb, 0, none⟩)) ∧ L' = [.obj hb (ws.map wV ++ [rv, qV n]), .obj b2 (List.replicate 32 (.int .u8 0)), .sl vv 1 ((rb ++ [0x80] ++ List.replicate k 0).map bV)]) _ (⟨0, v15, rfl, Nat.zero_le _, hv15, rfl, rfl, rfl⟩) ?_
  rintro _ m _ _ ⟨k, vv, rfl, hk, hvv, rfl, rfl, rfl⟩
  refine AWp.seq ?_
  refine AWp.seq ?_
  refine AWp.region ?_
  refine OpsW.pure rfl rfl (pureOp_move rfl) ?_
  refine OpsW.pure rfl rfl (opN_len1 (rb.length + 1 + k) Try.underlying38 rfl (by assumption) (by simp; omega)) ?_
  refine OpsW.pure rfl rfl (opN_rem (b := 64) rfl rfl (by omega) (by omega)) ?_
  refine OpsW.pure rfl rfl (opN_neq (b := 56) rfl rfl) ?_
  refine OpsW.nil ?_
  refine AWp.forget ?_ (sub_put (i := 0) rfl (sub_put (i := 2) rfl (sub_put (i := 3) rfl (sub_put (i := 19) rfl (sub_nil)))))
  refine AWp.condP rfl (fun ht19 => ?_) (fun ht19 => ?_)
  refine AWp.skip ?_
  refine AWp.block ?_
  refine AWp.region ?_
  have hk2 : k < padZ rb.length := Nat.lt_of_le_of_ne hk (fun e => ht19 ((padZ_spec _ _ hk).2 e))
  refine OpsW.pure rfl rfl (pureOp_move rfl) ?_
  refine OpsW.alloc rfl rfl (allocOp_buildSlice slt38 rfl rfl (by first | exact cells_rfl rfl | simp [Value.cells]) (by decide)) ?_
  rintro v21 _ ⟨hv21, hn21, rfl⟩
  refine OpsW.upd rfl rfl (by repeat (first | exact Pos.here | apply Pos.there)) (lop_append (k := (rb.length + 1 + k)) slt38 ni38 rfl rfl (by simp; omega) (src_rd (n := 1) (by first | exact Rd.ro (by assumption) | exact Rd.of_sl (by repeat (first | exact List.Mem.head _ | apply List.Mem.tail)) (by assumption)) rfl (by decide)) (by omega) (one_rfl rfl) (by decide) (by decide)) ?_
  rintro v22 _ ⟨hv22, rfl⟩
  rw [show List.map bV (rb ++ [0x80] ++ List.replicate k 0) ++ List.flatMap (fun x => x.cells.toList) [Value.int .u8 0] = List.map bV (rb ++ [0x80] ++ List.replicate (k + 1) 0) from by rw [List.replicate_succ']; simp; rfl] at hv22 ⊢
  refine OpsW.pure rfl rfl (pureOp_assign rfl) ?_
  refine OpsW.forget ?_ (sub_put (i := 0) rfl (sub_put (i := 2) rfl (sub_put (i := 3) rfl (sub_nil))))
  refine OpsW.keep (L' := [.obj hb _, .obj b2 _, .sl v22 1 _]) (by repeat (first | exact Sel.nil | (apply Sel.cons; (repeat (first | exact Ext.here | apply Ext.there))))) ?_
  refine OpsW.nil ?_
  exact ⟨_, by omega, k + 1, v22, rfl, by omega, hv22, rfl, rfl, rfl⟩
  have hkk : k = padZ rb.length := (padZ_spec _ _ hk).1 (by omega)
  subst hkk
  refine AWp.exit (exit_here ?_)
  refine AWp.seq ?_
  refine AWp.seq ?_
  refine AWp.region ?_
  refine OpsW.pure rfl rfl (pureOp_assign rfl) ?_
  refine OpsW.nil ?_
  refine AWp.forget ?_ (sub_put (i := 0) rfl (sub_put (i := 2) rfl (sub_put (i := 3) rfl (sub_put (i := 4) rfl (sub_put (i := 19) rfl (sub_nil))))))
  refine AWp.block ?_
  refine AWp.forget ?_ (sub_put (i := 0) rfl (sub_put (i := 2) rfl (sub_put (i := 3) rfl (sub_put (i := 4) rfl (sub_nil)))))
  obtain ⟨pz, hpzd⟩ : ∃ pz, pz = rb ++ [0x80] ++ List.replicate (padZ rb.length) 0 := ⟨_, rfl⟩
  rw [← hpzd] at hvv ⊢
  have hpl : pz.length = rb.length + 1 + padZ rb.length := by rw [hpzd]; simp; omega
  refine AWp.loop (fun N m' T' L' => ∃ (j : Nat) (vv : Value), N = (j + 0) ∧ j ≤ 8 ∧ slOk vv 1 ((pz ++ (lenBytes n).take (8 - j)).map bV) ∧ m' = m ∧ T' = put (put (put (put (tnil) 4 (.int .i64 ((j : Int) - 1))) 3 (vv)) 2 (.pointer (some ⟨b2, 0, none⟩))) 0 (.pointer (some ⟨hb, 0, none⟩)) ∧ L' = [.obj hb (ws.map wV ++ [rv, qV n]), .obj b2 (List.replicate 32 (.int .u8 0)), .sl vv 1 ((pz ++ (lenBytes n).take (8 - j)).map bV)]) _ (⟨8, vv, rfl, by omega, by simpa using hvv, rfl, rfl, by simp⟩) ?_
  rintro _ m _ _ ⟨j, vv, hN, hj, hvv, rfl, rfl, rfl⟩
  refine AWp.seq ?_
  refine AWp.seq ?_
  refine AWp.region ?_
  refine OpsW.pure rfl rfl (pureOp_move rfl) ?_
  refine OpsW.pure rfl rfl (pureOp_geq rfl rfl) ?_
  refine OpsW.nil ?_
  refine AWp.forget ?_ (sub_put (i := 0) rfl (sub_put (i := 2) rfl (sub_put (i := 3) rfl (sub_put (i := 4) rfl (sub_put (i := 24) rfl (sub_nil))))))
  refine AWp.condP rfl (fun ht24 => ?_) (fun ht24 => ?_)
  refine AWp.skip ?_
  refine AWp.seq ?_
  refine AWp.block ?_
  refine AWp.region ?_
  obtain ⟨i, rfl⟩ : ∃ i, j = i + 1 := ⟨j - 1, by omega⟩
  rw [show (((i + 1 : Nat) : Int) - 1) = (i : Int) from by omega]
  refine OpsW.pure rfl rfl (pureOp_move rfl) ?_
  refine OpsW.pure rfl rfl (pureOp_move rfl) ?_
  refine OpsW.pure rfl rfl (pureOp_nilCheck rfl) ?_
  refine OpsW.pure rfl rfl (pureOp_fieldAddr fa78_2 rfl) ?_
  refine OpsW.load rfl rfl (loadOp_obj (u := qV n) sc59 rfl (by repeat (first | exact List.Mem.head _ | apply List.Mem.tail)) (get_tail hs 1)) ?_
  refine OpsW.pure rfl rfl (op64_mul (a := 8) rfl rfl) ?_
  refine OpsW.pure rfl rfl (pureOp_move rfl) ?_
  refine OpsW.pure rfl rfl (opN_mul (a := 8) rfl rfl (by omega)) ?_
  refine OpsW.pure rfl rfl (op64_shr (n := (8 * i)) rfl rfl) ?_
  refine OpsW.pure rfl rfl (op_conv64_8 Try.underlying59 Try.underlying5 rfl) ?_
  refine OpsW.alloc rfl rfl (allocOp_buildSlice slt38 rfl rfl (by first | exact cells_rfl rfl | simp [Value.cells]) (by decide)) ?_
  rintro v37 _ ⟨hv37, hn37, rfl⟩
  refine OpsW.upd rfl rfl (by repeat (first | exact Pos.here | apply Pos.there)) (lop_append (k := (pz.length + (8 - (i + 1)))) slt38 ni38 rfl rfl (by simp [lenBytes]; omega) (src_rd (n := 1) (by first | exact Rd.ro (by assumption) | exact Rd.of_sl (by repeat (first | exact List.Mem.head _ | apply List.Mem.tail)) (by assumption)) rfl (by decide)) (by omega) (one_rfl rfl) (by decide) (by decide)) ?_
  rintro v38 _ ⟨hv38, rfl⟩
  rw [show List.map bV (pz ++ (lenBytes n).take (8 - (i + 1))) ++ List.flatMap (fun x => x.cells.toList) [bV (shr64 (8 * n) (8 * i)).toUInt8] = List.map bV (pz ++ (lenBytes n).take (8 - i)) from by rw [lenBytes_take n i (by omega)]; simp; rfl] at hv38 ⊢
  refine OpsW.pure rfl rfl (pureOp_assign rfl) ?_
  refine OpsW.nil ?_
  refine AWp.forget ?_ (sub_put (i := 0) rfl (sub_put (i := 2) rfl (sub_put (i := 3) rfl (sub_put (i := 4) rfl (sub_put (i := 24) rfl (sub_nil))))))
  refine AWp.region ?_
  refine OpsW.pure rfl rfl (pureOp_move rfl) ?_
  refine OpsW.pure rfl rfl (pureOp_subI rfl rfl (by omega)) ?_
  refine OpsW.pure rfl rfl (pureOp_assign rfl) ?_
  refine OpsW.forget ?_ (sub_put (i := 0) rfl (sub_put (i := 2) rfl (sub_put (i := 3) rfl (sub_put (i := 4) rfl (sub_nil)))))
  refine OpsW.keep (L' := [.obj hb _, .obj b2 _, .sl v38 1 _]) (by repeat (first | exact Sel.nil | (apply Sel.cons; (repeat (first | exact Ext.here | apply Ext.there))))) ?_
  refine OpsW.nil ?_
  exact ⟨_, by omega, i, v38, rfl, by omega, hv38, rfl, rfl, rfl⟩
  obtain rfl : j = 0 := by omega
  refine AWp.exit (exit_here ?_)
  refine AWp.seq ?_
  refine AWp.region ?_
  refine OpsW.pure rfl rfl (pureOp_move rfl) ?_
  refine OpsW.pure rfl rfl (pureOp_nilCheck rfl) ?_
  refine OpsW.pure rfl rfl (pureOp_fieldAddr fa78_0 rfl) ?_
  refine OpsW.load rfl rfl (loadPart (ws.map wV) rfl (by repeat (first | exact List.Mem.head _ | apply List.Mem.tail)) (by simp [hs]) (by simp [hs]) (by decide) ag63) ?_
  refine OpsW.alloc rfl rfl (allocOp_alloc zt63) ?_
  rintro _ _ ⟨b5, rfl, rfl⟩
  refine OpsW.upd rfl rfl (by repeat (first | exact Pos.here | apply Pos.there)) (lop_storeAllN 8 Try.sizeOf63 rfl rfl rfl (by simp [hs]) (by first | exact one_map (fun _ => rfl) _ | exact one_rfl rfl | simp [one])) ?_
  rintro _ _ ⟨rfl, rfl⟩
  refine OpsW.nil ?_
  refine AWp.forget ?_ (sub_put (i := 0) rfl (sub_put (i := 2) rfl (sub_put (i := 3) rfl (sub_put (i := 4) rfl (sub_put (i := 5) rfl (sub_put (i := 24) rfl (sub_nil)))))))
  refine AWp.seq ?_
  refine AWp.block ?_
  refine AWp.forget ?_ (sub_put (i := 2) rfl (sub_put (i := 3) rfl (sub_put (i := 5) rfl (sub_nil))))
  refine AWp.keep (L' := [.obj b2 _, .obj b5 _, .sl vv 1 _]) (by repeat (first | exact Sel.nil | (apply Sel.cons; (repeat (first | exact Ext.here | apply Ext.there))))) ?_
  obtain ⟨pd, hpd⟩ : ∃ pd, pd = padded rb n := ⟨_, rfl⟩
  rw [show pz ++ (lenBytes n).take (8 - 0) = pd from by rw [hpd, hpzd, List.take_of_length_le (by simp [lenBytes])]; rfl] at hvv ⊢
  have hpm : pd.length % 64 = 0 := by rw [hpd]; exact padded_mod _ _
  have hpb : pd.length ≤ 2199023255552 := by rw [hpd, padded_length]; omega
  refine AWp.loop (fun N m' T' L' => ∃ (k : Nat) (vv : Value), N = pd.length / 64 - k ∧ k ≤ pd.length / 64 ∧ slOk vv 1 ((pd.drop (64 * k)).map bV) ∧ m' = m ∧ T' = put (put (put (tnil) 5 (.pointer (some ⟨b5, 0, none⟩))) 3 (vv)) 2 (.pointer (some ⟨b2, 0, none⟩)) ∧ L' = [.obj b2 (List.replicate 32 (.int .u8 0)), .obj b5 ((blocks k ws pd).map wV), .sl vv 1 ((pd.drop (64 * k)).map bV)]) _ (⟨0, vv, rfl, Nat.zero_le _, hvv, rfl, rfl, rfl⟩) ?_
  rintro _ m _ _ ⟨k, vv, rfl, hk, hvv, rfl, rfl, rfl⟩
  have hbl := blocks_length k ws pd hs
  refine AWp.seq ?_
  refine AWp.seq ?_
  refine AWp.region ?_
  refine OpsW.pure rfl rfl (pureOp_move rfl) ?_
  refine OpsW.pure rfl rfl (opN_len1 (pd.length - 64 * k) Try.underlying38 rfl (by assumption) (by simp)) ?_
  refine OpsW.pure rfl rfl (opN_gtr (b := 0) rfl rfl) ?_
  refine OpsW.nil ?_
  refine AWp.forget ?_ (sub_put (i := 2) rfl (sub_put (i := 3) rfl (sub_put (i := 5) rfl (sub_put (i := 45) rfl (sub_nil)))))
  refine AWp.condP rfl (fun ht45 => ?_) (fun ht45 => ?_)
  refine AWp.skip ?_
  refine AWp.seq ?_
  refine AWp.block ?_
  refine AWp.draw [(0, .load), (1, .pure), (2, .pure), (3, .call), (4, .wr)] rfl (by decide +kernel) (fun _ _ _ p h => AWp.perm h p.symm) ?_
  have h64 : 64 ≤ pd.length - 64 * k := by omega
  have hcut : slOk (slc vv 64 (pd.length - 64 * k) 1) 1 ((pd.drop (64 * (k + 1))).map bV) := by
    have := slc_ok (l := 64) (h := pd.length - 64 * k) (n := pd.length - 64 * k) hvv (by simp) (by omega) (by omega) (by decide)
    rw [← List.map_drop, ← List.map_take, List.drop_drop, List.take_of_length_le (by simp; omega)] at this
    exact this
  have hcutc : ∀ w, (Chunk.sl vv 1 ((pd.drop (64 * k)).map bV)).holds w → (Chunk.sl (slc vv 64 (pd.length - 64 * k) 1) 1 ((pd.drop (64 * (k + 1))).map bV)).holds w := by
    intro w h
    have := cut_bytes 64 (pd.length - 64 * k) (by omega) (by simp) w h
    rw [List.drop_drop, List.take_of_length_le (by simp; omega)] at this
    exact this
  refine ⟨_, _, rfl, OpStep.load rfl rfl (loadAll rfl (by repeat (first | exact List.Mem.head _ | apply List.Mem.tail)) (by simp [hbl]) ag63), ?_⟩
  rintro _ _ ⟨rfl, rfl⟩ -
  refine ⟨_, _, rfl, OpStep.pure rfl rfl (pureOp_move rfl), ?_⟩
  rintro _ _ ⟨rfl, rfl⟩ -
  refine ⟨_, _, rfl, OpStep.pure rfl rfl (pureOp_slice (n := pd.length - 64 * k) 0 64 Try.underlying38 Try.sizeOf5 rfl hvv (by simp) (by decide) (.inl ⟨rfl, rfl⟩) (.inr ⟨_, _, _, rfl, rfl, rfl⟩) (by omega) (by omega)), ?_⟩
  rintro _ _ ⟨rfl, rfl⟩ -
  refine ⟨_, _, rfl, OpStep.call rfl rfl (callOp Try.call46 rfl) (mix_c (blocks k ws pd) _ ((pd.drop (64 * k)).take 64) _ hbl (slc_bytes 0 64 (Rd.of_sl (by repeat (first | exact List.Mem.head _ | apply List.Mem.tail)) hvv) (by omega) (by simp; omega)) (by simp; omega)), ?_⟩
  rintro _ _ ⟨_, _, ⟨rfl, rfl⟩, rfl, rfl⟩ -
  refine ⟨_, _, rfl, OpStep.wr rfl rfl (toWp (by repeat (first | exact Pos.here | apply Pos.there)) (lop_storeAllN 8 Try.sizeOf63 rfl rfl (by simp [hbl]) (by simp [mixF_length _ _ hbl]) (by first | exact one_map (fun _ => rfl) _ | exact one_rfl rfl | simp [one]))), ?_⟩
  rintro _ _ ⟨_, ⟨_, ⟨rfl, rfl⟩, rfl⟩, rfl⟩ -
  refine AWp.forget ?_ (sub_put (i := 2) rfl (sub_put (i := 3) rfl (sub_put (i := 5) rfl (sub_put (i := 45) rfl (sub_nil)))))
  refine AWp.region ?_
  refine OpsW.pure rfl rfl (pureOp_move rfl) ?_
  refine OpsW.pure rfl rfl (pureOp_slice (n := pd.length - 64 * k) 64 (pd.length - 64 * k) Try.underlying38 Try.sizeOf5 rfl hvv (by simp) (by decide) (.inr ⟨_, _, _, rfl, rfl, rfl⟩) (.inl ⟨rfl, rfl⟩) (by omega) (by omega)) ?_
  refine OpsW.pure rfl rfl (pureOp_assign rfl) ?_
  refine OpsW.forget ?_ (sub_put (i := 2) rfl (sub_put (i := 3) rfl (sub_put (i := 5) rfl (sub_nil))))
  refine OpsW.retell (.sl (slc vv 64 (pd.length - 64 * k) 1) 1 ((pd.drop (64 * (k + 1))).map bV)) (by repeat (first | exact Pos.here | apply Pos.there)) hcutc (fun _ h => has_cut hvv (by simp; omega) h) ?_
  refine OpsW.keep (L' := [.obj b2 _, .obj b5 _, .sl (slc vv 64 (pd.length - 64 * k) 1) 1 _]) (by repeat (first | exact Sel.nil | (apply Sel.cons; (repeat (first | exact Ext.here | apply Ext.there))))) ?_
  refine OpsW.nil ?_
  exact ⟨_, by omega, k + 1, slc vv 64 (pd.length - 64 * k) 1, rfl, by omega, hcut, rfl, rfl, by rw [blocks_succ]⟩
  have hkk : k = pd.length / 64 := by omega
  subst hkk
  refine AWp.exit (exit_here ?_)
  refine AWp.seq ?_
  refine AWp.region ?_
  refine OpsW.alloc rfl rfl (allocOp_alloc zt25) ?_
  rintro _ _ ⟨b6, rfl, rfl⟩
  refine OpsW.nil ?_
  refine AWp.forget ?_ (sub_put (i := 2) rfl (sub_put (i := 3) rfl (sub_put (i := 5) rfl (sub_put (i := 6) rfl (sub_put (i := 45) rfl (sub_nil))))))
  refine AWp.seq ?_
  refine AWp.seq ?_
  refine AWp.region ?_
  refine OpsW.pure rfl rfl (pureOp_move rfl) ?_
  refine OpsW.nil ?_
  refine AWp.forget ?_ (sub_put (i := 2) rfl (sub_put (i := 3) rfl (sub_put (i := 5) rfl (sub_put (i := 6) rfl (sub_put (i := 45) rfl (sub_put (i := 52) rfl (sub_nil)))))))
  refine AWp.block ?_
  refine AWp.forget ?_ (sub_put (i := 52) rfl (sub_put (i := 2) rfl (sub_put (i := 5) rfl (sub_put (i := 6) rfl (sub_nil)))))
  refine AWp.keep (L' := [.obj b2 _, .obj b5 _, .obj b6 _]) (by repeat (first | exact Sel.nil | (apply Sel.cons; (repeat (first | exact Ext.here | apply Ext.there))))) ?_
  obtain ⟨wf, hwf⟩ : ∃ wf, wf = blocks (pd.length / 64) ws pd := ⟨_, rfl⟩
  rw [← hwf]
  have hwl : wf.length = 8 := by rw [hwf]; exact blocks_length _ _ _ hs
  refine AWp.loop (fun N m' T' L' => ∃ bs : List UInt8, N = 32 - bs.length ∧ bs.length ≤ 32 ∧ bs = (List.range bs.length).map (fun i => (shr32 (wf.getD (i / 4) 0) (24 - 8 * (i % 4))).toUInt8) ∧ m' = m ∧ T' = put (put (put (put (tnil) 6 (.pointer (some ⟨b6, 0, none⟩))) 5 (.pointer (some ⟨b5, 0, none⟩))) 2 (.pointer (some ⟨b2, 0, none⟩))) 52 (iV bs.length) ∧ L' = [.obj b2 (List.replicate 32 (.int .u8 0)), .obj b5 (wf.map wV), .obj b6 (bs.map bV ++ List.replicate (32 - bs.length) (.int .u8 0))]) _ (⟨[], rfl, by simp, rfl, rfl, rfl, rfl⟩) ?_
  rintro _ m _ _ ⟨bs, rfl, hbs, hbd2, rfl, rfl, rfl⟩
  refine AWp.seq ?_
  refine AWp.region ?_
  refine OpsW.pure rfl rfl (opN_lss (b := 32) rfl rfl) ?_
  refine OpsW.nil ?_
  refine AWp.forget ?_ (sub_put (i := 2) rfl (sub_put (i := 5) rfl (sub_put (i := 6) rfl (sub_put (i := 52) rfl (sub_put (i := 53) rfl (sub_nil))))))
  refine AWp.seq ?_
  refine AWp.condP rfl (fun ht53 => ?_) (fun ht53 => ?_)
  refine AWp.skip ?_
  refine AWp.seq ?_
  refine AWp.block ?_
  refine AWp.seq ?_
  refine AWp.region ?_
  refine OpsW.pure rfl rfl (pureOp_move rfl) ?_
  refine OpsW.pure rfl rfl (pureOp_assign rfl) ?_
  refine OpsW.nil ?_
  refine AWp.forget ?_ (sub_put (i := 2) rfl (sub_put (i := 5) rfl (sub_put (i := 6) rfl (sub_put (i := 7) rfl (sub_put (i := 52) rfl (sub_put (i := 53) rfl (sub_nil)))))))
  refine AWp.region ?_
  refine OpsW.pure rfl rfl (pureOp_move rfl) ?_
  refine OpsW.pure rfl rfl (pureOp_move rfl) ?_
  refine OpsW.pure rfl rfl (opN_quo (b := 4) rfl rfl (by omega) (by omega)) ?_
  refine OpsW.pure rfl rfl (opN_indexArr0 arr63 rfl rfl (by omega)) ?_
  refine OpsW.load rfl rfl (loadOp_obj (u := wV (wf.getD (bs.length / 4) 0)) sc62 rfl (by repeat (first | exact List.Mem.head _ | apply List.Mem.tail)) (get_map (by omega))) ?_
  refine OpsW.pure rfl rfl (pureOp_move rfl) ?_
  refine OpsW.pure rfl rfl (opN_rem (b := 4) rfl rfl (by omega) (by omega)) ?_
  refine OpsW.pure rfl rfl (opN_mul (a := 8) rfl rfl (by omega)) ?_
  refine OpsW.pure rfl rfl (opN_sub (a := 24) rfl rfl (by omega)) ?_
  refine OpsW.pure rfl rfl (op32_shr (n := (24 - 8 * (bs.length % 4))) rfl rfl) ?_
  refine OpsW.pure rfl rfl (op_conv32_8 Try.underlying62 Try.underlying5 rfl) ?_
  refine OpsW.pure rfl rfl (opN_indexArr0 arr25 rfl rfl (by omega)) ?_
  refine OpsW.upd rfl rfl (by repeat (first | exact Pos.here | apply Pos.there)) (lop_store1 Try.sizeOf5 rfl rfl rfl (by simp <;> omega)) ?_
  rintro _ _ ⟨rfl, rfl⟩
  rw [set_fill rfl (by omega)]
  refine OpsW.nil ?_
  refine AWp.forget ?_ (sub_put (i := 2) rfl (sub_put (i := 5) rfl (sub_put (i := 6) rfl (sub_put (i := 7) rfl (sub_put (i := 52) rfl (sub_put (i := 53) rfl (sub_nil)))))))
  refine AWp.region ?_
  refine OpsW.pure rfl rfl (opN_add (b := 1) rfl rfl (by omega)) ?_
  refine OpsW.pure rfl rfl (pureOp_move rfl) ?_
  refine OpsW.forget ?_ (sub_put (i := 52) rfl (sub_put (i := 2) rfl (sub_put (i := 5) rfl (sub_put (i := 6) rfl (sub_nil)))))
  refine OpsW.keep (L' := [.obj b2 _, .obj b5 _, .obj b6 _]) (by repeat (first | exact Sel.nil | (apply Sel.cons; (repeat (first | exact Ext.here | apply Ext.there))))) ?_
  refine OpsW.nil ?_
  exact ⟨_, by simp; omega, bs ++ [_], rfl, by simp; omega, by simp only [List.length_append, List.length_singleton]; rw [List.range_succ, List.map_append, ← hbd2]; rfl, rfl, by simp, by simp⟩
  have h32 : bs.length = 32 := by omega
  rw [h32] at hbd2
  refine AWp.exit (exit_here ?_)
  refine AWp.seq ?_
  refine AWp.region ?_
  refine OpsW.load rfl rfl (loadAll rfl (by repeat (first | exact List.Mem.head _ | apply List.Mem.tail)) (by simp [h32]) ag25) ?_
  refine OpsW.upd rfl rfl (by repeat (first | exact Pos.here | apply Pos.there)) (lop_storeAllN 32 Try.sizeOf25 rfl rfl (by simp [h32]) (by simp [h32]) (by simp [one, h32])) ?_
  rintro _ _ ⟨rfl, rfl⟩
  refine OpsW.nil ?_
  refine AWp.forget ?_ (sub_put (i := 2) rfl (sub_put (i := 5) rfl (sub_put (i := 6) rfl (sub_put (i := 52) rfl (sub_put (i := 53) rfl (sub_nil))))))
  refine AWp.ret ?_
  refine ⟨_, [], _, permNone, resCell rfl rfl (by repeat (first | exact List.Mem.head _ | apply List.Mem.tail)) (by simp [h32]) ag25, ?_, rfl⟩
  rw [sumOf, ← hpd, ← hwf, wordsBytes, ← hbd2]
  simp [h32]

end Go.Proofs.Ytbhjaoedlggbbaa.Sep
