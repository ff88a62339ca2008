/- The walks of the packages word and ref01. -/
import Derived.Test.YtbhjaoedlggbbaaTreeA
import Derived.Test.YtbhjaoedlggbbaaOf
import Derived.Test.YtbhjaoedlggbbaaProg
namespace Go.Proofs.Ytbhjaoedlggbbaa.Sep
open Go Go.RowKit
set_option linter.unusedVariables false
set_option linter.unusedSimpArgs false



set_option maxRecDepth 20000 in
set_option maxHeartbeats 1000000 in
theorem put_c (x : UInt64) (n : Nat) (m : Mem) (hn : n ≤ 8) :
    Ctr Try.prog 32 [qV x, iV n] m [] (fun _ r L => slOk r 1 ((putF x n).map bV) ∧ r ≠ .slice none 0 0 ∧ L = [.sl r 1 ((putF x n).map bV)]) := by
  refine Ctr.intro Try.func32 rfl Try.ntmps32 (by simp) fun w0 => ?_
  refine AWp.forget ?_ (sub_put (i := 0) rfl (sub_put (i := 1) rfl (sub_nil)))
  refine AWp.seq ?_
  refine AWp.region ?_
  refine OpsW.pure rfl rfl (pureOp_assign rfl) ?_
  refine OpsW.nil ?_
  refine AWp.forget ?_ (sub_put (i := 0) rfl (sub_put (i := 1) rfl (sub_put (i := 4) rfl (sub_nil))))
  refine AWp.seq ?_
  refine AWp.region ?_
  refine OpsW.pure rfl rfl (pureOp_move rfl) ?_
  refine OpsW.pure rfl rfl (opN_max (b := 0) rfl rfl) ?_
  rw [Nat.max_eq_left (Nat.zero_le n)]
  refine OpsW.alloc rfl rfl (allocOp_makeSlice slt38 rfl rfl (by omega) (by omega)) ?_
  rintro v9 _ ⟨hv9, hn9, rfl⟩
  refine OpsW.pure rfl rfl (pureOp_assign rfl) ?_
  refine OpsW.nil ?_
  refine AWp.forget ?_ (sub_put (i := 0) rfl (sub_put (i := 1) rfl (sub_put (i := 4) rfl (sub_put (i := 5) rfl (sub_nil)))))
  refine AWp.seq ?_
  refine AWp.seq ?_
  refine AWp.region ?_
  refine OpsW.pure rfl rfl (pureOp_move rfl) ?_
  refine OpsW.pure rfl rfl (opN_len1 n Try.underlying38 rfl (by assumption) (by simp)) ?_
  refine OpsW.pure rfl rfl (pureOp_move rfl) ?_
  refine OpsW.nil ?_
  refine AWp.forget ?_ (sub_put (i := 0) rfl (sub_put (i := 1) rfl (sub_put (i := 4) rfl (sub_put (i := 5) rfl (sub_put (i := 11) rfl (sub_put (i := 12) rfl (sub_nil)))))))
  refine AWp.block ?_
  refine AWp.forget ?_ (sub_put (i := 0) rfl (sub_put (i := 5) rfl (sub_put (i := 11) rfl (sub_put (i := 12) rfl (sub_nil)))))
  refine AWp.loop (fun N m' T' L' => ∃ bs : List UInt8, N = n - bs.length ∧ bs.length ≤ n ∧ bs = (List.range bs.length).map (fun i => (shr64 x (8 * i)).toUInt8) ∧ m' = m ∧ T' = put (put (put (put (tnil) 12 (iV bs.length)) 11 (iV n)) 5 (v9)) 0 (qV x) ∧ L' = [.sl v9 1 (bs.map bV ++ List.replicate (n - bs.length) (.int .u8 0))]) _ (⟨[], rfl, by simp, rfl, rfl, rfl, rfl⟩) ?_
  rintro _ m _ _ ⟨bs, rfl, hbs, hbd, rfl, rfl, rfl⟩
  refine AWp.seq ?_
  refine AWp.region ?_
  refine OpsW.pure rfl rfl (opN_lss rfl rfl) ?_
  refine OpsW.nil ?_
  refine AWp.forget ?_ (sub_put (i := 0) rfl (sub_put (i := 5) rfl (sub_put (i := 11) rfl (sub_put (i := 12) rfl (sub_put (i := 13) rfl (sub_nil))))))
  refine AWp.seq ?_
  refine AWp.condP rfl (fun ht13 => ?_) (fun ht13 => ?_)
  refine AWp.skip ?_
  refine AWp.seq ?_
  refine AWp.block ?_
  refine AWp.seq ?_
  refine AWp.region ?_
  refine OpsW.pure rfl rfl (pureOp_move rfl) ?_
  refine OpsW.pure rfl rfl (pureOp_assign rfl) ?_
  refine OpsW.nil ?_
  refine AWp.forget ?_ (sub_put (i := 0) rfl (sub_put (i := 5) rfl (sub_put (i := 6) rfl (sub_put (i := 11) rfl (sub_put (i := 12) rfl (sub_put (i := 13) rfl (sub_nil)))))))
  refine AWp.seq ?_
  refine AWp.region ?_
  refine OpsW.pure rfl rfl (pureOp_move rfl) ?_
  refine OpsW.pure rfl rfl (opN_lss (b := 8) rfl rfl) ?_
  refine OpsW.nil ?_
  refine AWp.forget ?_ (sub_put (i := 0) rfl (sub_put (i := 5) rfl (sub_put (i := 6) rfl (sub_put (i := 11) rfl (sub_put (i := 12) rfl (sub_put (i := 13) rfl (sub_put (i := 16) rfl (sub_nil))))))))
  refine AWp.cond_true (by show some (Value.bool (decide _)) = _; rw [decide_eq_true (by omega)]) ?_
  refine AWp.region ?_
  refine OpsW.pure rfl rfl (pureOp_move rfl) ?_
  refine OpsW.pure rfl rfl (pureOp_move rfl) ?_
  refine OpsW.pure rfl rfl (pureOp_move rfl) ?_
  refine OpsW.pure rfl rfl (pureOp_move rfl) ?_
  refine OpsW.pure rfl rfl (opN_mul (a := 8) rfl rfl (by omega)) ?_
  refine OpsW.pure rfl rfl (op64_shr (n := (8 * bs.length)) rfl rfl) ?_
  refine OpsW.pure rfl rfl (op_conv64_8 Try.underlying59 Try.underlying5 rfl) ?_
  refine OpsW.pure rfl rfl (opN_indexSl1 Try.underlying38 Try.sizeOf5 rfl (by assumption) rfl (by simp; omega)) ?_
  refine OpsW.upd rfl rfl (by repeat (first | exact Pos.here | apply Pos.there)) (lop_storeElem Try.sizeOf5 rfl rfl rfl (by decide) (by simp; omega) (by simp [Value.cells, one])) ?_
  rintro _ _ ⟨rfl, rfl⟩
  rw [set_segB rfl (by omega)]
  refine OpsW.nil ?_
  refine AWp.forget ?_ (sub_put (i := 0) rfl (sub_put (i := 5) rfl (sub_put (i := 6) rfl (sub_put (i := 11) rfl (sub_put (i := 12) rfl (sub_put (i := 13) rfl (sub_put (i := 16) rfl (sub_nil))))))))
  refine AWp.region ?_
  refine OpsW.pure rfl rfl (opN_add (b := 1) rfl rfl (by omega)) ?_
  refine OpsW.pure rfl rfl (pureOp_move rfl) ?_
  refine OpsW.forget ?_ (sub_put (i := 0) rfl (sub_put (i := 5) rfl (sub_put (i := 11) rfl (sub_put (i := 12) rfl (sub_nil)))))
  refine OpsW.keep (L' := [.sl v9 1 _]) (by repeat (first | exact Sel.nil | (apply Sel.cons; (repeat (first | exact Ext.here | apply Ext.there))))) ?_
  refine OpsW.nil ?_
  exact ⟨_, by simp; omega, bs ++ [_], rfl, by simp; omega, by simp only [List.length_append, List.length_singleton]; rw [List.range_succ, List.map_append, ← hbd]; rfl, rfl, by simp, by simp⟩
  have hbn : bs.length = n := by omega
  refine AWp.exit (exit_here ?_)
  refine AWp.seq ?_
  refine AWp.region ?_
  refine OpsW.pure rfl rfl (pureOp_move rfl) ?_
  refine OpsW.pure rfl rfl (pureOp_assign rfl) ?_
  refine OpsW.nil ?_
  refine AWp.forget ?_ (sub_put (i := 0) rfl (sub_put (i := 4) rfl (sub_put (i := 5) rfl (sub_put (i := 11) rfl (sub_put (i := 12) rfl (sub_put (i := 13) rfl (sub_nil)))))))
  refine AWp.ret ?_
  rw [hbn] at hbd
  have hcl : bs.map bV ++ List.replicate (n - bs.length) (.int .u8 0) = (putF x n).map bV := by rw [hbn, Nat.sub_self, putF, ← hbd]; simp
  rw [hcl]
  exact ⟨_, [.sl v9 1 ((putF x n).map bV)], [], .refl _, res_tmp rfl rfl, slOk_same hv9 (by simp [putF_length]), hn9, rfl⟩

set_option maxRecDepth 20000 in
set_option maxHeartbeats 1000000 in
theorem put01_c (x : UInt64) (n : Nat) (m : Mem) (hn : n ≤ 8) :
    Ctr Try.prog 37 [qV x, iV n] m [] (fun _ r L => slOk r 1 ((putF x n).map bV) ∧ L = [.sl r 1 ((putF x n).map bV)]) := by
  refine Ctr.intro Try.func37 rfl Try.ntmps37 (by simp) fun w0 => ?_
  refine AWp.forget ?_ (sub_put (i := 0) rfl (sub_put (i := 1) rfl (sub_nil)))
  refine AWp.seq ?_
  refine AWp.region ?_
  refine OpsW.pure rfl rfl (pureOp_assign rfl) ?_
  refine OpsW.nil ?_
  refine AWp.forget ?_ (sub_put (i := 0) rfl (sub_put (i := 1) rfl (sub_put (i := 4) rfl (sub_nil))))
  refine AWp.seq ?_
  refine AWp.seq ?_
  refine AWp.region ?_
  refine OpsW.pure rfl rfl (pureOp_move rfl) ?_
  refine OpsW.pure rfl rfl (opN_leq (b := 0) rfl rfl) ?_
  refine OpsW.nil ?_
  refine AWp.forget ?_ (sub_put (i := 0) rfl (sub_put (i := 1) rfl (sub_put (i := 4) rfl (sub_put (i := 7) rfl (sub_nil)))))
  refine AWp.condP rfl (fun ht7 => ?_) (fun ht7 => ?_)
  · skip
    refine AWp.seq ?_
    obtain rfl : n = 0 := by omega
    refine AWp.nilChunk 1 ?_
    refine AWp.region ?_
    refine OpsW.pure rfl rfl (pureOp_assign rfl) ?_
    refine OpsW.nil ?_
    refine AWp.forget ?_ (sub_put (i := 0) rfl (sub_put (i := 1) rfl (sub_put (i := 4) rfl (sub_put (i := 7) rfl (sub_nil)))))
    refine AWp.ret ?_
    exact ⟨_, [.sl (.slice none 0 0) 1 []], [], .refl _, res_tmp rfl rfl, .inl ⟨rfl, rfl⟩, rfl⟩
  refine AWp.skip ?_
  refine AWp.seq ?_
  obtain ⟨k, rfl⟩ : ∃ k, n = k + 1 := ⟨n - 1, by omega⟩
  rw [putF_succ x k (by omega)]
  refine AWp.region ?_
  refine OpsW.pure rfl rfl (pureOp_move rfl) ?_
  refine OpsW.pure rfl rfl (op64_rem (b := 256) rfl rfl (by decide)) ?_
  refine OpsW.pure rfl rfl (op_conv64_8 Try.underlying59 Try.underlying5 rfl) ?_
  refine OpsW.alloc rfl rfl (allocOp_buildSlice slt38 rfl rfl (by first | exact cells_rfl rfl | simp [Value.cells]) (by decide)) ?_
  rintro v11 _ ⟨hv11, hn11, rfl⟩
  refine OpsW.pure rfl rfl (pureOp_assign rfl) ?_
  refine OpsW.nil ?_
  refine AWp.forget ?_ (sub_put (i := 0) rfl (sub_put (i := 1) rfl (sub_put (i := 4) rfl (sub_put (i := 5) rfl (sub_put (i := 7) rfl (sub_nil))))))
  refine AWp.seq ?_
  refine AWp.region ?_
  refine OpsW.pure rfl rfl (pureOp_move rfl) ?_
  refine OpsW.pure rfl rfl (pureOp_move rfl) ?_
  refine OpsW.pure rfl rfl (op64_quo (b := 256) rfl rfl (by decide)) ?_
  refine OpsW.pure rfl rfl (pureOp_move rfl) ?_
  refine OpsW.pure rfl rfl (opN_sub (b := 1) rfl rfl (by omega)) ?_
  rw [Nat.add_sub_cancel]
  refine OpsW.callA rfl rfl (callOp Try.call37 rfl) permNone (put01_c (x / 256) k _ (by omega)) ?_
  rintro v17 _ ⟨hv17, rfl⟩
  refine OpsW.upd rfl rfl (by repeat (first | exact Pos.here | apply Pos.there)) (lop_append (k := 1) slt38 ni38 rfl rfl rfl (src_rd (n := k) (by first | exact Rd.ro (by assumption) | exact Rd.of_sl (by repeat (first | exact List.Mem.head _ | apply List.Mem.tail)) (by assumption)) (by simp [putF_length]) (by decide)) (by omega) (one_map (fun _ => rfl) _) (by decide) (by decide)) ?_
  rintro v18 _ ⟨hv18, rfl⟩
  refine OpsW.pure rfl rfl (pureOp_assign rfl) ?_
  refine OpsW.nil ?_
  refine AWp.forget ?_ (sub_put (i := 0) rfl (sub_put (i := 1) rfl (sub_put (i := 4) rfl (sub_put (i := 5) rfl (sub_put (i := 7) rfl (sub_nil))))))
  refine AWp.ret ?_
  exact ⟨_, [.sl v18 1 (((x % 256).toUInt8 :: putF (x / 256) k).map bV)], _, Sel.perm (by repeat (first | exact Sel.nil | (apply Sel.cons; (repeat (first | exact Ext.here | apply Ext.there))))), res_tmp rfl rfl, hv18, rfl⟩
termination_by n
decreasing_by omega

end Go.Proofs.Ytbhjaoedlggbbaa.Sep
