/- The walk of digest.Of. -/
import Derived.Test.YtbhjaoedlggbbaaShaPure4
import Derived.Test.YtbhjaoedlggbbaaSha2
import Derived.Test.YtbhjaoedlggbbaaProg
namespace Go.Proofs.Ytbhjaoedlggbbaa.Sep
open Go Go.RowKit
set_option linter.unusedVariables false
set_option linter.unusedSimpArgs false



set_option maxRecDepth 20000 in
set_option maxHeartbeats 2000000 in
theorem of_c (v : Value) (ls : List (List UInt8)) (vs : List Value) (m : Mem) (hv : Rds m v ls vs) (hbd : ∀ i, (ls.getD i []).length ≤ 549755813888) (hbl : ls.length ≤ 549755813888) :
    Ctr Try.prog 31 [v] m [] (fun _ r L => r = .agg ((shaF ls.flatten).map bV).toArray ∧ L = []) := by
  have ho := hv.rd.1
  have hrd := hv.rd
  have hvl := hv.len
  refine Ctr.intro Try.func31 rfl Try.ntmps31 (by simp) fun w0 => ?_
  refine AWp.forget ?_ (sub_put (i := 0) rfl (sub_nil))
  refine AWp.seq ?_
  refine AWp.region ?_
  refine OpsW.alloc rfl rfl (allocOp_alloc zt25) ?_
  rintro _ _ ⟨b2, rfl, rfl⟩
  refine OpsW.nil ?_
  refine AWp.forget ?_ (sub_put (i := 0) rfl (sub_put (i := 2) rfl (sub_nil)))
  refine AWp.seq ?_
  refine AWp.region ?_
  refine OpsW.callA rfl rfl (callOp Try.call42 rfl) permNone (new_c _) ?_
  rintro _ _ ⟨hb, rfl, rfl⟩
  refine OpsW.pure rfl rfl (pureOp_assign rfl) ?_
  refine OpsW.nil ?_
  refine AWp.forget ?_ (sub_put (i := 0) rfl (sub_put (i := 2) rfl (sub_put (i := 3) rfl (sub_nil))))
  refine AWp.seq ?_
  refine AWp.seq ?_
  refine AWp.nilChunk 1 ?_
  refine AWp.region ?_
  refine OpsW.pure rfl rfl (pureOp_move rfl) ?_
  refine OpsW.pure rfl rfl (opN_len1 ls.length Try.underlying22 rfl (by assumption) hvl) ?_
  refine OpsW.pure rfl rfl (pureOp_move rfl) ?_
  refine OpsW.nil ?_
  refine AWp.forget ?_ (sub_put (i := 0) rfl (sub_put (i := 2) rfl (sub_put (i := 3) rfl (sub_put (i := 7) rfl (sub_put (i := 8) rfl (sub_put (i := 9) rfl (sub_nil)))))))
  refine AWp.block ?_
  refine AWp.forget ?_ (sub_put (i := 2) rfl (sub_put (i := 3) rfl (sub_put (i := 7) rfl (sub_put (i := 8) rfl (sub_put (i := 9) rfl (sub_nil))))))
  refine AWp.keep (L' := [.obj b2 _, .obj hb _, .sl _ 1 []]) (by repeat (first | exact Sel.nil | (apply Sel.cons; (repeat (first | exact Ext.here | apply Ext.there))))) ?_
  refine AWp.loop (fun N m' T' L' => ∃ (i : Nat) (rv : Value), N = ls.length - i ∧ i ≤ ls.length ∧ m' = m ∧ T' = put (put (put (put (put (tnil) 9 (iV i)) 8 (iV ls.length)) 7 (v)) 3 (.pointer (some ⟨hb, 0, none⟩))) 2 (.pointer (some ⟨b2, 0, none⟩)) ∧ L' = [.obj b2 (List.replicate 32 (.int .u8 0)), .obj hb ((stW (ls.take i).flatten).map wV ++ [rv, qV (UInt64.ofNat (ls.take i).flatten.length)]), .sl rv 1 ((stR (ls.take i).flatten).map bV)]) _ (⟨0, .slice none 0 0, rfl, Nat.zero_le _, rfl, rfl, by rw [List.take_zero, List.flatten_nil]; rfl⟩) ?_
  rintro _ m _ _ ⟨i, rv, rfl, hi, rfl, rfl, rfl⟩
  refine AWp.seq ?_
  refine AWp.region ?_
  refine OpsW.pure rfl rfl (opN_lss rfl rfl) ?_
  refine OpsW.nil ?_
  refine AWp.forget ?_ (sub_put (i := 2) rfl (sub_put (i := 3) rfl (sub_put (i := 7) rfl (sub_put (i := 8) rfl (sub_put (i := 9) rfl (sub_put (i := 10) rfl (sub_nil)))))))
  refine AWp.seq ?_
  refine AWp.condP rfl (fun ht10 => ?_) (fun ht10 => ?_)
  refine AWp.skip ?_
  refine AWp.seq ?_
  refine AWp.block ?_
  refine AWp.seq ?_
  refine AWp.region ?_
  refine OpsW.pure rfl rfl (opN_indexSl1 Try.underlying22 Try.sizeOf38 rfl (by assumption) rfl (by omega)) ?_
  refine OpsW.load rfl rfl (loadOp_elem (u := vs.getD i undef) sc38 rfl (by first | exact Rd.ro (by assumption) | exact Rd.of_sl (by repeat (first | exact List.Mem.head _ | apply List.Mem.tail)) (by assumption)) (get_D (by omega))) ?_
  refine OpsW.pure rfl rfl (pureOp_assign rfl) ?_
  refine OpsW.nil ?_
  refine AWp.forget ?_ (sub_put (i := 2) rfl (sub_put (i := 3) rfl (sub_put (i := 5) rfl (sub_put (i := 7) rfl (sub_put (i := 8) rfl (sub_put (i := 9) rfl (sub_put (i := 10) rfl (sub_nil))))))))
  refine AWp.region ?_
  refine OpsW.pure rfl rfl (pureOp_move rfl) ?_
  refine OpsW.pure rfl rfl (pureOp_move rfl) ?_
  refine OpsW.callA rfl rfl (callOp Try.call43 rfl) (Sel.perm (L' := [.obj hb _, .sl rv 1 _]) (by repeat (first | exact Sel.nil | (apply Sel.cons; (repeat (first | exact Ext.here | apply Ext.there)))))) (add_c hb (stW (ls.take i).flatten) rv (stR (ls.take i).flatten) _ _ (ls.getD i []) _ (stW_length _) (hv.part i (by omega)).ro (by rw [stR_length]; have := hbd i; omega)) ?_
  rintro _ _ ⟨rv2, rfl⟩
  rw [st_add_W, st_add_R, add_len, ← List.length_append]
  refine OpsW.nil ?_
  refine AWp.forget ?_ (sub_put (i := 2) rfl (sub_put (i := 3) rfl (sub_put (i := 5) rfl (sub_put (i := 7) rfl (sub_put (i := 8) rfl (sub_put (i := 9) rfl (sub_put (i := 10) rfl (sub_nil))))))))
  refine AWp.region ?_
  refine OpsW.pure rfl rfl (opN_add (b := 1) rfl rfl (by omega)) ?_
  refine OpsW.pure rfl rfl (pureOp_move rfl) ?_
  refine OpsW.forget ?_ (sub_put (i := 2) rfl (sub_put (i := 3) rfl (sub_put (i := 7) rfl (sub_put (i := 8) rfl (sub_put (i := 9) rfl (sub_nil))))))
  refine OpsW.keep (L' := [.obj b2 _, .obj hb _, .sl rv2 1 _]) (by repeat (first | exact Sel.nil | (apply Sel.cons; (repeat (first | exact Ext.here | apply Ext.there))))) ?_
  refine OpsW.nil ?_
  exact ⟨_, by omega, i + 1, rv2, rfl, by omega, rfl, rfl, by rw [take_flat (by omega)]⟩
  obtain rfl : i = ls.length := by omega
  refine AWp.exit (exit_here ?_)
  refine AWp.seq ?_
  refine AWp.region ?_
  refine OpsW.pure rfl rfl (pureOp_move rfl) ?_
  refine OpsW.callA rfl rfl (callOp Try.call44 rfl) (Sel.perm (L' := [.obj hb _, .sl rv 1 _]) (by repeat (first | exact Sel.nil | (apply Sel.cons; (repeat (first | exact Ext.here | apply Ext.there)))))) (sum_c hb (stW (ls.take ls.length).flatten) rv (stR (ls.take ls.length).flatten) _ _ (stW_length _) (by rw [stR_length]; omega)) ?_
  rintro _ _ ⟨rfl, rfl⟩
  rw [sum_st, List.take_length]
  refine OpsW.upd rfl rfl (by repeat (first | exact Pos.here | apply Pos.there)) (lop_storeAllN 32 Try.sizeOf25 rfl rfl (by simp) (by rw [List.length_map]; exact wordsBytes_length _) (by first | exact one_map (fun _ => rfl) _ | exact one_rfl rfl | simp [one])) ?_
  rintro _ _ ⟨rfl, rfl⟩
  refine OpsW.nil ?_
  refine AWp.forget ?_ (sub_put (i := 2) rfl (sub_put (i := 3) rfl (sub_put (i := 7) rfl (sub_put (i := 8) rfl (sub_put (i := 9) rfl (sub_put (i := 10) rfl (sub_nil)))))))
  refine AWp.ret ?_
  exact ⟨_, [], _, permNone, resCell rfl rfl (by repeat (first | exact List.Mem.head _ | apply List.Mem.tail)) (by rw [List.length_map]; exact wordsBytes_length _) ag25, rfl, rfl⟩

end Go.Proofs.Ytbhjaoedlggbbaa.Sep
