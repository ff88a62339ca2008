/- The walk of All. -/
import Derived.Test.YtbhjaoedlggbbaaTreeH
import Derived.Test.YtbhjaoedlggbbaaTree6
import Derived.Test.YtbhjaoedlggbbaaProg
namespace Go.Proofs.Ytbhjaoedlggbbaa.Sep
open Go Go.RowKit
set_option linter.unusedVariables false
set_option linter.unusedSimpArgs false
theorem slt43 : SlT Try.prog 43 32 3 40 ([.int .i64 0, .int .i64 0, .slice none 0 0]) := ⟨Try.underlying43, ⟨_, _, (by kernel_rfl : Try.prog.info? 32 = some Try.t32), rfl, rfl, rfl, rfl, rfl⟩⟩
theorem ni43 : NotInt Try.prog 43 := ⟨_, Try.underlying43, fun k h => by cases h⟩


set_option maxRecDepth 20000 in
set_option maxHeartbeats 2000000 in
theorem all_c (v : Value) (ls : List (List UInt8)) (vs : List Value) (m : Mem) (hv : Rds m v ls vs) (hbd : ∀ i, (ls.getD i []).length ≤ 549755813888) (hbl : ls.length ≤ 549755813888) (hc0 : checkF ls.length = 0) :
    Ctr Try.prog 19 [v] m [] (fun m' r L => ∃ rv pvs, r = .tuple #[rv, iV 0] ∧ pvs.length = ls.length ∧ (∀ i, i < ls.length → Rd m' (pvs.getD i undef) 32 (hC (pathF i (leafHs ls ls.length)))) ∧ slOk rv 3 (rowC ls.length pvs) ∧ L = [.sl rv 3 (rowC ls.length pvs)]) := by
  have ho := hv.rd.1
  have hvl := hv.len
  have hlen := checkF_len hc0
  refine Ctr.intro Try.func19 rfl Try.ntmps19 (by simp) fun w0 => ?_
  refine AWp.forget ?_ (sub_put (i := 0) rfl (sub_nil))
  refine AWp.seq ?_
  refine AWp.region ?_
  refine OpsW.pure rfl rfl (pureOp_assign rfl) ?_
  refine OpsW.pure rfl rfl (pureOp_assign rfl) ?_
  refine OpsW.nil ?_
  refine AWp.forget ?_ (sub_put (i := 0) rfl (sub_put (i := 2) rfl (sub_put (i := 3) rfl (sub_nil))))
  refine AWp.seq ?_
  refine AWp.region ?_
  refine OpsW.pure rfl rfl (pureOp_assign rfl) ?_
  refine OpsW.nil ?_
  refine AWp.forget ?_ (sub_put (i := 0) rfl (sub_put (i := 2) rfl (sub_put (i := 3) rfl (sub_put (i := 4) rfl (sub_nil)))))
  refine AWp.seq ?_
  refine AWp.seq ?_
  refine AWp.nilChunk 3 ?_
  refine AWp.region ?_
  refine OpsW.pure rfl rfl (pureOp_move rfl) ?_
  refine OpsW.pure rfl rfl (opN_len1 ls.length Try.underlying22 rfl (by assumption) hvl) ?_
  refine OpsW.pure rfl rfl (pureOp_move rfl) ?_
  refine OpsW.nil ?_
  refine AWp.forget ?_ (sub_put (i := 0) rfl (sub_put (i := 2) rfl (sub_put (i := 3) rfl (sub_put (i := 4) rfl (sub_put (i := 9) rfl (sub_put (i := 10) rfl (sub_nil)))))))
  refine AWp.block ?_
  refine AWp.forget ?_ (sub_put (i := 0) rfl (sub_put (i := 4) rfl (sub_put (i := 9) rfl (sub_put (i := 10) rfl (sub_nil)))))
  refine AWp.keep (L' := [.sl (.slice none 0 0) 3 _]) (by repeat (first | exact Sel.nil | (apply Sel.cons; (repeat (first | exact Ext.here | apply Ext.there))))) ?_
  refine AWp.loop (fun N m' T' L' => ∃ (k : Nat) (pvs : List Value) (vv : Value), N = ls.length - k ∧ k ≤ ls.length ∧ pvs.length = k ∧ (∀ i, i < k → Rd m' (pvs.getD i undef) 32 (hC (pathF i (leafHs ls ls.length)))) ∧ slOk vv 3 (rowC ls.length pvs) ∧ (∀ a u, m a u → m' a u) ∧ T' = put (put (put (put (tnil) 10 (iV k)) 9 (iV ls.length)) 4 (vv)) 0 (v) ∧ L' = [.sl vv 3 (rowC ls.length pvs)]) _ (⟨0, [], .slice none 0 0, rfl, Nat.zero_le _, rfl, fun i hi => absurd hi (Nat.not_lt_zero i), .inl ⟨rfl, rfl⟩, fun _ _ h => h, rfl, rfl⟩) ?_
  rintro _ m _ _ ⟨k, pvs, vv, rfl, hk, hpl, hpp, hvv, hm, rfl, rfl⟩
  have hv := hv.mono hm
  refine AWp.seq ?_
  refine AWp.region ?_
  refine OpsW.pure rfl rfl (opN_lss rfl rfl) ?_
  refine OpsW.nil ?_
  refine AWp.forget ?_ (sub_put (i := 0) rfl (sub_put (i := 4) rfl (sub_put (i := 9) rfl (sub_put (i := 10) rfl (sub_put (i := 11) rfl (sub_nil))))))
  refine AWp.seq ?_
  refine AWp.condP rfl (fun ht11 => ?_) (fun ht11 => ?_)
  refine AWp.skip ?_
  refine AWp.seq ?_
  refine AWp.block ?_
  refine AWp.seq ?_
  refine AWp.region ?_
  refine OpsW.pure rfl rfl (pureOp_move rfl) ?_
  refine OpsW.pure rfl rfl (pureOp_assign rfl) ?_
  refine OpsW.nil ?_
  refine AWp.forget ?_ (sub_put (i := 0) rfl (sub_put (i := 4) rfl (sub_put (i := 5) rfl (sub_put (i := 9) rfl (sub_put (i := 10) rfl (sub_put (i := 11) rfl (sub_nil)))))))
  refine AWp.seq ?_
  refine AWp.region ?_
  have hpr := proveF_ok hc0 (show k < ls.length by omega)
  refine OpsW.pure rfl rfl (pureOp_move rfl) ?_
  refine OpsW.pure rfl rfl (pureOp_move rfl) ?_
  refine OpsW.callA rfl rfl (callOp Try.call11 rfl) permNone (prove_c v ls vs (k : Int) _ hv.ro hbd hbl) ?_
  rintro _ _ ⟨pv, rfl, hpv, rfl⟩
  simp only [hpr] at hpv ⊢
  refine OpsW.pure rfl rfl (pureOp_move rfl) ?_
  refine OpsW.pure rfl rfl (pureOp_extract rfl rfl) ?_
  refine OpsW.pure rfl rfl (pureOp_extract rfl rfl) ?_
  refine OpsW.alloc rfl rfl (allocOp_alloc zt32) ?_
  rintro _ _ ⟨b6, rfl, rfl⟩
  refine OpsW.upd rfl rfl (by repeat (first | exact Pos.here | apply Pos.there)) (lop_storeAllN 3 Try.sizeOf32 rfl rfl rfl rfl (one3 rfl rfl (one_sl hpv))) ?_
  rintro _ _ ⟨rfl, rfl⟩
  refine OpsW.pure rfl rfl (pureOp_assign rfl) ?_
  refine OpsW.nil ?_
  refine AWp.forget ?_ (sub_put (i := 0) rfl (sub_put (i := 4) rfl (sub_put (i := 5) rfl (sub_put (i := 6) rfl (sub_put (i := 7) rfl (sub_put (i := 9) rfl (sub_put (i := 10) rfl (sub_put (i := 11) rfl (sub_nil)))))))))
  refine AWp.seq ?_
  refine AWp.seq ?_
  refine AWp.region ?_
  refine OpsW.pure rfl rfl (pureOp_move rfl) ?_
  refine OpsW.pure rfl rfl (opN_neq (b := 0) rfl rfl) ?_
  refine OpsW.nil ?_
  refine AWp.forget ?_ (sub_put (i := 0) rfl (sub_put (i := 4) rfl (sub_put (i := 5) rfl (sub_put (i := 6) rfl (sub_put (i := 7) rfl (sub_put (i := 9) rfl (sub_put (i := 10) rfl (sub_put (i := 11) rfl (sub_put (i := 20) rfl (sub_nil))))))))))
  refine AWp.cond_false rfl ?_
  refine AWp.skip ?_
  refine AWp.keep (L' := [.sl pv 32 _, .obj b6 _, .sl vv 3 _]) (by repeat (first | exact Sel.nil | (apply Sel.cons; (repeat (first | exact Ext.here | apply Ext.there))))) ?_
  refine AWp.freeze (fun m2 hm2 hat => ?_)
  refine AWp.region ?_
  refine OpsW.pure rfl rfl (pureOp_move rfl) ?_
  refine OpsW.load rfl rfl (loadAll rfl (by repeat (first | exact List.Mem.head _ | apply List.Mem.tail)) (by rfl) ag32) ?_
  refine OpsW.alloc rfl rfl (allocOp_buildSlice slt43 rfl rfl (fun v hv => by rw [List.mem_singleton.1 hv]; rfl) (by decide)) ?_
  rintro v24 _ ⟨hv24, hn24, rfl⟩
  rw [flat_agg] at hv24 ⊢
  refine OpsW.upd rfl rfl (by repeat (first | exact Pos.here | apply Pos.there)) (lop_append (k := k) slt43 ni43 rfl rfl (by rw [rowC_length, hpl]) (src_rd (n := 1) (by first | exact Rd.ro (by assumption) | exact Rd.of_sl (by repeat (first | exact List.Mem.head _ | apply List.Mem.tail)) (by assumption)) rfl (by decide)) (by omega) (one3 rfl rfl (one_sl hpv)) (by decide) (by decide)) ?_
  rintro v25 _ ⟨hv25, rfl⟩
  rw [show [iV k, iV ls.length, pv] = [iV pvs.length, iV ls.length, pv] from by rw [hpl], rowC_snoc] at hv25 ⊢
  refine OpsW.pure rfl rfl (pureOp_assign rfl) ?_
  refine OpsW.nil ?_
  refine AWp.forget ?_ (sub_put (i := 0) rfl (sub_put (i := 4) rfl (sub_put (i := 5) rfl (sub_put (i := 6) rfl (sub_put (i := 7) rfl (sub_put (i := 9) rfl (sub_put (i := 10) rfl (sub_put (i := 11) rfl (sub_put (i := 20) rfl (sub_nil))))))))))
  refine AWp.region ?_
  refine OpsW.pure rfl rfl (opN_add (b := 1) rfl rfl (by omega)) ?_
  refine OpsW.pure rfl rfl (pureOp_move rfl) ?_
  refine OpsW.forget ?_ (sub_put (i := 0) rfl (sub_put (i := 4) rfl (sub_put (i := 9) rfl (sub_put (i := 10) rfl (sub_nil)))))
  refine OpsW.keep (L' := [.sl v25 3 _]) (by repeat (first | exact Sel.nil | (apply Sel.cons; (repeat (first | exact Ext.here | apply Ext.there))))) ?_
  refine OpsW.nil ?_
  exact ⟨_, by omega, k + 1, pvs ++ [pv], v25, rfl, by omega, by simp [hpl], part_snoc hpl (fun i hi => (hpp i hi).mono hm2) (Rd.of_at hpv hat), hv25, fun a u h => hm2 a u (hm a u h), rfl, rfl⟩
  obtain rfl : k = ls.length := by omega
  refine AWp.exit (exit_here ?_)
  refine AWp.seq ?_
  refine AWp.region ?_
  refine OpsW.pure rfl rfl (pureOp_move rfl) ?_
  refine OpsW.pure rfl rfl (pureOp_move rfl) ?_
  refine OpsW.callA rfl rfl (callOp Try.call10 rfl) permNone (check_c v ls vs _ hv.ro hbd hbl) ?_
  rintro _ _ ⟨rfl, rfl⟩
  rw [hc0]
  refine OpsW.pure rfl rfl (pureOp_assign rfl) ?_
  refine OpsW.pure rfl rfl (pureOp_assign rfl) ?_
  refine OpsW.nil ?_
  refine AWp.forget ?_ (sub_put (i := 0) rfl (sub_put (i := 2) rfl (sub_put (i := 3) rfl (sub_put (i := 4) rfl (sub_put (i := 9) rfl (sub_put (i := 10) rfl (sub_put (i := 11) rfl (sub_nil))))))))
  refine AWp.ret ?_
  exact ⟨_, [.sl vv 3 _], _, Sel.perm (by repeat (first | exact Sel.nil | (apply Sel.cons; (repeat (first | exact Ext.here | apply Ext.there))))), res_tmp2 rfl rfl rfl, vv, pvs, rfl, hpl, hpp, hvv, rfl⟩

end Go.Proofs.Ytbhjaoedlggbbaa.Sep
