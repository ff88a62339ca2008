/- The walks of the rows of the tree, and of its root. -/
import Derived.Test.YtbhjaoedlggbbaaTreeD
import Derived.Test.YtbhjaoedlggbbaaRef03
import Derived.Test.YtbhjaoedlggbbaaProg
namespace Go.Proofs.Ytbhjaoedlggbbaa.Sep
open Go Go.RowKit
set_option linter.unusedVariables false
set_option linter.unusedSimpArgs false
theorem slt30 : SlT Try.prog 30 25 32 32 (List.replicate 32 (.int .u8 0)) := ⟨Try.underlying30, ⟨_, _, (by kernel_rfl : Try.prog.info? 25 = some Try.t25), rfl, rfl, rfl, rfl, rfl⟩⟩
theorem ni30 : NotInt Try.prog 30 := ⟨_, Try.underlying30, fun k h => by cases h⟩


set_option maxRecDepth 20000 in
set_option maxHeartbeats 1000000 in
theorem check_c (v : Value) (ls : List (List UInt8)) (vs : List Value) (m : Mem) (hv : Rds m v ls vs) (hbd : ∀ i, (ls.getD i []).length ≤ 549755813888) (hbl : ls.length ≤ 549755813888) :
    Ctr Try.prog 10 [v] m [] (fun _ r L => r = iV (checkF ls.length) ∧ L = []) := by
  have ho := hv.rd.1
  have hrd := hv.rd
  have hvl := hv.len
  refine Ctr.intro Try.func10 rfl Try.ntmps10 (by simp) fun w0 => ?_
  refine AWp.forget ?_ (sub_put (i := 0) rfl (sub_nil))
  refine AWp.seq ?_
  refine AWp.region ?_
  refine OpsW.pure rfl rfl (pureOp_assign rfl) ?_
  refine OpsW.nil ?_
  refine AWp.forget ?_ (sub_put (i := 0) rfl (sub_put (i := 2) rfl (sub_nil)))
  refine AWp.seq ?_
  refine AWp.block ?_
  refine AWp.seq ?_
  refine AWp.region ?_
  refine OpsW.pure rfl rfl (pureOp_move rfl) ?_
  refine OpsW.pure rfl rfl (opN_len1 ls.length Try.underlying22 rfl (by assumption) hvl) ?_
  refine OpsW.pure rfl rfl (opN_eql (b := 0) rfl rfl) ?_
  refine OpsW.pure rfl rfl (pureOp_assign rfl) ?_
  refine OpsW.nil ?_
  refine AWp.forget ?_ (sub_put (i := 0) rfl (sub_put (i := 2) rfl (sub_put (i := 3) rfl (sub_nil))))
  refine AWp.condP rfl (fun ht3 => ?_) (fun ht3 => ?_)
  · skip
    refine AWp.seq ?_
    refine AWp.region ?_
    refine OpsW.pure rfl rfl (pureOp_assign rfl) ?_
    refine OpsW.nil ?_
    refine AWp.forget ?_ (sub_put (i := 0) rfl (sub_put (i := 2) rfl (sub_put (i := 3) rfl (sub_nil))))
    refine AWp.ret ?_
    exact ⟨_, [], _, permNone, res_tmp rfl rfl, by simp [checkF, ht3], rfl⟩
  refine AWp.seq ?_
  refine AWp.region ?_
  refine OpsW.pure rfl rfl (pureOp_move rfl) ?_
  refine OpsW.pure rfl rfl (opN_len1 ls.length Try.underlying22 rfl (by assumption) hvl) ?_
  refine OpsW.pure rfl rfl (opN_gtr (b := 1024) rfl rfl) ?_
  refine OpsW.pure rfl rfl (pureOp_assign rfl) ?_
  refine OpsW.nil ?_
  refine AWp.forget ?_ (sub_put (i := 0) rfl (sub_put (i := 2) rfl (sub_put (i := 3) rfl (sub_put (i := 7) rfl (sub_nil)))))
  refine AWp.condP rfl (fun ht7 => ?_) (fun ht7 => ?_)
  · skip
    refine AWp.seq ?_
    refine AWp.region ?_
    refine OpsW.pure rfl rfl (pureOp_assign rfl) ?_
    refine OpsW.nil ?_
    refine AWp.forget ?_ (sub_put (i := 0) rfl (sub_put (i := 2) rfl (sub_put (i := 3) rfl (sub_put (i := 7) rfl (sub_nil)))))
    refine AWp.ret ?_
    exact ⟨_, [], _, permNone, res_tmp rfl rfl, by simp only [checkF]; rw [if_neg ht3, if_pos ht7]; rfl, rfl⟩
  refine AWp.skip ?_
  refine AWp.seq ?_
  refine AWp.region ?_
  refine OpsW.pure rfl rfl (pureOp_assign rfl) ?_
  refine OpsW.nil ?_
  refine AWp.forget ?_ (sub_put (i := 0) rfl (sub_put (i := 2) rfl (sub_put (i := 3) rfl (sub_put (i := 7) rfl (sub_nil)))))
  refine AWp.ret ?_
  exact ⟨_, [], _, permNone, res_tmp rfl rfl, by simp only [checkF]; rw [if_neg ht3, if_neg ht7]; rfl, rfl⟩

set_option maxRecDepth 20000 in
set_option maxHeartbeats 1000000 in
theorem check31_c (v : Value) (ls : List (List UInt8)) (vs : List Value) (m : Mem) (hv : Rds m v ls vs) (hbd : ∀ i, (ls.getD i []).length ≤ 549755813888) (hbl : ls.length ≤ 549755813888) :
    Ctr Try.prog 27 [v] m [] (fun _ r L => r = iV (checkF ls.length) ∧ L = []) := by
  have ho := hv.rd.1
  have hrd := hv.rd
  have hvl := hv.len
  refine Ctr.intro Try.func27 rfl Try.ntmps27 (by simp) fun w0 => ?_
  refine AWp.forget ?_ (sub_put (i := 0) rfl (sub_nil))
  refine AWp.seq ?_
  refine AWp.region ?_
  refine OpsW.pure rfl rfl (pureOp_assign rfl) ?_
  refine OpsW.nil ?_
  refine AWp.forget ?_ (sub_put (i := 0) rfl (sub_put (i := 2) rfl (sub_nil)))
  refine AWp.seq ?_
  refine AWp.seq ?_
  refine AWp.region ?_
  refine OpsW.pure rfl rfl (pureOp_move rfl) ?_
  refine OpsW.pure rfl rfl (opN_len1 ls.length Try.underlying22 rfl (by assumption) hvl) ?_
  refine OpsW.pure rfl rfl (opN_eql (b := 0) rfl rfl) ?_
  refine OpsW.nil ?_
  refine AWp.forget ?_ (sub_put (i := 0) rfl (sub_put (i := 2) rfl (sub_put (i := 5) rfl (sub_nil))))
  refine AWp.condP rfl (fun ht5 => ?_) (fun ht5 => ?_)
  · skip
    refine AWp.seq ?_
    refine AWp.region ?_
    refine OpsW.pure rfl rfl (pureOp_assign rfl) ?_
    refine OpsW.nil ?_
    refine AWp.forget ?_ (sub_put (i := 0) rfl (sub_put (i := 2) rfl (sub_put (i := 5) rfl (sub_nil))))
    refine AWp.ret ?_
    exact ⟨_, [], _, permNone, res_tmp rfl rfl, by simp [checkF, ht5], rfl⟩
  refine AWp.skip ?_
  refine AWp.seq ?_
  refine AWp.seq ?_
  refine AWp.region ?_
  refine OpsW.pure rfl rfl (pureOp_move rfl) ?_
  refine OpsW.pure rfl rfl (opN_len1 ls.length Try.underlying22 rfl (by assumption) hvl) ?_
  refine OpsW.pure rfl rfl (opN_gtr (b := 1024) rfl rfl) ?_
  refine OpsW.nil ?_
  refine AWp.forget ?_ (sub_put (i := 0) rfl (sub_put (i := 2) rfl (sub_put (i := 5) rfl (sub_put (i := 8) rfl (sub_nil)))))
  refine AWp.condP rfl (fun ht8 => ?_) (fun ht8 => ?_)
  · skip
    refine AWp.seq ?_
    refine AWp.region ?_
    refine OpsW.pure rfl rfl (pureOp_assign rfl) ?_
    refine OpsW.nil ?_
    refine AWp.forget ?_ (sub_put (i := 0) rfl (sub_put (i := 2) rfl (sub_put (i := 5) rfl (sub_put (i := 8) rfl (sub_nil)))))
    refine AWp.ret ?_
    exact ⟨_, [], _, permNone, res_tmp rfl rfl, by simp only [checkF]; rw [if_neg ht5, if_pos ht8]; rfl, rfl⟩
  refine AWp.skip ?_
  refine AWp.seq ?_
  refine AWp.region ?_
  refine OpsW.pure rfl rfl (pureOp_assign rfl) ?_
  refine OpsW.nil ?_
  refine AWp.forget ?_ (sub_put (i := 0) rfl (sub_put (i := 2) rfl (sub_put (i := 5) rfl (sub_put (i := 8) rfl (sub_nil)))))
  refine AWp.ret ?_
  exact ⟨_, [], _, permNone, res_tmp rfl rfl, by simp only [checkF]; rw [if_neg ht5, if_neg ht8]; rfl, rfl⟩

set_option maxRecDepth 20000 in
set_option maxHeartbeats 1000000 in
theorem leaves_c (v : Value) (ls : List (List UInt8)) (vs : List Value) (m : Mem) (hv : Rds m v ls vs) (hbd : ∀ i, (ls.getD i []).length ≤ 549755813888) (hbl : ls.length ≤ 549755813888) :
    Ctr Try.prog 24 [v] m [] (fun _ r L => slOk r 32 (hC (leafHs ls ls.length)) ∧ L = [.sl r 32 (hC (leafHs ls ls.length))]) := by
  have ho := hv.rd.1
  have hrd := hv.rd
  have hvl := hv.len
  refine Ctr.intro Try.func24 rfl Try.ntmps24 (by simp) fun w0 => ?_
  refine AWp.forget ?_ (sub_put (i := 0) rfl (sub_nil))
  refine AWp.seq ?_
  refine AWp.region ?_
  refine OpsW.pure rfl rfl (pureOp_assign rfl) ?_
  refine OpsW.nil ?_
  refine AWp.forget ?_ (sub_put (i := 0) rfl (sub_put (i := 2) rfl (sub_nil)))
  refine AWp.seq ?_
  refine AWp.region ?_
  refine OpsW.pure rfl rfl (pureOp_assign rfl) ?_
  refine OpsW.nil ?_
  refine AWp.forget ?_ (sub_put (i := 0) rfl (sub_put (i := 2) rfl (sub_put (i := 3) rfl (sub_nil))))
  refine AWp.seq ?_
  refine AWp.seq ?_
  refine AWp.nilChunk 32 ?_
  refine AWp.region ?_
  refine OpsW.pure rfl rfl (pureOp_move rfl) ?_
  refine OpsW.pure rfl rfl (opN_len1 ls.length Try.underlying22 rfl (by assumption) hvl) ?_
  refine OpsW.pure rfl rfl (pureOp_move rfl) ?_
  refine OpsW.nil ?_
  refine AWp.forget ?_ (sub_put (i := 0) rfl (sub_put (i := 2) rfl (sub_put (i := 3) rfl (sub_put (i := 6) rfl (sub_put (i := 7) rfl (sub_put (i := 8) rfl (sub_nil)))))))
  refine AWp.block ?_
  refine AWp.forget ?_ (sub_put (i := 3) rfl (sub_put (i := 6) rfl (sub_put (i := 7) rfl (sub_put (i := 8) rfl (sub_nil)))))
  refine AWp.keep (L' := [.sl (.slice none 0 0) 32 _]) (by repeat (first | exact Sel.nil | (apply Sel.cons; (repeat (first | exact Ext.here | apply Ext.there))))) ?_
  refine AWp.loop (fun N m' T' L' => ∃ (k : Nat) (vv : Value), N = ls.length - k ∧ k ≤ ls.length ∧ slOk vv 32 (hC (leafHs ls k)) ∧ m' = m ∧ T' = put (put (put (put (tnil) 8 (iV k)) 7 (iV ls.length)) 6 (v)) 3 (vv) ∧ L' = [.sl vv 32 (hC (leafHs ls k))]) _ (⟨0, .slice none 0 0, rfl, Nat.zero_le _, .inl ⟨rfl, rfl⟩, rfl, rfl, rfl⟩) ?_
  rintro _ m _ _ ⟨k, vv, rfl, hk, hvv, rfl, rfl, rfl⟩
  refine AWp.seq ?_
  refine AWp.region ?_
  refine OpsW.pure rfl rfl (opN_lss rfl rfl) ?_
  refine OpsW.nil ?_
  refine AWp.forget ?_ (sub_put (i := 3) rfl (sub_put (i := 6) rfl (sub_put (i := 7) rfl (sub_put (i := 8) rfl (sub_put (i := 9) rfl (sub_nil))))))
  refine AWp.seq ?_
  refine AWp.condP rfl (fun ht9 => ?_) (fun ht9 => ?_)
  refine AWp.skip ?_
  refine AWp.seq ?_
  refine AWp.block ?_
  refine AWp.seq ?_
  refine AWp.region ?_
  refine OpsW.pure rfl rfl (pureOp_move rfl) ?_
  refine OpsW.pure rfl rfl (opN_indexSl1 Try.underlying22 Try.sizeOf38 rfl (by assumption) rfl (by omega)) ?_
  refine OpsW.load rfl rfl (loadOp_elem (u := vs.getD k undef) sc38 rfl (by first | exact Rd.ro (by assumption) | exact Rd.of_sl (by repeat (first | exact List.Mem.head _ | apply List.Mem.tail)) (by assumption)) (get_D (by omega))) ?_
  refine OpsW.pure rfl rfl (pureOp_assign rfl) ?_
  refine OpsW.pure rfl rfl (pureOp_assign rfl) ?_
  refine OpsW.nil ?_
  refine AWp.forget ?_ (sub_put (i := 3) rfl (sub_put (i := 4) rfl (sub_put (i := 5) rfl (sub_put (i := 6) rfl (sub_put (i := 7) rfl (sub_put (i := 8) rfl (sub_put (i := 9) rfl (sub_nil))))))))
  refine AWp.region ?_
  refine OpsW.pure rfl rfl (pureOp_move rfl) ?_
  refine OpsW.pure rfl rfl (pureOp_move rfl) ?_
  refine OpsW.pure rfl rfl (pureOp_move rfl) ?_
  refine OpsW.callA rfl rfl (callOp Try.call14 rfl) permNone (leaf_c k _ (ls.getD k []) _ (by omega) (hv.part k (by omega)).ro (hbd k)) ?_
  rintro _ _ ⟨rfl, rfl⟩
  refine OpsW.alloc rfl rfl (allocOp_buildSlice slt30 rfl rfl (fun v hv => by rw [List.mem_singleton.1 hv]; simp [Value.cells, shaF_length, joinF_length, *]) (by decide)) ?_
  rintro v17 _ ⟨hv17, hn17, rfl⟩
  rw [flat_agg] at hv17 ⊢
  refine OpsW.upd rfl rfl (by repeat (first | exact Pos.here | apply Pos.there)) (lop_append (k := k) slt30 ni30 rfl rfl (by rw [hC_length (leafHs_ok ls k), leafHs_length]) (src_rd (n := 1) (by first | exact Rd.ro (by assumption) | exact Rd.of_sl (by repeat (first | exact List.Mem.head _ | apply List.Mem.tail)) (by assumption)) (by simp [shaF_length]) (by decide)) (by omega) (one_map (fun _ => rfl) _) (by decide) (by decide)) ?_
  rintro v18 _ ⟨hv18, rfl⟩
  rw [hC_snoc, leafHs_succ] at hv18 ⊢
  refine OpsW.pure rfl rfl (pureOp_assign rfl) ?_
  refine OpsW.nil ?_
  refine AWp.forget ?_ (sub_put (i := 3) rfl (sub_put (i := 4) rfl (sub_put (i := 5) rfl (sub_put (i := 6) rfl (sub_put (i := 7) rfl (sub_put (i := 8) rfl (sub_put (i := 9) rfl (sub_nil))))))))
  refine AWp.region ?_
  refine OpsW.pure rfl rfl (opN_add (b := 1) rfl rfl (by omega)) ?_
  refine OpsW.pure rfl rfl (pureOp_move rfl) ?_
  refine OpsW.forget ?_ (sub_put (i := 3) rfl (sub_put (i := 6) rfl (sub_put (i := 7) rfl (sub_put (i := 8) rfl (sub_nil)))))
  refine OpsW.keep (L' := [.sl v18 32 _]) (by repeat (first | exact Sel.nil | (apply Sel.cons; (repeat (first | exact Ext.here | apply Ext.there))))) ?_
  refine OpsW.nil ?_
  exact ⟨_, by omega, k + 1, v18, rfl, by omega, hv18, rfl, rfl, rfl⟩
  obtain rfl : k = ls.length := by omega
  refine AWp.exit (exit_here ?_)
  refine AWp.seq ?_
  refine AWp.region ?_
  refine OpsW.pure rfl rfl (pureOp_move rfl) ?_
  refine OpsW.pure rfl rfl (pureOp_assign rfl) ?_
  refine OpsW.nil ?_
  refine AWp.forget ?_ (sub_put (i := 2) rfl (sub_put (i := 3) rfl (sub_put (i := 6) rfl (sub_put (i := 7) rfl (sub_put (i := 8) rfl (sub_put (i := 9) rfl (sub_nil)))))))
  refine AWp.ret ?_
  exact ⟨_, [.sl vv 32 _], _, Sel.perm (by repeat (first | exact Sel.nil | (apply Sel.cons; (repeat (first | exact Ext.here | apply Ext.there))))), res_tmp rfl rfl, hvv, rfl⟩

set_option maxRecDepth 20000 in
set_option maxHeartbeats 1000000 in
theorem up_c (v : Value) (hs : List (List UInt8)) (m : Mem) (hv : Rd m v 32 (hC hs)) (ok : HsOk hs) (hbl : hs.length ≤ 549755813888) :
    Ctr Try.prog 25 [v] m [] (fun _ r L => slOk r 32 (hC (upF hs)) ∧ L = [.sl r 32 (hC (upF hs))]) := by
  have ho := hv.1
  refine Ctr.intro Try.func25 rfl Try.ntmps25 (by simp) fun w0 => ?_
  refine AWp.forget ?_ (sub_put (i := 0) rfl (sub_nil))
  refine AWp.seq ?_
  refine AWp.region ?_
  refine OpsW.pure rfl rfl (pureOp_assign rfl) ?_
  refine OpsW.nil ?_
  refine AWp.forget ?_ (sub_put (i := 0) rfl (sub_put (i := 2) rfl (sub_nil)))
  refine AWp.seq ?_
  refine AWp.region ?_
  refine OpsW.pure rfl rfl (pureOp_assign rfl) ?_
  refine OpsW.nil ?_
  refine AWp.forget ?_ (sub_put (i := 0) rfl (sub_put (i := 2) rfl (sub_put (i := 3) rfl (sub_nil))))
  refine AWp.seq ?_
  refine AWp.seq ?_
  refine AWp.nilChunk 32 ?_
  refine AWp.region ?_
  refine OpsW.pure rfl rfl (pureOp_assign rfl) ?_
  refine OpsW.nil ?_
  refine AWp.forget ?_ (sub_put (i := 0) rfl (sub_put (i := 2) rfl (sub_put (i := 3) rfl (sub_put (i := 4) rfl (sub_nil)))))
  refine AWp.joinW (fun m' T' L' => ∃ vv : Value, slOk vv 32 (hC (upF hs)) ∧ m' = m ∧ T' = put (tnil) 3 (vv) ∧ L' = [.sl vv 32 (hC (upF hs))]) ?_ ?_
  · skip
    refine AWp.block ?_
    refine AWp.forget ?_ (sub_put (i := 0) rfl (sub_put (i := 3) rfl (sub_put (i := 4) rfl (sub_nil))))
    refine AWp.keep (L' := [.sl (.slice none 0 0) 32 _]) (by repeat (first | exact Sel.nil | (apply Sel.cons; (repeat (first | exact Ext.here | apply Ext.there))))) ?_
    refine AWp.loop (fun N m' T' L' => ∃ (k : Nat) (vv : Value), N = hs.length - k ∧ 2 * k ≤ hs.length ∧ slOk vv 32 (hC (upF (hs.take (2 * k)))) ∧ m' = m ∧ T' = put (put (put (tnil) 4 (iV (2 * k))) 3 (vv)) 0 (v) ∧ L' = [.sl vv 32 (hC (upF (hs.take (2 * k))))]) _ (⟨0, .slice none 0 0, rfl, by omega, .inl ⟨rfl, rfl⟩, rfl, rfl, rfl⟩) ?_
    rintro _ m _ _ ⟨k, vv, rfl, hk, hvv, rfl, rfl, rfl⟩
    have hul : (upF (hs.take (2 * k))).length = k := by rw [upF_length, List.length_take]; omega
    refine AWp.seq ?_
    refine AWp.seq ?_
    refine AWp.region ?_
    refine OpsW.pure rfl rfl (pureOp_move rfl) ?_
    refine OpsW.pure rfl rfl (pureOp_move rfl) ?_
    refine OpsW.pure rfl rfl (pureOp_len (n := hs.length) Try.underlying30 rfl (by assumption) (hC_length ok) (by decide)) ?_
    refine OpsW.pure rfl rfl (opN_lss rfl rfl) ?_
    refine OpsW.nil ?_
    refine AWp.forget ?_ (sub_put (i := 0) rfl (sub_put (i := 3) rfl (sub_put (i := 4) rfl (sub_put (i := 8) rfl (sub_nil)))))
    refine AWp.condP rfl (fun ht8 => ?_) (fun ht8 => ?_)
    refine AWp.skip ?_
    refine AWp.seq ?_
    refine AWp.block ?_
    refine AWp.seq ?_
    refine AWp.seq ?_
    refine AWp.region ?_
    refine OpsW.pure rfl rfl (pureOp_move rfl) ?_
    refine OpsW.pure rfl rfl (opN_add (b := 1) rfl rfl (by omega)) ?_
    refine OpsW.pure rfl rfl (pureOp_move rfl) ?_
    refine OpsW.pure rfl rfl (pureOp_len (n := hs.length) Try.underlying30 rfl (by assumption) (hC_length ok) (by decide)) ?_
    refine OpsW.pure rfl rfl (opN_eql rfl rfl) ?_
    refine OpsW.nil ?_
    refine AWp.forget ?_ (sub_put (i := 0) rfl (sub_put (i := 3) rfl (sub_put (i := 4) rfl (sub_put (i := 8) rfl (sub_put (i := 15) rfl (sub_nil))))))
    refine AWp.condP rfl (fun ht15 => ?_) (fun ht15 => ?_)
    · skip
      refine AWp.seq ?_
      refine AWp.region ?_
      refine OpsW.pure rfl rfl (pureOp_move rfl) ?_
      refine OpsW.pure rfl rfl (pureOp_move rfl) ?_
      refine OpsW.pure rfl rfl (pureOp_move rfl) ?_
      refine OpsW.pure rfl rfl (opN_indexSl (n := hs.length) Try.underlying30 Try.sizeOf25 rfl (by assumption) (hC_length ok) (by decide) rfl (by omega)) ?_
      refine OpsW.load rfl rfl (loadHash (hs := hs) (i := 2 * k) ag25 rfl (by first | exact Rd.ro (by assumption) | exact Rd.of_sl (by repeat (first | exact List.Mem.head _ | apply List.Mem.tail)) (by assumption)) ok (by omega)) ?_
      refine OpsW.alloc rfl rfl (allocOp_buildSlice slt30 rfl rfl (fun v hv => by rw [List.mem_singleton.1 hv]; simpa [Value.cells] using ok.getD (by omega)) (by decide)) ?_
      rintro v21 _ ⟨hv21, hn21, rfl⟩
      rw [flat_agg] at hv21 ⊢
      refine OpsW.upd rfl rfl (by repeat (first | exact Pos.here | apply Pos.there)) (lop_append (k := k) slt30 ni30 rfl rfl (by rw [hC_length (upF_ok (ok.take _)), hul]) (src_rd (n := 1) (by first | exact Rd.ro (by assumption) | exact Rd.of_sl (by repeat (first | exact List.Mem.head _ | apply List.Mem.tail)) (by assumption)) (by simpa using ok.getD (by omega)) (by decide)) (by omega) (one_map (fun _ => rfl) _) (by decide) (by decide)) ?_
      rintro v22 _ ⟨hv22, rfl⟩
      rw [hC_snoc, upF_odd ht15] at hv22 ⊢
      refine OpsW.pure rfl rfl (pureOp_assign rfl) ?_
      refine OpsW.nil ?_
      refine AWp.forget ?_ (sub_put (i := 0) rfl (sub_put (i := 3) rfl (sub_put (i := 4) rfl (sub_put (i := 8) rfl (sub_put (i := 15) rfl (sub_nil))))))
      refine AWp.exit (exit_on rfl (exit_here ?_))
      refine ⟨_, [.sl v22 32 _], _, sub_put (i := 3) rfl (sub_nil), Sel.perm (by repeat (first | exact Sel.nil | (apply Sel.cons; (repeat (first | exact Ext.here | apply Ext.there))))), ?_⟩
      exact ⟨v22, hv22, rfl, rfl, rfl⟩
    refine AWp.skip ?_
    refine AWp.draw [(0, .pure), (1, .pure), (2, .pure), (3, .pure), (4, .load), (5, .pure), (6, .pure), (7, .pure), (8, .pure), (9, .load), (10, .call), (11, .alloc), (12, .wr), (13, .pure)] rfl (by decide +kernel) (fun _ _ _ p h => AWp.perm h p.symm) ?_
    refine ⟨_, _, rfl, OpStep.pure rfl rfl (pureOp_move rfl), ?_⟩
    rintro _ _ ⟨rfl, rfl⟩ -
    refine ⟨_, _, rfl, OpStep.pure rfl rfl (pureOp_move rfl), ?_⟩
    rintro _ _ ⟨rfl, rfl⟩ -
    refine ⟨_, _, rfl, OpStep.pure rfl rfl (pureOp_move rfl), ?_⟩
    rintro _ _ ⟨rfl, rfl⟩ -
    refine ⟨_, _, rfl, OpStep.pure rfl rfl (opN_indexSl (n := hs.length) Try.underlying30 Try.sizeOf25 rfl (by assumption) (hC_length ok) (by decide) rfl (by omega)), ?_⟩
    rintro _ _ ⟨rfl, rfl⟩ -
    refine ⟨_, _, rfl, OpStep.load rfl rfl (loadHash (hs := hs) (i := 2 * k) ag25 rfl (by first | exact Rd.ro (by assumption) | exact Rd.of_sl (by repeat (first | exact List.Mem.head _ | apply List.Mem.tail)) (by assumption)) ok (by omega)), ?_⟩
    rintro _ _ ⟨rfl, rfl⟩ -
    refine ⟨_, _, rfl, OpStep.pure rfl rfl (pureOp_move rfl), ?_⟩
    rintro _ _ ⟨rfl, rfl⟩ -
    refine ⟨_, _, rfl, OpStep.pure rfl rfl (pureOp_move rfl), ?_⟩
    rintro _ _ ⟨rfl, rfl⟩ -
    refine ⟨_, _, rfl, OpStep.pure rfl rfl (opN_add (b := 1) rfl rfl (by omega)), ?_⟩
    rintro _ _ ⟨rfl, rfl⟩ -
    refine ⟨_, _, rfl, OpStep.pure rfl rfl (opN_indexSl (n := hs.length) Try.underlying30 Try.sizeOf25 rfl (by assumption) (hC_length ok) (by decide) rfl (by omega)), ?_⟩
    rintro _ _ ⟨rfl, rfl⟩ -
    refine ⟨_, _, rfl, OpStep.load rfl rfl (loadHash (hs := hs) (i := 2 * k + 1) ag25 rfl (by first | exact Rd.ro (by assumption) | exact Rd.of_sl (by repeat (first | exact List.Mem.head _ | apply List.Mem.tail)) (by assumption)) ok (by omega)), ?_⟩
    rintro _ _ ⟨rfl, rfl⟩ -
    refine ⟨_, _, rfl, OpStep.call rfl rfl (callOp Try.call38 rfl) (join_c (hs.getD (2 * k) []) (hs.getD (2 * k + 1) []) _ (ok.getD (by omega)) (ok.getD (by omega))), ?_⟩
    rintro _ _ ⟨_, _, ⟨rfl, rfl⟩, rfl, rfl⟩ -
    refine ⟨_, _, rfl, allocStep_buildSlice rfl rfl slt30 rfl rfl (fun v hv => by rw [List.mem_singleton.1 hv]; simp [Value.cells, shaF_length, joinF_length, *]) (by decide), ?_⟩
    rintro _ _ ⟨v34, _, ⟨hv34, hn34, rfl⟩, rfl, rfl⟩ -
    rw [flat_agg] at hv34 ⊢
    refine ⟨_, _, rfl, OpStep.wr rfl rfl (toWp (by repeat (first | exact Pos.here | apply Pos.there)) (lop_append (k := k) slt30 ni30 rfl rfl (by rw [hC_length (upF_ok (ok.take _)), hul]) (src_rd (n := 1) (by first | exact Rd.ro (by assumption) | exact Rd.of_sl (by repeat (first | exact List.Mem.head _ | apply List.Mem.tail)) (by assumption)) (by simp [shaF_length]) (by decide)) (by omega) (one_map (fun _ => rfl) _) (by decide) (by decide))), ?_⟩
    rintro _ _ ⟨v35, ⟨_, ⟨hv35, rfl⟩, rfl⟩, rfl⟩ -
    rw [hC_snoc, ← joinF, upF_two (by omega)] at hv35 ⊢
    refine ⟨_, _, rfl, OpStep.pure rfl rfl (pureOp_assign rfl), ?_⟩
    rintro _ _ ⟨rfl, rfl⟩ -
    refine AWp.forget ?_ (sub_put (i := 0) rfl (sub_put (i := 3) rfl (sub_put (i := 4) rfl (sub_put (i := 8) rfl (sub_put (i := 15) rfl (sub_nil))))))
    refine AWp.region ?_
    refine OpsW.pure rfl rfl (pureOp_move rfl) ?_
    refine OpsW.pure rfl rfl (opN_add (b := 2) rfl rfl (by omega)) ?_
    refine OpsW.pure rfl rfl (pureOp_assign rfl) ?_
    refine OpsW.forget ?_ (sub_put (i := 0) rfl (sub_put (i := 3) rfl (sub_put (i := 4) rfl (sub_nil))))
    refine OpsW.keep (L' := [.sl v35 32 _]) (by repeat (first | exact Sel.nil | (apply Sel.cons; (repeat (first | exact Ext.here | apply Ext.there))))) ?_
    refine OpsW.nil ?_
    exact ⟨_, by omega, k + 1, v35, rfl, by omega, hv35, rfl, by rw [show 2 * (k + 1) = 2 * k + 2 by omega], rfl⟩
    rw [List.take_of_length_le (by omega)] at hvv ⊢
    refine AWp.exit (exit_here ?_)
    refine ⟨_, [.sl vv 32 _], _, sub_put (i := 3) rfl (sub_nil), Sel.perm (by repeat (first | exact Sel.nil | (apply Sel.cons; (repeat (first | exact Ext.here | apply Ext.there))))), ?_⟩
    exact ⟨vv, hvv, rfl, rfl, rfl⟩
  rintro m _ _ ⟨vv, hvv, rfl, rfl, rfl⟩
  refine AWp.seq ?_
  refine AWp.region ?_
  refine OpsW.pure rfl rfl (pureOp_move rfl) ?_
  refine OpsW.pure rfl rfl (pureOp_assign rfl) ?_
  refine OpsW.nil ?_
  refine AWp.forget ?_ (sub_put (i := 2) rfl (sub_put (i := 3) rfl (sub_nil)))
  refine AWp.ret ?_
  exact ⟨_, [.sl vv 32 _], _, Sel.perm (by repeat (first | exact Sel.nil | (apply Sel.cons; (repeat (first | exact Ext.here | apply Ext.there))))), res_tmp rfl rfl, hvv, rfl⟩

set_option maxRecDepth 20000 in
set_option maxHeartbeats 1000000 in
theorem root_c (v : Value) (ls : List (List UInt8)) (vs : List Value) (m : Mem) (hv : Rds m v ls vs) (hbd : ∀ i, (ls.getD i []).length ≤ 549755813888) (hbl : ls.length ≤ 549755813888) :
    Ctr Try.prog 8 [v] m [] (fun _ r L => r = .tuple #[.agg ((rootF ls).1.map bV).toArray, iV (rootF ls).2] ∧ L = []) := by
  have ho := hv.rd.1
  have hrd := hv.rd
  have hvl := hv.len
  refine Ctr.intro Try.func8 rfl Try.ntmps8 (by simp) fun w0 => ?_
  refine AWp.forget ?_ (sub_put (i := 0) rfl (sub_nil))
  refine AWp.seq ?_
  refine AWp.region ?_
  refine OpsW.alloc rfl rfl (allocOp_alloc zt25) ?_
  rintro _ _ ⟨b2, rfl, rfl⟩
  refine OpsW.pure rfl rfl (pureOp_assign rfl) ?_
  refine OpsW.nil ?_
  refine AWp.forget ?_ (sub_put (i := 0) rfl (sub_put (i := 2) rfl (sub_put (i := 3) rfl (sub_nil))))
  refine AWp.seq ?_
  refine AWp.seq ?_
  refine AWp.region ?_
  refine OpsW.pure rfl rfl (pureOp_move rfl) ?_
  refine OpsW.callA rfl rfl (callOp Try.call10 rfl) permNone (check_c v ls vs _ hv.ro hbd hbl) ?_
  rintro _ _ ⟨rfl, rfl⟩
  refine OpsW.pure rfl rfl (pureOp_assign rfl) ?_
  refine OpsW.nil ?_
  refine AWp.forget ?_ (sub_put (i := 0) rfl (sub_put (i := 2) rfl (sub_put (i := 3) rfl (sub_put (i := 4) rfl (sub_nil)))))
  refine AWp.seq ?_
  refine AWp.region ?_
  refine OpsW.pure rfl rfl (pureOp_move rfl) ?_
  refine OpsW.pure rfl rfl (opN_neq (b := 0) rfl rfl) ?_
  refine OpsW.nil ?_
  refine AWp.forget ?_ (sub_put (i := 0) rfl (sub_put (i := 2) rfl (sub_put (i := 3) rfl (sub_put (i := 4) rfl (sub_put (i := 9) rfl (sub_nil))))))
  refine AWp.condP rfl (fun ht9 => ?_) (fun ht9 => ?_)
  · skip
    refine AWp.seq ?_
    refine AWp.region ?_
    refine OpsW.pure rfl rfl (opBuildArr0 arr25 zt25) ?_
    refine OpsW.pure rfl rfl (pureOp_move rfl) ?_
    refine OpsW.upd rfl rfl (by repeat (first | exact Pos.here | apply Pos.there)) (lop_storeAllN 32 Try.sizeOf25 rfl rfl (by simp) (by simp) (one_rfl rfl)) ?_
    rintro _ _ ⟨rfl, rfl⟩
    refine OpsW.pure rfl rfl (pureOp_assign rfl) ?_
    refine OpsW.nil ?_
    refine AWp.forget ?_ (sub_put (i := 0) rfl (sub_put (i := 2) rfl (sub_put (i := 3) rfl (sub_put (i := 4) rfl (sub_put (i := 9) rfl (sub_nil))))))
    refine AWp.ret ?_
    exact ⟨_, [], _, permNone, resCellTmp rfl rfl (by repeat (first | exact List.Mem.head _ | apply List.Mem.tail)) (by simp) ag25 rfl, by have h9 : checkF ls.length ≠ 0 := ht9; rw [rootF, if_neg h9]; rfl, rfl⟩
  refine AWp.skip ?_
  refine AWp.seq ?_
  have hc0 : checkF ls.length = 0 := by simpa using ht9
  have hlen : ls.length ≠ 0 ∧ ls.length ≤ 1024 := by simp only [checkF] at hc0; split at hc0 <;> first | omega | (split at hc0 <;> omega)
  refine AWp.region ?_
  refine OpsW.pure rfl rfl (pureOp_move rfl) ?_
  refine OpsW.callA rfl rfl (callOp Try.call24 rfl) permNone (leaves_c v ls vs _ hv.ro hbd hbl) ?_
  rintro v13 _ ⟨hv13, rfl⟩
  refine OpsW.pure rfl rfl (pureOp_assign rfl) ?_
  refine OpsW.nil ?_
  refine AWp.forget ?_ (sub_put (i := 0) rfl (sub_put (i := 2) rfl (sub_put (i := 3) rfl (sub_put (i := 4) rfl (sub_put (i := 5) rfl (sub_put (i := 9) rfl (sub_nil)))))))
  refine AWp.seq ?_
  refine AWp.block ?_
  refine AWp.forget ?_ (sub_put (i := 0) rfl (sub_put (i := 2) rfl (sub_put (i := 5) rfl (sub_nil))))
  refine AWp.keep (L' := [.obj b2 _, .sl v13 32 _]) (by repeat (first | exact Sel.nil | (apply Sel.cons; (repeat (first | exact Ext.here | apply Ext.there))))) ?_
  refine AWp.loop (fun N m' T' L' => ∃ (hs : List (List UInt8)) (vv : Value), N = hs.length ∧ HsOk hs ∧ hs.length ≤ ls.length ∧ hs.length ≠ 0 ∧ topF hs = topF (leafHs ls ls.length) ∧ slOk vv 32 (hC hs) ∧ m' = m ∧ T' = put (put (put (tnil) 5 (vv)) 2 (.pointer (some ⟨b2, 0, none⟩))) 0 (v) ∧ L' = [.obj b2 (List.replicate 32 (.int .u8 0)), .sl vv 32 (hC hs)]) _ (⟨leafHs ls ls.length, v13, rfl, leafHs_ok _ _, by rw [leafHs_length]; exact Nat.le_refl _, by rw [leafHs_length]; exact hlen.1, rfl, hv13, rfl, rfl, rfl⟩) ?_
  rintro _ m _ _ ⟨hs, vv, rfl, ok, hle, hne, htop, hvv, rfl, rfl, rfl⟩
  refine AWp.seq ?_
  refine AWp.seq ?_
  refine AWp.region ?_
  refine OpsW.pure rfl rfl (pureOp_move rfl) ?_
  refine OpsW.pure rfl rfl (pureOp_len (n := hs.length) Try.underlying30 rfl (by assumption) (hC_length ok) (by decide)) ?_
  refine OpsW.pure rfl rfl (opN_gtr (b := 1) rfl rfl) ?_
  refine OpsW.nil ?_
  refine AWp.forget ?_ (sub_put (i := 0) rfl (sub_put (i := 2) rfl (sub_put (i := 5) rfl (sub_put (i := 16) rfl (sub_nil)))))
  refine AWp.condP rfl (fun ht16 => ?_) (fun ht16 => ?_)
  refine AWp.skip ?_
  refine AWp.block ?_
  refine AWp.region ?_
  refine OpsW.pure rfl rfl (pureOp_move rfl) ?_
  refine OpsW.callA rfl rfl (callOp Try.call25 rfl) permNone (up_c vv hs _ (Rd.of_sl (by repeat (first | exact List.Mem.head _ | apply List.Mem.tail)) hvv) ok (by omega)) ?_
  rintro v18 _ ⟨hv18, rfl⟩
  refine OpsW.pure rfl rfl (pureOp_assign rfl) ?_
  refine OpsW.forget ?_ (sub_put (i := 0) rfl (sub_put (i := 2) rfl (sub_put (i := 5) rfl (sub_nil))))
  refine OpsW.keep (L' := [.obj b2 _, .sl v18 32 _]) (by repeat (first | exact Sel.nil | (apply Sel.cons; (repeat (first | exact Ext.here | apply Ext.there))))) ?_
  refine OpsW.nil ?_
  exact ⟨_, by rw [upF_length]; omega, upF hs, v18, rfl, upF_ok ok, by rw [upF_length]; omega, by rw [upF_length]; omega, by rw [topF_up (by omega)]; exact htop, hv18, rfl, rfl, rfl⟩
  refine AWp.exit (exit_here ?_)
  refine AWp.seq ?_
  refine AWp.region ?_
  refine OpsW.pure rfl rfl (pureOp_move rfl) ?_
  refine OpsW.pure rfl rfl (opN_len1 ls.length Try.underlying22 rfl (by assumption) hvl) ?_
  refine OpsW.pure rfl rfl (pureOp_move rfl) ?_
  refine OpsW.pure rfl rfl (opN_indexSl (i := 0) (n := hs.length) Try.underlying30 Try.sizeOf25 rfl (by assumption) (hC_length ok) (by decide) rfl (by omega)) ?_
  refine OpsW.load rfl rfl (loadHash (hs := hs) (i := 0) ag25 rfl (by first | exact Rd.ro (by assumption) | exact Rd.of_sl (by repeat (first | exact List.Mem.head _ | apply List.Mem.tail)) (by assumption)) ok (by omega)) ?_
  rw [← topF_one (by omega), htop]
  have htl : (topF (leafHs ls ls.length)).length = 32 := by rw [← htop, topF_one (by omega)]; exact ok.getD (by omega)
  refine OpsW.callA rfl rfl (callOp Try.call26 rfl) permNone (crown_c ls.length _ _ (by omega) htl) ?_
  rintro _ _ ⟨rfl, rfl⟩
  refine OpsW.upd rfl rfl (by repeat (first | exact Pos.here | apply Pos.there)) (lop_storeAllN 32 Try.sizeOf25 rfl rfl (by simp) (by simp [shaF_length]) (by first | exact one_map (fun _ => rfl) _ | exact one_rfl rfl | simp [one])) ?_
  rintro _ _ ⟨rfl, rfl⟩
  refine OpsW.pure rfl rfl (pureOp_assign rfl) ?_
  refine OpsW.nil ?_
  refine AWp.forget ?_ (sub_put (i := 0) rfl (sub_put (i := 2) rfl (sub_put (i := 3) rfl (sub_put (i := 5) rfl (sub_put (i := 16) rfl (sub_nil))))))
  refine AWp.ret ?_
  exact ⟨_, [], _, permNone, resCellTmp rfl rfl (by repeat (first | exact List.Mem.head _ | apply List.Mem.tail)) (by simp [shaF_length]) ag25 rfl, by rw [rootF, if_pos hc0]; rfl, rfl⟩

end Go.Proofs.Ytbhjaoedlggbbaa.Sep
