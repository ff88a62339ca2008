/- The walks of paths, depths, and of what is light. -/
import Derived.Test.YtbhjaoedlggbbaaTreeF
import Derived.Test.YtbhjaoedlggbbaaTree3
import Derived.Test.YtbhjaoedlggbbaaProg
namespace Go.Proofs.Ytbhjaoedlggbbaa.Sep
open Go Go.RowKit
set_option linter.unusedVariables false
set_option linter.unusedSimpArgs false
theorem by25 : BytesT Try.prog 25 32 := ⟨_, Try.underlying25, Try.underlying5, by kernel_rfl, by kernel_rfl⟩
theorem dpth : 1 < Try.prog.depth := by decide +kernel


set_option maxRecDepth 20000 in
set_option maxHeartbeats 1000000 in
theorem same_c (a b : Value) (xs ys : List (List UInt8)) (m : Mem) (ha : Rd m a 32 (hC xs)) (hb : Rd m b 32 (hC ys)) (okx : HsOk xs) (oky : HsOk ys) (hbl : xs.length ≤ 549755813888) :
    Ctr Try.prog 12 [a, b] m [] (fun _ r L => r = .bool (decide (xs = ys)) ∧ L = []) := by
  have hoa := ha.1
  have hob := hb.1
  refine Ctr.intro Try.func12 rfl Try.ntmps12 (by simp) fun w0 => ?_
  refine AWp.forget ?_ (sub_put (i := 0) rfl (sub_put (i := 1) rfl (sub_nil)))
  refine AWp.seq ?_
  refine AWp.region ?_
  refine OpsW.pure rfl rfl (pureOp_assign rfl) ?_
  refine OpsW.nil ?_
  refine AWp.forget ?_ (sub_put (i := 0) rfl (sub_put (i := 1) rfl (sub_put (i := 4) rfl (sub_nil))))
  refine AWp.seq ?_
  refine AWp.seq ?_
  refine AWp.region ?_
  refine OpsW.pure rfl rfl (pureOp_move rfl) ?_
  refine OpsW.pure rfl rfl (pureOp_len (n := xs.length) Try.underlying30 rfl (by assumption) (hC_length okx) (by decide)) ?_
  refine OpsW.pure rfl rfl (pureOp_move rfl) ?_
  refine OpsW.pure rfl rfl (pureOp_len (n := ys.length) Try.underlying30 rfl (by assumption) (hC_length oky) (by decide)) ?_
  refine OpsW.pure rfl rfl (opN_neq rfl rfl) ?_
  refine OpsW.nil ?_
  refine AWp.forget ?_ (sub_put (i := 0) rfl (sub_put (i := 1) rfl (sub_put (i := 4) rfl (sub_put (i := 10) rfl (sub_nil)))))
  refine AWp.condP rfl (fun ht10 => ?_) (fun ht10 => ?_)
  · skip
    refine AWp.seq ?_
    refine AWp.region ?_
    refine OpsW.pure rfl rfl (pureOp_assign rfl) ?_
    refine OpsW.nil ?_
    refine AWp.forget ?_ (sub_put (i := 0) rfl (sub_put (i := 1) rfl (sub_put (i := 4) rfl (sub_put (i := 10) rfl (sub_nil)))))
    refine AWp.ret ?_
    exact ⟨_, [], _, permNone, res_tmp rfl rfl, by rw [decide_eq_false (fun e => ht10 (by rw [e]))], rfl⟩
  refine AWp.skip ?_
  refine AWp.seq ?_
  refine AWp.seq ?_
  have hll : xs.length = ys.length := by simpa using ht10
  refine AWp.region ?_
  refine OpsW.pure rfl rfl (pureOp_assign rfl) ?_
  refine OpsW.nil ?_
  refine AWp.forget ?_ (sub_put (i := 0) rfl (sub_put (i := 1) rfl (sub_put (i := 4) rfl (sub_put (i := 5) rfl (sub_put (i := 10) rfl (sub_nil))))))
  refine AWp.block ?_
  refine AWp.forget ?_ (sub_put (i := 0) rfl (sub_put (i := 1) rfl (sub_put (i := 5) rfl (sub_nil))))
  refine AWp.loop (fun N m' T' L' => ∃ i : Nat, N = xs.length - i ∧ i ≤ xs.length ∧ xs.take i = ys.take i ∧ m' = m ∧ T' = put (put (put (tnil) 5 (iV i)) 1 (b)) 0 (a) ∧ L' = []) _ (⟨0, rfl, Nat.zero_le _, by simp, rfl, rfl, rfl⟩) ?_
  rintro _ m _ _ ⟨i, rfl, hi, heq, rfl, rfl, rfl⟩
  refine AWp.seq ?_
  refine AWp.seq ?_
  refine AWp.region ?_
  refine OpsW.pure rfl rfl (pureOp_move rfl) ?_
  refine OpsW.pure rfl rfl (pureOp_move rfl) ?_
  refine OpsW.pure rfl rfl (pureOp_len (n := xs.length) Try.underlying30 rfl (by assumption) (hC_length okx) (by decide)) ?_
  refine OpsW.pure rfl rfl (opN_lss rfl rfl) ?_
  refine OpsW.nil ?_
  refine AWp.forget ?_ (sub_put (i := 0) rfl (sub_put (i := 1) rfl (sub_put (i := 5) rfl (sub_put (i := 14) rfl (sub_nil)))))
  refine AWp.condP rfl (fun ht14 => ?_) (fun ht14 => ?_)
  refine AWp.skip ?_
  refine AWp.seq ?_
  refine AWp.block ?_
  refine AWp.seq ?_
  refine AWp.draw [(0, .pure), (1, .pure), (2, .pure), (3, .load), (4, .pure), (5, .pure), (6, .pure), (7, .load), (8, .pure)] rfl (by decide +kernel) (fun _ _ _ p h => AWp.perm h p.symm) ?_
  refine ⟨_, _, rfl, OpStep.pure rfl rfl (pureOp_move rfl), ?_⟩
  rintro _ _ ⟨rfl, rfl⟩ -
  refine ⟨_, _, rfl, OpStep.pure rfl rfl (pureOp_move rfl), ?_⟩
  rintro _ _ ⟨rfl, rfl⟩ -
  refine ⟨_, _, rfl, OpStep.pure rfl rfl (opN_indexSl (n := xs.length) Try.underlying30 Try.sizeOf25 rfl (by assumption) (hC_length okx) (by decide) rfl (by omega)), ?_⟩
  rintro _ _ ⟨rfl, rfl⟩ -
  refine ⟨_, _, rfl, OpStep.load rfl rfl (loadHash (hs := xs) (i := i) ag25 rfl (by first | exact Rd.ro (by assumption) | exact Rd.of_sl (by repeat (first | exact List.Mem.head _ | apply List.Mem.tail)) (by assumption)) okx (by omega)), ?_⟩
  rintro _ _ ⟨rfl, rfl⟩ -
  refine ⟨_, _, rfl, OpStep.pure rfl rfl (pureOp_move rfl), ?_⟩
  rintro _ _ ⟨rfl, rfl⟩ -
  refine ⟨_, _, rfl, OpStep.pure rfl rfl (pureOp_move rfl), ?_⟩
  rintro _ _ ⟨rfl, rfl⟩ -
  refine ⟨_, _, rfl, OpStep.pure rfl rfl (opN_indexSl (n := ys.length) Try.underlying30 Try.sizeOf25 rfl (by assumption) (hC_length oky) (by decide) rfl (by omega)), ?_⟩
  rintro _ _ ⟨rfl, rfl⟩ -
  refine ⟨_, _, rfl, OpStep.load rfl rfl (loadHash (hs := ys) (i := i) ag25 rfl (by first | exact Rd.ro (by assumption) | exact Rd.of_sl (by repeat (first | exact List.Mem.head _ | apply List.Mem.tail)) (by assumption)) oky (by omega)), ?_⟩
  rintro _ _ ⟨rfl, rfl⟩ -
  refine ⟨_, _, rfl, OpStep.pure rfl rfl (opB_neq by25 dpth rfl rfl (okx.getD (by omega)) (oky.getD (by omega))), ?_⟩
  rintro _ _ ⟨rfl, rfl⟩ -
  refine AWp.forget ?_ (sub_put (i := 0) rfl (sub_put (i := 1) rfl (sub_put (i := 5) rfl (sub_put (i := 14) rfl (sub_put (i := 25) rfl (sub_nil))))))
  refine AWp.condP rfl (fun ht25 => ?_) (fun ht25 => ?_)
  · skip
    refine AWp.seq ?_
    refine AWp.region ?_
    refine OpsW.pure rfl rfl (pureOp_assign rfl) ?_
    refine OpsW.nil ?_
    refine AWp.forget ?_ (sub_put (i := 0) rfl (sub_put (i := 1) rfl (sub_put (i := 4) rfl (sub_put (i := 5) rfl (sub_put (i := 14) rfl (sub_put (i := 25) rfl (sub_nil)))))))
    refine AWp.ret ?_
    exact ⟨_, [], _, permNone, res_tmp rfl rfl, by rw [decide_eq_false (fun e => ht25 (by rw [e]))], rfl⟩
  refine AWp.skip ?_
  refine AWp.region ?_
  refine OpsW.pure rfl rfl (pureOp_move rfl) ?_
  refine OpsW.pure rfl rfl (opN_add (b := 1) rfl rfl (by omega)) ?_
  refine OpsW.pure rfl rfl (pureOp_assign rfl) ?_
  refine OpsW.forget ?_ (sub_put (i := 0) rfl (sub_put (i := 1) rfl (sub_put (i := 5) rfl (sub_nil))))
  refine OpsW.keep (L' := []) (by repeat (first | exact Sel.nil | (apply Sel.cons; (repeat (first | exact Ext.here | apply Ext.there))))) ?_
  refine OpsW.nil ?_
  exact ⟨_, by omega, i + 1, rfl, by omega, by rw [take_hs (by omega), take_hs (by omega), heq, Decidable.not_not.1 ht25], rfl, rfl, rfl⟩
  obtain rfl : i = xs.length := by omega
  have hxy : xs = ys := by rw [List.take_of_length_le (Nat.le_refl _), List.take_of_length_le (by omega)] at heq; exact heq
  refine AWp.exit (exit_here ?_)
  refine AWp.seq ?_
  refine AWp.region ?_
  refine OpsW.pure rfl rfl (pureOp_assign rfl) ?_
  refine OpsW.nil ?_
  refine AWp.forget ?_ (sub_put (i := 0) rfl (sub_put (i := 1) rfl (sub_put (i := 4) rfl (sub_put (i := 5) rfl (sub_put (i := 14) rfl (sub_nil))))))
  refine AWp.ret ?_
  exact ⟨_, [], _, permNone, res_tmp rfl rfl, by rw [decide_eq_true hxy], rfl⟩

set_option maxRecDepth 20000 in
set_option maxHeartbeats 2000000 in
theorem path_c (v : Value) (ls : List (List UInt8)) (vs : List Value) (o k : Nat) (m : Mem) (hv : Rds m v ls vs) (hbd : ∀ i, (ls.getD i []).length ≤ 274877906944) (hbl : ls.length ≤ 274877906944) (hk : k < ls.length) (hob : o + ls.length ≤ 1099511627776) :
    Ctr Try.prog 30 [v, iV o, iV k] m [] (fun _ r L => slOk r 32 (hC (pathF k (leafO o ls))) ∧ L = [.sl r 32 (hC (pathF k (leafO o ls)))]) := by
  have ho := hv.rd.1
  have hrd := hv.rd
  have hvl := hv.len
  refine Ctr.intro Try.func30 rfl Try.ntmps30 (by simp) fun w0 => ?_
  refine AWp.forget ?_ (sub_put (i := 0) rfl (sub_put (i := 1) rfl (sub_put (i := 2) rfl (sub_nil))))
  refine AWp.seq ?_
  refine AWp.region ?_
  refine OpsW.pure rfl rfl (pureOp_assign rfl) ?_
  refine OpsW.nil ?_
  refine AWp.forget ?_ (sub_put (i := 0) rfl (sub_put (i := 1) rfl (sub_put (i := 2) rfl (sub_put (i := 6) rfl (sub_nil)))))
  refine AWp.seq ?_
  refine AWp.seq ?_
  refine AWp.region ?_
  refine OpsW.pure rfl rfl (pureOp_move rfl) ?_
  refine OpsW.pure rfl rfl (opN_len1 ls.length Try.underlying22 rfl (by assumption) hvl) ?_
  refine OpsW.pure rfl rfl (opN_eql (b := 1) rfl rfl) ?_
  refine OpsW.nil ?_
  refine AWp.forget ?_ (sub_put (i := 0) rfl (sub_put (i := 1) rfl (sub_put (i := 2) rfl (sub_put (i := 6) rfl (sub_put (i := 10) rfl (sub_nil))))))
  refine AWp.condP rfl (fun ht10 => ?_) (fun ht10 => ?_)
  · skip
    refine AWp.seq ?_
    refine AWp.nilChunk 32 ?_
    refine AWp.region ?_
    refine OpsW.pure rfl rfl (pureOp_assign rfl) ?_
    refine OpsW.nil ?_
    refine AWp.forget ?_ (sub_put (i := 0) rfl (sub_put (i := 1) rfl (sub_put (i := 2) rfl (sub_put (i := 6) rfl (sub_put (i := 10) rfl (sub_nil))))))
    refine AWp.ret ?_
    have hp1 : pathF k (leafO o ls) = [] := pathF_one (by rw [leafO_length]; omega)
    rw [hp1]
    exact ⟨_, [.sl (.slice none 0 0) 32 []], _, Sel.perm (by repeat (first | exact Sel.nil | (apply Sel.cons; (repeat (first | exact Ext.here | apply Ext.there))))), res_tmp rfl rfl, .inl ⟨rfl, rfl⟩, rfl⟩
  refine AWp.skip ?_
  refine AWp.seq ?_
  refine AWp.region ?_
  refine OpsW.pure rfl rfl (pureOp_move rfl) ?_
  refine OpsW.pure rfl rfl (opN_len1 ls.length Try.underlying22 rfl (by assumption) hvl) ?_
  refine OpsW.callA rfl rfl (callOp Try.call41 rfl) permNone (width_c ls.length _ (by omega) (by omega)) ?_
  rintro _ _ ⟨⟨p, rfl, hp1, hp2⟩, rfl⟩
  have hsp := pathF_split p k (leafO o ls) (by rw [leafO_length]; exact hp1) (by rw [leafO_length]; exact hp2) (by rw [leafO_length]; exact hk)
  refine OpsW.pure rfl rfl (pureOp_assign rfl) ?_
  refine OpsW.nil ?_
  refine AWp.forget ?_ (sub_put (i := 0) rfl (sub_put (i := 1) rfl (sub_put (i := 2) rfl (sub_put (i := 6) rfl (sub_put (i := 7) rfl (sub_put (i := 10) rfl (sub_nil)))))))
  refine AWp.seq ?_
  refine AWp.seq ?_
  refine AWp.region ?_
  refine OpsW.pure rfl rfl (pureOp_move rfl) ?_
  refine OpsW.pure rfl rfl (pureOp_move rfl) ?_
  refine OpsW.pure rfl rfl (opN_lss rfl rfl) ?_
  refine OpsW.nil ?_
  refine AWp.forget ?_ (sub_put (i := 0) rfl (sub_put (i := 1) rfl (sub_put (i := 2) rfl (sub_put (i := 6) rfl (sub_put (i := 7) rfl (sub_put (i := 10) rfl (sub_put (i := 16) rfl (sub_nil))))))))
  refine AWp.condP rfl (fun ht16 => ?_) (fun ht16 => ?_)
  · skip
    refine AWp.seq ?_
    refine AWp.draw [(0, .pure), (1, .pure), (2, .pure), (3, .pure), (4, .pure), (6, .pure), (7, .pure), (8, .pure), (9, .pure), (10, .pure), (11, .pure), (5, .call), (12, .call), (13, .alloc), (14, .wr), (15, .pure)] rfl (by decide +kernel) (fun _ _ _ p h => AWp.perm h p.symm) ?_
    refine ⟨_, _, rfl, OpStep.pure rfl rfl (pureOp_move rfl), ?_⟩
    rintro _ _ ⟨rfl, rfl⟩ -
    refine ⟨_, _, rfl, OpStep.pure rfl rfl (pureOp_move rfl), ?_⟩
    rintro _ _ ⟨rfl, rfl⟩ -
    refine ⟨_, _, rfl, OpStep.pure rfl rfl (pureOp_slice (n := ls.length) (0) (2 ^ p) Try.underlying22 Try.sizeOf38 rfl (by assumption) (by omega) (by decide) (.inl ⟨rfl, rfl⟩) (.inr ⟨_, _, _, rfl, rfl, rfl⟩) (by omega) (by omega)), ?_⟩
    rintro _ _ ⟨rfl, rfl⟩ -
    refine ⟨_, _, rfl, OpStep.pure rfl rfl (pureOp_move rfl), ?_⟩
    rintro _ _ ⟨rfl, rfl⟩ -
    refine ⟨_, _, rfl, OpStep.pure rfl rfl (pureOp_move rfl), ?_⟩
    rintro _ _ ⟨rfl, rfl⟩ -
    refine ⟨_, _, rfl, OpStep.pure rfl rfl (pureOp_move rfl), ?_⟩
    rintro _ _ ⟨rfl, rfl⟩ -
    refine ⟨_, _, rfl, OpStep.pure rfl rfl (pureOp_move rfl), ?_⟩
    rintro _ _ ⟨rfl, rfl⟩ -
    refine ⟨_, _, rfl, OpStep.pure rfl rfl (pureOp_slice (n := ls.length) (2 ^ p) (ls.length) Try.underlying22 Try.sizeOf38 rfl (by assumption) (by omega) (by decide) (.inr ⟨_, _, _, rfl, rfl, rfl⟩) (.inl ⟨rfl, rfl⟩) (by omega) (by omega)), ?_⟩
    rintro _ _ ⟨rfl, rfl⟩ -
    refine ⟨_, _, rfl, OpStep.pure rfl rfl (pureOp_move rfl), ?_⟩
    rintro _ _ ⟨rfl, rfl⟩ -
    refine ⟨_, _, rfl, OpStep.pure rfl rfl (pureOp_move rfl), ?_⟩
    rintro _ _ ⟨rfl, rfl⟩ -
    refine ⟨_, _, rfl, OpStep.pure rfl rfl (opN_add rfl rfl (by omega)), ?_⟩
    rintro _ _ ⟨rfl, rfl⟩ -
    refine ⟨_, _, rfl, OpStep.call rfl rfl (callOp Try.call30 rfl) (path_c (slc v 0 (2 ^ p) 1) (ls.take (2 ^ p)) (vs.take (2 ^ p)) o k _ (rds_take hv (by omega)).ro (bd_take hbd) (by rw [List.length_take]; omega) (by rw [List.length_take]; omega) (by rw [List.length_take]; omega)), ?_⟩
    rintro _ _ ⟨v22, _, ⟨hv22, rfl⟩, rfl, rfl⟩ -
    rw [← leafO_take] at hv22 ⊢
    have hpl : (pathF k ((leafO o ls).take (2 ^ p))).length ≤ ls.length := Nat.le_trans (pathF_bd (by rw [List.length_take, leafO_length]; omega)) (by rw [List.length_take, leafO_length]; omega)
    refine ⟨_, _, rfl, OpStep.call rfl rfl (callOp Try.call29 rfl) (top_c (slc v (2 ^ p) ls.length 1) (ls.drop (2 ^ p)) (vs.drop (2 ^ p)) (o + 2 ^ p) _ (rds_drop hv (by omega) rfl).ro (bd_drop hbd) (by rw [List.length_drop]; omega) (by rw [List.length_drop]; omega) (by rw [List.length_drop]; omega)), ?_⟩
    rintro _ _ ⟨_, _, ⟨rfl, rfl⟩, rfl, rfl⟩ -
    rw [← leafO_drop]
    have htt : (topF ((leafO o ls).drop (2 ^ p))).length = 32 := topF_len (Nat.le_refl _) ((leafO_ok o ls).drop _) (by rw [List.length_drop, leafO_length]; have := Nat.two_pow_pos p; omega)
    refine ⟨_, _, rfl, allocStep_buildSlice rfl rfl slt30 rfl rfl (fun v hv => by rw [List.mem_singleton.1 hv]; simpa [Value.cells] using htt) (by decide), ?_⟩
    rintro _ _ ⟨v30, _, ⟨hv30, hn30, rfl⟩, rfl, rfl⟩ -
    rw [flat_agg] at hv30 ⊢
    refine ⟨_, _, rfl, OpStep.wr rfl rfl (toWp (by repeat (first | exact Pos.here | apply Pos.there)) (lop_append (k := (pathF k ((leafO o ls).take (2 ^ p))).length) slt30 ni30 rfl rfl (hC_length (pathF_ok ((leafO_ok o ls).take _))) (src_rd (n := 1) (by first | exact Rd.ro (by assumption) | exact Rd.of_sl (by repeat (first | exact List.Mem.head _ | apply List.Mem.tail)) (by assumption)) (by simpa using htt) (by decide)) (by omega) (one_map (fun _ => rfl) _) (by decide) (by decide))), ?_⟩
    rintro _ _ ⟨v31, ⟨_, ⟨hv31, rfl⟩, rfl⟩, rfl⟩ -
    rw [if_pos ht16] at hsp
    rw [hC_snoc, ← hsp] at hv31 ⊢
    refine ⟨_, _, rfl, OpStep.pure rfl rfl (pureOp_assign rfl), ?_⟩
    rintro _ _ ⟨rfl, rfl⟩ -
    refine AWp.forget ?_ (sub_put (i := 0) rfl (sub_put (i := 1) rfl (sub_put (i := 2) rfl (sub_put (i := 6) rfl (sub_put (i := 7) rfl (sub_put (i := 10) rfl (sub_put (i := 16) rfl (sub_nil))))))))
    refine AWp.ret ?_
    exact ⟨_, [.sl v31 32 _], _, Sel.perm (by repeat (first | exact Sel.nil | (apply Sel.cons; (repeat (first | exact Ext.here | apply Ext.there))))), res_tmp rfl rfl, hv31, rfl⟩
  refine AWp.skip ?_
  refine AWp.seq ?_
  refine AWp.draw [(0, .pure), (1, .pure), (2, .pure), (3, .pure), (4, .pure), (5, .pure), (6, .pure), (7, .pure), (8, .pure), (10, .pure), (11, .pure), (12, .pure), (13, .pure), (9, .call), (14, .call), (15, .alloc), (16, .wr), (17, .pure)] rfl (by decide +kernel) (fun _ _ _ p h => AWp.perm h p.symm) ?_
  refine ⟨_, _, rfl, OpStep.pure rfl rfl (pureOp_move rfl), ?_⟩
  rintro _ _ ⟨rfl, rfl⟩ -
  refine ⟨_, _, rfl, OpStep.pure rfl rfl (pureOp_move rfl), ?_⟩
  rintro _ _ ⟨rfl, rfl⟩ -
  refine ⟨_, _, rfl, OpStep.pure rfl rfl (pureOp_slice (n := ls.length) (2 ^ p) (ls.length) Try.underlying22 Try.sizeOf38 rfl (by assumption) (by omega) (by decide) (.inr ⟨_, _, _, rfl, rfl, rfl⟩) (.inl ⟨rfl, rfl⟩) (by omega) (by omega)), ?_⟩
  rintro _ _ ⟨rfl, rfl⟩ -
  refine ⟨_, _, rfl, OpStep.pure rfl rfl (pureOp_move rfl), ?_⟩
  rintro _ _ ⟨rfl, rfl⟩ -
  refine ⟨_, _, rfl, OpStep.pure rfl rfl (pureOp_move rfl), ?_⟩
  rintro _ _ ⟨rfl, rfl⟩ -
  refine ⟨_, _, rfl, OpStep.pure rfl rfl (opN_add rfl rfl (by omega)), ?_⟩
  rintro _ _ ⟨rfl, rfl⟩ -
  refine ⟨_, _, rfl, OpStep.pure rfl rfl (pureOp_move rfl), ?_⟩
  rintro _ _ ⟨rfl, rfl⟩ -
  refine ⟨_, _, rfl, OpStep.pure rfl rfl (pureOp_move rfl), ?_⟩
  rintro _ _ ⟨rfl, rfl⟩ -
  refine ⟨_, _, rfl, OpStep.pure rfl rfl (opN_sub rfl rfl (by omega)), ?_⟩
  rintro _ _ ⟨rfl, rfl⟩ -
  refine ⟨_, _, rfl, OpStep.pure rfl rfl (pureOp_move rfl), ?_⟩
  rintro _ _ ⟨rfl, rfl⟩ -
  refine ⟨_, _, rfl, OpStep.pure rfl rfl (pureOp_move rfl), ?_⟩
  rintro _ _ ⟨rfl, rfl⟩ -
  refine ⟨_, _, rfl, OpStep.pure rfl rfl (pureOp_slice (n := ls.length) (0) (2 ^ p) Try.underlying22 Try.sizeOf38 rfl (by assumption) (by omega) (by decide) (.inl ⟨rfl, rfl⟩) (.inr ⟨_, _, _, rfl, rfl, rfl⟩) (by omega) (by omega)), ?_⟩
  rintro _ _ ⟨rfl, rfl⟩ -
  refine ⟨_, _, rfl, OpStep.pure rfl rfl (pureOp_move rfl), ?_⟩
  rintro _ _ ⟨rfl, rfl⟩ -
  refine ⟨_, _, rfl, OpStep.call rfl rfl (callOp Try.call30 rfl) (path_c (slc v (2 ^ p) ls.length 1) (ls.drop (2 ^ p)) (vs.drop (2 ^ p)) (o + 2 ^ p) (k - 2 ^ p) _ (rds_drop hv (by omega) rfl).ro (bd_drop hbd) (by rw [List.length_drop]; omega) (by rw [List.length_drop]; omega) (by rw [List.length_drop]; omega)), ?_⟩
  rintro _ _ ⟨v41, _, ⟨hv41, rfl⟩, rfl, rfl⟩ -
  rw [← leafO_drop] at hv41 ⊢
  have hpl : (pathF (k - 2 ^ p) ((leafO o ls).drop (2 ^ p))).length ≤ ls.length := Nat.le_trans (pathF_bd (by rw [List.length_drop, leafO_length]; omega)) (by rw [List.length_drop, leafO_length]; omega)
  refine ⟨_, _, rfl, OpStep.call rfl rfl (callOp Try.call29 rfl) (top_c (slc v 0 (2 ^ p) 1) (ls.take (2 ^ p)) (vs.take (2 ^ p)) o _ (rds_take hv (by omega)).ro (bd_take hbd) (by rw [List.length_take]; omega) (by rw [List.length_take]; have := Nat.two_pow_pos p; omega) (by rw [List.length_take]; omega)), ?_⟩
  rintro _ _ ⟨_, _, ⟨rfl, rfl⟩, rfl, rfl⟩ -
  rw [← leafO_take]
  have htt : (topF ((leafO o ls).take (2 ^ p))).length = 32 := topF_len (Nat.le_refl _) ((leafO_ok o ls).take _) (by rw [List.length_take, leafO_length]; have := Nat.two_pow_pos p; omega)
  refine ⟨_, _, rfl, allocStep_buildSlice rfl rfl slt30 rfl rfl (fun v hv => by rw [List.mem_singleton.1 hv]; simpa [Value.cells] using htt) (by decide), ?_⟩
  rintro _ _ ⟨v47, _, ⟨hv47, hn47, rfl⟩, rfl, rfl⟩ -
  rw [flat_agg] at hv47 ⊢
  refine ⟨_, _, rfl, OpStep.wr rfl rfl (toWp (by repeat (first | exact Pos.here | apply Pos.there)) (lop_append (k := (pathF (k - 2 ^ p) ((leafO o ls).drop (2 ^ p))).length) slt30 ni30 rfl rfl (hC_length (pathF_ok ((leafO_ok o ls).drop _))) (src_rd (n := 1) (by first | exact Rd.ro (by assumption) | exact Rd.of_sl (by repeat (first | exact List.Mem.head _ | apply List.Mem.tail)) (by assumption)) (by simpa using htt) (by decide)) (by omega) (one_map (fun _ => rfl) _) (by decide) (by decide))), ?_⟩
  rintro _ _ ⟨v48, ⟨_, ⟨hv48, rfl⟩, rfl⟩, rfl⟩ -
  rw [if_neg ht16] at hsp
  rw [hC_snoc, ← hsp] at hv48 ⊢
  refine ⟨_, _, rfl, OpStep.pure rfl rfl (pureOp_assign rfl), ?_⟩
  rintro _ _ ⟨rfl, rfl⟩ -
  refine AWp.forget ?_ (sub_put (i := 0) rfl (sub_put (i := 1) rfl (sub_put (i := 2) rfl (sub_put (i := 6) rfl (sub_put (i := 7) rfl (sub_put (i := 10) rfl (sub_put (i := 16) rfl (sub_nil))))))))
  refine AWp.ret ?_
  exact ⟨_, [.sl v48 32 _], _, Sel.perm (by repeat (first | exact Sel.nil | (apply Sel.cons; (repeat (first | exact Ext.here | apply Ext.there))))), res_tmp rfl rfl, hv48, rfl⟩
termination_by ls.length
decreasing_by all_goals (simp only [List.length_take, List.length_drop]; have := Nat.two_pow_pos p; omega)

set_option maxRecDepth 20000 in
set_option maxHeartbeats 1000000 in
theorem pathTop_c (v : Value) (ls : List (List UInt8)) (vs : List Value) (k : Nat) (m : Mem) (hv : Rds m v ls vs) (hbd : ∀ i, (ls.getD i []).length ≤ 274877906944) (hbl : ls.length ≤ 274877906944) (hk : k < ls.length) :
    Ctr Try.prog 13 [v, iV k] m [] (fun _ r L => slOk r 32 (hC (pathF k (leafHs ls ls.length))) ∧ L = [.sl r 32 (hC (pathF k (leafHs ls ls.length)))]) := by
  have ho := hv.rd.1
  have hrd := hv.rd
  have hvl := hv.len
  refine Ctr.intro Try.func13 rfl Try.ntmps13 (by simp) fun w0 => ?_
  refine AWp.forget ?_ (sub_put (i := 0) rfl (sub_put (i := 1) rfl (sub_nil)))
  refine AWp.seq ?_
  refine AWp.region ?_
  refine OpsW.pure rfl rfl (pureOp_assign rfl) ?_
  refine OpsW.nil ?_
  refine AWp.forget ?_ (sub_put (i := 0) rfl (sub_put (i := 1) rfl (sub_put (i := 4) rfl (sub_nil))))
  refine AWp.seq ?_
  refine AWp.region ?_
  refine OpsW.pure rfl rfl (pureOp_move rfl) ?_
  refine OpsW.pure rfl rfl (pureOp_move rfl) ?_
  refine OpsW.callA rfl rfl (callOp Try.call30 rfl) permNone (path_c v ls vs 0 k _ hv.ro hbd hbl hk (by omega)) ?_
  rintro v7 _ ⟨hv7, rfl⟩
  rw [leafO_zero] at hv7 ⊢
  refine OpsW.pure rfl rfl (pureOp_assign rfl) ?_
  refine OpsW.nil ?_
  refine AWp.forget ?_ (sub_put (i := 0) rfl (sub_put (i := 1) rfl (sub_put (i := 4) rfl (sub_nil))))
  refine AWp.ret ?_
  exact ⟨_, [.sl v7 32 _], _, Sel.perm (by repeat (first | exact Sel.nil | (apply Sel.cons; (repeat (first | exact Ext.here | apply Ext.there))))), res_tmp rfl rfl, hv7, rfl⟩

set_option maxRecDepth 20000 in
set_option maxHeartbeats 1000000 in
theorem depth_c (n : Int) (m : Mem) (hn : n ≤ 1099511627776) :
    Ctr Try.prog 17 [.int .i64 n] m [] (fun _ r L => (∃ d, r = iV d ∧ IsLog n d) ∧ L = []) := by
  refine Ctr.intro Try.func17 rfl Try.ntmps17 (by simp) fun w0 => ?_
  refine AWp.forget ?_ (sub_put (i := 0) rfl (sub_nil))
  refine AWp.seq ?_
  refine AWp.region ?_
  refine OpsW.pure rfl rfl (pureOp_assign rfl) ?_
  refine OpsW.nil ?_
  refine AWp.forget ?_ (sub_put (i := 0) rfl (sub_put (i := 2) rfl (sub_nil)))
  refine AWp.seq ?_
  refine AWp.region ?_
  refine OpsW.pure rfl rfl (pureOp_assign rfl) ?_
  refine OpsW.nil ?_
  refine AWp.forget ?_ (sub_put (i := 0) rfl (sub_put (i := 2) rfl (sub_put (i := 3) rfl (sub_nil))))
  refine AWp.seq ?_
  refine AWp.seq ?_
  refine AWp.region ?_
  refine OpsW.pure rfl rfl (pureOp_move rfl) ?_
  refine OpsW.nil ?_
  refine AWp.forget ?_ (sub_put (i := 0) rfl (sub_put (i := 2) rfl (sub_put (i := 3) rfl (sub_put (i := 4) rfl (sub_nil)))))
  refine AWp.block ?_
  refine AWp.forget ?_ (sub_put (i := 0) rfl (sub_put (i := 3) rfl (sub_put (i := 4) rfl (sub_nil))))
  refine AWp.loop (fun N m' T' L' => ∃ (x : Int) (j : Nat), N = 64 - j ∧ j ≤ 40 ∧ x ≤ ((2 ^ (40 - j) : Nat) : Int) ∧ (∀ d, IsLog x d → IsLog n (j + d)) ∧ m' = m ∧ T' = put (put (put (tnil) 4 (iV j)) 3 (iV j)) 0 (.int .i64 x) ∧ L' = []) _ (⟨n, 0, rfl, by omega, by simpa using hn, fun d h => by rwa [Nat.zero_add], rfl, rfl, rfl⟩) ?_
  rintro _ m _ _ ⟨x, j, rfl, hj, hx, hlog, rfl, rfl, rfl⟩
  refine AWp.seq ?_
  refine AWp.region ?_
  refine OpsW.pure rfl rfl (opN_lss (b := 64) rfl rfl) ?_
  refine OpsW.nil ?_
  refine AWp.forget ?_ (sub_put (i := 0) rfl (sub_put (i := 3) rfl (sub_put (i := 4) rfl (sub_put (i := 5) rfl (sub_nil)))))
  refine AWp.seq ?_
  refine AWp.cond_true (by show some (Value.bool (decide _)) = _; rw [decide_eq_true (by omega)]) ?_
  refine AWp.skip ?_
  refine AWp.seq ?_
  refine AWp.block ?_
  refine AWp.seq ?_
  refine AWp.seq ?_
  refine AWp.region ?_
  refine OpsW.pure rfl rfl (pureOp_move rfl) ?_
  refine OpsW.pure rfl rfl (pureOp_leq rfl rfl) ?_
  refine OpsW.nil ?_
  refine AWp.forget ?_ (sub_put (i := 0) rfl (sub_put (i := 3) rfl (sub_put (i := 4) rfl (sub_put (i := 5) rfl (sub_put (i := 7) rfl (sub_nil))))))
  refine AWp.condP rfl (fun ht7 => ?_) (fun ht7 => ?_)
  rotate_left
  refine AWp.skip ?_
  obtain ⟨q, rfl⟩ : ∃ q : Nat, x = (q : Int) := ⟨x.toNat, by omega⟩
  have hj40 : j < 40 := by
    rcases Nat.lt_or_ge j 40 with h | h
    · exact h
    · have : 40 - j = 0 := by omega
      rw [this] at hx; simp at hx; omega
  have e2 : 2 ^ (40 - j) = 2 * 2 ^ (40 - (j + 1)) := by rw [show 40 - j = (40 - (j + 1)) + 1 by omega, Nat.pow_succ, Nat.mul_comm]
  have hq40 : 2 ^ (40 - j) ≤ 2 ^ 40 := Nat.pow_le_pow_right (by decide) (by omega)
  have hx2 : (((q - 1) / 2 + 1 : Nat) : Int) ≤ ((2 ^ (40 - (j + 1)) : Nat) : Int) := by rw [e2] at hx; omega
  refine AWp.region ?_
  refine OpsW.pure rfl rfl (pureOp_move rfl) ?_
  refine OpsW.pure rfl rfl (opN_sub (b := 1) rfl rfl (by omega)) ?_
  refine OpsW.pure rfl rfl (opN_quo (b := 2) rfl rfl (by omega) (by omega)) ?_
  refine OpsW.pure rfl rfl (opN_add (b := 1) rfl rfl (by omega)) ?_
  refine OpsW.pure rfl rfl (pureOp_move rfl) ?_
  refine OpsW.pure rfl rfl (opN_add (b := 1) rfl rfl (by omega)) ?_
  refine OpsW.pure rfl rfl (pureOp_assign rfl) ?_
  refine OpsW.pure rfl rfl (pureOp_assign rfl) ?_
  refine OpsW.nil ?_
  refine AWp.forget ?_ (sub_put (i := 0) rfl (sub_put (i := 3) rfl (sub_put (i := 4) rfl (sub_put (i := 5) rfl (sub_put (i := 7) rfl (sub_nil))))))
  refine AWp.region ?_
  refine OpsW.pure rfl rfl (opN_add (b := 1) rfl rfl (by omega)) ?_
  refine OpsW.pure rfl rfl (pureOp_move rfl) ?_
  refine OpsW.forget ?_ (sub_put (i := 0) rfl (sub_put (i := 3) rfl (sub_put (i := 4) rfl (sub_nil))))
  refine OpsW.keep (L' := []) (by repeat (first | exact Sel.nil | (apply Sel.cons; (repeat (first | exact Ext.here | apply Ext.there))))) ?_
  refine OpsW.nil ?_
  exact ⟨_, by omega, _, j + 1, rfl, by omega, hx2, fun d h => by rw [Nat.add_assoc, Nat.add_comm 1 d]; exact hlog _ (IsLog.half (by omega) h), rfl, rfl, rfl⟩
  refine AWp.exit (exit_on rfl (exit_here ?_))
  refine AWp.seq ?_
  refine AWp.region ?_
  refine OpsW.pure rfl rfl (pureOp_move rfl) ?_
  refine OpsW.pure rfl rfl (pureOp_assign rfl) ?_
  refine OpsW.nil ?_
  refine AWp.forget ?_ (sub_put (i := 0) rfl (sub_put (i := 2) rfl (sub_put (i := 3) rfl (sub_put (i := 4) rfl (sub_put (i := 5) rfl (sub_put (i := 7) rfl (sub_nil)))))))
  refine AWp.ret ?_
  exact ⟨_, [], _, permNone, res_tmp rfl rfl, ⟨j, rfl, by have := hlog 0 ⟨by simpa using ht7, fun e he => by omega⟩; simpa using this⟩, rfl⟩

set_option maxRecDepth 20000 in
set_option maxHeartbeats 1000000 in
theorem rows_c (n : Int) (m : Mem) (hn : n ≤ 1099511627776) :
    Ctr Try.prog 18 [.int .i64 n] m [] (fun _ r L => (∃ d, r = iV d ∧ IsLog n d) ∧ L = []) := by
  refine Ctr.intro Try.func18 rfl Try.ntmps18 (by simp) fun w0 => ?_
  refine AWp.forget ?_ (sub_put (i := 0) rfl (sub_nil))
  refine AWp.seq ?_
  refine AWp.region ?_
  refine OpsW.pure rfl rfl (pureOp_assign rfl) ?_
  refine OpsW.nil ?_
  refine AWp.forget ?_ (sub_put (i := 0) rfl (sub_put (i := 2) rfl (sub_nil)))
  refine AWp.seq ?_
  refine AWp.region ?_
  refine OpsW.pure rfl rfl (pureOp_assign rfl) ?_
  refine OpsW.nil ?_
  refine AWp.forget ?_ (sub_put (i := 0) rfl (sub_put (i := 2) rfl (sub_put (i := 3) rfl (sub_nil))))
  refine AWp.seq ?_
  refine AWp.region ?_
  refine OpsW.pure rfl rfl (pureOp_assign rfl) ?_
  refine OpsW.nil ?_
  refine AWp.forget ?_ (sub_put (i := 0) rfl (sub_put (i := 2) rfl (sub_put (i := 3) rfl (sub_put (i := 4) rfl (sub_nil)))))
  refine AWp.seq ?_
  refine AWp.block ?_
  refine AWp.forget ?_ (sub_put (i := 0) rfl (sub_put (i := 3) rfl (sub_put (i := 4) rfl (sub_nil))))
  refine AWp.loop (fun N m' T' L' => ∃ d : Nat, N = n.toNat - 2 ^ d ∧ (∀ e, e < d → ((2 ^ e : Nat) : Int) < n) ∧ m' = m ∧ T' = put (put (put (tnil) 4 (iV (2 ^ d))) 3 (iV d)) 0 (.int .i64 n) ∧ L' = []) _ (⟨0, rfl, fun e he => by omega, rfl, rfl, rfl⟩) ?_
  rintro _ m _ _ ⟨d, rfl, hd, rfl, rfl, rfl⟩
  have e2 : 2 ^ (d + 1) = 2 * 2 ^ d := by rw [Nat.pow_succ, Nat.mul_comm]
  have hself : d < 2 ^ d := Nat.lt_two_pow_self
  refine AWp.seq ?_
  refine AWp.seq ?_
  refine AWp.region ?_
  refine OpsW.pure rfl rfl (pureOp_move rfl) ?_
  refine OpsW.pure rfl rfl (pureOp_move rfl) ?_
  refine OpsW.pure rfl rfl (pureOp_lss rfl rfl) ?_
  refine OpsW.nil ?_
  refine AWp.forget ?_ (sub_put (i := 0) rfl (sub_put (i := 3) rfl (sub_put (i := 4) rfl (sub_put (i := 7) rfl (sub_nil)))))
  refine AWp.condP rfl (fun ht7 => ?_) (fun ht7 => ?_)
  refine AWp.skip ?_
  refine AWp.block ?_
  refine AWp.seq ?_
  refine AWp.region ?_
  refine OpsW.pure rfl rfl (pureOp_move rfl) ?_
  refine OpsW.pure rfl rfl (opN_mul (a := 2) rfl rfl (by omega)) ?_
  refine OpsW.pure rfl rfl (pureOp_assign rfl) ?_
  refine OpsW.nil ?_
  refine AWp.forget ?_ (sub_put (i := 0) rfl (sub_put (i := 3) rfl (sub_put (i := 4) rfl (sub_put (i := 7) rfl (sub_nil)))))
  refine AWp.region ?_
  refine OpsW.pure rfl rfl (pureOp_move rfl) ?_
  refine OpsW.pure rfl rfl (opN_add (b := 1) rfl rfl (by omega)) ?_
  refine OpsW.pure rfl rfl (pureOp_assign rfl) ?_
  refine OpsW.forget ?_ (sub_put (i := 0) rfl (sub_put (i := 3) rfl (sub_put (i := 4) rfl (sub_nil))))
  refine OpsW.keep (L' := []) (by repeat (first | exact Sel.nil | (apply Sel.cons; (repeat (first | exact Ext.here | apply Ext.there))))) ?_
  refine OpsW.nil ?_
  exact ⟨_, by rw [e2]; omega, d + 1, rfl, fun e he => (by rcases Nat.lt_or_ge e d with h | h; exact hd e h; have : e = d := (by omega); rw [this]; exact ht7), rfl, by rw [e2], rfl⟩
  refine AWp.exit (exit_here ?_)
  refine AWp.seq ?_
  refine AWp.region ?_
  refine OpsW.pure rfl rfl (pureOp_move rfl) ?_
  refine OpsW.pure rfl rfl (pureOp_assign rfl) ?_
  refine OpsW.nil ?_
  refine AWp.forget ?_ (sub_put (i := 0) rfl (sub_put (i := 2) rfl (sub_put (i := 3) rfl (sub_put (i := 4) rfl (sub_put (i := 7) rfl (sub_nil))))))
  refine AWp.ret ?_
  exact ⟨_, [], _, permNone, res_tmp rfl rfl, ⟨d, rfl, by omega, hd⟩, rfl⟩

set_option maxRecDepth 20000 in
set_option maxHeartbeats 1000000 in
theorem light_c (v : Value) (ls : List (List UInt8)) (vs : List Value) (m : Mem) (hv : Rds m v ls vs) :
    Ctr Try.prog 6 [v] m [] (fun _ r L => (∃ b, r = .bool b ∧ (b = true → lightP ls)) ∧ L = []) := by
  have ho := hv.rd.1
  have hrd := hv.rd
  have hvl := hv.len
  refine Ctr.intro Try.func6 rfl Try.ntmps6 (by simp) fun w0 => ?_
  refine AWp.forget ?_ (sub_put (i := 0) rfl (sub_nil))
  refine AWp.seq ?_
  refine AWp.region ?_
  refine OpsW.pure rfl rfl (pureOp_assign rfl) ?_
  refine OpsW.nil ?_
  refine AWp.forget ?_ (sub_put (i := 0) rfl (sub_put (i := 2) rfl (sub_nil)))
  refine AWp.seq ?_
  refine AWp.seq ?_
  refine AWp.region ?_
  refine OpsW.pure rfl rfl (pureOp_move rfl) ?_
  refine OpsW.pure rfl rfl (opN_len1 ls.length Try.underlying22 rfl (by assumption) hvl) ?_
  refine OpsW.pure rfl rfl (opN_gtr (b := 40) rfl rfl) ?_
  refine OpsW.nil ?_
  refine AWp.forget ?_ (sub_put (i := 0) rfl (sub_put (i := 2) rfl (sub_put (i := 6) rfl (sub_nil))))
  refine AWp.condP rfl (fun ht6 => ?_) (fun ht6 => ?_)
  · skip
    refine AWp.seq ?_
    refine AWp.region ?_
    refine OpsW.pure rfl rfl (pureOp_assign rfl) ?_
    refine OpsW.nil ?_
    refine AWp.forget ?_ (sub_put (i := 0) rfl (sub_put (i := 2) rfl (sub_put (i := 6) rfl (sub_nil))))
    refine AWp.ret ?_
    exact ⟨_, [], _, permNone, res_tmp rfl rfl, ⟨false, rfl, fun h => by cases h⟩, rfl⟩
  refine AWp.skip ?_
  refine AWp.seq ?_
  refine AWp.seq ?_
  refine AWp.region ?_
  refine OpsW.pure rfl rfl (pureOp_assign rfl) ?_
  refine OpsW.nil ?_
  refine AWp.forget ?_ (sub_put (i := 0) rfl (sub_put (i := 2) rfl (sub_put (i := 3) rfl (sub_put (i := 6) rfl (sub_nil)))))
  refine AWp.block ?_
  refine AWp.forget ?_ (sub_put (i := 0) rfl (sub_put (i := 3) rfl (sub_nil)))
  refine AWp.loop (fun N m' T' L' => ∃ j : Nat, N = ls.length - j ∧ j ≤ ls.length ∧ (∀ i, i < j → (ls.getD i []).length ≤ 100) ∧ m' = m ∧ T' = put (put (tnil) 3 (iV j)) 0 (v) ∧ L' = []) _ (⟨0, rfl, Nat.zero_le _, fun i hi => by omega, rfl, rfl, rfl⟩) ?_
  rintro _ m _ _ ⟨j, rfl, hj, hall, rfl, rfl, rfl⟩
  refine AWp.seq ?_
  refine AWp.seq ?_
  refine AWp.region ?_
  refine OpsW.pure rfl rfl (pureOp_move rfl) ?_
  refine OpsW.pure rfl rfl (pureOp_move rfl) ?_
  refine OpsW.pure rfl rfl (opN_len1 ls.length Try.underlying22 rfl (by assumption) hvl) ?_
  refine OpsW.pure rfl rfl (opN_lss rfl rfl) ?_
  refine OpsW.nil ?_
  refine AWp.forget ?_ (sub_put (i := 0) rfl (sub_put (i := 3) rfl (sub_put (i := 10) rfl (sub_nil))))
  refine AWp.condP rfl (fun ht10 => ?_) (fun ht10 => ?_)
  refine AWp.skip ?_
  refine AWp.seq ?_
  refine AWp.block ?_
  refine AWp.seq ?_
  refine AWp.region ?_
  refine OpsW.pure rfl rfl (pureOp_move rfl) ?_
  refine OpsW.pure rfl rfl (pureOp_move rfl) ?_
  refine OpsW.pure rfl rfl (opN_indexSl1 Try.underlying22 Try.sizeOf38 rfl (by assumption) rfl (by omega)) ?_
  refine OpsW.load rfl rfl (loadOp_elem (u := vs.getD j undef) sc38 rfl (by first | exact Rd.ro (by assumption) | exact Rd.of_sl (by repeat (first | exact List.Mem.head _ | apply List.Mem.tail)) (by assumption)) (get_D (by omega))) ?_
  have hpo := (hv.part j (by omega)).1
  refine OpsW.pure rfl rfl (opN_len1 (ls.getD j []).length Try.underlying38 rfl (by assumption) (by rw [List.length_map])) ?_
  refine OpsW.pure rfl rfl (opN_gtr (b := 100) rfl rfl) ?_
  refine OpsW.nil ?_
  refine AWp.forget ?_ (sub_put (i := 0) rfl (sub_put (i := 3) rfl (sub_put (i := 10) rfl (sub_put (i := 18) rfl (sub_nil)))))
  refine AWp.condP rfl (fun ht18 => ?_) (fun ht18 => ?_)
  · skip
    refine AWp.seq ?_
    refine AWp.region ?_
    refine OpsW.pure rfl rfl (pureOp_assign rfl) ?_
    refine OpsW.nil ?_
    refine AWp.forget ?_ (sub_put (i := 0) rfl (sub_put (i := 2) rfl (sub_put (i := 3) rfl (sub_put (i := 10) rfl (sub_put (i := 18) rfl (sub_nil))))))
    refine AWp.ret ?_
    exact ⟨_, [], _, permNone, res_tmp rfl rfl, ⟨false, rfl, fun h => by cases h⟩, rfl⟩
  refine AWp.skip ?_
  refine AWp.region ?_
  refine OpsW.pure rfl rfl (pureOp_move rfl) ?_
  refine OpsW.pure rfl rfl (opN_add (b := 1) rfl rfl (by omega)) ?_
  refine OpsW.pure rfl rfl (pureOp_assign rfl) ?_
  refine OpsW.forget ?_ (sub_put (i := 0) rfl (sub_put (i := 3) rfl (sub_nil)))
  refine OpsW.keep (L' := []) (by repeat (first | exact Sel.nil | (apply Sel.cons; (repeat (first | exact Ext.here | apply Ext.there))))) ?_
  refine OpsW.nil ?_
  exact ⟨_, by omega, j + 1, rfl, by omega, fun i hi => (by rcases Nat.lt_or_ge i j with h | h; exact hall i h; have : i = j := (by omega); rw [this]; omega), rfl, rfl, rfl⟩
  refine AWp.exit (exit_here ?_)
  refine AWp.seq ?_
  refine AWp.region ?_
  refine OpsW.pure rfl rfl (pureOp_assign rfl) ?_
  refine OpsW.nil ?_
  refine AWp.forget ?_ (sub_put (i := 0) rfl (sub_put (i := 2) rfl (sub_put (i := 3) rfl (sub_put (i := 10) rfl (sub_nil)))))
  refine AWp.ret ?_
  exact ⟨_, [], _, permNone, res_tmp rfl rfl, ⟨true, rfl, fun _ => ⟨by omega, fun i => by rcases Nat.lt_or_ge i j with h | h; exact hall i h; rw [List.getD_eq_getElem?_getD, List.getElem?_eq_none (by omega)]; simp⟩⟩, rfl⟩

end Go.Proofs.Ytbhjaoedlggbbaa.Sep
