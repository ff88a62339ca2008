/- The walks of the package ref31: the tree from the top. -/
import Derived.Test.YtbhjaoedlggbbaaTreeE
import Derived.Test.YtbhjaoedlggbbaaTree2
import Derived.Test.YtbhjaoedlggbbaaProg
namespace Go.Proofs.Ytbhjaoedlggbbaa.Sep
open Go Go.RowKit
set_option linter.unusedVariables false
set_option linter.unusedSimpArgs false



set_option maxRecDepth 20000 in
set_option maxHeartbeats 1000000 in
theorem width_c (n : Nat) (m : Mem) (hn : 2 ≤ n) (hb : n ≤ 1099511627776) :
    Ctr Try.prog 41 [iV n] m [] (fun _ r L => (∃ p, r = iV (2 ^ p) ∧ 2 ^ p < n ∧ n ≤ 2 ^ (p + 1)) ∧ L = []) := by
  refine Ctr.intro Try.func41 rfl Try.ntmps41 (by simp) fun w0 => ?_
  refine AWp.forget ?_ (sub_put (i := 0) rfl (sub_nil))
  refine AWp.seq ?_
  refine AWp.region ?_
  refine OpsW.pure rfl rfl (pureOp_assign rfl) ?_
  refine OpsW.nil ?_
  refine AWp.forget ?_ (sub_put (i := 0) rfl (sub_put (i := 2) rfl (sub_nil)))
  refine AWp.seq ?_
  refine AWp.region ?_
  refine OpsW.pure rfl rfl (pureOp_assign rfl) ?_
  refine OpsW.nil ?_
  refine AWp.forget ?_ (sub_put (i := 0) rfl (sub_put (i := 2) rfl (sub_put (i := 3) rfl (sub_nil))))
  refine AWp.seq ?_
  refine AWp.block ?_
  refine AWp.forget ?_ (sub_put (i := 0) rfl (sub_put (i := 3) rfl (sub_nil)))
  refine AWp.loop (fun N m' T' L' => ∃ p : Nat, N = n - 2 ^ p ∧ 2 ^ p < n ∧ m' = m ∧ T' = put (put (tnil) 3 (iV (2 ^ p))) 0 (iV n) ∧ L' = []) _ (⟨0, rfl, by simp; omega, rfl, rfl, rfl⟩) ?_
  rintro _ m _ _ ⟨p, rfl, hp, rfl, rfl, rfl⟩
  have e2 : 2 ^ (p + 1) = 2 * 2 ^ p := by rw [Nat.pow_succ, Nat.mul_comm]
  have hpos : 0 < 2 ^ p := Nat.two_pow_pos p
  refine AWp.seq ?_
  refine AWp.seq ?_
  refine AWp.region ?_
  refine OpsW.pure rfl rfl (pureOp_move rfl) ?_
  refine OpsW.pure rfl rfl (opN_mul (a := 2) rfl rfl (by omega)) ?_
  refine OpsW.pure rfl rfl (pureOp_move rfl) ?_
  refine OpsW.pure rfl rfl (opN_lss rfl rfl) ?_
  refine OpsW.nil ?_
  refine AWp.forget ?_ (sub_put (i := 0) rfl (sub_put (i := 3) rfl (sub_put (i := 7) rfl (sub_nil))))
  refine AWp.condP rfl (fun ht7 => ?_) (fun ht7 => ?_)
  refine AWp.skip ?_
  refine AWp.block ?_
  refine AWp.region ?_
  refine OpsW.pure rfl rfl (pureOp_move rfl) ?_
  refine OpsW.pure rfl rfl (opN_mul (a := 2) rfl rfl (by omega)) ?_
  refine OpsW.pure rfl rfl (pureOp_assign rfl) ?_
  refine OpsW.forget ?_ (sub_put (i := 0) rfl (sub_put (i := 3) rfl (sub_nil)))
  refine OpsW.keep (L' := []) (by repeat (first | exact Sel.nil | (apply Sel.cons; (repeat (first | exact Ext.here | apply Ext.there))))) ?_
  refine OpsW.nil ?_
  exact ⟨_, by rw [e2]; omega, p + 1, rfl, by omega, rfl, by rw [e2], rfl⟩
  refine AWp.exit (exit_here ?_)
  refine AWp.seq ?_
  refine AWp.region ?_
  refine OpsW.pure rfl rfl (pureOp_move rfl) ?_
  refine OpsW.pure rfl rfl (pureOp_assign rfl) ?_
  refine OpsW.nil ?_
  refine AWp.forget ?_ (sub_put (i := 0) rfl (sub_put (i := 2) rfl (sub_put (i := 3) rfl (sub_put (i := 7) rfl (sub_nil)))))
  refine AWp.ret ?_
  exact ⟨_, [], _, permNone, res_tmp rfl rfl, ⟨p, rfl, hp, by omega⟩, rfl⟩

set_option maxRecDepth 20000 in
set_option maxHeartbeats 2000000 in
theorem top_c (v : Value) (ls : List (List UInt8)) (vs : List Value) (o : Nat) (m : Mem) (hv : Rds m v ls vs) (hbd : ∀ i, (ls.getD i []).length ≤ 274877906944) (hbl : ls.length ≤ 274877906944) (h0 : ls.length ≠ 0) (hob : o + ls.length ≤ 1099511627776) :
    Ctr Try.prog 29 [v, iV o] m [] (fun _ r L => r = .agg ((topF (leafO o ls)).map bV).toArray ∧ L = []) := by
  have ho := hv.rd.1
  have hrd := hv.rd
  have hvl := hv.len
  refine Ctr.intro Try.func29 rfl Try.ntmps29 (by simp) fun w0 => ?_
  refine AWp.forget ?_ (sub_put (i := 0) rfl (sub_put (i := 1) rfl (sub_nil)))
  refine AWp.seq ?_
  refine AWp.region ?_
  refine OpsW.alloc rfl rfl (allocOp_alloc zt25) ?_
  rintro _ _ ⟨b4, rfl, rfl⟩
  refine OpsW.nil ?_
  refine AWp.forget ?_ (sub_put (i := 0) rfl (sub_put (i := 1) rfl (sub_put (i := 4) rfl (sub_nil))))
  refine AWp.seq ?_
  refine AWp.seq ?_
  refine AWp.region ?_
  refine OpsW.pure rfl rfl (pureOp_move rfl) ?_
  refine OpsW.pure rfl rfl (opN_len1 ls.length Try.underlying22 rfl (by assumption) hvl) ?_
  refine OpsW.pure rfl rfl (opN_eql (b := 1) rfl rfl) ?_
  refine OpsW.nil ?_
  refine AWp.forget ?_ (sub_put (i := 0) rfl (sub_put (i := 1) rfl (sub_put (i := 4) rfl (sub_put (i := 8) rfl (sub_nil)))))
  refine AWp.condP rfl (fun ht8 => ?_) (fun ht8 => ?_)
  · skip
    refine AWp.seq ?_
    refine AWp.region ?_
    refine OpsW.pure rfl rfl (pureOp_move rfl) ?_
    refine OpsW.pure rfl rfl (pureOp_move rfl) ?_
    refine OpsW.pure rfl rfl (opN_indexSl1 (i := 0) Try.underlying22 Try.sizeOf38 rfl (by assumption) rfl (by omega)) ?_
    refine OpsW.load rfl rfl (loadOp_elem (u := vs.getD 0 undef) sc38 rfl (by first | exact Rd.ro (by assumption) | exact Rd.of_sl (by repeat (first | exact List.Mem.head _ | apply List.Mem.tail)) (by assumption)) (get_D (by omega))) ?_
    refine OpsW.callA rfl rfl (callOp Try.call16 rfl) permNone (leafText_c o _ (ls.getD 0 []) _ (by omega) (hv.part 0 (by omega)).ro (by have := hbd 0; omega)) ?_
    rintro v13 _ ⟨hv13, rfl⟩
    refine OpsW.callA rfl rfl (callOp Try.call15 rfl) permNone (sum03_c v13 (leafText o (ls.getD 0 [])) _ (Rd.of_sl (by repeat (first | exact List.Mem.head _ | apply List.Mem.tail)) hv13) (by rw [leafText_length]; have := hbd 0; omega)) ?_
    rintro _ _ ⟨rfl, rfl⟩
    refine OpsW.upd rfl rfl (by repeat (first | exact Pos.here | apply Pos.there)) (lop_storeAllN 32 Try.sizeOf25 rfl rfl (by simp) (by simp [shaF_length]) (by first | exact one_map (fun _ => rfl) _ | exact one_rfl rfl | simp [one])) ?_
    rintro _ _ ⟨rfl, rfl⟩
    refine OpsW.nil ?_
    refine AWp.forget ?_ (sub_put (i := 0) rfl (sub_put (i := 1) rfl (sub_put (i := 4) rfl (sub_put (i := 8) rfl (sub_nil)))))
    refine AWp.ret ?_
    exact ⟨_, [], _, permNone, resCell rfl rfl (by repeat (first | exact List.Mem.head _ | apply List.Mem.tail)) (by simp [shaF_length]) ag25, by rw [leafO_one o ls ht8]; rfl, rfl⟩
  refine AWp.skip ?_
  refine AWp.seq ?_
  refine AWp.region ?_
  refine OpsW.pure rfl rfl (pureOp_move rfl) ?_
  refine OpsW.pure rfl rfl (opN_len1 ls.length Try.underlying22 rfl (by assumption) hvl) ?_
  refine OpsW.callA rfl rfl (callOp Try.call41 rfl) permNone (width_c ls.length _ (by omega) (by omega)) ?_
  rintro _ _ ⟨⟨p, rfl, hp1, hp2⟩, rfl⟩
  refine OpsW.pure rfl rfl (pureOp_assign rfl) ?_
  refine OpsW.nil ?_
  refine AWp.forget ?_ (sub_put (i := 0) rfl (sub_put (i := 1) rfl (sub_put (i := 4) rfl (sub_put (i := 5) rfl (sub_put (i := 8) rfl (sub_nil))))))
  refine AWp.seq ?_
  refine AWp.draw [(0, .pure), (1, .pure), (2, .pure), (3, .pure), (5, .pure), (6, .pure), (7, .pure), (8, .pure), (9, .pure), (10, .pure), (4, .call), (11, .call), (12, .call), (13, .call), (14, .wr)] rfl (by decide +kernel) (fun _ _ _ p h => AWp.perm h p.symm) ?_
  refine ⟨_, _, rfl, OpStep.pure rfl rfl (pureOp_move rfl), ?_⟩
  rintro _ _ ⟨rfl, rfl⟩ -
  refine ⟨_, _, rfl, OpStep.pure rfl rfl (pureOp_move rfl), ?_⟩
  rintro _ _ ⟨rfl, rfl⟩ -
  refine ⟨_, _, rfl, OpStep.pure rfl rfl (pureOp_slice (n := ls.length) (0) (2 ^ p) Try.underlying22 Try.sizeOf38 rfl (by assumption) (by omega) (by decide) (.inl ⟨rfl, rfl⟩) (.inr ⟨_, _, _, rfl, rfl, rfl⟩) (by omega) (by omega)), ?_⟩
  rintro _ _ ⟨rfl, rfl⟩ -
  refine ⟨_, _, rfl, OpStep.pure rfl rfl (pureOp_move rfl), ?_⟩
  rintro _ _ ⟨rfl, rfl⟩ -
  refine ⟨_, _, rfl, OpStep.pure rfl rfl (pureOp_move rfl), ?_⟩
  rintro _ _ ⟨rfl, rfl⟩ -
  refine ⟨_, _, rfl, OpStep.pure rfl rfl (pureOp_move rfl), ?_⟩
  rintro _ _ ⟨rfl, rfl⟩ -
  refine ⟨_, _, rfl, OpStep.pure rfl rfl (pureOp_slice (n := ls.length) (2 ^ p) (ls.length) Try.underlying22 Try.sizeOf38 rfl (by assumption) (by omega) (by decide) (.inr ⟨_, _, _, rfl, rfl, rfl⟩) (.inl ⟨rfl, rfl⟩) (by omega) (by omega)), ?_⟩
  rintro _ _ ⟨rfl, rfl⟩ -
  refine ⟨_, _, rfl, OpStep.pure rfl rfl (pureOp_move rfl), ?_⟩
  rintro _ _ ⟨rfl, rfl⟩ -
  refine ⟨_, _, rfl, OpStep.pure rfl rfl (pureOp_move rfl), ?_⟩
  rintro _ _ ⟨rfl, rfl⟩ -
  refine ⟨_, _, rfl, OpStep.pure rfl rfl (opN_add rfl rfl (by omega)), ?_⟩
  rintro _ _ ⟨rfl, rfl⟩ -
  refine ⟨_, _, rfl, OpStep.call rfl rfl (callOp Try.call29 rfl) (top_c (slc v 0 (2 ^ p) 1) (ls.take (2 ^ p)) (vs.take (2 ^ p)) o _ (rds_take hv (by omega)).ro (bd_take hbd) (by rw [List.length_take]; omega) (by rw [List.length_take]; have := Nat.two_pow_pos p; omega) (by rw [List.length_take]; omega)), ?_⟩
  rintro _ _ ⟨_, _, ⟨rfl, rfl⟩, rfl, rfl⟩ -
  refine ⟨_, _, rfl, OpStep.call rfl rfl (callOp Try.call29 rfl) (top_c (slc v (2 ^ p) ls.length 1) (ls.drop (2 ^ p)) (vs.drop (2 ^ p)) (o + 2 ^ p) _ (rds_drop hv (by omega) rfl).ro (bd_drop hbd) (by rw [List.length_drop]; omega) (by rw [List.length_drop]; omega) (by rw [List.length_drop]; omega)), ?_⟩
  rintro _ _ ⟨_, _, ⟨rfl, rfl⟩, rfl, rfl⟩ -
  rw [← leafO_take, ← leafO_drop]
  have hta : (topF ((leafO o ls).take (2 ^ p))).length = 32 := topF_len (Nat.le_refl _) ((leafO_ok o ls).take _) (by rw [List.length_take, leafO_length]; have := Nat.two_pow_pos p; omega)
  have htb : (topF ((leafO o ls).drop (2 ^ p))).length = 32 := topF_len (Nat.le_refl _) ((leafO_ok o ls).drop _) (by rw [List.length_drop, leafO_length]; omega)
  refine ⟨_, _, rfl, OpStep.call rfl rfl (callOp Try.call39 rfl) (nodeText_c _ _ _ hta htb), ?_⟩
  rintro _ _ ⟨v30, _, ⟨hv30, rfl⟩, rfl, rfl⟩ -
  refine ⟨_, _, rfl, OpStep.call rfl rfl (callOp Try.call15 rfl) (sum03_c v30 _ _ (Rd.of_sl (by repeat (first | exact List.Mem.head _ | apply List.Mem.tail)) hv30) (by rw [nodeText_length hta htb]; omega)), ?_⟩
  rintro _ _ ⟨_, _, ⟨rfl, rfl⟩, rfl, rfl⟩ -
  rw [← joinF, ← topF_split p (leafO o ls) (by rw [leafO_length]; exact hp1) (by rw [leafO_length]; exact hp2)]
  have htt : (topF (leafO o ls)).length = 32 := topF_len (Nat.le_refl _) (leafO_ok o ls) (by rw [leafO_length]; exact h0)
  refine ⟨_, _, rfl, OpStep.wr rfl rfl (toWp (by repeat (first | exact Pos.here | apply Pos.there)) (lop_storeAllN 32 Try.sizeOf25 rfl rfl (by simp) (by simp [htt]) (by first | exact one_map (fun _ => rfl) _ | exact one_rfl rfl | simp [one]))), ?_⟩
  rintro _ _ ⟨_, ⟨_, ⟨rfl, rfl⟩, rfl⟩, rfl⟩ -
  refine AWp.forget ?_ (sub_put (i := 0) rfl (sub_put (i := 1) rfl (sub_put (i := 4) rfl (sub_put (i := 5) rfl (sub_put (i := 8) rfl (sub_nil))))))
  refine AWp.ret ?_
  exact ⟨_, [], _, permNone, resCell rfl rfl (by repeat (first | exact List.Mem.head _ | apply List.Mem.tail)) (by simp [htt]) ag25, rfl, rfl⟩
termination_by ls.length
decreasing_by all_goals (simp only [List.length_take, List.length_drop]; have := Nat.two_pow_pos p; omega)

set_option maxRecDepth 20000 in
set_option maxHeartbeats 1000000 in
theorem root31_c (v : Value) (ls : List (List UInt8)) (vs : List Value) (m : Mem) (hv : Rds m v ls vs) (hbd : ∀ i, (ls.getD i []).length ≤ 274877906944) (hbl : ls.length ≤ 274877906944) :
    Ctr Try.prog 9 [v] m [] (fun _ r L => r = .tuple #[.agg ((rootF ls).1.map bV).toArray, iV (rootF ls).2] ∧ L = []) := by
  have ho := hv.rd.1
  have hrd := hv.rd
  have hvl := hv.len
  refine Ctr.intro Try.func9 rfl Try.ntmps9 (by simp) fun w0 => ?_
  refine AWp.forget ?_ (sub_put (i := 0) rfl (sub_nil))
  refine AWp.seq ?_
  refine AWp.region ?_
  refine OpsW.alloc rfl rfl (allocOp_alloc zt25) ?_
  rintro _ _ ⟨b2, rfl, rfl⟩
  refine OpsW.pure rfl rfl (pureOp_assign rfl) ?_
  refine OpsW.nil ?_
  refine AWp.forget ?_ (sub_put (i := 0) rfl (sub_put (i := 2) rfl (sub_put (i := 3) rfl (sub_nil))))
  refine AWp.seq ?_
  refine AWp.seq ?_
  refine AWp.region ?_
  refine OpsW.pure rfl rfl (pureOp_move rfl) ?_
  refine OpsW.callA rfl rfl (callOp Try.call27 rfl) permNone (check31_c v ls vs _ hv.ro (bd_le hbd (by decide)) (by omega)) ?_
  rintro _ _ ⟨rfl, rfl⟩
  refine OpsW.pure rfl rfl (pureOp_assign rfl) ?_
  refine OpsW.nil ?_
  refine AWp.forget ?_ (sub_put (i := 0) rfl (sub_put (i := 2) rfl (sub_put (i := 3) rfl (sub_put (i := 4) rfl (sub_nil)))))
  refine AWp.seq ?_
  refine AWp.region ?_
  refine OpsW.pure rfl rfl (pureOp_move rfl) ?_
  refine OpsW.pure rfl rfl (opN_neq (b := 0) rfl rfl) ?_
  refine OpsW.nil ?_
  refine AWp.forget ?_ (sub_put (i := 0) rfl (sub_put (i := 2) rfl (sub_put (i := 3) rfl (sub_put (i := 4) rfl (sub_put (i := 8) rfl (sub_nil))))))
  refine AWp.condP rfl (fun ht8 => ?_) (fun ht8 => ?_)
  · skip
    refine AWp.seq ?_
    refine AWp.region ?_
    refine OpsW.pure rfl rfl (opBuildArr0 arr25 zt25) ?_
    refine OpsW.pure rfl rfl (pureOp_move rfl) ?_
    refine OpsW.upd rfl rfl (by repeat (first | exact Pos.here | apply Pos.there)) (lop_storeAllN 32 Try.sizeOf25 rfl rfl (by simp) (by simp) (one_rfl rfl)) ?_
    rintro _ _ ⟨rfl, rfl⟩
    refine OpsW.pure rfl rfl (pureOp_assign rfl) ?_
    refine OpsW.nil ?_
    refine AWp.forget ?_ (sub_put (i := 0) rfl (sub_put (i := 2) rfl (sub_put (i := 3) rfl (sub_put (i := 4) rfl (sub_put (i := 8) rfl (sub_nil))))))
    refine AWp.ret ?_
    exact ⟨_, [], _, permNone, resCellTmp rfl rfl (by repeat (first | exact List.Mem.head _ | apply List.Mem.tail)) (by simp) ag25 rfl, by have h9 : checkF ls.length ≠ 0 := ht8; rw [rootF, if_neg h9]; rfl, rfl⟩
  refine AWp.skip ?_
  refine AWp.seq ?_
  have hc0 : checkF ls.length = 0 := by simpa using ht8
  have hlen : ls.length ≠ 0 ∧ ls.length ≤ 1024 := by simp only [checkF] at hc0; split at hc0 <;> first | omega | (split at hc0 <;> omega)
  have htt : (topF (leafO 0 ls)).length = 32 := topF_len (Nat.le_refl _) (leafO_ok 0 ls) (by rw [leafO_length]; exact hlen.1)
  refine AWp.region ?_
  refine OpsW.pure rfl rfl (pureOp_move rfl) ?_
  refine OpsW.pure rfl rfl (opN_len1 ls.length Try.underlying22 rfl (by assumption) hvl) ?_
  refine OpsW.pure rfl rfl (pureOp_move rfl) ?_
  refine OpsW.callA rfl rfl (callOp Try.call29 rfl) permNone (top_c v ls vs 0 _ hv.ro hbd hbl hlen.1 (by omega)) ?_
  rintro _ _ ⟨rfl, rfl⟩
  refine OpsW.callA rfl rfl (callOp Try.call28 rfl) permNone (rootText_c ls.length _ _ (by omega) htt) ?_
  rintro v15 _ ⟨hv15, rfl⟩
  refine OpsW.callA rfl rfl (callOp Try.call15 rfl) permNone (sum03_c v15 _ _ (Rd.of_sl (by repeat (first | exact List.Mem.head _ | apply List.Mem.tail)) hv15) (by rw [rootText_length htt]; omega)) ?_
  rintro _ _ ⟨rfl, rfl⟩
  refine OpsW.upd rfl rfl (by repeat (first | exact Pos.here | apply Pos.there)) (lop_storeAllN 32 Try.sizeOf25 rfl rfl (by simp) (by simp [shaF_length]) (by first | exact one_map (fun _ => rfl) _ | exact one_rfl rfl | simp [one])) ?_
  rintro _ _ ⟨rfl, rfl⟩
  refine OpsW.pure rfl rfl (pureOp_assign rfl) ?_
  refine OpsW.nil ?_
  refine AWp.forget ?_ (sub_put (i := 0) rfl (sub_put (i := 2) rfl (sub_put (i := 3) rfl (sub_put (i := 4) rfl (sub_put (i := 8) rfl (sub_nil))))))
  refine AWp.ret ?_
  exact ⟨_, [], _, permNone, resCellTmp rfl rfl (by repeat (first | exact List.Mem.head _ | apply List.Mem.tail)) (by simp [shaF_length]) ag25 rfl, by rw [rootF, if_pos hc0, leafO_zero]; rfl, rfl⟩

end Go.Proofs.Ytbhjaoedlggbbaa.Sep
