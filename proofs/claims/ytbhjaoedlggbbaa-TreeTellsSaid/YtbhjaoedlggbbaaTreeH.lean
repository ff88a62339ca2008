/- Rows of proofs. -/
import Derived.Test.YtbhjaoedlggbbaaTreeG
namespace Go.Proofs.Ytbhjaoedlggbbaa.Sep
open Go Go.RowKit
set_option linter.unusedVariables false
set_option linter.unusedSimpArgs false
def rowC (n : Nat) (pvs : List Value) : List Value := (List.range pvs.length).flatMap fun i => [iV i, iV n, pvs.getD i undef]
theorem rowC_snoc (n : Nat) (pvs : List Value) (p : Value) : rowC n pvs ++ [iV pvs.length, iV n, p] = rowC n (pvs ++ [p]) := by
  unfold rowC
  rw [List.length_append, List.length_singleton, List.range_succ, List.flatMap_append]
  congr 1
  · rw [List.flatMap_def, List.flatMap_def]
    congr 1
    refine List.map_congr_left fun i hi => ?_
    have := List.mem_range.1 hi
    rw [List.getD_eq_getElem?_getD, List.getD_eq_getElem?_getD, List.getElem?_append_left this]
  · simp [List.getD_eq_getElem?_getD]
theorem rowC_length (n : Nat) : ∀ pvs : List Value, (rowC n pvs).length = pvs.length * 3 := by
  intro pvs
  unfold rowC
  rw [List.length_flatMap]
  simp [List.map_const', List.sum_replicate_nat]
theorem rowC_get (n : Nat) (pvs : List Value) {i : Nat} (hi : i < pvs.length) : ((rowC n pvs).drop (i * 3)).take 3 = [iV i, iV n, pvs.getD i undef] := by
  have key : ∀ (f : Nat → List Value) (hf : ∀ j, (f j).length = 3) (N i : Nat), i < N → (((List.range N).flatMap f).drop (i * 3)).take 3 = f i := by
    intro f hf N
    induction N with
    | zero => intro i hi; omega
    | succ N ih =>
      intro i hi
      have hl : ((List.range N).flatMap f).length = N * 3 := by
        rw [List.length_flatMap]
        have : (List.range N).map (fun a => (f a).length) = List.replicate N 3 := by
          rw [List.eq_replicate_iff]
          exact ⟨by simp, fun b hb => by obtain ⟨a, _, rfl⟩ := List.mem_map.1 hb; exact hf a⟩
        rw [this]; simp [List.sum_replicate_nat]
      rw [List.range_succ, List.flatMap_append]
      rcases Nat.lt_or_ge i N with h | h
      · rw [List.drop_append_of_le_length (by omega), List.take_append_of_le_length (by rw [List.length_drop]; omega), ih i h]
      · obtain rfl : i = N := by omega
        rw [List.drop_append, List.drop_of_length_le (by omega), hl, Nat.sub_self]
        simp [List.take_of_length_le, hf]
  exact key _ (fun j => rfl) _ i hi
theorem rowC_one {n : Nat} {pvs : List Value} (h : ∀ p, p ∈ pvs → one p = true) : ∀ u, u ∈ rowC n pvs → one u = true := by
  intro u hu
  unfold rowC at hu
  rw [List.mem_flatMap] at hu
  obtain ⟨i, hi, hu⟩ := hu
  have hi := List.mem_range.1 hi
  simp only [List.mem_cons, List.not_mem_nil, or_false] at hu
  rcases hu with rfl | rfl | rfl
  · rfl
  · rfl
  · refine h _ ?_
    rw [List.getD_eq_getElem?_getD, List.getElem?_eq_getElem hi]
    exact List.getElem_mem hi
theorem proveF_ok {ls : List (List UInt8)} {k : Nat} (hc : checkF ls.length = 0) (hk : k < ls.length) : proveF ls (k : Int) = (k, ls.length, pathF k (leafHs ls ls.length), 0) := by
  rw [proveF, if_pos hc, if_neg (by omega)]; rfl
theorem checkF_len {n : Nat} (h : checkF n = 0) : n ≠ 0 ∧ n ≤ 1024 := by
  unfold checkF at h
  split at h
  · omega
  · split at h <;> omega
theorem part_snoc {μ : Mem} {pvs : List Value} {p : Value} {k : Nat} {f : Nat → List Value} (hl : pvs.length = k) (h : ∀ i, i < k → Rd μ (pvs.getD i undef) 32 (f i)) (hp : Rd μ p 32 (f k)) :
    ∀ i, i < k + 1 → Rd μ ((pvs ++ [p]).getD i undef) 32 (f i) := by
  intro i hi
  rcases Nat.lt_or_ge i k with h1 | h1
  · have := h i h1
    rw [List.getD_eq_getElem?_getD] at this ⊢
    rwa [List.getElem?_append_left (by omega)]
  · obtain rfl : i = k := by omega
    subst hl
    simpa [List.getD_eq_getElem?_getD] using hp
end Go.Proofs.Ytbhjaoedlggbbaa.Sep
