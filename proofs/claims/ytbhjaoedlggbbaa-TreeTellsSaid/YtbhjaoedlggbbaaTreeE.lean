/- The tree from the top: what halves a row, what a half's slice reads. -/
import Derived.Test.YtbhjaoedlggbbaaTreeD
namespace Go.Proofs.Ytbhjaoedlggbbaa.Sep
open Go Go.RowKit
set_option linter.unusedVariables false
set_option linter.unusedSimpArgs false
theorem topF_up' {hs : List (List UInt8)} : topF (upF hs) = topF hs := by
  match hs with
  | [] => rfl
  | [a] => rfl
  | a :: b :: r => exact topF_up (by simp)
theorem topF_len : ∀ {n : Nat} {hs : List (List UInt8)}, hs.length ≤ n → HsOk hs → hs.length ≠ 0 → (topF hs).length = 32
  | 0, hs, h, _, h0 => absurd (Nat.le_zero.1 h) h0
  | n + 1, hs, h, ok, h0 => by
    by_cases h1 : hs.length ≤ 1
    · rw [topF_one h1]; exact ok.getD (by omega)
    · rw [← topF_up']
      exact topF_len (n := n) (by rw [upF_length]; omega) (upF_ok ok) (by rw [upF_length]; omega)
theorem upF_take {hs : List (List UInt8)} (w : Nat) (h : 2 * w ≤ hs.length) : (upF hs).take w = upF (hs.take (2 * w)) ∧ (upF hs).drop w = upF (hs.drop (2 * w)) := by
  have e : upF hs = upF (hs.take (2 * w)) ++ upF (hs.drop (2 * w)) := by
    conv => lhs; rw [← List.take_append_drop (2 * w) hs]
    exact upF_append _ _ (by rw [List.length_take]; omega)
  have hl : (upF (hs.take (2 * w))).length = w := by rw [upF_length, List.length_take]; omega
  rw [e]
  exact ⟨List.take_left' hl, List.drop_left' hl⟩
/-- The row's top is the join of its halves' tops. -/
theorem topF_split : ∀ (p : Nat) (hs : List (List UInt8)), 2 ^ p < hs.length → hs.length ≤ 2 ^ (p + 1) → topF hs = joinF (topF (hs.take (2 ^ p))) (topF (hs.drop (2 ^ p)))
  | 0, hs, h1, h2 => by
    match hs, h1, h2 with
    | [], h1, _ => simp at h1
    | [a], h1, _ => simp at h1
    | [a, b], _, _ => rfl
    | a :: b :: c :: r, _, h2 => simp at h2
  | p + 1, hs, h1, h2 => by
    have e : 2 ^ (p + 1) = 2 * 2 ^ p := by rw [Nat.pow_succ, Nat.mul_comm]
    have e2 : 2 ^ (p + 1 + 1) = 2 * 2 ^ (p + 1) := by rw [Nat.pow_succ, Nat.mul_comm]
    rw [← topF_up', topF_split p (upF hs) (by rw [upF_length]; omega) (by rw [upF_length]; omega), (upF_take (2 ^ p) (by omega)).1, (upF_take (2 ^ p) (by omega)).2, topF_up', topF_up', e]
/-- The leaves' hashes, the first of which has the number o. -/
def leafO (o : Nat) (ls : List (List UInt8)) : List (List UInt8) := (List.range ls.length).map fun i => shaF (leafText (o + i) (ls.getD i []))
theorem leafO_zero (ls : List (List UInt8)) : leafO 0 ls = leafHs ls ls.length := by simp [leafO, leafHs]
theorem leafO_length (o : Nat) (ls : List (List UInt8)) : (leafO o ls).length = ls.length := by simp [leafO]
theorem leafO_ok (o : Nat) (ls : List (List UInt8)) : HsOk (leafO o ls) := fun h hh => by
  obtain ⟨i, _, rfl⟩ := List.mem_map.1 hh
  exact shaF_length _
theorem leafO_take (o k : Nat) (ls : List (List UInt8)) : (leafO o ls).take k = leafO o (ls.take k) := by
  apply List.ext_getElem
  · simp [leafO]
  · intro i h1 h2
    simp only [leafO, List.length_take, List.length_map, List.length_range] at h1 h2
    simp only [leafO, List.getElem_take, List.getElem_map, List.getElem_range]
    rw [List.getD_eq_getElem?_getD, List.getD_eq_getElem?_getD, List.getElem?_take_of_lt (by omega)]
theorem leafO_drop (o k : Nat) (ls : List (List UInt8)) : (leafO o ls).drop k = leafO (o + k) (ls.drop k) := by
  apply List.ext_getElem
  · simp [leafO]
  · intro i h1 h2
    simp only [leafO, List.getElem_drop, List.getElem_map, List.getElem_range]
    rw [List.getD_eq_getElem?_getD, List.getD_eq_getElem?_getD, List.getElem?_drop, Nat.add_assoc]
theorem leafO_one (o : Nat) (ls : List (List UInt8)) (h : ls.length = 1) : leafO o ls = [shaF (leafText o (ls.getD 0 []))] := by simp [leafO, h]
/-! slices of slices, halved -/
theorem rds_take {μ : Mem} {v : Value} {ls : List (List UInt8)} {vs : List Value} {k : Nat} (h : Rds μ v ls vs) (hk : k ≤ ls.length) : Rds μ (slc v 0 k 1) (ls.take k) (vs.take k) := by
  refine ⟨?_, by simp [h.len], fun i hi => ?_⟩
  · have := slc_rd (l := 0) (h := k) (n := vs.length) h.rd (by simp) (Nat.zero_le _) (by rw [h.len]; exact hk) (by decide)
    simpa using this
  · rw [List.length_take] at hi
    have := h.part i (by omega)
    rw [List.getD_eq_getElem?_getD, List.getD_eq_getElem?_getD] at this
    rw [List.getD_eq_getElem?_getD, List.getD_eq_getElem?_getD, List.getElem?_take_of_lt (by omega), List.getElem?_take_of_lt (by omega)]
    exact this
theorem rds_drop {μ : Mem} {v : Value} {ls : List (List UInt8)} {vs : List Value} {k n : Nat} (h : Rds μ v ls vs) (hk : k ≤ ls.length) (hn : n = ls.length) : Rds μ (slc v k n 1) (ls.drop k) (vs.drop k) := by
  subst hn
  refine ⟨?_, by simp [h.len], fun i hi => ?_⟩
  · have := slc_rd (l := k) (h := vs.length) (n := vs.length) h.rd (by simp) (by rw [h.len]; exact hk) (Nat.le_refl _) (by decide)
    rw [Nat.mul_one, Nat.mul_one, List.take_of_length_le (by simp)] at this
    rw [← h.len]; exact this
  · rw [List.length_drop] at hi
    have := h.part (k + i) (by omega)
    rw [List.getD_eq_getElem?_getD, List.getD_eq_getElem?_getD] at this
    rw [List.getD_eq_getElem?_getD, List.getD_eq_getElem?_getD, List.getElem?_drop, List.getElem?_drop]
    exact this
theorem bd_take {ls : List (List UInt8)} {k b : Nat} (h : ∀ i, (ls.getD i []).length ≤ b) : ∀ i, ((ls.take k).getD i []).length ≤ b := by
  intro i
  rcases Nat.lt_or_ge i k with hk | hk
  · have := h i
    rw [List.getD_eq_getElem?_getD] at this ⊢
    rwa [List.getElem?_take_of_lt hk]
  · rw [List.getD_eq_getElem?_getD, List.getElem?_eq_none (by simp; omega)]; simp
theorem bd_drop {ls : List (List UInt8)} {k b : Nat} (h : ∀ i, (ls.getD i []).length ≤ b) : ∀ i, ((ls.drop k).getD i []).length ≤ b := by
  intro i
  have := h (k + i)
  rw [List.getD_eq_getElem?_getD] at this ⊢
  rwa [List.getElem?_drop]
theorem bd_le {ls : List (List UInt8)} {a b : Nat} (h : ∀ i, (ls.getD i []).length ≤ a) (hab : a ≤ b) : ∀ i, (ls.getD i []).length ≤ b := fun i => Nat.le_trans (h i) hab
theorem leafText_length (i : Nat) (d : List UInt8) : (leafText i d).length = 8 + d.length := by simp [leafText, tagL, putF_length]; omega
theorem nodeText_length {a b : List UInt8} (ha : a.length = 32) (hb : b.length = 32) : (nodeText a b).length = 68 := by simp [nodeText, tagN, ha, hb]
theorem rootText_length {n : Nat} {a : List UInt8} (ha : a.length = 32) : (rootText n a).length = 40 := by simp [rootText, tagR, ha, putF_length]
end Go.Proofs.Ytbhjaoedlggbbaa.Sep
