/- The path beside a leaf, from below and from the top; how deep a row is. -/
import Derived.Test.YtbhjaoedlggbbaaTreeE
namespace Go.Proofs.Ytbhjaoedlggbbaa.Sep
open Go Go.RowKit
set_option linter.unusedVariables false
set_option linter.unusedSimpArgs false
def sib (k : Nat) (hs : List (List UInt8)) : List (List UInt8) := if k ^^^ 1 < hs.length then [hs.getD (k ^^^ 1) []] else []
def pathN : Nat → Nat → List (List UInt8) → List (List UInt8)
  | 0, _, _ => []
  | n + 1, k, hs => if hs.length ≤ 1 then [] else sib k hs ++ pathN n (k / 2) (upF hs)
theorem pathN_enough : ∀ (n k : Nat) (hs : List (List UInt8)), hs.length ≤ n + 1 → ∀ j, n ≤ j → pathN j k hs = pathN n k hs
  | 0, k, hs, h, 0, _ => rfl
  | 0, k, hs, h, j + 1, _ => by show (if hs.length ≤ 1 then _ else _) = _; rw [if_pos h]; rfl
  | n + 1, k, hs, h, j + 1, hj => by
    rw [pathN, pathN]
    split
    · rfl
    · rw [pathN_enough n (k / 2) (upF hs) (by rw [upF_length]; omega) j (by omega)]
def pathF (k : Nat) (hs : List (List UInt8)) : List (List UInt8) := pathN hs.length k hs
theorem pathF_one {k : Nat} {hs : List (List UInt8)} (h : hs.length ≤ 1) : pathF k hs = [] := by
  unfold pathF
  match hs with
  | [] => rfl
  | [a] => rfl
  | a :: b :: r => simp at h
theorem xor_one (k : Nat) : (k % 2 = 0 ∧ k ^^^ 1 = k + 1) ∨ (k % 2 = 1 ∧ k ^^^ 1 = k - 1) := by
  rcases Nat.mod_two_eq_zero_or_one k with h | h
  · refine .inl ⟨h, ?_⟩
    apply Nat.eq_of_testBit_eq
    intro i
    cases i with
    | zero => simp [Nat.testBit_zero, h]; omega
    | succ i => rw [Nat.testBit_xor, Nat.testBit_succ, Nat.testBit_succ, Nat.testBit_succ, show (1 : Nat) / 2 = 0 from rfl, show (k + 1) / 2 = k / 2 by omega]; simp
  · refine .inr ⟨h, ?_⟩
    apply Nat.eq_of_testBit_eq
    intro i
    cases i with
    | zero => simp [Nat.testBit_zero, h]; omega
    | succ i => rw [Nat.testBit_xor, Nat.testBit_succ, Nat.testBit_succ, Nat.testBit_succ, show (1 : Nat) / 2 = 0 from rfl, show (k - 1) / 2 = k / 2 by omega]; simp
theorem pathF_step {k : Nat} {hs : List (List UInt8)} (hk : k < hs.length) : pathF k hs = sib k hs ++ pathF (k / 2) (upF hs) := by
  by_cases h : hs.length ≤ 1
  · have h0 : k = 0 := by omega
    subst h0
    rw [pathF_one h, pathF_one (by rw [upF_length]; omega), sib, if_neg (by have : (0 : Nat) ^^^ 1 = 1 := rfl; omega)]
    rfl
  · unfold pathF
    obtain ⟨n, hn⟩ : ∃ n, hs.length = n + 1 := ⟨hs.length - 1, by omega⟩
    rw [hn, pathN, if_neg (by omega)]
    congr 1
    exact pathN_enough _ _ _ (Nat.le_succ _) n (by rw [upF_length]; omega)
theorem sib_ok {k : Nat} {hs : List (List UInt8)} (ok : HsOk hs) : HsOk (sib k hs) := by
  unfold sib
  split
  · intro h hh; rw [List.mem_singleton.1 hh]; exact ok.getD (by assumption)
  · exact HsOk.nil
theorem HsOk.append {a b : List (List UInt8)} (ha : HsOk a) (hb : HsOk b) : HsOk (a ++ b) := fun x hx => (List.mem_append.1 hx).elim (ha x) (hb x)
theorem pathN_ok : ∀ (n k : Nat) (hs : List (List UInt8)), HsOk hs → HsOk (pathN n k hs)
  | 0, _, _, _ => HsOk.nil
  | n + 1, k, hs, ok => by
    rw [pathN]
    split
    · exact HsOk.nil
    · exact (sib_ok ok).append (pathN_ok n _ _ (upF_ok ok))
theorem pathF_ok {k : Nat} {hs : List (List UInt8)} (ok : HsOk hs) : HsOk (pathF k hs) := pathN_ok _ _ _ ok
theorem pathF_split : ∀ (p k : Nat) (hs : List (List UInt8)), 2 ^ p < hs.length → hs.length ≤ 2 ^ (p + 1) → k < hs.length →
    pathF k hs = if k < 2 ^ p then pathF k (hs.take (2 ^ p)) ++ [topF (hs.drop (2 ^ p))] else pathF (k - 2 ^ p) (hs.drop (2 ^ p)) ++ [topF (hs.take (2 ^ p))]
  | 0, k, hs, h1, h2, hk => by
    match hs, h1, h2, hk with
    | [], h1, _, _ => simp at h1
    | [a], h1, _, _ => simp at h1
    | [a, b], _, _, hk =>
      match k, hk with
      | 0, _ => rfl
      | 1, _ => rfl
      | k + 2, hk => exact absurd hk (by simp)
    | a :: b :: c :: r, _, h2, _ => simp at h2
  | p + 1, k, hs, h1, h2, hk => by
    have e : 2 ^ (p + 1) = 2 * 2 ^ p := by rw [Nat.pow_succ, Nat.mul_comm]
    have e2 : 2 ^ (p + 1 + 1) = 2 * 2 ^ (p + 1) := by rw [Nat.pow_succ, Nat.mul_comm]
    have hx := xor_one k
    have ih := pathF_split p (k / 2) (upF hs) (by rw [upF_length]; omega) (by rw [upF_length]; omega) (by rw [upF_length]; omega)
    rw [(upF_take (2 ^ p) (by omega)).1, (upF_take (2 ^ p) (by omega)).2, topF_up', topF_up'] at ih
    rw [pathF_step hk, ih, e]
    by_cases hkw : k < 2 * 2 ^ p
    · rw [if_pos (by omega), if_pos hkw, pathF_step (k := k) (hs := hs.take (2 * 2 ^ p)) (by rw [List.length_take]; omega), List.append_assoc]
      congr 1
      unfold sib
      rw [if_pos (by omega), if_pos (by rw [List.length_take]; omega), List.getD_eq_getElem?_getD, List.getD_eq_getElem?_getD, List.getElem?_take_of_lt (by omega)]
    · rw [if_neg (by omega), if_neg hkw, pathF_step (k := k - 2 * 2 ^ p) (hs := hs.drop (2 * 2 ^ p)) (by rw [List.length_drop]; omega), List.append_assoc]
      have hy := xor_one (k - 2 * 2 ^ p)
      rw [show (k - 2 * 2 ^ p) / 2 = k / 2 - 2 ^ p by omega]
      congr 1
      unfold sib
      have hxy : (k - 2 * 2 ^ p) ^^^ 1 = (k ^^^ 1) - 2 * 2 ^ p := by omega
      rw [hxy, List.length_drop]
      by_cases hl : k ^^^ 1 < hs.length
      · rw [if_pos hl, if_pos (by omega), List.getD_eq_getElem?_getD, List.getD_eq_getElem?_getD, List.getElem?_drop, show 2 * 2 ^ p + ((k ^^^ 1) - 2 * 2 ^ p) = k ^^^ 1 by omega]
      · rw [if_neg hl, if_neg (by omega)]
/-- The least number of doublings. -/
def IsLog (n : Int) (d : Nat) : Prop := n ≤ ((2 ^ d : Nat) : Int) ∧ ∀ e, e < d → ((2 ^ e : Nat) : Int) < n
theorem IsLog.uniq {n : Int} {d e : Nat} (h : IsLog n d) (k : IsLog n e) : d = e := by
  rcases Nat.lt_trichotomy d e with x | x | x
  · have := k.2 d x; have := h.1; omega
  · exact x
  · have := h.2 e x; have := k.1; omega
theorem IsLog.half {q : Nat} {d : Nat} (h2 : 2 ≤ q) (h : IsLog (((q - 1) / 2 + 1 : Nat) : Int) d) : IsLog (q : Int) (d + 1) := by
  have e2 : 2 ^ (d + 1) = 2 * 2 ^ d := by rw [Nat.pow_succ, Nat.mul_comm]
  refine ⟨by rw [e2]; have := h.1; omega, fun e he => ?_⟩
  cases e with
  | zero => simp; omega
  | succ e =>
    have := h.2 e (by omega)
    have e3 : 2 ^ (e + 1) = 2 * 2 ^ e := by rw [Nat.pow_succ, Nat.mul_comm]
    rw [e3]; omega
theorem pathF_le : ∀ (d k : Nat) (hs : List (List UInt8)), hs.length ≤ 2 ^ d → k < hs.length → (pathF k hs).length ≤ d
  | 0, k, hs, h, hk => by rw [pathF_one (by simpa using h)]; simp
  | d + 1, k, hs, h, hk => by
    have e2 : 2 ^ (d + 1) = 2 * 2 ^ d := by rw [Nat.pow_succ, Nat.mul_comm]
    rw [pathF_step hk, List.length_append]
    have := pathF_le d (k / 2) (upF hs) (by rw [upF_length]; omega) (by rw [upF_length]; omega)
    have h1 : (sib k hs).length ≤ 1 := by unfold sib; split <;> simp
    omega
theorem pathF_bd {k : Nat} {hs : List (List UInt8)} (hk : k < hs.length) : (pathF k hs).length ≤ hs.length := pathF_le hs.length k hs (Nat.le_of_lt Nat.lt_two_pow_self) hk
/-- What a proof holds: its number, how many, the path, the code. -/
def proveF (ls : List (List UInt8)) (k : Int) : Nat × Nat × List (List UInt8) × Nat :=
  if checkF ls.length = 0 then (if k < 0 ∨ (ls.length : Int) ≤ k then (0, 0, [], 2) else (k.toNat, ls.length, pathF k.toNat (leafHs ls ls.length), 0)) else (0, 0, [], checkF ls.length)
def lightP (ls : List (List UInt8)) : Prop := ls.length ≤ 40 ∧ ∀ i, (ls.getD i []).length ≤ 100
end Go.Proofs.Ytbhjaoedlggbbaa.Sep
