/- Is a ring as it should be? plain Lean. -/
import Derived.Test.YtpnipajadjeifaaRingD
namespace Go.Proofs.Ytpnipajadjeifaa.Sep
open Go Go.RowKit
set_option linter.unusedVariables false
set_option linter.unusedSimpArgs false
def sameR (S : List (List UInt8)) (fr sz tl hd mt : Nat) (ml : List (List UInt8)) : Bool :=
  decide (tl = mt ∧ allL S fr sz tl hd (hd - tl) = ml) && cleanB S fr sz hd (tl + sz - hd)
theorem allL_get {S : List (List UInt8)} {fr sz tl hd k i : Nat} (h : i < k) : (allL S fr sz tl hd k).getD i [] = (readR S fr sz tl hd ((tl + i : Nat) : Int)).1 := by
  rw [List.getD_eq_getElem?_getD, allL, List.getElem?_map, List.getElem?_range h]; rfl
theorem smC {p q : Prop} {c : Bool} (hp : p) (hq : q) : ((!c) = true ↔ ¬ (p ∧ q ∧ c = true)) := by
  cases c with
  | true => exact ⟨fun h => (by cases h), fun h => absurd ⟨hp, hq, rfl⟩ h⟩
  | false => exact ⟨fun _ h => (by cases h.2.2), fun _ => rfl⟩
theorem sm_head {S : List (List UInt8)} {fr sz tl hd mt : Nat} {ml : List (List UInt8)} (h : ¬ (hd - tl = ml.length ∧ tl = mt ∧ cleanB S fr sz hd (tl + sz - hd) = true)) : sameR S fr sz tl hd mt ml = false := by
  unfold sameR
  rw [Bool.and_eq_false_iff]
  by_cases h1 : tl = mt ∧ allL S fr sz tl hd (hd - tl) = ml
  · right
    rw [Bool.eq_false_iff]
    intro h2
    refine h ⟨?_, h1.1, h2⟩
    rw [← h1.2, allL_length]
  · exact .inl (decide_eq_false h1)
theorem sm_part {S : List (List UInt8)} {fr sz tl hd mt i : Nat} {ml : List (List UInt8)} (h : ¬ (allL S fr sz tl hd (hd - tl)).getD i [] = ml.getD i []) : sameR S fr sz tl hd mt ml = false := by
  unfold sameR
  rw [decide_eq_false (fun k => h (by rw [k.2])), Bool.false_and]
theorem sm_ok {S : List (List UInt8)} {fr sz tl hd mt : Nat} {ml : List (List UInt8)} (h : hd - tl = ml.length ∧ tl = mt ∧ cleanB S fr sz hd (tl + sz - hd) = true) (h2 : ∀ j, j < ml.length → (allL S fr sz tl hd (hd - tl)).getD j [] = ml.getD j []) : sameR S fr sz tl hd mt ml = true := by
  unfold sameR
  rw [h.2.2, Bool.and_true]
  refine decide_eq_true ⟨h.2.1, ?_⟩
  apply List.ext_getElem
  · rw [allL_length, h.1]
  · intro i h3 h4
    have := h2 i h4
    rw [List.getD_eq_getElem?_getD, List.getElem?_eq_getElem h3, List.getD_eq_getElem?_getD, List.getElem?_eq_getElem h4] at this
    exact this
theorem read_low {S : List (List UInt8)} {fr sz tl hd : Nat} {n : Int} (h : n < tl) : readR S fr sz tl hd n = ([], 8) := if_pos (.inl h)
theorem read_high {S : List (List UInt8)} {fr sz tl hd : Nat} {n : Int} (h : (hd : Int) ≤ n) : readR S fr sz tl hd n = ([], 8) := if_pos (.inr h)
end Go.Proofs.Ytpnipajadjeifaa.Sep
