/- What a climb reckons. -/
import Derived.Test.YtbhjaoedlggbbaaTreeF
namespace Go.Proofs.Ytbhjaoedlggbbaa.Sep
open Go Go.RowKit
set_option linter.unusedVariables false
set_option linter.unusedSimpArgs false
theorem one3 {a b : Value} {p : Value} (ha : one a = true) (hb : one b = true) (hp : one p = true) : ∀ u, u ∈ [a, b, p] → one u = true := by
  intro u hu
  simp at hu
  rcases hu with rfl | rfl | rfl <;> assumption
def climbN : Nat → Nat → Nat → List UInt8 → List (List UInt8) → Option (List UInt8 × List (List UInt8))
  | 0, _, _, h, ps => some (h, ps)
  | f + 1, k, n, h, ps =>
    if n ≤ 1 then some (h, ps)
    else if k ^^^ 1 < n then
      if ps = [] then none
      else climbN f (k / 2) ((n + 1) / 2) (if k % 2 = 0 then joinF h (ps.getD 0 []) else joinF (ps.getD 0 []) h) (ps.drop 1)
    else climbN f (k / 2) ((n + 1) / 2) h ps
/-- The root that a proof climbs to; is the path used up? -/
def climbF (k n : Int) (ps : List (List UInt8)) (d : List UInt8) : List UInt8 × Bool :=
  if n < 1 ∨ 1024 < n ∨ k < 0 ∨ n ≤ k then (zero32, false)
  else match climbN n.toNat k.toNat n.toNat (shaF (leafText k.toNat d)) ps with
    | none => (zero32, false)
    | some (h, r) => (shaF (rootText n.toNat h), decide (r = []))
theorem climbN_stop {f k n : Nat} {h : List UInt8} {ps : List (List UInt8)} (hn : n ≤ 1) : climbN f k n h ps = some (h, ps) := by
  cases f with
  | zero => rfl
  | succ f => rw [climbN, if_pos hn]
theorem climbN_len : ∀ (f k n : Nat) (h : List UInt8) (ps : List (List UInt8)), h.length = 32 → ∀ q, climbN f k n h ps = some q → q.1.length = 32
  | 0, _, _, h, ps, hl, q, e => by cases e; exact hl
  | f + 1, k, n, h, ps, hl, q, e => by
    rw [climbN] at e
    split at e
    · cases e; exact hl
    · split at e
      · split at e
        · cases e
        · exact climbN_len f _ _ _ _ (by split <;> exact joinF_length _ _) q e
      · exact climbN_len f _ _ _ _ hl q e
theorem climbF_len (k n : Int) (ps : List (List UInt8)) (d : List UInt8) : (climbF k n ps d).1.length = 32 := by
  unfold climbF
  split
  · rfl
  · split
    · rfl
    · exact shaF_length _
theorem climbF_in {q n : Nat} {ps : List (List UInt8)} {d : List UInt8} (h : ¬ ((n : Int) < 1 ∨ 1024 < (n : Int) ∨ (q : Int) < 0 ∨ (n : Int) ≤ q)) :
    climbF q n ps d = match climbN n q n (shaF (leafText q d)) ps with | none => (zero32, false) | some (h, r) => (shaF (rootText n h), decide (r = [])) := by
  rw [climbF, if_neg h]; rfl
theorem climbF_none {q n : Nat} {ps : List (List UInt8)} {d : List UInt8} (h : ¬ ((n : Int) < 1 ∨ 1024 < (n : Int) ∨ (q : Int) < 0 ∨ (n : Int) ≤ q)) (hc : climbN n q n (shaF (leafText q d)) ps = none) :
    climbF q n ps d = (zero32, false) := by rw [climbF_in h, hc]
theorem climbF_some {q n : Nat} {ps r : List (List UInt8)} {d t : List UInt8} (h : ¬ ((n : Int) < 1 ∨ 1024 < (n : Int) ∨ (q : Int) < 0 ∨ (n : Int) ≤ q)) (hc : climbN n q n (shaF (leafText q d)) ps = some (t, r)) :
    climbF q n ps d = (shaF (rootText n t), decide (r = [])) := by rw [climbF_in h, hc]
theorem hC_rd_drop {μ : Mem} {v : Value} {ps : List (List UInt8)} (h : Rd μ v 32 (hC ps)) (ok : HsOk ps) (h1 : 1 ≤ ps.length) : Rd μ (slc v 1 ps.length 32) 32 (hC (ps.drop 1)) := by
  have := slc_rd (l := 1) (h := ps.length) (n := ps.length) h (hC_length ok) h1 (Nat.le_refl _) (by decide)
  rw [hC_drop ok, List.take_of_length_le (by rw [hC_length (ok.drop 1), List.length_drop]; exact Nat.le_refl _)] at this
  exact this
/-- A path of a row leads to the row's top. -/
theorem climb_path : ∀ (f k : Nat) (hs : List (List UInt8)), hs.length ≤ f + 1 → k < hs.length → ∀ r, climbN f k hs.length (hs.getD k []) (pathF k hs ++ r) = some (topF hs, r)
  | f, k, hs, hf, hk, r => by
    by_cases h1 : hs.length ≤ 1
    · rw [climbN_stop h1, pathF_one h1, topF_one h1, show k = 0 by omega]; rfl
    · obtain ⟨f, rfl⟩ : ∃ g, f = g + 1 := ⟨f - 1, by omega⟩
      have ul := upF_length hs
      have ih := climb_path f (k / 2) (upF hs) (by omega) (by omega) r
      rw [ul] at ih
      have hx := xor_one k
      have hup : (upF hs).getD (k / 2) [] = if k ^^^ 1 < hs.length then (if k % 2 = 0 then joinF (hs.getD k []) (hs.getD (k ^^^ 1) []) else joinF (hs.getD (k ^^^ 1) []) (hs.getD k [])) else hs.getD k [] := by
        have htl : ∀ j, 2 * j ≤ hs.length → (upF (hs.take (2 * j))).length = j := fun j hj => by rw [upF_length, List.length_take]; omega
        have pre : ∀ (l m : List (List UInt8)) (x : List UInt8), (l ++ [x] ++ m).getD l.length [] = x := fun l m x => by simp [List.getD_eq_getElem?_getD]
        obtain ⟨j, hj⟩ : ∃ j, j = k / 2 := ⟨_, rfl⟩
        by_cases hl : 2 * j + 2 ≤ hs.length
        · have e : upF hs = upF (hs.take (2 * j)) ++ [joinF (hs.getD (2 * j) []) (hs.getD (2 * j + 1) [])] ++ upF (hs.drop (2 * (j + 1))) := by
            rw [upF_two hl, ← upF_append _ _ (by rw [List.length_take]; omega), List.take_append_drop]
          have := pre (upF (hs.take (2 * j))) (upF (hs.drop (2 * (j + 1)))) (joinF (hs.getD (2 * j) []) (hs.getD (2 * j + 1) []))
          rw [htl j (by omega), ← e] at this
          rw [← hj, this, if_pos (by omega)]
          rcases hx with ⟨a, b⟩ | ⟨a, b⟩
          · rw [if_pos a, b, show 2 * j = k by omega]
          · rw [if_neg (by omega), b, show 2 * j = k - 1 by omega, show k - 1 + 1 = k by omega]
        · have h2 : 2 * j + 1 = hs.length := by omega
          have := pre (upF (hs.take (2 * j))) [] (hs.getD (2 * j) [])
          rw [htl j (by omega), List.append_nil, upF_odd h2] at this
          rw [← hj, this, if_neg (by omega), show 2 * j = k by omega]
      rw [pathF_step hk, climbN, if_neg h1]
      by_cases hs1 : k ^^^ 1 < hs.length
      · rw [if_pos hs1] at hup ⊢
        rw [sib, if_pos hs1, List.cons_append, List.cons_append, if_neg (by simp), List.nil_append]
        show climbN f _ _ (if k % 2 = 0 then joinF (hs.getD k []) (hs.getD (k ^^^ 1) []) else joinF (hs.getD (k ^^^ 1) []) (hs.getD k [])) (pathF (k / 2) (upF hs) ++ r) = _
        rw [← hup, ih, topF_up']
      · rw [if_neg hs1] at hup ⊢
        rw [sib, if_neg hs1, List.nil_append, ← hup, ih, topF_up']
end Go.Proofs.Ytbhjaoedlggbbaa.Sep
