/- What the tree's texts are, in plain Lean; slices of slices built. -/
import Derived.Test.YtbhjaoedlggbbaaTreeA
namespace Go.Proofs.Ytbhjaoedlggbbaa.Sep
open Go Go.RowKit
set_option linter.unusedVariables false
set_option linter.unusedSimpArgs false
def tagL : List UInt8 := [108, 101, 97, 102]
def tagN : List UInt8 := [110, 111, 100, 101]
def tagR : List UInt8 := [114, 111, 111, 116]
def leafText (i : Nat) (d : List UInt8) : List UInt8 := tagL ++ putF (UInt64.ofNat i) 4 ++ d
def nodeText (a b : List UInt8) : List UInt8 := tagN ++ a ++ b
def rootText (n : Nat) (a : List UInt8) : List UInt8 := tagR ++ putF (UInt64.ofNat n) 4 ++ a
theorem cells_sl {v : Value} {sz : Nat} {cs : List Value} (h : slOk v sz cs) : v.cells.toList = [v] := by
  rcases h with ⟨rfl, _⟩ | ⟨b, off, len, cap, rfl, _⟩ | ⟨a, cap, rfl, _⟩ <;> rfl
theorem size_sl {v : Value} {sz : Nat} {cs : List Value} (h : slOk v sz cs) : v.cells.size = 1 := by
  rw [← Array.length_toList, cells_sl h]; rfl
theorem sizes3 {a b c : Value} (ha : a.cells.size = 1) (hb : b.cells.size = 1) (hc : c.cells.size = 1) : ∀ v, v ∈ [a, b, c] → v.cells.size = 1 := by
  intro v hv
  simp at hv
  rcases hv with rfl | rfl | rfl <;> assumption
theorem flat3 {a b c : Value} (ha : a.cells.toList = [a]) (hb : b.cells.toList = [b]) (hc : c.cells.toList = [c]) : List.flatMap (fun x : Value => x.cells.toList) [a, b, c] = [a, b, c] := by
  simp [ha, hb, hc]
theorem rds3 {μ : Mem} {v a b c : Value} {la lb lc : List UInt8} (h : Rd μ v 1 [a, b, c]) (ha : Rd μ a 1 (la.map bV)) (hb : Rd μ b 1 (lb.map bV)) (hc : Rd μ c 1 (lc.map bV)) :
    Rds μ v [la, lb, lc] [a, b, c] := ⟨h, rfl, fun i hi => by
  match i, hi with
  | 0, _ => exact ha
  | 1, _ => exact hb
  | 2, _ => exact hc⟩
theorem bd3 {la lb lc : List UInt8} {k : Nat} (ha : la.length ≤ k) (hb : lb.length ≤ k) (hc : lc.length ≤ k) : ∀ i, ([la, lb, lc].getD i []).length ≤ k := by
  intro i
  match i with
  | 0 => exact ha
  | 1 => exact hb
  | 2 => exact hc
  | n + 3 => simp
theorem flat3b {la lb lc : List UInt8} : [la, lb, lc].flatten = la ++ lb ++ lc := by simp
theorem take_get {l : List UInt8} {i : Nat} (h : i < l.length) : l.take (i + 1) = l.take i ++ [l.getD i 0] := by
  rw [List.take_add_one, List.getD_eq_getElem?_getD, List.getElem?_eq_getElem h]; rfl
theorem map_snoc {l : List UInt8} {x : UInt8} : l.map bV ++ List.flatMap (fun x : Value => x.cells.toList) [bV x] = (l ++ [x]).map bV := by simp; rfl
end Go.Proofs.Ytbhjaoedlggbbaa.Sep
