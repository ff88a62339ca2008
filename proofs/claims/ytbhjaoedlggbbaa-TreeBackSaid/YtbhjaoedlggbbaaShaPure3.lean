/- Small words for the walk of a sum. -/
import Derived.Test.YtbhjaoedlggbbaaShaPure2
namespace Go.Proofs.Ytbhjaoedlggbbaa.Sep
open Go Go.RowKit
set_option linter.unusedVariables false
set_option linter.unusedSimpArgs false
theorem lenBytes_take (n : UInt64) (i : Nat) (h : i < 8) : (lenBytes n).take (8 - i) = (lenBytes n).take (8 - (i + 1)) ++ [(shr64 (8 * n) (8 * i)).toUInt8] := by
  have e : 8 - i = 8 - (i + 1) + 1 := by omega
  rw [e, List.take_add_one]
  congr 1
  have : 7 - (8 - (i + 1)) = i := by omega
  rw [lenBytes, List.getElem?_map, List.getElem?_range (show 8 - (i + 1) < 8 by omega), Option.map_some, this]
  rfl
theorem set_fill {α : Type} {f : α → Value} {ws : List α} {n k : Nat} {x : α} {z : Value} (hl : ws.length = k) (hk : k < n) :
    (ws.map f ++ List.replicate (n - k) z).set k (f x) = (ws ++ [x]).map f ++ List.replicate (n - (k + 1)) z := by
  obtain ⟨d, hd⟩ : ∃ d, n - k = d + 1 := ⟨n - k - 1, by omega⟩
  rw [hd, show n - (k + 1) = d by omega, List.replicate_succ, List.set_append_right _ _ (by simp; omega)]
  simp [hl]
theorem wordsBytes_def (ws : List UInt32) : wordsBytes ws = (List.range 32).map fun i => (shr32 (ws.getD (i / 4) 0) (24 - 8 * (i % 4))).toUInt8 := rfl
end Go.Proofs.Ytbhjaoedlggbbaa.Sep
