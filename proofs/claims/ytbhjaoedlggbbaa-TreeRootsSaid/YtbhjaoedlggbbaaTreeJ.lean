/- A list of texts, opened. -/
import Derived.Test.YtbhjaoedlggbbaaSepX
import Derived.Test.YtbhjaoedlggbbaaShaPure4
namespace Go.Proofs.Ytbhjaoedlggbbaa.Sep
open Go Go.RowKit
set_option linter.unusedVariables false
set_option linter.unusedSimpArgs false
theorem tr_texts {P : Program} {W : World} {t : TypeId} {cs : List Value} {e b : TypeId} (ht : P.underlying t = some (.slice e)) (he : P.underlying e = some (.slice b)) (hb : P.underlying b = some (.int .u8)) (hc : P.cellsOf e = 1) (hc1 : P.cellsOf b = 1)
    (h : Tr P W t cs) : ∃ (v : Value) (ls : List (List UInt8)) (vs : List Value), cs = [v] ∧ Rds (memW W) v ls vs := by
  obtain ⟨v, rows, rfl, hr, hl, hrows⟩ := tr_slice ht hc (by decide) h
  obtain ⟨l, rfl⟩ := rows_of (Q := Tr P W e) (f := fun p : { p : Value × List UInt8 // Rd (memW W) p.1 1 (p.2.map bV) } => [p.1.1]) (fun r hr => by
    obtain ⟨v, d, rfl, h1, _⟩ := tr_bytes he hb hc1 hr
    exact ⟨⟨(v, d), h1⟩, rfl⟩) rows (fun r hr => (hrows r hr).2)
  rw [flat_single] at hr
  refine ⟨v, l.map (·.1.2), l.map (·.1.1), rfl, hr, by simp, fun i hi => ?_⟩
  rw [List.length_map] at hi
  rw [List.getD_eq_getElem?_getD, List.getD_eq_getElem?_getD, List.getElem?_map, List.getElem?_map, List.getElem?_eq_getElem hi]
  exact (l[i]).2
end Go.Proofs.Ytbhjaoedlggbbaa.Sep
