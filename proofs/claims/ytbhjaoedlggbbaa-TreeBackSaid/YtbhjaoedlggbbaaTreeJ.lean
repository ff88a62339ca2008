/- A list of texts, opened. -/
import Derived.Test.YtbhjaoedlggbbaaSepX
import Derived.Test.YtbhjaoedlggbbaaTreeD
namespace Go.Proofs.Ytbhjaoedlggbbaa.Sep
open Go Go.RowKit
set_option linter.unusedVariables false
set_option linter.unusedSimpArgs false
theorem tr_texts {P : Program} {W : World} {t : TypeId} {cs : List Value} {e b : TypeId} (ht : P.underlying t = some (.slice e)) (he : P.underlying e = some (.slice b)) (hb : P.underlying b = some (.int .u8)) (hc : P.cellsOf e = 1) (hc1 : P.cellsOf b = 1)
    (h : Tr P W t cs) : ∃ (v : Value) (ls : List (List UInt8)) (vs : List Value), cs = [v] ∧ Rds (memW W) v ls vs := by
  obtain ⟨v, rows, rfl, hr, hl, hrows⟩ := tr_slice ht hc (by decide) h
  obtain ⟨l, rfl⟩ := rows_of (Q := Tr P W e) (f := fun p : { p : Value × List UInt8 // Rd (memW W) p.1 1 (p.2.map bV) } => [p.1.1]) (fun r hr => by
    obtain ⟨v, d, rfl, h1, _⟩ := tr_bytes he hb hc1 hr
    exact ⟨⟨(v, d), h1⟩, rfl⟩) rows (fun r hr => (hrows r hr).2)
  rw [flat_single] at hr
  refine ⟨v, l.map (·.1.2), l.map (·.1.1), rfl, hr, by simp, fun i hi => ?_⟩
  rw [List.length_map] at hi
  rw [List.getD_eq_getElem?_getD, List.getD_eq_getElem?_getD, List.getElem?_map, List.getElem?_map, List.getElem?_eq_getElem hi]
  exact (l[i]).2
theorem flat_hs : ∀ (l : List (List UInt8)), (l.map fun d => d.map bV).flatten = hC l
  | [] => rfl
  | d :: l => by rw [List.map_cons, List.flatten_cons, flat_hs l]; simp [hC]
theorem tr_hashes {P : Program} {W : World} {t : TypeId} {cs : List Value} {e b : TypeId} (ht : P.underlying t = some (.slice e)) (he : P.underlying e = some (.array 32 b)) (hb : P.underlying b = some (.int .u8)) (hc : P.cellsOf e = 32) (hc1 : P.cellsOf b = 1)
    (h : Tr P W t cs) : ∃ (v : Value) (ps : List (List UInt8)), cs = [v] ∧ Rd (memW W) v 32 (hC ps) ∧ HsOk ps := by
  obtain ⟨v, rows, rfl, hr, hl, hrows⟩ := tr_slice ht hc (by decide) h
  obtain ⟨l, rfl⟩ := rows_of (Q := Tr P W e) (f := fun p : { d : List UInt8 // d.length = 32 } => p.1.map bV) (fun r hr => by
    obtain ⟨d, rfl, h1⟩ := tr_bytesArr he hb hc1 hc hr
    exact ⟨⟨d, h1⟩, rfl⟩) rows (fun r hr => (hrows r hr).2)
  refine ⟨v, l.map (·.1), rfl, ?_, fun h hh => ?_⟩
  · rw [← flat_hs, List.map_map]; exact hr
  · obtain ⟨d, _, rfl⟩ := List.mem_map.1 hh
    exact d.2
theorem tr_proof {P : Program} {W : World} {t : TypeId} {cs : List Value} {fs : Array Field} {a b c e u : TypeId}
    (ht : P.underlying t = some (.struct fs)) (hf : (fs[0]?).map (fun f => (f.type, f.offset)) = some (a, 0) ∧ (fs[1]?).map (fun f => (f.type, f.offset)) = some (b, 1) ∧ (fs[2]?).map (fun f => (f.type, f.offset)) = some (c, 2))
    (hta : P.underlying a = some (.int .i64) ∧ P.cellsOf a = 1 ∧ P.underlying b = some (.int .i64) ∧ P.cellsOf b = 1) (htc : P.underlying c = some (.slice e) ∧ P.cellsOf c = 1)
    (hte : P.underlying e = some (.array 32 u) ∧ P.cellsOf e = 32) (htu : P.underlying u = some (.int .u8) ∧ P.cellsOf u = 1) (hct : P.cellsOf t = 3)
    (h : Tr P W t cs) : ∃ (k n : Int) (pv : Value) (ps : List (List UInt8)), cs = [.int .i64 k, .int .i64 n, pv] ∧ Rd (memW W) pv 32 (hC ps) ∧ HsOk ps := by
  have hl := (tr_struct ht h).1
  rw [hct] at hl
  have h0 := tr_field ht hf.1 hta.2.1 h
  have h1 := tr_field ht hf.2.1 hta.2.2.2 h
  have h2 := tr_field ht hf.2.2 htc.2 h
  match cs, hl with
  | [p, q, r], _ =>
    obtain ⟨k, e0, _⟩ := tr_int hta.1 h0
    obtain ⟨n, e1, _⟩ := tr_int hta.2.2.1 h1
    obtain ⟨pv, ps, e2, hr, ok⟩ := tr_hashes htc.1 hte.1 htu.1 hte.2 htu.2 h2
    simp at e0 e1 e2
    subst e0 e1 e2
    exact ⟨k, n, r, ps, rfl, hr, ok⟩
end Go.Proofs.Ytbhjaoedlggbbaa.Sep
