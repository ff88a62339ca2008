/- Acts, opened. -/
import Derived.Test.YtpnipajadjeifaaRingJ
import Derived.Test.YtpnipajadjeifaaSuperE
namespace Go.Proofs.Ytpnipajadjeifaa.Sep
open Go Go.RowKit
set_option linter.unusedVariables false
set_option linter.unusedSimpArgs false
theorem rows_map {α : Type} {f : α → List Value} {p : α → Prop} : ∀ (rows : List (List Value)), (∀ r, r ∈ rows → ∃ a, r = f a ∧ p a) → ∃ l : List α, rows = l.map f ∧ ∀ a, a ∈ l → p a
  | [], _ => ⟨[], rfl, fun a h => by cases h⟩
  | r :: rows, h => by
    obtain ⟨a, rfl, ha⟩ := h r (List.mem_cons_self ..)
    obtain ⟨l, rfl, hl⟩ := rows_map rows fun x hx => h x (List.mem_cons_of_mem _ hx)
    exact ⟨a :: l, rfl, fun x hx => by
      rcases List.mem_cons.1 hx with rfl | hx
      · exact ha
      · exact hl x hx⟩
theorem tr_acts {P : Program} {W : World} {t e i y u o : TypeId} {cs : List Value} {fs : Array Field}
    (ht : P.underlying t = some (.slice e)) (he : P.underlying e = some (.struct fs))
    (hf : (fs[0]?).map (fun f => (f.type, f.offset)) = some (i, 0) ∧ (fs[1]?).map (fun f => (f.type, f.offset)) = some (y, 1) ∧ (fs[2]?).map (fun f => (f.type, f.offset)) = some (u, 2) ∧ (fs[3]?).map (fun f => (f.type, f.offset)) = some (o, 3) ∧ (fs[4]?).map (fun f => (f.type, f.offset)) = some (u, 4) ∧ (fs[5]?).map (fun f => (f.type, f.offset)) = some (o, 5))
    (hi : P.underlying i = some (.int .i64)) (hy : P.underlying y = some (.slice u)) (hu : P.underlying u = some (.int .u8)) (ho : P.underlying o = some .bool)
    (hc : P.cellsOf e = 6 ∧ P.cellsOf i = 1 ∧ P.cellsOf y = 1 ∧ P.cellsOf u = 1 ∧ P.cellsOf o = 1) (h : Tr P W t cs) :
    ∃ (v : Value) (l : List Act36), cs = [v] ∧ ActsOk (memW W) v l := by
  obtain ⟨v, rows, rfl, hr, hl, hrows⟩ := tr_slice ht hc.1 (by decide) h
  obtain ⟨l, rfl, hp⟩ := rows_map (f := actC) (p := fun a => Rd (memW W) a.bv 1 (a.b.map bV)) rows fun r hr => by
    obtain ⟨h6, hT⟩ := hrows r hr
    have h0 := tr_field he hf.1 hc.2.1 hT
    have h1 := tr_field he hf.2.1 hc.2.2.1 hT
    have h2 := tr_field he hf.2.2.1 hc.2.2.2.1 hT
    have h3 := tr_field he hf.2.2.2.1 hc.2.2.2.2 hT
    have h4 := tr_field he hf.2.2.2.2.1 hc.2.2.2.1 hT
    have h5 := tr_field he hf.2.2.2.2.2 hc.2.2.2.2 hT
    match r, h6 with
    | [a0, a1, a2, a3, a4, a5], _ =>
      obtain ⟨k, e0, _⟩ := tr_int hi h0
      obtain ⟨w, d, e1, hd, _⟩ := tr_bytes hy hu hc.2.2.2.1 h1
      obtain ⟨b2, e2⟩ := tr_byte hu h2
      obtain ⟨b3, e3⟩ := tr_bool ho h3
      obtain ⟨b4, e4⟩ := tr_byte hu h4
      obtain ⟨b5, e5⟩ := tr_bool ho h5
      simp at e0 e1 e2 e3 e4 e5
      subst e0 e1 e2 e3 e4 e5
      exact ⟨⟨k, a1, d, b2, b3, b4, b5⟩, rfl, hd⟩
  refine ⟨v, l, rfl, ⟨?_, hp⟩⟩
  rw [← List.flatMap_def] at hr
  exact hr
end Go.Proofs.Ytpnipajadjeifaa.Sep
