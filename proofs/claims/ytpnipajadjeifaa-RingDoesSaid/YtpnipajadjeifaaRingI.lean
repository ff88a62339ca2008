/- A ring that goes round, in plain Lean; a row of rows of bytes, opened. -/
import Derived.Test.YtpnipajadjeifaaRingH
import Derived.Test.YtpnipajadjeifaaSuperE
namespace Go.Proofs.Ytpnipajadjeifaa.Sep
open Go Go.RowKit
set_option linter.unusedVariables false
set_option linter.unusedSimpArgs false
theorem turn_step {ls : List (List UInt8)} {i sz : Nat} (hi : i < ls.length) (h : 0 < sz) : ((ls.take i).drop (i + 1 - sz)) ++ [ls.getD i []] = (ls.take (i + 1)).drop (i + 1 - sz) := by
  rw [List.take_add_one, List.drop_append_of_le_length (by simp; omega), List.getD_eq_getElem?_getD, List.getElem?_eq_getElem hi]; rfl
theorem turn_len {ls : List (List UInt8)} {i sz : Nat} (hi : i ≤ ls.length) : ((ls.take i).drop (i - sz)).length = i - (i - sz) := by simp; omega
theorem turn_len1 {ls : List (List UInt8)} {i sz : Nat} (hi : i ≤ ls.length) : ((ls.take i).drop (i + 1 - sz)).length = i - (i + 1 - sz) := by simp; omega
/-- What is read of each number behind all turns. -/
theorem turn_read {D : Dk} {sz : Nat} {ls : List (List UInt8)} (h : RI D 0 sz (ls.length - sz) ls.length (ls.drop (ls.length - sz))) {i : Nat} (hi : i < ls.length) :
    (((ls.length : Int) - sz ≤ i → (readR D.last 0 sz (ls.length - sz) ls.length (i : Int)).2 = 0 ∧ (readR D.last 0 sz (ls.length - sz) ls.length (i : Int)).1 = ls.getD i [])) ∧
    (¬ (ls.length : Int) - sz ≤ i → (readR D.last 0 sz (ls.length - sz) ls.length (i : Int)).2 = 8) := by
  constructor
  · intro h1
    obtain ⟨j, rfl⟩ : ∃ j, i = ls.length - sz + j := ⟨i - (ls.length - sz), by omega⟩
    rw [h.s.read (i := j) (by simp; omega)]
    refine ⟨rfl, ?_⟩
    rw [List.getD_eq_getElem?_getD, List.getElem?_drop, ← List.getD_eq_getElem?_getD]
  · intro h1
    rw [read_low (by omega)]
theorem rows_ex {α : Type} {Q : List Value → α → Prop} : ∀ (rows : List (List Value)), (∀ r, r ∈ rows → ∃ a, Q r a) → ∃ l : List α, l.length = rows.length ∧ ∀ (i : Nat) (r : List Value), rows[i]? = some r → ∃ a, l[i]? = some a ∧ Q r a
  | [], _ => ⟨[], rfl, fun i r h => by simp at h⟩
  | r :: rows, h => by
    obtain ⟨a, ha⟩ := h r (List.mem_cons_self ..)
    obtain ⟨l, hl, hr⟩ := rows_ex rows fun x hx => h x (List.mem_cons_of_mem _ hx)
    refine ⟨a :: l, by simp [hl], fun i x hx => ?_⟩
    cases i with
    | zero => simp at hx; subst hx; exact ⟨a, rfl, ha⟩
    | succ i => exact hr i x (by simpa using hx)
theorem flat_ones : ∀ (rows : List (List Value)), (∀ r, r ∈ rows → r.length = 1) → rows.flatten.length = rows.length ∧ ∀ (i : Nat) (r : List Value), rows[i]? = some r → rows.flatten.getD i undef :: [] = r
  | [], _ => ⟨rfl, fun i r h => by simp at h⟩
  | r :: rows, h => by
    obtain ⟨h1, h2⟩ := flat_ones rows fun x hx => h x (List.mem_cons_of_mem _ hx)
    have hr := h r (List.mem_cons_self ..)
    match r, hr with
    | [v], _ =>
      refine ⟨by simp [h1], fun i x hx => ?_⟩
      cases i with
      | zero => simp at hx; subst hx; rfl
      | succ i => exact h2 i x (by simpa using hx)
theorem tr_parts {P : Program} {W : World} {t e u : TypeId} {cs : List Value} (ht : P.underlying t = some (.slice e)) (he : P.underlying e = some (.slice u)) (hu : P.underlying u = some (.int .u8)) (hce : P.cellsOf e = 1) (hcu : P.cellsOf u = 1) (h : Tr P W t cs) :
    ∃ (v : Value) (vs : List Value) (ls : List (List UInt8)), cs = [v] ∧ Rd (memW W) v 1 vs ∧ Parts (memW W) ls vs := by
  obtain ⟨v, rows, rfl, hr, hl, hrows⟩ := tr_slice ht hce (by decide) h
  obtain ⟨ls, hls, hq⟩ := rows_ex (α := List UInt8) (Q := fun (r : List Value) (d : List UInt8) => ∃ w, r = [w] ∧ Rd (memW W) w 1 (d.map bV)) rows fun r hr => by
    obtain ⟨w, d, h1, h2, _⟩ := tr_bytes he hu hcu (hrows r hr).2
    exact ⟨d, w, h1, h2⟩
  obtain ⟨f1, f2⟩ := flat_ones rows fun r hr => (hrows r hr).1
  refine ⟨v, rows.flatten, ls, rfl, hr, ⟨by rw [f1, hls], fun i hi => ?_⟩⟩
  have hi2 : i < rows.length := by omega
  obtain ⟨d, hd, w, hw, hR⟩ := hq i rows[i] (List.getElem?_eq_getElem hi2)
  have h3 := f2 i rows[i] (List.getElem?_eq_getElem hi2)
  rw [hw] at h3
  cases h3
  rw [List.getD_eq_getElem?_getD (l := ls), hd]
  exact hR
end Go.Proofs.Ytpnipajadjeifaa.Sep
