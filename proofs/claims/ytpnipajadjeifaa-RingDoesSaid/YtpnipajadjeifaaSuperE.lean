/- Arguments opened: a plan of four numbers, numbers of two and four bytes, a row of yes and no. -/
import Derived.Test.YtpnipajadjeifaaSepX
namespace Go.Proofs.Ytpnipajadjeifaa.Sep
open Go Go.RowKit
set_option linter.unusedVariables false
set_option linter.unusedSimpArgs false
theorem wf_u16 {n : Int} (h : (Lit.int .u16 n).wf = true) : ∃ k : Nat, k < 65536 ∧ n = (k : Int) := by
  simp [Lit.wf, IntKind.min, IntKind.max, IntKind.bits, IntKind.signed] at h
  exact ⟨n.toNat, by omega, by omega⟩
theorem wf_u32 {n : Int} (h : (Lit.int .u32 n).wf = true) : ∃ x : UInt32, n = (x.toNat : Int) := by
  simp [Lit.wf, IntKind.min, IntKind.max, IntKind.bits, IntKind.signed] at h
  refine ⟨UInt32.ofNat n.toNat, ?_⟩
  rw [UInt32.toNat_ofNat', Nat.mod_eq_of_lt (by omega)]
  omega
theorem wf_i64 {n : Int} (h : (Lit.int .i64 n).wf = true) : -9223372036854775808 ≤ n ∧ n ≤ 9223372036854775807 := by
  simp [Lit.wf, IntKind.min, IntKind.max, IntKind.bits, IntKind.signed] at h
  omega
theorem tr_plan {P : Program} {W : World} {t i : TypeId} {cs : List Value} {fs : Array Field}
    (ht : P.underlying t = some (.struct fs)) (hf : (fs[0]?).map (fun f => (f.type, f.offset)) = some (i, 0) ∧ (fs[1]?).map (fun f => (f.type, f.offset)) = some (i, 1) ∧ (fs[2]?).map (fun f => (f.type, f.offset)) = some (i, 2) ∧ (fs[3]?).map (fun f => (f.type, f.offset)) = some (i, 3))
    (hti : P.underlying i = some (.int .i64)) (hci : P.cellsOf i = 1) (hct : P.cellsOf t = 4)
    (h : Tr P W t cs) : ∃ (a b c d : Int), cs = [.int .i64 a, .int .i64 b, .int .i64 c, .int .i64 d] := by
  have hl := (tr_struct ht h).1
  rw [hct] at hl
  have h0 := tr_field ht hf.1 hci h
  have h1 := tr_field ht hf.2.1 hci h
  have h2 := tr_field ht hf.2.2.1 hci h
  have h3 := tr_field ht hf.2.2.2 hci h
  match cs, hl with
  | [p, q, r, s], _ =>
    obtain ⟨a, e0, _⟩ := tr_int hti h0
    obtain ⟨b, e1, _⟩ := tr_int hti h1
    obtain ⟨c, e2, _⟩ := tr_int hti h2
    obtain ⟨d, e3, _⟩ := tr_int hti h3
    simp at e0 e1 e2 e3
    subst e0 e1 e2 e3
    exact ⟨a, b, c, d, rfl⟩
theorem flat_bools : ∀ l : List Bool, (l.map fun b => [Value.bool b]).flatten = l.map Value.bool
  | [] => rfl
  | b :: l => by rw [List.map_cons, List.flatten_cons, flat_bools l]; rfl
theorem tr_bools {P : Program} {W : World} {t e : TypeId} {cs : List Value} (ht : P.underlying t = some (.slice e)) (he : P.underlying e = some .bool) (hc : P.cellsOf e = 1) (h : Tr P W t cs) :
    ∃ (v : Value) (d : List Bool), cs = [v] ∧ Rd (memW W) v 1 (d.map Value.bool) ∧ d.length ≤ maxLen := by
  obtain ⟨v, rows, rfl, hr, hl, hrows⟩ := tr_slice ht hc (by decide) h
  obtain ⟨d, rfl⟩ := rows_of (Q := Tr P W e) (f := fun b : Bool => [Value.bool b]) (fun r hr => tr_bool he hr) rows (fun r hr => (hrows r hr).2)
  rw [flat_bools] at hr
  exact ⟨v, d, rfl, hr, by simpa using hl⟩
end Go.Proofs.Ytpnipajadjeifaa.Sep
