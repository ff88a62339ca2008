/- Lists of slices that are read. -/
import Derived.Test.YtbhjaoedlggbbaaShaPure3
namespace Go.Proofs.Ytbhjaoedlggbbaa.Sep
open Go Go.RowKit
set_option linter.unusedVariables false
set_option linter.unusedSimpArgs false
/-- A slice of slices of bytes, read. -/
structure Rds (μ : Mem) (v : Value) (ls : List (List UInt8)) (vs : List Value) : Prop where
  rd : Rd μ v 1 vs
  len : vs.length = ls.length
  part : ∀ i, i < ls.length → Rd μ (vs.getD i undef) 1 ((ls.getD i []).map bV)
theorem Rds.mono {μ μ' : Mem} {v : Value} {ls : List (List UInt8)} {vs : List Value} (h : Rds μ v ls vs) (hm : ∀ a u, μ a u → μ' a u) : Rds μ' v ls vs :=
  ⟨h.rd.mono hm, h.len, fun i hi => (h.part i hi).mono hm⟩
theorem Rds.ro {m : Mem} {L : List Chunk} {v : Value} {ls : List (List UInt8)} {vs : List Value} (h : Rds m v ls vs) : Rds (memOf m L) v ls vs := h.mono fun _ _ => .inl
theorem get_D {vs : List Value} {i : Nat} (h : i < vs.length) : vs[i]? = some (vs.getD i undef) := by
  rw [List.getD_eq_getElem?_getD, List.getElem?_eq_getElem h]; rfl
theorem take_flat {ls : List (List UInt8)} {i : Nat} (h : i < ls.length) : (ls.take (i + 1)).flatten = (ls.take i).flatten ++ ls.getD i [] := by
  rw [List.take_add_one, List.flatten_append, List.getD_eq_getElem?_getD, List.getElem?_eq_getElem h]; simp
theorem add_len (a b : Nat) : UInt64.ofNat a + UInt64.ofNat b = UInt64.ofNat (a + b) := by simp
end Go.Proofs.Ytbhjaoedlggbbaa.Sep
