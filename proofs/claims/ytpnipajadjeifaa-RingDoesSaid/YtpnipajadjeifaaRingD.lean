/- Models of a ring; acts, as the statements tell them; plain Lean. -/
import Derived.Test.YtpnipajadjeifaaRingC
namespace Go.Proofs.Ytpnipajadjeifaa.Sep
open Go Go.RowKit
set_option linter.unusedVariables false
set_option linter.unusedSimpArgs false
theorem Parts.one {μ : Mem} {ls : List (List UInt8)} {vs : List Value} (h : Parts μ ls vs) : ∀ u, u ∈ vs → one u = true := by
  intro u hu
  obtain ⟨i, hi, rfl⟩ := List.getElem_of_mem hu
  have := h.part i (by rw [← h.len]; exact hi)
  rw [List.getD_eq_getElem?_getD, List.getElem?_eq_getElem hi] at this
  exact one_sl this.1
theorem Parts.drop {μ : Mem} {ls : List (List UInt8)} {vs : List Value} (h : Parts μ ls vs) (k : Nat) : Parts μ (ls.drop k) (vs.drop k) := by
  refine ⟨by rw [List.length_drop, List.length_drop, h.len], fun i hi => ?_⟩
  rw [List.length_drop] at hi
  have := h.part (k + i) (by omega)
  rw [List.getD_eq_getElem?_getD, List.getElem?_drop, ← List.getD_eq_getElem?_getD, List.getD_eq_getElem?_getD (l := ls.drop k), List.getElem?_drop, ← List.getD_eq_getElem?_getD]
  exact this
theorem slc_drop {μ : Mem} {v : Value} {vs : List Value} {n : Nat} (h : Rd μ v 1 vs) (hn : vs.length = n) (h1 : 1 ≤ n) : Rd μ (slc v 1 n 1) 1 (vs.drop 1) := by
  have := slc_rd (l := 1) (h := n) (n := n) h (by rw [hn, Nat.mul_one]) h1 (Nat.le_refl _) (by decide)
  rw [Nat.mul_one, Nat.mul_one, List.take_of_length_le (by rw [List.length_drop, hn]; exact Nat.le_refl _)] at this
  exact this
/-- The code that the reference tells of a record more. -/
def c36 (ms mt : Nat) (ml : List (List UInt8)) (b : List UInt8) : Nat := if ms ≤ ml.length then 6 else (putR ((mt + ml.length : Nat) : Int) b).2
/-- How many the reference drops. -/
def q36 (mt : Nat) (ml : List (List UInt8)) (to : Nat) : Nat := min ml.length (to - mt)
def mC (ms mt : Nat) (v : Value) : List Value := [iV ms, iV mt, v]
structure Act36 where
  kind : Int
  bv : Value
  b : List UInt8
  to : UInt8
  power : Bool
  fuse : UInt8
  keep : Bool
def actC (o : Act36) : List Value := [.int .i64 o.kind, o.bv, bV o.to, .bool o.power, bV o.fuse, .bool o.keep]
def actsC (l : List Act36) : List Value := l.flatMap actC
structure ActsOk (μ : Mem) (v : Value) (l : List Act36) : Prop where
  rd : Rd μ v 6 (actsC l)
  part : ∀ o, o ∈ l → Rd μ o.bv 1 (o.b.map bV)
theorem actsC_length (l : List Act36) : (actsC l).length = l.length * 6 := by
  induction l with
  | nil => rfl
  | cons o l ih => rw [actsC, List.flatMap_cons, List.length_append, ← actsC, ih, List.length_cons]; show 6 + _ = _; omega
def act0 : Act36 := ⟨0, undef, [], 0, false, 0, false⟩
theorem actsC_get : ∀ (l : List Act36) (i j : Nat), i < l.length → j < 6 → (actsC l)[i * 6 + j]? = (actC (l.getD i act0))[j]?
  | [], i, j, h, _ => by simp at h
  | o :: l, 0, j, _, hj => by
    rw [actsC, List.flatMap_cons, Nat.zero_mul, Nat.zero_add, List.getElem?_append_left (by show j < 6; exact hj)]; rfl
  | o :: l, i + 1, j, h, hj => by
    rw [actsC, List.flatMap_cons, List.getElem?_append_right (by show 6 ≤ _; omega), ← actsC]
    rw [show (i + 1) * 6 + j - (actC o).length = i * 6 + j by show (i + 1) * 6 + j - 6 = _; omega]
    exact actsC_get l i j (by simpa using h) hj
theorem getD_mem {l : List Act36} {i : Nat} (h : i < l.length) : l.getD i act0 ∈ l := by
  rw [List.getD_eq_getElem?_getD, List.getElem?_eq_getElem h]; exact List.getElem_mem h
def lightB (l : List Act36) : Bool := decide (l.length ≤ 60) && l.all fun o => decide (o.b.length ≤ 300)
theorem light_far {l : List Act36} (h : 60 < l.length) : lightB l = false := by
  rw [lightB, decide_eq_false (by omega), Bool.false_and]
theorem light_long {l : List Act36} {i : Nat} (hi : i < l.length) (h : 300 < (l.getD i act0).b.length) : lightB l = false := by
  rw [lightB, Bool.and_eq_false_iff]
  right
  rw [List.all_eq_false]
  exact ⟨_, getD_mem hi, by simpa using h⟩
theorem light_ok {l : List Act36} (h : ¬ 60 < l.length) (h2 : ∀ i, i < l.length → (l.getD i act0).b.length ≤ 300) : lightB l = true := by
  rw [lightB, decide_eq_true (by omega), Bool.true_and, List.all_eq_true]
  intro o ho
  obtain ⟨i, hi, rfl⟩ := List.getElem_of_mem ho
  have := h2 i hi
  rw [List.getD_eq_getElem?_getD, List.getElem?_eq_getElem hi] at this
  exact decide_eq_true this
end Go.Proofs.Ytpnipajadjeifaa.Sep
