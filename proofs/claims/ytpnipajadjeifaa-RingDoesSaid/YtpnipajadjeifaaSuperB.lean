/- Supers on a disk: which of two is read, and how one is written anew; plain Lean. -/
import Derived.Test.YtpnipajadjeifaaDiskA
namespace Go.Proofs.Ytpnipajadjeifaa.Sep
open Go Go.RowKit
set_option linter.unusedVariables false
set_option linter.unusedSimpArgs false
theorem supK_ne {x : List UInt8} : supK x ≠ 0 ↔ ¬ goodS x := by unfold supK; split <;> simp_all
theorem supK_eq {x : List UInt8} : supK x = 0 ↔ goodS x := by unfold supK; split <;> simp_all
theorem zero256_bad : ¬ goodS zero256 := by
  intro h
  have h8 : zero256.take 8 = List.replicate 8 0 := by rw [zero256, List.take_replicate]; rfl
  have h1 := h.1.2
  rw [h8] at h1
  exact absurd h1 (by decide)
theorem supC_zero : supC zero256 = [iV 0, iV 0, iV 0, iV 0, iV 0] := supC_bad zero256_bad
/-- Of two sectors: the one that was written last, which it is, the code. -/
def chooseZ (x y : List UInt8) : List UInt8 × Nat × Nat :=
  if ¬ goodS x ∧ ¬ goodS y then (zero256, 0, 5)
  else if ¬ goodS x ∨ (goodS y ∧ gN x 16 8 < gN y 16 8) then (y, 1, 0) else (x, 0, 0)
theorem chooseZ_good {x y : List UInt8} (h : (chooseZ x y).2.2 = 0) : goodS (chooseZ x y).1 := by
  unfold chooseZ at h ⊢
  split at h
  · cases h
  · rename_i h1
    rw [if_neg h1]
    split
    · rename_i h2
      rcases h2 with h2 | h2
      · exact Decidable.byContradiction fun h3 => h1 ⟨h2, h3⟩
      · exact h2.1
    · rename_i h2
      exact Decidable.byContradiction fun h3 => h2 (.inl h3)
theorem chooseZ_at (x y : List UInt8) : (chooseZ x y).2.1 ≤ 1 := by
  unfold chooseZ; split
  · exact Nat.zero_le _
  · split <;> simp
def readZ (D : Dk) : List UInt8 × Nat × Nat :=
  if (readF D 0).2 ≠ 0 ∨ (readF D 1).2 ≠ 0 then (zero256, 0, max (readF D 0).2 (readF D 1).2) else chooseZ (readF D 0).1 (readF D 1).1
theorem readZ_good {D : Dk} (h : (readZ D).2.2 = 0) : goodS (readZ D).1 := by
  unfold readZ at h ⊢
  split at h
  · rename_i h1
    simp only at h
    omega
  · rename_i h1
    rw [if_neg h1]
    exact chooseZ_good h
theorem readZ_at (D : Dk) : (readZ D).2.1 ≤ 1 := by
  unfold readZ; split
  · exact Nat.zero_le _
  · exact chooseZ_at _ _
/-- What is put anew of a super. -/
def nextS (z : List UInt8) : List UInt8 × Nat := putS (gN z 8 2) (gN z 10 2) (gN z 12 2) (gN z 14 2) (gN z 16 8 + 1 : Nat)
def nextC (z : List UInt8) : List Value := [iV (gN z 8 2), iV (gN z 10 2), iV (gN z 12 2), iV (gN z 14 2), iV (gN z 16 8 + 1)]
def Z5 : List Value := [iV 0, iV 0, iV 0, iV 0, iV 0]
def bumpF (D : Dk) : Dk × List Value × Nat :=
  if (readZ D).2.2 ≠ 0 then (D, Z5, (readZ D).2.2) else
  if (nextS (readZ D).1).2 ≠ 0 then (D, Z5, (nextS (readZ D).1).2) else
  if (writeF D ((1 - (readZ D).2.1 : Nat) : Int) (nextS (readZ D).1).1).2 ≠ 0 then ((writeF D ((1 - (readZ D).2.1 : Nat) : Int) (nextS (readZ D).1).1).1, Z5, (writeF D ((1 - (readZ D).2.1 : Nat) : Int) (nextS (readZ D).1).1).2) else
  if (flushF (writeF D ((1 - (readZ D).2.1 : Nat) : Int) (nextS (readZ D).1).1).1).2 ≠ 0 then ((flushF (writeF D ((1 - (readZ D).2.1 : Nat) : Int) (nextS (readZ D).1).1).1).1, Z5, (flushF (writeF D ((1 - (readZ D).2.1 : Nat) : Int) (nextS (readZ D).1).1).1).2) else
  ((flushF (writeF D ((1 - (readZ D).2.1 : Nat) : Int) (nextS (readZ D).1).1).1).1, nextC (readZ D).1, 0)
theorem writeF_last (D : Dk) (i : Int) (s : List UInt8) : (writeF D i s).1.last = D.last := by
  unfold writeF; split
  · split
    · exact stepF_last D
    · exact stepF_last D
  · rfl
theorem nextS_len (z : List UInt8) : (nextS z).1.length = 256 := putS_length ..
/-! for the walks -/
theorem chA {x y : List UInt8} (h : supK x ≠ 0) : (decide (supK y ≠ 0) = true ↔ ¬ goodS x ∧ ¬ goodS y) := by
  rw [supK_ne] at h
  rw [decide_eq_true_iff, supK_ne]
  exact ⟨fun k => ⟨h, k⟩, fun k => k.2⟩
theorem chB {x y : List UInt8} (h : ¬ supK x ≠ 0) : (false = true ↔ ¬ goodS x ∧ ¬ goodS y) := by
  rw [supK_ne] at h
  exact ⟨fun k => (by cases k), fun k => absurd k.1 h⟩
theorem chC {x y : List UInt8} (h : supK x ≠ 0) : (true = true ↔ ¬ goodS x ∨ (goodS y ∧ gN x 16 8 < gN y 16 8)) :=
  ⟨fun _ => .inl (supK_ne.1 h), fun _ => rfl⟩
theorem chD {x y : List UInt8} (h : ¬ supK x ≠ 0) (k : supK y = 0) : (decide (gN x 16 8 < gN y 16 8) = true ↔ ¬ goodS x ∨ (goodS y ∧ gN x 16 8 < gN y 16 8)) := by
  rw [decide_eq_true_iff]
  rw [supK_ne] at h
  rw [supK_eq] at k
  exact ⟨fun a => .inr ⟨k, a⟩, fun a => a.elim (fun b => absurd b h) fun b => b.2⟩
theorem chE {x y : List UInt8} (h : ¬ supK x ≠ 0) (k : ¬ supK y = 0) : (false = true ↔ ¬ goodS x ∨ (goodS y ∧ gN x 16 8 < gN y 16 8)) := by
  rw [supK_ne] at h
  rw [supK_eq] at k
  exact ⟨fun a => (by cases a), fun a => a.elim (fun b => absurd b h) fun b => absurd b.1 k⟩
theorem chF {x y : List UInt8} (h : supK x = 0) (k : supK y ≠ 0) : (true = true ↔ goodS x ∧ (¬ goodS y ∨ gN y 16 8 ≤ gN x 16 8)) :=
  ⟨fun _ => ⟨supK_eq.1 h, .inl (supK_ne.1 k)⟩, fun _ => rfl⟩
theorem chG {x y : List UInt8} (h : supK x = 0) (k : ¬ supK y ≠ 0) : (decide (gN y 16 8 ≤ gN x 16 8) = true ↔ goodS x ∧ (¬ goodS y ∨ gN y 16 8 ≤ gN x 16 8)) := by
  rw [decide_eq_true_iff]
  rw [supK_ne] at k
  exact ⟨fun a => ⟨supK_eq.1 h, .inr a⟩, fun a => a.2.elim (fun b => absurd b k) id⟩
theorem chH {x y : List UInt8} (h : ¬ supK x = 0) : (false = true ↔ goodS x ∧ (¬ goodS y ∨ gN y 16 8 ≤ gN x 16 8)) := by
  rw [supK_eq] at h
  exact ⟨fun a => (by cases a), fun a => absurd a.1 h⟩
theorem supC_of {z : List UInt8} (h : goodS z) : supC z = [iV (gN z 8 2), iV (gN z 10 2), iV (gN z 12 2), iV (gN z 14 2), iV (gN z 16 8)] := if_pos h
theorem readF_len {D : Dk} (ok : D.Ok) (i : Int) : (readF D i).1.length = 256 := by
  unfold readF
  split
  · split
    · exact List.length_replicate
    · rename_i h _
      unfold seeF
      show ((aget (nowL D.wait) _).getD (D.last.getD i.toNat [])).length = 256
      have hl : (D.last.getD i.toNat []).length = 256 := ok.sec.getD (by unfold inF at h; omega)
      cases ha : aget (nowL D.wait) (i.toNat : Int) with
      | none => exact hl
      | some s =>
        have := now_len ok.wait (i.toNat : Int)
        rw [ha] at this
        exact this
  · exact List.length_replicate
end Go.Proofs.Ytpnipajadjeifaa.Sep
