/- What a ring's acts come to, in plain Lean. -/
import Derived.Test.YtpnipajadjeifaaRingB
namespace Go.Proofs.Ytpnipajadjeifaa.Sep
open Go Go.RowKit
set_option linter.unusedVariables false
set_option linter.unusedSimpArgs false
def allL (S : List (List UInt8)) (fr sz tl hd k : Nat) : List (List UInt8) := (List.range k).map fun i => (readR S fr sz tl hd ((tl + i : Nat) : Int)).1
theorem allL_succ (S : List (List UInt8)) (fr sz tl hd k : Nat) : allL S fr sz tl hd (k + 1) = allL S fr sz tl hd k ++ [(readR S fr sz tl hd ((tl + k : Nat) : Int)).1] := by simp [allL, List.range_succ]
theorem allL_length (S : List (List UInt8)) (fr sz tl hd k : Nat) : (allL S fr sz tl hd k).length = k := by simp [allL]
/-- A record written at the head: the disk, the head, the number told, the code. -/
def appF (D : Dk) (fr sz tl hd : Nat) (b : List UInt8) : Dk × Nat × Nat × Nat :=
  if sz ≤ hd - tl then (D, hd, 0, 6) else
  if (putR hd b).2 ≠ 0 then (D, hd, 0, (putR hd b).2) else
  if (writeF D ((fr + hd % sz : Nat) : Int) (putR hd b).1).2 ≠ 0 then ((writeF D ((fr + hd % sz : Nat) : Int) (putR hd b).1).1, hd, 0, (writeF D ((fr + hd % sz : Nat) : Int) (putR hd b).1).2) else
  if (flushF (writeF D ((fr + hd % sz : Nat) : Int) (putR hd b).1).1).2 ≠ 0 then ((flushF (writeF D ((fr + hd % sz : Nat) : Int) (putR hd b).1).1).1, hd, 0, (flushF (writeF D ((fr + hd % sz : Nat) : Int) (putR hd b).1).1).2) else
  ((flushF (writeF D ((fr + hd % sz : Nat) : Int) (putR hd b).1).1).1, hd + 1, hd, 0)
/-- So many records dropped at the tail: the disk, the tail, how many, the code. -/
def dropN (fr sz : Nat) : Nat → Dk → Nat → Nat → Dk × Nat × Nat × Nat
  | 0, D, tl, n => (D, tl, n, 0)
  | k + 1, D, tl, n =>
    if (writeF D ((fr + tl % sz : Nat) : Int) zero256).2 ≠ 0 then ((writeF D ((fr + tl % sz : Nat) : Int) zero256).1, tl, n, (writeF D ((fr + tl % sz : Nat) : Int) zero256).2) else
    if (flushF (writeF D ((fr + tl % sz : Nat) : Int) zero256).1).2 ≠ 0 then ((flushF (writeF D ((fr + tl % sz : Nat) : Int) zero256).1).1, tl, n, (flushF (writeF D ((fr + tl % sz : Nat) : Int) zero256).1).2) else
    dropN fr sz k (flushF (writeF D ((fr + tl % sz : Nat) : Int) zero256).1).1 (tl + 1) (n + 1)
theorem cells_sl {v : Value} {sz : Nat} {cs : List Value} (h : slOk v sz cs) : v.cells.toList = [v] := by
  rcases h with ⟨rfl, _⟩ | ⟨b, off, len, cap, rfl, _⟩ | ⟨a, cap, rfl, _⟩ <;> rfl
theorem size_sl {v : Value} {sz : Nat} {cs : List Value} (h : slOk v sz cs) : v.cells.size = 1 := by
  rw [← Array.length_toList, cells_sl h]; rfl
theorem flushF_wait {D : Dk} (h : (flushF D).2 = 0) : (flushF D).1.wait = [] := by
  unfold flushF at h ⊢
  split
  · rfl
  · rename_i h1
    rw [if_neg h1] at h
    exact absurd h h1
theorem rg_lt {b fr sz tl hd i : Nat} (h : i < 5) : 0 + i < (rgC b fr sz tl hd).length := by rw [Nat.zero_add]; exact h
theorem rgC_set1 {b fr sz a tl hd : Nat} (h1 : a = tl) (h2 : (a : Int) = (hd : Int)) : ((rgC b fr sz 0 0).set (0 + 3) (iV a)).set (0 + 4) (iV a) = rgC b fr sz tl hd := by
  obtain rfl : a = hd := Int.ofNat.inj h2
  subst h1; rfl
theorem rgC_set2 {b fr sz a c tl hd : Nat} {x : Int} (h1 : c = tl) (h2 : x = (hd : Int)) : ((((rgC b fr sz 0 0).set (0 + 3) (iV a)).set (0 + 4) (iV a)).set (0 + 3) (iV c)).set (0 + 4) (.int .i64 x) = rgC b fr sz tl hd := by
  subst h1 h2; rfl
theorem rgC_tl (b fr sz tl hd v : Nat) : (rgC b fr sz tl hd).set (0 + 3) (iV v) = rgC b fr sz v hd := rfl
theorem rgC_hd (b fr sz tl hd v : Nat) : (rgC b fr sz tl hd).set (0 + 4) (iV v) = rgC b fr sz tl v := rfl
end Go.Proofs.Ytpnipajadjeifaa.Sep
