/- The words of the packages word, ref01, ref03, in plain Lean. -/
import Derived.Test.YtbhjaoedlggbbaaShaPure4
import Derived.Test.YtbhjaoedlggbbaaSepW
namespace Go.Proofs.Ytbhjaoedlggbbaa.Sep
open Go Go.RowKit
set_option linter.unusedVariables false
set_option linter.unusedSimpArgs false
def putF (x : UInt64) (n : Nat) : List UInt8 := (List.range n).map fun i => (shr64 x (8 * i)).toUInt8
theorem putF_length (x : UInt64) (n : Nat) : (putF x n).length = n := by simp [putF]
theorem set_seg {α : Type} {f : α → Value} {ws : List α} {n k : Nat} {x : α} {z : Value} (hl : ws.length = k) (hk : k < n) :
    segs (ws.map f ++ List.replicate (n - k) z) k [f x] = (ws ++ [x]).map f ++ List.replicate (n - (k + 1)) z := by
  obtain ⟨d, hd⟩ : ∃ d, n - k = d + 1 := ⟨n - k - 1, by omega⟩
  subst hl
  rw [hd, show n - (ws.length + 1) = d by omega, List.replicate_succ]
  simp [segs, List.take_left', List.drop_append]
theorem set_segB {ws : List UInt8} {n k : Nat} {x : UInt8} {z : Value} (hl : ws.length = k) (hk : k < n) :
    segs (ws.map bV ++ List.replicate (n - k) z) k (bV x).cells.toList = (ws ++ [x]).map bV ++ List.replicate (n - (k + 1)) z := set_seg (f := bV) hl hk
theorem slOk_same {v : Value} {sz : Nat} {cs cs' : List Value} (h : slOk v sz cs) (hl : cs'.length = cs.length) : slOk v sz cs' := by
  rcases h with ⟨rfl, rfl⟩ | ⟨b, off, len, cap, rfl, h, hc⟩ | ⟨a, cap, rfl, rfl⟩
  · exact .inl ⟨rfl, List.length_eq_zero_iff.1 hl⟩
  · exact .inr (.inl ⟨b, off, len, cap, rfl, hl.trans h, hc⟩)
  · exact .inr (.inr ⟨a, cap, rfl, List.length_eq_zero_iff.1 hl⟩)
theorem shr64_div (x : UInt64) (i : Nat) (h : i < 8) : shr64 (x / 256) (8 * i) = shr64 x (8 * (i + 1)) := by
  unfold shr64
  rw [Nat.min_eq_left (by omega), Nat.min_eq_left (by omega), UInt64.toNat_div, show (256 : UInt64).toNat = 2 ^ 8 from rfl, ← Nat.shiftRight_eq_div_pow, ← Nat.shiftRight_add]
  congr 2; omega
theorem putF_succ (x : UInt64) (n : Nat) (h : n < 8) : putF x (n + 1) = (x % 256).toUInt8 :: putF (x / 256) n := by
  unfold putF
  rw [List.range_succ_eq_map, List.map_cons, List.map_map]
  congr 1
  · apply UInt8.toNat_inj.1
    have := x.toNat_lt
    simp [shr64]
  · refine List.map_congr_left fun i hi => ?_
    have := List.mem_range.1 hi
    rw [shr64_div x i (by omega)]; rfl
end Go.Proofs.Ytbhjaoedlggbbaa.Sep
