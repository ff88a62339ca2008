/- The other SHA-256 (package ref03), in plain Lean: it is the same. -/
import Derived.Test.YtbhjaoedlggbbaaTreeB
namespace Go.Proofs.Ytbhjaoedlggbbaa.Sep
open Go Go.RowKit
set_option linter.unusedVariables false
set_option linter.unusedSimpArgs false
theorem lenBytes_up (n : UInt64) (j : Nat) (h : j < 8) : (lenBytes n).take (j + 1) = (lenBytes n).take j ++ [(shr64 (n * 8) (56 - 8 * j)).toUInt8] := by
  rw [List.take_add_one]
  congr 1
  rw [lenBytes, List.getElem?_map, List.getElem?_range h, Option.map_some, UInt64.mul_comm, show 8 * (7 - j) = 56 - 8 * j by omega]
  rfl
theorem not_sub (e : UInt32) : 4294967295 - e = ~~~e := by
  apply UInt32.toNat_inj.1
  have := e.toNat_lt
  rw [UInt32.toNat_sub, UInt32.toNat_not]
  simp [UInt32.size]
  omega
theorem firstW_drop (l : List UInt8) (a i : Nat) (h : i < 16) : (l.getD (a + 4 * i) 0).toUInt32 * 16777216 + (l.getD (a + 4 * i + 1) 0).toUInt32 * 65536 + (l.getD (a + 4 * i + 2) 0).toUInt32 * 256 + (l.getD (a + 4 * i + 3) 0).toUInt32 = firstW (l.drop a) i := by
  have e : ∀ k, (l.drop a).getD k 0 = l.getD (a + k) 0 := fun k => by simp [List.getD_eq_getElem?_getD]
  simp only [firstW, e, ← Nat.add_assoc]
  generalize l.getD (a + 4 * i) 0 = p
  generalize l.getD (a + 4 * i + 1) 0 = q
  generalize l.getD (a + 4 * i + 2) 0 = r
  generalize l.getD (a + 4 * i + 3) 0 = s
  apply UInt32.toNat_inj.1
  have hp := p.toNat_lt
  have hq := q.toNat_lt
  have hr := r.toNat_lt
  have hs := s.toNat_lt
  have sh : ∀ (b : UInt8) (k : Nat), k ≤ 24 → (shl32 b.toUInt32 k).toNat = b.toNat <<< k := fun b k hk => by
    have hb := b.toNat_lt
    simp only [shl32, UInt32.toNat_ofNat', UInt8.toNat_toUInt32, Nat.min_eq_left (by omega : k ≤ 32)]
    refine Nat.mod_eq_of_lt ?_
    rw [Nat.shiftLeft_eq]
    exact Nat.lt_of_lt_of_le (Nat.mul_lt_mul_of_pos_right hb (Nat.two_pow_pos k)) (by
      calc 2 ^ 8 * 2 ^ k ≤ 2 ^ 8 * 2 ^ 24 := Nat.mul_le_mul_left _ (Nat.pow_le_pow_right (by decide) hk)
        _ ≤ 2 ^ 32 := by decide)
  rw [UInt32.toNat_or, UInt32.toNat_or, UInt32.toNat_or, sh _ 24 (by decide), sh _ 16 (by decide), sh _ 8 (by decide), UInt8.toNat_toUInt32]
  have o1 : p.toNat <<< 24 ||| q.toNat <<< 16 = p.toNat * 16777216 + q.toNat * 65536 := by
    rw [← Nat.shiftLeft_add_eq_or_of_lt (by rw [Nat.shiftLeft_eq]; omega), Nat.shiftLeft_eq, Nat.shiftLeft_eq]
  have o2 : (p.toNat * 16777216 + q.toNat * 65536) ||| r.toNat <<< 8 = p.toNat * 16777216 + q.toNat * 65536 + r.toNat * 256 := by
    rw [show p.toNat * 16777216 + q.toNat * 65536 = (p.toNat * 256 + q.toNat) <<< 16 by rw [Nat.shiftLeft_eq]; omega, ← Nat.shiftLeft_add_eq_or_of_lt (by rw [Nat.shiftLeft_eq]; omega), Nat.shiftLeft_eq, Nat.shiftLeft_eq]
  have o3 : (p.toNat * 16777216 + q.toNat * 65536 + r.toNat * 256) ||| s.toNat = p.toNat * 16777216 + q.toNat * 65536 + r.toNat * 256 + s.toNat := by
    rw [show p.toNat * 16777216 + q.toNat * 65536 + r.toNat * 256 = (p.toNat * 65536 + q.toNat * 256 + r.toNat) <<< 8 by rw [Nat.shiftLeft_eq]; omega, ← Nat.shiftLeft_add_eq_or_of_lt (by omega), Nat.shiftLeft_eq]
  rw [o1, o2, o3]
  simp only [UInt32.toNat_add, UInt32.toNat_mul, UInt8.toNat_toUInt32, show (16777216 : UInt32).toNat = 16777216 from rfl, show (65536 : UInt32).toNat = 65536 from rfl, show (256 : UInt32).toNat = 256 from rfl]
  clear o1 o2 o3 sh e
  generalize p.toNat = p at *
  generalize q.toNat = q at *
  generalize r.toNat = r at *
  generalize s.toNat = s at *
  have e1 : p * 16777216 % 2 ^ 32 = p * 16777216 := Nat.mod_eq_of_lt (by omega)
  have e2 : q * 65536 % 2 ^ 32 = q * 65536 := Nat.mod_eq_of_lt (by omega)
  have e3 : r * 256 % 2 ^ 32 = r * 256 := Nat.mod_eq_of_lt (by omega)
  have e4 : (p * 16777216 + q * 65536) % 2 ^ 32 = p * 16777216 + q * 65536 := Nat.mod_eq_of_lt (by omega)
  have e5 : (p * 16777216 + q * 65536 + r * 256) % 2 ^ 32 = p * 16777216 + q * 65536 + r * 256 := Nat.mod_eq_of_lt (by omega)
  have e6 : (p * 16777216 + q * 65536 + r * 256 + s) % 2 ^ 32 = p * 16777216 + q * 65536 + r * 256 + s := Nat.mod_eq_of_lt (by omega)
  simp only [e1, e2, e3, e4, e5, e6]
theorem firstW_take (l : List UInt8) (i : Nat) (h : i < 16) : firstW (l.take 64) i = firstW l i := by
  have e : ∀ k, k < 64 → (l.take 64).getD k 0 = l.getD k 0 := fun k hk => by
    simp [List.getD_eq_getElem?_getD, List.getElem?_take_of_lt hk]
  simp only [firstW, e _ (show 4 * i < 64 by omega), e _ (show 4 * i + 1 < 64 by omega), e _ (show 4 * i + 2 < 64 by omega), e _ (show 4 * i + 3 < 64 by omega)]
theorem spreadF_take (l : List UInt8) : spreadF (l.take 64) = spreadF l := by
  have h : (List.range 16).map (firstW (l.take 64)) = (List.range 16).map (firstW l) := List.map_congr_left fun i hi => firstW_take l i (List.mem_range.1 hi)
  rw [spreadF, spreadF, h]
theorem eight {s : List UInt32} (h : s.length = 8) : ∃ a b c d e f g i, s = [a, b, c, d, e, f, g, i] := by
  match s, h with
  | [a, b, c, d, e, f, g, i], _ => exact ⟨a, b, c, d, e, f, g, i, rfl⟩
end Go.Proofs.Ytbhjaoedlggbbaa.Sep
