/- SHA-256 in plain words: what both texts of the program compute. -/
import Derived.Test.YtbhjaoedlggbbaaSepV
namespace Go.Proofs.Ytbhjaoedlggbbaa.Sep
open Go Go.RowKit
set_option linter.unusedVariables false
set_option linter.unusedSimpArgs false

theorem get_map {α : Type} {f : α → Value} {l : List α} {i : Nat} {d : α} (h : i < l.length) : (l.map f)[i]? = some (f (l.getD i d)) := by
  rw [List.getElem?_map, List.getElem?_eq_getElem h, List.getD_eq_getElem?_getD, List.getElem?_eq_getElem h]; rfl
theorem get_app {l r : List Value} {i : Nat} {u : Value} (h : l[i]? = some u) : (l ++ r)[i]? = some u := by
  rw [List.getElem?_append_left (List.getElem?_eq_some_iff.1 h).1]; exact h

def spinF (x : UInt32) (n : Nat) : UInt32 := shr32 x n ||| shl32 x (32 - n)
def firstW (bs : List UInt8) (i : Nat) : UInt32 :=
  shl32 (bs.getD (4 * i) 0).toUInt32 24 ||| shl32 (bs.getD (4 * i + 1) 0).toUInt32 16 ||| shl32 (bs.getD (4 * i + 2) 0).toUInt32 8 ||| (bs.getD (4 * i + 3) 0).toUInt32
def sched (ws : List UInt32) : UInt32 :=
  ws.getD (ws.length - 16) 0 + (spinF (ws.getD (ws.length - 15) 0) 7 ^^^ spinF (ws.getD (ws.length - 15) 0) 18 ^^^ shr32 (ws.getD (ws.length - 15) 0) 3) + ws.getD (ws.length - 7) 0 +
    (spinF (ws.getD (ws.length - 2) 0) 17 ^^^ spinF (ws.getD (ws.length - 2) 0) 19 ^^^ shr32 (ws.getD (ws.length - 2) 0) 10)
def grow : Nat → List UInt32 → List UInt32
  | 0, ws => ws
  | n + 1, ws => grow n (ws ++ [sched ws])
theorem grow_snoc : ∀ (n : Nat) (ws : List UInt32), grow (n + 1) ws = grow n ws ++ [sched (grow n ws)]
  | 0, _ => rfl
  | n + 1, ws => by rw [grow, grow_snoc n]; rfl
theorem grow_length : ∀ (n : Nat) (ws : List UInt32), (grow n ws).length = ws.length + n
  | 0, _ => rfl
  | n + 1, ws => by rw [grow, grow_length n]; simp; omega
def spreadF (bs : List UInt8) : List UInt32 := grow 48 ((List.range 16).map (firstW bs))
theorem spreadF_length (bs : List UInt8) : (spreadF bs).length = 64 := by simp [spreadF, grow_length]
theorem set_ws {ws : List UInt32} {k : Nat} {x : UInt32} {z : Value} (hl : ws.length = k) (hk : k < 64) :
    (ws.map wV ++ List.replicate (64 - k) z).set k (wV x) = (ws ++ [x]).map wV ++ List.replicate (64 - (k + 1)) z := by
  obtain ⟨n, hn⟩ : ∃ n, 64 - k = n + 1 := ⟨63 - k, by omega⟩
  rw [hn, show 64 - (k + 1) = n by omega, List.replicate_succ, List.set_append_right _ _ (by simp; omega)]
  simp [hl]

def kTab : List UInt32 := [
  0x428a2f98, 0x71374491, 0xb5c0fbcf, 0xe9b5dba5, 0x3956c25b, 0x59f111f1, 0x923f82a4, 0xab1c5ed5,
  0xd807aa98, 0x12835b01, 0x243185be, 0x550c7dc3, 0x72be5d74, 0x80deb1fe, 0x9bdc06a7, 0xc19bf174,
  0xe49b69c1, 0xefbe4786, 0x0fc19dc6, 0x240ca1cc, 0x2de92c6f, 0x4a7484aa, 0x5cb0a9dc, 0x76f988da,
  0x983e5152, 0xa831c66d, 0xb00327c8, 0xbf597fc7, 0xc6e00bf3, 0xd5a79147, 0x06ca6351, 0x14292967,
  0x27b70a85, 0x2e1b2138, 0x4d2c6dfc, 0x53380d13, 0x650a7354, 0x766a0abb, 0x81c2c92e, 0x92722c85,
  0xa2bfe8a1, 0xa81a664b, 0xc24b8b70, 0xc76c51a3, 0xd192e819, 0xd6990624, 0xf40e3585, 0x106aa070,
  0x19a4c116, 0x1e376c08, 0x2748774c, 0x34b0bcb5, 0x391c0cb3, 0x4ed8aa4a, 0x5b9cca4f, 0x682e6ff3,
  0x748f82ee, 0x78a5636f, 0x84c87814, 0x8cc70208, 0x90befffa, 0xa4506ceb, 0xbef9a3f7, 0xc67178f2]
def t1F (v : List UInt32) (k w : UInt32) : UInt32 :=
  v.getD 7 0 + (spinF (v.getD 4 0) 6 ^^^ spinF (v.getD 4 0) 11 ^^^ spinF (v.getD 4 0) 25) + ((v.getD 4 0 &&& v.getD 5 0) ^^^ (~~~(v.getD 4 0) &&& v.getD 6 0)) + k + w
def t2F (v : List UInt32) : UInt32 :=
  (spinF (v.getD 0 0) 2 ^^^ spinF (v.getD 0 0) 13 ^^^ spinF (v.getD 0 0) 22) + ((v.getD 0 0 &&& v.getD 1 0) ^^^ (v.getD 0 0 &&& v.getD 2 0) ^^^ (v.getD 1 0 &&& v.getD 2 0))
def roundF (k w : UInt32) (v : List UInt32) : List UInt32 :=
  [t1F v k w + t2F v, v.getD 0 0, v.getD 1 0, v.getD 2 0, v.getD 3 0 + t1F v k w, v.getD 4 0, v.getD 5 0, v.getD 6 0]
def roundsF (ws : List UInt32) : Nat → List UInt32 → List UInt32
  | 0, v => v
  | n + 1, v => roundF (kTab.getD n 0) (ws.getD n 0) (roundsF ws n v)
theorem roundsF_length (ws v : List UInt32) (hv : v.length = 8) : ∀ n, (roundsF ws n v).length = 8
  | 0 => hv
  | n + 1 => rfl
/-- The first k sums are there. -/
def addAcc (s v : List UInt32) (k : Nat) : List UInt32 := List.zipWith (· + ·) (s.take k) (v.take k) ++ s.drop k
theorem addAcc_length {s v : List UInt32} (h : s.length = v.length) (k : Nat) : (addAcc s v k).length = s.length := by
  simp [addAcc]; omega
theorem addAcc_get {s v : List UInt32} (h : s.length = v.length) {k : Nat} (hk : k < s.length) : (addAcc s v k).getD k 0 = s.getD k 0 := by
  have hl : (List.zipWith (· + ·) (s.take k) (v.take k)).length = k := by simp; omega
  rw [List.getD_eq_getElem?_getD, addAcc, List.getElem?_append_right (by omega), hl, Nat.sub_self, List.getElem?_drop, Nat.add_zero, ← List.getD_eq_getElem?_getD]
theorem addAcc_set {s v : List UInt32} (h : s.length = v.length) {k : Nat} (hk : k < s.length) : (addAcc s v k).set k (s.getD k 0 + v.getD k 0) = addAcc s v (k + 1) := by
  have hl : (List.zipWith (· + ·) (s.take k) (v.take k)).length = k := by simp; omega
  unfold addAcc
  rw [List.set_append_right _ _ (by omega), hl, Nat.sub_self, List.drop_eq_getElem_cons hk, List.set_cons_zero]
  rw [List.take_succ_eq_append_getElem hk, List.take_succ_eq_append_getElem (show k < v.length by omega), List.zipWith_append (by simp; omega)]
  simp [List.getD_eq_getElem?_getD, List.getElem?_eq_getElem hk, List.getElem?_eq_getElem (show k < v.length by omega)]
def mixF (s : List UInt32) (bs : List UInt8) : List UInt32 := List.zipWith (· + ·) s (roundsF (spreadF bs) 64 s)
theorem mixF_length (s : List UInt32) (bs : List UInt8) (h : s.length = 8) : (mixF s bs).length = 8 := by simp [mixF, roundsF_length _ _ h, h]
theorem addAcc_all {s v : List UInt32} (h : s.length = v.length) {k : Nat} (hk : k = s.length) : addAcc s v k = List.zipWith (· + ·) s v := by
  subst hk
  simp only [addAcc, List.take_length, List.drop_length, List.append_nil]
  rw [h, List.take_length]
end Go.Proofs.Ytbhjaoedlggbbaa.Sep
