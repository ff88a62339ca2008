/- Sums of 32 bits: a register that takes bits is linear, and loses nothing; the division of the chapter comes to the same sum; a burst of errors is seen. -/
import Derived.Test.YtpnipajadjeifaaWords
namespace Go.Proofs.Ytpnipajadjeifaa.Sep
open Go Go.RowKit
set_option linter.unusedVariables false
set_option linter.unusedSimpArgs false
def P32 : BitVec 32 := BitVec.ofNat 32 3988292384
def stepV (r : BitVec 32) : BitVec 32 := (r >>> 1) ^^^ (if r.getLsbD 0 = true then P32 else 0#32)
theorem stepV_bit (r : BitVec 32) (i : Nat) : (stepV r).getLsbD i = (r.getLsbD (1 + i) ^^ (r.getLsbD 0 && P32.getLsbD i)) := by
  unfold stepV
  rw [BitVec.getLsbD_xor, BitVec.getLsbD_ushiftRight]
  cases r.getLsbD 0 <;> simp
theorem stepV_xor (x y : BitVec 32) : stepV (x ^^^ y) = stepV x ^^^ stepV y := by
  apply BitVec.eq_of_getLsbD_eq
  intro i hi
  simp only [BitVec.getLsbD_xor, stepV_bit]
  generalize x.getLsbD (1 + i) = a
  generalize y.getLsbD (1 + i) = b
  generalize P32.getLsbD i = p
  cases x.getLsbD 0 <;> cases y.getLsbD 0 <;> cases a <;> cases b <;> cases p <;> rfl
theorem stepV_zero : stepV 0#32 = 0#32 := by decide
theorem stepV_inj {r : BitVec 32} (h : stepV r = 0#32) : r = 0#32 := by
  have hb : ∀ i, (r.getLsbD (1 + i) ^^ (r.getLsbD 0 && P32.getLsbD i)) = false := fun i => by rw [← stepV_bit, h]; simp
  have h0 : r.getLsbD 0 = false := by
    have := hb 31
    rw [show r.getLsbD (1 + 31) = false from BitVec.getLsbD_of_ge _ _ (by decide), show P32.getLsbD 31 = true by decide] at this
    simpa using this
  apply BitVec.eq_of_getLsbD_eq
  intro i hi
  cases i with
  | zero => rw [h0]; simp
  | succ i =>
    have := hb i
    rw [h0, Bool.false_and, Bool.xor_false, Nat.add_comm] at this
    rw [this]; simp
def stepVn : Nat → BitVec 32 → BitVec 32
  | 0, r => r
  | n + 1, r => stepV (stepVn n r)
theorem stepVn_inj : ∀ (n : Nat) {r : BitVec 32}, stepVn n r = 0#32 → r = 0#32
  | 0, _, h => h
  | n + 1, _, h => stepVn_inj n (stepV_inj h)
theorem stepVn_xor : ∀ (n : Nat) (x y : BitVec 32), stepVn n (x ^^^ y) = stepVn n x ^^^ stepVn n y
  | 0, _, _ => rfl
  | n + 1, x, y => by rw [stepVn, stepVn_xor n, stepV_xor]; rfl
def bitV (b : Bool) : BitVec 32 := if b = true then 1#32 else 0#32
theorem bitV_bit (b : Bool) (i : Nat) : (bitV b).getLsbD i = (b && decide (i = 0)) := by
  cases b with
  | false => simp [bitV]
  | true =>
    simp only [bitV, if_true, Bool.true_and]
    rw [BitVec.getLsbD_one]
    simp
theorem bitV_xor (a b : Bool) : bitV (a ^^ b) = bitV a ^^^ bitV b := by cases a <;> cases b <;> decide
def regB (bs : List Bool) (r : BitVec 32) : BitVec 32 := bs.foldl (fun r b => stepV (r ^^^ bitV b)) r
theorem regB_append (a b : List Bool) (r : BitVec 32) : regB (a ++ b) r = regB b (regB a r) := by simp [regB]
theorem xor4 (a b c d : BitVec 32) : (a ^^^ b) ^^^ (c ^^^ d) = (a ^^^ c) ^^^ (b ^^^ d) := by
  rw [BitVec.xor_assoc, ← BitVec.xor_assoc b, BitVec.xor_comm b c, BitVec.xor_assoc c, ← BitVec.xor_assoc]
theorem regB_xor : ∀ (xs ys : List Bool) (r s : BitVec 32), xs.length = ys.length → regB (List.zipWith (· ^^ ·) xs ys) (r ^^^ s) = regB xs r ^^^ regB ys s
  | [], [], _, _, _ => rfl
  | [], _ :: _, _, _, h => by simp at h
  | _ :: _, [], _, _, h => by simp at h
  | x :: xs, y :: ys, r, s, h => by
    have ih := regB_xor xs ys (stepV (r ^^^ bitV x)) (stepV (s ^^^ bitV y)) (by simpa using h)
    rw [← stepV_xor, xor4, ← bitV_xor] at ih
    exact ih
theorem regB_zeros : ∀ n, regB (List.replicate n false) 0#32 = 0#32
  | 0 => rfl
  | n + 1 => by
    rw [List.replicate_succ]
    show regB (List.replicate n false) (stepV (0#32 ^^^ bitV false)) = _
    rw [show stepV (0#32 ^^^ bitV false) = 0#32 by decide, regB_zeros n]
theorem regB_idle : ∀ (n : Nat) (r : BitVec 32), regB (List.replicate n false) r = stepVn n r
  | 0, _ => rfl
  | n + 1, r => by
    rw [List.replicate_succ']
    rw [regB_append, regB_idle n]
    show stepV (stepVn n r ^^^ bitV false) = _
    rw [show bitV false = 0#32 by decide, BitVec.xor_zero]; rfl
theorem low_cleared (w : BitVec 32) (k : Nat) : stepV ((w >>> k) ^^^ bitV (w.getLsbD k)) = w >>> (k + 1) := by
  apply BitVec.eq_of_getLsbD_eq
  intro i hi
  rw [stepV_bit]
  simp only [BitVec.getLsbD_xor, BitVec.getLsbD_ushiftRight, bitV_bit, Nat.add_zero, decide_true, Bool.and_true, Bool.xor_self, Bool.false_and, Bool.xor_false]
  rw [show decide (1 + i = 0) = false by simp, Bool.and_false, Bool.xor_false]
  congr 1; omega
/-- So many bits of a word, taken by a register. -/
theorem regB_feed (w r : BitVec 32) : ∀ k, regB ((List.range k).map w.getLsbD) r = stepVn k (r ^^^ w) ^^^ (w >>> k)
  | 0 => by simp [regB, stepVn, BitVec.xor_assoc]
  | k + 1 => by
    rw [List.range_succ, List.map_append, regB_append, regB_feed w r k]
    show stepV ((stepVn k (r ^^^ w) ^^^ (w >>> k)) ^^^ bitV (w.getLsbD k)) = _
    rw [BitVec.xor_assoc, stepV_xor, low_cleared]; rfl
/-! bytes -/
def bits8 (c : UInt8) : List Bool := (List.range 8).map c.toBitVec.getLsbD
def allbits (d : List UInt8) : List Bool := d.flatMap bits8
theorem bits8_length (c : UInt8) : (bits8 c).length = 8 := by simp [bits8]
theorem allbits_length : ∀ (d : List UInt8), (allbits d).length = 8 * d.length
  | [] => rfl
  | c :: d => by
    have := allbits_length d
    simp only [allbits, List.flatMap_cons, List.length_append, bits8_length, List.length_cons] at this ⊢
    omega
theorem allbits_append (a b : List UInt8) : allbits (a ++ b) = allbits a ++ allbits b := by simp [allbits]
theorem shr32_vec (r : UInt32) (n : Nat) (h : n ≤ 32) : (shr32 r n).toBitVec = r.toBitVec >>> n := by
  apply BitVec.eq_of_toNat_eq
  rw [BitVec.toNat_ushiftRight]
  show (shr32 r n).toNat = r.toNat >>> n
  have := r.toNat_lt
  simp only [shr32, Nat.min_eq_left h, UInt32.toNat_ofNat', Nat.shiftRight_eq_div_pow]
  exact Nat.mod_eq_of_lt (Nat.lt_of_le_of_lt (Nat.div_le_self ..) this)
theorem stepC_vec (r : UInt32) : (stepC r).toBitVec = stepV r.toBitVec := by
  have h1 : (r &&& 1 = 1) ↔ r.toBitVec.getLsbD 0 = true := by
    rw [← UInt32.toNat_inj, UInt32.toNat_and, show (1 : UInt32).toNat = 1 from rfl, Nat.and_one_is_mod, ← BitVec.testBit_toNat, Nat.testBit_zero]
    show r.toNat % 2 = 1 ↔ decide (r.toNat % 2 = 1) = true
    simp
  unfold stepC stepV
  by_cases h : r.toBitVec.getLsbD 0 = true
  · rw [if_pos (h1.2 h), if_pos h, UInt32.toBitVec_xor, shr32_vec r 1 (by decide)]; rfl
  · rw [if_neg (fun e => h (h1.1 e)), if_neg h, shr32_vec r 1 (by decide)]; simp
theorem stepsC_vec : ∀ (n : Nat) (r : UInt32), (stepsC n r).toBitVec = stepVn n r.toBitVec
  | 0, _ => rfl
  | n + 1, r => by rw [stepsC, stepC_vec, stepsC_vec n]; rfl
theorem turnF_vec (r : UInt32) (c : UInt8) : (turnF r c).toBitVec = regB (bits8 c) r.toBitVec := by
  have h := regB_feed c.toUInt32.toBitVec r.toBitVec 8
  have e1 : (List.range 8).map c.toUInt32.toBitVec.getLsbD = bits8 c := by
    refine List.map_congr_left fun k hk => ?_
    rw [← BitVec.testBit_toNat, ← BitVec.testBit_toNat]; rfl
  have e2 : c.toUInt32.toBitVec >>> 8 = 0#32 := by
    apply BitVec.eq_of_toNat_eq
    rw [BitVec.toNat_ushiftRight]
    show c.toUInt32.toNat >>> 8 = 0
    have := c.toNat_lt
    rw [UInt8.toNat_toUInt32, Nat.shiftRight_eq_div_pow]
    omega
  rw [e1, e2, BitVec.xor_zero] at h
  rw [turnF, stepsC_vec, UInt32.toBitVec_xor, h]
theorem fold_vec : ∀ (d : List UInt8) (r : UInt32), (d.foldl turnF r).toBitVec = regB (allbits d) r.toBitVec
  | [], _ => rfl
  | c :: d, r => by
    rw [List.foldl_cons, fold_vec d, turnF_vec, show allbits (c :: d) = bits8 c ++ allbits d from rfl, regB_append]
theorem crcF_vec (d : List UInt8) : (crcF d).toBitVec = ~~~ (regB (allbits d) (BitVec.allOnes 32)) := by
  rw [crcF, moreF, UInt32.toBitVec_not, fold_vec]; rfl
/-! the division of the chapter -/
def c2 (b : Bool) : UInt8 := if b = true then 1 else 0
def bitsF (d : List UInt8) : List UInt8 := d.flatMap fun b => (List.range 8).map fun k => shr8 b k &&& 1
def polyL : List UInt8 := [1, 0, 0, 0, 0, 0, 1, 0, 0, 1, 1, 0, 0, 0, 0, 0, 1, 0, 0, 0, 1, 1, 1, 0, 1, 1, 0, 1, 1, 0, 1, 1, 1]
def flipN : Nat → List UInt8 → List UInt8
  | 0, l => l
  | k + 1, l => (flipN k l).set k (1 - (flipN k l).getD k 0)
def xorN (i : Nat) : Nat → List UInt8 → List UInt8
  | 0, l => l
  | k + 1, l => (xorN i k l).set (i + k) ((xorN i k l).getD (i + k) 0 ^^^ polyL.getD k 0)
def divN : Nat → List UInt8 → List UInt8
  | 0, l => l
  | i + 1, l => if (divN i l).getD i 0 = 1 then xorN i 33 (divN i l) else divN i l
def sumN (n : Nat) (l : List UInt8) : Nat → UInt32
  | 0 => 0
  | k + 1 => sumN n l k ||| shl32 (1 - l.getD (n + k) 0).toUInt32 k
def crc2F (d : List UInt8) : UInt32 := sumN (8 * d.length) (divN (8 * d.length) (flipN 32 (bitsF d ++ List.replicate 32 0))) 32
theorem flipN_length : ∀ (k : Nat) (l : List UInt8), (flipN k l).length = l.length
  | 0, _ => rfl
  | k + 1, l => by rw [flipN, List.length_set, flipN_length k]
theorem xorN_length (i : Nat) : ∀ (k : Nat) (l : List UInt8), (xorN i k l).length = l.length
  | 0, _ => rfl
  | k + 1, l => by rw [xorN, List.length_set, xorN_length i k]
theorem divN_length : ∀ (i : Nat) (l : List UInt8), (divN i l).length = l.length
  | 0, _ => rfl
  | i + 1, l => by
    rw [divN]; split
    · rw [xorN_length, divN_length i]
    · exact divN_length i l
theorem bitsF_length : ∀ (d : List UInt8), (bitsF d).length = 8 * d.length
  | [] => rfl
  | c :: d => by
    have := bitsF_length d
    simp only [bitsF, List.flatMap_cons, List.length_append, List.length_map, List.length_range, List.length_cons] at this ⊢
    omega
theorem getD_set {l : List UInt8} {a b : Nat} {x : UInt8} (ha : a < l.length) : (l.set a x).getD b 0 = if a = b then x else l.getD b 0 := by
  rw [List.getD_eq_getElem?_getD, List.getElem?_set, List.getD_eq_getElem?_getD]
  split
  · first | rfl | (rw [if_pos ha]; rfl)
  · rfl
theorem flipN_get : ∀ (k : Nat) (l : List UInt8) (j : Nat), k ≤ l.length → (flipN k l).getD j 0 = if j < k then 1 - l.getD j 0 else l.getD j 0
  | 0, l, j, _ => by simp [flipN]
  | k + 1, l, j, h => by
    rw [flipN, getD_set (by rw [flipN_length]; omega), flipN_get k l j (by omega), flipN_get k l k (by omega), if_neg (Nat.lt_irrefl k)]
    by_cases h1 : k = j
    · subst h1; rw [if_pos rfl, if_pos (by omega)]
    · rw [if_neg h1]
      by_cases h2 : j < k
      · rw [if_pos h2, if_pos (by omega)]
      · rw [if_neg h2, if_neg (by omega)]
theorem xorN_get (i : Nat) : ∀ (k : Nat) (l : List UInt8) (q : Nat), i + k ≤ l.length → (xorN i k l).getD q 0 = if i ≤ q ∧ q < i + k then l.getD q 0 ^^^ polyL.getD (q - i) 0 else l.getD q 0
  | 0, l, q, _ => by rw [if_neg (by omega)]; rfl
  | k + 1, l, q, h => by
    rw [xorN, getD_set (by rw [xorN_length]; omega), xorN_get i k l q (by omega), xorN_get i k l (i + k) (by omega), if_neg (by omega : ¬ (i ≤ i + k ∧ i + k < i + k))]
    by_cases h1 : i + k = q
    · subst h1; rw [if_pos rfl, if_pos (by omega), Nat.add_sub_cancel_left]
    · rw [if_neg h1]
      by_cases h2 : i ≤ q ∧ q < i + k
      · rw [if_pos h2, if_pos (by omega)]
      · rw [if_neg h2, if_neg (by omega)]
theorem c2_eq (b : Bool) : c2 b = 1 ↔ b = true := by cases b <;> decide
theorem c2_xor (a b : Bool) : c2 a ^^^ c2 b = c2 (a ^^ b) := by cases a <;> cases b <;> decide
theorem c2_not (a : Bool) : 1 - c2 a = c2 (!a) := by cases a <;> decide
theorem poly_bit : ∀ j, j < 32 → polyL.getD (1 + j) 0 = c2 (P32.getLsbD j) := by decide
theorem div_inv (bs : List Bool) : ∀ i, i ≤ bs.length → ∀ j, i + j < bs.length + 32 →
    (divN i (flipN 32 ((bs ++ List.replicate 32 false).map c2))).getD (i + j) 0 = c2 ((bs ++ List.replicate 32 false).getD (i + j) false ^^ (decide (j < 32) && (regB (bs.take i) (BitVec.allOnes 32)).getLsbD j)) := by
  have hlen : ((bs ++ List.replicate 32 false).map c2).length = bs.length + 32 := by simp
  have hmap : ∀ q, ((bs ++ List.replicate 32 false).map c2).getD q 0 = c2 ((bs ++ List.replicate 32 false).getD q false) := fun q => by
    rw [List.getD_eq_getElem?_getD, List.getElem?_map, List.getD_eq_getElem?_getD]
    cases (bs ++ List.replicate 32 false)[q]? <;> rfl
  intro i
  induction i with
  | zero =>
    intro _ j hj
    rw [Nat.zero_add, divN, flipN_get 32 _ _ (by rw [hlen]; omega), hmap, List.take_zero]
    show _ = c2 (_ ^^ (decide (j < 32) && (BitVec.allOnes 32).getLsbD j))
    by_cases h : j < 32
    · rw [if_pos h, c2_not, BitVec.getLsbD_allOnes, show decide (j < 32) = true by simpa using h, Bool.and_self, Bool.xor_true]
    · rw [if_neg h, show decide (j < 32) = false by simpa using h, Bool.false_and, Bool.xor_false]
  | succ i ih =>
    intro hi j hj
    have ih := ih (by omega)
    have hreg : regB (bs.take (i + 1)) (BitVec.allOnes 32) = stepV (regB (bs.take i) (BitVec.allOnes 32) ^^^ bitV (bs.getD i false)) := by
      rw [List.take_add_one, List.getElem?_eq_getElem (by omega), regB_append, List.getD_eq_getElem?_getD, List.getElem?_eq_getElem (by omega)]; rfl
    have ho : (bs ++ List.replicate 32 false).getD i false = bs.getD i false := by
      rw [List.getD_eq_getElem?_getD, List.getD_eq_getElem?_getD, List.getElem?_append_left (by omega)]
    have h0 := ih 0 (by omega)
    have h1 := ih (1 + j) (by omega)
    rw [Nat.add_zero, ho] at h0
    rw [← Nat.add_assoc] at h1
    have hbit : ∀ q, (stepV (regB (bs.take i) (BitVec.allOnes 32) ^^^ bitV (bs.getD i false))).getLsbD q = ((regB (bs.take i) (BitVec.allOnes 32)).getLsbD (1 + q) ^^ ((bs.getD i false ^^ (regB (bs.take i) (BitVec.allOnes 32)).getLsbD 0) && P32.getLsbD q)) := fun q => by
      rw [stepV_bit, BitVec.getLsbD_xor, BitVec.getLsbD_xor, bitV_bit, bitV_bit, show decide (1 + q = 0) = false by simp, Bool.and_false, Bool.xor_false]
      rw [show decide ((0 : Nat) = 0) = true from rfl, Bool.and_true, Bool.xor_comm (bs.getD i false)]
    rw [hreg, hbit, divN]
    generalize regB (bs.take i) (BitVec.allOnes 32) = R at *
    generalize (bs ++ List.replicate 32 false).getD (i + 1 + j) false = o at *
    simp only [show decide (0 < 32) = true by decide, Bool.true_and] at h0
    generalize (bs.getD i false ^^ R.getLsbD 0) = c at *
    rw [h0]
    have hR : ∀ q, 32 ≤ q → R.getLsbD q = false := fun q hq => BitVec.getLsbD_of_ge _ _ hq
    cases c with
    | true =>
      rw [if_pos ((c2_eq true).2 rfl), xorN_get i 33 _ _ (by rw [divN_length, flipN_length, hlen]; omega), h1]
      by_cases h : j < 32
      · rw [if_pos (by omega), show i + 1 + j - i = 1 + j by omega, poly_bit j h, c2_xor]
        congr 1
        rw [show decide (j < 32) = true by simpa using h, Bool.true_and, Bool.true_and, Bool.xor_assoc]
        congr 2
        by_cases h2 : 1 + j < 32
        · simp [h2]
        · rw [hR (1 + j) (by omega), Bool.and_false]
      · rw [if_neg (by omega)]
        congr 2
        rw [show decide (1 + j < 32) = false by simp; omega, show decide (j < 32) = false by simpa using h]; rfl
    | false =>
      rw [if_neg (by decide), h1]
      congr 2
      rw [Bool.false_and, Bool.xor_false]
      by_cases h2 : 1 + j < 32
      · rw [show decide (1 + j < 32) = true by simpa using h2, show decide (j < 32) = true by simp; omega]
      · rw [hR (1 + j) (by omega), Bool.and_false, Bool.and_false]
theorem shl_bit (b : Bool) (k j : Nat) (hk : k < 32) (hj : j < 32) : (shl32 (c2 b).toUInt32 k).toBitVec.getLsbD j = (b && decide (j = k)) := by
  rw [← BitVec.testBit_toNat]
  show (shl32 (c2 b).toUInt32 k).toNat.testBit j = _
  cases b with
  | false => simp [c2, shl32]
  | true =>
    have : (shl32 (c2 true).toUInt32 k).toNat = 2 ^ k := by
      have h1 : (2 : Nat) ^ k < 2 ^ 32 := Nat.pow_lt_pow_right (by decide) hk
      simp only [shl32, UInt32.toNat_ofNat', Nat.min_eq_left (Nat.le_of_lt hk), Nat.shiftLeft_eq]
      rw [show (c2 true).toUInt32.toNat = 1 from rfl, Nat.one_mul]
      exact Nat.mod_eq_of_lt h1
    rw [this, Nat.testBit_two_pow]
    simp [eq_comm]
theorem sum_bits {n : Nat} {l : List UInt8} {f : Nat → Bool} (h : ∀ j, j < 32 → l.getD (n + j) 0 = c2 (f j)) : ∀ k, k ≤ 32 → ∀ j, j < 32 → (sumN n l k).toBitVec.getLsbD j = (decide (j < k) && !f j)
  | 0, _, j, _ => by simp [sumN]
  | k + 1, hk, j, hj => by
    rw [sumN, UInt32.toBitVec_or, BitVec.getLsbD_or, sum_bits h k (by omega) j hj, h k (by omega), c2_not, shl_bit _ k j (by omega) hj]
    rcases Nat.lt_trichotomy j k with h1 | h1 | h1
    · simp [h1, show j < k + 1 by omega, show ¬ j = k by omega]
    · subst h1; simp
    · simp [show ¬ j < k by omega, show ¬ j < k + 1 by omega, show ¬ j = k by omega]
theorem bitsF_c2 (d : List UInt8) : bitsF d = (allbits d).map c2 := by
  have key : ∀ (b : UInt8) (k : Nat), k < 8 → shr8 b k &&& 1 = c2 (b.toBitVec.getLsbD k) := by
    intro b k hk
    apply UInt8.toNat_inj.1
    have hb := b.toNat_lt
    rw [UInt8.toNat_and, show (1 : UInt8).toNat = 1 from rfl, Nat.and_one_is_mod, ← BitVec.testBit_toNat]
    have e : (shr8 b k).toNat = b.toNat >>> k := by
      simp only [shr8, UInt8.toNat_ofNat', Nat.min_eq_left (show k ≤ 8 by omega), Nat.shiftRight_eq_div_pow]
      exact Nat.mod_eq_of_lt (Nat.lt_of_le_of_lt (Nat.div_le_self ..) hb)
    rw [e]
    show b.toNat >>> k % 2 = (c2 (b.toNat.testBit k)).toNat
    rw [Nat.testBit_eq_decide_div_mod_eq, Nat.shiftRight_eq_div_pow]
    rcases Nat.mod_two_eq_zero_or_one (b.toNat / 2 ^ k) with h | h <;> rw [h] <;> rfl
  unfold bitsF allbits
  rw [List.map_flatMap]
  congr 1
  funext b
  rw [bits8, List.map_map]
  exact List.map_congr_left fun k hk => key b k (List.mem_range.1 hk)
/-- The chapter's sum is the program's. -/
theorem crc2F_eq (d : List UInt8) : crc2F d = crcF d := by
  have hl := allbits_length d
  have h := div_inv (allbits d) (allbits d).length (Nat.le_refl _)
  rw [List.map_append, ← bitsF_c2, List.map_replicate, show c2 false = 0 from rfl, List.take_length] at h
  have hs := sum_bits (n := (allbits d).length) (f := fun j => (regB (allbits d) (BitVec.allOnes 32)).getLsbD j) (fun j hj => by
    rw [h j (by omega), List.getD_eq_getElem?_getD, List.getElem?_append_right (by omega), List.getElem?_replicate, if_pos (by omega), show decide (j < 32) = true by simpa using hj]
    simp) 32 (Nat.le_refl _)
  rw [hl] at hs
  apply UInt32.toBitVec_inj.1
  rw [crcF_vec]
  apply BitVec.eq_of_getLsbD_eq
  intro j hj
  rw [crc2F, hs j hj, BitVec.getLsbD_not]
/-! bursts -/
theorem fourF_bits (s : UInt32) : allbits (fourF s) = (List.range 32).map s.toBitVec.getLsbD := by
  have e : ∀ (k : Nat), k ≤ 24 → ∀ j, j < 8 → (shr32 s k).toUInt8.toBitVec.getLsbD j = s.toBitVec.getLsbD (k + j) := by
    intro k hk j hj
    rw [← BitVec.testBit_toNat, ← BitVec.testBit_toNat]
    show (shr32 s k).toUInt8.toNat.testBit j = s.toNat.testBit (k + j)
    have h1 : (shr32 s k).toNat = s.toNat >>> k := by
      have := congrArg BitVec.toNat (shr32_vec s k (by omega))
      rw [BitVec.toNat_ushiftRight] at this
      exact this
    rw [UInt32.toNat_toUInt8, h1, Nat.testBit_mod_two_pow, Nat.testBit_shiftRight]
    simp [hj]
  have e0 : ∀ j, j < 8 → s.toUInt8.toBitVec.getLsbD j = s.toBitVec.getLsbD j := by
    intro j hj
    rw [← BitVec.testBit_toNat, ← BitVec.testBit_toNat]
    show s.toUInt8.toNat.testBit j = s.toNat.testBit j
    rw [UInt32.toNat_toUInt8, Nat.testBit_mod_two_pow]
    simp [hj]
  apply List.ext_getElem
  · rw [allbits_length]; rfl
  · intro i h1 h2
    simp only [List.length_map, List.length_range] at h2
    simp only [List.getElem_map, List.getElem_range]
    have h8 := e 8 (by decide)
    have h16 := e 16 (by decide)
    have h24 := e 24 (by decide)
    have hall : allbits (fourF s) = (List.range 8).map s.toUInt8.toBitVec.getLsbD ++ ((List.range 8).map (shr32 s 8).toUInt8.toBitVec.getLsbD ++ ((List.range 8).map (shr32 s 16).toUInt8.toBitVec.getLsbD ++ (List.range 8).map (shr32 s 24).toUInt8.toBitVec.getLsbD)) := by
      simp [allbits, fourF, bits8]
    simp only [hall]
    rcases Nat.lt_or_ge i 8 with a | a
    · rw [List.getElem_append_left (by simpa using a)]
      simp only [List.getElem_map, List.getElem_range]; exact e0 i a
    · rw [List.getElem_append_right (by simpa using a)]
      rcases Nat.lt_or_ge i 16 with b | b
      · rw [List.getElem_append_left (by simp; omega)]
        simp only [List.getElem_map, List.getElem_range, List.length_map, List.length_range]
        rw [h8 _ (by omega)]; congr 1; omega
      · rw [List.getElem_append_right (by simp; omega)]
        rcases Nat.lt_or_ge i 24 with c | c
        · rw [List.getElem_append_left (by simp; omega)]
          simp only [List.getElem_map, List.getElem_range, List.length_map, List.length_range]
          rw [h16 _ (by omega)]; congr 1; omega
        · rw [List.getElem_append_right (by simp; omega)]
          simp only [List.getElem_map, List.getElem_range, List.length_map, List.length_range]
          rw [h24 _ (by omega)]; congr 1; omega
/-- What a register is behind bytes with their sum. -/
def magic : BitVec 32 := stepVn 32 (BitVec.allOnes 32)
theorem regB_sealed (d : List UInt8) : regB (allbits (sealF d)) (BitVec.allOnes 32) = magic := by
  rw [sealF, allbits_append, regB_append, fourF_bits, crcF_vec, regB_feed]
  have h : ∀ r : BitVec 32, r ^^^ ~~~r = BitVec.allOnes 32 := fun r => by
    apply BitVec.eq_of_getLsbD_eq; intro i hi
    rw [BitVec.getLsbD_xor, BitVec.getLsbD_not, BitVec.getLsbD_allOnes]
    cases r.getLsbD i <;> simp [hi]
  have h2 : ∀ r : BitVec 32, r >>> 32 = 0#32 := fun r => by
    apply BitVec.eq_of_getLsbD_eq; intro i hi
    rw [BitVec.getLsbD_ushiftRight, BitVec.getLsbD_of_ge _ _ (by omega)]; simp
  rw [h, h2, BitVec.xor_zero]; rfl
theorem holds_magic {x : List UInt8} (h : holdsF x = true) : regB (allbits x) (BitVec.allOnes 32) = magic := by
  have h := of_decide_eq_true h
  have e : x = sealF (x.take (x.length - 4)) := by rw [sealF, h.2, List.take_append_drop]
  rw [e]; exact regB_sealed _
theorem burst_seen {x y : List UInt8} {n k : Nat} {w : BitVec 32} (hy : allbits y = List.zipWith (· ^^ ·) (allbits x) (List.replicate n false ++ ((List.range 32).map w.getLsbD ++ List.replicate k false)))
    (hl : (allbits x).length = n + (32 + k)) (hw : w ≠ 0#32) (hx : holdsF x = true) : holdsF y = false := by
  rw [Bool.eq_false_iff]
  intro hyt
  have h1 := holds_magic hx
  have h2 := holds_magic hyt
  have h3 := regB_xor (allbits x) (List.replicate n false ++ ((List.range 32).map w.getLsbD ++ List.replicate k false)) (BitVec.allOnes 32) 0#32 (by simp [hl])
  rw [BitVec.xor_zero, ← hy, h1, h2] at h3
  have h4 : regB (List.replicate n false ++ ((List.range 32).map w.getLsbD ++ List.replicate k false)) 0#32 = 0#32 := by
    have := congrArg (fun z => magic ^^^ z) h3
    simp only [BitVec.xor_self, ← BitVec.xor_assoc, BitVec.zero_xor] at this
    exact this.symm
  have h5 : w >>> 32 = 0#32 := by
    apply BitVec.eq_of_getLsbD_eq; intro i hi
    rw [BitVec.getLsbD_ushiftRight, BitVec.getLsbD_of_ge _ _ (by omega)]; simp
  rw [regB_append, regB_append, regB_zeros, regB_feed, h5, BitVec.xor_zero, BitVec.zero_xor, regB_idle] at h4
  exact hw (stepVn_inj 32 (stepVn_inj k h4))
/-- Bits of a sector turned, one by one. -/
def burstN (n : Nat) (mask : UInt32) (x : List UInt8) : Nat → List UInt8
  | 0 => x
  | k + 1 => if shr32 mask k &&& 1 = 1 then (burstN n mask x k).set ((n + k) / 8) ((burstN n mask x k).getD ((n + k) / 8) 0 ^^^ shl8 1 ((n + k) % 8)) else burstN n mask x k
theorem burstN_length (n : Nat) (mask : UInt32) (x : List UInt8) : ∀ k, (burstN n mask x k).length = x.length
  | 0 => rfl
  | k + 1 => by
    rw [burstN]; split
    · rw [List.length_set, burstN_length n mask x k]
    · exact burstN_length n mask x k
theorem allbits_get : ∀ (x : List UInt8) (q : Nat), q < 8 * x.length → (allbits x)[q]? = some ((x.getD (q / 8) 0).toBitVec.getLsbD (q % 8))
  | [], q, h => by simp at h
  | c :: x, q, h => by
    rw [show allbits (c :: x) = bits8 c ++ allbits x from rfl]
    rcases Nat.lt_or_ge q 8 with h1 | h1
    · rw [List.getElem?_append_left (by rw [bits8_length]; exact h1), bits8, List.getElem?_map, List.getElem?_range h1, Nat.div_eq_of_lt h1, Nat.mod_eq_of_lt h1]; rfl
    · rw [List.getElem?_append_right (by rw [bits8_length]; exact h1), bits8_length, allbits_get x (q - 8) (by simp only [List.length_cons] at h; omega)]
      obtain ⟨p, rfl⟩ : ∃ p, q = p + 8 := ⟨q - 8, by omega⟩
      rw [Nat.add_sub_cancel, Nat.add_mod_right, show (p + 8) / 8 = p / 8 + 1 by omega]; rfl
theorem mask_bit (mask : UInt32) (k : Nat) (hk : k < 32) : (shr32 mask k &&& 1 = 1) ↔ mask.toBitVec.getLsbD k = true := by
  have h1 : (shr32 mask k).toNat = mask.toNat >>> k := by
    have := congrArg BitVec.toNat (shr32_vec mask k (by omega))
    rw [BitVec.toNat_ushiftRight] at this
    exact this
  rw [← UInt32.toNat_inj, UInt32.toNat_and, show (1 : UInt32).toNat = 1 from rfl, Nat.and_one_is_mod, h1, ← BitVec.testBit_toNat]
  show mask.toNat >>> k % 2 = 1 ↔ mask.toNat.testBit k = true
  rw [Nat.testBit_eq_decide_div_mod_eq, Nat.shiftRight_eq_div_pow]
  simp
theorem one_bit (a : UInt8) (i j : Nat) (hi : i < 8) (hj : j < 8) : (a ^^^ shl8 1 i).toBitVec.getLsbD j = (a.toBitVec.getLsbD j ^^ decide (j = i)) := by
  rw [UInt8.toBitVec_xor, BitVec.getLsbD_xor]
  congr 1
  rw [← BitVec.testBit_toNat]
  show (shl8 1 i).toNat.testBit j = _
  have : (shl8 1 i).toNat = 2 ^ i := by
    have h1 : (2 : Nat) ^ i < 2 ^ 8 := Nat.pow_lt_pow_right (by decide) hi
    simp only [shl8, UInt8.toNat_ofNat', Nat.min_eq_left (Nat.le_of_lt hi), Nat.shiftLeft_eq]
    rw [show (1 : UInt8).toNat = 1 from rfl, Nat.one_mul]
    exact Nat.mod_eq_of_lt h1
  rw [this, Nat.testBit_two_pow]
  simp [eq_comm]
theorem burstN_bit (n : Nat) (mask : UInt32) (x : List UInt8) (hn : n + 32 ≤ 8 * x.length) : ∀ k, k ≤ 32 → ∀ q, q < 8 * x.length →
    ((burstN n mask x k).getD (q / 8) 0).toBitVec.getLsbD (q % 8) = ((x.getD (q / 8) 0).toBitVec.getLsbD (q % 8) ^^ (decide (n ≤ q ∧ q < n + k) && mask.toBitVec.getLsbD (q - n)))
  | 0, _, q, _ => by rw [burstN, show decide (n ≤ q ∧ q < n + 0) = false by simp <;> omega, Bool.false_and, Bool.xor_false]
  | k + 1, hk, q, hq => by
    have ih := burstN_bit n mask x hn k (by omega) q hq
    rw [burstN]
    by_cases h1 : shr32 mask k &&& 1 = 1
    · rw [if_pos h1, getD_set (by rw [burstN_length]; omega)]
      by_cases h2 : (n + k) / 8 = q / 8
      · rw [if_pos h2, one_bit _ _ _ (Nat.mod_lt _ (by decide)) (Nat.mod_lt _ (by decide)), h2, ih]
        by_cases h3 : q = n + k
        · subst h3
          rw [show decide ((n + k) % 8 = (n + k) % 8) = true by simp, show decide (n ≤ n + k ∧ n + k < n + k) = false by simp, show decide (n ≤ n + k ∧ n + k < n + (k + 1)) = true by simp, Nat.add_sub_cancel_left, (mask_bit mask k (by omega)).1 h1]
          simp
        · rw [show decide (q % 8 = (n + k) % 8) = false by simp; omega, Bool.xor_false]
          congr 2
          rw [decide_eq_decide]; omega
      · rw [if_neg h2, ih]
        congr 2
        rw [decide_eq_decide]; omega
    · rw [if_neg h1, ih]
      by_cases h3 : q = n + k
      · subst h3
        have : mask.toBitVec.getLsbD k = false := by rw [Bool.eq_false_iff]; exact fun h => h1 ((mask_bit mask k (by omega)).2 h)
        rw [Nat.add_sub_cancel_left, this, Bool.and_false, Bool.and_false]
      · congr 2
        rw [decide_eq_decide]; omega
/-- A burst of at most 32 bits in a sector with its sum is seen. -/
theorem burst_bad {x : List UInt8} {n : Nat} {mask : UInt32} (hx : holdsF x = true) (hn : n + 32 ≤ 8 * x.length) (hm : mask ≠ 0) : holdsF (burstN n mask x 32) = false := by
  have hl := allbits_length x
  refine burst_seen (n := n) (k := 8 * x.length - (n + 32)) (w := mask.toBitVec) ?_ (by omega) (fun h => hm (UInt32.toBitVec_inj.1 h)) hx
  apply List.ext_getElem?
  intro q
  rcases Nat.lt_or_ge q (8 * x.length) with hq | hq
  · rw [allbits_get _ q (by rw [burstN_length]; exact hq), List.getElem?_zipWith, allbits_get x q hq, burstN_bit n mask x hn 32 (Nat.le_refl _) q hq]
    rcases Nat.lt_or_ge q n with h1 | h1
    · rw [List.getElem?_append_left (by simpa using h1), List.getElem?_replicate, if_pos h1]
      rw [show decide (n ≤ q ∧ q < n + 32) = false by simp; omega]; simp
    · rw [List.getElem?_append_right (by simpa using h1), List.length_replicate]
      rcases Nat.lt_or_ge q (n + 32) with h2 | h2
      · rw [List.getElem?_append_left (by simp; omega), List.getElem?_map, List.getElem?_range (by omega), show decide (n ≤ q ∧ q < n + 32) = true by simp; omega]; simp
      · rw [List.getElem?_append_right (by simp; omega), List.getElem?_replicate, if_pos (by simp; omega), show decide (n ≤ q ∧ q < n + 32) = false by simp; omega]; simp
  · rw [List.getElem?_eq_none (by rw [allbits_length, burstN_length]; exact hq), List.getElem?_eq_none (by simp; omega)]
/-! for the walks -/
def bitK (c : UInt8) (k : Nat) : List UInt8 := (List.range k).map fun j => shr8 c j &&& 1
theorem bitK_succ (c : UInt8) (k : Nat) : bitK c k ++ [shr8 c k &&& 1] = bitK c (k + 1) := by simp [bitK, List.range_succ]
theorem bitK_length (c : UInt8) (k : Nat) : (bitK c k).length = k := by simp [bitK]
theorem bitsF_take {d : List UInt8} {i : Nat} (h : i < d.length) : bitsF (d.take i) ++ bitK (d.getD i 0) 8 = bitsF (d.take (i + 1)) := by
  rw [List.take_add_one, List.getD_eq_getElem?_getD, List.getElem?_eq_getElem h]
  unfold bitsF
  rw [List.flatMap_append]
  rfl
theorem seg_set {l : List UInt8} {i : Nat} {x : UInt8} (h : i < l.length) : segs (l.map bV) i (bV x).cells.toList = (l.set i x).map bV := by
  rw [show (bV x).cells.toList = [bV x] from rfl, segs_one (by simpa using h), List.map_set]
theorem zeros_map (n : Nat) : List.replicate n (Value.int .u8 0) = (List.replicate n (0 : UInt8)).map bV := by rw [List.map_replicate]; rfl
theorem four_put (s : UInt32) : putF s.toUInt64 4 = fourF s := by
  have h : ∀ k, k ≤ 24 → (shr64 s.toUInt64 k).toUInt8 = (shr32 s k).toUInt8 := by
    intro k hk
    apply UInt8.toNat_inj.1
    have := s.toNat_lt
    have h1 : s.toNat >>> k < 4294967296 := by rw [Nat.shiftRight_eq_div_pow]; exact Nat.lt_of_le_of_lt (Nat.div_le_self ..) this
    simp only [UInt64.toNat_toUInt8, UInt32.toNat_toUInt8, shr64, shr32, UInt64.toNat_ofNat', UInt32.toNat_ofNat', UInt32.toNat_toUInt64, Nat.min_eq_left (show k ≤ 64 by omega), Nat.min_eq_left (show k ≤ 32 by omega)]
    rw [Nat.mod_eq_of_lt (show s.toNat >>> k < 2 ^ 64 by omega), Nat.mod_eq_of_lt (show s.toNat >>> k < 2 ^ 32 by omega)]
  have h0 : (shr64 s.toUInt64 (8 * 0)).toUInt8 = s.toUInt8 := by
    rw [h 0 (by decide)]
    congr 1
    apply UInt32.toNat_inj.1
    have := s.toNat_lt
    simp [shr32]
  simp only [putF, show List.range 4 = [0, 1, 2, 3] from rfl, List.map_cons, List.map_nil]
  rw [h0, h 8 (by decide), h 16 (by decide), h 24 (by decide)]
  rfl
/-- A sector of bytes, noughts, and their sum. -/
def padF (b : List UInt8) : List UInt8 := b ++ List.replicate (252 - b.length) 0
def secF (b : List UInt8) : List UInt8 := sealF (padF b)
theorem padF_length {b : List UInt8} (h : b.length ≤ 252) : (padF b).length = 252 := by simp [padF]; omega
theorem secF_length {b : List UInt8} (h : b.length ≤ 252) : (secF b).length = 256 := by rw [secF, sealF_length, padF_length h]
theorem whole_self {x : List UInt8} (h : x.length = 256) : wholeF x = x := by rw [wholeF, List.take_of_length_le (by omega), h]; simp
theorem whole_take {b : List UInt8} (h : b.length ≤ 252) : (wholeF b).take 252 = padF b := by
  have h1 : b.take 256 = b := List.take_of_length_le (by omega)
  rw [wholeF, padF, h1, List.take_append, List.take_of_length_le h, List.take_replicate]
  congr 2; omega
theorem sec_eq {b : List UInt8} (h : b.length ≤ 252) : wholeF (sealF ((wholeF b).take 252)) = secF b := by rw [whole_take h]; exact whole_self (secF_length h)
theorem secF_holds {b : List UInt8} (h : b.length ≤ 252) : holdsF (secF b) = true := by
  have hl := secF_length h
  have hp := padF_length h
  rw [holdsF, hl]
  refine decide_eq_true ⟨by decide, ?_⟩
  rw [secF, sealF, List.take_left' (by omega), List.drop_left' (by omega)]
theorem set_take {l : List UInt8} {n k : Nat} (hk : k < l.length) (hn : k < n) : ((l.take k).map bV ++ List.replicate (n - k) (Value.int .u8 0)).set k (bV (l.getD k 0)) = (l.take (k + 1)).map bV ++ List.replicate (n - (k + 1)) (Value.int .u8 0) := by
  have := set_seg (f := bV) (ws := l.take k) (n := n) (k := k) (x := l.getD k 0) (z := Value.int .u8 0) (by simp; omega) hn
  rw [segs_one (by simp; omega)] at this
  rw [this]
  congr 2
  rw [List.take_add_one, List.getD_eq_getElem?_getD, List.getElem?_eq_getElem hk]; rfl
end Go.Proofs.Ytpnipajadjeifaa.Sep
