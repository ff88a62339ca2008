/- Plans and supers: what the packages plan, super and the references 07, 08 compute, in plain Lean. -/
import Derived.Test.YtpnipajadjeifaaCrc
namespace Go.Proofs.Ytpnipajadjeifaa.Sep
open Go Go.RowKit
set_option linter.unusedVariables false
set_option linter.unusedSimpArgs false
def planOk (a b c d : Int) : Prop := ((1 ≤ a ∧ a ≤ 200) ∧ (1 ≤ b ∧ b ≤ 40)) ∧ ((1 ≤ c ∧ c ≤ 40) ∧ (1 ≤ d ∧ d ≤ 80))
instance (a b c d : Int) : Decidable (planOk a b c d) := by unfold planOk; infer_instance
def planChk (a b c d : Int) : Nat := if planOk a b c d then 0 else 2
def pairsC (l : List (Int × Int)) : List Value := l.flatMap fun p => [.int .i64 p.1, .int .i64 p.2]
theorem pairs_get : ∀ (l : List (Int × Int)) (k : Nat), k < l.length → ((pairsC l).drop (k * 2)).take 2 = [.int .i64 (l.getD k (0, 0)).1, .int .i64 (l.getD k (0, 0)).2]
  | [], k, h => by simp at h
  | p :: l, 0, h => rfl
  | p :: l, k + 1, h => by
    have := pairs_get l k (by simpa using h)
    rw [show (k + 1) * 2 = k * 2 + 2 by omega]
    exact this
def planL (a b c d : Int) : List (Int × Int) := [(a, 200), (b, 40), (c, 40), (d, 80)]
theorem planL_ok {a b c d : Int} (h : ∀ j, j < 4 → ¬ (((planL a b c d).getD j (0, 0)).1 < 1 ∨ ((planL a b c d).getD j (0, 0)).2 < ((planL a b c d).getD j (0, 0)).1)) : planOk a b c d := by
  have h0 := h 0 (by decide)
  have h1 := h 1 (by decide)
  have h2 := h 2 (by decide)
  have h3 := h 3 (by decide)
  simp only [planL, List.getD_cons_zero, List.getD_cons_succ] at h0 h1 h2 h3
  unfold planOk
  omega
theorem planL_bad {a b c d : Int} {k : Nat} (hk : k < 4) (h : ((planL a b c d).getD k (0, 0)).1 < 1 ∨ ((planL a b c d).getD k (0, 0)).2 < ((planL a b c d).getD k (0, 0)).1) : ¬ planOk a b c d := by
  unfold planOk
  match k, hk with
  | 0, _ | 1, _ | 2, _ | 3, _ => simp only [planL, List.getD_cons_zero, List.getD_cons_succ] at h; omega
def markL : List UInt8 := [77, 79, 82, 84, 77, 65, 73, 78]
def zero256 : List UInt8 := List.replicate 256 0
def supB (a b c d n : Nat) : List UInt8 := markL ++ putF (UInt64.ofNat a) 2 ++ putF (UInt64.ofNat b) 2 ++ putF (UInt64.ofNat c) 2 ++ putF (UInt64.ofNat d) 2 ++ putF (UInt64.ofNat n) 8
theorem supB_length (a b c d n : Nat) : (supB a b c d n).length = 24 := by simp [supB, markL, putF_length]
def putS (a b c d n : Int) : List UInt8 × Nat :=
  if planOk a b c d then (if n < 0 ∨ 1099511627776 < n then (zero256, 2) else (secF (supB a.toNat b.toNat c.toNat d.toNat n.toNat), 0)) else (zero256, 2)
theorem putS_length (a b c d n : Int) : (putS a b c d n).1.length = 256 := by
  unfold putS
  split
  · split
    · exact List.length_replicate
    · exact secF_length (by rw [supB_length]; decide)
  · exact List.length_replicate
/-- The number of some bytes of a sector. -/
def gN (x : List UInt8) (i n : Nat) : Nat := (getL ((x.drop i).take n)).toNat
def goodS (x : List UInt8) : Prop := (holdsF x = true ∧ x.take 8 = markL) ∧ (zeroF ((x.drop 24).take 228) = true ∧ planOk (gN x 8 2) (gN x 10 2) (gN x 12 2) (gN x 14 2)) ∧ gN x 16 8 ≤ 1099511627776
instance (x : List UInt8) : Decidable (goodS x) := by unfold goodS; infer_instance
/-- A super's cells, and the code. -/
def supC (x : List UInt8) : List Value := if goodS x then [iV (gN x 8 2), iV (gN x 10 2), iV (gN x 12 2), iV (gN x 14 2), iV (gN x 16 8)] else [iV 0, iV 0, iV 0, iV 0, iV 0]
def supK (x : List UInt8) : Nat := if goodS x then 0 else 5
theorem supC_length (x : List UInt8) : (supC x).length = 5 := by unfold supC; split <;> rfl
theorem cur_ok {d : List UInt8} {n : Nat} (h : n ≤ d.length) : curT false d n = d.take n ∧ curD false d n = d.drop n ∧ curB false d n = false := by
  have h1 : ¬ (false = true ∨ d.length < n) := by simp; omega
  exact ⟨if_neg h1, if_neg h1, decide_eq_false h1⟩
theorem piece {x : List UInt8} (i N k n : Nat) (h : k + n ≤ N) : (((x.drop i).take N).drop k).take n = (x.drop (i + k)).take n := by
  rw [List.drop_take, List.drop_drop, List.take_take, Nat.min_eq_left (by omega)]
theorem put_get : ∀ (l : List UInt8), l.length ≤ 8 → putF (getF l) l.length = l
  | [], _ => rfl
  | b :: r, h => by
    have hb := b.toNat_lt
    have hr := getF_lt r (by simp at h; omega)
    simp only [List.length_cons] at h ⊢
    have h7 : (256 : Nat) ^ r.length ≤ 256 ^ 7 := Nat.pow_le_pow_right (by decide) (by omega)
    rw [putF_succ _ _ (by omega)]
    have e : (getF (b :: r)).toNat = b.toNat + 256 * (getF r).toNat := by
      simp only [getF, UInt64.toNat_add, UInt64.toNat_mul, UInt8.toNat_toUInt64, show (256 : UInt64).toNat = 256 from rfl]
      omega
    have e1 : getF (b :: r) / 256 = getF r := by
      apply UInt64.toNat_inj.1
      rw [UInt64.toNat_div, e, show (256 : UInt64).toNat = 256 from rfl]; omega
    have e2 : (getF (b :: r) % 256).toUInt8 = b := by
      apply UInt8.toNat_inj.1
      rw [UInt64.toNat_toUInt8, UInt64.toNat_mod, e, show (256 : UInt64).toNat = 256 from rfl]; omega
    rw [e1, e2, put_get r (by omega)]
theorem getL_short {l : List UInt8} (h : l.length ≤ 8) : getL l = getF l := by rw [getL, List.take_of_length_le h]
theorem put_gN {x : List UInt8} {i n : Nat} (hx : i + n ≤ x.length) (hn : n ≤ 8) : putF (UInt64.ofNat (gN x i n)) n = (x.drop i).take n := by
  have hl : ((x.drop i).take n).length = n := by simp; omega
  have := put_get ((x.drop i).take n) (by omega)
  rw [hl] at this
  rw [gN, UInt64.ofNat_toNat, getL_short (by omega), this]
theorem get_put {x : UInt64} {n : Nat} (hn : n ≤ 8) (hx : x.toNat < 256 ^ n) : getL (putF x n) = x := by
  rw [getL_short (by rw [putF_length]; exact hn)]
  induction n generalizing x with
  | zero => apply UInt64.toNat_inj.1; simp at hx; rw [show putF x 0 = [] from rfl]; simp [getF, hx]
  | succ n ih =>
    have hp : (256 : Nat) ^ (n + 1) = 256 * 256 ^ n := by rw [Nat.pow_succ, Nat.mul_comm]
    rw [putF_succ x n (by omega), getF, ih (by omega) (by rw [UInt64.toNat_div, show (256 : UInt64).toNat = 256 from rfl]; omega)]
    apply UInt64.toNat_inj.1
    have hxl := x.toNat_lt
    simp only [UInt64.toNat_add, UInt64.toNat_mul, UInt8.toNat_toUInt64, UInt64.toNat_toUInt8, UInt64.toNat_mod, UInt64.toNat_div, show (256 : UInt64).toNat = 256 from rfl]
    omega
theorem gN_lt (x : List UInt8) (i n : Nat) (hn : n ≤ 8) : gN x i n < 256 ^ n := by
  have h := getF_lt ((x.drop i).take n) (by simp; omega)
  rw [gN, getL_short (by simp; omega)]
  refine Nat.lt_of_lt_of_le h (Nat.pow_le_pow_right (by decide) (by simp; omega))
theorem zero_rep : ∀ {l : List UInt8}, zeroF l = true → l = List.replicate l.length 0
  | [], _ => rfl
  | b :: l, h => by
    rw [zeroF, List.all_cons, Bool.and_eq_true] at h
    rw [List.length_cons, List.replicate_succ, ← zero_rep h.2, eq_of_beq h.1]
/-- A sector is a super's just if it is what is put of what stands there. -/
theorem goodS_iff {x : List UInt8} (hx : x.length = 256) :
    goodS x ↔ gN x 16 8 ≤ 1099511627776 ∧ putS (gN x 8 2) (gN x 10 2) (gN x 12 2) (gN x 14 2) (gN x 16 8) = (x, 0) := by
  have hb : ∀ i n, i + n ≤ 256 → n ≤ 8 → putF (UInt64.ofNat (gN x i n)) n = (x.drop i).take n := fun i n h1 h2 => put_gN (by omega) h2
  have hB : supB (gN x 8 2) (gN x 10 2) (gN x 12 2) (gN x 14 2) (gN x 16 8) = markL ++ (x.drop 8).take 16 := by
    rw [supB, hb 8 2 (by decide) (by decide), hb 10 2 (by decide) (by decide), hb 12 2 (by decide) (by decide), hb 14 2 (by decide) (by decide), hb 16 8 (by decide) (by decide)]
    have e : ∀ i j k, (x.drop i).take j ++ (x.drop (i + j)).take k = (x.drop i).take (j + k) := fun i j k => by rw [List.take_add, List.drop_drop]
    rw [List.append_assoc, List.append_assoc, List.append_assoc, List.append_assoc, e 14 2 8, e 12 2 10, e 10 2 12, e 8 2 14]
  constructor
  · rintro ⟨⟨hh, hm⟩, ⟨hz, hp⟩, hn⟩
    refine ⟨hn, ?_⟩
    rw [putS, if_pos hp, if_neg (by omega)]
    simp only [Int.toNat_natCast]
    rw [hB]
    congr 1
    have hh := of_decide_eq_true hh
    rw [hx] at hh
    have e1 : x.take 252 = padF (markL ++ (x.drop 8).take 16) := by
      have hz' := zero_rep hz
      rw [show ((x.drop 24).take 228).length = 228 by simp; omega] at hz'
      rw [padF, show (markL ++ (x.drop 8).take 16).length = 24 by simp [markL]; omega, ← hm, ← List.take_add, ← hz', ← List.take_add]
    rw [secF, ← e1, sealF, show crcF (x.take 252) = crcF (x.take (256 - 4)) from rfl, hh.2, show 256 - 4 = 252 from rfl, List.take_append_drop]
  · rintro ⟨hn, hp⟩
    unfold putS at hp
    split at hp
    · rename_i hpl
      rw [if_neg (by omega), Prod.mk.injEq] at hp
      have hp := hp.1
      simp only [Int.toNat_natCast] at hp
      rw [hB] at hp
      have hl24 : (markL ++ (x.drop 8).take 16).length = 24 := by simp [markL]; omega
      refine ⟨⟨by rw [← hp]; exact secF_holds (by omega), ?_⟩, ⟨?_, hpl⟩, hn⟩
      · rw [← hp, secF, sealF, padF, List.append_assoc, List.append_assoc]
        rfl
      · have : (x.drop 24).take 228 = List.replicate 228 0 := by
          conv => lhs; rw [← hp]
          rw [secF, sealF, padF, hl24, List.append_assoc, List.drop_left' hl24, List.take_left' List.length_replicate]
        rw [this, zeroF, List.all_eq_true]
        intro b hb
        rw [List.eq_of_mem_replicate hb]; rfl
    · exact absurd (congrArg Prod.snd hp) (by simp)
/-- Of two sectors: the cells, which, the code. -/
def chooseS (x y : List UInt8) : List Value × Nat × Nat :=
  if ¬ goodS x ∧ ¬ goodS y then ([iV 0, iV 0, iV 0, iV 0, iV 0], 0, 5)
  else if ¬ goodS x ∨ (goodS y ∧ gN x 16 8 < gN y 16 8) then (supC y, 1, 0) else (supC x, 0, 0)
theorem supC_at {x : List UInt8} (h : goodS x) : (supC x)[4]? = some (iV (gN x 16 8)) := by rw [supC, if_pos h]; rfl
theorem supC_bad {x : List UInt8} (h : ¬ goodS x) : supC x = [iV 0, iV 0, iV 0, iV 0, iV 0] := by rw [supC, if_neg h]
theorem one_sup (x : List UInt8) : ∀ u, u ∈ supC x → one u = true := by
  unfold supC
  split <;> exact one_rfl rfl
/-! for the walks -/
theorem obj_sl {b n : Nat} {cs : List Value} {w : World} (h : (Chunk.obj b cs).holds w) (hn : cs.length = n) (h0 : 0 < n) : (Chunk.sl (arrSl b 0 n 0 n 1) 1 cs).holds w := by
  obtain ⟨elem, fr, hb, hf⟩ := h
  refine .inr ⟨b, 0, n, n, cs.toArray, elem, fr, ?_, by rw [hn, Nat.mul_one], Nat.le_refl _, by simp [hn], hb, hf, fun i hi => by rw [Nat.zero_add]; exact List.getElem?_toArray⟩
  unfold arrSl
  rw [if_neg (by omega)]
  rfl
theorem obj_sl_has {b n : Nat} {cs cs' : List Value} (k : Nat) (h : (Chunk.sl (arrSl b 0 n 0 n 1) 1 cs').has k) : (Chunk.obj b cs).has k := by
  obtain ⟨off, len, cap, h⟩ := h
  unfold arrSl at h
  split at h <;> (cases h; rfl)
theorem arrSl_ok {b n : Nat} {cs : List Value} (hn : cs.length = n) : slOk (arrSl b 0 n 0 n 1) 1 cs := by
  unfold arrSl
  split
  · exact .inr (.inl ⟨b, 0, n - 0, n - 0, rfl, by rw [hn, Nat.sub_zero, Nat.mul_one], Nat.le_refl _⟩)
  · exact .inr (.inl ⟨b, 0 + 0 * 1, n - 0, n - 0, rfl, by rw [hn, Nat.sub_zero, Nat.mul_one], Nat.le_refl _⟩)
def supP (l : List Nat) (k : Nat) : List UInt8 := markL ++ (l.take k).flatMap fun n => putF (UInt64.ofNat n) 2
theorem supP_succ {l : List Nat} {k : Nat} (h : k < l.length) : supP l k ++ putF (UInt64.ofNat (l.getD k 0)) 2 = supP l (k + 1) := by
  unfold supP
  rw [List.take_add_one, List.getD_eq_getElem?_getD, List.getElem?_eq_getElem h, List.append_assoc, List.flatMap_append]
  simp
theorem supP_length (l : List Nat) (k : Nat) : (supP l k).length ≤ 8 + 2 * k := by
  unfold supP
  rw [List.length_append, show markL.length = 8 from rfl, List.length_flatMap]
  have h : ∀ (ms : List Nat), (ms.map fun n => (putF (UInt64.ofNat n) 2).length).sum = 2 * ms.length := by
    intro ms
    induction ms with
    | nil => rfl
    | cons m ms ih => rw [List.map_cons, List.sum_cons, ih, putF_length, List.length_cons]; omega
  rw [h, List.length_take]
  omega
theorem supP_all (a b c d n : Nat) : supP [a, b, c, d] 4 ++ putF (UInt64.ofNat n) 8 = supB a b c d n := by simp [supP, supB]
theorem nums_lt {a b c d k : Nat} (h : planOk (a : Int) b c d) (hk : k < 4) : [a, b, c, d].getD k 0 ≤ 200 := by
  unfold planOk at h
  match k, hk with
  | 0, _ | 1, _ | 2, _ | 3, _ => simp only [List.getD_cons_zero, List.getD_cons_succ]; omega
theorem planChk_ne {a b c d : Int} (h : planChk a b c d ≠ 0) : ¬ planOk a b c d := fun k => h (if_pos k)
theorem planChk_eq {a b c d : Int} (h : ¬ planChk a b c d ≠ 0) : planOk a b c d := Decidable.byContradiction fun k => h (by rw [planChk, if_neg k]; decide)
theorem putS_bad {a b c d n : Int} (h : ¬ planOk a b c d) : putS a b c d n = (zero256, 2) := if_neg h
theorem putS_far {a b c d n : Int} (h : planOk a b c d) (h2 : n < 0 ∨ 1099511627776 < n) : putS a b c d n = (zero256, 2) := by rw [putS, if_pos h, if_pos h2]
theorem putS_ok {a b c d n : Nat} (h : planOk (a : Int) b c d) (h2 : n ≤ 1099511627776) : putS a b c d n = (secF (supB a b c d n), 0) := by
  rw [putS, if_pos h, if_neg (by omega)]; rfl
theorem zero256_map : zero256.map bV = List.replicate 256 (Value.int .u8 0) := (zeros_map 256).symm
theorem gN_two {x : List UInt8} {i : Nat} (h : i + 2 ≤ x.length) : gN x i 2 = (x.getD i 0).toNat + 256 * (x.getD (i + 1) 0).toNat := by
  have e : (x.drop i).take 2 = [x.getD i 0, x.getD (i + 1) 0] := by
    rw [List.drop_eq_getElem_cons (by omega), List.drop_eq_getElem_cons (by omega)]
    rw [List.getD_eq_getElem?_getD, List.getD_eq_getElem?_getD, List.getElem?_eq_getElem (by omega), List.getElem?_eq_getElem (by omega)]
    rfl
  have h1 := (x.getD i 0).toNat_lt
  have h2 := (x.getD (i + 1) 0).toNat_lt
  rw [gN, e, getL_short (by simp)]
  simp only [getF, UInt64.toNat_add, UInt64.toNat_mul, UInt8.toNat_toUInt64, show (256 : UInt64).toNat = 256 from rfl, show (0 : UInt64).toNat = 0 from rfl]
  omega
theorem take_next {x : List UInt8} {i k : Nat} (h : i + k < x.length) : (x.drop i).take k ++ [x.getD (i + k) 0] = (x.drop i).take (k + 1) := by
  rw [List.take_add_one, List.getElem?_drop, List.getD_eq_getElem?_getD, List.getElem?_eq_getElem h]; rfl
end Go.Proofs.Ytpnipajadjeifaa.Sep
