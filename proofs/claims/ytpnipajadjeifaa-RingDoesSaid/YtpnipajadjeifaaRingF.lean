/- A ring that holds its records: what each act does to it, in plain Lean. -/
import Derived.Test.YtpnipajadjeifaaRingE
namespace Go.Proofs.Ytpnipajadjeifaa.Sep
open Go Go.RowKit
set_option linter.unusedVariables false
set_option linter.unusedSimpArgs false
theorem mod_near {n m sz : Nat} (h : n ≤ m) (h2 : m < n + sz) (e : n % sz = m % sz) : n = m := by
  have h1 : (m - n) % sz = 0 := by
    have := Nat.sub_mod_eq_zero_of_mod_eq e.symm
    exact this
  rw [Nat.mod_eq_of_lt (by omega)] at h1
  omega
theorem mod_ne {fr n m sz lo : Nat} (h1 : lo ≤ n) (h2 : n < lo + sz) (h3 : lo ≤ m) (h4 : m < lo + sz) (hne : n ≠ m) : fr + n % sz ≠ fr + m % sz := by
  intro e
  have e : n % sz = m % sz := by omega
  rcases Nat.le_total n m with h | h
  · exact hne (mod_near h (by omega) e)
  · exact hne (mod_near h (by omega) e.symm).symm
theorem secN_set_same {S : List (List UInt8)} {fr sz n : Nat} {s : List UInt8} (h : fr + n % sz < S.length) : secN (S.set (fr + n % sz) s) fr sz n = s := by
  rw [secN, List.getD_eq_getElem?_getD, List.getElem?_set_self h]; rfl
theorem secN_set_ne {S : List (List UInt8)} {fr sz n m : Nat} {s : List UInt8} (h : fr + n % sz ≠ fr + m % sz) : secN (S.set (fr + n % sz) s) fr sz m = secN S fr sz m := by
  rw [secN, List.getD_eq_getElem?_getD, List.getElem?_set_ne h, ← List.getD_eq_getElem?_getD]; rfl
/-- What the sectors of a ring hold. -/
structure RgS (S : List (List UInt8)) (fr sz tl hd : Nat) (ml : List (List UInt8)) : Prop where
  hN : fr + sz ≤ S.length
  h2 : 2 ≤ sz
  hs : sz ≤ 256
  len : hd = tl + ml.length
  full : ml.length ≤ sz
  big : hd ≤ 1000000
  short : ∀ b, b ∈ ml → b.length ≤ 224
  recs : ∀ i, i < ml.length → secN S fr sz (tl + i) = secF (ringB (tl + i) (ml.getD i []))
  zero : ∀ n, hd ≤ n → n < tl + sz → secN S fr sz n = zero256
theorem RgS.read {S : List (List UInt8)} {fr sz tl hd : Nat} {ml : List (List UInt8)} (h : RgS S fr sz tl hd ml) {i : Nat} (hi : i < ml.length) : readR S fr sz tl hd ((tl + i : Nat) : Int) = (ml.getD i [], 0) := by
  have hl := h.len
  have hb : (ml.getD i []).length ≤ 224 := h.short _ (by rw [List.getD_eq_getElem?_getD, List.getElem?_eq_getElem hi]; exact List.getElem_mem hi)
  obtain ⟨h1, h2, h3⟩ := ring_back (n := tl + i) (b := ml.getD i []) (by have := h.big; omega) hb
  rw [readR, if_neg (by omega), Int.toNat_natCast, h.recs i hi, if_pos ⟨h1, h2⟩, h3]
theorem RgS.hall {S : List (List UInt8)} {fr sz tl hd : Nat} {ml : List (List UInt8)} (h : RgS S fr sz tl hd ml) : ∀ n : Nat, tl ≤ n → n < hd → (readR S fr sz tl hd (n : Int)).2 = 0 := by
  intro n h1 h2
  have hl := h.len
  obtain ⟨i, rfl⟩ : ∃ i, n = tl + i := ⟨n - tl, by omega⟩
  rw [h.read (by omega)]
theorem RgS.all {S : List (List UInt8)} {fr sz tl hd : Nat} {ml : List (List UInt8)} (h : RgS S fr sz tl hd ml) : allL S fr sz tl hd (hd - tl) = ml := by
  have hl := h.len
  apply List.ext_getElem
  · rw [allL_length]; omega
  · intro i h1 h2
    have := allL_get (S := S) (fr := fr) (sz := sz) (tl := tl) (hd := hd) (k := hd - tl) (i := i) (by omega)
    rw [h.read h2, List.getD_eq_getElem?_getD, List.getElem?_eq_getElem h1, List.getD_eq_getElem?_getD, List.getElem?_eq_getElem h2] at this
    exact this
theorem clean_of {S : List (List UInt8)} {fr sz : Nat} : ∀ (k n : Nat), (∀ m, n ≤ m → m < n + k → secN S fr sz m = zero256) → cleanB S fr sz n k = true
  | 0, n, _ => rfl
  | k + 1, n, h => by
    rw [cleanB, decide_eq_true (h n (Nat.le_refl _) (by omega)), Bool.true_and]
    exact clean_of k (n + 1) fun m h1 h2 => h m (by omega) (by omega)
theorem RgS.clean {S : List (List UInt8)} {fr sz tl hd : Nat} {ml : List (List UInt8)} (h : RgS S fr sz tl hd ml) : cleanB S fr sz hd (tl + sz - hd) = true :=
  clean_of _ _ fun m h1 h2 => h.zero m h1 (by omega)
theorem RgS.same {S : List (List UInt8)} {fr sz tl hd mt : Nat} {ml l : List (List UInt8)} (h : RgS S fr sz tl hd ml) : sameR S fr sz tl hd mt l = decide (tl = mt ∧ ml = l) := by
  rw [sameR, h.clean, Bool.and_true, h.all]
/-- One record more, in its sector. -/
theorem RgS.add {S : List (List UInt8)} {fr sz tl hd : Nat} {ml : List (List UInt8)} (h : RgS S fr sz tl hd ml) {b : List UInt8} (hb : b.length ≤ 224) (hf : ml.length < sz) (hbig : hd < 1000000) :
    RgS (S.set (fr + hd % sz) (secF (ringB hd b))) fr sz tl (hd + 1) (ml ++ [b]) := by
  have hl := h.len
  have hN := h.hN
  have h2 := h.h2
  have hmod := Nat.mod_lt hd (show 0 < sz by omega)
  refine ⟨by rw [List.length_set]; exact h.hN, h.h2, h.hs, by simp; omega, by simp; omega, by omega, fun x hx => ?_, fun i hi => ?_, fun n h3 h4 => ?_⟩
  · rcases List.mem_append.1 hx with hx | hx
    · exact h.short x hx
    · rw [List.mem_singleton.1 hx]; exact hb
  · simp at hi
    rcases Nat.lt_or_ge i ml.length with h3 | h3
    · rw [secN_set_ne (n := hd) (m := tl + i) (mod_ne (lo := tl) (by omega) (by omega) (by omega) (by omega) (by omega)), h.recs i h3, List.getD_eq_getElem?_getD, List.getD_eq_getElem?_getD, List.getElem?_append_left h3]
    · obtain rfl : i = ml.length := by omega
      rw [← hl, secN_set_same (by omega), List.getD_eq_getElem?_getD, List.getElem?_append_right (Nat.le_refl _), Nat.sub_self]; rfl
  · rw [secN_set_ne (n := hd) (m := n) (mod_ne (lo := tl) (by omega) (by omega) (by omega) (by omega) (by omega))]
    exact h.zero n (by omega) h4
/-- The first record gone. -/
theorem RgS.pop {S : List (List UInt8)} {fr sz tl hd : Nat} {ml : List (List UInt8)} (h : RgS S fr sz tl hd ml) (h0 : 0 < ml.length) : RgS (S.set (fr + tl % sz) zero256) fr sz (tl + 1) hd (ml.drop 1) := by
  have hl := h.len
  have hN := h.hN
  have h2 := h.h2
  have hfull := h.full
  have hmod := Nat.mod_lt tl (show 0 < sz by omega)
  refine ⟨by rw [List.length_set]; exact h.hN, h.h2, h.hs, by simp; omega, by simp; omega, h.big, fun x hx => h.short x (List.mem_of_mem_drop hx), fun i hi => ?_, fun n h3 h4 => ?_⟩
  · simp at hi
    have := h.recs (i + 1) (by omega)
    rw [secN_set_ne (n := tl) (m := tl + 1 + i) (mod_ne (lo := tl) (by omega) (by omega) (by omega) (by omega) (by omega)), show tl + 1 + i = tl + (i + 1) by omega, this]
    congr 2
    rw [List.getD_eq_getElem?_getD, List.getD_eq_getElem?_getD, List.getElem?_drop, Nat.add_comm 1 i]
  · rcases Nat.lt_or_ge n (tl + sz) with h5 | h5
    · rw [secN_set_ne (n := tl) (m := n) (mod_ne (lo := tl) (by omega) (by omega) (by omega) (by omega) (by omega))]
      exact h.zero n h3 h5
    · obtain rfl : n = tl + sz := by omega
      have e : secN (S.set (fr + tl % sz) zero256) fr sz (tl + sz) = secN (S.set (fr + tl % sz) zero256) fr sz tl := by rw [secN, secN, Nat.add_mod_right]
      rw [e, secN_set_same (by omega)]
/-- A ring on a disk that has its power. -/
structure RI (D : Dk) (fr sz tl hd : Nat) (ml : List (List UInt8)) : Prop where
  up : Up D
  wait : D.wait = []
  s : RgS D.last fr sz tl hd ml
theorem one_up {D : Dk} (h : Up D) (hw : D.wait = []) {i : Nat} (hi : i < D.last.length) {s : List UInt8} (hs : s.length = 256) :
    ∃ E F, writeF D (i : Int) s = (E, 0) ∧ flushF E = (F, 0) ∧ Up F ∧ F.wait = [] ∧ F.last = D.last.set i s := by
  obtain ⟨E, h1, h2, h3, h4⟩ := write_up h hi hs (by rw [hw]; decide)
  obtain ⟨F, g1, g2, g3, g4⟩ := flush_up h2
  exact ⟨E, F, h1, g1, g2, g4, by rw [g3, h4, h3, hw]; rfl⟩
theorem RI.append {D : Dk} {fr sz tl hd : Nat} {ml : List (List UInt8)} (h : RI D fr sz tl hd ml) {b : List UInt8} (hb : b.length ≤ 224) (hf : ml.length < sz) (hbig : hd < 1000000) :
    ∃ D', appF D fr sz tl hd b = (D', hd + 1, hd, 0) ∧ RI D' fr sz tl (hd + 1) (ml ++ [b]) := by
  have hl := h.s.len
  have hN := h.s.hN
  have h2 := h.s.h2
  have hP : putR (hd : Int) b = (secF (ringB hd b), 0) := putR_ok (by omega) (by omega)
  obtain ⟨E, F, hW, hF, hU, hw, hS⟩ := one_up h.up h.wait (i := fr + hd % sz) (at_lt (by omega) hN) (s := secF (ringB hd b)) (secF_length (by rw [ringB_length]; omega))
  refine ⟨F, ?_, hU, hw, by rw [hS]; exact h.s.add hb hf hbig⟩
  rw [appF, if_neg (by omega), hP]
  dsimp only
  rw [if_neg (by simp), hW]
  dsimp only
  rw [if_neg (by simp), hF]
  dsimp only
  rw [if_neg (by simp)]
theorem RI.append_full {D : Dk} {fr sz tl hd : Nat} {ml : List (List UInt8)} (h : RI D fr sz tl hd ml) (b : List UInt8) (hf : sz ≤ ml.length) : appF D fr sz tl hd b = (D, hd, 0, 6) := by
  have hl := h.s.len
  rw [appF, if_pos (by omega)]
theorem RI.append_long {D : Dk} {fr sz tl hd : Nat} {ml : List (List UInt8)} (h : RI D fr sz tl hd ml) {b : List UInt8} (hb : 224 < b.length) (hf : ml.length < sz) : appF D fr sz tl hd b = (D, hd, 0, 15) := by
  have hl := h.s.len
  have hg := h.s.big
  have hP : putR (hd : Int) b = (zero256, 15) := putR_long (by omega) hb
  rw [appF, if_neg (by omega), hP]
  rfl
theorem RI.drop {fr sz hd : Nat} : ∀ (k : Nat) {D : Dk} {tl n : Nat} {ml : List (List UInt8)}, RI D fr sz tl hd ml → k ≤ ml.length → ∃ D', dropN fr sz k D tl n = (D', tl + k, n + k, 0) ∧ RI D' fr sz (tl + k) hd (ml.drop k)
  | 0, D, tl, n, ml, h, _ => ⟨D, rfl, h⟩
  | k + 1, D, tl, n, ml, h, hk => by
    have h2 := h.s.h2
    obtain ⟨E, F, hW, hF, hU, hw, hS⟩ := one_up h.up h.wait (i := fr + tl % sz) (at_lt (by omega) h.s.hN) (s := zero256) List.length_replicate
    obtain ⟨D', h3, h4⟩ := RI.drop k (D := F) (tl := tl + 1) (n := n + 1) (ml := ml.drop 1) ⟨hU, hw, by rw [hS]; exact h.s.pop (by omega)⟩ (by simp; omega)
    refine ⟨D', ?_, ?_⟩
    · rw [dropN, hW]
      dsimp only
      rw [if_neg (by simp), hF]
      dsimp only
      rw [if_neg (by simp), h3, show tl + 1 + k = tl + (k + 1) by omega, show n + 1 + k = n + (k + 1) by omega]
    · rw [show tl + (k + 1) = tl + 1 + k by omega, show ml.drop (k + 1) = (ml.drop 1).drop k by rw [List.drop_drop, Nat.add_comm]]
      exact h4
end Go.Proofs.Ytpnipajadjeifaa.Sep
