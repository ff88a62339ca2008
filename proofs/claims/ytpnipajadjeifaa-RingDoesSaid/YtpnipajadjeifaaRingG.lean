/- A ring opened again holds what it held: plain Lean. -/
import Derived.Test.YtpnipajadjeifaaRingF
namespace Go.Proofs.Ytpnipajadjeifaa.Sep
open Go Go.RowKit
set_option linter.unusedVariables false
set_option linter.unusedSimpArgs false
theorem num_at {tl sz i : Nat} (hi : i < sz) : ∃ n, tl ≤ n ∧ n < tl + sz ∧ n % sz = i := by
  have h1 := Nat.div_add_mod tl sz
  have h2 := Nat.mod_lt tl (show 0 < sz by omega)
  have h3 : sz * (tl / sz + 1) = sz * (tl / sz) + sz := by rw [Nat.mul_add, Nat.mul_one]
  by_cases h : tl % sz ≤ i
  · exact ⟨sz * (tl / sz) + i, by omega, by omega, by rw [Nat.mul_add_mod, Nat.mod_eq_of_lt hi]⟩
  · exact ⟨sz * (tl / sz + 1) + i, by omega, by omega, by rw [Nat.mul_add_mod, Nat.mod_eq_of_lt hi]⟩
theorem RgS.good {S : List (List UInt8)} {fr sz tl hd : Nat} {ml : List (List UInt8)} (h : RgS S fr sz tl hd ml) {n : Nat} (h1 : tl ≤ n) (h2 : n < hd) : goodR (secN S fr sz n) ∧ gN (secN S fr sz n) 4 8 = n := by
  have hl := h.len
  have hb := h.big
  obtain ⟨i, rfl⟩ : ∃ i, n = tl + i := ⟨n - tl, by omega⟩
  have hi : i < ml.length := by omega
  have hs : (ml.getD i []).length ≤ 224 := h.short _ (by rw [List.getD_eq_getElem?_getD, List.getElem?_eq_getElem hi]; exact List.getElem_mem hi)
  obtain ⟨g1, g2, _⟩ := ring_back (n := tl + i) (b := ml.getD i []) (by omega) hs
  rw [h.recs i hi]
  exact ⟨g1, g2⟩
theorem found_inv {S : List (List UInt8)} {fr sz tl hd : Nat} {ml : List (List UInt8)} (h : RgS S fr sz tl hd ml) : ∀ i, i ≤ sz →
    (∀ n, tl ≤ n → n < hd → n % sz < i → (foundN S fr sz i).2.2 = true ∧ (foundN S fr sz i).1 ≤ n ∧ (n : Int) ≤ (foundN S fr sz i).2.1) ∧
    ((foundN S fr sz i).2.2 = true → tl ≤ (foundN S fr sz i).1 ∧ (foundN S fr sz i).1 < hd ∧ (foundN S fr sz i).2.1 < (hd : Int))
  | 0, _ => ⟨fun n _ _ h => absurd h (Nat.not_lt_zero _), fun h => by cases h⟩
  | i + 1, hi => by
    obtain ⟨h1, h2⟩ := found_inv h i (by omega)
    have hl := h.len
    have hf := h.full
    obtain ⟨n0, g1, g2, g3⟩ := num_at (tl := tl) (sz := sz) (i := i) (by omega)
    have hsec : S.getD (fr + i) [] = secN S fr sz n0 := by rw [secN, g3]
    have huniq : ∀ n, tl ≤ n → n < hd → n % sz = i → n = n0 := fun n k1 k2 k3 => by
      rcases Nat.le_total n n0 with k | k
      · exact mod_near k (by omega) (k3.trans g3.symm)
      · exact (mod_near k (by omega) (g3.trans k3.symm)).symm
    obtain ⟨F, hF⟩ : ∃ F, F = foundN S fr sz i := ⟨_, rfl⟩
    rw [foundN, ← hF, hsec]
    rw [← hF] at h1 h2
    by_cases k : n0 < hd
    · obtain ⟨q1, q2⟩ := h.good g1 k
      rw [if_pos ⟨q1, by rw [q2]; exact g3⟩, q2]
      refine ⟨fun n k1 k2 k3 => ⟨rfl, ?_, ?_⟩, fun _ => ?_⟩
      · show (if F.2.2 = false ∨ n0 < F.1 then n0 else F.1) ≤ n
        rcases Nat.lt_or_ge (n % sz) i with k4 | k4
        · obtain ⟨e1, e2, e3⟩ := h1 n k1 k2 k4
          rw [e1]
          split
          · rename_i k5
            rcases k5 with k5 | k5
            · cases k5
            · omega
          · exact e2
        · have := huniq n k1 k2 (by omega)
          subst this
          split <;> omega
      · show (n : Int) ≤ max F.2.1 n0
        rcases Nat.lt_or_ge (n % sz) i with k4 | k4
        · obtain ⟨e1, e2, e3⟩ := h1 n k1 k2 k4
          omega
        · have := huniq n k1 k2 (by omega)
          subst this
          omega
      · show tl ≤ (if F.2.2 = false ∨ n0 < F.1 then n0 else F.1) ∧ (if F.2.2 = false ∨ n0 < F.1 then n0 else F.1) < hd ∧ max F.2.1 n0 < (hd : Int)
        cases hok : F.2.2 with
        | true =>
          obtain ⟨e1, e2, e3⟩ := h2 hok
          refine ⟨?_, ?_, by omega⟩
          · split <;> omega
          · split <;> omega
        | false =>
          have hm : F.2.1 < (hd : Int) := by
            have : ∀ i, (foundN S fr sz i).2.2 = false → (foundN S fr sz i).2.1 = -1 := by
              intro i
              induction i with
              | zero => exact fun _ => rfl
              | succ i ih =>
                rw [foundN]
                split
                · intro h; cases h
                · exact ih
            have := this i (by rw [← hF]; exact hok)
            rw [← hF] at this
            omega
          rw [if_pos (.inl rfl)]
          exact ⟨g1, k, by omega⟩
    · have hz : ¬ goodR (secN S fr sz n0) := by rw [h.zero n0 (by omega) g2]; exact zero256_badR
      rw [if_neg fun q => hz q.1]
      refine ⟨fun n k1 k2 k3 => ?_, h2⟩
      rcases Nat.lt_or_ge (n % sz) i with k4 | k4
      · exact h1 n k1 k2 k4
      · have := huniq n k1 k2 (by omega)
        omega
theorem RgS.found {S : List (List UInt8)} {fr sz tl hd : Nat} {ml : List (List UInt8)} (h : RgS S fr sz tl hd ml) (h0 : 0 < ml.length) : (foundN S fr sz sz).2.2 = true ∧ (foundN S fr sz sz).1 = tl ∧ (foundN S fr sz sz).2.1 + 1 = (hd : Int) := by
  have hl := h.len
  have h2 := h.h2
  obtain ⟨h3, h4⟩ := found_inv h sz (Nat.le_refl _)
  obtain ⟨a1, a2, _⟩ := h3 tl (Nat.le_refl _) (by omega) (Nat.mod_lt _ (by omega))
  obtain ⟨_, _, b3⟩ := h3 (hd - 1) (by omega) (by omega) (Nat.mod_lt _ (by omega))
  obtain ⟨c1, c2, c3⟩ := h4 a1
  exact ⟨a1, by omega, by omega⟩
theorem RgS.found_none {S : List (List UInt8)} {fr sz tl hd : Nat} {ml : List (List UInt8)} (h : RgS S fr sz tl hd ml) (h0 : ml.length = 0) : ¬ (foundN S fr sz sz).2.2 = true := by
  have hl := h.len
  intro k
  obtain ⟨c1, c2, _⟩ := (found_inv h sz (Nat.le_refl _)).2 k
  omega
/-- The head and the tail that an opened ring has. -/
theorem RgS.ends {S : List (List UInt8)} {fr sz tl hd next : Nat} {ml : List (List UInt8)} (h : RgS S fr sz tl hd ml) (hn : ml.length = 0 → next = hd) :
    (if (foundN S fr sz sz).2.2 = true then (foundN S fr sz sz).1 else next) = tl ∧ (if (foundN S fr sz sz).2.2 = true then (foundN S fr sz sz).2.1 + 1 else (next : Int)) = (hd : Int) := by
  have hl := h.len
  rcases Nat.eq_zero_or_pos ml.length with h0 | h0
  · have hx := h.found_none h0
    have := hn h0
    rw [if_neg hx, if_neg hx]
    exact ⟨by omega, by omega⟩
  · obtain ⟨a1, a2, a3⟩ := h.found h0
    rw [if_pos a1, if_pos a1]
    exact ⟨a2, a3⟩
theorem RgS.nought {S : List (List UInt8)} {fr sz tl hd : Nat} {ml : List (List UInt8)} (h : RgS S fr sz tl hd ml) {n : Nat} (h1 : hd ≤ n) (h2 : n < tl + sz) : RgS (S.set (fr + n % sz) zero256) fr sz tl hd ml := by
  have hl := h.len
  have hN := h.hN
  have hf := h.full
  have hmod := Nat.mod_lt n (show 0 < sz by have := h.h2; omega)
  refine ⟨by rw [List.length_set]; exact h.hN, h.h2, h.hs, h.len, h.full, h.big, h.short, fun i hi => ?_, fun k h3 h4 => ?_⟩
  · rw [secN_set_ne (n := n) (m := tl + i) (mod_ne (lo := tl) (by omega) (by omega) (by omega) (by omega) (by omega))]
    exact h.recs i hi
  · by_cases hk : n = k
    · subst hk
      rw [secN_set_same (by omega)]
    · rw [secN_set_ne (n := n) (m := k) (mod_ne (lo := tl) (by omega) (by omega) (by omega) (by omega) hk)]
      exact h.zero k h3 h4
theorem wrote_snoc (ws : List Wr) (w : Wr) (S : List (List UInt8)) : wrote (ws ++ [w]) S = (wrote ws S).set w.1 w.2 := by simp [wrote]
theorem RgS.scrubbed {S : List (List UInt8)} {fr sz tl hd : Nat} {ml : List (List UInt8)} (h : RgS S fr sz tl hd ml) : ∀ k, hd + k ≤ tl + sz → RgS (wrote (zs fr sz hd k) S) fr sz tl hd ml
  | 0, _ => h
  | k + 1, hk => by
    rw [zs, wrote_snoc]
    exact (h.scrubbed k (by omega)).nought (by omega) (by omega)
/-- A ring of a new disk. -/
theorem RgS.new {n fr sz : Nat} (hN : fr + sz ≤ n) (h2 : 2 ≤ sz) (hs : sz ≤ 256) (hn : n ≤ 1000000) : RgS (newF n).last fr sz 0 0 [] :=
  ⟨by rw [new_len]; exact hN, h2, hs, rfl, Nat.zero_le _, Nat.zero_le _, fun b hb => (by cases hb), fun i hi => absurd hi (Nat.not_lt_zero _), fun k _ h4 => new_get (by have := Nat.mod_lt k (show 0 < sz by omega); omega)⟩
theorem RI.new {n fr sz : Nat} (hN : fr + sz ≤ n) (h2 : 2 ≤ sz) (hs : sz ≤ 256) (hn : n ≤ 4096) : RI (newF n) fr sz 0 0 [] :=
  ⟨⟨newF_ok hn, rfl, rfl⟩, rfl, .new hN h2 hs (by omega)⟩
end Go.Proofs.Ytpnipajadjeifaa.Sep
