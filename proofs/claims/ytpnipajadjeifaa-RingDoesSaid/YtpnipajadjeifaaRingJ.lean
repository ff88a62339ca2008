/- RingDoes: a ring beside its model, in plain Lean. -/
import Derived.Test.YtpnipajadjeifaaRingI
namespace Go.Proofs.Ytpnipajadjeifaa.Sep
open Go Go.RowKit
set_option linter.unusedVariables false
set_option linter.unusedSimpArgs false
theorem memOf_in {m : Mem} {c : Chunk} {F : List Chunk} (h : c ∈ F) : ∀ a u, memOf m [c] a u → memOf m F a u := fun a u ha => ha.imp id fun ⟨d, hd, he⟩ => ⟨d, by rw [List.mem_singleton.1 hd]; exact h, he⟩
theorem Rd.inL {m : Mem} {c : Chunk} {F : List Chunk} {v : Value} {sz : Nat} {cs : List Value} (h : Rd (memOf m [c]) v sz cs) (hm : c ∈ F) : Rd (memOf m F) v sz cs := h.mono (memOf_in hm)
theorem Parts.inL {m : Mem} {c : Chunk} {F : List Chunk} {ls : List (List UInt8)} {vs : List Value} (h : Parts (memOf m [c]) ls vs) (hm : c ∈ F) : Parts (memOf m F) ls vs := h.mono (memOf_in hm)
theorem ActsOk.ro {m : Mem} {L : List Chunk} {v : Value} {l : List Act36} (h : ActsOk m v l) : ActsOk (memOf m L) v l := ⟨h.rd.ro, fun o ho => (h.part o ho).ro⟩
theorem light_get {l : List Act36} (h : lightB l = true) : l.length ≤ 60 ∧ ∀ i, i < l.length → (l.getD i act0).b.length ≤ 300 := by
  rw [lightB, Bool.and_eq_true, decide_eq_true_iff] at h
  exact ⟨h.1, fun i hi => of_decide_eq_true (List.all_eq_true.1 h.2 _ (getD_mem hi))⟩
/-- How many are dropped, told twice. -/
theorem drop_both {tl hd to : Nat} {ml : List (List UInt8)} (h : hd = tl + ml.length) : min to hd - tl = q36 tl ml to := by unfold q36; omega
theorem q36_le (tl : Nat) (ml : List (List UInt8)) (to : Nat) : q36 tl ml to ≤ ml.length := Nat.min_le_left _ _
/-- A record appended, told twice. -/
theorem app_both {D : Dk} {fr sz tl hd : Nat} {ml : List (List UInt8)} (h : RI D fr sz tl hd ml) (b : List UInt8) (hbig : hd < 1000000) :
    (c36 sz tl ml b ≠ 0 ∧ appF D fr sz tl hd b = (D, hd, 0, c36 sz tl ml b)) ∨ (c36 sz tl ml b = 0 ∧ ∃ D', appF D fr sz tl hd b = (D', hd + 1, hd, 0) ∧ RI D' fr sz tl (hd + 1) (ml ++ [b])) := by
  have hl := h.s.len
  rcases Nat.lt_or_ge ml.length sz with h1 | h1
  · rcases Nat.lt_or_ge 224 b.length with h2 | h2
    · have hc : c36 sz tl ml b = 15 := by
        rw [c36, if_neg (by omega), putR_long (by omega) h2]
      exact .inl ⟨by rw [hc]; decide, by rw [hc]; exact h.append_long h2 h1⟩
    · have hc : c36 sz tl ml b = 0 := by
        rw [c36, if_neg (by omega), putR_ok (by omega) (by omega)]
      exact .inr ⟨hc, h.append h2 h1 hbig⟩
  · have hc : c36 sz tl ml b = 6 := if_pos h1
    exact .inl ⟨by rw [hc]; decide, by rw [hc]; exact h.append_full b h1⟩
theorem app_told {D : Dk} {fr sz tl hd : Nat} {ml : List (List UInt8)} (h : RI D fr sz tl hd ml) (b : List UInt8) (hbig : hd < 1000000) :
    ∃ D1 hd1 n1, appF D fr sz tl hd b = (D1, hd1, n1, c36 sz tl ml b) ∧ ((c36 sz tl ml b ≠ 0 ∧ hd1 = hd ∧ n1 = 0 ∧ RI D1 fr sz tl hd ml) ∨ (c36 sz tl ml b = 0 ∧ hd1 = hd + 1 ∧ n1 = hd ∧ RI D1 fr sz tl (hd + 1) (ml ++ [b]))) := by
  rcases app_both h b hbig with ⟨h1, h2⟩ | ⟨h1, D', h2, h3⟩
  · exact ⟨D, hd, 0, h2, .inl ⟨h1, rfl, rfl, h⟩⟩
  · exact ⟨D', hd + 1, hd, by rw [h2, h1], .inr ⟨h1, rfl, rfl, h3⟩⟩
theorem told_both {m μ μ1 : Mem} {D1 : Dk} {fr sz tl hd hd1 n1 n2 : Nat} {ml : List (List UInt8)} {mv v2 bv : Value} {mvs : List Value} {bs : List UInt8} (hlm : hd = tl + ml.length)
    (h1 : (c36 sz tl ml bs ≠ 0 ∧ hd1 = hd ∧ n1 = 0 ∧ RI D1 fr sz tl hd ml) ∨ (c36 sz tl ml bs = 0 ∧ hd1 = hd + 1 ∧ n1 = hd ∧ RI D1 fr sz tl (hd + 1) (ml ++ [bs])))
    (h2 : (c36 sz tl ml bs ≠ 0 ∧ v2 = mv ∧ n2 = 0) ∨ (c36 sz tl ml bs = 0 ∧ n2 = tl + ml.length ∧ Rd μ1 v2 1 (mvs ++ [bv])))
    (hmv : Rd (memOf m [.fz μ]) mv 1 mvs) (hmp : Parts (memOf m [.fz μ]) ml mvs) (hb : Rd m bv 1 (bs.map bV)) :
    ∃ ml2 mvs2, RI D1 fr sz tl hd1 ml2 ∧ hd1 ≤ hd + 1 ∧ n1 = n2 ∧ Rd (memOf m [.fz (fun a u => μ a u ∨ (Chunk.fz μ1).at a u)]) v2 1 mvs2 ∧ Parts (memOf m [.fz (fun a u => μ a u ∨ (Chunk.fz μ1).at a u)]) ml2 mvs2 := by
  have hm : ∀ a u, memOf m [.fz μ] a u → memOf m [.fz (fun a u => μ a u ∨ (Chunk.fz μ1).at a u)] a u := fun a u h => h.imp id fun ⟨d, hd, hx⟩ => by
    rw [List.mem_singleton.1 hd] at hx
    exact ⟨_, List.mem_singleton.2 rfl, .inl hx⟩
  rcases h1 with ⟨a1, a2, a3, a4⟩ | ⟨a1, a2, a3, a4⟩
  · rcases h2 with ⟨b1, b2, b3⟩ | ⟨b1, b2, b3⟩
    · exact ⟨ml, mvs, by rw [a2]; exact a4, by omega, by omega, by rw [b2]; exact hmv.mono hm, hmp.mono hm⟩
    · exact absurd b1 a1
  · rcases h2 with ⟨b1, b2, b3⟩ | ⟨b1, b2, b3⟩
    · exact absurd a1 b1
    · exact ⟨ml ++ [bs], mvs ++ [bv], by rw [a2]; exact a4, by omega, by omega, b3.mono fun a u h => .inr ⟨_, List.mem_singleton.2 rfl, .inr h⟩, (hmp.mono hm).snoc hb.ro⟩
theorem told_one {μ1 : Mem} {c n2 k : Nat} {mv v2 : Value} {vs : List Value} (hn : one mv = true) (h2 : (c ≠ 0 ∧ v2 = mv ∧ n2 = 0) ∨ (c = 0 ∧ n2 = k ∧ Rd μ1 v2 1 vs)) : one v2 = true := by
  rcases h2 with ⟨_, h, _⟩ | ⟨_, _, h⟩
  · rw [h]; exact hn
  · exact one_sl h.1
end Go.Proofs.Ytpnipajadjeifaa.Sep
