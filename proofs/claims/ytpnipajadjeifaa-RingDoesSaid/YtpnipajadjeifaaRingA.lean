/- Records as sectors: what the packages ring and reference 36 put and get, in plain Lean. -/
import Derived.Test.YtpnipajadjeifaaSuperB
namespace Go.Proofs.Ytpnipajadjeifaa.Sep
open Go Go.RowKit
set_option linter.unusedVariables false
set_option linter.unusedSimpArgs false
def ringM : List UInt8 := [82, 73, 78, 71]
def ringB (n : Nat) (b : List UInt8) : List UInt8 := ringM ++ putF (UInt64.ofNat n) 8 ++ [UInt8.ofNat b.length] ++ b
theorem ringB_length (n : Nat) (b : List UInt8) : (ringB n b).length = 13 + b.length := by
  simp [ringB, ringM, putF_length]; omega
def putR (n : Int) (b : List UInt8) : List UInt8 × Nat :=
  if n < 0 ∨ 1099511627776 < n then (zero256, 2) else if 224 < b.length then (zero256, 15) else (secF (ringB n.toNat b), 0)
theorem putR_length (n : Int) (b : List UInt8) : (putR n b).1.length = 256 := by
  unfold putR
  split
  · exact List.length_replicate
  · split
    · exact List.length_replicate
    · exact secF_length (by rw [ringB_length]; omega)
def rLen (x : List UInt8) : Nat := (x.getD 12 0).toNat
def rB (x : List UInt8) : List UInt8 := (x.drop 13).take (rLen x)
def goodR (x : List UInt8) : Prop := ((holdsF x = true ∧ x.take 4 = ringM) ∧ (gN x 4 8 ≤ 1099511627776 ∧ rLen x ≤ 224)) ∧ zeroF ((x.drop (13 + rLen x)).take (239 - rLen x)) = true
instance (x : List UInt8) : Decidable (goodR x) := by unfold goodR; infer_instance
theorem rB_length {x : List UInt8} (hx : x.length = 256) (hk : rLen x ≤ 224) : (rB x).length = rLen x := by simp [rB]; omega
theorem ringB_at {x : List UInt8} (hx : x.length = 256) (hk : rLen x ≤ 224) : ringB (gN x 4 8) (rB x) = ringM ++ (x.drop 4).take (9 + rLen x) := by
  have hl := rB_length hx hk
  have h1 : UInt8.ofNat (rLen x) = x.getD 12 0 := by simp [rLen]
  have h2 : (x.drop 4).take 8 ++ [x.getD 12 0] = (x.drop 4).take 9 := take_next (i := 4) (k := 8) (by omega)
  rw [ringB, hl, h1, put_gN (by omega) (by decide), List.append_assoc, List.append_assoc, ← List.append_assoc ((x.drop 4).take 8), h2, rB]
  rw [List.take_add, List.drop_drop]
theorem goodR_iff {x : List UInt8} (hx : x.length = 256) : goodR x ↔ (gN x 4 8 ≤ 1099511627776 ∧ rLen x ≤ 224) ∧ secF (ringB (gN x 4 8) (rB x)) = x := by
  constructor
  · rintro ⟨⟨⟨hh, hm⟩, hn, hk⟩, hz⟩
    refine ⟨⟨hn, hk⟩, ?_⟩
    have hh := of_decide_eq_true hh
    rw [hx] at hh
    have hz' := zero_rep hz
    rw [show ((x.drop (13 + rLen x)).take (239 - rLen x)).length = 239 - rLen x by simp; omega] at hz'
    have e1 : x.take 252 = padF (ringB (gN x 4 8) (rB x)) := by
      rw [padF, ringB_length, rB_length hx hk, ringB_at hx hk, ← hm, ← List.take_add, show 252 - (13 + rLen x) = 239 - rLen x by omega, ← hz', show 4 + (9 + rLen x) = 13 + rLen x by omega, ← List.take_add]
      congr 1; omega
    rw [secF, ← e1, sealF, show crcF (x.take 252) = crcF (x.take (256 - 4)) from rfl, hh.2, show 256 - 4 = 252 from rfl, List.take_append_drop]
  · rintro ⟨⟨hn, hk⟩, he⟩
    have hl : (ringB (gN x 4 8) (rB x)).length = 13 + rLen x := by rw [ringB_length, rB_length hx hk]
    refine ⟨⟨⟨by rw [← he]; exact secF_holds (by omega), ?_⟩, hn, hk⟩, ?_⟩
    · rw [← he, ringB_at hx hk, secF, sealF, padF, List.append_assoc, List.append_assoc]
      rfl
    · have : (x.drop (13 + rLen x)).take (239 - rLen x) = List.replicate (239 - rLen x) 0 := by
        conv => lhs; rw [← he]
        have hq : ∀ q, q = rLen x → (List.drop (13 + q) (secF (ringB (gN x 4 8) (rB x)))).take (239 - q) = List.replicate (239 - q) 0 := by
          rintro q rfl
          rw [secF, sealF, padF, hl, List.append_assoc, List.drop_left' hl, show 252 - (13 + rLen x) = 239 - rLen x by omega, List.take_left' List.length_replicate]
        have hr : rLen (secF (ringB (gN x 4 8) (rB x))) = rLen x := by rw [he]
        rw [hr]
        exact hq _ rfl
      rw [this, zeroF, List.all_eq_true]
      intro b hb
      rw [List.eq_of_mem_replicate hb]; rfl
theorem ring_num {n : Nat} {b r : List UInt8} (hn : n ≤ 1099511627776) (hb : b.length ≤ 224) : gN (ringB n b ++ r) 4 8 = n ∧ rLen (ringB n b ++ r) = b.length ∧ rB (ringB n b ++ r) = b := by
  have l4 : ringM.length = 4 := rfl
  have h1 : gN (ringB n b ++ r) 4 8 = n := by
    have h1 : (UInt64.ofNat n).toNat = n := by rw [UInt64.toNat_ofNat']; exact Nat.mod_eq_of_lt (by omega)
    have e : ringB n b ++ r = ringM ++ (putF (UInt64.ofNat n) 8 ++ ([UInt8.ofNat b.length] ++ (b ++ r))) := by simp only [ringB, List.append_assoc]
    rw [e, gN, List.drop_left' l4, List.take_left' (putF_length ..), get_put (by decide) (by rw [h1]; omega), h1]
  have h12 : (ringB n b ++ r).getD 12 0 = UInt8.ofNat b.length := by
    have e : ringB n b ++ r = (ringM ++ putF (UInt64.ofNat n) 8) ++ (UInt8.ofNat b.length :: (b ++ r)) := by simp only [ringB, List.append_assoc, List.singleton_append, List.cons_append, List.nil_append]
    have hl : (ringM ++ putF (UInt64.ofNat n) 8).length = 12 := by rw [List.length_append, putF_length]; rfl
    rw [e, List.getD_eq_getElem?_getD, List.getElem?_append_right (by omega), hl]; rfl
  have h2 : rLen (ringB n b ++ r) = b.length := by
    rw [rLen, h12, UInt8.toNat_ofNat']; omega
  refine ⟨h1, h2, ?_⟩
  have e : ringB n b ++ r = (ringM ++ putF (UInt64.ofNat n) 8 ++ [UInt8.ofNat b.length]) ++ (b ++ r) := by simp only [ringB, List.append_assoc]
  have hl : (ringM ++ putF (UInt64.ofNat n) 8 ++ [UInt8.ofNat b.length]).length = 13 := by rw [List.length_append, List.length_append, putF_length]; rfl
  rw [rB, h2, e, List.drop_left' hl, List.take_left' rfl]
/-- What is put is got. -/
theorem ring_back {n : Nat} {b : List UInt8} (hn : n ≤ 1099511627776) (hb : b.length ≤ 224) :
    goodR (secF (ringB n b)) ∧ gN (secF (ringB n b)) 4 8 = n ∧ rB (secF (ringB n b)) = b := by
  obtain ⟨r, hr⟩ : ∃ r, secF (ringB n b) = ringB n b ++ r := ⟨_, by rw [secF, sealF, padF, List.append_assoc]⟩
  obtain ⟨h1, h2, h3⟩ := ring_num (r := r) hn hb
  have hl : (secF (ringB n b)).length = 256 := secF_length (by rw [ringB_length]; omega)
  refine ⟨(goodR_iff hl).2 ?_, by rw [hr]; exact h1, by rw [hr]; exact h3⟩
  rw [hr, h1, h2, h3, ← hr]
  exact ⟨⟨hn, hb⟩, rfl⟩
theorem zero256_badR : ¬ goodR zero256 := by
  intro h
  have h4 : zero256.take 4 = List.replicate 4 0 := by rw [zero256, List.take_replicate]; rfl
  have h1 := h.1.1.2
  rw [h4] at h1
  exact absurd h1 (by decide)
theorem gN_one {x : List UInt8} (hx : x.length = 256) : gN x 12 1 = rLen x := by
  have e : (x.drop 12).take 1 = [x.getD 12 0] := by
    rw [List.drop_eq_getElem_cons (by omega), List.getD_eq_getElem?_getD, List.getElem?_eq_getElem (by omega)]
    rfl
  have h1 := (x.getD 12 0).toNat_lt
  rw [gN, e, getL_short (by simp), rLen]
  simp only [getF, UInt64.toNat_add, UInt64.toNat_mul, UInt8.toNat_toUInt64, show (256 : UInt64).toNat = 256 from rfl, show (0 : UInt64).toNat = 0 from rfl]
  omega
theorem putR_far {n : Int} {b : List UInt8} (h : n < 0 ∨ 1099511627776 < n) : putR n b = (zero256, 2) := if_pos h
theorem putR_long {n : Int} {b : List UInt8} (h : ¬ (n < 0 ∨ 1099511627776 < n)) (h2 : 224 < b.length) : putR n b = (zero256, 15) := by rw [putR, if_neg h, if_pos h2]
theorem putR_ok {n : Nat} {b : List UInt8} (h : ¬ ((n : Int) < 0 ∨ 1099511627776 < (n : Int))) (h2 : ¬ 224 < b.length) : putR n b = (secF (ringB n b), 0) := by rw [putR, if_neg h, if_neg h2]; rfl
end Go.Proofs.Ytpnipajadjeifaa.Sep
