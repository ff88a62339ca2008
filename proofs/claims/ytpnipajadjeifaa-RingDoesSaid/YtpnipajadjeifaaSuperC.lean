/- What is put is read back; one of two supers is always there: plain Lean. -/
import Derived.Test.YtpnipajadjeifaaSuperB
namespace Go.Proofs.Ytpnipajadjeifaa.Sep
open Go Go.RowKit
set_option linter.unusedVariables false
set_option linter.unusedSimpArgs false
theorem mid {p q r : List UInt8} {i n : Nat} (hp : p.length = i) (hq : q.length = n) : ((p ++ (q ++ r)).drop i).take n = q := by
  rw [List.drop_left' hp, List.take_left' hq]
theorem gN_mid {p r : List UInt8} {v i n : Nat} (hp : p.length = i) (hn : n ≤ 8) (hv : v < 256 ^ n) (h8 : v < 2 ^ 64) : gN (p ++ (putF (UInt64.ofNat v) n ++ r)) i n = v := by
  rw [gN, mid hp (putF_length ..)]
  have h1 : (UInt64.ofNat v).toNat = v := by rw [UInt64.toNat_ofNat']; exact Nat.mod_eq_of_lt h8
  rw [get_put hn (by rw [h1]; exact hv), h1]
/-- A super that is `z`: its numbers. -/
structure IsS (z : List UInt8) (a b c d : Int) (n : Nat) : Prop where
  good : goodS z
  ha : (gN z 8 2 : Int) = a
  hb : (gN z 10 2 : Int) = b
  hc : (gN z 12 2 : Int) = c
  hd : (gN z 14 2 : Int) = d
  hn : gN z 16 8 = n
theorem put_num (a b c d n : Nat) (h : planOk a b c d) (hn : n ≤ 1099511627776) :
    gN (secF (supB a b c d n)) 8 2 = a ∧ gN (secF (supB a b c d n)) 10 2 = b ∧ gN (secF (supB a b c d n)) 12 2 = c ∧ gN (secF (supB a b c d n)) 14 2 = d ∧ gN (secF (supB a b c d n)) 16 8 = n := by
  obtain ⟨r, hr⟩ : ∃ r, secF (supB a b c d n) = supB a b c d n ++ r := ⟨_, by rw [secF, sealF, padF, List.append_assoc]⟩
  rw [hr]
  unfold planOk at h
  have e : ∀ x, x ≤ 200 → x < 256 ^ 2 ∧ x < 2 ^ 64 := fun x hx => by omega
  have l8 : markL.length = 8 := rfl
  refine ⟨?_, ?_, ?_, ?_, ?_⟩
  · have := gN_mid (p := markL) (r := putF (UInt64.ofNat b) 2 ++ putF (UInt64.ofNat c) 2 ++ putF (UInt64.ofNat d) 2 ++ putF (UInt64.ofNat n) 8 ++ r) (v := a) (i := 8) (n := 2) rfl (by decide) (e a (by omega)).1 (e a (by omega)).2
    refine Eq.trans (congrArg (fun z => gN z 8 2) ?_) this
    simp only [supB, List.append_assoc]
  · have := gN_mid (p := markL ++ putF (UInt64.ofNat a) 2) (r := putF (UInt64.ofNat c) 2 ++ putF (UInt64.ofNat d) 2 ++ putF (UInt64.ofNat n) 8 ++ r) (v := b) (i := 10) (n := 2) (by simp [l8, putF_length]) (by decide) (e b (by omega)).1 (e b (by omega)).2
    refine Eq.trans (congrArg (fun z => gN z 10 2) ?_) this
    simp only [supB, List.append_assoc]
  · have := gN_mid (p := markL ++ putF (UInt64.ofNat a) 2 ++ putF (UInt64.ofNat b) 2) (r := putF (UInt64.ofNat d) 2 ++ putF (UInt64.ofNat n) 8 ++ r) (v := c) (i := 12) (n := 2) (by simp [l8, putF_length]) (by decide) (e c (by omega)).1 (e c (by omega)).2
    refine Eq.trans (congrArg (fun z => gN z 12 2) ?_) this
    simp only [supB, List.append_assoc]
  · have := gN_mid (p := markL ++ putF (UInt64.ofNat a) 2 ++ putF (UInt64.ofNat b) 2 ++ putF (UInt64.ofNat c) 2) (r := putF (UInt64.ofNat n) 8 ++ r) (v := d) (i := 14) (n := 2) (by simp [l8, putF_length]) (by decide) (e d (by omega)).1 (e d (by omega)).2
    refine Eq.trans (congrArg (fun z => gN z 14 2) ?_) this
    simp only [supB, List.append_assoc]
  · have := gN_mid (p := markL ++ putF (UInt64.ofNat a) 2 ++ putF (UInt64.ofNat b) 2 ++ putF (UInt64.ofNat c) 2 ++ putF (UInt64.ofNat d) 2) (r := r) (v := n) (i := 16) (n := 8) (by simp [l8, putF_length]) (by decide) (by omega) (by omega)
    refine Eq.trans (congrArg (fun z => gN z 16 8) ?_) this
    simp only [supB, List.append_assoc]
/-- There and back. -/
theorem put_back {a b c d n : Int} (h : planOk a b c d) (h0 : 0 ≤ n) (hn : n ≤ 1099511627776) : (putS a b c d n).2 = 0 ∧ IsS (putS a b c d n).1 a b c d n.toNat := by
  have hp := h
  unfold planOk at hp
  obtain ⟨a, rfl⟩ : ∃ k : Nat, a = k := ⟨a.toNat, by omega⟩
  obtain ⟨b, rfl⟩ : ∃ k : Nat, b = k := ⟨b.toNat, by omega⟩
  obtain ⟨c, rfl⟩ : ∃ k : Nat, c = k := ⟨c.toNat, by omega⟩
  obtain ⟨d, rfl⟩ : ∃ k : Nat, d = k := ⟨d.toNat, by omega⟩
  obtain ⟨n, rfl⟩ : ∃ k : Nat, n = k := ⟨n.toNat, by omega⟩
  have hn' : n ≤ 1099511627776 := by omega
  rw [putS_ok h hn']
  obtain ⟨h1, h2, h3, h4, h5⟩ := put_num a b c d n h hn'
  have hl : (secF (supB a b c d n)).length = 256 := secF_length (by rw [supB_length]; decide)
  refine ⟨rfl, ⟨(goodS_iff hl).2 ?_, congrArg _ h1, congrArg _ h2, congrArg _ h3, congrArg _ h4, h5⟩⟩
  show gN (secF (supB a b c d n)) 16 8 ≤ 1099511627776 ∧ putS (gN (secF (supB a b c d n)) 8 2) (gN (secF (supB a b c d n)) 10 2) (gN (secF (supB a b c d n)) 12 2) (gN (secF (supB a b c d n)) 14 2) (gN (secF (supB a b c d n)) 16 8) = (secF (supB a b c d n), 0)
  rw [h1, h2, h3, h4, h5, putS_ok h hn']
  exact ⟨hn', rfl⟩
theorem putS_code {a b c d n : Int} (h : (putS a b c d n).2 = 0) : planOk a b c d ∧ 0 ≤ n ∧ n ≤ 1099511627776 := by
  unfold putS at h
  split at h
  · rename_i hp
    split at h
    · cases h
    · exact ⟨hp, by omega, by omega⟩
  · cases h
theorem IsS.plan {z : List UInt8} {a b c d : Int} {n : Nat} (h : IsS z a b c d n) : planOk a b c d ∧ n ≤ 1099511627776 := by
  have h1 := h.good.2.1.2
  have h2 := h.good.2.2
  rw [h.ha, h.hb, h.hc, h.hd] at h1
  rw [h.hn] at h2
  exact ⟨h1, h2⟩
theorem IsS.supC {z : List UInt8} {a b c d : Int} {n : Nat} (h : IsS z a b c d n) : supC z = [.int .i64 a, .int .i64 b, .int .i64 c, .int .i64 d, iV n] := by
  rw [supC_of h.good, h.hn, ← h.ha, ← h.hb, ← h.hc, ← h.hd]
theorem IsS.next {z : List UInt8} {a b c d : Int} {n : Nat} (h : IsS z a b c d n) (hn : n < 1099511627776) : (nextS z).2 = 0 ∧ IsS (nextS z).1 a b c d (n + 1) := by
  unfold nextS
  rw [h.ha, h.hb, h.hc, h.hd, h.hn]
  have := put_back (n := ((n + 1 : Nat) : Int)) h.plan.1 (by omega) (by omega)
  exact this
/-! of disks -/
/-- A disk that reads as a super. -/
structure IsD (D : Dk) (a b c d : Int) (n : Nat) : Prop where
  ok : D.Ok
  wait : D.wait = []
  down : D.down = false
  two : 2 ≤ D.last.length
  code : (readZ D).2.2 = 0
  is : IsS (readZ D).1 a b c d n
theorem nowL_nil : nowL [] = [] := rfl
theorem read_last {D : Dk} (hw : D.wait = []) (hd : D.down = false) {i : Nat} (hi : i < D.last.length) : readF D (i : Int) = (D.last.getD i [], 0) := by
  have h1 : inF D (i : Int) := ⟨by omega, by omega⟩
  rw [readF, if_pos h1, hd, if_neg (by decide), seeF, hw, nowL_nil]
  rfl
theorem readZ_last {D : Dk} (hw : D.wait = []) (hd : D.down = false) (h2 : 2 ≤ D.last.length) : readZ D = chooseZ (D.last.getD 0 []) (D.last.getD 1 []) := by
  have h0 := read_last hw hd (i := 0) (by omega)
  have h1 := read_last hw hd (i := 1) (by omega)
  rw [readZ, show (0 : Int) = ((0 : Nat) : Int) from rfl, show (1 : Int) = ((1 : Nat) : Int) from rfl, h0, h1, if_neg (by simp)]
theorem chooseZ_eq {x y : List UInt8} (h : (chooseZ x y).2.2 = 0) : (chooseZ x y = (x, 0, 0) ∧ goodS x ∧ (goodS y → gN y 16 8 ≤ gN x 16 8)) ∨ (chooseZ x y = (y, 1, 0) ∧ goodS y ∧ (goodS x → gN x 16 8 < gN y 16 8)) := by
  unfold chooseZ at h ⊢
  split at h
  · cases h
  · rename_i h1
    rw [if_neg h1]
    split
    · rename_i h2
      refine .inr ⟨rfl, ?_, fun hx => ?_⟩
      · rcases h2 with h2 | h2
        · exact Decidable.byContradiction fun h3 => h1 ⟨h2, h3⟩
        · exact h2.1
      · rcases h2 with h2 | h2
        · exact absurd hx h2
        · exact h2.2
    · rename_i h2
      exact .inl ⟨rfl, Decidable.byContradiction fun h3 => h2 (.inl h3), fun hy => Nat.le_of_not_lt fun h3 => h2 (.inr ⟨hy, h3⟩)⟩
theorem chooseZ_right {x y : List UInt8} (hy : goodS y) (h : goodS x → gN x 16 8 < gN y 16 8) : chooseZ x y = (y, 1, 0) := by
  rw [chooseZ, if_neg (fun k => k.2 hy), if_pos]
  by_cases hx : goodS x
  · exact .inr ⟨hy, h hx⟩
  · exact .inl hx
theorem chooseZ_left {x y : List UInt8} (hx : goodS x) (h : goodS y → gN y 16 8 ≤ gN x 16 8) : chooseZ x y = (x, 0, 0) := by
  rw [chooseZ, if_neg (fun k => k.1 hx), if_neg]
  rintro (k | ⟨k1, k2⟩)
  · exact k hx
  · have := h k1; omega
/-- Written over the other one, the new one is read. -/
theorem IsD.over {D : Dk} {a b c d : Int} {n : Nat} (h : IsD D a b c d n) (hn : n < 1099511627776) :
    (chooseZ ((D.last.set (1 - (readZ D).2.1) (nextS (readZ D).1).1).getD 0 []) ((D.last.set (1 - (readZ D).2.1) (nextS (readZ D).1).1).getD 1 [])).2.2 = 0 ∧ IsS (chooseZ ((D.last.set (1 - (readZ D).2.1) (nextS (readZ D).1).1).getD 0 []) ((D.last.set (1 - (readZ D).2.1) (nextS (readZ D).1).1).getD 1 [])).1 a b c d (n + 1) := by
  obtain ⟨hn0, hy⟩ := h.is.next hn
  have hz := readZ_last h.wait h.down h.two
  have hc := h.code
  have his := h.is
  obtain ⟨y, hyy⟩ : ∃ y, y = (nextS (readZ D).1).1 := ⟨_, rfl⟩
  rw [← hyy] at hy ⊢
  match hl : D.last, h.two with
  | x0 :: x1 :: r, _ =>
    rw [hl] at hz
    rw [show (x0 :: x1 :: r).getD 0 [] = x0 from rfl, show (x0 :: x1 :: r).getD 1 [] = x1 from rfl] at hz
    rw [hz] at hc his ⊢
    rcases chooseZ_eq hc with ⟨e, e1, e2⟩ | ⟨e, e1, e2⟩
    · rw [e] at his ⊢
      have : chooseZ x0 y = (y, 1, 0) := chooseZ_right hy.good fun hx => by rw [his.hn, hy.hn]; omega
      show (chooseZ x0 y).2.2 = 0 ∧ IsS (chooseZ x0 y).1 a b c d (n + 1)
      rw [this]
      exact ⟨rfl, hy⟩
    · rw [e] at his ⊢
      have : chooseZ y x1 = (y, 0, 0) := chooseZ_left hy.good fun hx => by rw [his.hn, hy.hn]; omega
      show (chooseZ y x1).2.2 = 0 ∧ IsS (chooseZ y x1).1 a b c d (n + 1)
      rw [this]
      exact ⟨rfl, hy⟩
/-- The sectors alone tell what is read. -/
theorem IsD.same {D E : Dk} {a b c d : Int} {n : Nat} (h : IsD D a b c d n) (ok : E.Ok) (hl : E.last = D.last) (hw : E.wait = []) (hd : E.down = false) : IsD E a b c d n := by
  have hz : readZ E = readZ D := by rw [readZ_last hw hd (by rw [hl]; exact h.two), readZ_last h.wait h.down h.two, hl]
  exact ⟨ok, hw, hd, by rw [hl]; exact h.two, by rw [hz]; exact h.code, by rw [hz]; exact h.is⟩
theorem IsD.next {D E : Dk} {a b c d : Int} {n : Nat} (h : IsD D a b c d n) (hn : n < 1099511627776) (ok : E.Ok) (hl : E.last = D.last.set (1 - (readZ D).2.1) (nextS (readZ D).1).1) (hw : E.wait = []) (hd : E.down = false) : IsD E a b c d (n + 1) := by
  have h2 : 2 ≤ E.last.length := by rw [hl, List.length_set]; exact h.two
  have ho := h.over hn
  have hz := readZ_last hw hd h2
  rw [hl] at hz
  exact ⟨ok, hw, hd, h2, by rw [hz]; exact ho.1, by rw [hz]; exact ho.2⟩
theorem crashF_wait (D : Dk) (kf : Nat → Bool) : (crashF D kf).wait = [] := rfl
theorem crashF_down (D : Dk) (kf : Nat → Bool) : (crashF D kf).down = false := rfl
theorem crashF_last_nil {D : Dk} (h : D.wait = []) (kf : Nat → Bool) : (crashF D kf).last = D.last := by
  show setK kf D.wait D.last D.wait.length = D.last
  rw [h]; rfl
theorem crashF_last_one {D : Dk} {w : Wr} (h : D.wait = [w]) (kf : Nat → Bool) : (crashF D kf).last = D.last ∨ (crashF D kf).last = D.last.set w.1 w.2 := by
  show setK kf D.wait D.last D.wait.length = D.last ∨ setK kf D.wait D.last D.wait.length = D.last.set w.1 w.2
  rw [h]
  show (if kf 0 = true then _ else _) = _ ∨ (if kf 0 = true then _ else _) = _
  split
  · exact .inr rfl
  · exact .inl rfl
/-- However a super is written anew, behind a crash there is the old one or the next; if it was told as written: the next. -/
theorem bump_crash {D : Dk} {a b c d : Int} {n : Nat} (h : IsD D a b c d n) (hn : n < 1099511627776) (f : Int) (ok : (fuseF D f).Ok) (kf : Nat → Bool) :
    (IsD (crashF (bumpF (fuseF D f)).1 kf) a b c d n ∧ (bumpF (fuseF D f)).2.2 ≠ 0) ∨ IsD (crashF (bumpF (fuseF D f)).1 kf) a b c d (n + 1) := by
  have hE : IsD (fuseF D f) a b c d n := h.same ok rfl h.wait h.down
  obtain ⟨E, hEE⟩ : ∃ E, E = fuseF D f := ⟨_, rfl⟩
  rw [← hEE] at hE ok ⊢
  clear hEE h
  obtain ⟨hn0, hy⟩ := hE.is.next hn
  have hat := readZ_at E
  have hin : inF E ((1 - (readZ E).2.1 : Nat) : Int) := by have := hE.two; exact ⟨by omega, by omega⟩
  have hw0 := hE.wait
  unfold bumpF
  rw [if_neg (by rw [hE.code]; simp), if_neg (by rw [hn0]; simp)]
  have hW : writeF E ((1 - (readZ E).2.1 : Nat) : Int) (nextS (readZ E).1).1 = if (stepF E).2 = 0 then ({ (stepF E).1 with wait := (stepF E).1.wait ++ [(1 - (readZ E).2.1, (nextS (readZ E).1).1)] }, 0) else stepF E := by
    rw [writeF, if_pos hin, Int.toNat_natCast]
  have hlen := nextS_len (readZ E).1
  have hwok := writeF_ok hE.ok (i := ((1 - (readZ E).2.1 : Nat) : Int)) hlen (by rw [hw0]; decide)
  obtain ⟨y, hyy⟩ : ∃ y, y = (nextS (readZ E).1).1 := ⟨_, rfl⟩
  have hnx := fun (F : Dk) => hE.next (E := F) hn
  rw [← hyy] at hW hwok hnx ⊢
  obtain ⟨p, hp⟩ : ∃ p, p = 1 - (readZ E).2.1 := ⟨_, rfl⟩
  rw [← hp] at hW hwok hnx ⊢
  by_cases hs : (stepF E).2 = 0
  · rw [if_pos hs, stepF_wait, hw0] at hW
    rw [hW] at hwok ⊢
    obtain ⟨F, hF⟩ : ∃ F : Dk, F = { (stepF E).1 with wait := [(p, y)] } := ⟨_, rfl⟩
    rw [show ([] : List Wr) ++ [(p, y)] = [(p, y)] from rfl, ← hF] at hwok ⊢
    dsimp only at hwok ⊢
    rw [if_neg (by simp)]
    have hFl : F.last = E.last := by rw [hF]; exact stepF_last E
    have hFw : F.wait = [(p, y)] := by rw [hF]
    by_cases ht : (stepF F).2 = 0
    · have hfl : flushF F = (settleF (stepF F).1 (fun _ => true), 0) := by rw [flushF, if_pos ht]
      rw [hfl]
      dsimp only
      rw [if_neg (by simp)]
      refine .inr (hnx _ (crashF_ok (settleF_ok (stepF_ok hwok) _) _) ?_ rfl rfl)
      rw [crashF_last_nil rfl]
      show setK _ (stepF F).1.wait (stepF F).1.last (stepF F).1.wait.length = _
      rw [stepF_wait, stepF_last, hFw, hFl]
      rfl
    · have hfl : flushF F = stepF F := by rw [flushF, if_neg ht]
      rw [hfl, if_pos ht]
      have hsl : (stepF F).1.last = E.last := by rw [stepF_last, hFl]
      have hsw : (stepF F).1.wait = [(p, y)] := by rw [stepF_wait, hFw]
      rcases crashF_last_one hsw kf with h1 | h1
      · exact .inl ⟨hE.same (crashF_ok (stepF_ok hwok) _) (by rw [h1, hsl]) rfl rfl, ht⟩
      · exact .inr (hnx _ (crashF_ok (stepF_ok hwok) _) (by rw [h1, hsl]) rfl rfl)
  · rw [if_neg hs] at hW
    rw [hW, if_pos hs]
    refine .inl ⟨hE.same (crashF_ok (stepF_ok hE.ok) _) ?_ rfl rfl, hs⟩
    rw [crashF_last_nil (by rw [stepF_wait, hw0]), stepF_last]
end Go.Proofs.Ytpnipajadjeifaa.Sep
