/- The run that the statements of layer 8 make each time, in plain Lean. -/
import Derived.Test.YtpnipajadjeifaaSuperC
namespace Go.Proofs.Ytpnipajadjeifaa.Sep
open Go Go.RowKit
set_option linter.unusedVariables false
set_option linter.unusedSimpArgs false
theorem stepF_on {D : Dk} (h : D.down = false) (hf : D.fuse = -1) : stepF D = ({ D with fuse := -1, steps := IntKind.i64.wrap (D.steps + 1) }, 0) := by
  rw [stepF, if_neg (by rw [h, hf]; decide)]
  have : (if 0 < D.fuse then D.fuse - 1 else D.fuse) = -1 := by rw [hf]; rfl
  rw [this]
theorem writeF_on {D : Dk} (h : D.down = false) (hf : D.fuse = -1) {i : Nat} (hi : i < D.last.length) (s : List UInt8) :
    writeF D (i : Int) s = ({ D with fuse := -1, steps := IntKind.i64.wrap (D.steps + 1), wait := D.wait ++ [(i, s)] }, 0) := by
  rw [writeF, if_pos ⟨by omega, by omega⟩, stepF_on h hf, if_pos rfl]; rfl
theorem flushF_on {D : Dk} (h : D.down = false) (hf : D.fuse = -1) :
    flushF D = ({ last := setK (fun _ => true) D.wait D.last D.wait.length, wait := [], steps := IntKind.i64.wrap (D.steps + 1), fuse := -1, down := D.down }, 0) := by
  rw [flushF, stepF_on h hf, if_pos rfl]; rfl
theorem new_len (n : Nat) : (newF n).last.length = n := List.length_replicate
theorem new_get {n i : Nat} (h : i < n) : (newF n).last.getD i [] = zero256 := by
  rw [List.getD_eq_getElem?_getD, newF, List.getElem?_replicate, if_pos h]; rfl
theorem new_read {n : Nat} (h : 2 ≤ n) : readZ (newF n) = (zero256, 0, 5) := by
  rw [readZ_last (D := newF n) rfl rfl (by rw [new_len]; exact h), new_get (by omega), new_get (by omega), chooseZ, if_pos ⟨zero256_bad, zero256_bad⟩]
theorem new_bump {n : Nat} (h : 2 ≤ n) : bumpF (newF n) = (newF n, Z5, 5) := by
  have hz := new_read h
  rw [bumpF, if_pos (by rw [hz]; decide), hz]
/-- A super written to the second sector, not flushed; then one more mount. -/
theorem w_two {n : Nat} (h : 2 ≤ n) (hn : n ≤ 4096) {x : List UInt8} (hx : IsS x 3 2 1 4 6) (hl : x.length = 256) :
    ∃ D1 D2, writeF (newF n) 1 x = (D1, 0) ∧ D1.Ok ∧ D1.last = (newF n).last ∧ D1.wait.length < 1000000 ∧ bumpF D1 = (D2, nextC x, 0) ∧ D2.Ok ∧ D2.last.length = n ∧ D2.wait = [] ∧ readZ D2 = ((nextS x).1, 0, 0) ∧ IsS (nextS x).1 3 2 1 4 7 := by
  obtain ⟨hn0, hy⟩ := hx.next (by decide)
  have hyl := nextS_len x
  have h1 := writeF_on (D := newF n) rfl rfl (i := 1) (by rw [new_len]; omega) x
  obtain ⟨D1, hD1⟩ : ∃ D1, D1 = { newF n with fuse := -1, steps := IntKind.i64.wrap ((newF n).steps + 1), wait := (newF n).wait ++ [(1, x)] } := ⟨_, rfl⟩
  rw [← hD1] at h1
  have hok1 := writeF_ok (newF_ok hn) (i := ((1 : Nat) : Int)) hl (by show 0 < 1000000; decide)
  rw [h1] at hok1
  have hl1 : D1.last = (newF n).last := by rw [hD1]
  have hw1 : D1.wait = [(1, x)] := by rw [hD1]; rfl
  have hd1 : D1.down = false := by rw [hD1]; rfl
  have hf1 : D1.fuse = -1 := by rw [hD1]
  have hlen1 : D1.last.length = n := by rw [hl1, new_len]
  have hin : ∀ i : Nat, i < 2 → inF D1 (i : Int) := fun i hi => ⟨by omega, by rw [hlen1]; omega⟩
  have r0 : readF D1 ((0 : Nat) : Int) = (zero256, 0) := by
    rw [readF, if_pos (hin 0 (by decide)), hd1, if_neg (by decide), seeF, hw1, hl1]
    show ((aget [(((1 : Nat) : Int), x)] ((0 : Nat) : Int)).getD ((newF n).last.getD 0 []), 0) = _
    rw [new_get (by omega)]; rfl
  have r1 : readF D1 ((1 : Nat) : Int) = (x, 0) := by
    rw [readF, if_pos (hin 1 (by decide)), hd1, if_neg (by decide), seeF, hw1]
    rfl
  have hz : readZ D1 = (x, 1, 0) := by
    rw [readZ, show (0 : Int) = ((0 : Nat) : Int) from rfl, show (1 : Int) = ((1 : Nat) : Int) from rfl, r0, r1, if_neg (by simp)]
    exact chooseZ_right hx.good fun k => absurd k zero256_bad
  have h2 := writeF_on (D := D1) hd1 hf1 (i := 0) (by rw [hlen1]; omega) (nextS x).1
  obtain ⟨E, hE⟩ : ∃ E, E = { D1 with fuse := -1, steps := IntKind.i64.wrap (D1.steps + 1), wait := D1.wait ++ [(0, (nextS x).1)] } := ⟨_, rfl⟩
  rw [← hE] at h2
  have hokE := writeF_ok hok1 (i := ((0 : Nat) : Int)) hyl (by rw [hw1]; show 1 < 1000000; decide)
  rw [h2] at hokE
  have h3 := flushF_on (D := E) (by rw [hE]; exact hd1) (by rw [hE])
  have hokF := flushF_ok hokE
  rw [h3] at hokF
  refine ⟨D1, _, h1, hok1, hl1, by rw [hw1]; show 1 < 1000000; decide, ?_, hokF, ?_, rfl, ?_, hy⟩
  · rw [bumpF, hz]
    dsimp only
    rw [if_neg (by simp), hn0, if_neg (by simp)]
    rw [show ((1 - 1 : Nat) : Int) = ((0 : Nat) : Int) from rfl, h2]
    dsimp only
    rw [if_neg (by simp), h3]
    dsimp only
    rw [if_neg (by simp)]
  · show (setK _ E.wait E.last E.wait.length).length = n
    rw [setK_length, hE]; exact hlen1
  · have hlast : setK (fun _ => true) E.wait E.last E.wait.length = (D1.last.set 1 x).set 0 (nextS x).1 := by rw [hE, hw1]; rfl
    rw [hlast]
    rw [readZ_last (D := { last := _, wait := [], steps := _, fuse := -1, down := E.down }) rfl (by rw [hE]; exact hd1) (by show 2 ≤ ((D1.last.set 1 x).set 0 (nextS x).1).length; rw [List.length_set, List.length_set, hlen1]; exact h)]
    show chooseZ (((D1.last.set 1 x).set 0 (nextS x).1).getD 0 []) (((D1.last.set 1 x).set 0 (nextS x).1).getD 1 []) = _
    match hq : D1.last, hlen1 with
    | [], e => simp at e; omega
    | [_], e => simp at e; omega
    | x0 :: x1 :: r, _ =>
      show chooseZ (nextS x).1 x = _
      exact chooseZ_left hy.good fun _ => by rw [hx.hn, hy.hn]; decide
theorem flushF_len (D : Dk) : (flushF D).1.last.length = D.last.length := by
  unfold flushF
  split
  · show (setK _ _ _ _).length = _
    rw [setK_length, stepF_last]
  · rw [stepF_last]
theorem crashF_len (D : Dk) (kf : Nat → Bool) : (crashF D kf).last.length = D.last.length := by
  show (setK _ _ _ _).length = _
  rw [setK_length]
theorem bumpF_len (D : Dk) : (bumpF D).1.last.length = D.last.length := by
  unfold bumpF
  split
  · rfl
  · split
    · rfl
    · split
      · rw [writeF_last]
      · split
        · rw [flushF_len, writeF_last]
        · rw [flushF_len, writeF_last]
theorem bumpF_ok {D : Dk} (h : D.Ok) (hf : D.wait.length < 1000000) : (bumpF D).1.Ok := by
  unfold bumpF
  split
  · exact h
  · split
    · exact h
    · split
      · exact writeF_ok h (nextS_len _) hf
      · split
        · exact flushF_ok (writeF_ok h (nextS_len _) hf)
        · exact flushF_ok (writeF_ok h (nextS_len _) hf)
theorem bumpF_form (D : Dk) : ∃ p q r s n : Nat, (bumpF D).2.1 = [iV p, iV q, iV r, iV s, iV n] := by
  unfold bumpF
  split
  · exact ⟨0, 0, 0, 0, 0, rfl⟩
  · split
    · exact ⟨0, 0, 0, 0, 0, rfl⟩
    · split
      · exact ⟨0, 0, 0, 0, 0, rfl⟩
      · split
        · exact ⟨0, 0, 0, 0, 0, rfl⟩
        · exact ⟨_, _, _, _, _, rfl⟩
/-- A new disk, with a super that lasts. -/
theorem new_super {a b c d : Int} {n : Nat} {x : List UInt8} (hx : IsS x a b c d n) (hl : x.length = 256) :
    ∃ D1 D2, writeF (newF 9) 0 x = (D1, 0) ∧ D1.Ok ∧ D1.last = (newF 9).last ∧ flushF D1 = (D2, 0) ∧ IsD D2 a b c d n ∧ D2.last.length = 9 := by
  have h1 := writeF_on (D := newF 9) rfl rfl (i := 0) (by rw [new_len]; decide) x
  obtain ⟨D1, hD1⟩ : ∃ D1, D1 = { newF 9 with fuse := -1, steps := IntKind.i64.wrap ((newF 9).steps + 1), wait := (newF 9).wait ++ [(0, x)] } := ⟨_, rfl⟩
  rw [← hD1] at h1
  have hok1 := writeF_ok (newF_ok (n := 9) (by decide)) (i := ((0 : Nat) : Int)) hl (by decide)
  rw [h1] at hok1
  have hd1 : D1.down = false := by rw [hD1]; rfl
  have h3 := flushF_on (D := D1) hd1 (by rw [hD1])
  have hokF := flushF_ok hok1
  rw [h3] at hokF
  have hlast : setK (fun _ => true) D1.wait D1.last D1.wait.length = (newF 9).last.set 0 x := by rw [hD1]; rfl
  have hlen : ((newF 9).last.set 0 x).length = 9 := by rw [List.length_set]; exact new_len 9
  obtain ⟨D2, hD2⟩ : ∃ D2 : Dk, D2 = { last := setK (fun _ => true) D1.wait D1.last D1.wait.length, wait := [], steps := IntKind.i64.wrap (D1.steps + 1), fuse := -1, down := D1.down } := ⟨_, rfl⟩
  rw [← hD2] at h3 hokF
  have e1 : D2.last = (newF 9).last.set 0 x := by rw [hD2]; exact hlast
  have e2 : D2.wait = [] := by rw [hD2]
  have e3 : D2.down = false := by rw [hD2]; exact hd1
  have hz : readZ D2 = (x, 0, 0) := by
    rw [readZ_last e2 e3 (by rw [e1, hlen]; decide), e1]
    have g0 : ((newF 9).last.set 0 x).getD 0 [] = x := rfl
    have g1 : ((newF 9).last.set 0 x).getD 1 [] = zero256 := rfl
    rw [g0, g1]
    exact chooseZ_left hx.good fun k => absurd k zero256_bad
  exact ⟨D1, D2, h1, hok1, by rw [hD1], h3, ⟨hokF, e2, e3, by rw [e1, hlen]; decide, by rw [hz], by rw [hz]; exact hx⟩, by rw [e1, hlen]⟩
end Go.Proofs.Ytpnipajadjeifaa.Sep
