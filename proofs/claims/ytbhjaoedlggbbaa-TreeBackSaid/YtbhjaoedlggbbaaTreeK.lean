/- Proofs in rows; what is summed on the way up, and what follows of two ways to one sum. -/
import Derived.Test.YtbhjaoedlggbbaaTreeI
import Derived.Test.YtbhjaoedlggbbaaSepY
namespace Go.Proofs.Ytbhjaoedlggbbaa.Sep
open Go Go.RowKit
set_option linter.unusedVariables false
set_option linter.unusedSimpArgs false
section
variable {P : Program} {T : Tm} {m : Mem} {L : List Chunk} {dst : Option Tmp} {type : TypeId} {pos : String} {after : Array Edge} {guard : Option (Nat × Bool)}
theorem loadProof {t : TypeId} {x : Operand} {v : Value} {n i : Nat} {pvs : List Value} (ht : AggT P t 3) (hx : ev T x = some (elemP v (i * 3))) (hr : Rd (memOf m L) v 3 (rowC n pvs)) (hi : i < pvs.length) :
    LoadOp P ⟨dst, .load t x, type, pos, after, guard⟩ m T L (.agg [iV i, iV n, pvs.getD i undef].toArray) := by
  have := loadOp_elemAgg (P := P) (m := m) (L := L) (dst := dst) (type := type) (pos := pos) (after := after) (guard := guard) ht hx hr (by rw [rowC_length]; omega) (by decide)
  rwa [rowC_get n pvs hi] at this
end
theorem rowC_path {n : Nat} {pvs : List Value} {i : Nat} (hi : i < pvs.length) : (rowC n pvs)[i * 3 + 2]? = some (pvs.getD i undef) := by
  have h := congrArg (·[2]?) (rowC_get n pvs hi)
  simp only [List.getElem?_take_of_lt (show 2 < 3 by decide), List.getElem?_drop] at h
  exact h
theorem log_path {ls : List (List UInt8)} {i d : Nat} (hi : i < ls.length) (h : IsLog (ls.length : Int) d) : (pathF i (leafHs ls ls.length)).length ≤ d := by
  refine pathF_le d i _ ?_ (by rw [leafHs_length]; exact hi)
  have := h.1
  rw [leafHs_length]; omega

/-! texts in memory -/
def Parts (μ : Mem) (ls : List (List UInt8)) (vs : List Value) : Prop := vs.length = ls.length ∧ ∀ i, i < ls.length → Rd μ (vs.getD i undef) 1 ((ls.getD i []).map bV)
theorem Parts.mono {μ μ' : Mem} {ls : List (List UInt8)} {vs : List Value} (h : Parts μ ls vs) (hm : ∀ a u, μ a u → μ' a u) : Parts μ' ls vs := ⟨h.1, fun i hi => (h.2 i hi).mono hm⟩
theorem Parts.fz {m μ : Mem} {L : List Chunk} {ls : List (List UInt8)} {vs : List Value} (h : Parts μ ls vs) (hm : Chunk.fz μ ∈ L) : Parts (memOf m L) ls vs := h.mono fun _ _ ha => .inr ⟨_, hm, ha⟩
theorem Parts.rds {μ : Mem} {v : Value} {ls : List (List UInt8)} {vs : List Value} (h : Parts μ ls vs) (hv : Rd μ v 1 vs) : Rds μ v ls vs := ⟨hv, h.1, h.2⟩
theorem Parts.one {μ : Mem} {v : Value} {l : List UInt8} (h : Rd μ v 1 (l.map bV)) : Parts μ [l] [v] := ⟨rfl, fun i hi => by
  match i, hi with
  | 0, _ => exact h⟩
theorem Parts.append {μ : Mem} {ls ls' : List (List UInt8)} {vs vs' : List Value} (h : Parts μ ls vs) (h' : Parts μ ls' vs') : Parts μ (ls ++ ls') (vs ++ vs') := by
  refine ⟨by simp [h.1, h'.1], fun i hi => ?_⟩
  rw [List.getD_eq_getElem?_getD, List.getD_eq_getElem?_getD]
  rcases Nat.lt_or_ge i ls.length with h1 | h1
  · rw [List.getElem?_append_left (by rw [h.1]; exact h1), List.getElem?_append_left h1, ← List.getD_eq_getElem?_getD, ← List.getD_eq_getElem?_getD]; exact h.2 i h1
  · rw [List.getElem?_append_right (by rw [h.1]; exact h1), List.getElem?_append_right h1, h.1, ← List.getD_eq_getElem?_getD, ← List.getD_eq_getElem?_getD]
    exact h'.2 _ (by simp at hi; omega)
theorem Parts.ones {μ : Mem} {ls : List (List UInt8)} {vs : List Value} (h : Parts μ ls vs) : ∀ v, v ∈ vs → Sep.one v = true := by
  intro v hv
  obtain ⟨i, hi, rfl⟩ := List.getElem_of_mem hv
  have := (h.2 i (by rw [← h.1]; exact hi)).1
  rw [List.getD_eq_getElem?_getD, List.getElem?_eq_getElem hi] at this
  rcases this with ⟨h, _⟩ | ⟨b, off, len, cap, h, _⟩ | ⟨a, cap, h, _⟩ <;> (rw [Option.getD_some] at h; rw [h]; rfl)
theorem Parts.cells {μ : Mem} {ls : List (List UInt8)} {vs : List Value} (h : Parts μ ls vs) : ∀ v, v ∈ vs → v.cells.size = 1 := fun v hv => by rw [one_cells (h.ones v hv)]; rfl

/-! the texts of a climb -/
def stepT (k : Nat) (a p : List UInt8) : List UInt8 := if k % 2 = 0 then nodeText (shaF a) p else nodeText p (shaF a)
def textsN : Nat → Nat → Nat → List UInt8 → List (List UInt8) → Nat → List (List UInt8)
  | 0, _, _, a, _, N => [rootText N (shaF a)]
  | f + 1, k, n, a, ps, N =>
    if n ≤ 1 then [rootText N (shaF a)]
    else if k ^^^ 1 < n then
      if ps = [] then [] else stepT k a (ps.getD 0 []) :: textsN f (k / 2) ((n + 1) / 2) (stepT k a (ps.getD 0 [])) (ps.drop 1) N
    else textsN f (k / 2) ((n + 1) / 2) a ps N
def textsF (k n : Nat) (ps : List (List UInt8)) (d : List UInt8) : List (List UInt8) := leafText k d :: textsN n k n (leafText k d) ps n
theorem textsN_stop {f k n : Nat} {a : List UInt8} {ps : List (List UInt8)} {N : Nat} (hn : n ≤ 1) : textsN f k n a ps N = [rootText N (shaF a)] := by
  cases f with
  | zero => rfl
  | succ f => rw [textsN, if_pos hn]
theorem textsN_len : ∀ (f k n : Nat) (a : List UInt8) (ps : List (List UInt8)) (N : Nat), (textsN f k n a ps N).length ≤ f + 1
  | 0, _, _, _, _, _ => Nat.le_refl _
  | f + 1, k, n, a, ps, N => by
    rw [textsN]
    split
    · simp
    · split
      · split
        · simp
        · have := textsN_len f (k / 2) ((n + 1) / 2) (stepT k a (ps.getD 0 [])) (ps.drop 1) N
          simp only [List.length_cons]; omega
      · have := textsN_len f (k / 2) ((n + 1) / 2) a ps N
        omega
theorem textsF_len (k n : Nat) (ps : List (List UInt8)) (d : List UInt8) : (textsF k n ps d).length ≤ n + 2 := by
  have := textsN_len n k n (leafText k d) ps n
  simp only [textsF, List.length_cons]; omega
theorem nodeText_length2 {a b : List UInt8} (ha : a.length = 32) (hb : b.length = 32) : (nodeText a b).length = 68 := by simp [nodeText, tagN, ha, hb]
theorem stepT_length (k : Nat) {a p : List UInt8} (hp : p.length = 32) : (stepT k a p).length = 68 := by
  unfold stepT; split
  · exact nodeText_length2 (shaF_length _) hp
  · exact nodeText_length2 hp (shaF_length _)
theorem rootText_length' (n : Nat) {a : List UInt8} (h : a.length = 32) : (rootText n a).length = 40 := by simp [rootText, tagR, h, putF_length]
theorem textsN_bd : ∀ (f k n : Nat) (a : List UInt8) (ps : List (List UInt8)) (N : Nat), HsOk ps → ∀ t, t ∈ textsN f k n a ps N → t.length ≤ 68
  | 0, _, _, _, _, _, _, t, ht => by
    rw [textsN, List.mem_singleton] at ht
    rw [ht, rootText_length' _ (shaF_length _)]; decide
  | f + 1, k, n, a, ps, N, ok, t, ht => by
    rw [textsN] at ht
    split at ht
    · rw [List.mem_singleton.1 ht, rootText_length' _ (shaF_length _)]; decide
    · split at ht
      · split at ht
        · cases ht
        · rename_i hne
          rcases List.mem_cons.1 ht with rfl | ht
          · rw [stepT_length _ (ok.getD (List.length_pos_iff.2 hne))]; exact Nat.le_refl _
          · exact textsN_bd f _ _ _ _ N (ok.drop 1) t ht
      · exact textsN_bd f _ _ _ _ N ok t ht
theorem textsF_bd {k n : Nat} {ps : List (List UInt8)} {d : List UInt8} (ok : HsOk ps) (hd : d.length ≤ 100) : ∀ t, t ∈ textsF k n ps d → t.length ≤ 108 := by
  intro t ht
  rcases List.mem_cons.1 ht with rfl | ht
  · simp [leafText, tagL, putF_length]; omega
  · exact Nat.le_trans (textsN_bd n k n _ ps n ok t ht) (by decide)
theorem getD_bd {ls : List (List UInt8)} {b : Nat} (h : ∀ t, t ∈ ls → t.length ≤ b) : ∀ i, (ls.getD i []).length ≤ b := by
  intro i
  rcases Nat.lt_or_ge i ls.length with h1 | h1
  · rw [List.getD_eq_getElem?_getD, List.getElem?_eq_getElem h1]; exact h _ (List.getElem_mem h1)
  · rw [List.getD_eq_getElem?_getD, List.getElem?_eq_none h1]; simp

/-! two ways to one sum -/
def Clash (l : List (List UInt8)) : Prop := ∃ a b, a ∈ l ∧ b ∈ l ∧ a ≠ b ∧ shaF a = shaF b
theorem stepT_sha (k : Nat) (a p : List UInt8) : shaF (stepT k a p) = if k % 2 = 0 then joinF (shaF a) p else joinF p (shaF a) := by unfold stepT joinF; split <;> rfl
theorem stepT_inj {k : Nat} {a a' p p' : List UInt8} (hp : p.length = 32) (hp' : p'.length = 32) (h : stepT k a p = stepT k a' p') : shaF a = shaF a' := by
  unfold stepT nodeText at h
  split at h
  · have h1 := (List.append_inj h (by simp [shaF_length])).1
    exact List.append_cancel_left h1
  · exact (List.append_inj h (by simp [hp, hp'])).2
theorem last_mem : ∀ (f k n : Nat) (a : List UInt8) (ps : List (List UInt8)) (N : Nat) (h : List UInt8) (r : List (List UInt8)), climbN f k n (shaF a) ps = some (h, r) → rootText N h ∈ textsN f k n a ps N
  | 0, k, n, a, ps, N, h, r, e => by cases e; exact List.mem_singleton.2 rfl
  | f + 1, k, n, a, ps, N, h, r, e => by
    rw [climbN] at e
    rw [textsN]
    split at e
    · rename_i h1; rw [if_pos h1]; cases e; exact List.mem_singleton.2 rfl
    · rename_i h1
      rw [if_neg h1]
      split at e
      · rename_i h2
        rw [if_pos h2]
        split at e
        · cases e
        · rename_i h3
          rw [if_neg h3]
          rw [← stepT_sha] at e
          exact List.mem_cons_of_mem _ (last_mem f _ _ _ _ N h r e)
      · rename_i h2
        rw [if_neg h2]
        exact last_mem f _ _ _ _ N h r e
theorem chain_tells : ∀ (f k n : Nat) (a a' : List UInt8) (ps ps' : List (List UInt8)) (N : Nat) (h h' : List UInt8) (r r' : List (List UInt8)), HsOk ps → HsOk ps' →
    climbN f k n (shaF a) ps = some (h, r) → climbN f k n (shaF a') ps' = some (h', r') → shaF (rootText N h) = shaF (rootText N h') → a ≠ a' →
    ∃ x y, x ∈ a :: textsN f k n a ps N ∧ y ∈ a' :: textsN f k n a' ps' N ∧ x ≠ y ∧ shaF x = shaF y := by
  have fin : ∀ (a a' : List UInt8) (N : Nat) (X Y : List (List UInt8)), rootText N (shaF a) ∈ X → rootText N (shaF a') ∈ Y → shaF (rootText N (shaF a)) = shaF (rootText N (shaF a')) → a ≠ a' →
      ∃ x y, x ∈ a :: X ∧ y ∈ a' :: Y ∧ x ≠ y ∧ shaF x = shaF y := by
    intro a a' N X Y hX hY hs hne
    by_cases h : shaF a = shaF a'
    · exact ⟨a, a', List.mem_cons_self .., List.mem_cons_self .., hne, h⟩
    · exact ⟨_, _, List.mem_cons_of_mem _ hX, List.mem_cons_of_mem _ hY, fun e => h (List.append_cancel_left e), hs⟩
  intro f
  induction f with
  | zero =>
    intro k n a a' ps ps' N h h' r r' ok ok' e e' hs hne
    cases e; cases e'
    exact fin a a' N _ _ (List.mem_singleton.2 rfl) (List.mem_singleton.2 rfl) hs hne
  | succ f ih =>
    intro k n a a' ps ps' N h h' r r' ok ok' e e' hs hne
    by_cases h1 : n ≤ 1
    · rw [climbN_stop h1] at e e'
      cases e; cases e'
      rw [textsN_stop h1, textsN_stop h1]
      exact fin a a' N _ _ (List.mem_singleton.2 rfl) (List.mem_singleton.2 rfl) hs hne
    · rw [climbN, if_neg h1] at e e'
      by_cases h2 : k ^^^ 1 < n
      · rw [if_pos h2] at e e'
        have p1 : ps ≠ [] := fun h3 => by rw [if_pos h3] at e; cases e
        have p2 : ps' ≠ [] := fun h3 => by rw [if_pos h3] at e'; cases e'
        rw [if_neg p1, ← stepT_sha] at e
        rw [if_neg p2, ← stepT_sha] at e'
        rw [textsN, if_neg h1, if_pos h2, if_neg p1, textsN, if_neg h1, if_pos h2, if_neg p2]
        by_cases h4 : stepT k a (ps.getD 0 []) = stepT k a' (ps'.getD 0 [])
        · exact ⟨a, a', List.mem_cons_self .., List.mem_cons_self .., hne, stepT_inj (ok.getD (List.length_pos_iff.2 p1)) (ok'.getD (List.length_pos_iff.2 p2)) h4⟩
        · obtain ⟨x, y, hx, hy, h5, h6⟩ := ih _ _ _ _ _ _ N h h' r r' (ok.drop 1) (ok'.drop 1) e e' hs h4
          exact ⟨x, y, List.mem_cons_of_mem _ hx, List.mem_cons_of_mem _ hy, h5, h6⟩
      · rw [if_neg h2] at e e'
        rw [textsN, if_neg h1, if_neg h2, textsN, if_neg h1, if_neg h2]
        exact ih _ _ _ _ _ _ N h h' r r' ok ok' e e' hs hne
theorem putF_inj {a b : Nat} (ha : a < 65536) (hb : b < 65536) (h : putF (UInt64.ofNat a) 4 = putF (UInt64.ofNat b) 4) : a = b := by
  have g : ∀ x i, i < 4 → (putF x 4)[i]? = some (shr64 x (8 * i)).toUInt8 := fun x i hi => by rw [putF, List.getElem?_map, List.getElem?_range hi]; rfl
  have h0 := congrArg (·[0]?) h
  have h1 := congrArg (·[1]?) h
  simp only [g _ _ (show 0 < 4 by decide), g _ _ (show 1 < 4 by decide), Option.some.injEq] at h0 h1
  have k0 := congrArg UInt8.toNat h0
  have k1 := congrArg UInt8.toNat h1
  simp [shr64, Nat.shiftRight_eq_div_pow] at k0 k1
  omega
theorem rootText_inj {a b : Nat} (ha : a < 65536) (hb : b < 65536) {x y : List UInt8} (h : rootText a x = rootText b y) : a = b := by
  unfold rootText at h
  have h1 := (List.append_inj h (by simp [putF_length])).1
  exact putF_inj ha hb (List.append_cancel_left h1)
theorem leafText_inj {k : Nat} {d d' : List UInt8} (h : leafText k d = leafText k d') : d = d' := List.append_cancel_left h
theorem Clash.of {X Y : List (List UInt8)} {x y : List UInt8} (hx : x ∈ X) (hy : y ∈ Y) (hne : x ≠ y) (hs : shaF x = shaF y) : Clash (X ++ Y) :=
  ⟨x, y, List.mem_append_left _ hx, List.mem_append_right _ hy, hne, hs⟩
/-- A way up to the sum of a list: of another number of things, or to another thing, it tells a clash. -/
theorem tells {ls : List (List UInt8)} {q n j : Nat} {ps : List (List UInt8)} {d : List UInt8} (hc : checkF ls.length = 0) (hj : j < ls.length) (okp : HsOk ps)
    (hv : climbF (q : Int) (n : Int) ps d = (shaF (rootText ls.length (topF (leafHs ls ls.length))), true)) (hno : n ≠ ls.length ∨ (j = q ∧ d ≠ ls.getD q [])) :
    Clash (textsF q n ps d ++ textsF j ls.length (pathF j (leafHs ls ls.length)) (ls.getD j [])) := by
  have hl := checkF_len hc
  have hin : ¬ ((n : Int) < 1 ∨ 1024 < (n : Int) ∨ (q : Int) < 0 ∨ (n : Int) ≤ q) := fun h => by rw [climbF, if_pos h] at hv; exact Bool.noConfusion (congrArg Prod.snd hv)
  have e' := climb_path ls.length j (leafHs ls ls.length) (by rw [leafHs_length]; omega) (by rw [leafHs_length]; exact hj) []
  rw [leafHs_length, List.append_nil] at e'
  have hg : (leafHs ls ls.length).getD j [] = shaF (leafText j (ls.getD j [])) := by
    rw [leafHs, List.getD_eq_getElem?_getD, List.getElem?_map, List.getElem?_range hj]; rfl
  rw [hg] at e'
  cases e : climbN n q n (shaF (leafText q d)) ps with
  | none => rw [climbF_none hin e] at hv; exact Bool.noConfusion (congrArg Prod.snd hv)
  | some p =>
    obtain ⟨h, r⟩ := p
    rw [climbF_some hin e, Prod.mk.injEq] at hv
    by_cases hn : n = ls.length
    · subst hn
      obtain ⟨rfl, hd⟩ := hno.resolve_left (fun h => h rfl)
      obtain ⟨x, y, hx, hy, h5, h6⟩ := chain_tells _ _ _ _ _ _ _ ls.length _ _ _ _ okp (hsP j ls) e e' hv.1 (fun h => hd (leafText_inj h))
      exact Clash.of hx hy h5 h6
    · refine Clash.of (List.mem_cons_of_mem _ (last_mem _ _ _ _ _ n _ _ e)) (List.mem_cons_of_mem _ (last_mem _ _ _ _ _ ls.length _ _ e')) (fun h => hn (rootText_inj (by omega) (by omega) h)) hv.1
theorem clash_idx {l : List (List UInt8)} (h : Clash l) : ∃ i k, k < i ∧ i < l.length ∧ l.getD i [] ≠ l.getD k [] ∧ shaF (l.getD i []) = shaF (l.getD k []) := by
  obtain ⟨a, b, ha, hb, hne, hs⟩ := h
  obtain ⟨i, hi, rfl⟩ := List.getElem_of_mem ha
  obtain ⟨k, hk, rfl⟩ := List.getElem_of_mem hb
  have g : ∀ (i : Nat) (hi : i < l.length), l.getD i [] = l[i] := fun i hi => by rw [List.getD_eq_getElem?_getD, List.getElem?_eq_getElem hi]; rfl
  rcases Nat.lt_trichotomy i k with h | h | h
  · exact ⟨k, i, h, hk, by rw [g i hi, g k hk]; exact hne.symm, by rw [g i hi, g k hk]; exact hs.symm⟩
  · subst h; exact absurd rfl hne
  · exact ⟨i, k, h, hi, by rw [g i hi, g k hk]; exact hne, by rw [g i hi, g k hk]; exact hs⟩
end Go.Proofs.Ytbhjaoedlggbbaa.Sep
