/- Slices that are cut, built, appended to, copied; structs built. -/
import Derived.Test.YtpnipajadjeifaaSepE
namespace Go.Proofs.Ytpnipajadjeifaa.Sep
open Go Go.RowKit
set_option linter.unusedVariables false
set_option linter.unusedSimpArgs false

/-- v[l:h]. -/
def slc (v : Value) (l h sz : Nat) : Value :=
  match v with
  | .slice a _ cap => .slice (if cap = l then a else a.map (·.add (l * sz))) (h - l) (cap - l)
  | x => x
/-- Of an array of n places at b, o: [l:h]. -/
def arrSl (b o n l h sz : Nat) : Value := .slice (some (if n = l then ⟨b, o, none⟩ else ⟨b, o + l * sz, none⟩)) (h - l) (n - l)

theorem slc_ok {v : Value} {sz l h n : Nat} {cs : List Value} (ho : slOk v sz cs) (hn : cs.length = n * sz) (h1 : l ≤ h) (h2 : h ≤ n) (h0 : 0 < sz) :
    slOk (slc v l h sz) sz ((cs.drop (l * sz)).take ((h - l) * sz)) := by
  have hl := ho.len_eq hn h0
  have hh : h * sz ≤ n * sz := Nat.mul_le_mul_right _ h2
  have hlh : l * sz + (h - l) * sz = h * sz := by rw [← Nat.add_mul]; congr 1; omega
  rcases ho with ⟨rfl, rfl⟩ | ⟨b, off, len, cap, rfl, hlen, hcap⟩ | ⟨a, cap, rfl, rfl⟩
  rotate_left 2
  · simp [slLen] at hl
    subst hl
    obtain rfl : h = 0 := by omega
    obtain rfl : l = 0 := by omega
    have hx : ∃ a', slc (.slice (some a) 0 cap) 0 0 sz = .slice (some a') 0 cap := by
      simp only [slc]
      split
      · rename_i hc; exact ⟨a, by rw [hc]⟩
      · exact ⟨_, rfl⟩
    obtain ⟨a', hx⟩ := hx
    exact .inr (.inr ⟨a', cap, hx, by simp⟩)
  · simp [slLen] at hl
    subst hl
    obtain rfl : h = 0 := by omega
    obtain rfl : l = 0 := by omega
    exact .inl ⟨rfl, by simp⟩
  · simp [slLen] at hl
    subst hl
    refine .inr (.inl ⟨b, if cap = l then off else off + l * sz, h - l, cap - l, ?_, by simp; omega, by omega⟩)
    simp only [slc]
    split <;> simp [add_mk]

theorem slc_rd {μ : Mem} {v : Value} {sz l h n : Nat} {cs : List Value} (hr : Rd μ v sz cs) (hn : cs.length = n * sz) (h1 : l ≤ h) (h2 : h ≤ n) (h0 : 0 < sz) :
    Rd μ (slc v l h sz) sz ((cs.drop (l * sz)).take ((h - l) * sz)) := by
  refine ⟨slc_ok hr.1 hn h1 h2 h0, fun b off len cap hv i u hi => ?_⟩
  have hl := hr.1.len_eq hn h0
  have hi' : i < (h - l) * sz := by have := (List.getElem?_eq_some_iff.1 hi).1; simp at this; omega
  rw [List.getElem?_take_of_lt hi', List.getElem?_drop] at hi
  rcases hr.1 with ⟨rfl, rfl⟩ | ⟨b', off', len', cap', rfl, hlen, hcap⟩ | ⟨a, cap, rfl, rfl⟩
  rotate_left 2
  · simp at hi
  · simp at hi
  · simp [slLen] at hl
    subst hl
    simp only [slc] at hv
    split at hv
    · rename_i hc
      exfalso
      have : h - l = 0 := by omega
      rw [this] at hi'; simp at hi'
    · simp only [Option.map_some, add_mk] at hv
      cases hv
      have := hr.2 _ _ _ _ rfl _ u hi
      rwa [Nat.add_assoc]

theorem arrSl_rd {m : Mem} {L : List Chunk} {b o n l h sz : Nat} {cs : List Value} (hm : Chunk.obj b cs ∈ L) (hl : o + n * sz ≤ cs.length) (h1 : l ≤ h) (h2 : h ≤ n) :
    Rd (memOf m L) (arrSl b o n l h sz) sz ((cs.drop (o + l * sz)).take ((h - l) * sz)) := by
  have hh : h * sz ≤ n * sz := Nat.mul_le_mul_right _ h2
  have hlh : l * sz + (h - l) * sz = h * sz := by rw [← Nat.add_mul]; congr 1; omega
  refine ⟨.inr (.inl ⟨b, if n = l then o else o + l * sz, h - l, n - l, ?_, by simp; omega, by omega⟩), fun b' off len cap hv i u hi => ?_⟩
  · unfold arrSl; split <;> rfl
  · have hi' : i < (h - l) * sz := by have := (List.getElem?_eq_some_iff.1 hi).1; simp at this; omega
    rw [List.getElem?_take_of_lt hi', List.getElem?_drop] at hi
    unfold arrSl at hv
    split at hv
    · exfalso
      have : h - l = 0 := by omega
      rw [this] at hi'; simp at hi'
    · cases hv
      exact memOf_obj hm (by rwa [Nat.add_assoc] at hi ⊢)

section
variable {P : Program} {T : Tm} {m : Mem} {L : List Chunk} {dst : Option Tmp} {type : TypeId} {pos : String} {after : Array Edge} {guard : Option (Nat × Bool)}

/-- How a bound of a slice expression is told: none, or a number in range. -/
def bnd (T : Tm) : Option Operand → Option Value
  | none => none
  | some x => ev T x

theorem run_sliceSl {t e : TypeId} {v : Value} {sz l h n : Nat} {cs : List Value} {lo hi : Option Value} (ht : P.underlying t = some (.slice e)) (hz : ∀ w, (sizeOf e).run P w = .ok sz w)
    (ho : slOk v sz cs) (hn : cs.length = n * sz) (h0 : 0 < sz) (h1 : l ≤ h) (h2 : h ≤ n)
    (hlo : (lo = none ∧ l = 0) ∨ ∃ k, lo = some (.int k (l : Int))) (hhi : (hi = none ∧ h = n) ∨ ∃ k, hi = some (.int k (h : Int))) (w : World) :
    (Instr.sliceAt t v lo hi none).run P w = .ok (slc v l h sz) w := by
  have hl := ho.len_eq hn h0
  obtain ⟨base, cap, hv, hc⟩ := ho.shape
  have hun : ∀ w, (underlying t).run P w = .ok (.slice e) w := fun w => run_underlying ht w
  have sb : ∀ (x : Nat) (k : IntKind) (y : Nat) (code : BoundsCode) (w : World), x ≤ y → (Instr.sliceBound (.int k (x : Int)) y code).run P w = .ok x w := by
    intro x k y code w hxy
    have h1 : (0 : Int) ≤ x := by omega
    have h2 : (x : Int) ≤ y := by omega
    simp [Instr.sliceBound, asIntOf, h1, hxy]
  have main : ∀ w, (Instr.sliceBounds true (slLen v) cap lo hi none).run P w = .ok (l, h, cap) w := by
    intro w
    rcases hlo with ⟨rfl, rfl⟩ | ⟨k, rfl⟩ <;> rcases hhi with ⟨rfl, rfl⟩ | ⟨k', rfl⟩
    · simp [Instr.sliceBounds, hl]
    · simp [Instr.sliceBounds, sb h k' cap .sliceAcap _ (by omega)]
    · simp [Instr.sliceBounds, hl, sb l k h .sliceB _ h1]
    · simp [Instr.sliceBounds, sb h k' cap .sliceAcap _ (by omega), sb l k h .sliceB _ h1]
  rw [hv] at main ⊢
  simp only [slLen] at main
  simp only [Instr.sliceAt, Sem.run_bind, hun, Result.andThen_ok, Instr.slice, main, hz, slLen, slc]
  rfl

theorem pureOp_slice {t e : TypeId} {x : Operand} {v : Value} {sz n : Nat} (l h : Nat) {cs : List Value} {lo hi : Option Operand} (ht : P.underlying t = some (.slice e)) (hz : ∀ w, (sizeOf e).run P w = .ok sz w)
    (hx : ev T x = some v) (ho : slOk v sz cs) (hn : cs.length = n * sz) (h0 : 0 < sz)
    (hlo : (lo = none ∧ l = 0) ∨ ∃ y k i, lo = some y ∧ ev T y = some (.int k i) ∧ i = (l : Int)) (hhi : (hi = none ∧ h = n) ∨ ∃ y k i, hi = some y ∧ ev T y = some (.int k i) ∧ i = (h : Int))
    (h1 : l ≤ h) (h2 : h ≤ n) : PureOp P ⟨dst, .slice t x lo hi none, type, pos, after, guard⟩ T (slc v l h sz) := by
  intro ρ hρ w
  have hx := hρ x (by simp [Op.operands]) _ hx
  have := run_sliceSl (P := P) (lo := lo.map ρ) (hi := hi.map ρ) ht hz ho hn h0 h1 h2
    (by rcases hlo with ⟨rfl, rfl⟩ | ⟨y, k, i, rfl, hy, rfl⟩
        · exact .inl ⟨rfl, rfl⟩
        · exact .inr ⟨k, by simp [hρ y (by simp [Op.operands]) _ hy]⟩)
    (by rcases hhi with ⟨rfl, rfl⟩ | ⟨y, k, i, rfl, hy, rfl⟩
        · exact .inl ⟨rfl, rfl⟩
        · exact .inr ⟨k, by simp [hρ y (by simp [Op.operands]) _ hy]⟩) w
  simp [execOp, hx, this]

theorem run_sliceArr {t e : TypeId} {b o sz l h n : Nat} {lo hi : Option Value} (ht : P.underlying t = some (.array n e)) (hz : ∀ w, (sizeOf e).run P w = .ok sz w) (h1 : l ≤ h) (h2 : h ≤ n)
    (hlo : (lo = none ∧ l = 0) ∨ ∃ k, lo = some (.int k (l : Int))) (hhi : (hi = none ∧ h = n) ∨ ∃ k, hi = some (.int k (h : Int))) (w : World) :
    (Instr.sliceAt t (.pointer (some ⟨b, o, none⟩)) lo hi none).run P w = .ok (arrSl b o n l h sz) w := by
  have hun : ∀ w, (underlying t).run P w = .ok (.array n e) w := fun w => run_underlying ht w
  have sb : ∀ (x : Nat) (k : IntKind) (y : Nat) (code : BoundsCode) (w : World), x ≤ y → (Instr.sliceBound (.int k (x : Int)) y code).run P w = .ok x w := by
    intro x k y code w hxy
    have h1 : (0 : Int) ≤ x := by omega
    simp [Instr.sliceBound, asIntOf, h1, hxy]
  have main : ∀ w, (Instr.sliceBounds false n n lo hi none).run P w = .ok (l, h, n) w := by
    intro w
    rcases hlo with ⟨rfl, rfl⟩ | ⟨k, rfl⟩ <;> rcases hhi with ⟨rfl, rfl⟩ | ⟨k', rfl⟩
    · simp [Instr.sliceBounds]
    · simp [Instr.sliceBounds, sb h k' n .sliceAlen _ h2]
    · simp [Instr.sliceBounds, sb l k h .sliceB _ h1]
    · simp [Instr.sliceBounds, sb h k' n .sliceAlen _ h2, sb l k h .sliceB _ h1]
  simp only [Instr.sliceAt, Sem.run_bind, hun, Result.andThen_ok, main, hz, arrSl, Instr.sureAddr, Sem.run_pure, add_mk]

/-- x[l:h] of an array's address. -/
theorem pureOp_sliceArr {t e : TypeId} {x : Operand} {b o sz n : Nat} (l h : Nat) {lo hi : Option Operand} (ht : P.underlying t = some (.array n e)) (hz : ∀ w, (sizeOf e).run P w = .ok sz w)
    (hx : ev T x = some (.pointer (some ⟨b, o, none⟩)))
    (hlo : (lo = none ∧ l = 0) ∨ ∃ y k i, lo = some y ∧ ev T y = some (.int k i) ∧ i = (l : Int)) (hhi : (hi = none ∧ h = n) ∨ ∃ y k i, hi = some y ∧ ev T y = some (.int k i) ∧ i = (h : Int))
    (h1 : l ≤ h) (h2 : h ≤ n) : PureOp P ⟨dst, .slice t x lo hi none, type, pos, after, guard⟩ T (arrSl b o n l h sz) := by
  intro ρ hρ w
  have hx := hρ x (by simp [Op.operands]) _ hx
  have := run_sliceArr (P := P) (b := b) (o := o) (lo := lo.map ρ) (hi := hi.map ρ) ht hz h1 h2
    (by rcases hlo with ⟨rfl, rfl⟩ | ⟨y, k, i, rfl, hy, rfl⟩
        · exact .inl ⟨rfl, rfl⟩
        · exact .inr ⟨k, by simp [hρ y (by simp [Op.operands]) _ hy]⟩)
    (by rcases hhi with ⟨rfl, rfl⟩ | ⟨y, k, i, rfl, hy, rfl⟩
        · exact .inl ⟨rfl, rfl⟩
        · exact .inr ⟨k, by simp [hρ y (by simp [Op.operands]) _ hy]⟩) w
  simp [execOp, hx, this]

/-! ### What is laid into zeros -/
theorem foldl_set (vs : List Value) : ∀ (o : Nat) (cells : Array Value), o + vs.length ≤ cells.size →
    (vs.zipIdx 0).foldl (fun cs (p : Value × Nat) => cs.setIfInBounds (o + p.2) p.1) cells = (segs cells.toList o vs).toArray := by
  have key : ∀ (vs : List Value) (k o : Nat) (cells : Array Value), o + k + vs.length ≤ cells.size →
      (vs.zipIdx k).foldl (fun cs (p : Value × Nat) => cs.setIfInBounds (o + p.2) p.1) cells = (segs cells.toList (o + k) vs).toArray := by
    intro vs
    induction vs with
    | nil => intro k o cells _; simp [segs]
    | cons v vs ih =>
      intro k o cells h
      simp only [List.length_cons] at h
      rw [List.zipIdx_cons, List.foldl_cons, ih (k + 1) o _ (by simp; omega)]
      apply Array.ext'
      simp only [Array.toList_setIfInBounds]
      apply List.ext_getElem?
      intro i
      rw [segs_get (by simp; omega), segs_get (by simp; omega), List.getElem?_set]
      simp only [List.length_cons]
      rcases Nat.lt_trichotomy i (o + k) with h1 | h1 | h1
      · rw [if_pos (by omega), if_neg (by omega), if_pos h1]
      · subst h1
        rw [if_pos (by omega), if_pos rfl, if_pos (by simp; omega), if_neg (by omega), if_pos (by omega)]; simp
      · rw [if_neg (by omega), if_neg (by omega : ¬ i < o + k)]
        rcases Nat.lt_or_ge i (o + (k + 1) + vs.length) with h2 | h2
        · rw [if_pos h2, if_pos (by omega), show i - (o + k) = (i - (o + (k + 1))) + 1 by omega, List.getElem?_cons_succ]
        · rw [if_neg (by omega), if_neg (by omega), if_neg (by omega)]
  intro o cells h
  exact key vs 0 o cells h

/-- The operands of parts, in order from a place on. -/
def evParts (T : Tm) (i : Nat) : List (Nat × Operand) → Option (List Value)
  | [] => some []
  | (j, x) :: r => match Nat.beq j i, ev T x, evParts T (i + 1) r with
    | true, some v, some vs => some (v :: vs)
    | _, _, _ => none

theorem evParts_spec {ρ : Operand → Value} : ∀ (ps : List (Nat × Operand)) (i : Nat) (vs : List Value), evParts T i ps = some vs → (∀ p, p ∈ ps → ∀ u, ev T p.2 = some u → ρ p.2 = u) →
    ps.map (fun p => (p.1, ρ p.2)) = (vs.zipIdx i).map (fun p => (p.2, p.1))
  | [], i, vs, h, _ => by simp [evParts] at h; subst h; rfl
  | (j, x) :: r, i, vs, h, hρ => by
    simp only [evParts] at h
    cases hb : Nat.beq j i with
    | false => rw [hb] at h; cases h
    | true =>
      have := Nat.eq_of_beq_eq_true hb
      subst this
      cases hx : ev T x with
      | none => rw [hb, hx] at h; cases h
      | some v =>
        cases hr : evParts T (j + 1) r with
        | none => rw [hb, hx, hr] at h; cases h
        | some us =>
          rw [hb, hx, hr] at h
          cases h
          have hv := hρ (j, x) (List.mem_cons_self ..) v hx
          simp only at hv
          have ih := evParts_spec r (j + 1) us hr (fun p hp => hρ p (List.mem_cons_of_mem _ hp))
          rw [List.map_cons, ih, List.zipIdx_cons, List.map_cons, hv]

theorem fill_row {sz : Nat} : ∀ (vs : List Value) (k : Nat) (pre : List Value) (cells : List Value), pre.length = k * sz → cells.length = vs.length * sz → (∀ v, v ∈ vs → v.cells.size = sz) →
    Instr.fill (fun i => some (i * sz, sz)) (pre ++ cells).toArray ((vs.zipIdx k).map fun p => (p.2, p.1)) = some (pre ++ vs.flatMap (·.cells.toList)).toArray
  | [], k, pre, cells, hp, hc, _ => by simp at hc; simp [Instr.fill, hc]
  | v :: vs, k, pre, cells, hp, hc, hv => by
    have hv0 : v.cells.size = sz := hv v (List.mem_cons_self ..)
    simp only [List.length_cons, Nat.add_mul, Nat.one_mul] at hc
    simp only [List.zipIdx_cons, List.map_cons, Instr.fill]
    rw [if_neg (by simp [hv0, hp]; omega)]
    rw [← Array.foldl_toList, Array.toList_zipIdx, foldl_set v.cells.toList (k * sz) _ (by simp [hv0, hp]; omega)]
    have e : segs (pre ++ cells) (k * sz) v.cells.toList = (pre ++ v.cells.toList) ++ cells.drop sz := by
      simp only [segs, Array.length_toList, hv0]
      rw [← hp, List.take_left', List.drop_append]
      · simp
      · rfl
    rw [e, fill_row vs (k + 1) (pre ++ v.cells.toList) (cells.drop sz) (by simp [hp, hv0, Nat.add_mul]) (by simp; omega) (fun u hu => hv u (List.mem_cons_of_mem _ hu))]
    simp

theorem flat_length {sz : Nat} : ∀ (vs : List Value), (∀ v, v ∈ vs → v.cells.size = sz) → (vs.flatMap (·.cells.toList)).length = vs.length * sz
  | [], _ => by simp
  | v :: vs, hv => by
    rw [List.flatMap_cons, List.length_append, flat_length vs (fun u hu => hv u (List.mem_cons_of_mem _ hu)), Array.length_toList, hv v (List.mem_cons_self ..), List.length_cons, Nat.add_mul]; omega

theorem allocOp_buildSlice {t e : TypeId} {n sz bytes : Nat} {z : List Value} {parts : Array (Nat × Operand)} {vs : List Value} (ht : SlT P t e sz bytes z)
    (hp : evParts T 0 parts.toList = some vs) (hn : vs.length = n) (hv : ∀ v, v ∈ vs → v.cells.size = sz) (hsmall : n * sz ≤ 16777216) :
    AllocOp P ⟨dst, .buildSlice t n parts, type, pos, after, guard⟩ T (fun v c => slOk v sz (vs.flatMap (·.cells.toList)) ∧ v ≠ .slice none 0 0 ∧ c = .sl v sz (vs.flatMap (·.cells.toList))) := by
  obtain ⟨hu, i, zv, hi, hsz, hby, hzv, hzc, hzl⟩ := ht
  intro ρ hρ w
  have hun : ∀ w, (underlying t).run P w = .ok (.slice e) w := fun w => run_underlying hu w
  have hs : ∀ w, (sizeOf e).run P w = .ok sz w := fun w => by simp [sizeOf, typeInfo, hi, hsz]
  have hze : ∀ w, (zeroValue e).run P w = .ok zv w := fun w => by simp [zeroValue, typeInfo, hi, hzv]
  have hparts : (parts.map fun p => (p.1, ρ p.2)).toList = (vs.zipIdx 0).map fun p => (p.2, p.1) := by
    rw [Array.toList_map]
    exact evParts_spec _ 0 vs hp fun p hpm u hpu => hρ p.2 (by simp only [Op.operands]; exact List.mem_toArray.2 (List.mem_map.2 ⟨p, hpm, rfl⟩)) u hpu
  have hlen : (vs.flatMap (·.cells.toList)).length = n * sz := by rw [← hn]; exact flat_length vs hv
  have hfill : ∀ zero : Array Value, Instr.fill (fun i => some (i * sz, sz)) ((Array.range (n * sz)).map (zero[· % zero.size]!)) ((vs.zipIdx 0).map fun p => (p.2, p.1)) = some (vs.flatMap (·.cells.toList)).toArray := by
    intro zero
    have := fill_row (sz := sz) vs 0 [] ((Array.range (n * sz)).map (zero[· % zero.size]!)).toList (by simp) (by simp [hn]) hv
    rw [List.nil_append, Array.toArray_toList, List.nil_append] at this
    exact this
  have hrun : ∀ w, (Instr.buildSlice t n (parts.map fun p => (p.1, ρ p.2))).run P w = .ok (.slice (some ⟨w.heap.size, 0, none⟩) n n) { w with heap := w.heap.push (.cells (vs.flatMap (·.cells.toList)).toArray e) } := by
    intro w
    unfold Instr.buildSlice
    simp only [Sem.run_bind, hun, Result.andThen_ok, hs]
    rw [if_neg (by omega : ¬ n * sz > 2 ^ 24)]
    by_cases h0 : n * sz = 0
    · rw [if_pos h0]
      simp only [Sem.run_bind, Sem.run_pure, Result.andThen_ok, hparts, hfill, run_newRow]
    · rw [if_neg h0]
      simp only [Sem.run_bind, hze, Sem.run_pure, Result.andThen_ok, hparts, hfill, run_newRow]
  refine ⟨_, _, _, ?_, ⟨slOk_made w.heap.size n n sz _ hlen (Nat.le_refl _), by simp, rfl⟩, ?_, Fr.push w (.cells (vs.flatMap (·.cells.toList)).toArray e), ?_⟩
  · simp only [execOp, Sem.run_bind, hrun, Result.andThen_ok, Sem.run_pure]
  · exact .inr ⟨w.heap.size, 0, n, n, (vs.flatMap (·.cells.toList)).toArray, e, (0, 0), rfl, hlen, Nat.le_refl _, by rw [List.size_toArray, hlen]; omega, by simp, okFr_zero _, fun i _ => by rw [Nat.zero_add]; exact List.getElem?_toArray⟩
  · rintro k ⟨off, len, cap, hk⟩
    cases hk
    exact Nat.le_refl _
end
end Go.Proofs.Ytpnipajadjeifaa.Sep
