/- Maps whose keys are whole numbers. -/
import Derived.Test.YtpnipajadjeifaaWords
import Derived.MapKept
namespace Go.Proofs.Ytpnipajadjeifaa.Sep
open Go Go.RowKit
set_option linter.unusedVariables false
set_option linter.unusedSimpArgs false
def aget {α : Type} : List (Int × α) → Int → Option α
  | [], _ => none
  | p :: l, k => if p.1 = k then some p.2 else aget l k
def aset {α : Type} : List (Int × α) → Int → α → List (Int × α)
  | [], k, v => [(k, v)]
  | p :: l, k, v => if p.1 = k then (k, v) :: l else p :: aset l k v
theorem aget_aset {α : Type} (k k' : Int) (v : α) : ∀ l : List (Int × α), aget (aset l k v) k' = if k = k' then some v else aget l k'
  | [] => rfl
  | p :: l => by
    rw [aset]
    by_cases h : p.1 = k
    · rw [if_pos h, aget, aget]
      by_cases h2 : k = k'
      · rw [if_pos h2, if_pos h2]
      · rw [if_neg h2, if_neg h2, if_neg (by rw [h]; exact h2)]
    · rw [if_neg h, aget, aget, aget_aset k k' v l]
      by_cases h2 : k = k'
      · rw [if_pos h2, if_pos h2, if_neg (by rw [← h2]; exact h)]
      · rw [if_neg h2, if_neg h2]
/-- A map's entries: numbers, and arrays of bytes. -/
def mapC (l : List (Int × List UInt8)) : List (Value × Value) := l.map fun p => (.int .i64 p.1, .agg (p.2.map bV).toArray)
theorem findNow_int (q : IntKind) (k : Int) : ∀ (es : List MapEntry) (l : List (Int × List UInt8)) (i : Nat), es.map (fun e => (e.key, e.val)) = mapC l →
    ∃ r, Instr.findNow (.int q) (.int .i64 k) es i = some r ∧ r.map (·.2) = (aget l k).map (fun s => Value.agg (s.map bV).toArray) ∧
      (∀ j v, r = some (j, v) → ∃ n, j = i + n ∧ n < es.length ∧ (∃ e, es[n]? = some e ∧ e.key = .int .i64 k)) ∧
      ((∀ s : List UInt8, ∀ c : Nat, (match r with
        | some (j, _) => ((es.modify (j - i) fun e => { e with key := .int .i64 k, val := .agg (s.map bV).toArray }).map fun e => (e.key, e.val))
        | none => es.map (fun e => (e.key, e.val)) ++ [(.int .i64 k, .agg (s.map bV).toArray)]) = mapC (aset l k s)))
  | [], [], i, _ => ⟨none, rfl, rfl, (fun j v h => by cases h), fun s c => rfl⟩
  | [], _ :: _, _, h => by simp [mapC] at h
  | _ :: _, [], _, h => by simp [mapC] at h
  | e :: es, p :: l, i, h => by
    simp only [mapC, List.map_cons, List.cons.injEq, Prod.mk.injEq] at h
    obtain ⟨⟨hk, hv⟩, ht⟩ := h
    by_cases hp : p.1 = k
    · refine ⟨some (i, e.val), ?_, ?_, ?_, ?_⟩
      · simp [Instr.findNow, Instr.sameNow, hk, hp]
      · simp [aget, hp, hv]
      · intro j v hj
        cases hj
        exact ⟨0, rfl, by simp, e, rfl, by rw [hk, hp]⟩
      · intro s c
        simp only [Nat.sub_self]
        rw [aset, if_pos hp]
        simp only [List.modify_zero_cons, List.map_cons, mapC]
        rw [show es.map (fun e => (e.key, e.val)) = mapC l from ht]
        rfl
    · obtain ⟨r, h1, h2, h3, h4⟩ := findNow_int q k es l (i + 1) ht
      refine ⟨r, ?_, ?_, ?_, ?_⟩
      · have hne : ¬ k = p.1 := fun h => hp h.symm
        simp only [Instr.findNow, hk, Instr.sameNow, if_true, beq_iff_eq]
        rw [show (k == p.1) = false by simpa using hne]
        exact h1
      · rw [h2, aget, if_neg hp]
      · intro j v hj
        obtain ⟨n, e1, e2, e', e3, e4⟩ := h3 j v hj
        exact ⟨n + 1, by omega, by simp; omega, e', by simpa using e3, e4⟩
      · intro s c
        have h5 := h4 s c
        rw [aset, if_neg hp]
        cases r with
        | none =>
          simp only [List.map_cons, List.cons_append] at h5 ⊢
          rw [h5, hk, hv]; rfl
        | some q' =>
          obtain ⟨j, v⟩ := q'
          obtain ⟨n, e1, e2, _⟩ := h3 j v rfl
          subst e1
          simp only [Nat.add_sub_cancel_left] at h5
          simp only [show i + 1 + n - i = n + 1 by omega]
          simp only [List.modify_succ_cons, List.map_cons]
          rw [h5, hk, hv]; rfl
section
variable {P : Program} {T : Tm} {m : Mem} {L : List Chunk} {dst : Option Tmp} {type : TypeId} {pos : String} {after : Array Edge} {guard : Option (Nat × Bool)}
theorem run_checkKey {kt : TypeId} {q : IntKind} (hk : P.underlying kt = some (.int q)) (e : Bool) (k : Int) (w : World) : (Instr.checkKey e 10000 kt (.int .i64 k)).run P w = .ok () w := by
  have hun : ∀ w, (underlying kt).run P w = .ok (.int q) w := fun w => run_underlying hk w
  have h : ∀ d, (Instr.checkKey e (d + 1) kt (.int .i64 k)).run P w = .ok () w := fun d => by simp [Instr.checkKey, hun]
  exact h 9999
theorem allocOp_makeMap {t : TypeId} : WOp P ⟨dst, .makeMap t none, type, pos, after, guard⟩ m T L (fun v L' => ∃ b, v = .map (some b) ∧ L' = .mp b [] :: L) := by
  intro ρ hρ w s
  refine ⟨_, .map (some w.heap.size), _, { w with heap := w.heap.push (.map #[] 0) }, ?_, .inl rfl, ⟨w.heap.size, rfl, rfl⟩, ?_, ⟨rfl, rfl, rfl, by simp, fun k hk _ => by simp [Array.getElem?_push, Nat.ne_of_lt hk]⟩, ?_⟩
  · simp only [execOp, Option.map_none, Instr.makeMap, Sem.run_bind, Result.andThen_ok, Sem.run_pure]
    rfl
  · refine s.cons ⟨#[], 0, by simp, rfl⟩ ⟨rfl, rfl, rfl, by simp, fun k hk _ => by simp [Array.getElem?_push, Nat.ne_of_lt hk]⟩ fun k hk => by cases hk; exact Nat.le_refl _
  · rintro k ⟨c, hc, hk⟩
    rcases List.mem_cons.1 hc with rfl | hc
    · cases hk; exact .inr (Nat.le_refl _)
    · exact .inl ⟨c, hc, hk⟩
/-- What a map has at a number, and whether it has it. -/
theorem loadOp_lookup {t kt e : TypeId} {x y : Operand} {b : Nat} {l : List (Int × List UInt8)} {k : Int} {q : IntKind} {zs : List UInt8} (ht : P.underlying t = some (.map kt e)) (hk : P.underlying kt = some (.int q)) (hz : ZeroT P e (zs.map bV))
    (hza : ∀ z, (∀ w, (zeroValue e).run P w = .ok z w) → z = .agg z.cells) (hx : ev T x = some (.map (some b))) (hy : ev T y = some (.int .i64 k)) (hm : Chunk.mp b (mapC l) ∈ L) :
    LoadOp P ⟨dst, .lookup t x y true, type, pos, after, guard⟩ m T L (.tuple #[.agg (((aget l k).getD zs).map bV).toArray, .bool (aget l k).isSome]) := by
  intro ρ hρ w s
  have hx := hρ x (by simp [Op.operands]) _ hx
  have hy := hρ y (by simp [Op.operands]) _ hy
  obtain ⟨es, clock, hb, he⟩ := s.chunks _ hm
  have hun : ∀ w, (underlying t).run P w = .ok (.map kt e) w := fun w => run_underlying ht w
  obtain ⟨z, hzr, hzc⟩ := hz
  have hz2 := hza z hzr
  have hz3 : z = .agg (zs.map bV).toArray := by rw [hz2]; congr 1; apply Array.ext'; exact hzc
  have hget : (getObj b).run P w = .ok (.map es clock) w := by simp [getObj, Sem.run, hb]
  obtain ⟨r, h1, h2, h3, h4⟩ := findNow_int q k es.toList l 0 he
  have hf : (Instr.findKey kt (.int .i64 k) es.toList).run P w = .ok r w := MapKept.run_findKey hk h1
  have hrun : (Instr.lookup t (.map (some b)) (.int .i64 k) true).run P w = .ok (.tuple #[.agg (((aget l k).getD zs).map bV).toArray, .bool (aget l k).isSome]) w := by
    cases r with
    | none =>
      have h5 : aget l k = none := by cases h6 : aget l k with | none => rfl | some v => rw [h6] at h2; cases h2
      simp [Instr.lookup, hun, hget, run_checkKey hk, hf, hzr, h5, hz3]
    | some p =>
      obtain ⟨j, v⟩ := p
      cases h6 : aget l k with
      | none => rw [h6] at h2; cases h2
      | some s' =>
        rw [h6] at h2
        simp only [Option.map_some, Option.some.injEq] at h2
        simp [Instr.lookup, hun, hget, run_checkKey hk, hf, h2]
  simp only [execOp, hx, hy, Sem.run_bind, hrun, Result.andThen_ok, Sem.run_pure]
theorem lop_mapUpdate {t kt e : TypeId} {x y z : Operand} {b : Nat} {l : List (Int × List UInt8)} {k : Int} {q : IntKind} {s' : List UInt8} (ht : P.underlying t = some (.map kt e)) (hk : P.underlying kt = some (.int q))
    (hx : ev T x = some (.map (some b))) (hy : ev T y = some (.int .i64 k)) (hz : ev T z = some (.agg (s'.map bV).toArray)) :
    LOp P ⟨dst, .mapUpdate t x y z, type, pos, after, guard⟩ m T L (.mp b (mapC l)) (fun v c => v = undef ∧ c = .mp b (mapC (aset l k s'))) := by
  intro ρ hρ w s hm
  have hx := hρ x (by simp [Op.operands]) _ hx
  have hy := hρ y (by simp [Op.operands]) _ hy
  have hz := hρ z (by simp [Op.operands]) _ hz
  obtain ⟨es, clock, hb, he⟩ := s.chunks _ hm
  have hun : ∀ w, (underlying t).run P w = .ok (.map kt e) w := fun w => run_underlying ht w
  have hget : (getObj b).run P w = .ok (.map es clock) w := by simp [getObj, Sem.run, hb]
  obtain ⟨r, h1, h2, h3, h4⟩ := findNow_int q k es.toList l 0 he
  have hf : (Instr.findKey kt (.int .i64 k) es.toList).run P w = .ok r w := MapKept.run_findKey hk h1
  have hblt : b < w.heap.size := (Array.getElem?_eq_some_iff.1 hb).1
  have hset : ∀ o, (∀ c e f, o ≠ Obj.cells c e f) → (setObj b o).run P w = .ok () { w with heap := w.heap.setIfInBounds b o } := by
    intro o ho
    simp [setObj, Sem.run, hb]
  have hfr : ∀ o, Fr w (Chunk.has (.mp b (mapC l))) { w with heap := w.heap.setIfInBounds b o } := fun o =>
    ⟨rfl, rfl, rfl, by simp, fun j hj hne => by
      have : b ≠ j := fun e => hne e.symm
      simp [Array.getElem?_setIfInBounds, this]⟩
  have h5 := h4 s' 0
  cases r with
  | none =>
    refine ⟨.skip, undef, _, _, ?_, .inr ⟨rfl, rfl⟩, ⟨rfl, rfl⟩, ⟨es.push { key := .int .i64 k, val := .agg (s'.map bV).toArray, born := clock }, clock + 1, ?_, ?_⟩, hfr (.map (es.push { key := .int .i64 k, val := .agg (s'.map bV).toArray, born := clock }) (clock + 1)), fun k hk => .inl hk⟩
    · simp only [execOp, hx, hy, hz, Sem.run_bind, Instr.mapUpdate, hun, Result.andThen_ok, hget, run_checkKey hk, hf, hset (.map (es.push { key := .int .i64 k, val := .agg (s'.map bV).toArray, born := clock }) (clock + 1)) (fun _ _ _ h => by cases h), Sem.run_pure]
    · simp [hblt]
    · simp only at h5
      rw [← h5]
      simp
  | some p =>
    obtain ⟨j, v⟩ := p
    obtain ⟨n, e1, e2, e', e3, e4⟩ := h3 j v rfl
    rw [Nat.zero_add] at e1
    subst e1
    have hej : es[j]? = some e' := by simpa using e3
    have hks : (Instr.keyThatStays (((es[j]?).map (·.key)).getD (.int .i64 k)) (.int .i64 k)).run P w = .ok (.int .i64 k) w := by
      have hsb : ∀ d, Instr.sameBits d (.int .i64 k) (.int .i64 k) = true := fun d => by cases d <;> simp [Instr.sameBits]
      rw [hej]
      simp [Instr.keyThatStays, e4, hsb]
    refine ⟨.skip, undef, _, _, ?_, .inr ⟨rfl, rfl⟩, ⟨rfl, rfl⟩, ⟨es.modify j fun e => { e with key := .int .i64 k, val := .agg (s'.map bV).toArray }, clock, ?_, ?_⟩, hfr (.map (es.modify j fun e => { e with key := .int .i64 k, val := .agg (s'.map bV).toArray }) clock), fun k hk => .inl hk⟩
    · simp only [execOp, hx, hy, hz, Sem.run_bind, Instr.mapUpdate, hun, Result.andThen_ok, hget, run_checkKey hk, hf, hks, hset (.map (es.modify j fun e => { e with key := .int .i64 k, val := .agg (s'.map bV).toArray }) clock) (fun _ _ _ h => by cases h), Sem.run_pure]
    · simp [hblt]
    · simp only [Nat.sub_zero] at h5
      rw [← h5]
      simp
end
end Go.Proofs.Ytpnipajadjeifaa.Sep
