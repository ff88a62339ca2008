/- Stores; slices that are made, cut and appended to. -/
import Derived.Test.YtpnipajadjeifaaSepD
namespace Go.Proofs.Ytpnipajadjeifaa.Sep
open Go Go.RowKit
set_option linter.unusedVariables false
set_option linter.unusedSimpArgs false

/-- A value of one cell. -/
def one : Value → Bool
  | .agg _ | .tuple _ => false
  | _ => true

theorem one_cells {v : Value} (h : one v = true) : v.cells = #[v] := by cases v <;> first | rfl | cases h

/-- Cells with others in their place. -/
def segs (l : List Value) (o : Nat) (vs : List Value) : List Value := l.take o ++ vs ++ l.drop (o + vs.length)
theorem segs_length {l : List Value} {o : Nat} {vs : List Value} (h : o + vs.length ≤ l.length) : (segs l o vs).length = l.length := by
  simp [segs]; omega
theorem segs_get {l : List Value} {o : Nat} {vs : List Value} (h : o + vs.length ≤ l.length) (i : Nat) :
    (segs l o vs)[i]? = if i < o then l[i]? else if i < o + vs.length then vs[i - o]? else l[i]? := by
  have ht : (l.take o).length = o := by simp; omega
  unfold segs
  split
  · rename_i h1
    rw [List.append_assoc, List.getElem?_append_left (by omega), List.getElem?_take_of_lt h1]
  · rename_i h1
    split
    · rename_i h2
      rw [List.append_assoc, List.getElem?_append_right (by omega), ht, List.getElem?_append_left (by omega)]
    · rename_i h2
      rw [List.getElem?_append_right (by rw [List.length_append]; omega), List.length_append, ht, List.getElem?_drop]
      congr 1; omega
theorem segs_one {l : List Value} {o : Nat} {v : Value} (h : o < l.length) : segs l o [v] = l.set o v := by
  simp only [segs, List.length_singleton]
  apply List.ext_getElem?
  intro i
  have := segs_get (l := l) (o := o) (vs := [v]) h i
  simp only [segs, List.length_singleton] at this
  rw [this, List.getElem?_set]
  rcases Nat.lt_trichotomy i o with h1 | h1 | h1
  · rw [if_pos h1, if_neg (by omega)]
  · subst h1
    rw [if_neg (by omega), if_pos (by omega), if_pos rfl, if_pos h]; simp
  · rw [if_neg (by omega), if_neg (by omega), if_neg (by omega)]
theorem segs_all {l vs : List Value} (h : vs.length = l.length) : segs l 0 vs = vs := by
  simp [segs, h]

section
variable {P : Program}

theorem setCell_heap (w : World) (b o : Nat) (c : Array Value) (e : TypeId) (fr : Nat × Nat) (v : Value) (hb : w.heap[b]? = some (.cells c e fr)) :
    (w.setCell ⟨b, o, none⟩ v).heap[b]? = some (.cells (c.setIfInBounds o v) e fr) := by
  simp [World.setCell, Array.getElem?_modify, hb]

theorem run_storeCells {e : TypeId} {fr : Nat × Nat} {b o : Nat} : ∀ (vs : List Value) (i : Nat) (cur : Array Value) (w : World), w.heap[b]? = some (.cells cur e fr) → okFr cur fr →
    o + i + vs.length ≤ cur.size → (∀ v, v ∈ vs → one v = true) →
    ∃ w', (storeCells ⟨b, o, none⟩ vs i).run P w = .ok () w' ∧ w'.heap[b]? = some (.cells (segs cur.toList (o + i) vs).toArray e fr) ∧ Fr w (fun k => k = b) w'
  | [], i, cur, w, hb, _, _, _ => by
    refine ⟨w, by simp [storeCells], ?_, Fr.refl _ _⟩
    rw [hb]; simp [segs]
  | v :: vs, i, cur, w, hb, hf, hl, ho => by
    have hlt : o + i < cur.size := by simp at hl; omega
    have hc : w.cell? ⟨b, o + i, none⟩ = some cur[o + i] := by simp [World.cell?, hb, hlt]
    have hz : w.frozen? ⟨b, o + i, none⟩ = false := by
      have := hf.out (o + i) hlt
      simp only [World.frozen?, hb]
      rw [Bool.eq_false_iff]
      simp
      exact fun h => Nat.not_lt.1 fun h' => this ⟨h, h'⟩
    have hone : one v = true := ho v (List.mem_cons_self ..)
    have h1 : (store ((⟨b, o, none⟩ : Addr).add i) v).run P w = .ok () (w.setCell ⟨b, o + i, none⟩ v) := by
      rw [add_mk]
      unfold store
      cases v <;> first | (simp [Sem.run, hc, hz]; done) | cases hone
    have hb' := setCell_heap w b (o + i) cur e fr v hb
    obtain ⟨w', hr, hh, hfr⟩ := run_storeCells (o := o) vs (i + 1) _ _ hb' (hf.congr (by simp)) (by simp at hl ⊢; omega) (fun u hu => ho u (List.mem_cons_of_mem _ hu))
    refine ⟨w', by simp only [storeCells, Sem.run_bind, h1, Result.andThen_ok, hr], ?_, ?_⟩
    · rw [hh]
      congr 2
      apply Array.ext'
      simp only [Array.toList_setIfInBounds, segs, List.length_cons]
      rw [List.take_set, List.drop_set_of_lt (by omega), show o + (i + 1) + vs.length = o + i + (vs.length + 1) by omega]
      rw [show o + (i + 1) = (o + i) + 1 by omega, List.take_succ_eq_append_getElem (by simpa using hlt), List.set_append_right _ _ (by simp; omega)]
      simp [Nat.min_eq_left (Nat.le_of_lt hlt)]
    · refine Fr.trans (a := w) (b := w.setCell ⟨b, o + i, none⟩ v) (M := fun k => k = b) (N := fun k => k = b) ⟨rfl, rfl, rfl, by simp, fun k hk hne => ?_⟩ hfr (fun x _ h => h)
      simp only [World.setCell, Array.getElem?_modify]
      rw [if_neg (fun h => hne h.symm)]

theorem run_storeVar {t : TypeId} {n b o : Nat} {v : Value} {cur : Array Value} {e : TypeId} {fr : Nat × Nat} {w : World} (ht : ∀ w, (sizeOf t).run P w = .ok n w) (hn : v.cells.toList.length = n)
    (hb : w.heap[b]? = some (.cells cur e fr)) (hf : okFr cur fr) (hl : o + n ≤ cur.size) (ho : ∀ u, u ∈ v.cells.toList → one u = true) :
    ∃ w', (storeVar t ⟨b, o, none⟩ v).run P w = .ok () w' ∧ w'.heap[b]? = some (.cells (segs cur.toList o v.cells.toList).toArray e fr) ∧ Fr w (fun k => k = b) w' := by
  obtain ⟨w', hr, hh, hfr⟩ := run_storeCells (P := P) (o := o) v.cells.toList 0 cur w hb hf (by omega) ho
  refine ⟨w', ?_, hh, hfr⟩
  have : v.cells.size = n := by simpa using hn
  simp [storeVar, ht, this, hr]
end

section
variable {P : Program} {T : Tm} {m : Mem} {L : List Chunk} {dst : Option Tmp} {type : TypeId} {pos : String} {after : Array Edge} {guard : Option (Nat × Bool)}

/-- A store into an object. -/
theorem lop_store {t : TypeId} {x y : Operand} {b o n : Nat} {cs : List Value} {v : Value} (ht : ∀ w, (sizeOf t).run P w = .ok n w) (hx : ev T x = some (.pointer (some ⟨b, o, none⟩)))
    (hy : ev T y = some v) (hn : v.cells.toList.length = n) (hl : o + n ≤ cs.length) (ho : ∀ u, u ∈ v.cells.toList → one u = true) :
    LOp P ⟨dst, .store t x y, type, pos, after, guard⟩ m T L (.obj b cs) (fun u c => u = undef ∧ c = .obj b (segs cs o v.cells.toList)) := by
  intro ρ hρ w s hm
  have hx := hρ x (by simp [Op.operands]) _ hx
  have hy := hρ y (by simp [Op.operands]) _ hy
  obtain ⟨e, fr, hb, hf⟩ := s.chunks _ hm
  obtain ⟨w', hr, hh, hfr⟩ := run_storeVar (P := P) (o := o) ht hn hb hf (by simpa using hl) ho
  refine ⟨.skip, undef, _, w', ?_, .inr ⟨rfl, rfl⟩, ⟨rfl, rfl⟩, ⟨e, fr, by simpa using hh, ?_⟩, hfr, fun k hk => .inl hk⟩
  · simp [execOp, hx, hy, Instr.storeAt, Instr.sureAddr, hr]
  · have hsz : (segs cs o v.cells.toList).length = cs.length := segs_length (by omega)
    exact hf.congr (by simpa using hsz)

theorem lop_store1 {t : TypeId} {x y : Operand} {b o : Nat} {cs : List Value} {v : Value} (ht : ∀ w, (sizeOf t).run P w = .ok 1 w) (hx : ev T x = some (.pointer (some ⟨b, o, none⟩)))
    (hy : ev T y = some v) (hv : one v = true) (hl : o < cs.length) :
    LOp P ⟨dst, .store t x y, type, pos, after, guard⟩ m T L (.obj b cs) (fun u c => u = undef ∧ c = .obj b (cs.set o v)) := by
  have hc := one_cells hv
  have := lop_store (P := P) (m := m) (L := L) (dst := dst) (type := type) (pos := pos) (after := after) (guard := guard) (cs := cs) ht hx hy (by simp [hc]) hl (by simp [hc, hv])
  rw [hc, segs_one hl] at this
  exact this

/-- A whole object is stored. -/
theorem lop_storeAll {t : TypeId} {x y : Operand} {b : Nat} {cs vs : List Value} (ht : ∀ w, (sizeOf t).run P w = .ok cs.length w) (hx : ev T x = some (.pointer (some ⟨b, 0, none⟩)))
    (hy : ev T y = some (.agg vs.toArray)) (hn : vs.length = cs.length) (ho : ∀ u, u ∈ vs → one u = true) :
    LOp P ⟨dst, .store t x y, type, pos, after, guard⟩ m T L (.obj b cs) (fun u c => u = undef ∧ c = .obj b vs) := by
  have := lop_store (P := P) (m := m) (L := L) (dst := dst) (type := type) (pos := pos) (after := after) (guard := guard) (cs := cs) (o := 0) ht hx hy (by simpa [Value.cells] using hn) (by omega) (by simpa [Value.cells] using ho)
  rw [show (Value.agg vs.toArray).cells.toList = vs from rfl, segs_all hn] at this
  exact this

/-- A store into a slice's cells. -/
theorem lop_storeElem {t : TypeId} {x y : Operand} {v u : Value} {k n sz : Nat} {cs : List Value} (ht : ∀ w, (sizeOf t).run P w = .ok n w) (hx : ev T x = some (elemP v k))
    (hy : ev T y = some u) (hn : u.cells.toList.length = n) (h0 : 0 < n) (hl : k + n ≤ cs.length) (ho : ∀ z, z ∈ u.cells.toList → one z = true) :
    LOp P ⟨dst, .store t x y, type, pos, after, guard⟩ m T L (.sl v sz cs) (fun z c => z = undef ∧ c = .sl v sz (segs cs k u.cells.toList)) := by
  intro ρ hρ w s hm
  have hx := hρ x (by simp [Op.operands]) _ hx
  have hy := hρ y (by simp [Op.operands]) _ hy
  rcases s.chunks _ hm with ⟨rfl, rfl⟩ | ⟨b, off, len, cap, c, e, fr, rfl, hlen, hcap, htot, hb, hf, hc⟩
  · simp at hl; omega
  · have hcs : off + cs.length ≤ c.size := by
      rw [hlen]; exact Nat.le_trans (Nat.add_le_add_left (Nat.mul_le_mul_right _ hcap) _) htot
    obtain ⟨w', hr, hh, hfr⟩ := run_storeVar (P := P) (o := off + k) ht hn hb hf (by omega) ho
    have hsz : (segs c.toList (off + k) u.cells.toList).length = c.toList.length := segs_length (by rw [hn, Array.length_toList]; omega)
    refine ⟨.skip, undef, _, w', ?_, .inr ⟨rfl, rfl⟩, ⟨rfl, rfl⟩, ?_, ⟨hfr.os, hfr.tape, hfr.output, hfr.size, fun j hj hne => hfr.block j hj fun e => hne ?_⟩, fun k hk => .inl hk⟩
    · simp [execOp, hx, hy, Instr.storeAt, Instr.sureAddr, elemP, add_mk, hr]
    · have hsl : (segs cs k u.cells.toList).length = cs.length := segs_length (by omega)
      refine .inr ⟨b, off, len, cap, _, e, fr, rfl, by rw [hsl]; exact hlen, hcap, by simpa [hsz] using htot, hh, hf.congr (by simpa using hsz), fun i hi => ?_⟩
      rw [hsl] at hi
      have hci := hc i hi
      rw [List.getElem?_toArray, segs_get (by simp only [Array.length_toList] at hn ⊢; omega), segs_get (by omega)]
      rcases Nat.lt_or_ge i k with h1 | h1
      · rw [if_pos (by omega), if_pos h1]; simpa using hci
      · rcases Nat.lt_or_ge i (k + u.cells.toList.length) with h2 | h2
        · rw [if_neg (by omega), if_pos (by omega), if_neg (by omega), if_pos h2]; congr 1; omega
        · rw [if_neg (by omega), if_neg (by omega), if_neg (by omega), if_neg (by omega)]; simpa using hci
    · subst e; exact ⟨off, len, cap, rfl⟩

/-! ### Slices made -/
theorem slOk_made (b n cap sz : Nat) (cs : List Value) (h : cs.length = n * sz) (hc : n ≤ cap) : slOk (.slice (some ⟨b, 0, none⟩) n cap) sz cs := .inr (.inl ⟨b, 0, n, cap, rfl, h, hc⟩)

theorem zeros_size {z : Array Value} {n : Nat} (h : z.size = 1) : (Array.range n).map (fun i => z[i % z.size]!) = (List.replicate n z[0]!).toArray := by
  apply Array.ext'
  simp [h, Nat.mod_one]
  exact List.ext_getElem (by simp) (by simp)

/-- What 'fill' lays, as the kit's literal lists want it: by reckoning. -/
def filled (sz : Nat) (z : List Value) (n : Nat) (parts : List (Nat × Value)) : Option (List Value) :=
  (Instr.fill (fun i => some (i * sz, sz)) ((List.range (n * sz)).map fun i => z.getD (i % z.length) undef).toArray parts).map (·.toList)
end
end Go.Proofs.Ytpnipajadjeifaa.Sep
