/- The operations that make, read and write memory. -/
import Derived.Test.YtpnipajadjeifaaSepC
import Derived.Laws.Cells
import Derived.Laws.Slices
import Derived.Laws.Append
import Derived.Laws.Tables
import Derived.Laws.CopyRow
namespace Go.Proofs.Ytpnipajadjeifaa.Sep
open Go Go.RowKit
set_option linter.unusedVariables false
set_option linter.unusedSimpArgs false

theorem add_mk (b o n : Nat) : (⟨b, o, none⟩ : Addr).add n = ⟨b, o + n, none⟩ := by
  unfold Addr.add; split
  · rename_i h; subst h; rfl
  · rfl

theorem SatH.read {m : Mem} {L : List Chunk} {w : World} (h : SatH m L w) {a : Addr} {u : Value} (ha : memOf m L a u) : w.cell? a = some u := by
  rcases ha with ha | ⟨c, hc, ha⟩
  · exact h.mem a u ha
  · exact Chunk.holds_at (h.chunks c hc) ha

theorem memOf_obj {m : Mem} {L : List Chunk} {b i : Nat} {cs : List Value} {u : Value} (h : Chunk.obj b cs ∈ L) (hi : cs[i]? = some u) : memOf m L ⟨b, i, none⟩ u :=
  .inr ⟨_, h, i, rfl, hi⟩

/-! ### A chunk of a state and its place -/
inductive Pos : List Chunk → Chunk → (Chunk → List Chunk) → Prop where
  | here {L : List Chunk} {c : Chunk} : Pos (c :: L) c (fun x => x :: L)
  | there {L : List Chunk} {c d : Chunk} {f : Chunk → List Chunk} (h : Pos L c f) : Pos (d :: L) c (fun x => d :: f x)

theorem Pos.rest {L : List Chunk} {c : Chunk} {f : Chunk → List Chunk} (h : Pos L c f) : ∃ F, L.Perm (c :: F) ∧ ∀ x, (f x).Perm (x :: F) := by
  induction h with
  | here => exact ⟨_, .refl _, fun _ => .refl _⟩
  | @there L c d f h ih =>
    obtain ⟨F, h1, h2⟩ := ih
    exact ⟨d :: F, (h1.cons d).trans (.swap ..), fun x => ((h2 x).cons d).trans (.swap ..)⟩

theorem Pos.mem {L : List Chunk} {c : Chunk} {f : Chunk → List Chunk} (h : Pos L c f) : c ∈ L := by
  obtain ⟨F, h1, _⟩ := h.rest
  exact h1.mem_iff.2 (List.mem_cons_self ..)

def LOp (P : Program) (o : Oper) (m : Mem) (T : Tm) (L : List Chunk) (c : Chunk) (R : Value → Chunk → Prop) : Prop :=
  ∀ ρ, Agree T o ρ → ∀ w, SatH m L w → c ∈ L → ∃ n v c' w', (execOp ρ o).run P w = .ok n w' ∧ (n = .value v ∨ n = .skip ∧ v = undef) ∧ R v c' ∧
    c'.holds w' ∧ Fr w c.has w' ∧ ∀ k, c'.has k → c.has k ∨ w.heap.size ≤ k

theorem LOp.toW {P : Program} {o : Oper} {m : Mem} {T : Tm} {L : List Chunk} {c : Chunk} {R : Value → Chunk → Prop} {f : Chunk → List Chunk} (h : LOp P o m T L c R) (hp : Pos L c f) :
    WOp P o m T L (fun v L' => ∃ c', R v c' ∧ L' = f c') := by
  intro ρ hρ w s
  obtain ⟨n, v, c', w', hr, hn, hR, hc, hf, ho⟩ := h ρ hρ w s hp.mem
  obtain ⟨F, h1, h2⟩ := hp.rest
  have s1 := s.perm h1
  obtain ⟨hx, hF⟩ := List.pairwise_cons.1 s1.apart
  have hFk : ∀ d, d ∈ F → ∀ k, d.has k → k < w.heap.size ∧ ¬ c.has k := fun d hd k hk =>
    ⟨Chunk.holds_lt (s1.chunks d (List.mem_cons_of_mem _ hd)) hk, fun hc => hx d hd k hc hk⟩
  have sF : SatH m (c' :: F) w' := by
    refine ⟨fun a u ha => ?_, fun d hd => ?_, List.pairwise_cons.2 ⟨fun d hd k hk hk' => ?_, hF⟩, fun d hd a u ha hk => ?_⟩
    · rw [cell_same (hf.block _ (s.mem_lt ha) (s1.off c (List.mem_cons_self ..) a u ha))]; exact s.mem a u ha
    · rcases List.mem_cons.1 hd with rfl | hd
      · exact hc
      · exact Chunk.holds_same (s1.chunks d (List.mem_cons_of_mem _ hd)) fun k hk => hf.block k (hFk d hd k hk).1 (hFk d hd k hk).2
    · rcases ho k hk with h | h
      · exact (hFk d hd k hk').2 h
      · exact absurd (hFk d hd k hk').1 (Nat.not_lt.2 h)
    · rcases List.mem_cons.1 hd with rfl | hd
      · rcases ho _ hk with h | h
        · exact s1.off c (List.mem_cons_self ..) a u ha h
        · exact absurd (s.mem_lt ha) (Nat.not_lt.2 h)
      · exact s1.off d (List.mem_cons_of_mem _ hd) a u ha hk
  refine ⟨n, v, f c', w', hr, hn, ⟨c', hR, rfl⟩, sF.perm (h2 c').symm, ⟨hf.os, hf.tape, hf.output, hf.size, fun k hk hL => hf.block k hk fun h => hL ⟨c, hp.mem, h⟩⟩, ?_⟩
  rintro k ⟨d, hd, hk⟩
  rcases List.mem_cons.1 ((h2 c').mem_iff.1 hd) with rfl | hd
  · exact (ho k hk).imp (fun h => ⟨c, hp.mem, h⟩) id
  · exact .inl ⟨d, h1.mem_iff.2 (List.mem_cons_of_mem _ hd), hk⟩

section
variable {G : Ctx} {P : Program} {arr : Array Oper} {Q : Post} {m : Mem} {T : Tm} {L : List Chunk} {os : List Oper} {o : Oper}
theorem OpsW.upd {c : Chunk} {f : Chunk → List Chunk} {R : Value → Chunk → Prop} (hg : gd arr o T = some true) (hd : dstOk G.nt o.dst = true) (hp : Pos L c f) (h : LOp P o m T L c R)
    (k : ∀ v c', R v c' → OpsW G P arr Q os m (putO T o.dst v) (f c')) : OpsW G P arr Q (o :: os) m T L :=
  .w hg hd (h.toW hp) fun v L' ⟨c', hR, e⟩ => by subst e; exact k v c' hR
end

/-! ### Slices -/
def slOk (v : Value) (sz : Nat) (cs : List Value) : Prop :=
  (v = .slice none 0 0 ∧ cs = []) ∨ (∃ b off len cap, v = .slice (some ⟨b, off, none⟩) len cap ∧ cs.length = len * sz ∧ len ≤ cap) ∨ ∃ a cap, v = .slice (some a) 0 cap ∧ cs = []

/-- A slice that reads as these cells. -/
def Rd (μ : Mem) (v : Value) (sz : Nat) (cs : List Value) : Prop :=
  slOk v sz cs ∧ ∀ b off len cap, v = .slice (some ⟨b, off, none⟩) len cap → ∀ i u, cs[i]? = some u → μ ⟨b, off + i, none⟩ u

theorem Chunk.sl_ok {w : World} {v : Value} {sz : Nat} {cs : List Value} (h : (Chunk.sl v sz cs).holds w) : slOk v sz cs := by
  rcases h with h | ⟨b, off, len, cap, c, elem, fr, hv, hl, hc, _⟩
  · exact .inl h
  · exact .inr (.inl ⟨b, off, len, cap, hv, hl, hc⟩)

theorem Rd.of_sl {m : Mem} {L : List Chunk} {v : Value} {sz : Nat} {cs : List Value} (h : Chunk.sl v sz cs ∈ L) (ho : slOk v sz cs) : Rd (memOf m L) v sz cs :=
  ⟨ho, fun b off len cap hv i u hi => .inr ⟨_, h, b, off, len, cap, i, hv, rfl, hi⟩⟩
theorem Rd.mono {μ μ' : Mem} {v : Value} {sz : Nat} {cs : List Value} (h : Rd μ v sz cs) (hm : ∀ a u, μ a u → μ' a u) : Rd μ' v sz cs :=
  ⟨h.1, fun b off len cap hv i u hi => hm _ _ (h.2 b off len cap hv i u hi)⟩
theorem Rd.ro {m : Mem} {L : List Chunk} {v : Value} {sz : Nat} {cs : List Value} (h : Rd m v sz cs) : Rd (memOf m L) v sz cs := h.mono fun _ _ => .inl
theorem Rd.of_at {μ : Mem} {v : Value} {sz : Nat} {cs : List Value} (ho : slOk v sz cs) (h : ∀ a u, (Chunk.sl v sz cs).at a u → μ a u) : Rd μ v sz cs :=
  ⟨ho, fun b off len cap hv i u hi => h _ _ ⟨b, off, len, cap, i, hv, rfl, hi⟩⟩

def slLen : Value → Nat
  | .slice _ n _ => n
  | _ => 0
/-- The address of a slice's cell. -/
def elemP (v : Value) (k : Nat) : Value :=
  match v with
  | .slice (some a) _ _ => .pointer (some (a.add k))
  | _ => undef

theorem slOk.len {v : Value} {sz : Nat} {cs : List Value} (h : slOk v sz cs) : cs.length = slLen v * sz := by
  rcases h with ⟨rfl, rfl⟩ | ⟨b, off, len, cap, rfl, h, _⟩ | ⟨a, cap, rfl, rfl⟩
  · simp [slLen]
  · exact h
  · simp [slLen]

theorem slOk.len_eq {v : Value} {sz n : Nat} {cs : List Value} (h : slOk v sz cs) (hn : cs.length = n * sz) (hz : 0 < sz) : slLen v = n :=
  Nat.eq_of_mul_eq_mul_right hz (h.len.symm.trans hn)

theorem slOk.shape {v : Value} {sz : Nat} {cs : List Value} (h : slOk v sz cs) : ∃ base cap, v = .slice base (slLen v) cap ∧ slLen v ≤ cap := by
  rcases h with ⟨rfl, rfl⟩ | ⟨b, off, len, cap, rfl, h, hc⟩ | ⟨a, cap, rfl, rfl⟩
  · exact ⟨none, 0, rfl, Nat.le_refl _⟩
  · exact ⟨_, cap, rfl, hc⟩
  · exact ⟨_, cap, rfl, Nat.zero_le _⟩

section
variable {P : Program} {T : Tm} {m : Mem} {L : List Chunk} {dst : Option Tmp} {type : TypeId} {pos : String} {after : Array Edge} {guard : Option (Nat × Bool)}

/-! ### What the tables say of a type -/
def Scal (P : Program) (t : TypeId) : Prop := (∀ w, (isAgg t).run P w = .ok false w) ∧ ∀ w, (sizeOf t).run P w = .ok 1 w
def AggT (P : Program) (t : TypeId) (n : Nat) : Prop := (∀ w, (isAgg t).run P w = .ok true w) ∧ ∀ w, (sizeOf t).run P w = .ok n w
def FieldAt (P : Program) (s : TypeId) (i off : Nat) : Prop :=
  ∀ b o w, (Instr.fieldAt s (.pointer (some ⟨b, o, none⟩)) i).run P w = .ok (.pointer (some ⟨b, o + off, none⟩)) w
def ArrT (P : Program) (t : TypeId) (n sz : Nat) : Prop := ∃ e, P.underlying t = some (.array n e) ∧ ∀ w, (sizeOf e).run P w = .ok sz w
structure ElemT (P : Program) (e : TypeId) (sz bytes : Nat) (z : List Value) : Prop where
  info : ∃ i zv, P.info? e = some i ∧ i.size = sz ∧ i.bytes = bytes ∧ i.zero = some zv ∧ zv.cells.toList = z ∧ z.length = sz
def SlT (P : Program) (t e : TypeId) (sz bytes : Nat) (z : List Value) : Prop := P.underlying t = some (.slice e) ∧ ElemT P e sz bytes z
def ZeroT (P : Program) (t : TypeId) (zs : List Value) : Prop := ∃ z, (∀ w, (zeroValue t).run P w = .ok z w) ∧ z.cells.toList = zs

theorem okFr_zero (c : Array Value) : okFr c (0, 0) := .inl rfl

theorem heap_push {w : World} {o : Obj} : ({ w with heap := w.heap.push o } : World).heap[w.heap.size]? = some o := by simp
theorem Fr.push (w : World) (o : Obj) : Fr w (fun _ => False) { w with heap := w.heap.push o } :=
  ⟨rfl, rfl, rfl, by simp, fun k hk _ => by simp [Array.getElem?_push, Nat.ne_of_lt hk]⟩

theorem run_newRow (e : TypeId) (cells : Array Value) (w : World) : (newRow e cells).run P w = .ok ⟨w.heap.size, 0, none⟩ { w with heap := w.heap.push (.cells cells e) } := by
  simp only [newRow, newObj, Sem.run_bind, Sem.run, Result.andThen_ok, pure]

theorem allocOp_alloc {t : TypeId} {zs : List Value} (hz : ZeroT P t zs) :
    AllocOp P ⟨dst, .alloc t, type, pos, after, guard⟩ T (fun v c => ∃ b, v = .pointer (some ⟨b, 0, none⟩) ∧ c = .obj b zs) := by
  obtain ⟨z, hz, rfl⟩ := hz
  intro ρ hρ w
  refine ⟨_, _, { w with heap := w.heap.push (.cells z.cells t) }, ?_, ⟨w.heap.size, rfl, rfl⟩, ⟨t, (0, 0), by simp, okFr_zero _⟩, Fr.push _ _, fun k hk => by cases hk; exact Nat.le_refl _⟩
  simp only [execOp, Instr.alloc, newVar, Sem.run_bind, hz, run_newRow, Result.andThen_ok, pure, Sem.run]

theorem allocOp_box {t : TypeId} {x : Operand} {v : Value} (hx : ev T x = some v) :
    AllocOp P ⟨dst, .box t x, type, pos, after, guard⟩ T (fun p c => ∃ b, p = .pointer (some ⟨b, 0, none⟩) ∧ c = .obj b v.cells.toList) := by
  intro ρ hρ w
  have hx := hρ x (by simp [Op.operands]) _ hx
  refine ⟨_, _, { w with heap := w.heap.push (.cells v.cells t) }, ?_, ⟨w.heap.size, rfl, rfl⟩, ⟨t, (0, 0), by simp, okFr_zero _⟩, Fr.push _ _, fun k hk => by cases hk; exact Nat.le_refl _⟩
  simp only [execOp, Instr.box, newVar, Sem.run_bind, hx, run_newRow, Result.andThen_ok, pure, Sem.run]

/-! ### Loads -/
theorem loadOp_scal {t : TypeId} {x : Operand} {a : Addr} {u : Value} (ht : Scal P t) (hx : ev T x = some (.pointer (some a))) (h : memOf m L a u) :
    LoadOp P ⟨dst, .load t x, type, pos, after, guard⟩ m T L u := by
  intro ρ hρ w s
  have hx := hρ x (by simp [Op.operands]) _ hx
  simp [execOp, hx, Instr.loadAt, Instr.sureAddr, loadVar, ht.1, s.read h]

theorem loadOp_agg {t : TypeId} {x : Operand} {a : Addr} {cs : List Value} (ht : AggT P t cs.length) (hx : ev T x = some (.pointer (some a)))
    (h : ∀ j u, cs[j]? = some u → memOf m L (a.add j) u) : LoadOp P ⟨dst, .load t x, type, pos, after, guard⟩ m T L (.agg cs.toArray) := by
  intro ρ hρ w s
  have hx := hρ x (by simp [Op.operands]) _ hx
  have hl := run_loadCells_list (P := P) w a cs fun j v hj => s.read (h j v hj)
  simp [execOp, hx, Instr.loadAt, Instr.sureAddr, loadVar, ht.1, ht.2, hl]

theorem loadOp_obj {t : TypeId} {x : Operand} {b o : Nat} {cs : List Value} {u : Value} (ht : Scal P t) (hx : ev T x = some (.pointer (some ⟨b, o, none⟩)))
    (hm : Chunk.obj b cs ∈ L) (hu : cs[o]? = some u) : LoadOp P ⟨dst, .load t x, type, pos, after, guard⟩ m T L u :=
  loadOp_scal ht hx (memOf_obj hm hu)

theorem loadOp_objAgg {t : TypeId} {x : Operand} {b o n : Nat} {cs : List Value} (ht : AggT P t n) (hx : ev T x = some (.pointer (some ⟨b, o, none⟩)))
    (hm : Chunk.obj b cs ∈ L) (hu : o + n ≤ cs.length) : LoadOp P ⟨dst, .load t x, type, pos, after, guard⟩ m T L (.agg ((cs.drop o).take n).toArray) := by
  have hlen : ((cs.drop o).take n).length = n := by simp; omega
  refine loadOp_agg (by rw [hlen]; exact ht) hx fun j u hj => ?_
  rw [add_mk]
  refine memOf_obj hm ?_
  have hj' : j < n := by have := (List.getElem?_eq_some_iff.1 hj).1; omega
  rw [List.getElem?_take_of_lt hj', List.getElem?_drop] at hj
  exact hj

/-- A whole object. -/
theorem loadOp_objAll {t : TypeId} {x : Operand} {b : Nat} {cs : List Value} (ht : AggT P t cs.length) (hx : ev T x = some (.pointer (some ⟨b, 0, none⟩)))
    (hm : Chunk.obj b cs ∈ L) : LoadOp P ⟨dst, .load t x, type, pos, after, guard⟩ m T L (.agg cs.toArray) :=
  loadOp_agg ht hx fun j u hj => by rw [add_mk]; exact memOf_obj hm (by simpa using hj)

theorem loadOp_elem {t : TypeId} {x : Operand} {v : Value} {sz k : Nat} {cs : List Value} {u : Value} (ht : Scal P t) (hx : ev T x = some (elemP v k))
    (hr : Rd (memOf m L) v sz cs) (hu : cs[k]? = some u) : LoadOp P ⟨dst, .load t x, type, pos, after, guard⟩ m T L u := by
  rcases hr.1 with ⟨rfl, rfl⟩ | ⟨b, off, len, cap, rfl, _⟩ | ⟨a, cap, rfl, rfl⟩
  · simp at hu
  · exact loadOp_scal ht hx (by rw [add_mk]; exact hr.2 _ _ _ _ rfl k u hu)
  · simp at hu

theorem loadOp_elemAgg {t : TypeId} {x : Operand} {v : Value} {sz k n : Nat} {cs : List Value} (ht : AggT P t n) (hx : ev T x = some (elemP v k))
    (hr : Rd (memOf m L) v sz cs) (hu : k + n ≤ cs.length) (hn : 0 < n) : LoadOp P ⟨dst, .load t x, type, pos, after, guard⟩ m T L (.agg ((cs.drop k).take n).toArray) := by
  rcases hr.1 with ⟨rfl, rfl⟩ | ⟨b, off, len, cap, rfl, _⟩ | ⟨a, cap, rfl, rfl⟩
  rotate_left 2
  · simp at hu; omega
  · simp at hu; omega
  · have hlen : ((cs.drop k).take n).length = n := by simp; omega
    refine loadOp_agg (by rw [hlen]; exact ht) hx fun j u hj => ?_
    rw [add_mk, add_mk, Nat.add_assoc]
    refine hr.2 _ _ _ _ rfl _ u ?_
    have hj' : j < n := by have := (List.getElem?_eq_some_iff.1 hj).1; omega
    rw [List.getElem?_take_of_lt hj', List.getElem?_drop] at hj
    exact hj

/-! ### Addresses -/
theorem pureOp_fieldAddr {s : TypeId} {x : Operand} {b o i off : Nat} (hf : FieldAt P s i off) (hx : ev T x = some (.pointer (some ⟨b, o, none⟩))) :
    PureOp P ⟨dst, .fieldAddr s x i, type, pos, after, guard⟩ T (.pointer (some ⟨b, o + off, none⟩)) := by
  intro ρ hρ w
  have hx := hρ x (by simp [Op.operands]) _ hx
  simp [execOp, hx, hf b o w]

/-- The i-th of an array's places. -/
theorem pureOp_indexArr {t : TypeId} {x y : Operand} {b o n sz : Nat} {k : IntKind} {i : Int} (ha : ArrT P t n sz) (hx : ev T x = some (.pointer (some ⟨b, o, none⟩)))
    (hy : ev T y = some (.int k i)) (hi : 0 ≤ i ∧ i < n) : PureOp P ⟨dst, .indexAddr t x y, type, pos, after, guard⟩ T (.pointer (some ⟨b, o + i.toNat * sz, none⟩)) := by
  obtain ⟨e, hu, hs⟩ := ha
  intro ρ hρ w
  have hx := hρ x (by simp [Op.operands]) _ hx
  have hy := hρ y (by simp [Op.operands]) _ hy
  have hun : (underlying t).run P w = .ok (.array n e) w := run_underlying hu w
  simp [execOp, hx, hy, Instr.indexAt, asIntOf, hun, Instr.sureAddr, hi.1, hi.2, hs, add_mk]

theorem pureOp_indexSl {t e : TypeId} {x y : Operand} {v : Value} {n sz : Nat} {cs : List Value} {k : IntKind} {i : Int} (ht : P.underlying t = some (.slice e)) (hz : ∀ w, (sizeOf e).run P w = .ok sz w)
    (hx : ev T x = some v) (ho : slOk v sz cs) (hn : cs.length = n * sz) (h0 : 0 < sz)
    (hy : ev T y = some (.int k i)) (hi : 0 ≤ i ∧ i < n) : PureOp P ⟨dst, .indexAddr t x y, type, pos, after, guard⟩ T (elemP v (i.toNat * sz)) := by
  intro ρ hρ w
  have hx := hρ x (by simp [Op.operands]) _ hx
  have hy := hρ y (by simp [Op.operands]) _ hy
  have hl := ho.len_eq hn h0
  have hun : ∀ w, (underlying t).run P w = .ok (.slice e) w := fun w => run_underlying ht w
  rcases ho with ⟨rfl, rfl⟩ | ⟨b, off, len, cap, rfl, _⟩ | ⟨a, cap, rfl, rfl⟩
  rotate_left 2
  · simp [slLen] at hl; omega
  · simp [slLen] at hl; omega
  · simp [slLen] at hl
    subst hl
    simp [execOp, hx, hy, Instr.indexAt, asIntOf, hun, hi.1, hi.2, hz, elemP]

theorem pureOp_len {t e ty : TypeId} {x : Operand} {v : Value} {n sz : Nat} {cs : List Value} (ht : P.underlying t = some (.slice e)) 
    (hx : ev T x = some v) (ho : slOk v sz cs) (hn : cs.length = n * sz) (h0 : 0 < sz) :
    PureOp P ⟨dst, .call ⟨.builtin .len, #[x], #[t]⟩, ty, pos, after, guard⟩ T (.int .i64 n) := by
  intro ρ hρ w
  have hx := hρ x (by simp [Op.operands, Call.operands]) _ hx
  have hl := ho.len_eq hn h0
  obtain ⟨base, cap, hv, _⟩ := ho.shape
  have hun : (underlying t).run P w = .ok (.slice e) w := run_underlying ht w
  rw [hv] at hx
  simp [execOp, resolve, invoke, builtin, Builtin.len_, hx, hun, goInt, hl]
end
end Go.Proofs.Ytpnipajadjeifaa.Sep
