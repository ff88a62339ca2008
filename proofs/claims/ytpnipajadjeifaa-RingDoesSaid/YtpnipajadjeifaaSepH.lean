/- Copying, making, building, conversions, equality, calls, results. -/
import Derived.Test.YtpnipajadjeifaaSepG
import Derived.Laws.StructEq
namespace Go.Proofs.Ytpnipajadjeifaa.Sep
open Go Go.RowKit
set_option linter.unusedVariables false
set_option linter.unusedSimpArgs false

section
variable {P : Program} {T : Tm} {m : Mem} {L : List Chunk} {dst : Option Tmp} {type : TypeId} {pos : String} {after : Array Edge} {guard : Option (Nat × Bool)}

theorem lop_append {t t' e ty : TypeId} {x y : Operand} {v u : Value} {k n sz bytes : Nat} {z cs ys : List Value} (ht : SlT P t e sz bytes z) (ht' : NotInt P t')
    (hx : ev T x = some v) (hy : ev T y = some u) (hcs : cs.length = k * sz) (hsrc : Src P m L u sz n ys) (hb : (k + n) * bytes ≤ 140737488355328) (hone : ∀ y, y ∈ ys → one y = true)
    (h0 : 0 < sz) (hb0 : 0 < bytes) :
    LOp P ⟨dst, .call ⟨.builtin .append, #[x, y], #[t, t']⟩, ty, pos, after, guard⟩ m T L (.sl v sz cs) (fun v' c => slOk v' sz (cs ++ ys) ∧ c = .sl v' sz (cs ++ ys)) := by
  intro ρ hρ w s hm
  have hx := hρ x (by simp [Op.operands, Call.operands]) _ hx
  have hy := hρ y (by simp [Op.operands, Call.operands]) _ hy
  obtain ⟨v', w', hr, hh, hf, ho⟩ := run_append (P := P) (ty := ty) ht ht' h0 hb0 hcs hsrc hb hone w s (s.chunks _ hm)
  exact ⟨_, v', _, w', by simp [execOp, resolve, invoke, builtin, hx, hy, hr], .inl rfl, ⟨Chunk.sl_ok hh, rfl⟩, hh, hf, ho⟩

/-- Nil is a slice's chunk wherever it is wanted. -/
theorem SatH.nilChunk {w : World} {sz : Nat} (s : SatH m L w) : SatH m (.sl (.slice none 0 0) sz [] :: L) w := by
  have hn : ∀ k, ¬ (Chunk.sl (.slice none 0 0) sz []).has k := by rintro k ⟨off, len, cap, h⟩; cases h
  refine ⟨s.mem, fun c hc => ?_, List.pairwise_cons.2 ⟨fun d hd k hk => absurd hk (hn k), s.apart⟩, fun c hc a u ha hk => ?_⟩
  · rcases List.mem_cons.1 hc with rfl | hc
    · exact .inl ⟨rfl, rfl⟩
    · exact s.chunks c hc
  · rcases List.mem_cons.1 hc with rfl | hc
    · exact hn _ hk
    · exact s.off c hc a u ha hk

theorem allocOp_appendNil {t t' e ty : TypeId} {x y : Operand} {u : Value} {n sz bytes : Nat} {z ys : List Value} (ht : SlT P t e sz bytes z) (ht' : NotInt P t')
    (hx : ev T x = some (.slice none 0 0)) (hy : ev T y = some u) (hsrc : Src P m L u sz n ys) (hb : n * bytes ≤ 140737488355328) (hone : ∀ y, y ∈ ys → one y = true) (h0 : 0 < sz) (hb0 : 0 < bytes) :
    WOp P ⟨dst, .call ⟨.builtin .append, #[x, y], #[t, t']⟩, ty, pos, after, guard⟩ m T L (fun v' L' => slOk v' sz ys ∧ L' = .sl v' sz ys :: L) := by
  intro ρ hρ w s
  have hsrc' : Src P m (.sl (.slice none 0 0) sz [] :: L) u sz n ys := ⟨hsrc.1, fun w s' => hsrc.2 w (by exact ⟨s'.mem, fun c hc => s'.chunks c (List.mem_cons_of_mem _ hc), (List.pairwise_cons.1 s'.apart).2, fun c hc => s'.off c (List.mem_cons_of_mem _ hc)⟩)⟩
  have := lop_append (P := P) (T := T) (dst := dst) (pos := pos) (after := after) (guard := guard) (ty := ty) (cs := []) (k := 0) ht ht' hx hy (by simp) hsrc' (by simpa using hb) hone h0 hb0
  have hw := (this.toW .here) ρ hρ w s.nilChunk
  obtain ⟨n, v, L', w', hr, hn, ⟨c', ⟨hok, hc'⟩, hL⟩, hh, hf, ho⟩ := hw
  subst hc' hL
  simp only [List.nil_append] at *
  have hnil : ∀ k, hasAny (.sl (.slice none 0 0) sz [] :: L) k → hasAny L k := by
    rintro k ⟨c, hc, hk⟩
    rcases List.mem_cons.1 hc with rfl | hc
    · obtain ⟨off, len, cap, h⟩ := hk; cases h
    · exact ⟨c, hc, hk⟩
  exact ⟨n, v, _, w', hr, hn, ⟨hok, rfl⟩, hh, ⟨hf.os, hf.tape, hf.output, hf.size, fun k hk h => hf.block k hk fun h' => h (hnil k h')⟩, fun k hk => (ho k hk).imp (hnil k) id⟩

theorem run_copy {dT sT ty e : TypeId} {src : Value} {base : Option Addr} {dLen dCap n sz : Nat} {ys : List Value} (hu : P.underlying dT = some (.slice e)) (hz : ∀ w, (sizeOf e).run P w = .ok sz w)
    (hsrc : Src P m L src sz n ys) (w : World) (s : SatH m L w) :
    (Builtin.copy_ #[dT, sT] ty #[.slice base dLen dCap, src]).run P w =
      ((match base with | some a => storeCells a (ys.take (min n dLen * sz)) | none => pure ()) >>= fun _ => (pure (.int .i64 (min n dLen : Nat)) : Sem Value)).run P w := by
  have hun : ∀ w, (underlying dT).run P w = .ok (.slice e) w := fun w => run_underlying hu w
  obtain ⟨hl, hs⟩ := hsrc
  obtain ⟨hlen, hf⟩ := hs w s
  have hf' := hf (Nat.min n dLen) (Nat.min_le_left _ _)
  simp only [Builtin.copy_, List.getElem?_toArray, List.getElem?_cons_zero, List.getElem?_cons_succ, Sem.run_bind, hun, Result.andThen_ok, hlen, hz, hf']
  cases base <;> simp [goInt] <;> rfl

/-- A copy into an array's cells. -/
theorem lop_copyObj {dT sT ty e : TypeId} {x y : Operand} {b o dLen dCap n sz : Nat} {src : Value} {cs ys : List Value} (hu : P.underlying dT = some (.slice e)) (hz : ∀ w, (sizeOf e).run P w = .ok sz w)
    (hx : ev T x = some (.slice (some ⟨b, o, none⟩) dLen dCap)) (hy : ev T y = some src) (hsrc : Src P m L src sz n ys) (hl : o + dLen * sz ≤ cs.length) (hone : ∀ y, y ∈ ys → one y = true) :
    LOp P ⟨dst, .call ⟨.builtin .copy, #[x, y], #[dT, sT]⟩, ty, pos, after, guard⟩ m T L (.obj b cs) (fun v c => v = .int .i64 (min n dLen : Nat) ∧ c = .obj b (segs cs o (ys.take (min n dLen * sz)))) := by
  intro ρ hρ w s hm
  have hx := hρ x (by simp [Op.operands, Call.operands]) _ hx
  have hy := hρ y (by simp [Op.operands, Call.operands]) _ hy
  obtain ⟨el, fr, hb, hf⟩ := s.chunks _ hm
  have hle : min n dLen * sz ≤ dLen * sz := Nat.mul_le_mul_right _ (Nat.min_le_right _ _)
  have hln : min n dLen * sz ≤ n * sz := Nat.mul_le_mul_right _ (Nat.min_le_left _ _)
  have hyt : (ys.take (min n dLen * sz)).length = min n dLen * sz := by rw [List.length_take, hsrc.1]; omega
  obtain ⟨w', hr, hh, hfr⟩ := run_storeCells (P := P) (o := o) (ys.take (min n dLen * sz)) 0 cs.toArray w hb hf (by simp only [List.size_toArray, hyt]; omega) (fun u hu => hone u (List.mem_of_mem_take hu))
  rw [Nat.add_zero] at hh
  have hsl : (segs cs o (ys.take (min n dLen * sz))).length = cs.length := segs_length (by rw [hyt]; omega)
  refine ⟨_, _, _, w', ?_, .inl rfl, ⟨rfl, rfl⟩, ⟨el, fr, hh, hf.congr (by simpa using hsl)⟩, hfr, fun k hk => .inl hk⟩
  have := run_copy (P := P) (sT := sT) (ty := ty) (base := some ⟨b, o, none⟩) (dLen := dLen) (dCap := dCap) hu hz hsrc w s
  simp only [Sem.run_bind, hr, Result.andThen_ok, Sem.run_pure] at this
  simp only [execOp, resolve, invoke, builtin, hx, hy, List.map_toArray, List.map_cons, List.map_nil, Sem.run_bind, Sem.run_pure, Result.andThen_ok, this]

/-- len of a string; of an array. -/
theorem pureOp_lenStr {t ty : TypeId} {x : Operand} {s : ByteArray} (ht : P.underlying t = some .string) (hx : ev T x = some (.string s)) :
    PureOp P ⟨dst, .call ⟨.builtin .len, #[x], #[t]⟩, ty, pos, after, guard⟩ T (.int .i64 s.size) := by
  intro ρ hρ w
  have hx := hρ x (by simp [Op.operands, Call.operands]) _ hx
  have hun : (underlying t).run P w = .ok .string w := run_underlying ht w
  simp [execOp, resolve, invoke, builtin, Builtin.len_, hx, hun, goInt]

theorem lop_convMark {t e : TypeId} {x : Operand} {v : Value} {sz : Nat} {cs : List Value} (ht : P.underlying t = some (.slice e)) (he : P.underlying e = some (.int .u8)) (hx : ev T x = some v) (hne : v ≠ .slice none 0 0) :
    LOp P ⟨dst, .convert t t x, type, pos, after, guard⟩ m T L (.sl v sz cs) (fun u c => u = v ∧ c = .sl v sz cs) := by
  intro ρ hρ w s hm
  have hx := hρ x (by simp [Op.operands]) _ hx
  rcases s.chunks _ hm with ⟨rfl, rfl⟩ | ⟨b, off, len, cap, c, el, fr, rfl, hl, hc, htot, hb, hf, hcc⟩
  · exact absurd rfl hne
  · have hun : ∀ w, (underlying t).run P w = .ok (.slice e) w := fun w => run_underlying ht w
    have hue : ∀ w, (underlying e).run P w = .ok (.int .u8) w := fun w => run_underlying he w
    let fr' : Nat × Nat := if fr.1 == fr.2 then (c.size, c.size + 1) else (min fr.1 c.size, max fr.2 (c.size + 1))
    have hheap : (w.freeze ⟨b, c.size, none⟩ 1).heap[b]? = some (.cells c el fr') := by
      obtain ⟨f1, f2⟩ := fr
      simp [World.freeze, Array.getElem?_modify, hb, fr']
    have hf' : okFr c fr' := by
      simp only [fr']
      rcases hf with hf | hf
      · rw [if_pos (by simpa using hf)]; exact .inr (Nat.le_refl _)
      · split
        · exact .inr (Nat.le_refl _)
        · exact .inr (by simp; omega)
    refine ⟨_, _, _, w.freeze ⟨b, c.size, none⟩ 1, ?_, .inl rfl, ⟨rfl, rfl⟩, .inr ⟨b, off, len, cap, c, el, fr', rfl, hl, hc, htot, hheap, hf', hcc⟩, ⟨?_, ?_, ?_, ?_, ?_⟩, fun k hk => .inl hk⟩
    · have hshape : w.shape? b = some (el, c.size) := by simp [World.shape?, hb]
      simp [execOp, hx, convert, hun, hue, markStringish, shape, freeze, Sem.run, hshape]
    · simp [World.freeze]
    · simp [World.freeze]
    · simp [World.freeze]
    · simp [World.freeze]
    · intro k hk hne'
      have : k ≠ b := fun e => hne' (by subst e; exact ⟨off, len, cap, rfl⟩)
      simp [World.freeze, Array.getElem?_modify, this.symm]

/-! whole numbers to others -/
theorem pureOp_conv {s d : TypeId} {x : Operand} {k k' k0 : IntKind} {n : Int} (hs : P.underlying s = some (.int k0)) (hd : P.underlying d = some (.int k')) (hx : ev T x = some (.int k n)) :
    PureOp P ⟨dst, .convert s d x, type, pos, after, guard⟩ T (.int k' (k'.wrap n)) := by
  intro ρ hρ w
  have hx := hρ x (by simp [Op.operands]) _ hx
  simp [execOp, hx, convert, run_underlying hs, run_underlying hd, Conv.intToInt]

/-! calls -/
theorem callOp_func {f : FuncId} {xs : Array Operand} {ts : Array TypeId} {vs : List Value} (hc : ∀ args w, (callFunc f args).run P w = .ok (.enter f args) w)
    (hv : xs.toList.mapM (ev T) = some vs) : CallOp P ⟨dst, .call ⟨.value (.func f), xs, ts⟩, type, pos, after, guard⟩ T f vs := by
  intro ρ hρ w
  have hargs : xs.map ρ = vs.toArray := by
    apply Array.ext'
    rw [Array.toList_map]
    have key : ∀ (l : List Operand) (vs : List Value), l.mapM (ev T) = some vs → (∀ x, x ∈ l → ∀ u, ev T x = some u → ρ x = u) → l.map ρ = vs := by
      intro l
      induction l with
      | nil => intro vs h _; simp at h; simp [h]
      | cons x l ih =>
        intro vs h hr
        simp only [List.mapM_cons, Option.bind_eq_bind, Option.pure_def] at h
        cases hx : ev T x with
        | none => rw [hx] at h; cases h
        | some v =>
          cases hl : l.mapM (ev T) with
          | none => rw [hx, hl] at h; cases h
          | some us =>
            rw [hx, hl] at h
            cases h
            rw [List.map_cons, ih us hl (fun y hy => hr y (List.mem_cons_of_mem _ hy)), hr x (List.mem_cons_self ..) v hx]
    exact key xs.toList vs hv fun x hx u hu => hρ x (by simp only [Op.operands, Call.operands]; exact Array.mem_append.2 (.inr (Array.mem_toList_iff.1 hx))) u hu
  have hf : ρ (.func f) = .func (.func f) #[] #[] := hρ (.func f) (by simp [Op.operands, Call.operands]) _ rfl
  simp [execOp, resolve, hf, Deferred.ofValue, invoke, hargs, hc]

/-! results -/
variable {fn : Func} {nt : Nat}
theorem res_tmp {t : Tmp} {v : Value} (h : fn.results = #[.tmp t]) (hv : T t = some v) : ResultsOk P fn nt m T L v := by
  intro a w ha _
  rw [results_tmp h]
  simp [(ha.2.2 t v hv).2]
theorem res_none (h : fn.results = #[]) : ResultsOk P fn nt m T L (.tuple #[]) := fun a w _ _ => results_none h _ _ _
theorem res_tmp2 {t u : Tmp} {v x : Value} (h : fn.results = #[.tmp t, .tmp u]) (hv : T t = some v) (hx : T u = some x) : ResultsOk P fn nt m T L (.tuple #[v, x]) := by
  intro a w ha _
  rw [results_tmp2 h]
  simp [(ha.2.2 t v hv).2, (ha.2.2 u x hx).2]
theorem run_cellRes {t : TypeId} {a : Addr} {cs : List Value} {w : World} (ht : AggT P t cs.length) (s : SatH m L w) (h : ∀ j u, cs[j]? = some u → memOf m L (a.add j) u) :
    (loadVar t a).run P w = .ok (.agg cs.toArray) w := by
  have hl := run_loadCells_list (P := P) w a cs fun j v hj => s.read (h j v hj)
  simp [loadVar, ht.1, ht.2, hl]
theorem res_cell {t : Tmp} {ty : TypeId} {b : Nat} {cs : List Value} (h : fn.results = #[.cell t ty]) (hv : T t = some (.pointer (some ⟨b, 0, none⟩))) (ht : AggT P ty cs.length) (hm : Chunk.obj b cs ∈ L) :
    ResultsOk P fn nt m T L (.agg cs.toArray) := by
  intro a w ha s
  have := run_cellRes (P := P) (a := ⟨b, 0, none⟩) ht s fun j u hj => by rw [add_mk]; exact memOf_obj hm (by simpa using hj)
  simp [results, h, (ha.2.2 t _ hv).2, asAddr, this]
theorem res_cell_tmp {t u : Tmp} {ty : TypeId} {b : Nat} {cs : List Value} {x : Value} (h : fn.results = #[.cell t ty, .tmp u]) (hv : T t = some (.pointer (some ⟨b, 0, none⟩))) (ht : AggT P ty cs.length) (hm : Chunk.obj b cs ∈ L)
    (hx : T u = some x) : ResultsOk P fn nt m T L (.tuple #[.agg cs.toArray, x]) := by
  intro a w ha s
  have := run_cellRes (P := P) (a := ⟨b, 0, none⟩) ht s fun j u hj => by rw [add_mk]; exact memOf_obj hm (by simpa using hj)
  simp [results, h, (ha.2.2 t _ hv).2, (ha.2.2 u _ hx).2, asAddr, this]
theorem res_tmp3 {t u s' : Tmp} {v x y : Value} (h : fn.results = #[.tmp t, .tmp u, .tmp s']) (hv : T t = some v) (hx : T u = some x) (hy : T s' = some y) : ResultsOk P fn nt m T L (.tuple #[v, x, y]) := by
  intro a w ha _
  simp [results, h, (ha.2.2 t v hv).2, (ha.2.2 u x hx).2, (ha.2.2 s' y hy).2]
end
end Go.Proofs.Ytpnipajadjeifaa.Sep
