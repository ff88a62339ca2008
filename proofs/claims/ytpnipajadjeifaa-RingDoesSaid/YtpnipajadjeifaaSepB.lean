/- What an operation, a list of operations and a call of a function do to a state. -/
import Derived.Test.YtpnipajadjeifaaSepA
namespace Go.Proofs.Ytpnipajadjeifaa.Sep
open Go Go.RowKit
set_option linter.unusedVariables false
set_option linter.unusedSimpArgs false

/-- The operands that a state knows are what the operation sees. -/
def Agree (T : Tm) (o : Oper) (ρ : Operand → Value) : Prop := ∀ x, x ∈ o.op.operands → ∀ u, ev T x = some u → ρ x = u

theorem Kn.agree {nt : Nat} {T : Tm} {a : Act} (h : Kn nt T a) (o : Oper) : Agree T o a.eval := by
  intro x _ u hu
  cases x with
  | tmp t => simp [Act.eval, (h.2.2 t u hu).2]
  | const v => exact Option.some.inj hu
  | global g => exact Option.some.inj hu
  | func f => exact Option.some.inj hu

def dstOk (nt : Nat) : Option Tmp → Bool
  | some d => Nat.blt d nt
  | none => true

theorem Kn.putO {nt : Nat} {T : Tm} {a : Act} (h : Kn nt T a) {d : Option Tmp} (hd : dstOk nt d = true) (v : Value) : Kn nt (putO T d v) (a.put d v) := by
  cases d with
  | none => exact h
  | some d =>
    have hlt : d < nt := by simpa [dstOk] using hd
    refine ⟨h.1, by simp [Act.put, h.2.1], fun i u hi => ?_⟩
    simp only [Sep.putO, put] at hi
    cases hb : Nat.beq i d with
    | true =>
      rw [hb] at hi
      have := Nat.eq_of_beq_eq_true hb
      subst this
      cases hi
      exact ⟨hlt, by simp [Act.put, h.2.1, hlt]⟩
    | false =>
      rw [hb] at hi
      have hne : d ≠ i := fun e => by subst e; simp at hb
      have := h.2.2 i u hi
      exact ⟨this.1, by simp only [Act.put]; rw [Array.getElem?_setIfInBounds_ne hne]; exact this.2⟩

/-- What the guard of an operation says, if the state knows it. -/
def gd (arr : Array Oper) (o : Oper) (T : Tm) : Option Bool :=
  match o.guard with
  | none => some true
  | some (j, b) =>
    match (arr[j]?).bind (·.dst) with
    | none => none
    | some d => match T d with
      | some (.bool x) => some (x == b)
      | some (.tuple _) => some false
      | _ => none

theorem gd_wanted {arr : Array Oper} {o : Oper} {T : Tm} {nt : Nat} {a : Act} {b : Bool} (h : Kn nt T a) (hg : gd arr o T = some b) :
    Region.wanted o (yielded arr a.tmps) = b := by
  unfold gd at hg
  unfold Region.wanted
  cases ho : o.guard with
  | none => rw [ho] at hg; exact Option.some.inj hg
  | some p =>
    obtain ⟨j, want⟩ := p
    rw [ho] at hg
    simp only at hg ⊢
    cases hd : (arr[j]?).bind (·.dst) with
    | none => rw [hd] at hg; cases hg
    | some d =>
      rw [hd] at hg
      simp only at hg
      cases hT : T d with
      | none => rw [hT] at hg; cases hg
      | some v =>
        rw [hT] at hg
        cases v with
        | bool x =>
          have := (h.2.2 d _ hT).2
          simp only [Option.some.injEq] at hg
          unfold yielded
          rw [hd]
          simp [this, ← hg]
        | tuple x =>
          have := (h.2.2 d _ hT).2
          simp only [Option.some.injEq] at hg
          unfold yielded
          rw [hd]
          simp [this, ← hg]
        | _ => cases hg

def PureOp (P : Program) (o : Oper) (T : Tm) (v : Value) : Prop := ∀ ρ, Agree T o ρ → ∀ w, (execOp ρ o).run P w = .ok (.value v) w
def LoadOp (P : Program) (o : Oper) (m : Mem) (T : Tm) (L : List Chunk) (v : Value) : Prop :=
  ∀ ρ, Agree T o ρ → ∀ w, SatH m L w → (execOp ρ o).run P w = .ok (.value v) w
/-- What is new: nothing that was there has turned. -/
def AllocOp (P : Program) (o : Oper) (T : Tm) (R : Value → Chunk → Prop) : Prop :=
  ∀ ρ, Agree T o ρ → ∀ w, ∃ v c w', (execOp ρ o).run P w = .ok (.value v) w' ∧ R v c ∧ c.holds w' ∧ Fr w (fun _ => False) w' ∧ ∀ k, c.has k → w.heap.size ≤ k
def WOp (P : Program) (o : Oper) (m : Mem) (T : Tm) (L : List Chunk) (R : Value → List Chunk → Prop) : Prop :=
  ∀ ρ, Agree T o ρ → ∀ w, SatH m L w → ∃ n v L' w', (execOp ρ o).run P w = .ok n w' ∧ (n = .value v ∨ n = .skip ∧ v = undef) ∧ R v L' ∧
    SatH m L' w' ∧ Fr w (hasAny L) w' ∧ ∀ k, hasAny L' k → hasAny L k ∨ w.heap.size ≤ k
def CallOp (P : Program) (o : Oper) (T : Tm) (f : FuncId) (args : List Value) : Prop :=
  ∀ ρ, Agree T o ρ → ∀ w, (execOp ρ o).run P w = .ok (.enter f args.toArray) w

theorem SatH.mem_lt {m : Mem} {L : List Chunk} {w : World} (h : SatH m L w) {a : Addr} {u : Value} (ha : m a u) : a.block < w.heap.size := by
  have := h.mem a u ha
  unfold World.cell? at this
  cases hb : w.heap[a.block]? with
  | none => rw [hb] at this; cases this
  | some o => exact (Array.getElem?_eq_some_iff.1 hb).1

theorem cell_same {w w' : World} {a : Addr} (h : w'.heap[a.block]? = w.heap[a.block]?) : w'.cell? a = w.cell? a := by
  unfold World.cell?; rw [h]

theorem SatH.cons {m : Mem} {L : List Chunk} {c : Chunk} {w w' : World} (h : SatH m L w) (hc : c.holds w') (hf : Fr w (fun _ => False) w')
    (hn : ∀ k, c.has k → w.heap.size ≤ k) : SatH m (c :: L) w' := by
  refine ⟨fun a u ha => ?_, fun d hd => ?_, List.pairwise_cons.2 ⟨fun d hd k hk hk' => ?_, h.apart⟩, fun d hd a u ha hk => ?_⟩
  · rw [cell_same (hf.block _ (h.mem_lt ha) (fun e => e))]; exact h.mem a u ha
  · rcases List.mem_cons.1 hd with rfl | hd
    · exact hc
    · exact Chunk.holds_same (h.chunks d hd) fun k hk => hf.block k (Chunk.holds_lt (h.chunks d hd) hk) (fun e => e)
  · exact absurd (Chunk.holds_lt (h.chunks d hd) hk') (Nat.not_lt.2 (hn k hk))
  · rcases List.mem_cons.1 hd with rfl | hd
    · exact absurd (h.mem_lt ha) (Nat.not_lt.2 (hn _ hk))
    · exact h.off d hd a u ha hk

/-! ### Lists of operations -/
def OpsW (G : Ctx) (P : Program) (arr : Array Oper) (Q : Post) (os : List Oper) (m : Mem) (T : Tm) (L : List Chunk) : Prop :=
  ∀ a w, Sat G m T L a w → wpList P arr (Lift G Q) os a w

section
variable {G : Ctx} {P : Program} {arr : Array Oper} {Q : Post} {m : Mem} {T : Tm} {L : List Chunk} {os : List Oper} {o : Oper}

theorem OpsW.nil (h : Q .normal m T L) : OpsW G P arr Q [] m T L := fun _ _ s => ⟨m, T, L, h, s⟩

theorem AWp.region {id : Nat} {l : List Oper} (h : OpsW G P l.toArray Q l m T L) : AWp G P (.region id l.toArray false) Q m T L :=
  fun a w s => wp_region_lit (h a w s)

theorem OpsW.step_of {a : Act} {w : World} (s : Sat G m T L a w) (hg : gd arr o T = some true)
    (h : o.wp P a w (wpList P arr (Lift G Q) os) (Lift G Q)) : wpList P arr (Lift G Q) (o :: os) a w := by
  unfold wpList
  rw [gd_wanted s.kn hg, if_pos rfl]
  exact .inl h

theorem OpsW.skipG (hg : gd arr o T = some false) (hd : dstOk G.nt o.dst = true) (h : OpsW G P arr Q os m (putO T o.dst undef) L) : OpsW G P arr Q (o :: os) m T L := by
  intro a w s
  unfold wpList
  rw [gd_wanted s.kn hg, if_neg (by simp)]
  exact h _ _ ⟨s.kn.putO hd undef, s.heap, s.fr, s.own, s.ext, s.new⟩

theorem Sat.step {a : Act} {w w' : World} {L' : List Chunk} {d : Option Tmp} {v : Value} (s : Sat G m T L a w) (hd : dstOk G.nt d = true) (hh : SatH m L' w')
    (hf : Fr w (hasAny L) w') (hn : ∀ k, hasAny L' k → hasAny L k ∨ w.heap.size ≤ k) : Sat G m (putO T d v) L' (a.put d v) w' := by
  refine ⟨s.kn.putO hd v, hh, s.fr.trans hf (fun x hx hL => (s.own x hL).resolve_right (Nat.not_le.2 hx)), fun k hk => ?_, s.ext, s.new⟩
  rcases hn k hk with h | h
  · exact s.own k h
  · exact .inr (Nat.le_trans s.fr.size h)

theorem OpsW.w {R : Value → List Chunk → Prop} (hg : gd arr o T = some true) (hd : dstOk G.nt o.dst = true) (h : WOp P o m T L R)
    (k : ∀ v L', R v L' → OpsW G P arr Q os m (putO T o.dst v) L') : OpsW G P arr Q (o :: os) m T L := by
  intro a w s
  refine OpsW.step_of s hg ?_
  obtain ⟨n, v, L', w', hr, hn, hR, hh, hf, ho⟩ := h a.eval (s.kn.agree o) w s.heap
  unfold Oper.wp
  rw [hr]
  rcases hn with rfl | ⟨rfl, rfl⟩
  · exact k v L' hR _ _ (s.step hd hh hf ho)
  · exact k _ L' hR _ _ (s.step hd hh hf ho)

theorem OpsW.pure {v : Value} (hg : gd arr o T = some true) (hd : dstOk G.nt o.dst = true) (h : PureOp P o T v)
    (k : OpsW G P arr Q os m (putO T o.dst v) L) : OpsW G P arr Q (o :: os) m T L := by
  intro a w s
  refine OpsW.step_of s hg ?_
  unfold Oper.wp
  rw [h a.eval (s.kn.agree o) w]
  exact k _ _ ⟨s.kn.putO hd v, s.heap, s.fr, s.own, s.ext, s.new⟩

theorem OpsW.load {v : Value} (hg : gd arr o T = some true) (hd : dstOk G.nt o.dst = true) (h : LoadOp P o m T L v)
    (k : OpsW G P arr Q os m (putO T o.dst v) L) : OpsW G P arr Q (o :: os) m T L := by
  intro a w s
  refine OpsW.step_of s hg ?_
  unfold Oper.wp
  rw [h a.eval (s.kn.agree o) w s.heap]
  exact k _ _ ⟨s.kn.putO hd v, s.heap, s.fr, s.own, s.ext, s.new⟩

theorem AllocOp.toW {R : Value → Chunk → Prop} (h : AllocOp P o T R) : WOp P o m T L (fun v L' => ∃ c, R v c ∧ L' = c :: L) := by
  intro ρ hρ w hs
  obtain ⟨v, c, w', hr, hR, hc, hf, hn⟩ := h ρ hρ w
  refine ⟨_, v, c :: L, w', hr, .inl rfl, ⟨c, hR, rfl⟩, hs.cons hc hf hn, ?_, ?_⟩
  · exact ⟨hf.os, hf.tape, hf.output, hf.size, fun k hk _ => hf.block k hk (fun e => e)⟩
  · rintro k ⟨d, hd, hk⟩
    rcases List.mem_cons.1 hd with rfl | hd
    · exact .inr (hn k hk)
    · exact .inl ⟨d, hd, hk⟩

theorem OpsW.alloc {R : Value → Chunk → Prop} (hg : gd arr o T = some true) (hd : dstOk G.nt o.dst = true) (h : AllocOp P o T R)
    (k : ∀ v c, R v c → OpsW G P arr Q os m (putO T o.dst v) (c :: L)) : OpsW G P arr Q (o :: os) m T L :=
  .w hg hd h.toW fun v L' ⟨c, hR, e⟩ => by subst e; exact k v c hR

/-- A truth that a slot holds, told apart. -/
theorem OpsW.split {d : Nat} {b : Bool} (hT : T d = some (.bool b)) (ht : b = true → OpsW G P arr Q os m (put T d (.bool true)) L)
    (hf : b = false → OpsW G P arr Q os m (put T d (.bool false)) L) : OpsW G P arr Q os m T L := by
  have key : ∀ a w, Sat G m T L a w → Sat G m (put T d (.bool b)) L a w := fun a w s => s.weaken (by
    intro i v hi
    unfold put at hi
    cases hb : Nat.beq i d with
    | true => rw [hb] at hi; have := Nat.eq_of_beq_eq_true hb; subst this; rw [hT]; exact hi
    | false => rw [hb] at hi; exact hi)
  intro a w s
  cases b with
  | true => exact ht rfl a w (key a w s)
  | false => exact hf rfl a w (key a w s)

theorem OpsW.splitP {d : Nat} {p : Prop} [Decidable p] (hT : T d = some (.bool (decide p))) (ht : p → OpsW G P arr Q os m (put T d (.bool true)) L)
    (hf : ¬ p → OpsW G P arr Q os m (put T d (.bool false)) L) : OpsW G P arr Q os m T L :=
  .split hT (fun e => ht (of_decide_eq_true e)) (fun e => hf (of_decide_eq_false e))

theorem OpsW.perm {L' : List Chunk} (h : OpsW G P arr Q os m T L') (p : L.Perm L') : OpsW G P arr Q os m T L := fun a w s => h a w (s.perm p)
theorem OpsW.forget {T' : Tm} (h : OpsW G P arr Q os m T' L) (hT : ∀ i v, T' i = some v → T i = some v) : OpsW G P arr Q os m T L :=
  fun a w s => h a w (s.weaken hT)
end

/-! ### Functions -/
def CtrE (P : Program) (f : FuncId) (args : List Value) (m : Mem) (Rw : List Chunk) (Po : Ending → Mem → List Chunk → Prop) : Prop :=
  ∀ w, SatH m Rw w → Calls P f args.toArray w fun e w' => ∃ m' L', Po e m' L' ∧ (∀ a u, m a u → m' a u) ∧ SatH m' L' w' ∧ Fr w (hasAny Rw) w' ∧
    (∀ k, hasAny L' k → hasAny Rw k ∨ w.heap.size ≤ k) ∧ (∀ a u, m' a u → m a u ∨ hasAny Rw a.block ∨ w.heap.size ≤ a.block)

def retE (Po : Mem → Value → List Chunk → Prop) : Ending → Mem → List Chunk → Prop
  | .returned r, m, L => Po m r L
  | _, _, _ => False

/-- The contract of a function: from memory that it may read and chunks that it may write it comes to an answer, and chunks. -/
def Ctr (P : Program) (f : FuncId) (args : List Value) (m : Mem) (Rw : List Chunk) (Po : Mem → Value → List Chunk → Prop) : Prop :=
  CtrE P f args m Rw (retE Po)

theorem CtrE.mono {P : Program} {f : FuncId} {args : List Value} {m : Mem} {Rw : List Chunk} {Po Po' : Ending → Mem → List Chunk → Prop}
    (h : CtrE P f args m Rw Po) (hp : ∀ e m L, Po e m L → Po' e m L) : CtrE P f args m Rw Po' :=
  fun w s => Calls.mono (h w s) fun _ _ ⟨m', L', hP, rest⟩ => ⟨m', L', hp _ _ _ hP, rest⟩

theorem Ctr.mono {P : Program} {f : FuncId} {args : List Value} {m : Mem} {Rw : List Chunk} {Po Po' : Mem → Value → List Chunk → Prop}
    (h : Ctr P f args m Rw Po) (hp : ∀ m r L, Po m r L → Po' m r L) : Ctr P f args m Rw Po' :=
  CtrE.mono h fun e m L hP => by cases e <;> first | exact hp _ _ _ hP | exact hP

def ResultsOk (P : Program) (fn : Func) (nt : Nat) (m : Mem) (T : Tm) (L : List Chunk) (r : Value) : Prop :=
  ∀ a w, Kn nt T a → SatH m L w → (results fn a.tmps).run P w = .ok r w

/-- At a return: the results, and the chunks that are handed on. -/
@[reducible] def retQ (P : Program) (fn : Func) (nt : Nat) (Po : Mem → Value → List Chunk → Prop) : Post
  | .normal, m, T, L | .ret, m, T, L => ∃ r L' F, L.Perm (L' ++ F) ∧ ResultsOk P fn nt m T L r ∧ Po m r L'
  | _, _, _, _ => False

def argsTm (args : List Value) : Tm := fun i => args[i]?

theorem Ctr.intro {P : Program} {f : FuncId} {fn : Func} {c : Code} {args : List Value} {m : Mem} {Rw : List Chunk} {nt : Nat} {Po : Mem → Value → List Chunk → Prop}
    (hf : P.funcs[f]? = some fn) (hb : fn.body = some c) (hnt : fn.ntmps = nt) (ha : args.length ≤ nt)
    (h : ∀ w0, AWp ⟨nt, w0, hasAny Rw, m⟩ P c (retQ P fn nt Po) m (argsTm args) Rw) : Ctr P f args m Rw Po := by
  intro w s
  refine calls_of_wp hf hb ?_
  have hs : Sat ⟨nt, w, hasAny Rw, m⟩ m (argsTm args) Rw { tmps := args.toArray ++ Array.replicate (fn.ntmps - args.toArray.size) undef, defers := [] } w := by
    refine ⟨⟨rfl, ?_, fun i v hi => ?_⟩, s, Fr.refl _ _, fun k hk => .inl hk, fun _ _ h => h, fun _ _ h => .inl h⟩
    · simp [hnt]; omega
    · have hi' : i < args.length := (List.getElem?_eq_some_iff.1 hi).1
      refine ⟨Nat.lt_of_lt_of_le hi' ha, ?_⟩
      rw [Array.getElem?_append_left (by simpa using hi')]
      simpa [argsTm] using hi
  refine wp_mono (h w _ _ hs) ?_
  rintro e a w' ⟨m', T', L', q, s'⟩
  have fin : (∃ r L'' F, L'.Perm (L'' ++ F) ∧ ResultsOk P fn nt m' T' L' r ∧ Po m' r L'') → a.defers = [] ∧ ∃ v, (results fn a.tmps).run P w' = .ok v w' ∧
      ∃ m' L', retE Po (.returned v) m' L' ∧ (∀ a u, m a u → m' a u) ∧ SatH m' L' w' ∧ Fr w (hasAny Rw) w' ∧
      (∀ k, hasAny L' k → hasAny Rw k ∨ w.heap.size ≤ k) ∧ (∀ a u, m' a u → m a u ∨ hasAny Rw a.block ∨ w.heap.size ≤ a.block) := by
    rintro ⟨r, L'', F, hp, hr, hP⟩
    have s2 := s'.perm hp
    exact ⟨s'.kn.1, r, hr a w' s'.kn s'.heap, m', L'', hP, s'.ext, s2.heap.drop, s'.fr, s2.less.own, s'.new⟩
  cases e with
  | normal => exact fin q
  | ret => exact fin q
  | _ => exact q.elim

section
variable {G : Ctx} {P : Program} {arr : Array Oper} {Q : Post} {m : Mem} {T : Tm} {L : List Chunk} {os : List Oper} {o : Oper}

theorem SatH.frame {m : Mem} {Rw F : List Chunk} {w : World} (h : SatH m (Rw ++ F) w) : SatH (memOf m F) Rw w := by
  obtain ⟨hR, hF, hx⟩ := List.pairwise_append.1 h.apart
  refine ⟨fun a u ha => ?_, fun c hc => h.chunks c (List.mem_append_left _ hc), hR, fun c hc a u ha hk => ?_⟩
  · rcases ha with ha | ⟨d, hd, ha⟩
    · exact h.mem a u ha
    · exact Chunk.holds_at (h.chunks d (List.mem_append_right _ hd)) ha
  · rcases ha with ha | ⟨d, hd, ha⟩
    · exact h.off c (List.mem_append_left _ hc) a u ha hk
    · exact hx c hc d hd _ hk (Chunk.at_has ha)

theorem Sat.callA {a : Act} {w w' : World} {Rw F L' : List Chunk} {m' : Mem} {d : Option Tmp} {r : Value} (s : Sat G m T (Rw ++ F) a w) (hd : dstOk G.nt d = true)
    (hm : ∀ a u, memOf m F a u → m' a u) (hh : SatH m' L' w') (hf : Fr w (hasAny Rw) w') (hn : ∀ k, hasAny L' k → hasAny Rw k ∨ w.heap.size ≤ k) :
    Sat G m (Sep.putO T d r) (L' ++ F) (a.put d r) w' := by
  obtain ⟨hR, hF, hx⟩ := List.pairwise_append.1 s.heap.apart
  have hF' : ∀ c, c ∈ F → ∀ k, c.has k → k < w.heap.size ∧ ¬ hasAny Rw k := fun c hc k hk =>
    ⟨Chunk.holds_lt (s.heap.chunks c (List.mem_append_right _ hc)) hk, fun ⟨d, hd, hk'⟩ => hx d hd c hc k hk' hk⟩
  refine ⟨s.kn.putO hd r, ⟨fun x u hxm => hh.mem x u (hm x u (.inl hxm)), fun c hc => ?_, ?_, fun c hc x u hxm hk => ?_⟩, ?_, ?_, s.ext, s.new⟩
  · rcases List.mem_append.1 hc with hc | hc
    · exact hh.chunks c hc
    · exact Chunk.holds_same (s.heap.chunks c (List.mem_append_right _ hc)) fun k hk => hf.block k (hF' c hc k hk).1 (hF' c hc k hk).2
  · refine List.pairwise_append.2 ⟨hh.apart, hF, fun c hc e he k hk hk' => ?_⟩
    rcases hn k ⟨c, hc, hk⟩ with h | h
    · exact (hF' e he k hk').2 h
    · exact absurd (hF' e he k hk').1 (Nat.not_lt.2 h)
  · rcases List.mem_append.1 hc with hc | hc
    · exact hh.off c hc x u (hm x u (.inl hxm)) hk
    · exact s.heap.off c (List.mem_append_right _ hc) x u hxm hk
  · exact s.fr.trans hf (fun x hx ⟨c, hc, hk⟩ => (s.own x ⟨c, List.mem_append_left _ hc, hk⟩).resolve_right (Nat.not_le.2 hx))
  · rintro k ⟨c, hc, hk⟩
    rcases List.mem_append.1 hc with hc | hc
    · rcases hn k ⟨c, hc, hk⟩ with ⟨e, he, hk'⟩ | h
      · exact s.own k ⟨e, List.mem_append_left _ he, hk'⟩
      · exact .inr (Nat.le_trans s.fr.size h)
    · exact s.own k ⟨c, List.mem_append_right _ hc, hk⟩

theorem Sat.callB {a : Act} {w w' : World} {Rw F L' : List Chunk} {m' : Mem} {d : Option Tmp} {r : Value} (s : Sat G m T (Rw ++ F) a w) (hd : dstOk G.nt d = true)
    (hm : ∀ a u, m a u → m' a u) (hh : SatH m' L' w') (hf : Fr w (hasAny Rw) w') (hn : ∀ k, hasAny L' k → hasAny Rw k ∨ w.heap.size ≤ k)
    (hnew : ∀ a u, m' a u → m a u ∨ hasAny Rw a.block ∨ w.heap.size ≤ a.block) : Sat G m' (Sep.putO T d r) (L' ++ F) (a.put d r) w' := by
  obtain ⟨hR, hF, hx⟩ := List.pairwise_append.1 s.heap.apart
  have hF' : ∀ c, c ∈ F → ∀ k, c.has k → k < w.heap.size ∧ ¬ hasAny Rw k := fun c hc k hk =>
    ⟨Chunk.holds_lt (s.heap.chunks c (List.mem_append_right _ hc)) hk, fun ⟨d, hd, hk'⟩ => hx d hd c hc k hk' hk⟩
  refine ⟨s.kn.putO hd r, ⟨hh.mem, fun c hc => ?_, ?_, fun c hc x u hxm hk => ?_⟩, ?_, ?_, fun x u h => hm x u (s.ext x u h), fun x u h => ?_⟩
  · rcases List.mem_append.1 hc with hc | hc
    · exact hh.chunks c hc
    · exact Chunk.holds_same (s.heap.chunks c (List.mem_append_right _ hc)) fun k hk => hf.block k (hF' c hc k hk).1 (hF' c hc k hk).2
  · refine List.pairwise_append.2 ⟨hh.apart, hF, fun c hc e he k hk hk' => ?_⟩
    rcases hn k ⟨c, hc, hk⟩ with h | h
    · exact (hF' e he k hk').2 h
    · exact absurd (hF' e he k hk').1 (Nat.not_lt.2 h)
  · rcases List.mem_append.1 hc with hc | hc
    · exact hh.off c hc x u hxm hk
    · rcases hnew x u hxm with h | h | h
      · exact s.heap.off c (List.mem_append_right _ hc) x u h hk
      · exact (hF' c hc _ hk).2 h
      · exact absurd (hF' c hc _ hk).1 (Nat.not_lt.2 h)
  · exact s.fr.trans hf (fun x hx ⟨c, hc, hk⟩ => (s.own x ⟨c, List.mem_append_left _ hc, hk⟩).resolve_right (Nat.not_le.2 hx))
  · rintro k ⟨c, hc, hk⟩
    rcases List.mem_append.1 hc with hc | hc
    · rcases hn k ⟨c, hc, hk⟩ with ⟨e, he, hk'⟩ | h
      · exact s.own k ⟨e, List.mem_append_left _ he, hk'⟩
      · exact .inr (Nat.le_trans s.fr.size h)
    · exact s.own k ⟨c, List.mem_append_right _ hc, hk⟩
  · rcases hnew x u h with h | ⟨c, hc, hk⟩ | h
    · exact s.new x u h
    · exact .inr (s.own _ ⟨c, List.mem_append_left _ hc, hk⟩)
    · exact .inr (.inr (Nat.le_trans s.fr.size h))

/-- A call that may read all that the caller has: its answer hangs on no memory that it made to stay. -/
theorem OpsW.callA {f : FuncId} {args : List Value} {Rw F : List Chunk} {R : Value → List Chunk → Prop} (hg : gd arr o T = some true) (hd : dstOk G.nt o.dst = true)
    (h : CallOp P o T f args) (hp : L.Perm (Rw ++ F)) (hC : Ctr P f args (memOf m F) Rw (fun _ r L' => R r L'))
    (k : ∀ r L', R r L' → OpsW G P arr Q os m (putO T o.dst r) (L' ++ F)) : OpsW G P arr Q (o :: os) m T L := by
  intro a w s
  refine OpsW.step_of s hg ?_
  unfold Oper.wp
  rw [h a.eval (s.kn.agree o) w]
  have s2 := s.perm hp
  refine Calls.mono (hC w s2.heap.frame) ?_
  rintro e w' ⟨m', L', hP, hm, hh, hf, hn, _⟩
  cases e with
  | returned r => exact k r L' hP _ _ (s2.callA hd hm hh hf hn)
  | _ => exact hP.elim

theorem OpsW.callB {f : FuncId} {args : List Value} {Rw F : List Chunk} {Po : Mem → Value → List Chunk → Prop} (hg : gd arr o T = some true) (hd : dstOk G.nt o.dst = true)
    (h : CallOp P o T f args) (hp : L.Perm (Rw ++ F)) (hC : Ctr P f args m Rw Po)
    (k : ∀ m' r L', (∀ a u, m a u → m' a u) → Po m' r L' → OpsW G P arr Q os m' (putO T o.dst r) (L' ++ F)) : OpsW G P arr Q (o :: os) m T L := by
  intro a w s
  refine OpsW.step_of s hg ?_
  unfold Oper.wp
  rw [h a.eval (s.kn.agree o) w]
  have s2 := s.perm hp
  refine Calls.mono (hC w s2.heap.drop) ?_
  rintro e w' ⟨m', L', hP, hm, hh, hf, hn, hnew⟩
  cases e with
  | returned r => exact k m' r L' hm hP _ _ (s2.callB hd hm hh hf hn hnew)
  | _ => exact hP.elim

/-- A chunk that is not written any more: it stays. -/
theorem Sat.freeze {a : Act} {w : World} {c : Chunk} (s : Sat G m T (c :: L) a w) : Sat G (fun x u => m x u ∨ c.at x u) T L a w := by
  obtain ⟨hx, hL⟩ := List.pairwise_cons.1 s.heap.apart
  refine ⟨s.kn, ⟨fun x u h => ?_, fun d hd => s.heap.chunks d (List.mem_cons_of_mem _ hd), hL, fun d hd x u h hk => ?_⟩, s.fr, fun k ⟨d, hd, hk⟩ => s.own k ⟨d, List.mem_cons_of_mem _ hd, hk⟩, fun x u h => .inl (s.ext x u h), fun x u h => ?_⟩
  · rcases h with h | h
    · exact s.heap.mem x u h
    · exact Chunk.holds_at (s.heap.chunks c (List.mem_cons_self ..)) h
  · rcases h with h | h
    · exact s.heap.off d (List.mem_cons_of_mem _ hd) x u h hk
    · exact hx d hd _ (Chunk.at_has h) hk
  · rcases h with h | h
    · exact s.new x u h
    · exact .inr (s.own _ ⟨c, List.mem_cons_self .., Chunk.at_has h⟩)

theorem OpsW.freeze {c : Chunk} (h : ∀ m', (∀ a u, m a u → m' a u) → (∀ a u, c.at a u → m' a u) → OpsW G P arr Q os m' T L) : OpsW G P arr Q os m T (c :: L) :=
  fun a w s => h _ (fun _ _ h => .inl h) (fun _ _ h => .inr h) a w s.freeze
theorem AWp.freeze {c : Chunk} {y : Code} (h : ∀ m', (∀ a u, m a u → m' a u) → (∀ a u, c.at a u → m' a u) → AWp G P y Q m' T L) : AWp G P y Q m T (c :: L) :=
  fun a w s => h _ (fun _ _ h => .inl h) (fun _ _ h => .inr h) a w s.freeze

/-- Chunks in another spelling. -/
theorem OpsW.chunks {L' : List Chunk} (h : OpsW G P arr Q os m T L') (e : ∀ w, SatH m L w → SatH m L' w) (hs : ∀ k, hasAny L' k → hasAny L k) : OpsW G P arr Q os m T L :=
  fun a w s => h a w ⟨s.kn, e w s.heap, s.fr, fun k hk => s.own k (hs k hk), s.ext, s.new⟩
end

end Go.Proofs.Ytpnipajadjeifaa.Sep
