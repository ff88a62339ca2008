/- A region that draws its order: one order is walked, all others come to the same. -/
import Derived.Test.YtpnipajadjeifaaSepH
namespace Go.Proofs.Ytpnipajadjeifaa.Sep
open Go Go.RowKit
set_option linter.unusedVariables false
set_option linter.unusedSimpArgs false

/-- Is a chunk a slice's? -/
def Chunk.isSl : Chunk → Bool
  | .sl .. => true
  | _ => false
inductive Kind where
  | pure | ro | load | loadS | alloc | mark | call | wr | wrO
  deriving DecidableEq

/-- May the second of two operations, which no edge orders, come ahead of the first? -/
def Kind.swaps : Kind → Kind → Bool
  | .pure, _ => true
  | .ro, _ => true
  | .load, .wr => false
  | .load, .wrO => false
  | .load, _ => true
  | .loadS, .wr => false
  | .loadS, _ => true
  | .mark, .wr => false
  | .mark, .wrO => false
  | .mark, _ => true
  | .alloc, .alloc | .alloc, .mark | .call, .alloc | .call, .mark | .wr, .alloc | .wrO, .alloc => true
  | _, _ => false

abbrev Out := Tm → List Chunk → Prop

/-- What a making operation makes, told by its operands alone. -/
def allocSpec (P : Program) (o : Oper) (T : Tm) (v : Value) (c : Chunk) : Prop :=
  match o.op with
  | .alloc t => ∃ b zs, ZeroT P t zs ∧ v = .pointer (some ⟨b, 0, none⟩) ∧ c = .obj b zs
  | .box _ x => ∃ b u, ev T x = some u ∧ v = .pointer (some ⟨b, 0, none⟩) ∧ c = .obj b u.cells.toList
  | .buildSlice t _ parts => ∃ vs e sz bytes z, evParts T 0 parts.toList = some vs ∧ SlT P t e sz bytes z ∧ slOk v sz (vs.flatMap (·.cells.toList)) ∧ v ≠ .slice none 0 0 ∧
      c = .sl v sz (vs.flatMap (·.cells.toList))
  | _ => False

/-- What an operation of a kind may come to. -/
inductive OpStep (P : Program) (arr : Array Oper) (nt : Nat) (o : Oper) (m : Mem) (T : Tm) (L : List Chunk) : Kind → Out → Prop where
  | skip {k : Kind} (hg : gd arr o T = some false) (hd : dstOk nt o.dst = true) : OpStep P arr nt o m T L k (fun T' L' => T' = putO T o.dst undef ∧ L' = L)
  | pure {v : Value} (hg : gd arr o T = some true) (hd : dstOk nt o.dst = true) (h : PureOp P o T v) : OpStep P arr nt o m T L .pure (fun T' L' => T' = putO T o.dst v ∧ L' = L)
  | ro {v : Value} (hg : gd arr o T = some true) (hd : dstOk nt o.dst = true) (h : LoadOp P o m T [] v) : OpStep P arr nt o m T L .ro (fun T' L' => T' = putO T o.dst v ∧ L' = L)
  | load {v : Value} (hg : gd arr o T = some true) (hd : dstOk nt o.dst = true) (h : LoadOp P o m T L v) : OpStep P arr nt o m T L .load (fun T' L' => T' = putO T o.dst v ∧ L' = L)
  | alloc {R : Value → Chunk → Prop} (hg : gd arr o T = some true) (hd : dstOk nt o.dst = true) (h : AllocOp P o T (allocSpec P o T)) (hR : ∀ v c, allocSpec P o T v c → R v c) :
      OpStep P arr nt o m T L .alloc (fun T' L' => ∃ v c, R v c ∧ T' = putO T o.dst v ∧ L' = c :: L)
  | mark {t e : TypeId} {x : Operand} {v : Value} {sz : Nat} {cs : List Value} (hg : gd arr o T = some true) (hd : dstOk nt o.dst = true) (ho : o.op = .convert t t x) (ht : P.underlying t = some (.slice e))
      (he : P.underlying e = some (.int .u8)) (hx : ev T x = some v) (hne : v ≠ .slice none 0 0) (hm : Chunk.sl v sz cs ∈ L) :
      OpStep P arr nt o m T L .mark (fun T' L' => T' = putO T o.dst v ∧ L' = L)
  | call {f : FuncId} {args : List Value} {R : Value → List Chunk → Prop} (hg : gd arr o T = some true) (hd : dstOk nt o.dst = true) (h : CallOp P o T f args)
      (hC : Ctr P f args (memOf m L) [] (fun _ r L' => R r L')) : OpStep P arr nt o m T L .call (fun T' L' => ∃ r N, R r N ∧ T' = putO T o.dst r ∧ L' = N ++ L)
  | wr {R : Value → List Chunk → Prop} (hg : gd arr o T = some true) (hd : dstOk nt o.dst = true) (h : WOp P o m T L R) :
      OpStep P arr nt o m T L .wr (fun T' L' => ∃ v, R v L' ∧ T' = putO T o.dst v)
  | callW {f : FuncId} {args : List Value} {Rw F : List Chunk} {R : Value → List Chunk → Prop} (hg : gd arr o T = some true) (hd : dstOk nt o.dst = true) (h : CallOp P o T f args) (hp : L.Perm (Rw ++ F))
      (hC : Ctr P f args (memOf m F) Rw (fun _ r L' => R r L')) : OpStep P arr nt o m T L .wr (fun T' L' => ∃ r N, R r N ∧ T' = putO T o.dst r ∧ L' = N ++ F)
  | loadS {c : Chunk} {v : Value} (hg : gd arr o T = some true) (hd : dstOk nt o.dst = true) (hc : c ∈ L) (hs : c.isSl = true) (h : LoadOp P o (memOf m [c]) T [] v) : OpStep P arr nt o m T L .loadS (fun T' L' => T' = putO T o.dst v ∧ L' = L)
  | callO {f : FuncId} {args : List Value} {Rw F : List Chunk} {R : Value → List Chunk → Prop} (hg : gd arr o T = some true) (hd : dstOk nt o.dst = true) (h : CallOp P o T f args) (hp : L.Perm (Rw ++ F)) (hs : Rw.all (fun c => !c.isSl) = true)
      (hC : Ctr P f args (memOf m F) Rw (fun _ r L' => R r L')) : OpStep P arr nt o m T L .wrO (fun T' L' => ∃ r N, R r N ∧ T' = putO T o.dst r ∧ L' = N ++ F)

/-- Is there a world of these chunks? -/
def Wit (m : Mem) (L : List Chunk) : Prop := ∃ w, SatH m L w

def chain (P : Program) (arr : Array Oper) (nt : Nat) (m : Mem) (K : Out) : List (Nat × Kind) → Out
  | [], T, L => K T L
  | (i, k) :: r, T, L => ∃ o R, arr[i]? = some o ∧ OpStep P arr nt o m T L k R ∧ ∀ T' L', R T' L' → Wit m L' → chain P arr nt m K r T' L'

/-! the slots that an operation looks at -/
def looks (arr : Array Oper) (o : Oper) (d : Nat) : Prop := d ∈ o.looksAt arr

theorem ev_put {T : Tm} {d : Option Tmp} {v : Value} {x : Operand} (h : ∀ e, d = some e → x ≠ .tmp e) : ev (putO T d v) x = ev T x := by
  cases d with
  | none => rfl
  | some e =>
    cases x with
    | tmp t =>
      have hne : t ≠ e := fun he => h e rfl (by rw [he])
      simp only [ev, putO, put]
      rw [show Nat.beq t e = false from by cases hb : Nat.beq t e with | true => exact absurd (Nat.eq_of_beq_eq_true hb) hne | false => rfl]
      rfl
    | _ => rfl

theorem agree_put {arr : Array Oper} {T : Tm} {o : Oper} {d : Option Tmp} {v : Value} (h : ∀ e, d = some e → ¬ looks arr o e) {ρ : Operand → Value} :
    Agree (putO T d v) o ρ ↔ Agree T o ρ := by
  have key : ∀ x, x ∈ o.op.operands → ev (putO T d v) x = ev T x := fun x hx => ev_put fun e he hxe => h e he (by
    subst hxe
    exact List.mem_append_left _ (List.mem_filterMap.2 ⟨.tmp e, by simpa using hx, rfl⟩))
  constructor
  · intro ha x hx u hu; exact ha x hx u (by rw [key x hx]; exact hu)
  · intro ha x hx u hu; exact ha x hx u (by rw [← key x hx]; exact hu)

theorem gd_put {arr : Array Oper} {T : Tm} {o : Oper} {d : Option Tmp} {v : Value} (h : ∀ e, d = some e → ¬ looks arr o e) : gd arr o (putO T d v) = gd arr o T := by
  unfold gd
  cases hg : o.guard with
  | none => rfl
  | some p =>
    obtain ⟨j, b⟩ := p
    simp only
    cases hd : (arr[j]?).bind (·.dst) with
    | none => rfl
    | some t =>
      simp only
      have : putO T d v t = T t := by
        cases d with
        | none => rfl
        | some e =>
          have hne : t ≠ e := fun he => h e rfl (by subst he; simp [looks, Oper.looksAt, hg, hd])
          simp only [putO, put]
          rw [show Nat.beq t e = false from by cases hb : Nat.beq t e with | true => exact absurd (Nat.eq_of_beq_eq_true hb) hne | false => rfl]
          rfl
      rw [this]

theorem put_comm {T : Tm} {d e : Option Tmp} {u v : Value} (h : ∀ x, d = some x → e ≠ some x) : putO (putO T d u) e v = putO (putO T e v) d u := by
  cases d with
  | none => cases e <;> rfl
  | some d =>
    cases e with
    | none => rfl
    | some e =>
      have hne : d ≠ e := fun he => h d rfl (by rw [he])
      funext j
      simp only [putO, put]
      cases h1 : Nat.beq j e <;> cases h2 : Nat.beq j d <;> simp
      exact absurd ((Nat.eq_of_beq_eq_true h2).symm.trans (Nat.eq_of_beq_eq_true h1)) hne

section
variable {P : Program} {arr : Array Oper} {nt : Nat} {m : Mem} {T : Tm} {L : List Chunk} {o : Oper}

theorem PureOp.put {v u : Value} {d : Option Tmp} (h : ∀ e, d = some e → ¬ looks arr o e) : PureOp P o (putO T d u) v ↔ PureOp P o T v := by
  unfold PureOp; simp only [agree_put h]
theorem LoadOp.put {v u : Value} {d : Option Tmp} (h : ∀ e, d = some e → ¬ looks arr o e) : LoadOp P o m (putO T d u) L v ↔ LoadOp P o m T L v := by
  unfold LoadOp; simp only [agree_put h]
theorem AllocOp.put {R : Value → Chunk → Prop} {u : Value} {d : Option Tmp} (h : ∀ e, d = some e → ¬ looks arr o e) : AllocOp P o (putO T d u) R ↔ AllocOp P o T R := by
  unfold AllocOp; simp only [agree_put h]
theorem CallOp.put {f : FuncId} {args : List Value} {u : Value} {d : Option Tmp} (h : ∀ e, d = some e → ¬ looks arr o e) : CallOp P o (putO T d u) f args ↔ CallOp P o T f args := by
  unfold CallOp; simp only [agree_put h]
theorem WOp.put {R : Value → List Chunk → Prop} {u : Value} {d : Option Tmp} (h : ∀ e, d = some e → ¬ looks arr o e) : WOp P o m (putO T d u) L R ↔ WOp P o m T L R := by
  unfold WOp; simp only [agree_put h]

theorem memOf_perm {L' : List Chunk} (p : L.Perm L') : memOf m L = memOf m L' := by
  funext a u
  apply propext
  simp only [memOf, p.mem_iff]

theorem LoadOp.perm {L' : List Chunk} {v : Value} (h : LoadOp P o m T L v) (p : L.Perm L') : LoadOp P o m T L' v := fun ρ hρ w s => h ρ hρ w (s.perm p.symm)
theorem LoadOp.more {L' : List Chunk} {v : Value} (h : LoadOp P o m T L v) : LoadOp P o m T (L' ++ L) v :=
  fun ρ hρ w s => h ρ hρ w (SatH.drop (F := L') (s.perm List.perm_append_comm))

theorem evParts_congr {T T' : Tm} : ∀ (ps : List (Nat × Operand)) (i : Nat), (∀ p, p ∈ ps → ev T p.2 = ev T' p.2) → evParts T i ps = evParts T' i ps
  | [], _, _ => rfl
  | (j, x) :: r, i, h => by
    simp only [evParts]
    rw [h (j, x) (List.mem_cons_self ..), evParts_congr r (i + 1) (fun p hp => h p (List.mem_cons_of_mem _ hp))]

theorem allocSpec_put {d : Option Tmp} {u : Value} (h : ∀ e, d = some e → ¬ looks arr o e) : allocSpec P o (putO T d u) = allocSpec P o T := by
  have key : ∀ x, x ∈ o.op.operands → ev (putO T d u) x = ev T x := fun x hx => ev_put fun e he hxe => h e he (by
    subst hxe
    exact List.mem_append_left _ (List.mem_filterMap.2 ⟨.tmp e, by simpa using hx, rfl⟩))
  funext v c
  unfold allocSpec
  obtain ⟨dst, op, type, pos, after, guard⟩ := o
  cases op with
  | box t x => simp only; rw [key x (by simp [Op.operands])]
  | buildSlice t n parts =>
    simp only
    rw [evParts_congr parts.toList 0 fun p hp => key p.2 (by simp only [Op.operands]; exact List.mem_toArray.2 (List.mem_map.2 ⟨p, hp, rfl⟩))]
  | _ => rfl

theorem OpStep.perm {k : Kind} {R : Out} {L' : List Chunk} (h : OpStep P arr nt o m T L k R) (p : L.Perm L') :
    ∃ R', OpStep P arr nt o m T L' k R' ∧ ∀ T1 L1, R' T1 L1 → ∃ L2, R T1 L2 ∧ L2.Perm L1 := by
  cases h with
  | skip hg hd => exact ⟨_, .skip hg hd, fun T1 L1 ⟨h1, h2⟩ => ⟨L, ⟨h1, rfl⟩, h2 ▸ p⟩⟩
  | pure hg hd h => exact ⟨_, .pure hg hd h, fun T1 L1 ⟨h1, h2⟩ => ⟨L, ⟨h1, rfl⟩, h2 ▸ p⟩⟩
  | ro hg hd h => exact ⟨_, .ro hg hd h, fun T1 L1 ⟨h1, h2⟩ => ⟨L, ⟨h1, rfl⟩, h2 ▸ p⟩⟩
  | load hg hd h => exact ⟨_, .load hg hd (h.perm p), fun T1 L1 ⟨h1, h2⟩ => ⟨L, ⟨h1, rfl⟩, h2 ▸ p⟩⟩
  | alloc hg hd h hR => exact ⟨_, .alloc hg hd h hR, fun T1 L1 ⟨v, c, hR, h1, h2⟩ => ⟨c :: L, ⟨v, c, hR, h1, rfl⟩, h2 ▸ p.cons c⟩⟩
  | mark hg hd ho ht he hx hne hm => exact ⟨_, .mark hg hd ho ht he hx hne (p.mem_iff.1 hm), fun T1 L1 ⟨h1, h2⟩ => ⟨L, ⟨h1, rfl⟩, h2 ▸ p⟩⟩
  | call hg hd h hC => exact ⟨_, .call hg hd h (by rw [← memOf_perm p]; exact hC), fun T1 L1 ⟨r, N, hR, h1, h2⟩ => ⟨N ++ L, ⟨r, N, hR, h1, rfl⟩, h2 ▸ p.append_left N⟩⟩
  | @wr R hg hd h =>
    refine ⟨_, .wr hg hd (R := R) (fun ρ hρ w s => ?_), fun T1 L1 ⟨v, hR, h1⟩ => ⟨L1, ⟨v, hR, h1⟩, .refl _⟩⟩
    obtain ⟨n, v, L', w', hr, hn, hR, hh, hf, ho⟩ := h ρ hρ w (s.perm p.symm)
    have hiff : ∀ k, hasAny L k ↔ hasAny _ k := fun k => ⟨fun ⟨c, hc, hk⟩ => ⟨c, p.mem_iff.1 hc, hk⟩, fun ⟨c, hc, hk⟩ => ⟨c, p.mem_iff.2 hc, hk⟩⟩
    exact ⟨n, v, L', w', hr, hn, hR, hh, ⟨hf.os, hf.tape, hf.output, hf.size, fun k hk hne => hf.block k hk fun h => hne ((hiff k).1 h)⟩, fun k hk => (ho k hk).imp (hiff k).1 id⟩
  | callW hg hd h hp hC => exact ⟨_, .callW hg hd h (p.symm.trans hp) hC, fun T1 L1 h => ⟨L1, h, .refl _⟩⟩
  | loadS hg hd hc hs h => exact ⟨_, .loadS hg hd (p.mem_iff.1 hc) hs h, fun T1 L1 ⟨h1, h2⟩ => ⟨L, ⟨h1, rfl⟩, h2 ▸ p⟩⟩
  | callO hg hd h hp hs hC => exact ⟨_, .callO hg hd h (p.symm.trans hp) hs hC, fun T1 L1 h => ⟨L1, h, .refl _⟩⟩

theorem Wit.perm {L' : List Chunk} (h : Wit m L) (p : L.Perm L') : Wit m L' := let ⟨w, s⟩ := h; ⟨w, s.perm p⟩
theorem Wit.tail {c : Chunk} (h : Wit m (c :: L)) : Wit m L := let ⟨w, s⟩ := h; ⟨w, SatH.drop (F := [c]) (s.perm (List.perm_append_comm (l₁ := [c])))⟩

theorem chain_perm {K : Out} (hK : ∀ T L L', L.Perm L' → K T L → K T L') : ∀ (l : List (Nat × Kind)) (T : Tm) (L L' : List Chunk), L.Perm L' → chain P arr nt m K l T L → chain P arr nt m K l T L'
  | [], T, L, L', p, h => hK T L L' p h
  | (i, k) :: r, T, L, L', p, h => by
    obtain ⟨o, R, ho, hs, hr⟩ := h
    obtain ⟨R', hs', hR⟩ := hs.perm p
    refine ⟨o, R', ho, hs', fun T1 L1 h1 hw => ?_⟩
    obtain ⟨L2, h2, p2⟩ := hR T1 L1 h1
    exact chain_perm hK r T1 L2 L1 p2 (hr T1 L2 h2 (hw.perm p2.symm))

/-- A contract that writes nothing stands beside whatever else there is. -/
theorem Ctr.more {f : FuncId} {args : List Value} {R : Value → List Chunk → Prop} {m m' : Mem} {Rw : List Chunk} (h : Ctr P f args m Rw (fun _ r L => R r L)) (hm : ∀ a u, m a u → m' a u) : Ctr P f args m' Rw (fun _ r L => R r L) := by
  intro w s
  have s0 : SatH m Rw w := ⟨fun a u ha => s.mem a u (hm a u ha), s.chunks, s.apart, fun c hc a u ha => s.off c hc a u (hm a u ha)⟩
  refine Calls.mono (h w s0) ?_
  rintro e w' ⟨m1, L1, hP, h1, hh, hf, ho, hn⟩
  have hno : ∀ a u, m' a u → ¬ hasAny Rw a.block := fun a u ha ⟨c, hc, hk⟩ => s.off c hc a u ha hk
  refine ⟨fun a u => m1 a u ∨ m' a u, L1, by cases e <;> exact hP, fun a u ha => .inr ha, ⟨fun a u ha => ?_, hh.chunks, hh.apart, fun c hc a u ha hk => ?_⟩, hf, ho, fun a u ha => ?_⟩
  · rcases ha with ha | ha
    · exact hh.mem a u ha
    · rw [cell_same (hf.block _ (s.mem_lt ha) (hno a u ha))]; exact s.mem a u ha
  · rcases ha with ha | ha
    · exact hh.off c hc a u ha hk
    · rcases ho _ ⟨c, hc, hk⟩ with h | h
      · exact hno a u ha h
      · exact absurd (s.mem_lt ha) (Nat.not_lt.2 h)
  · rcases ha with ha | ha
    · rcases hn a u ha with h | h | h
      · exact .inl (hm a u h)
      · exact .inr (.inl h)
      · exact .inr (.inr h)
    · exact .inl ha

theorem WOp.more {R : Value → List Chunk → Prop} {c : Chunk} (h : WOp P o m T L R) : WOp P o m T (c :: L) (fun v L' => ∃ L1, R v L1 ∧ L' = c :: L1) := by
  intro ρ hρ w s
  obtain ⟨hx, hL⟩ := List.pairwise_cons.1 s.apart
  have s0 : SatH m L w := ⟨s.mem, fun d hd => s.chunks d (List.mem_cons_of_mem _ hd), hL, fun d hd => s.off d (List.mem_cons_of_mem _ hd)⟩
  obtain ⟨n, v, L1, w', hr, hn, hR, hh, hf, ho⟩ := h ρ hρ w s0
  have hc : ∀ k, c.has k → k < w.heap.size ∧ ¬ hasAny L k := fun k hk => ⟨Chunk.holds_lt (s.chunks c (List.mem_cons_self ..)) hk, fun ⟨d, hd, hk'⟩ => hx d hd k hk hk'⟩
  refine ⟨n, v, c :: L1, w', hr, hn, ⟨L1, hR, rfl⟩, ⟨hh.mem, fun d hd => ?_, List.pairwise_cons.2 ⟨fun d hd k hk hk' => ?_, hh.apart⟩, fun d hd a u ha hk => ?_⟩, ?_, ?_⟩
  · rcases List.mem_cons.1 hd with rfl | hd
    · exact Chunk.holds_same (s.chunks d (List.mem_cons_self ..)) fun k hk => hf.block k (hc k hk).1 (hc k hk).2
    · exact hh.chunks d hd
  · rcases ho k ⟨d, hd, hk'⟩ with h | h
    · exact (hc k hk).2 h
    · exact absurd (hc k hk).1 (Nat.not_lt.2 h)
  · rcases List.mem_cons.1 hd with rfl | hd
    · exact s.off d (List.mem_cons_self ..) a u ha hk
    · exact hh.off d hd a u ha hk
  · exact ⟨hf.os, hf.tape, hf.output, hf.size, fun k hk hne => hf.block k hk fun ⟨d, hd, hk'⟩ => hne ⟨d, List.mem_cons_of_mem _ hd, hk'⟩⟩
  · rintro k ⟨d, hd, hk⟩
    rcases List.mem_cons.1 hd with rfl | hd
    · exact .inl ⟨d, List.mem_cons_self .., hk⟩
    · exact (ho k ⟨d, hd, hk⟩).imp (fun ⟨e, he, hk'⟩ => ⟨e, List.mem_cons_of_mem _ he, hk'⟩) id

/-- Two operations apart: neither writes what the other looks at or writes. -/
def apartO (arr : Array Oper) (x y : Oper) : Prop := (∀ d, x.dst = some d → ¬ looks arr y d) ∧ (∀ d, y.dst = some d → ¬ looks arr x d) ∧ ∀ d, x.dst = some d → y.dst ≠ some d

theorem OpStep.put {k : Kind} {R : Out} {d : Option Tmp} {u : Value} (hl : ∀ e, d = some e → ¬ looks arr o e) (hd : ∀ e, d = some e → o.dst ≠ some e) (h : OpStep P arr nt o m (putO T d u) L k R) :
    ∃ R', OpStep P arr nt o m T L k R' ∧ ∀ T1 L1, R' T1 L1 → R (putO T1 d u) L1 := by
  have hev : ∀ x, x ∈ o.op.operands → ev (putO T d u) x = ev T x := fun x hx => ev_put fun e he hxe => hl e he (by
    subst hxe
    exact List.mem_append_left _ (List.mem_filterMap.2 ⟨.tmp e, by simpa using hx, rfl⟩))
  cases h with
  | skip hg hd' => exact ⟨_, .skip (by rw [← gd_put hl]; exact hg) hd', fun T1 L1 ⟨h1, h2⟩ => ⟨by rw [h1, put_comm hd], h2⟩⟩
  | pure hg hd' h => exact ⟨_, .pure (by rw [← gd_put hl]; exact hg) hd' ((PureOp.put hl).1 h), fun T1 L1 ⟨h1, h2⟩ => ⟨by rw [h1, put_comm hd], h2⟩⟩
  | ro hg hd' h => exact ⟨_, .ro (by rw [← gd_put hl]; exact hg) hd' ((LoadOp.put hl).1 h), fun T1 L1 ⟨h1, h2⟩ => ⟨by rw [h1, put_comm hd], h2⟩⟩
  | load hg hd' h => exact ⟨_, .load (by rw [← gd_put hl]; exact hg) hd' ((LoadOp.put hl).1 h), fun T1 L1 ⟨h1, h2⟩ => ⟨by rw [h1, put_comm hd], h2⟩⟩
  | alloc hg hd' h hR => exact ⟨_, .alloc (by rw [← gd_put hl]; exact hg) hd' (by rw [allocSpec_put hl] at h; exact (AllocOp.put hl).1 h) (by rw [allocSpec_put hl] at hR; exact hR), fun T1 L1 ⟨v, c, hR, h1, h2⟩ => ⟨v, c, hR, by rw [h1, put_comm hd], h2⟩⟩
  | mark hg hd' ho ht he hx hne hm => exact ⟨_, .mark (by rw [← gd_put hl]; exact hg) hd' ho ht he (by rw [← hev _ (by rw [ho]; simp [Op.operands])]; exact hx) hne hm, fun T1 L1 ⟨h1, h2⟩ => ⟨by rw [h1, put_comm hd], h2⟩⟩
  | call hg hd' h hC => exact ⟨_, .call (by rw [← gd_put hl]; exact hg) hd' ((CallOp.put hl).1 h) hC, fun T1 L1 ⟨v, c, hR, h1, h2⟩ => ⟨v, c, hR, by rw [h1, put_comm hd], h2⟩⟩
  | wr hg hd' h => exact ⟨_, .wr (by rw [← gd_put hl]; exact hg) hd' ((WOp.put hl).1 h), fun T1 L1 ⟨v, hR, h1⟩ => ⟨v, hR, by rw [h1, put_comm hd]⟩⟩
  | callW hg hd' h hp hC => exact ⟨_, .callW (by rw [← gd_put hl]; exact hg) hd' ((CallOp.put hl).1 h) hp hC, fun T1 L1 ⟨v, c, hR, h1, h2⟩ => ⟨v, c, hR, by rw [h1, put_comm hd], h2⟩⟩
  | callO hg hd' h hp hs hC => exact ⟨_, .callO (by rw [← gd_put hl]; exact hg) hd' ((CallOp.put hl).1 h) hp hs hC, fun T1 L1 ⟨v, c, hR, h1, h2⟩ => ⟨v, c, hR, by rw [h1, put_comm hd], h2⟩⟩
  | loadS hg hd' hc hs h => exact ⟨_, .loadS (by rw [← gd_put hl]; exact hg) hd' hc hs ((LoadOp.put hl).1 h), fun T1 L1 ⟨h1, h2⟩ => ⟨by rw [h1, put_comm hd], h2⟩⟩

/-- The converse: a step stands behind what it does not look at. -/
theorem OpStep.behind {k : Kind} {R : Out} {d : Option Tmp} {u : Value} (hl : ∀ e, d = some e → ¬ looks arr o e) (hd : ∀ e, d = some e → o.dst ≠ some e) (h : OpStep P arr nt o m T L k R) :
    ∃ R', OpStep P arr nt o m (putO T d u) L k R' ∧ ∀ T1 L1, R' T1 L1 → ∃ T0, R T0 L1 ∧ T1 = putO T0 d u := by
  have hev : ∀ x, x ∈ o.op.operands → ev (putO T d u) x = ev T x := fun x hx => ev_put fun e he hxe => hl e he (by
    subst hxe
    exact List.mem_append_left _ (List.mem_filterMap.2 ⟨.tmp e, by simpa using hx, rfl⟩))
  have hc : ∀ v, putO (putO T d u) o.dst v = putO (putO T o.dst v) d u := fun v => put_comm hd
  cases h with
  | skip hg hd' => exact ⟨_, .skip (by rw [gd_put hl]; exact hg) hd', fun T1 L1 ⟨h1, h2⟩ => ⟨_, ⟨rfl, h2⟩, by rw [h1, hc]⟩⟩
  | pure hg hd' h => exact ⟨_, .pure (by rw [gd_put hl]; exact hg) hd' ((PureOp.put hl).2 h), fun T1 L1 ⟨h1, h2⟩ => ⟨_, ⟨rfl, h2⟩, by rw [h1, hc]⟩⟩
  | ro hg hd' h => exact ⟨_, .ro (by rw [gd_put hl]; exact hg) hd' ((LoadOp.put hl).2 h), fun T1 L1 ⟨h1, h2⟩ => ⟨_, ⟨rfl, h2⟩, by rw [h1, hc]⟩⟩
  | load hg hd' h => exact ⟨_, .load (by rw [gd_put hl]; exact hg) hd' ((LoadOp.put hl).2 h), fun T1 L1 ⟨h1, h2⟩ => ⟨_, ⟨rfl, h2⟩, by rw [h1, hc]⟩⟩
  | alloc hg hd' h hR => exact ⟨_, .alloc (by rw [gd_put hl]; exact hg) hd' (by rw [allocSpec_put hl]; exact (AllocOp.put hl).2 h) (by rw [allocSpec_put hl]; exact hR), fun T1 L1 ⟨v, c, hR, h1, h2⟩ => ⟨_, ⟨v, c, hR, rfl, h2⟩, by rw [h1, hc]⟩⟩
  | mark hg hd' ho ht he hx hne hm => exact ⟨_, .mark (by rw [gd_put hl]; exact hg) hd' ho ht he (by rw [hev _ (by rw [ho]; simp [Op.operands])]; exact hx) hne hm, fun T1 L1 ⟨h1, h2⟩ => ⟨_, ⟨rfl, h2⟩, by rw [h1, hc]⟩⟩
  | call hg hd' h hC => exact ⟨_, .call (by rw [gd_put hl]; exact hg) hd' ((CallOp.put hl).2 h) hC, fun T1 L1 ⟨v, c, hR, h1, h2⟩ => ⟨_, ⟨v, c, hR, rfl, h2⟩, by rw [h1, hc]⟩⟩
  | wr hg hd' h => exact ⟨_, .wr (by rw [gd_put hl]; exact hg) hd' ((WOp.put hl).2 h), fun T1 L1 ⟨v, hR, h1⟩ => ⟨_, ⟨v, hR, rfl⟩, by rw [h1, hc]⟩⟩
  | callW hg hd' h hp hC => exact ⟨_, .callW (by rw [gd_put hl]; exact hg) hd' ((CallOp.put hl).2 h) hp hC, fun T1 L1 ⟨v, c, hR, h1, h2⟩ => ⟨_, ⟨v, c, hR, rfl, h2⟩, by rw [h1, hc]⟩⟩
  | callO hg hd' h hp hs hC => exact ⟨_, .callO (by rw [gd_put hl]; exact hg) hd' ((CallOp.put hl).2 h) hp hs hC, fun T1 L1 ⟨v, c, hR, h1, h2⟩ => ⟨_, ⟨v, c, hR, rfl, h2⟩, by rw [h1, hc]⟩⟩
  | loadS hg hd' hc' hs h => exact ⟨_, .loadS (by rw [gd_put hl]; exact hg) hd' hc' hs ((LoadOp.put hl).2 h), fun T1 L1 ⟨h1, h2⟩ => ⟨_, ⟨rfl, h2⟩, by rw [h1, hc]⟩⟩
end
end Go.Proofs.Ytpnipajadjeifaa.Sep
