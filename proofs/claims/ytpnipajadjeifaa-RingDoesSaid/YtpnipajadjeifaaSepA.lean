/- Words of a small separation logic over the model's worlds: chunks of memory, what a state knows, and the rules of code. -/
import Derived.Orders
import Derived.Below
import Derived.Tactics
namespace Go.Proofs.Ytpnipajadjeifaa.Sep
open Go Go.RowKit
set_option linter.unusedVariables false
set_option linter.unusedSimpArgs false

abbrev Mem := Addr → Value → Prop
abbrev Tm := Nat → Option Value

def put (T : Tm) (i : Nat) (v : Value) : Tm := fun j => cond (Nat.beq j i) (some v) (T j)
def putO (T : Tm) (i : Option Nat) (v : Value) : Tm :=
  match i with
  | some i => put T i v
  | none => T
def tnil : Tm := fun _ => none

def ev (T : Tm) : Operand → Option Value
  | .tmp t => T t
  | .const v => some v
  | .global g => some (.pointer (some ⟨g, 0, none⟩))
  | .func f => some (.func (.func f) #[] #[])

inductive Chunk where
  | obj (b : Nat) (cs : List Value)
  | sl (v : Value) (sz : Nat) (cs : List Value)
  | mp (b : Nat) (es : List (Value × Value))
  | fz (μ : Addr → Value → Prop)

def okFr (c : Array Value) (fr : Nat × Nat) : Prop := fr.1 = fr.2 ∨ c.size ≤ fr.1
theorem okFr.out {c : Array Value} {fr : Nat × Nat} (h : okFr c fr) (j : Nat) (hj : j < c.size) : ¬ (fr.1 ≤ j ∧ j < fr.2) := by
  rcases h with h | h <;> omega
theorem okFr.congr {c c' : Array Value} {fr : Nat × Nat} (h : okFr c fr) (hs : c'.size = c.size) : okFr c' fr := by
  unfold okFr at *; rw [hs]; exact h

def Chunk.has : Chunk → Nat → Prop
  | .obj b _, k => k = b
  | .sl v _ _, k => ∃ off len cap, v = .slice (some ⟨k, off, none⟩) len cap
  | .mp b _, k => k = b
  | .fz μ, k => ∃ a u, μ a u ∧ a.block = k

def Chunk.holds (w : World) : Chunk → Prop
  | .obj b cs => ∃ elem fr, w.heap[b]? = some (.cells cs.toArray elem fr) ∧ okFr cs.toArray fr
  | .sl v sz cs => (v = .slice none 0 0 ∧ cs = []) ∨
      ∃ b off len cap c elem fr, v = .slice (some ⟨b, off, none⟩) len cap ∧ cs.length = len * sz ∧ len ≤ cap ∧ off + cap * sz ≤ c.size ∧
        w.heap[b]? = some (.cells c elem fr) ∧ okFr c fr ∧ ∀ i, i < cs.length → c[off + i]? = cs[i]?
  | .mp b es => ∃ entries clock, w.heap[b]? = some (.map entries clock) ∧ entries.toList.map (fun e => (e.key, e.val)) = es
  | .fz μ => ∀ a u, μ a u → w.cell? a = some u

/-- What a chunk says of an address. -/
def Chunk.at (c : Chunk) (a : Addr) (u : Value) : Prop :=
  match c with
  | .obj b cs => ∃ i, a = ⟨b, i, none⟩ ∧ cs[i]? = some u
  | .sl v _ cs => ∃ b off len cap i, v = .slice (some ⟨b, off, none⟩) len cap ∧ a = ⟨b, off + i, none⟩ ∧ cs[i]? = some u
  | .mp _ _ => False
  | .fz μ => μ a u

theorem Chunk.at_has {c : Chunk} {a : Addr} {u : Value} (h : c.at a u) : c.has a.block := by
  cases c with
  | obj b cs => obtain ⟨i, rfl, _⟩ := h; rfl
  | sl v sz cs => obtain ⟨b, off, len, cap, i, rfl, rfl, _⟩ := h; exact ⟨off, len, cap, rfl⟩
  | mp b es => exact h.elim
  | fz μ => exact ⟨a, u, h, rfl⟩

theorem Chunk.holds_at {c : Chunk} {w : World} {a : Addr} {u : Value} (h : c.holds w) (ha : c.at a u) : w.cell? a = some u := by
  cases c with
  | obj b cs =>
    obtain ⟨i, rfl, hi⟩ := ha
    obtain ⟨elem, fr, hb, _⟩ := h
    simp [World.cell?, hb, hi]
  | sl v sz cs =>
    obtain ⟨b, off, len, cap, i, rfl, rfl, hi⟩ := ha
    rcases h with ⟨hv, _⟩ | ⟨b', off', len', cap', c, elem, fr, hv, hl, _, _, hb, _, hc⟩
    · cases hv
    · cases hv
      have hi' : i < cs.length := (List.getElem?_eq_some_iff.1 hi).1
      simp [World.cell?, hb, hc i hi', hi]
  | mp b es => exact ha.elim
  | fz μ => exact h a u ha

theorem Chunk.holds_lt {c : Chunk} {w : World} {k : Nat} (h : c.holds w) (hk : c.has k) : k < w.heap.size := by
  have key : ∀ o, w.heap[k]? = some o → k < w.heap.size := fun o ho => (Array.getElem?_eq_some_iff.1 ho).1
  cases c with
  | obj b cs => obtain ⟨elem, fr, hb, _⟩ := h; cases hk; exact key _ hb
  | sl v sz cs =>
    obtain ⟨off, len, cap, rfl⟩ := hk
    rcases h with ⟨hv, _⟩ | ⟨b', off', len', cap', c, elem, fr, hv, hl, _, _, hb, _, hc⟩
    · cases hv
    · cases hv; exact key _ hb
  | mp b es => obtain ⟨e, c, hb, _⟩ := h; cases hk; exact key _ hb
  | fz μ =>
    obtain ⟨a, u, ha, rfl⟩ := hk
    have h1 := h a u ha
    unfold World.cell? at h1
    cases hb : w.heap[a.block]? with
    | none => rw [hb] at h1; cases h1
    | some o => exact key _ hb

theorem Chunk.holds_same {c : Chunk} {w w' : World} (h : c.holds w) (hk : ∀ k, c.has k → w'.heap[k]? = w.heap[k]?) : c.holds w' := by
  cases c with
  | obj b cs => obtain ⟨elem, fr, hb, ho⟩ := h; exact ⟨elem, fr, (hk b rfl).trans hb, ho⟩
  | sl v sz cs =>
    rcases h with h | ⟨b', off', len', cap', c, elem, fr, hv, hl, h1, h2, hb, h3, hc⟩
    · exact .inl h
    · exact .inr ⟨b', off', len', cap', c, elem, fr, hv, hl, h1, h2, (hk b' ⟨off', len', cap', hv⟩).trans hb, h3, hc⟩
  | mp b es => obtain ⟨e, c, hb, ho⟩ := h; exact ⟨e, c, (hk b rfl).trans hb, ho⟩
  | fz μ =>
    intro a u ha
    have h1 := hk a.block ⟨a, u, ha, rfl⟩
    have h2 := h a u ha
    unfold World.cell? at h2 ⊢
    rw [h1]; exact h2

def apart (c d : Chunk) : Prop := ∀ k, c.has k → ¬ d.has k
theorem apart.symm {c d : Chunk} (h : apart c d) : apart d c := fun k hd hc => h k hc hd

/-- The memory that a state may read: what stays, and its chunks. -/
def memOf (m : Mem) (L : List Chunk) : Mem := fun a u => m a u ∨ ∃ c, c ∈ L ∧ c.at a u

structure SatH (m : Mem) (L : List Chunk) (w : World) : Prop where
  mem : ∀ a u, m a u → w.cell? a = some u
  chunks : ∀ c, c ∈ L → c.holds w
  apart : L.Pairwise apart
  off : ∀ c, c ∈ L → ∀ a u, m a u → ¬ c.has a.block

/-- What was there and is not among M is as it was. -/
structure Fr (w : World) (M : Nat → Prop) (w' : World) : Prop where
  os : w'.os = w.os
  tape : w'.tape = w.tape
  output : w'.output = w.output
  size : w.heap.size ≤ w'.heap.size
  block : ∀ k, k < w.heap.size → ¬ M k → w'.heap[k]? = w.heap[k]?

theorem Fr.refl (w : World) (M : Nat → Prop) : Fr w M w := ⟨rfl, rfl, rfl, Nat.le_refl _, fun _ _ _ => rfl⟩

theorem Fr.trans {a b c : World} {M N : Nat → Prop} (h : Fr a M b) (k : Fr b N c) (hN : ∀ x, x < a.heap.size → N x → M x) : Fr a M c :=
  ⟨k.os.trans h.os, k.tape.trans h.tape, k.output.trans h.output, Nat.le_trans h.size k.size,
    fun x hx hM => (k.block x (Nat.lt_of_lt_of_le hx h.size) (fun hn => hM (hN x hx hn))).trans (h.block x hx hM)⟩

theorem Fr.below {w w' : World} {M : Nat → Prop} (h : Fr w M w') (hM : ∀ k, k < w.heap.size → ¬ M k) : Below w.heap.size w w' :=
  ⟨h.os, h.tape, h.output, h.size, fun k hk => h.block k hk (hM k hk)⟩

def hasAny (L : List Chunk) (k : Nat) : Prop := ∃ c, c ∈ L ∧ c.has k

structure Ctx where
  nt : Nat
  w0 : World
  M : Nat → Prop
  m0 : Mem

def Kn (nt : Nat) (T : Tm) (a : Act) : Prop := a.defers = [] ∧ a.tmps.size = nt ∧ ∀ i v, T i = some v → i < nt ∧ a.tmps[i]? = some v

structure Sat (G : Ctx) (m : Mem) (T : Tm) (L : List Chunk) (a : Act) (w : World) : Prop where
  kn : Kn G.nt T a
  heap : SatH m L w
  fr : Fr G.w0 G.M w
  own : ∀ k, hasAny L k → G.M k ∨ G.w0.heap.size ≤ k
  ext : ∀ x u, G.m0 x u → m x u
  new : ∀ x u, m x u → G.m0 x u ∨ G.M x.block ∨ G.w0.heap.size ≤ x.block

theorem SatH.perm {m : Mem} {L L' : List Chunk} {w : World} (h : SatH m L w) (p : L.Perm L') : SatH m L' w :=
  ⟨h.mem, fun c hc => h.chunks c (p.mem_iff.2 hc), p.pairwise h.apart (fun h => h.symm), fun c hc => h.off c (p.mem_iff.2 hc)⟩

theorem SatH.drop {m : Mem} {L F : List Chunk} {w : World} (h : SatH m (L ++ F) w) : SatH m L w :=
  ⟨h.mem, fun c hc => h.chunks c (List.mem_append_left _ hc), (List.pairwise_append.1 h.apart).1, fun c hc => h.off c (List.mem_append_left _ hc)⟩

theorem Sat.perm {G : Ctx} {m : Mem} {T : Tm} {L L' : List Chunk} {a : Act} {w : World} (h : Sat G m T L a w) (p : L.Perm L') : Sat G m T L' a w :=
  ⟨h.kn, h.heap.perm p, h.fr, fun k ⟨c, hc, hk⟩ => h.own k ⟨c, p.mem_iff.2 hc, hk⟩, h.ext, h.new⟩

theorem Sat.weaken {G : Ctx} {m : Mem} {T T' : Tm} {L : List Chunk} {a : Act} {w : World} (h : Sat G m T L a w) (hT : ∀ i v, T' i = some v → T i = some v) : Sat G m T' L a w :=
  ⟨⟨h.kn.1, h.kn.2.1, fun i v hi => h.kn.2.2 i v (hT i v hi)⟩, h.heap, h.fr, h.own, h.ext, h.new⟩

theorem Sat.less {G : Ctx} {m : Mem} {T : Tm} {L F : List Chunk} {a : Act} {w : World} (h : Sat G m T (L ++ F) a w) : Sat G m T L a w :=
  ⟨h.kn, h.heap.drop, h.fr, fun k ⟨c, hc, hk⟩ => h.own k ⟨c, List.mem_append_left _ hc, hk⟩, h.ext, h.new⟩

/-! ### Posts, and the rules of code -/
abbrev Post := Exit → Mem → Tm → List Chunk → Prop
def Lift (G : Ctx) (Q : Post) : Exit → Act → World → Prop := fun e a w => ∃ m T L, Q e m T L ∧ Sat G m T L a w

def AWp (G : Ctx) (P : Program) (c : Code) (Q : Post) (m : Mem) (T : Tm) (L : List Chunk) : Prop :=
  ∀ a w, Sat G m T L a w → c.wp P (Lift G Q) a w

@[reducible] def thenQ (K : Mem → Tm → List Chunk → Prop) (Q : Post) : Post
  | .normal, m, T, L => K m T L
  | e, m, T, L => Q e m T L

section
variable {G : Ctx} {P : Program} {Q Q' : Post} {m : Mem} {T : Tm} {L : List Chunk}

theorem AWp.mono {c : Code} (h : AWp G P c Q m T L) (hq : ∀ e m T L, Q e m T L → Q' e m T L) : AWp G P c Q' m T L :=
  fun a w s => wp_mono (h a w s) fun _ _ _ ⟨m, T, L, q, s⟩ => ⟨m, T, L, hq _ _ _ _ q, s⟩

theorem AWp.seq {x y : Code} (h : AWp G P x (thenQ (fun m T L => AWp G P y Q m T L) Q) m T L) : AWp G P (.seq x y) Q m T L := by
  intro a w s
  refine wp_seq (wp_mono (h a w s) ?_)
  rintro e a w ⟨m, T, L, q, s⟩
  cases e <;> first | exact q a w s | exact ⟨m, T, L, q, s⟩

/-- A sequence, cut: what holds between. -/
theorem AWp.cut {x y : Code} (R : Mem → Tm → List Chunk → Prop) (h : AWp G P x (thenQ R Q) m T L)
    (k : ∀ m T L, R m T L → AWp G P y Q m T L) : AWp G P (.seq x y) Q m T L :=
  .seq (h.mono fun e m T L q => by cases e <;> first | exact k m T L q | exact q)

theorem AWp.skip (h : Q .normal m T L) : AWp G P .skip Q m T L := fun _ _ s => wp_skip ⟨m, T, L, h, s⟩
theorem AWp.exit {id : Nat} (h : Q (.exit id) m T L) : AWp G P (.exit id) Q m T L := fun _ _ s => wp_exit ⟨m, T, L, h, s⟩
theorem AWp.ret (h : Q .ret m T L) : AWp G P .ret Q m T L := fun _ _ s => wp_ret ⟨m, T, L, h, s⟩

theorem Sat.eval {a : Act} {w : World} (s : Sat G m T L a w) {x : Operand} {v : Value} (h : ev T x = some v) : a.eval x = v := by
  cases x with
  | tmp t => simp [Act.eval, (s.kn.2.2 t v h).2]
  | const u => exact Option.some.inj h
  | global g => exact Option.some.inj h
  | func f => exact Option.some.inj h

theorem AWp.cond {c : Operand} {x y : Code} {b : Bool} (hc : ev T c = some (.bool b))
    (ht : b = true → AWp G P x Q m T L) (hf : b = false → AWp G P y Q m T L) : AWp G P (.cond c x y) Q m T L :=
  fun a w s => wp_cond_split (s.eval hc) (fun e => ht e a w s) (fun e => hf e a w s)

theorem AWp.condP {c : Operand} {x y : Code} {p : Prop} [Decidable p] (hc : ev T c = some (.bool (decide p)))
    (ht : p → AWp G P x Q m T L) (hf : ¬ p → AWp G P y Q m T L) : AWp G P (.cond c x y) Q m T L :=
  .cond hc (fun e => ht (of_decide_eq_true e)) (fun e => hf (of_decide_eq_false e))

theorem AWp.cond_true {c : Operand} {x y : Code} (hc : ev T c = some (.bool true)) (ht : AWp G P x Q m T L) : AWp G P (.cond c x y) Q m T L :=
  .cond hc (fun _ => ht) (fun e => by cases e)
theorem AWp.cond_false {c : Operand} {x y : Code} (hc : ev T c = some (.bool false)) (hf : AWp G P y Q m T L) : AWp G P (.cond c x y) Q m T L :=
  .cond hc (fun e => by cases e) (fun _ => hf)

@[reducible] def inBlockQ (id : Nat) (Q : Post) : Post
  | .exit id', m, T, L => if id' = id then Q .normal m T L else Q (.exit id') m T L
  | e, m, T, L => Q e m T L

theorem AWp.block {id : Nat} {c : Code} (h : AWp G P c (inBlockQ id Q) m T L) : AWp G P (.block id c) Q m T L := by
  intro a w s
  refine wp_block (wp_mono (h a w s) ?_)
  rintro e a w ⟨m, T, L, q, s⟩
  cases e with
  | exit id' =>
    simp only [inBlockQ] at q
    simp only [Exit.inBlock]
    split
    · rename_i h; rw [if_pos h] at q; exact ⟨m, T, L, q, s⟩
    · rename_i h; rw [if_neg h] at q; exact ⟨m, T, L, q, s⟩
  | _ => exact ⟨m, T, L, q, s⟩

/-- A loop: I n is what holds at a round's head with at most n rounds to come. -/
theorem AWp.loop {c : Code} (I : Nat → Mem → Tm → List Chunk → Prop) (n : Nat) (h0 : I n m T L)
    (round : ∀ n m T L, I n m T L → AWp G P c (thenQ (fun m T L => ∃ k, k < n ∧ I k m T L) Q) m T L) : AWp G P (.loop c) Q m T L := by
  intro a w s
  have hμ : ∀ (a : Act) (w : World), (∃ k m T L, I k m T L ∧ Sat G m T L a w) → ∃ k, (∃ m T L, I k m T L ∧ Sat G m T L a w) ∧ ∀ j, (∃ m T L, I j m T L ∧ Sat G m T L a w) → k ≤ j := by
    intro a w ⟨k, hk⟩
    induction k using Nat.strongRecOn with
    | _ k ih =>
      by_cases h : ∃ j, j < k ∧ ∃ m T L, I j m T L ∧ Sat G m T L a w
      · obtain ⟨j, hj, h⟩ := h; exact ih j hj h
      · exact ⟨k, hk, fun j hj => Nat.le_of_not_lt fun hlt => h ⟨j, hlt, hj⟩⟩
  classical
  let J : Act → World → Prop := fun a w => ∃ k m T L, I k m T L ∧ Sat G m T L a w
  let μ : Act → World → Nat := fun a w => if h : J a w then (hμ a w h).choose else 0
  refine wp_loop J μ ⟨n, m, T, L, h0, s⟩ ?_
  intro a w hJ
  have hs := (hμ a w hJ).choose_spec
  have hm : μ a w = (hμ a w hJ).choose := dif_pos hJ
  obtain ⟨⟨m, T, L, hI, s⟩, hmin⟩ := hs
  refine wp_mono (round _ m T L hI a w s) ?_
  rintro e a' w' ⟨m', T', L', q, s'⟩
  cases e with
  | normal =>
    obtain ⟨k, hk, hI'⟩ := q
    have hJ' : J a' w' := ⟨k, m', T', L', hI', s'⟩
    refine ⟨hJ', ?_⟩
    have hm' : μ a' w' = (hμ a' w' hJ').choose := dif_pos hJ'
    rw [hm, hm']
    exact Nat.lt_of_le_of_lt ((hμ a' w' hJ').choose_spec.2 k ⟨m', T', L', hI', s'⟩) hk
  | _ => exact ⟨m', T', L', q, s'⟩

theorem AWp.forget {c : Code} {T' : Tm} (h : AWp G P c Q m T' L) (hT : ∀ i v, T' i = some v → T i = some v) : AWp G P c Q m T L :=
  fun a w s => h a w (s.weaken hT)

theorem AWp.perm {c : Code} {L' : List Chunk} (h : AWp G P c Q m T L') (p : L.Perm L') : AWp G P c Q m T L :=
  fun a w s => h a w (s.perm p)

theorem AWp.drop {c : Code} {F : List Chunk} (h : AWp G P c Q m T L) : AWp G P c Q m T (L ++ F) :=
  fun a w s => h a w s.less
end

theorem sub_nil {T : Tm} : ∀ i v, tnil i = some v → T i = some v := fun _ _ h => by cases h
theorem sub_put {T T' : Tm} {i : Nat} {u : Value} (hi : T i = some u) (h : ∀ i v, T' i = some v → T i = some v) : ∀ j v, put T' i u j = some v → T j = some v := by
  intro j v hj
  unfold put at hj
  cases hb : Nat.beq j i with
  | true =>
    rw [hb] at hj
    have := Nat.eq_of_beq_eq_true hb
    subst this
    rw [hi]; exact hj
  | false => rw [hb] at hj; exact h j v hj

end Go.Proofs.Ytpnipajadjeifaa.Sep
