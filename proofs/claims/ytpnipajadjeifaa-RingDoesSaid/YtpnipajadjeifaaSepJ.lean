/- A region that draws its order, the second part: the swap, and that one order does for all. -/
import Derived.Test.YtpnipajadjeifaaSepI
namespace Go.Proofs.Ytpnipajadjeifaa.Sep
open Go Go.RowKit
set_option linter.unusedVariables false
set_option linter.unusedSimpArgs false

section
variable {P : Program} {arr : Array Oper} {nt : Nat} {m : Mem} {T : Tm} {L : List Chunk} {o : Oper}

theorem Ctr.run {f : FuncId} {args : List Value} {Rw F : List Chunk} {R : Value → List Chunk → Prop} {w : World} (hC : Ctr P f args (memOf m F) Rw (fun _ r L => R r L)) (s : SatH m (Rw ++ F) w) :
    ∃ r N w', R r N ∧ SatH m (N ++ F) w' ∧ ∀ k, hasAny N k → hasAny Rw k ∨ w.heap.size ≤ k := by
  obtain ⟨e, w', fr, ⟨m', N, hP, hm, hh, hf, hn, _⟩, _⟩ := hC w s.frame []
  cases e with
  | returned r =>
    refine ⟨r, N, w', hP, ?_, hn⟩
    obtain ⟨hR, hF, hx⟩ := List.pairwise_append.1 s.apart
    have hF' : ∀ c, c ∈ F → ∀ k, c.has k → k < w.heap.size ∧ ¬ hasAny Rw k := fun c hc k hk =>
      ⟨Chunk.holds_lt (s.chunks c (List.mem_append_right _ hc)) hk, fun ⟨d, hd, hk'⟩ => hx d hd c hc k hk' hk⟩
    refine ⟨fun x u hxm => hh.mem x u (hm x u (.inl hxm)), fun c hc => ?_, ?_, fun c hc x u hxm hk => ?_⟩
    · rcases List.mem_append.1 hc with hc | hc
      · exact hh.chunks c hc
      · exact Chunk.holds_same (s.chunks c (List.mem_append_right _ hc)) fun k hk => hf.block k (hF' c hc k hk).1 (hF' c hc k hk).2
    · refine List.pairwise_append.2 ⟨hh.apart, hF, fun c hc e he k hk hk' => ?_⟩
      rcases hn k ⟨c, hc, hk⟩ with h | h
      · exact (hF' e he k hk').2 h
      · exact absurd (hF' e he k hk').1 (Nat.not_lt.2 h)
    · rcases List.mem_append.1 hc with hc | hc
      · exact hh.off c hc x u (hm x u (.inl hxm)) hk
      · exact s.off c (List.mem_append_right _ hc) x u hxm hk
  | _ => exact hP.elim

theorem agree_some (T : Tm) (o : Oper) : Agree T o fun x => (ev T x).getD undef := fun x _ u hu => by simp [hu]

/-- Some outcome there is. -/
theorem OpStep.hasOne {k : Kind} {R : Out} {w : World} (h : OpStep P arr nt o m T L k R) (s : SatH m L w) : ∃ T' L', R T' L' ∧ Wit m L' := by
  cases h with
  | skip => exact ⟨_, _, ⟨rfl, rfl⟩, w, s⟩
  | pure => exact ⟨_, _, ⟨rfl, rfl⟩, w, s⟩
  | ro => exact ⟨_, _, ⟨rfl, rfl⟩, w, s⟩
  | load => exact ⟨_, _, ⟨rfl, rfl⟩, w, s⟩
  | mark => exact ⟨_, _, ⟨rfl, rfl⟩, w, s⟩
  | alloc hg hd h hR =>
    obtain ⟨v, c, w', hr, hS, hc, hf, hn⟩ := h _ (agree_some T o) w
    exact ⟨_, _, ⟨v, c, hR _ _ hS, rfl, rfl⟩, w', s.cons hc hf hn⟩
  | call hg hd h hC =>
    obtain ⟨r, N, w', hR, hs, _⟩ := Ctr.run (Rw := []) hC s
    exact ⟨_, _, ⟨r, N, hR, rfl, rfl⟩, w', hs⟩
  | wr hg hd h =>
    obtain ⟨n, v, L', w', hr, hn, hR, hh, _⟩ := h _ (agree_some T o) w s
    exact ⟨_, _, ⟨v, hR, rfl⟩, w', hh⟩
  | callW hg hd h hp hC =>
    obtain ⟨r, N, w', hR, hs, _⟩ := Ctr.run hC (s.perm hp)
    exact ⟨_, _, ⟨r, N, hR, rfl, rfl⟩, w', hs⟩
  | loadS => exact ⟨_, _, ⟨rfl, rfl⟩, w, s⟩
  | callO hg hd h hp hs hC =>
    obtain ⟨r, N, w', hR, hs, _⟩ := Ctr.run hC (s.perm hp)
    exact ⟨_, _, ⟨r, N, hR, rfl, rfl⟩, w', hs⟩

/-- A world with more room. -/
def bigger (w : World) (n : Nat) : World := { w with heap := w.heap ++ Array.replicate n (.coro none) }
theorem SatH.bigger {w : World} (s : SatH m L w) (n : Nat) : SatH m L (bigger w n) := by
  have hk : ∀ k, k < w.heap.size → (Sep.bigger w n).heap[k]? = w.heap[k]? := fun k hk => by simp [Sep.bigger, Array.getElem?_append_left hk]
  exact ⟨fun a u ha => by rw [cell_same (hk _ (s.mem_lt ha))]; exact s.mem a u ha, fun c hc => Chunk.holds_same (s.chunks c hc) fun k h => hk k (Chunk.holds_lt (s.chunks c hc) h), s.apart, s.off⟩

/-- What a maker or a quiet call adds need not be a slice that was known before. -/
theorem OpStep.old {k : Kind} {R : Out} {w : World} (h : OpStep P arr nt o m T L k R) (hk : k = .alloc ∨ k = .call) (s : SatH m L w) {v : Value} (hne : v ≠ .slice none 0 0)
    (hm : ∀ T' L', R T' L' → Wit m L' → ∃ sz cs, Chunk.sl v sz cs ∈ L') : ∃ sz cs, Chunk.sl v sz cs ∈ L := by
  let n : Nat := match v with
    | .slice (Option.some a) _ _ => a.block + 1
    | _ => 0
  have fresh : ∀ (w' : World) (c : Chunk), c.holds w' → (∀ k, c.has k → (Sep.bigger w n).heap.size ≤ k) → ∀ sz cs, c ≠ Chunk.sl v sz cs := by
    rintro w' c hc hb sz cs rfl
    rcases hc with ⟨h, _⟩ | ⟨b, off, len, cap, _, _, _, hv, _⟩
    · exact hne h
    · have := hb b ⟨off, len, cap, hv⟩
      subst hv
      simp [Sep.bigger, n] at this
      omega
  cases h with
  | skip => obtain ⟨sz, cs, h⟩ := hm _ _ ⟨rfl, rfl⟩ ⟨w, s⟩; exact ⟨sz, cs, h⟩
  | alloc hg hd h hR =>
    obtain ⟨u, c, w', hr, hS, hc, hf, hn⟩ := h _ (agree_some T o) (Sep.bigger w n)
    obtain ⟨sz, cs, h⟩ := hm _ _ ⟨u, c, hR _ _ hS, rfl, rfl⟩ ⟨w', (s.bigger n).cons hc hf hn⟩
    rcases List.mem_cons.1 h with h | h
    · exact absurd h.symm (fresh w' c hc hn sz cs)
    · exact ⟨sz, cs, h⟩
  | call hg hd h hC =>
    obtain ⟨r, N, w', hR, hs, hn⟩ := Ctr.run (Rw := []) hC (s.bigger n)
    obtain ⟨sz, cs, h⟩ := hm _ _ ⟨r, N, hR, rfl, rfl⟩ ⟨w', hs⟩
    rcases List.mem_append.1 h with h | h
    · refine absurd rfl (fresh w' _ (hs.chunks _ (List.mem_append_left _ h)) (fun k hk => ?_) sz cs)
      rcases hn k ⟨_, h, hk⟩ with ⟨c, hc, _⟩ | h
      · cases hc
      · exact h
    · exact ⟨sz, cs, h⟩
  | _ => rcases hk with hk | hk <;> cases hk

/-- A step beside one chunk more. -/
theorem OpStep.more {k : Kind} {R : Out} {c : Chunk} (h : OpStep P arr nt o m T L k R) : ∃ R', OpStep P arr nt o m T (c :: L) k R' ∧ ∀ T1 L1, R' T1 L1 → ∃ L0, R T1 L0 ∧ L1.Perm (c :: L0) := by
  have hm : ∀ F a u, memOf m F a u → memOf m (c :: F) a u := fun F a u h => h.imp id fun ⟨d, hd, ha⟩ => ⟨d, List.mem_cons_of_mem _ hd, ha⟩
  cases h with
  | skip hg hd => exact ⟨_, .skip hg hd, fun T1 L1 ⟨h1, h2⟩ => ⟨L, ⟨h1, rfl⟩, by rw [h2]⟩⟩
  | pure hg hd h => exact ⟨_, .pure hg hd h, fun T1 L1 ⟨h1, h2⟩ => ⟨L, ⟨h1, rfl⟩, by rw [h2]⟩⟩
  | ro hg hd h => exact ⟨_, .ro hg hd h, fun T1 L1 ⟨h1, h2⟩ => ⟨L, ⟨h1, rfl⟩, by rw [h2]⟩⟩
  | load hg hd h => exact ⟨_, .load hg hd (h.more (L' := [c])), fun T1 L1 ⟨h1, h2⟩ => ⟨L, ⟨h1, rfl⟩, by rw [h2]⟩⟩
  | alloc hg hd h hR => exact ⟨_, .alloc hg hd h hR, fun T1 L1 ⟨v, d, hR, h1, h2⟩ => ⟨d :: L, ⟨v, d, hR, h1, rfl⟩, by rw [h2]; exact .swap ..⟩⟩
  | mark hg hd ho ht he hx hne hm => exact ⟨_, .mark hg hd ho ht he hx hne (List.mem_cons_of_mem _ hm), fun T1 L1 ⟨h1, h2⟩ => ⟨L, ⟨h1, rfl⟩, by rw [h2]⟩⟩
  | call hg hd h hC => exact ⟨_, .call hg hd h (hC.more (hm L)), fun T1 L1 ⟨r, N, hR, h1, h2⟩ => ⟨N ++ L, ⟨r, N, hR, h1, rfl⟩, by rw [h2]; exact List.perm_middle⟩⟩
  | wr hg hd h => exact ⟨_, .wr hg hd h.more, fun T1 L1 ⟨v, ⟨L0, hR, e⟩, h1⟩ => ⟨L0, ⟨v, hR, h1⟩, by rw [e]⟩⟩
  | @callW f args Rw F R hg hd h hp hC =>
    exact ⟨_, .callW hg hd h (F := c :: F) ((hp.cons c).trans List.perm_middle.symm) (hC.more (hm F)), fun T1 L1 ⟨r, N, hR, h1, h2⟩ => ⟨N ++ F, ⟨r, N, hR, h1, rfl⟩, by rw [h2]; exact List.perm_middle⟩⟩
  | loadS hg hd hc hs h => exact ⟨_, .loadS hg hd (List.mem_cons_of_mem _ hc) hs h, fun T1 L1 ⟨h1, h2⟩ => ⟨L, ⟨h1, rfl⟩, by rw [h2]⟩⟩
  | @callO f args Rw F R hg hd h hp hs hC =>
    exact ⟨_, .callO hg hd h (F := c :: F) ((hp.cons c).trans List.perm_middle.symm) hs (hC.more (hm F)), fun T1 L1 ⟨r, N, hR, h1, h2⟩ => ⟨N ++ F, ⟨r, N, hR, h1, rfl⟩, by rw [h2]; exact List.perm_middle⟩⟩

theorem OpStep.slot {k : Kind} {R : Out} (h : OpStep P arr nt o m T L k R) : ∀ T2 L2, R T2 L2 → ∃ v, T2 = putO T o.dst v := by
  intro T2 L2 h2
  cases h with
  | skip => exact ⟨_, h2.1⟩
  | pure => exact ⟨_, h2.1⟩
  | ro => exact ⟨_, h2.1⟩
  | load => exact ⟨_, h2.1⟩
  | mark => exact ⟨_, h2.1⟩
  | alloc => obtain ⟨v, c, _, h1, _⟩ := h2; exact ⟨v, h1⟩
  | call => obtain ⟨v, c, _, h1, _⟩ := h2; exact ⟨v, h1⟩
  | wr => obtain ⟨v, _, h1⟩ := h2; exact ⟨v, h1⟩
  | callW => obtain ⟨v, c, _, h1, _⟩ := h2; exact ⟨v, h1⟩
  | loadS => exact ⟨_, h2.1⟩
  | callO => obtain ⟨v, c, _, h1, _⟩ := h2; exact ⟨v, h1⟩

/-- A step that only adds chunks. -/
theorem OpStep.adds {k : Kind} {R : Out} (h : OpStep P arr nt o m T L k R) (hk : k ≠ .wr) (hk2 : k ≠ .wrO) : ∀ T2 L2, R T2 L2 → ∃ N, L2 = N ++ L := by
  intro T2 L2 h2
  cases h with
  | skip => exact ⟨[], h2.2⟩
  | pure => exact ⟨[], h2.2⟩
  | ro => exact ⟨[], h2.2⟩
  | load => exact ⟨[], h2.2⟩
  | mark => exact ⟨[], h2.2⟩
  | alloc => obtain ⟨v, c, _, _, h1⟩ := h2; exact ⟨[c], h1⟩
  | call => obtain ⟨v, N, _, _, h1⟩ := h2; exact ⟨N, h1⟩
  | wr => exact absurd rfl hk
  | callW => exact absurd rfl hk
  | loadS => exact ⟨[], h2.2⟩
  | callO => exact absurd rfl hk2
/-- A step that turns no slice's chunk that was there. -/
theorem OpStep.keeps {k : Kind} {R : Out} (h : OpStep P arr nt o m T L k R) (hk : k ≠ .wr) {c : Chunk} (hc : c ∈ L) (hs : c.isSl = true) : ∀ T2 L2, R T2 L2 → c ∈ L2 := by
  intro T2 L2 h2
  by_cases hk2 : k = .wrO
  · subst hk2
    cases h with
    | skip => rw [h2.2]; exact hc
    | callO _ _ _ hp hso _ =>
      obtain ⟨v, N, _, _, h1⟩ := h2
      rw [h1]
      rcases List.mem_append.1 (hp.mem_iff.1 hc) with hc | hc
      · have := List.all_eq_true.1 hso c hc
        rw [hs] at this; cases this
      · exact List.mem_append_right _ hc
  · obtain ⟨N, rfl⟩ := h.adds hk hk2 T2 L2 h2
    exact List.mem_append_right _ hc

/-- The second operation of a chain comes ahead of the first. -/
theorem swap {K : Out} (hK : ∀ T L L', L.Perm L' → K T L → K T L') (hW : Wit m L) {x y : Oper} {kx ky : Kind} (hs : kx.swaps ky = true) (ha : apartO arr x y) {Rx : Out} (hx : OpStep P arr nt x m T L kx Rx)
    (hy : ∀ T1 L1, Rx T1 L1 → Wit m L1 → ∃ Ry, OpStep P arr nt y m T1 L1 ky Ry ∧ ∀ T2 L2, Ry T2 L2 → Wit m L2 → K T2 L2) :
    ∃ Ry, OpStep P arr nt y m T L ky Ry ∧ ∀ T1 L1, Ry T1 L1 → Wit m L1 → ∃ Rx', OpStep P arr nt x m T1 L1 kx Rx' ∧ ∀ T2 L2, Rx' T2 L2 → Wit m L2 → K T2 L2 := by
  have hxl : ∀ e, x.dst = .some e → ¬ looks arr y e := ha.1
  have hyl : ∀ e, y.dst = .some e → ¬ looks arr x e := ha.2.1
  have hxd : ∀ e, x.dst = .some e → y.dst ≠ .some e := ha.2.2
  have hyd : ∀ e, y.dst = .some e → x.dst ≠ .some e := fun e he hx => hxd e hx he
  obtain ⟨w, s⟩ := hW
  -- a first step that does one thing alone
  have det : ∀ u, (∀ T1 L1, Rx T1 L1 ↔ T1 = putO T x.dst u ∧ L1 = L) →
      (∀ T1 L1, (∃ v, T1 = putO T y.dst v) → (ky ≠ .wr → ky ≠ .wrO → ∃ N, L1 = N ++ L) → (ky ≠ .wr → ∀ c, c ∈ L → c.isSl = true → c ∈ L1) → ∃ Rx', OpStep P arr nt x m T1 L1 kx Rx' ∧ ∀ T2 L2, Rx' T2 L2 → T2 = putO T1 x.dst u ∧ L2 = L1) →
      ∃ Ry, OpStep P arr nt y m T L ky Ry ∧ ∀ T1 L1, Ry T1 L1 → Wit m L1 → ∃ Rx', OpStep P arr nt x m T1 L1 kx Rx' ∧ ∀ T2 L2, Rx' T2 L2 → Wit m L2 → K T2 L2 := by
    intro u hR hagain
    obtain ⟨Ry, h1, h2⟩ := hy _ _ ((hR _ _).2 ⟨rfl, rfl⟩) ⟨w, s⟩
    obtain ⟨Ry', h1', h2'⟩ := h1.put hxl hxd
    refine ⟨Ry', h1', fun T1 L1 h hw => ?_⟩
    obtain ⟨Rx', g1, g2⟩ := hagain T1 L1 (h1'.slot T1 L1 h) (fun hne hne2 => h1'.adds hne hne2 T1 L1 h) (fun hne c hc hs => h1'.keeps hne hc hs T1 L1 h)
    refine ⟨Rx', g1, fun T2 L2 hr hw2 => ?_⟩
    obtain ⟨e1, e2⟩ := g2 T2 L2 hr
    subst e1 e2
    exact h2 _ _ (h2' _ _ h) hw
  -- a first step that is told of many outcomes
  have many : (kx = .alloc ∨ kx = .call ∨ kx = .wr ∨ kx = .wrO) → ∃ Ry, OpStep P arr nt y m T L ky Ry ∧ ∀ T1 L1, Ry T1 L1 → Wit m L1 → ∃ Rx', OpStep P arr nt x m T1 L1 kx Rx' ∧ ∀ T2 L2, Rx' T2 L2 → Wit m L2 → K T2 L2 := by
    intro hkx
    obtain ⟨T0, L0, hR0, hW0⟩ := hx.hasOne s
    obtain ⟨v0, hv0⟩ := hx.slot T0 L0 hR0
    obtain ⟨Ry0, hy0, _⟩ := hy T0 L0 hR0 hW0
    have hgd : ∀ T1 L1, Rx T1 L1 → gd arr y T1 = gd arr y T := fun T1 L1 h => by
      obtain ⟨v, hv⟩ := hx.slot T1 L1 h
      rw [hv, gd_put hxl]
    cases hg : gd arr y T with
    | none => exfalso; have := hgd T0 L0 hR0; rw [hg] at this; cases hy0 <;> (rename_i h1 _ ; first | (rw [this] at h1; cases h1) | skip) <;> simp_all
    | some b =>
      cases b with
      | false =>
        have hd : dstOk nt y.dst = true := by cases hy0 <;> assumption
        refine ⟨_, .skip hg hd, fun T1 L1 ⟨e1, e2⟩ hw => ?_⟩
        subst e1 e2
        obtain ⟨Rx', g1, g2⟩ := hx.behind (d := y.dst) (u := undef) hyl hyd
        refine ⟨Rx', g1, fun T2 L2 hr hw2 => ?_⟩
        obtain ⟨T3, hr3, e⟩ := g2 T2 L2 hr
        obtain ⟨Ry, q1, q2⟩ := hy T3 L2 hr3 hw2
        have hg3 : gd arr y T3 = .some false := (hgd T3 L2 hr3).trans hg
        cases q1 with
        | skip => exact q2 _ _ ⟨e, rfl⟩ hw2
        | _ => rename_i h _; simp_all
      | true =>
        have hky : ky = .alloc ∨ ky = .mark ∧ kx ≠ .wr ∧ kx ≠ .wrO := by
          rcases hkx with rfl | rfl | rfl | rfl <;> cases ky <;> simp_all [Kind.swaps]
        rcases hky with rfl | ⟨rfl, hnw⟩
        · cases hy0 with
          | skip h => rw [hgd T0 L0 hR0, hg] at h; cases h
          | alloc hg' hd' h' hR' =>
            rw [hv0] at h'
            rw [allocSpec_put hxl] at h'
            have hA : AllocOp P y T (allocSpec P y T) := (AllocOp.put hxl).1 h'
            refine ⟨_, .alloc hg hd' hA (fun _ _ h => h), fun T1 L1 ⟨v, c, hS, e1, e2⟩ hw => ?_⟩
            subst e1 e2
            obtain ⟨Rb, b1, b2⟩ := hx.behind (d := y.dst) (u := v) hyl hyd
            obtain ⟨Rx', g1, g2⟩ := b1.more (c := c)
            refine ⟨Rx', g1, fun T2 L2 hr hw2 => ?_⟩
            obtain ⟨L3, hr3, hp⟩ := g2 T2 L2 hr
            obtain ⟨T3, hr4, e⟩ := b2 T2 L3 hr3
            have hw3 : Wit m (c :: L3) := hw2.perm hp
            obtain ⟨Ry, q1, q2⟩ := hy T3 L3 hr4 hw3.tail
            obtain ⟨v3, hv3⟩ := hx.slot T3 L3 hr4
            cases q1 with
            | skip h => rw [hgd T3 L3 hr4, hg] at h; cases h
            | alloc _ _ _ hR3 =>
              refine hK _ _ _ hp.symm (q2 _ _ ⟨v, c, hR3 v c ?_, e, rfl⟩ hw3)
              rw [hv3, allocSpec_put hxl]; exact hS
        · have hk2 : kx = .alloc ∨ kx = .call := by rcases hkx with h | h | h | h <;> simp_all
          cases hy0 with
          | skip h => rw [hgd T0 L0 hR0, hg] at h; cases h
          | @mark t e xo v sz cs hg' hd' ho ht he hxv hne hm' =>
            have hevx : ∀ u, ev (putO T x.dst u) xo = ev T xo := fun u => ev_put fun e he hxe => hxl e he (by
              subst hxe
              exact List.mem_append_left _ (List.mem_filterMap.2 ⟨.tmp e, by rw [ho]; simp [Op.operands], rfl⟩))
            have hxT : ev T xo = .some v := by rw [← hevx v0, ← hv0]; exact hxv
            obtain ⟨sz', cs', hmem⟩ := hx.old hk2 s (v := v) hne (fun T' L' hR hW => by
              obtain ⟨Ry, q1, _⟩ := hy T' L' hR hW
              obtain ⟨v3, hv3⟩ := hx.slot T' L' hR
              cases q1 with
              | skip h => rw [hgd T' L' hR, hg] at h; cases h
              | mark _ _ ho3 _ _ hx3 _ hm3 =>
                rw [ho] at ho3
                cases ho3
                rw [hv3, hevx, hxT] at hx3
                cases hx3
                exact ⟨_, _, hm3⟩)
            refine ⟨_, .mark hg hd' ho ht he hxT hne hmem, fun T1 L1 ⟨e1, e2⟩ hw => ?_⟩
            subst e1 e2
            obtain ⟨Rx', g1, g2⟩ := hx.behind (d := y.dst) (u := v) hyl hyd
            refine ⟨Rx', g1, fun T2 L2 hr hw2 => ?_⟩
            obtain ⟨T3, hr3, e⟩ := g2 T2 L2 hr
            obtain ⟨Ry, q1, q2⟩ := hy T3 L2 hr3 hw2
            obtain ⟨v3, hv3⟩ := hx.slot T3 L2 hr3
            cases q1 with
            | skip h => rw [hgd T3 L2 hr3, hg] at h; cases h
            | mark _ _ ho3 _ _ hx3 _ hm3 =>
              rw [ho] at ho3
              cases ho3
              rw [hv3, hevx, hxT] at hx3
              cases hx3
              exact q2 _ _ ⟨e, rfl⟩ hw2
  cases hx with
  | skip hg hd => exact det undef (fun _ _ => Iff.rfl) fun T1 L1 ⟨v, hv⟩ _ _ => ⟨_, .skip (by rw [hv, gd_put hyl]; exact hg) hd, fun _ _ h => h⟩
  | pure hg hd hp => exact det _ (fun _ _ => Iff.rfl) fun T1 L1 ⟨v, hv⟩ _ _ => ⟨_, .pure (by rw [hv, gd_put hyl]; exact hg) hd (by rw [hv]; exact (PureOp.put hyl).2 hp), fun _ _ h => h⟩
  | ro hg hd hp => exact det _ (fun _ _ => Iff.rfl) fun T1 L1 ⟨v, hv⟩ _ _ => ⟨_, .ro (by rw [hv, gd_put hyl]; exact hg) hd (by rw [hv]; exact (LoadOp.put hyl).2 hp), fun _ _ h => h⟩
  | load hg hd hp =>
    refine det _ (fun _ _ => Iff.rfl) fun T1 L1 ⟨v, hv⟩ hN _ => ?_
    obtain ⟨N, rfl⟩ := hN (by rintro rfl; cases hs) (by rintro rfl; cases hs)
    exact ⟨_, .load (by rw [hv, gd_put hyl]; exact hg) hd (by rw [hv]; exact (LoadOp.put hyl).2 hp.more), fun _ _ h => h⟩
  | @mark t e xo v0 sz cs hg hd ho ht he hxv hne hm' =>
    refine det _ (fun _ _ => Iff.rfl) fun T1 L1 ⟨v, hv⟩ hN _ => ?_
    obtain ⟨N, rfl⟩ := hN (by rintro rfl; cases hs) (by rintro rfl; cases hs)
    have hevx : ∀ u, ev (putO T y.dst u) xo = ev T xo := fun u => ev_put fun e he hxe => hyl e he (by
      subst hxe
      exact List.mem_append_left _ (List.mem_filterMap.2 ⟨.tmp e, by rw [ho]; simp [Op.operands], rfl⟩))
    exact ⟨_, .mark (by rw [hv, gd_put hyl]; exact hg) hd ho ht he (by rw [hv, hevx]; exact hxv) hne (List.mem_append_right _ hm'), fun _ _ h => h⟩
  | alloc => exact many (.inl rfl)
  | call => exact many (.inr (.inl rfl))
  | wr => exact many (.inr (.inr (.inl rfl)))
  | callW => exact many (.inr (.inr (.inl rfl)))
  | callO => exact many (.inr (.inr (.inr rfl)))
  | loadS hg hd hc hsl hp =>
    refine det _ (fun _ _ => Iff.rfl) fun T1 L1 ⟨v, hv⟩ _ hK2 => ?_
    exact ⟨_, .loadS (by rw [hv, gd_put hyl]; exact hg) hd (hK2 (by rintro rfl; cases hs) _ hc hsl) hsl (by rw [hv]; exact (LoadOp.put hyl).2 hp), fun _ _ h => h⟩
end
end Go.Proofs.Ytpnipajadjeifaa.Sep
