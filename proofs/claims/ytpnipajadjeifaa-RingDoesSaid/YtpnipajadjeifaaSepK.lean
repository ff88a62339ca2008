/- A region that draws its order, the third part: one order does for all. -/
import Derived.Test.YtpnipajadjeifaaSepJ
namespace Go.Proofs.Ytpnipajadjeifaa.Sep
open Go Go.RowKit
set_option linter.unusedVariables false
set_option linter.unusedSimpArgs false

/-- The operations ahead of which one stands behind, as bits. -/
def masks (ops : List Oper) : List Nat :=
  ops.foldl (fun ms o => ms ++ [o.after.toList.foldl (fun acc e => if Region.binds .any e then acc ||| (1 <<< e.on) ||| ms.getD e.on 0 else acc) 0]) []

/-- x stands ahead of y in every order. -/
inductive Anc (ops : Array Oper) : Nat → Nat → Prop where
  | one {x y : Nat} {o : Oper} {e : Edge} (ho : ops[y]? = some o) (he : e ∈ o.after) (hb : Region.binds .any e = true) (hx : e.on = x) : Anc ops x y
  | more {x y : Nat} {o : Oper} {e : Edge} (ho : ops[y]? = some o) (he : e ∈ o.after) (hb : Region.binds .any e = true) (hx : Anc ops x e.on) : Anc ops x y

theorem masks_inner (ops : Array Oper) (ms : List Nat) (y : Nat) (o : Oper) (ho : ops[y]? = some o) (hms : ∀ z x, (ms.getD z 0).testBit x = true → Anc ops x z) :
    ∀ (es : List Edge) (acc : Nat), (∀ e, e ∈ es → e ∈ o.after) → (∀ x, acc.testBit x = true → Anc ops x y) →
      ∀ x, (es.foldl (fun acc e => if Region.binds .any e then acc ||| (1 <<< e.on) ||| ms.getD e.on 0 else acc) acc).testBit x = true → Anc ops x y
  | [], acc, _, ha, x, h => ha x h
  | e :: es, acc, hes, ha, x, h => by
    rw [List.foldl_cons] at h
    refine masks_inner ops ms y o ho hms es _ (fun e he => hes e (List.mem_cons_of_mem _ he)) (fun x hx => ?_) x h
    split at hx
    · rename_i hb
      rw [Nat.testBit_or, Nat.testBit_or, Bool.or_eq_true, Bool.or_eq_true] at hx
      rcases hx with (hx | hx) | hx
      · exact ha x hx
      · have : e.on = x := by
          rw [Nat.shiftLeft_eq, Nat.one_mul, Nat.testBit_two_pow] at hx
          simpa using hx
        exact .one ho (hes e (List.mem_cons_self ..)) hb this
      · exact .more ho (hes e (List.mem_cons_self ..)) hb (hms _ _ hx)
    · exact ha x hx

theorem masks_spec (ops : Array Oper) : ∀ y x, ((masks ops.toList).getD y 0).testBit x = true → Anc ops x y := by
  have key : ∀ (l : List Oper) (ms : List Nat), (∀ j, l[j]? = ops[ms.length + j]?) → (∀ z x, (ms.getD z 0).testBit x = true → Anc ops x z) →
      ∀ z x, ((l.foldl (fun ms o => ms ++ [o.after.toList.foldl (fun acc e => if Region.binds .any e then acc ||| (1 <<< e.on) ||| ms.getD e.on 0 else acc) 0]) ms).getD z 0).testBit x = true → Anc ops x z := by
    intro l
    induction l with
    | nil => intro ms _ h; exact h
    | cons o l ih =>
      intro ms hl hms
      rw [List.foldl_cons]
      refine ih _ (fun j => ?_) fun z x hz => ?_
      · have := hl (j + 1)
        rw [List.getElem?_cons_succ] at this
        rw [this, List.length_append, List.length_singleton]
        congr 1; omega
      · rcases Nat.lt_trichotomy z ms.length with h | h | h
        · rw [List.getD_eq_getElem?_getD, List.getElem?_append_left h, ← List.getD_eq_getElem?_getD] at hz
          exact hms z x hz
        · subst h
          rw [List.getD_eq_getElem?_getD, List.getElem?_append_right (Nat.le_refl _), Nat.sub_self, List.getElem?_cons_zero, Option.getD_some] at hz
          have h0 := hl 0
          rw [List.getElem?_cons_zero, Nat.add_zero] at h0
          exact masks_inner ops ms _ o h0.symm hms _ 0 (fun e he => Array.mem_toList_iff.1 he) (fun x hx => by simp at hx) x hz
        · rw [List.getD_eq_getElem?_getD, List.getElem?_eq_none (by simp; omega)] at hz
          simp at hz
  exact key ops.toList [] (fun j => by simp) (fun z x h => by simp at h)

def pairOk (ops : Array Oper) (ms : List Nat) (x y : Nat × Kind) : Bool :=
  (ms.getD y.1 0).testBit x.1 || (x.2.swaps y.2 && match ops[x.1]?, ops[y.1]? with
    | some a, some b => a.apart ops b
    | _, _ => false)
def pairsOk (ops : Array Oper) (ms : List Nat) : List (Nat × Kind) → Bool
  | [] => true
  | x :: l => l.all (pairOk ops ms x) && pairsOk ops ms l
/-- Is a list of the operations' numbers an order from which all others come by swaps? -/
def drawOk (ops : Array Oper) (l : List (Nat × Kind)) : Bool :=
  (List.range ops.size).isPerm (l.map (·.1)) && (List.range ops.size).all (fun i => (ops[i]?).all fun o => o.after.all fun e => !Region.binds .any e || Nat.blt e.on i) && pairsOk ops (masks ops.toList) l

theorem pairsOk_spec {ops : Array Oper} {ms : List Nat} : ∀ {l : List (Nat × Kind)}, pairsOk ops ms l = true → l.Pairwise (fun x y => pairOk ops ms x y = true)
  | [], _ => .nil
  | x :: l, h => by
    simp only [pairsOk, Bool.and_eq_true, List.all_eq_true] at h
    exact List.pairwise_cons.2 ⟨fun y hy => h.1 y hy, pairsOk_spec h.2⟩

section
variable {G : Ctx} {P : Program} {arr : Array Oper} {m : Mem} {T : Tm} {L : List Chunk} {Q : Post}

/-- An operation that may come first does. -/
theorem pull {K : Out} (hK : ∀ T L L', L.Perm L' → K T L → K T L') {nt : Nat} {y : Nat × Kind} {post : List (Nat × Kind)} : ∀ (pre : List (Nat × Kind)) (T : Tm) (L : List Chunk), Wit m L →
    (∀ x, x ∈ pre → x.2.swaps y.2 = true ∧ ∃ a b, arr[x.1]? = some a ∧ arr[y.1]? = some b ∧ apartO arr a b) →
    chain P arr nt m K (pre ++ y :: post) T L → chain P arr nt m K (y :: (pre ++ post)) T L
  | [], T, L, _, _, h => h
  | x :: pre, T, L, hW, hx, h => by
    obtain ⟨i, k⟩ := x
    obtain ⟨j, ky⟩ := y
    obtain ⟨a, Rx, ha, hs, hr⟩ := h
    obtain ⟨hsw, a', b, ha', hb, hap⟩ := hx (i, k) (List.mem_cons_self ..)
    try simp only at ha' hb
    rw [ha] at ha'
    cases ha'
    have ih : ∀ T1 L1, Rx T1 L1 → Wit m L1 → ∃ Ry, OpStep P arr nt b m T1 L1 ky Ry ∧ ∀ T2 L2, Ry T2 L2 → Wit m L2 → chain P arr nt m K (pre ++ post) T2 L2 := by
      intro T1 L1 h1 hw1
      obtain ⟨b', Ry, hb', hs', hr'⟩ := pull hK pre T1 L1 hw1 (fun x hx' => hx x (List.mem_cons_of_mem _ hx')) (hr T1 L1 h1 hw1)
      try simp only at hb'
      rw [hb] at hb'
      cases hb'
      exact ⟨Ry, hs', hr'⟩
    obtain ⟨Ry, h1, h2⟩ := swap (fun T L L' p h => chain_perm hK _ T L L' p h) hW hsw hap hs ih
    exact ⟨b, Ry, hb, h1, fun T1 L1 hR hw => let ⟨Rx', g1, g2⟩ := h2 T1 L1 hR hw; ⟨a, Rx', ha, g1, g2⟩⟩

theorem OpStep.toW {k : Kind} {R : Out} {o : Oper} (h : OpStep P arr G.nt o m T L k R) {a : Act} {w : World} (s : Sat G m T L a w) {K : Act → World → Prop}
    (hK : ∀ T' L' a' w', R T' L' → Sat G m T' L' a' w' → K a' w') {Q : Exit → Act → World → Prop} :
    if Region.wanted o (yielded arr a.tmps) then o.wp P a w K Q else K (a.put o.dst undef) w := by
  have run : gd arr o T = some true → o.wp P a w K Q → if Region.wanted o (yielded arr a.tmps) then o.wp P a w K Q else K (a.put o.dst undef) w := fun hg h => by
    rw [gd_wanted s.kn hg, if_pos rfl]; exact h
  cases h with
  | skip hg hd =>
    rw [gd_wanted s.kn hg, if_neg (by simp)]
    exact hK _ _ _ _ ⟨rfl, rfl⟩ ⟨s.kn.putO hd undef, s.heap, s.fr, s.own, s.ext, s.new⟩
  | pure hg hd hp =>
    refine run hg ?_
    unfold Oper.wp
    rw [hp a.eval (s.kn.agree o) w]
    exact hK _ _ _ _ ⟨rfl, rfl⟩ ⟨s.kn.putO hd _, s.heap, s.fr, s.own, s.ext, s.new⟩
  | ro hg hd hp =>
    refine run hg ?_
    unfold Oper.wp
    rw [hp a.eval (s.kn.agree o) w ⟨s.heap.mem, fun c hc => (List.not_mem_nil hc).elim, List.Pairwise.nil, fun c hc => (List.not_mem_nil hc).elim⟩]
    exact hK _ _ _ _ ⟨rfl, rfl⟩ ⟨s.kn.putO hd _, s.heap, s.fr, s.own, s.ext, s.new⟩
  | load hg hd hp =>
    refine run hg ?_
    unfold Oper.wp
    rw [hp a.eval (s.kn.agree o) w s.heap]
    exact hK _ _ _ _ ⟨rfl, rfl⟩ ⟨s.kn.putO hd _, s.heap, s.fr, s.own, s.ext, s.new⟩
  | alloc hg hd hp hR =>
    refine run hg ?_
    obtain ⟨n, v, L', w', hr, hn, ⟨c, hS, e⟩, hh, hf, ho⟩ := (hp.toW (m := m) (L := L)) a.eval (s.kn.agree o) w s.heap
    unfold Oper.wp
    rw [hr]
    rcases hn with rfl | ⟨rfl, rfl⟩
    · exact hK _ _ _ _ ⟨v, c, hR _ _ hS, rfl, e⟩ (s.step hd hh hf ho)
    · exact hK _ _ _ _ ⟨_, c, hR _ _ hS, rfl, e⟩ (s.step hd hh hf ho)
  | @mark t e xo v sz cs hg hd hop ht he hx hne hm =>
    refine run hg ?_
    obtain ⟨dst, op, type, pos, after, guard⟩ := o
    simp only at hop
    subst hop
    obtain ⟨n, u, c', w', hr, hn, ⟨hu, hc⟩, hh, hf, ho⟩ := lop_convMark (P := P) (T := T) (m := m) (L := L) (dst := dst) (type := type) (pos := pos) (after := after) (guard := guard) (sz := sz) (cs := cs) ht he hx hne a.eval (s.kn.agree _) w s.heap hm
    obtain ⟨A, B, rfl⟩ := List.append_of_mem hm
    subst hc
    have hpos : ∀ A : List Chunk, Pos (A ++ Chunk.sl v sz cs :: B) (Chunk.sl v sz cs) (fun x => A ++ x :: B) := by
      intro A
      induction A with
      | nil => exact .here
      | cons d A ih => exact .there ih
    have hw : LOp P ⟨dst, .convert t t xo, type, pos, after, guard⟩ m T (A ++ Chunk.sl v sz cs :: B) (.sl v sz cs) (fun u c => u = v ∧ c = .sl v sz cs) := lop_convMark ht he hx hne
    obtain ⟨n, u, L', w', hr, hn, ⟨c', ⟨hu, hc⟩, hL⟩, hh, hf, ho⟩ := hw.toW (hpos A) a.eval (s.kn.agree _) w s.heap
    subst hc hL hu
    unfold Oper.wp
    rw [hr]
    rcases hn with rfl | ⟨rfl, rfl⟩
    · exact hK _ _ _ _ ⟨rfl, rfl⟩ (s.step hd hh hf ho)
    · exact hK _ _ _ _ ⟨rfl, rfl⟩ (s.step hd hh hf ho)
  | @call f args R hg hd h hC =>
    refine run hg ?_
    unfold Oper.wp
    rw [h a.eval (s.kn.agree o) w]
    have s2 : Sat G m T ([] ++ L) a w := s
    refine Calls.mono (hC w s2.heap.frame) ?_
    rintro e w' ⟨m', L', hP, hm, hh, hf, hn, _⟩
    cases e with
    | returned r => exact hK _ _ _ _ ⟨r, L', hP, rfl, rfl⟩ (s2.callA hd hm hh hf hn)
    | _ => exact hP.elim
  | @callW f args Rw F R hg hd h hp hC =>
    refine run hg ?_
    unfold Oper.wp
    rw [h a.eval (s.kn.agree o) w]
    have s2 := s.perm hp
    refine Calls.mono (hC w s2.heap.frame) ?_
    rintro e w' ⟨m', L', hP, hm, hh, hf, hn, _⟩
    cases e with
    | returned r => exact hK _ _ _ _ ⟨r, L', hP, rfl, rfl⟩ (s2.callA hd hm hh hf hn)
    | _ => exact hP.elim
  | @callO f args Rw F R hg hd h hp hs hC =>
    refine run hg ?_
    unfold Oper.wp
    rw [h a.eval (s.kn.agree o) w]
    have s2 := s.perm hp
    refine Calls.mono (hC w s2.heap.frame) ?_
    rintro e w' ⟨m', L', hP, hm, hh, hf, hn, _⟩
    cases e with
    | returned r => exact hK _ _ _ _ ⟨r, L', hP, rfl, rfl⟩ (s2.callA hd hm hh hf hn)
    | _ => exact hP.elim
  | @loadS c v hg hd hc hs hp =>
    refine run hg ?_
    unfold Oper.wp
    obtain ⟨A, B, hAB⟩ := List.append_of_mem hc
    have s3 : SatH (memOf m [c]) (A ++ B) w := SatH.frame (F := [c]) (s.heap.perm (by rw [hAB]; exact List.perm_middle.trans (List.perm_append_comm (l₁ := [c]))))
    rw [hp a.eval (s.kn.agree o) w ⟨s3.mem, fun c hc => (List.not_mem_nil hc).elim, List.Pairwise.nil, fun c hc => (List.not_mem_nil hc).elim⟩]
    exact hK _ _ _ _ ⟨rfl, rfl⟩ ⟨s.kn.putO hd _, s.heap, s.fr, s.own, s.ext, s.new⟩
  | wr hg hd hp =>
    refine run hg ?_
    obtain ⟨n, v, L', w', hr, hn, hR, hh, hf, ho⟩ := hp a.eval (s.kn.agree o) w s.heap
    unfold Oper.wp
    rw [hr]
    rcases hn with rfl | ⟨rfl, rfl⟩
    · exact hK _ _ _ _ ⟨v, hR, rfl⟩ (s.step hd hh hf ho)
    · exact hK _ _ _ _ ⟨_, hR, rfl⟩ (s.step hd hh hf ho)

/-- What is listed is closed under what stands ahead. -/
def Closed (arr : Array Oper) (listed : Array Bool) : Prop :=
  ∀ y o, arr[y]? = some o → listed.getD y false = true → ∀ e, e ∈ o.after → Region.binds .any e = true → listed.getD e.on false = true

theorem Anc.listed {listed : Array Bool} (hc : Closed arr listed) (hsz : listed.size = arr.size) : ∀ {x y : Nat}, Anc arr x y → (∀ o, arr[y]? = some o → ∀ e, e ∈ o.after → Region.binds .any e = true → listed.getD e.on false = true) →
    listed.getD x false = true := by
  intro x y h
  induction h with
  | one ho he hb hx => intro hy; subst hx; exact hy _ ho _ he hb
  | more ho he hb hx ih =>
    intro hy
    have h1 := hy _ ho _ he hb
    exact ih fun o' ho' e' he' hb' => hc _ o' ho' h1 e' he' hb'

theorem draw_sound {Q : Exit → Act → World → Prop} {K : Out} (hK : ∀ T L L', L.Perm L' → K T L → K T L') (hQ : ∀ T L a w, K T L → Sat G m T L a w → Q .normal a w)
    (hlow : ∀ (y : Nat) (o : Oper), arr[y]? = some o → ∀ e : Edge, e ∈ o.after → Region.binds .any e = true → e.on < y) :
    ∀ (fuel : Nat) (l : List (Nat × Kind)) (listed : Array Bool) (T : Tm) (L : List Chunk) (a : Act) (w : World), l.length ≤ fuel → listed.size = arr.size → Closed arr listed →
      (∀ i, i < arr.size → (listed.getD i true = false ↔ i ∈ l.map (·.1))) → (l.map (·.1)).Nodup → (∀ x, x ∈ l → x.1 < arr.size) → l.Pairwise (fun x y => pairOk arr (masks arr.toList) x y = true) →
      chain P arr G.nt m K l T L → Sat G m T L a w → wpAny P .any arr Q fuel listed a w := by
  have ready_nil : ∀ (l : List (Nat × Kind)) (listed : Array Bool), listed.size = arr.size → (∀ i, i < arr.size → (listed.getD i true = false ↔ i ∈ l.map (·.1))) → (∀ x, x ∈ l → x.1 < arr.size) →
      Region.ready .any arr listed = [] → l = [] := by
    intro l listed hsz hl hlt hr
    cases l with
    | nil => rfl
    | cons x l =>
      exfalso
      -- the least that is not listed is ready
      have hex : ∃ i, i < arr.size ∧ listed.getD i true = false := ⟨x.1, hlt x (List.mem_cons_self ..), (hl _ (hlt x (List.mem_cons_self ..))).2 (by simp)⟩
      have least : ∀ n i, i ≤ n → i < arr.size → listed.getD i true = false → ∃ j, j < arr.size ∧ listed.getD j true = false ∧ ∀ k, k < j → listed.getD k true = true := by
        intro n
        induction n with
        | zero => intro i h0 hi hf; exact ⟨i, hi, hf, fun k hk => by omega⟩
        | succ n ih =>
          intro i h0 hi hf
          by_cases h : ∃ k, k < i ∧ listed.getD k true = false
          · obtain ⟨k, hk, hkf⟩ := h; exact ih k (by omega) (by omega) hkf
          · refine ⟨i, hi, hf, fun k hk => ?_⟩
            cases hv : listed.getD k true with
            | true => rfl
            | false => exact absurd ⟨k, hk, hv⟩ h
      obtain ⟨i, hi, hf⟩ := hex
      obtain ⟨j, hj, hjf, hmin⟩ := least i i (Nat.le_refl _) hi hf
      have : j ∈ Region.ready .any arr listed := by
        unfold Region.ready
        rw [List.mem_filter]
        refine ⟨List.mem_range.2 hj, ?_⟩
        have ho : arr[j]? = some arr[j] := by simp [hj]
        rw [hjf, ho]
        simp only [Bool.not_false, Bool.true_and, Option.map_some, Option.getD_some, Array.all_eq_true_iff_forall_mem]
        intro e he
        cases hbe : Region.binds .any e with
        | false => rfl
        | true =>
        have hlt' := hlow j _ ho e he hbe
        have h1 := hmin e.on hlt'
        have h2 : listed.getD e.on false = true := by
          rw [Array.getD_eq_getD_getElem?] at h1 ⊢
          rw [Array.getElem?_eq_getElem (by omega)] at h1 ⊢
          exact h1
        simp [h2]
      rw [hr] at this
      cases this
  intro fuel
  induction fuel with
  | zero =>
    intro l listed T L a w hlen hsz hc hl hnd hlt hp hch s
    have : l = [] := List.eq_nil_of_length_eq_zero (by omega)
    subst this
    refine ⟨?_, hQ T L a w hch s⟩
    cases hr : Region.ready .any arr listed with
    | nil => rfl
    | cons i r =>
      exfalso
      have hi : i ∈ Region.ready .any arr listed := by rw [hr]; exact List.mem_cons_self ..
      unfold Region.ready at hi
      rw [List.mem_filter] at hi
      obtain ⟨h1, h2⟩ := hi
      have := (hl i (List.mem_range.1 h1)).1 (by rw [Array.getD_eq_getD_getElem?]; simp at h2; exact h2.1)
      simp at this
  | succ fuel ih =>
    intro l listed T L a w hlen hsz hc hl hnd hlt hp hch s
    refine ⟨fun hr => ?_, fun i hi => ?_⟩
    · have := ready_nil l listed hsz hl hlt hr
      subst this
      exact hQ T L a w hch s
    · unfold Region.ready at hi
      rw [List.mem_filter] at hi
      obtain ⟨h1, h2⟩ := hi
      have hi' := List.mem_range.1 h1
      have ho : arr[i]? = some arr[i] := by simp [hi']
      rw [ho] at h2
      simp only [Bool.and_eq_true, Bool.not_eq_true', Option.map_some, Option.getD_some, Array.all_eq_true_iff_forall_mem, Bool.or_eq_true] at h2
      obtain ⟨hun, hpre⟩ := h2
      have hpre' : ∀ o, arr[i]? = some o → ∀ e, e ∈ o.after → Region.binds .any e = true → listed.getD e.on false = true := by
        intro o ho' e he hb
        rw [ho] at ho'
        cases ho'
        rcases hpre e he with h | h
        · rw [hb] at h; cases h
        · exact h
      have hin := (hl i hi').1 hun
      obtain ⟨y, hy, rfl⟩ := List.mem_map.1 hin
      obtain ⟨pre, post, rfl⟩ := List.append_of_mem hy
      have hpp := List.pairwise_append.1 hp
      have hsw : ∀ x, x ∈ pre → x.2.swaps y.2 = true ∧ ∃ a b, arr[x.1]? = some a ∧ arr[y.1]? = some b ∧ apartO arr a b := by
        intro x hx
        have hok := hpp.2.2 x hx y (List.mem_cons_self ..)
        unfold pairOk at hok
        rw [Bool.or_eq_true] at hok
        have hxl : x.1 < arr.size := hlt x (List.mem_append_left _ hx)
        rcases hok with hok | hok
        · exfalso
          have hanc := masks_spec arr _ _ hok
          have hlx := hanc.listed hc hsz hpre'
          have hxu := (hl x.1 hxl).2 (List.mem_map.2 ⟨x, List.mem_append_left _ hx, rfl⟩)
          rw [Array.getD_eq_getD_getElem?, Array.getElem?_eq_getElem (by omega)] at hlx hxu
          rw [Option.getD_some] at hlx hxu
          rw [hlx] at hxu
          cases hxu
        · rw [Bool.and_eq_true] at hok
          refine ⟨hok.1, arr[x.1], arr[y.1], by simp [hxl], ho, ?_⟩
          have h3 := hok.2
          rw [Array.getElem?_eq_getElem hxl, Array.getElem?_eq_getElem hi'] at h3
          obtain ⟨q1, q2, q3⟩ := Oper.apart_spec h3
          exact ⟨q1, q3, q2⟩
      obtain ⟨o, R, ho', hstep, hrest⟩ := pull hK pre T L ⟨w, s.heap⟩ hsw hch
      have hoe : o = arr[y.1] := by rw [ho] at ho'; exact (Option.some.inj ho').symm
      subst hoe
      have hnd' : (pre ++ post).map (·.1) |>.Nodup := by
        rw [List.map_append] at hnd ⊢
        rw [List.map_cons] at hnd
        exact (List.nodup_append.1 hnd |> fun ⟨n1, n2, n3⟩ => List.nodup_append.2 ⟨n1, (List.nodup_cons.1 n2).2, fun u hu v hv => n3 u hu v (List.mem_cons_of_mem _ hv)⟩)
      have hynot : y.1 ∉ (pre ++ post).map (·.1) := by
        rw [List.map_append] at hnd ⊢
        rw [List.map_cons] at hnd
        obtain ⟨n1, n2, n3⟩ := List.nodup_append.1 hnd
        intro h
        rcases List.mem_append.1 h with h | h
        · exact n3 _ h _ (List.mem_cons_self ..) rfl
        · exact (List.nodup_cons.1 n2).1 h
      have hget : ∀ (j : Nat) (d : Bool), j < arr.size → (listed.setIfInBounds y.1 true).getD j d = if y.1 = j then true else listed.getD j d := by
        intro j d hj
        rw [Array.getD_eq_getD_getElem?, Array.getElem?_setIfInBounds]
        split
        · rename_i e; subst e; simp [hsz, hi']
        · rw [Array.getD_eq_getD_getElem?]
      have next : ∀ T' L' a' w', R T' L' → Sat G m T' L' a' w' → wpAny P .any arr Q fuel (listed.setIfInBounds y.1 true) a' w' := by
        intro T' L' a' w' hR s'
        refine ih (pre ++ post) _ T' L' a' w' (by simp at hlen ⊢; omega) (by simp [hsz]) ?_ ?_ hnd' ?_ ?_ (hrest T' L' hR ⟨w', s'.heap⟩) s'
        · intro z o hz hzl e he hb
          have hzs : z < arr.size := (Array.getElem?_eq_some_iff.1 hz).1
          have hes : e.on < arr.size := Nat.lt_trans (hlow z o hz e he hb) hzs
          rw [hget _ _ hes]
          split
          · rfl
          · rw [hget _ _ hzs] at hzl
            split at hzl
            · rename_i e1; subst e1; exact hpre' o hz e he hb
            · exact hc z o hz hzl e he hb
        · intro j hj
          rw [hget _ _ hj]
          split
          · rename_i e; subst e
            exact ⟨fun h => absurd h (by simp), fun h => absurd h hynot⟩
          · rename_i hne
            rw [hl j hj]
            simp only [List.map_append, List.map_cons, List.mem_append, List.mem_cons]
            constructor
            · rintro (h | h | h)
              · exact .inl h
              · exact absurd h.symm hne
              · exact .inr h
            · rintro (h | h)
              · exact .inl h
              · exact .inr (.inr h)
        · intro x hx
          refine hlt x ?_
          rcases List.mem_append.1 hx with h | h
          · exact List.mem_append_left _ h
          · exact List.mem_append_right _ (List.mem_cons_of_mem _ h)
        · refine List.pairwise_append.2 ⟨hpp.1, (List.pairwise_cons.1 hpp.2.1).2, fun u hu v hv => hpp.2.2 u hu v (List.mem_cons_of_mem _ hv)⟩
      unfold wpOp
      rw [ho]
      simp only
      have := hstep.toW s (K := wpAny P .any arr Q fuel (listed.setIfInBounds y.1 true)) next (Q := Q)
      split
      · rename_i hw; rw [if_pos hw] at this; exact .inl this
      · rename_i hw; rw [if_neg hw] at this; exact this

theorem AWp.draw {id : Nat} (l : List (Nat × Kind)) (hm : P.follows .mixedOrders = true) (hok : drawOk arr l = true) (hK : ∀ T L L', L.Perm L' → Q .normal m T L → Q .normal m T L')
    (h : chain P arr G.nt m (Q .normal m) l T L) : AWp G P (.region id arr true) Q m T L := by
  intro a w s
  simp only [drawOk, Bool.and_eq_true, List.all_eq_true] at hok
  obtain ⟨⟨h1, h3⟩, h4⟩ := hok
  have hperm : (List.range arr.size).Perm (l.map (·.1)) := List.isPerm_iff.1 h1
  have hall : ∀ i, i < arr.size → i ∈ l.map (·.1) := fun i hi => hperm.mem_iff.1 (List.mem_range.2 hi)
  have h2 : l.length = arr.size := by have := hperm.length_eq; simpa using this.symm
  refine wp_region_any hm (draw_sound hK (fun T L a w q s => ⟨m, T, L, q, s⟩) ?_ arr.size l _ T L a _ (Nat.le_of_eq h2) (by simp) ?_ ?_ (hperm.nodup_iff.1 List.nodup_range) ?_ (pairsOk_spec h4) h ⟨s.kn, ?_, ?_, s.own, s.ext, s.new⟩)
  · intro y o ho e he hb
    have hy : y < arr.size := (Array.getElem?_eq_some_iff.1 ho).1
    have := h3 y (List.mem_range.2 hy)
    rw [ho] at this
    simp only [Option.all_some, Array.all_eq_true_iff_forall_mem] at this
    have h5 := this e he
    rw [hb] at h5
    simpa using h5
  · intro y o ho hl
    have hy : y < arr.size := (Array.getElem?_eq_some_iff.1 ho).1
    simp [hy] at hl
  · intro i hi
    simp only [Array.getD_eq_getD_getElem?, Array.getElem?_replicate, if_pos hi, Option.getD_some, true_iff]
    exact hall i hi
  · intro x hx
    exact List.mem_range.1 (hperm.mem_iff.2 (List.mem_map.2 ⟨x, hx, rfl⟩))
  · exact ⟨s.heap.mem, fun c hc => Chunk.holds_same (s.heap.chunks c hc) fun _ _ => rfl, s.heap.apart, s.heap.off⟩
  · exact ⟨s.fr.os, s.fr.tape, s.fr.output, s.fr.size, s.fr.block⟩
end
end Go.Proofs.Ytpnipajadjeifaa.Sep
