/- Arguments opened: what a reading of a call's arguments says of memory; a law's row out of a contract. -/
import Derived.Test.YtpnipajadjeifaaSepW
import Derived.ChangeArms
import Derived.Carry
import Derived.ChangeOld
import Derived.SizedLaws
namespace Go.Proofs.Ytpnipajadjeifaa.Sep
open Go Go.RowKit
set_option linter.unusedVariables false
set_option linter.unusedSimpArgs false

/-- All that a world's cells hold. -/
def memW (W : World) : Mem := fun a u => W.cell? a = some u

/-- These cells can be read as a value of the type. -/
def Tr (P : Program) (W : World) (t : TypeId) (cs : List Value) : Prop :=
  ∃ (H : Type) (enc : TypeId × Value → H) (fuel : Nat) (x : DataW H × List MemPlace), DataW.trod enc P W 0 (fun _ => true) true fuel t cs = some x

theorem Tr.of {H : Type} {enc : TypeId × Value → H} {P : Program} {W : World} {t : TypeId} {v : Value} {d : DataW H} {ps : List MemPlace}
    (h : DataW.Trod enc P W 0 (fun _ => true) true t v d ps) : Tr P W t v.cells.toList := by
  obtain ⟨fuel, h⟩ := h
  exact ⟨H, enc, fuel, _, h⟩

section
variable {P : Program} {W : World} {t : TypeId} {cs : List Value}
theorem tr_int {k : IntKind} (ht : P.underlying t = some (.int k)) (h : Tr P W t cs) : ∃ n, cs = [.int k n] ∧ (Lit.int k n).wf = true := by
  obtain ⟨H, enc, fuel, x, h⟩ := h
  obtain ⟨n, h1, _, h2⟩ := DataW.trod_int ht h
  exact ⟨n, h1, h2⟩
theorem tr_bool (ht : P.underlying t = some .bool) (h : Tr P W t cs) : ∃ b, cs = [.bool b] := by
  obtain ⟨H, enc, fuel, x, h⟩ := h
  obtain ⟨b, h1, _⟩ := DataW.trod_bool ht h
  exact ⟨b, h1⟩
theorem tr_string (ht : P.underlying t = some .string) (h : Tr P W t cs) : ∃ s, cs = [.string s] ∧ s.size ≤ maxLen := by
  obtain ⟨H, enc, fuel, x, h⟩ := h
  obtain ⟨s, h1, _, h2⟩ := DataW.trod_string ht h
  exact ⟨s, h1, h2⟩
theorem tr_struct {fs : Array Field} (ht : P.underlying t = some (.struct fs)) (h : Tr P W t cs) :
    cs.length = P.cellsOf t ∧ ∀ (i : Nat) (f : Field), fs[i]? = some f → Tr P W f.type ((cs.drop f.offset).take (P.cellsOf f.type)) := by
  obtain ⟨H, enc, fuel, x, h⟩ := h
  obtain ⟨xs, n, _, _, hl, hx, hf⟩ := DataW.trod_struct ht h
  refine ⟨hl, fun i f hi => ?_⟩
  have hlt : i < xs.length := by rw [hx]; exact (Array.getElem?_eq_some_iff.1 hi).1
  exact ⟨H, enc, n, xs[i], by rw [hf i f hi, List.getElem?_eq_getElem hlt]⟩
theorem tr_field {fs : Array Field} {i off n : Nat} {a : TypeId} (ht : P.underlying t = some (.struct fs)) (hf : (fs[i]?).map (fun f => (f.type, f.offset)) = some (a, off)) (hc : P.cellsOf a = n) (h : Tr P W t cs) : Tr P W a ((cs.drop off).take n) := by
  obtain ⟨f, h1, h2⟩ := Option.map_eq_some_iff.1 hf
  cases h2
  subst hc
  exact (tr_struct ht h).2 i f h1
theorem tr_array {n : Nat} {e : TypeId} (ht : P.underlying t = some (.array n e)) (h : Tr P W t cs) :
    cs.length = P.cellsOf t ∧ ∀ i, i < n → Tr P W e ((cs.drop (i * P.cellsOf e)).take (P.cellsOf e)) := by
  obtain ⟨H, enc, fuel, x, h⟩ := h
  cases fuel with
  | zero => simp [DataW.trod] at h
  | succ k =>
    unfold DataW.trod at h
    rw [ht] at h
    simp only at h
    split at h
    · rename_i hl
      refine ⟨hl, fun i hi => ?_⟩
      simp only [Option.map_eq_some_iff] at h
      obtain ⟨xs, hm, _⟩ := h
      have hlt : i < xs.length := by have := mapM_some_length hm; simp at this; omega
      exact ⟨H, enc, k, xs[i], by rw [mapM_some_get hm i i (by simp [hi]), List.getElem?_eq_getElem hlt]⟩
    · cases h
theorem flat_rows {sz : Nat} : ∀ (rows : List (List Value)), (∀ r, r ∈ rows → r.length = sz) → rows.flatten.length = rows.length * sz
  | [], _ => by simp
  | r :: rows, h => by
    rw [List.flatten_cons, List.length_append, flat_rows rows (fun x hx => h x (List.mem_cons_of_mem _ hx)), h r (List.mem_cons_self ..), List.length_cons, Nat.add_mul]; omega
theorem flat_row {sz : Nat} : ∀ (rows : List (List Value)) (i j : Nat), (∀ r, r ∈ rows → r.length = sz) → j < sz → rows.flatten[i * sz + j]? = (rows[i]?).bind (·[j]?)
  | [], i, j, _, _ => by simp
  | r :: rows, 0, j, h, hj => by
    have := h r (List.mem_cons_self ..)
    rw [List.flatten_cons, Nat.zero_mul, Nat.zero_add, List.getElem?_append_left (by omega)]; rfl
  | r :: rows, i + 1, j, h, hj => by
    have hr := h r (List.mem_cons_self ..)
    rw [List.flatten_cons, List.getElem?_append_right (by rw [hr, Nat.add_mul]; omega), hr, show (i + 1) * sz + j - sz = i * sz + j by rw [Nat.add_mul]; omega, flat_row rows i j (fun x hx => h x (List.mem_cons_of_mem _ hx)) hj]
    rfl
theorem tr_slice {e : TypeId} {sz : Nat} (ht : P.underlying t = some (.slice e)) (hc : P.cellsOf e = sz) (h0 : 0 < sz) (h : Tr P W t cs) :
    ∃ (v : Value) (rows : List (List Value)), cs = [v] ∧ Rd (memW W) v sz rows.flatten ∧ rows.length ≤ maxLen ∧ ∀ r, r ∈ rows → r.length = sz ∧ Tr P W e r := by
  obtain ⟨H, enc, fuel, x, h⟩ := h
  rcases DataW.trod_slice ht h with ⟨rfl, _⟩ | ⟨a, len, cap, elems, rest, n, _, rfl, _, _, hl, hm, hlen, hel, _, _⟩
  · exact ⟨_, [], rfl, ⟨.inl ⟨rfl, rfl⟩, fun b off len cap hv => by cases hv⟩, Nat.zero_le _, fun r hr => by cases hr⟩
  · subst hc
    have key : ∀ i, i < len → ∃ r, W.cells? 0 (a.add (i * P.cellsOf e)) (P.cellsOf e) = some r ∧ Tr P W e r := by
      intro i hi
      have h1 := hel i hi
      rw [List.getElem?_eq_getElem (by omega), Option.bind_eq_some_iff] at h1
      obtain ⟨r, h2, h3⟩ := h1
      exact ⟨r, h2, H, enc, n, _, h3⟩
    have keyf : ∀ i, ∃ r, i < len → W.cells? 0 (a.add (i * P.cellsOf e)) (P.cellsOf e) = some r ∧ Tr P W e r := fun i => by
      by_cases hi : i < len
      · obtain ⟨r, hr⟩ := key i hi; exact ⟨r, fun _ => hr⟩
      · exact ⟨[], fun h => absurd h hi⟩
    let f : Nat → List Value := fun i => (keyf i).choose
    have hf : ∀ i, i < len → W.cells? 0 (a.add (i * P.cellsOf e)) (P.cellsOf e) = some (f i) ∧ Tr P W e (f i) := fun i hi => (keyf i).choose_spec hi
    have hfl : ∀ i, i < len → (f i).length = P.cellsOf e := fun i hi => (World.cells?_some (hf i hi).1).2.1
    have hrows : ∀ r, r ∈ (List.range len).map f → r.length = P.cellsOf e ∧ Tr P W e r := by
      intro r hr
      obtain ⟨i, hi, rfl⟩ := List.mem_map.1 hr
      have hi := List.mem_range.1 hi
      exact ⟨hfl i hi, (hf i hi).2⟩
    have hfr := flat_rows ((List.range len).map f) (fun r hr => (hrows r hr).1)
    rw [List.length_map, List.length_range] at hfr
    refine ⟨_, (List.range len).map f, rfl, ⟨?_, ?_⟩, by simp; omega, hrows⟩
    · rcases Nat.eq_zero_or_pos len with rfl | hpos
      · exact .inr (.inr ⟨a, cap, rfl, rfl⟩)
      · refine .inr (.inl ⟨a.block, a.off, len, cap, ?_, hfr, hl⟩)
        have h1 := (World.cells?_some (hf 0 hpos).1).2.2 0 h0
        rw [Nat.zero_mul] at h1
        have e0 : ∀ a : Addr, (a.add 0).add 0 = a := fun a => rfl
        rw [e0] at h1
        have hne : (f 0)[0]? ≠ none := by rw [List.getElem?_eq_getElem (by rw [hfl 0 hpos]; exact h0)]; simp
        cases hs : a.spot with
        | none => cases a; cases hs; rfl
        | some s =>
          exfalso
          apply hne
          rw [← h1]
          unfold World.cell?
          split
          · simp [hs]
          · rfl
    · intro b off len' cap' hv i u hi
      cases hv
      have hil : i < ((List.range len).map f).flatten.length := (List.getElem?_eq_some_iff.1 hi).1
      rw [hfr] at hil
      have hdm := Nat.div_add_mod i (P.cellsOf e)
      have hj := Nat.mod_lt i h0
      have hq : i / P.cellsOf e < len := Nat.div_lt_of_lt_mul (by rw [Nat.mul_comm]; exact hil)
      rw [show i = i / P.cellsOf e * P.cellsOf e + i % P.cellsOf e by rw [Nat.mul_comm]; exact hdm.symm, flat_row _ _ _ (fun r hr => (hrows r hr).1) hj, List.getElem?_map, List.getElem?_range hq] at hi
      have h2 := (World.cells?_some (hf _ hq).1).2.2 _ hj
      rw [add_mk, add_mk] at h2
      show W.cell? _ = some u
      have e2 : off + i = off + i / P.cellsOf e * P.cellsOf e + i % P.cellsOf e := by
        rw [Nat.add_assoc, show i / P.cellsOf e * P.cellsOf e + i % P.cellsOf e = i by rw [Nat.mul_comm]; exact hdm]
      rw [e2, h2]
      exact hi
theorem wf_u8 {n : Int} (h : (Lit.int .u8 n).wf = true) : ∃ b : UInt8, Value.int .u8 n = bV b := by
  have h2 : 0 ≤ n ∧ n < 256 := by
    simp [Lit.wf, IntKind.min, IntKind.max, IntKind.bits, IntKind.signed] at h
    omega
  refine ⟨UInt8.ofNat n.toNat, ?_⟩
  simp only [bV, UInt8.toNat_ofNat']
  congr 1
  rw [Nat.mod_eq_of_lt (by omega)]; omega
theorem tr_byte (ht : P.underlying t = some (.int .u8)) (h : Tr P W t cs) : ∃ b : UInt8, cs = [bV b] := by
  obtain ⟨n, rfl, hw⟩ := tr_int ht h
  obtain ⟨b, hb⟩ := wf_u8 hw
  exact ⟨b, by rw [hb]⟩
/-- Rows that are all of a form, as one list of what they are. -/
theorem rows_of {α : Type} {Q : List Value → Prop} {f : α → List Value} (hq : ∀ r, Q r → ∃ a, r = f a) : ∀ (rows : List (List Value)), (∀ r, r ∈ rows → Q r) → ∃ l : List α, rows = l.map f
  | [], _ => ⟨[], rfl⟩
  | r :: rows, h => by
    obtain ⟨a, rfl⟩ := hq r (h r (List.mem_cons_self ..))
    obtain ⟨l, rfl⟩ := rows_of hq rows (fun x hx => h x (List.mem_cons_of_mem _ hx))
    exact ⟨a :: l, rfl⟩
theorem flat_single {α : Type} {f : α → Value} : ∀ (l : List α), (l.map fun a => [f a]).flatten = l.map f
  | [] => rfl
  | a :: l => by simp [flat_single l]
theorem tr_bytes {e : TypeId} (ht : P.underlying t = some (.slice e)) (he : P.underlying e = some (.int .u8)) (hc : P.cellsOf e = 1) (h : Tr P W t cs) :
    ∃ (v : Value) (d : List UInt8), cs = [v] ∧ Rd (memW W) v 1 (d.map bV) ∧ d.length ≤ maxLen := by
  obtain ⟨v, rows, rfl, hr, hl, hrows⟩ := tr_slice ht hc (by decide) h
  obtain ⟨d, rfl⟩ := rows_of (Q := Tr P W e) (f := fun b : UInt8 => [bV b]) (fun r hr => tr_byte he hr) rows (fun r hr => (hrows r hr).2)
  rw [flat_single] at hr
  exact ⟨v, d, rfl, hr, by simpa using hl⟩
theorem tr_bytesArr {e : TypeId} {n : Nat} (ht : P.underlying t = some (.array n e)) (he : P.underlying e = some (.int .u8)) (hc : P.cellsOf e = 1) (hn : P.cellsOf t = n) (h : Tr P W t cs) :
    ∃ (d : List UInt8), cs = d.map bV ∧ d.length = n := by
  obtain ⟨hl, hi⟩ := tr_array ht h
  have hb : ∀ i, i < n → ∃ b : UInt8, cs[i]? = some (bV b) := fun i h => by
    obtain ⟨b, hb⟩ := tr_byte he (hi i h)
    rw [hc, Nat.mul_one] at hb
    refine ⟨b, ?_⟩
    have := congrArg (·[0]?) hb
    simpa using this
  have key : ∀ (cs : List Value), (∀ v, v ∈ cs → ∃ b : UInt8, v = bV b) → ∃ d : List UInt8, cs = d.map bV := by
    intro cs
    induction cs with
    | nil => intro _; exact ⟨[], rfl⟩
    | cons v cs ih =>
      intro h
      obtain ⟨b, rfl⟩ := h v (List.mem_cons_self ..)
      obtain ⟨d, rfl⟩ := ih fun x hx => h x (List.mem_cons_of_mem _ hx)
      exact ⟨b :: d, rfl⟩
  obtain ⟨d, rfl⟩ := key cs fun v hv => by
    obtain ⟨i, hi', rfl⟩ := List.getElem_of_mem hv
    obtain ⟨b, hb'⟩ := hb i (by omega)
    exact ⟨b, by rw [List.getElem?_eq_getElem hi'] at hb'; exact Option.some.inj hb'⟩
  exact ⟨d, rfl, by simpa [hn] using hl⟩
end

theorem okWide_arr {P : Program} {w : World} {r : Reach} {base : Nat} {t : TypeId} {v : Value} {n : Nat} {e : TypeId} (ht : P.underlying t = some (.array n e)) (h : Value.okWide P w r base t v) : ∃ cs, v = .agg cs ∧ cs.size = P.cellsOf t := by
  simp only [Value.okWide, ht] at h
  obtain ⟨cs, h1, h2, _⟩ := h
  exact ⟨cs, h1, h2⟩

theorem memW_sat (W : World) : SatH (memW W) [] W :=
  ⟨fun _ _ h => h, (fun _ h => (List.not_mem_nil h).elim), List.Pairwise.nil, (fun _ h => (List.not_mem_nil h).elim)⟩

/-- A law's function, called: it answers true, and nothing that was there has turned. -/
theorem law_calls {P : Program} {f : FuncId} {args : List Value} {W : World} (h : Ctr P f args (memW W) [] (fun _ r L => r = .bool true ∧ L = [])) :
    Calls P f args.toArray W fun e W' => e = .returned (.bool true) ∧ Below W.heap.size W W' := by
  refine Calls.mono (h W (memW_sat W)) ?_
  rintro e W' ⟨m', L', hP, _, _, hf, _, _⟩
  cases e with
  | returned r =>
    obtain ⟨rfl, _⟩ := hP
    exact ⟨rfl, hf.below fun k _ ⟨c, hc, _⟩ => by cases hc⟩
  | _ => exact hP.elim
end Go.Proofs.Ytpnipajadjeifaa.Sep
