/- Appending and copying. -/
import Derived.Test.YtpnipajadjeifaaSepF
namespace Go.Proofs.Ytpnipajadjeifaa.Sep
open Go Go.RowKit
set_option linter.unusedVariables false
set_option linter.unusedSimpArgs false

/-- What is appended or copied: n elements, these cells. -/
def Src (P : Program) (m : Mem) (L : List Chunk) (v : Value) (sz n : Nat) (ys : List Value) : Prop :=
  ys.length = n * sz ∧ ∀ w, SatH m L w → (Builtin.lenOf v).run P w = .ok n w ∧ ∀ k, k ≤ n → (Builtin.firstCells sz k v).run P w = .ok (ys.take (k * sz)).toArray w

theorem src_rd {P : Program} {m : Mem} {L : List Chunk} {v : Value} {sz n : Nat} {ys : List Value} (h : Rd (memOf m L) v sz ys) (hn : ys.length = n * sz) (h0 : 0 < sz) : Src P m L v sz n ys := by
  refine ⟨hn, fun w s => ⟨?_, fun k hk => ?_⟩⟩
  · have hl := h.1.len_eq hn h0
    obtain ⟨base, cap, hv, _⟩ := h.1.shape
    rw [hv, hl]
    simp [Builtin.lenOf]
  · have hkn : k * sz ≤ n * sz := Nat.mul_le_mul_right _ hk
    rcases h.1 with ⟨rfl, rfl⟩ | ⟨b, off, len, cap, rfl, hlen, hcap⟩ | ⟨a, cap, rfl, rfl⟩
    rotate_left 2
    · refine run_firstCells_some w sz k _ 0 cap _ ?_ fun j u hj => ?_
      · have : n * sz = 0 := by simpa using hn.symm
        simp; omega
      · simp at hj
    · simp [Builtin.firstCells]
    · refine run_firstCells_some w sz k _ len cap (ys.take (k * sz)) (by simp; omega) fun j u hj => ?_
      rw [add_mk]
      have hj' : j < k * sz := by have := (List.getElem?_eq_some_iff.1 hj).1; simp at this; omega
      rw [List.getElem?_take_of_lt hj'] at hj
      exact s.read (h.2 _ _ _ _ rfl j u hj)

theorem src_str {P : Program} {m : Mem} {L : List Chunk} {s : ByteArray} : Src P m L (.string s) 1 s.size (s.data.toList.map fun b => .int .u8 b.toNat) := by
  refine ⟨by simp, fun w _ => ⟨by simp [Builtin.lenOf], fun k hk => ?_⟩⟩
  simp only [Builtin.firstCells, Sem.run_pure, Nat.mul_one]
  congr 1
  apply Array.ext'
  simp [ByteArray.data_extract, List.map_take]

def NotInt (P : Program) (t : TypeId) : Prop := ∃ d, P.underlying t = some d ∧ ∀ k, d ≠ .int k

section
variable {P : Program} {T : Tm} {m : Mem} {L : List Chunk} {dst : Option Tmp} {type : TypeId} {pos : String} {after : Array Edge} {guard : Option (Nat × Bool)}

theorem zeroCells_len (z : Array Value) (n : Nat) : (Builtin.zeroCells z n).size = n * z.size := by simp [Builtin.zeroCells]

theorem run_append {t t' e ty : TypeId} {v u : Value} {k n sz bytes : Nat} {z cs ys : List Value} (ht : SlT P t e sz bytes z) (ht' : NotInt P t') (h0 : 0 < sz) (hb0 : 0 < bytes)
    (hcs : cs.length = k * sz) (hsrc : Src P m L u sz n ys) (hb : (k + n) * bytes ≤ 140737488355328) (hone : ∀ y, y ∈ ys → one y = true) (w : World) (s : SatH m L w) (hc : (Chunk.sl v sz cs).holds w) :
    ∃ v' w', (Builtin.append_ #[t, t'] ty #[v, u]).run P w = .ok v' w' ∧ (Chunk.sl v' sz (cs ++ ys)).holds w' ∧ Fr w (Chunk.sl v sz cs).has w' ∧
      ∀ j, (Chunk.sl v' sz (cs ++ ys)).has j → (Chunk.sl v sz cs).has j ∨ w.heap.size ≤ j := by
  obtain ⟨hu, i, zv, hi, hsz, hby, hzv, hzc, hzl⟩ := ht
  have hun : ∀ w, (underlying t).run P w = .ok (.slice e) w := fun w => run_underlying hu w
  have hs : ∀ w, (sizeOf e).run P w = .ok sz w := fun w => by simp [sizeOf, typeInfo, hi, hsz]
  have hti : ∀ w, (typeInfo e).run P w = .ok i w := fun w => by simp [typeInfo, hi]
  have hze : ∀ w, (zeroValue e).run P w = .ok zv w := fun w => by simp [zeroValue, typeInfo, hi, hzv]
  obtain ⟨d, hd, hdk⟩ := ht'
  have hud : ∀ w, (underlying t').run P w = .ok d w := fun w => run_underlying hd w
  have hdm : (match (generalizing := false) d with | .int _ => true | _ => false) = false := by cases d <;> first | rfl | exact absurd rfl (hdk _)
  obtain ⟨hyl, hsrc⟩ := hsrc
  obtain ⟨hlen, hfirst⟩ := hsrc w s
  have hfn := hfirst n (Nat.le_refl _)
  rw [List.take_of_length_le (by omega)] at hfn
  have ho := Chunk.sl_ok hc
  have hk := ho.len_eq hcs h0
  have hneed : ∀ (cap : Nat), ¬ (k + n ≤ cap) → ¬ (Builtin.nextslicecap (k + n) cap * bytes > 2 ^ 48) := fun cap h => by
    have := growslice_fits (need := k + n) (old := cap) (bytes := bytes) (by omega) hb
    omega
  obtain ⟨base, cap, hv, hcap⟩ := ho.shape
  rw [hk] at hv hcap
  have hfresh : ∀ (newCap : Nat) (w1 : World), w1.heap = w.heap → w1.os = w.os → w1.tape = w.tape → w1.output = w.output → k + n ≤ newCap →
      (Builtin.firstCells sz k v).run P w1 = .ok cs.toArray w1 → (Builtin.firstCells sz n u).run P w1 = .ok ys.toArray w1 →
      ∃ v' w', ((do
          askRoom (newCap * i.bytes)
          let old ← Builtin.firstCells sz k v
          let new ← Builtin.firstCells sz n u
          let rest := Builtin.zeroCells (← zeroValue e).cells (newCap - (k + n))
          pure (.slice (some (← newRow e (old ++ new ++ rest))) (k + n) newCap) : Sem Value)).run P w1 = .ok v' w' ∧ (Chunk.sl v' sz (cs ++ ys)).holds w' ∧ Fr w (Chunk.sl v sz cs).has w' ∧
        ∀ j, (Chunk.sl v' sz (cs ++ ys)).has j → (Chunk.sl v sz cs).has j ∨ w.heap.size ≤ j := by
    intro newCap w1 hh1 hh2 hh3 hh4 hcapn hold hnew
    have hask : ∀ w, (askRoom (newCap * i.bytes)).run P w = .ok () w := by
      intro w; unfold askRoom; split
      · simp [mark, Sem.run]
      · simp
    refine ⟨.slice (some ⟨w1.heap.size, 0, none⟩) (k + n) newCap, { w1 with heap := w1.heap.push (Obj.cells (cs.toArray ++ ys.toArray ++ Builtin.zeroCells zv.cells (newCap - (k + n))) e) }, by simp only [Sem.run_bind, hask, Result.andThen_ok, hold, hnew, hze, run_newRow, Sem.run_pure], ?_, ?_, ?_⟩
    · refine .inr ⟨w1.heap.size, 0, k + n, newCap, cs.toArray ++ ys.toArray ++ Builtin.zeroCells zv.cells (newCap - (k + n)), e, (0, 0), rfl, by simp [hcs, hyl, Nat.add_mul], hcapn, ?_, by simp, okFr_zero _, fun j hj => ?_⟩
      · simp only [Array.size_append, zeroCells_len, List.size_toArray, hcs, hyl]
        have : zv.cells.size = sz := by rw [← hzl, ← hzc]; simp
        rw [this, Nat.zero_add, ← Nat.add_mul, ← Nat.add_mul]
        exact Nat.le_of_eq (by congr 1; omega)
      · rw [Nat.zero_add, Array.getElem?_append_left (by simp at hj ⊢; omega)]
        simp
    · exact ⟨hh2, hh3, hh4, by simp [hh1], fun j hj _ => by simp [hh1, Array.getElem?_push, Nat.ne_of_lt hj]⟩
    · rintro j ⟨off, len, cap, hj⟩
      cases hj
      exact .inr (by rw [hh1]; exact Nat.le_refl _)
  have hfirstv : ∀ w1 : World, (∀ a, w1.cell? a = w.cell? a) → (Builtin.firstCells sz k v).run P w1 = .ok cs.toArray w1 := by
    intro w1 h1
    rcases hc with ⟨rfl, rfl⟩ | ⟨b, off, len, cp, c, el, fr, rfl, hl, _, _, hb', _, hcc⟩
    · simp [Builtin.firstCells]
    · refine run_firstCells_some w1 sz k _ len cp cs hcs fun j x hj => ?_
      rw [add_mk, h1]
      have hj' : j < cs.length := (List.getElem?_eq_some_iff.1 hj).1
      simp [World.cell?, hb', hcc j hj', hj]
  have hun1 : (#[t, t'] : Array TypeId)[1]? = some t' := rfl
  by_cases hroom : k + n ≤ cap
  · -- in place
    rcases hc with ⟨rfl, rfl⟩ | ⟨b, off, len, cp, c, el, fr, rfl, hl, hcp, htot, hb', hf, hcc⟩
    · cases hv
      obtain rfl : n = 0 := by omega
      have hys : ys = [] := List.eq_nil_of_length_eq_zero (by simpa using hyl)
      subst hys
      refine ⟨.slice none 0 0, w, ?_, .inl ⟨rfl, rfl⟩, Fr.refl _ _, fun j hj => .inl hj⟩
      simp [Builtin.append_, hun, hs, hud, hdm, hlen, hfn]
    · cases hv
      have hspace : off + (k + n) * sz ≤ c.size := Nat.le_trans (Nat.add_le_add_left (Nat.mul_le_mul_right _ hroom) _) htot
      rw [Nat.add_mul] at hspace
      obtain ⟨w', hr, hh, hfr⟩ := run_storeCells (P := P) (o := off + k * sz) ys 0 c w hb' hf (by omega) hone
      rw [Nat.add_zero] at hh
      have hsl : (segs c.toList (off + k * sz) ys).length = c.size := by rw [segs_length (by simp; omega)]; simp
      refine ⟨.slice (some ⟨b, off, none⟩) (k + n) cap, w', ?_, ?_, ?_, ?_⟩
      · have hr' : (storeCells ⟨b, off + k * sz, none⟩ ys).run P w = .ok () w' := hr
        simp [Builtin.append_, hun, hs, hud, hdm, hlen, hfn, hroom, add_mk, hr']
      · refine .inr ⟨b, off, k + n, cap, _, el, fr, rfl, by simp [hcs, hyl, Nat.add_mul], hroom, by simpa [hsl] using htot, hh, hf.congr (by simpa using hsl), fun j hj => ?_⟩
        simp only [List.length_append] at hj
        rw [List.getElem?_toArray, segs_get (by simp; omega)]
        rcases Nat.lt_or_ge j cs.length with h1 | h1
        · rw [if_pos (by omega), List.getElem?_append_left h1]; simpa using hcc j h1
        · rw [if_neg (by omega), if_pos (by omega), List.getElem?_append_right h1]; congr 1; omega
      · exact ⟨hfr.os, hfr.tape, hfr.output, hfr.size, fun j hj hne => hfr.block j hj fun e => hne (by subst e; exact ⟨off, _, cap, rfl⟩)⟩
      · rintro j ⟨o', l', c', hj⟩
        cases hj
        exact .inl ⟨off, _, cap, rfl⟩
  · -- elsewhere
    have hq : (Question.appendCap (k + n) cap e).forced = false := rfl
    let newCap := (Question.appendCap (k + n) cap e).cut (w.tape w.drawn (.appendCap (k + n) cap e))
    have hnc : k + n ≤ newCap := Nat.le_add_right _ _
    obtain ⟨v', w', hrun, rest⟩ := hfresh newCap { w with drawn := w.drawn + 1 } rfl rfl rfl rfl hnc (hfirstv _ fun a => rfl)
      (by have s1 : SatH m L { w with drawn := w.drawn + 1 } := ⟨s.mem, fun c hc => Chunk.holds_same (s.chunks c hc) fun _ _ => rfl, s.apart, s.off⟩
          have := (hsrc _ s1).2 n (Nat.le_refl _)
          rwa [List.take_of_length_le (by omega)] at this)
    refine ⟨v', w', ?_, rest⟩
    rw [hv] at hrun ⊢
    have hnot : ¬ (i.bytes = 0) := by omega
    have hgr := hneed cap hroom
    rw [← hby] at hgr
    rw [← hrun]
    simp only [Builtin.append_, List.getElem?_toArray, List.getElem?_cons_zero, List.getElem?_cons_succ, Sem.run_bind, hun, hs, hud, hdm, hlen, Result.andThen_ok, Sem.run_pure, if_neg hroom]
    simp [hti, hnot, hgr, choose, Sem.run, hq, hlen, hroom]
    rfl
end
end Go.Proofs.Ytpnipajadjeifaa.Sep
