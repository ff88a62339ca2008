/- Zeros appended. -/
import Derived.Test.YtpnipajadjeifaaSepM
namespace Go.Proofs.Ytpnipajadjeifaa.Sep
open Go Go.RowKit
set_option linter.unusedVariables false
set_option linter.unusedSimpArgs false
section
variable {P : Program} {T : Tm} {m : Mem} {L : List Chunk} {dst : Option Tmp} {type : TypeId} {pos : String} {after : Array Edge} {guard : Option (Nat × Bool)}
theorem run_appendZ {t t' e ty : TypeId} {v z : Value} {k n bytes : Nat} {cs : List Value} (ht : SlT P t e 1 bytes [z]) (ht' : P.underlying t' = some (.int .i64)) (hb0 : 0 < bytes) (hn : 0 < n)
    (hcs : cs.length = k * 1) (hb : (k + n) * bytes ≤ 140737488355328) (hone : one z = true) (w : World) (s : SatH m L w) (hc : (Chunk.sl v 1 cs).holds w) :
    ∃ v' w', (Builtin.append_ #[t, t'] ty #[v, .int .i64 (n : Int)]).run P w = .ok v' w' ∧ (Chunk.sl v' 1 (cs ++ List.replicate n z)).holds w' ∧ Fr w (Chunk.sl v 1 cs).has w' ∧
      ∀ j, (Chunk.sl v' 1 (cs ++ List.replicate n z)).has j → (Chunk.sl v 1 cs).has j ∨ w.heap.size ≤ j := by
  obtain ⟨hu, i, zv, hi, hsz, hby, hzv, hzc, hzl⟩ := ht
  have hun : ∀ w, (underlying t).run P w = .ok (.slice e) w := fun w => run_underlying hu w
  have hs : ∀ w, (sizeOf e).run P w = .ok 1 w := fun w => by simp [sizeOf, typeInfo, hi, hsz]
  have hti : ∀ w, (typeInfo e).run P w = .ok i w := fun w => by simp [typeInfo, hi]
  have hze : ∀ w, (zeroValue e).run P w = .ok zv w := fun w => by simp [zeroValue, typeInfo, hi, hzv]
  have hud : ∀ w, (underlying t').run P w = .ok (.int .i64) w := fun w => run_underlying ht' w
  have hsmall : k + n ≤ 140737488355328 := Nat.le_trans (Nat.le_mul_of_pos_right _ hb0) hb
  have hzs : zv.cells.size = 1 := by rw [← Array.length_toList, hzc]; rfl
  have hzz : Builtin.zeroCells zv.cells n = (List.replicate n z).toArray := by
    have hz0 : zv.cells = #[z] := by apply Array.ext'; exact hzc
    have h1 := zeros_size (z := zv.cells) (n := n) hzs
    unfold Builtin.zeroCells
    rw [hzs, Nat.mul_one]
    rw [hz0] at h1 ⊢
    exact h1
  have hyl : (List.replicate n z).length = n * 1 := by simp
  have hones : ∀ y, y ∈ List.replicate n z → one y = true := fun y hy => by rw [List.eq_of_mem_replicate hy]; exact hone
  have ho := Chunk.sl_ok hc
  have hk := ho.len_eq hcs (by decide)
  have hneed : ∀ (cap : Nat), ¬ (k + n ≤ cap) → ¬ (Builtin.nextslicecap (k + n) cap * bytes > 2 ^ 48) := fun cap h => by
    have := growslice_fits (need := k + n) (old := cap) (bytes := bytes) (by omega) hb
    omega
  have hw : IntKind.i64.wrap (n : Int) = n := by simp [IntKind.wrap, IntKind.bits, IntKind.signed]; omega
  have hneg : ¬ ((n : Int) < 0) := by omega
  have hbig : ¬ (281474976710656 < (n : Int) * (i.bytes : Int)) := by
    have h1 : n * i.bytes ≤ 140737488355328 := Nat.le_trans (Nat.mul_le_mul_right _ (Nat.le_add_left n k)) (by rw [hby]; exact hb)
    have : ((n * i.bytes : Nat) : Int) ≤ ((140737488355328 : Nat) : Int) := Int.ofNat_le.2 h1
    rw [Int.natCast_mul] at this
    omega
  obtain ⟨base, cap, hv, hcap⟩ := ho.shape
  rw [hk] at hv hcap
  have hfirstv : ∀ w1 : World, (∀ a, w1.cell? a = w.cell? a) → (Builtin.firstCells 1 k v).run P w1 = .ok cs.toArray w1 := by
    intro w1 h1
    rcases hc with ⟨rfl, rfl⟩ | ⟨b, off, len, cp, c, el, fr, rfl, hl, _, _, hb', _, hcc⟩
    · simp [Builtin.firstCells]
    · refine run_firstCells_some w1 1 k _ len cp cs hcs fun j x hj => ?_
      rw [add_mk, h1]
      have hj' : j < cs.length := (List.getElem?_eq_some_iff.1 hj).1
      simp [World.cell?, hb', hcc j hj', hj]
  by_cases hroom : k + n ≤ cap
  · rcases hc with ⟨rfl, rfl⟩ | ⟨b, off, len, cp, c, el, fr, rfl, hl, hcp, htot, hb', hf, hcc⟩
    · cases hv
      omega
    · cases hv
      have hspace : off + (k + n) * 1 ≤ c.size := Nat.le_trans (Nat.add_le_add_left (Nat.mul_le_mul_right _ hroom) _) htot
      rw [Nat.add_mul] at hspace
      obtain ⟨w', hr, hh, hfr⟩ := run_storeCells (P := P) (o := off + k * 1) (List.replicate n z) 0 c w hb' hf (by simp; omega) hones
      rw [Nat.add_zero] at hh
      have hsl : (segs c.toList (off + k * 1) (List.replicate n z)).length = c.size := by rw [segs_length (by simp; omega)]; simp
      refine ⟨.slice (some ⟨b, off, none⟩) (k + n) cap, w', ?_, ?_, ?_, ?_⟩
      · have hr' : (storeCells ⟨b, off + k * 1, none⟩ (List.replicate n z)).run P w = .ok () w' := hr
        rw [Nat.mul_one] at hr'
        have hn0 : ¬ n = 0 := by omega
        simp [Builtin.append_, hun, hs, hud, asInt, asIntOf, hw, hneg, hti, hbig, hroom, add_mk, hr', hze, hzz, hn0]
      · refine .inr ⟨b, off, k + n, cap, _, el, fr, rfl, by simp [hcs], hroom, by rw [List.size_toArray, hsl]; exact htot, hh, hf.congr (by simpa using hsl), fun j hj => ?_⟩
        simp only [List.length_append] at hj
        rw [List.getElem?_toArray, segs_get (by simp; omega)]
        rcases Nat.lt_or_ge j cs.length with h1 | h1
        · rw [if_pos (by omega), List.getElem?_append_left h1]; simpa using hcc j h1
        · rw [if_neg (by omega), if_pos (by omega), List.getElem?_append_right h1]; congr 1; omega
      · exact ⟨hfr.os, hfr.tape, hfr.output, hfr.size, fun j hj hne => hfr.block j hj fun e => hne (by subst e; exact ⟨off, _, cap, rfl⟩)⟩
      · rintro j ⟨o', l', c', hj⟩
        cases hj
        exact .inl ⟨off, _, cap, rfl⟩
  · have hq : (Question.appendCap (k + n) cap e).forced = false := rfl
    let newCap := (Question.appendCap (k + n) cap e).cut (w.tape w.drawn (.appendCap (k + n) cap e))
    have hnc : k + n ≤ newCap := Nat.le_add_right _ _
    let w1 : World := { w with drawn := w.drawn + 1 }
    have hold := hfirstv w1 fun a => rfl
    have hask : ∀ w, (askRoom (newCap * i.bytes)).run P w = .ok () w := by
      intro w; unfold askRoom; split
      · simp [mark, Sem.run]
      · simp
    refine ⟨.slice (some ⟨w1.heap.size, 0, none⟩) (k + n) newCap, { w1 with heap := w1.heap.push (Obj.cells (cs.toArray ++ (List.replicate n z).toArray ++ Builtin.zeroCells zv.cells (newCap - (k + n))) e) }, ?_, ?_, ?_, ?_⟩
    · rw [hv] at hold ⊢
      have hnot : ¬ (i.bytes = 0) := by omega
      have hgr := hneed cap hroom
      rw [← hby] at hgr
      have hn0 : ¬ n = 0 := by omega
      have hmax : ¬ (9223372036854775807 < (k : Int) + (n : Int)) := by omega
      have hi64 : IntKind.i64.max = 9223372036854775807 := rfl
      have hgr2 : ¬ (281474976710656 < Builtin.nextslicecap (k + n) cap * i.bytes) := by simpa using hgr
      have hrun : ((do
          askRoom (newCap * i.bytes)
          let old ← Builtin.firstCells 1 k (.slice base k cap)
          let new ← (pure (List.replicate n z).toArray : Sem (Array Value))
          let rest := Builtin.zeroCells (← zeroValue e).cells (newCap - (k + n))
          pure (.slice (some (← newRow e (old ++ new ++ rest))) (k + n) newCap) : Sem Value)).run P w1 = .ok (.slice (some ⟨w1.heap.size, 0, none⟩) (k + n) newCap) { w1 with heap := w1.heap.push (Obj.cells (cs.toArray ++ (List.replicate n z).toArray ++ Builtin.zeroCells zv.cells (newCap - (k + n))) e) } := by
        simp only [Sem.run_bind, hask, Result.andThen_ok, hold, hze, run_newRow, Sem.run_pure]
      rw [← hrun]
      simp only [Builtin.append_, List.getElem?_toArray, List.getElem?_cons_zero, List.getElem?_cons_succ, Sem.run_bind, hun, hs, hud, Result.andThen_ok, Sem.run_pure]
      simp [asInt, asIntOf, hw, hneg, hti, hbig, hroom, hnot, hgr, choose, Sem.run, hq, hze, hzz, hn0, hmax, hi64, hgr2]
      rfl
    · refine .inr ⟨w1.heap.size, 0, k + n, newCap, cs.toArray ++ (List.replicate n z).toArray ++ Builtin.zeroCells zv.cells (newCap - (k + n)), e, (0, 0), rfl, by simp [hcs], hnc, ?_, by simp, okFr_zero _, fun j hj => ?_⟩
      · simp only [Array.size_append, zeroCells_len, List.size_toArray, hcs, hyl, hzs]
        omega
      · rw [Nat.zero_add, Array.getElem?_append_left (by simp at hj ⊢; omega), List.append_toArray]
        exact List.getElem?_toArray
    · exact ⟨rfl, rfl, rfl, by simp [w1], fun j hj _ => by simp [w1, Array.getElem?_push, Nat.ne_of_lt hj]⟩
    · rintro j ⟨off, len, cap, hj⟩
      cases hj
      exact .inr (Nat.le_refl _)
theorem lop_appendZ {t t' e ty : TypeId} {x y : Operand} {v z : Value} {k n bytes : Nat} {cs : List Value} (ht : SlT P t e 1 bytes [z]) (ht' : P.underlying t' = some (.int .i64))
    (hx : ev T x = some v) (hy : ev T y = some (.int .i64 (n : Int))) (hcs : cs.length = k * 1) (hb : (k + n) * bytes ≤ 140737488355328) (hone : one z = true) (hn : 0 < n) (hb0 : 0 < bytes) :
    LOp P ⟨dst, .call ⟨.builtin .append, #[x, y], #[t, t']⟩, ty, pos, after, guard⟩ m T L (.sl v 1 cs) (fun v' c => slOk v' 1 (cs ++ List.replicate n z) ∧ c = .sl v' 1 (cs ++ List.replicate n z)) := by
  intro ρ hρ w s hm
  have hx := hρ x (by simp [Op.operands, Call.operands]) _ hx
  have hy := hρ y (by simp [Op.operands, Call.operands]) _ hy
  obtain ⟨v', w', hr, hh, hf, ho⟩ := run_appendZ (P := P) (ty := ty) ht ht' hb0 hn hcs hb hone w s (s.chunks _ hm)
  exact ⟨_, v', _, w', by simp [execOp, resolve, invoke, builtin, hx, hy, hr], .inl rfl, ⟨Chunk.sl_ok hh, rfl⟩, hh, hf, ho⟩
end
end Go.Proofs.Ytpnipajadjeifaa.Sep
