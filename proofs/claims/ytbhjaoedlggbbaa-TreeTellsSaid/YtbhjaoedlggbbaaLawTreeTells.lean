/- TreeTells answers true at every input and leaves its arguments as they were; no condition. -/
import Derived.Test.YtbhjaoedlggbbaaRows
import Derived.Test.YtbhjaoedlggbbaaSepX
import Derived.Test.YtbhjaoedlggbbaaTreeJ
import Derived.Test.YtbhjaoedlggbbaaTells2
import Derived.WalkKit
import Derived.ProofKit
import Derived.OpenShut
import Derived.ShutString
import Derived.ChangeOld
import Derived.Below
import Derived.SizedLaws
namespace Go.Proofs.Ytbhjaoedlggbbaa.treeTells
open Go Go.ChangeShapes Go.WideShapes Go.ChangeAt Go.RowKit
open Go.Proofs.Ytbhjaoedlggbbaa.Sep
set_option linter.unusedVariables false
set_option linter.unusedSimpArgs false
theorem own : ownKnob Try.prog.godebug = none := by kernel_rfl
theorem laidOut : laidOutB Try.prog = true := by kernel_rfl
set_option maxRecDepth 100000 in
set_option maxHeartbeats 2000000 in
theorem lifted (os : Os) (started : os.Started) (H : Type) (enc : TypeId × Value → H) :
    ReturnsInHanded {} Try.checked os 5 .any (Rows.treeTellsSpec.pre6 enc Try.prog Try.f5 Rows.treeTellsRow.domain false) (Rows.treeTellsSpec.post enc Try.prog Try.f5 false true false false) := by
  refine returnsInHanded_of_change_sized (C := Try.checked) own started (by kernel_rfl) Try.func5
    (ChangeSpec.witness6 (enc := enc) (C := Try.checked) false ⟨#[], #[.slice none 0 0, .agg (([.int .i64 0, .int .i64 0, .slice none 0 0])).toArray, .slice none 0 0], []⟩ 12 (by kernel_rfl) (by kernel_rfl) (by kernel_rfl) (by kernel_rfl)) ?_
  intro W base args ds gs before hval0 hW hcnd hsz0 _
  have hval : ∀ (j : Nat) t v, Try.f5.params[j]? = some t → args[j]? = some v → Value.okWide Try.prog W .any base t v := hval0
  have hW' := hW
  obtain ⟨p, q, hA0, hV, rfl, hfz, hnd⟩ := hW
  have hA : DataW.TrodAll enc Try.prog W 0 (fun _ => true) true Try.f5.params.toList args.toList ds p := hA0
  rw [Try.params5] at hA hval
  obtain ⟨v0, vs0, d0, ds0, p0, q0, hargs, rfl, rfl, h0, r0⟩ := trodAll_cons hA
  obtain ⟨v1, vs1, d1, ds1, p1, q1, rfl, rfl, rfl, h1, r1⟩ := trodAll_cons r0
  obtain ⟨v2, vs2, d2, ds2, p2, q2, rfl, rfl, rfl, h2, r2⟩ := trodAll_cons r1
  obtain ⟨rfl, rfl, rfl⟩ := trodAll_nil r2
  obtain rfl : args = #[v0, v1, v2] := by cases args; simp_all
  obtain ⟨rfl, rfl⟩ := trodVars_none hV
  have k0 := h0
  have lt0 : ∀ x ∈ p0, x.block < W.heap.size := by obtain ⟨m, hm⟩ := k0; exact DataW.trod_lt m _ _ _ hm
  have hv0 := hval 0 22 v0 rfl rfl
  have T0 := Tr.of h0
  obtain ⟨a0, len0, cap0, rfl⟩ := okWide_slice Try.underlying22 hv0
  obtain ⟨vv0, ls0, vs0_, e0, hr0⟩ := tr_texts Try.underlying22 Try.underlying38 Try.underlying5 (by kernel_rfl) (by kernel_rfl) T0
  cases e0
  have k1 := h1
  have lt1 : ∀ x ∈ p1, x.block < W.heap.size := by obtain ⟨m, hm⟩ := k1; exact DataW.trod_lt m _ _ _ hm
  have hv1 := hval 1 32 v1 rfl rfl
  have T1 := Tr.of h1
  obtain ⟨cs1, rfl, hcs1⟩ := okWide_struct Try.underlying32 hv1
  obtain ⟨kA, nA, pv1, ps1, e1, hp1, ok1⟩ := tr_proof (a := 3) (b := 3) (c := 30) (e := 25) (u := 5) Try.underlying32 (by refine ⟨?_, ?_, ?_⟩ <;> rfl) (by refine ⟨?_, ?_, ?_, ?_⟩ <;> kernel_rfl) (by refine ⟨?_, ?_⟩ <;> kernel_rfl) (by refine ⟨?_, ?_⟩ <;> kernel_rfl) (by refine ⟨?_, ?_⟩ <;> kernel_rfl) (by kernel_rfl) T1
  obtain rfl : cs1 = [.int .i64 kA, .int .i64 nA, pv1].toArray := by apply Array.ext'; exact e1
  have k2 := h2
  have lt2 : ∀ x ∈ p2, x.block < W.heap.size := by obtain ⟨m, hm⟩ := k2; exact DataW.trod_lt m _ _ _ hm
  have hv2 := hval 2 38 v2 rfl rfl
  have T2 := Tr.of h2
  obtain ⟨a2, len2, cap2, rfl⟩ := okWide_slice Try.underlying38 hv2
  obtain ⟨vv2, d2, e2, hd2, _⟩ := tr_bytes Try.underlying38 Try.underlying5 (by kernel_rfl) T2
  cases e2
  clear hA0 hval0 hsz0
  refine Calls.mono (law_calls (tells_c _ _ ls0 vs0_ kA nA pv1 ps1 d2 _ hr0 hp1 ok1 hd2)) fun e W' ⟨he, bel⟩ => ?_
  subst he
  exact ⟨_, rfl, _, _, _, [], _, [], hW', trodAll_mk1 (shut_bool Try.underlying4 _), (trodAll_cons_mk (Below.trod laidOut (by kernel_rfl) (of_decide_eq_true (by kernel_rfl)) k0 bel lt0) (trodAll_cons_mk (Below.trod laidOut (by kernel_rfl) (of_decide_eq_true (by kernel_rfl)) k1 bel lt1) (trodAll_cons_mk (Below.trod laidOut (by kernel_rfl) (of_decide_eq_true (by kernel_rfl)) k2 bel lt2) trodAll_mk0))), rfl, bel.frame _, fun h => by cases h⟩
theorem over : Rows.treeTellsRow.holds Try.pinned (OpenSpec.ofChange Rows.treeTellsSpec) :=
  OpenClaim.holds_of_wide 5 Try.f5 rfl rfl rfl rfl rfl rfl rfl ⟨rfl, rfl, rfl, rfl, rfl⟩ rfl rfl rfl rfl rfl (by kernel_rfl) Try.func5 (by kernel_rfl)
    (of_decide_eq_true (by kernel_rfl)) (by unfold Func.isWrapper; first | (rw [if_pos (by decide +kernel)]; kernel_rfl) | (rw [if_neg (by decide +kernel)]; exact ⟨rfl, rfl⟩))
    (fun os started H enc _ => lifted os started H enc)
theorem proved : Rows.TreeTellsSaid := over
#print axioms proved
end Go.Proofs.Ytbhjaoedlggbbaa.treeTells
namespace Go.Proofs.Ytbhjaoedlggbbaa
/-- The row, under a short name, for the claim. -/
theorem treeTells_holds : Rows.TreeTellsSaid := treeTells.proved
end Go.Proofs.Ytbhjaoedlggbbaa
