/- SuperBumps answers true at every input and leaves its arguments as they were; no condition. -/
import Derived.Test.YtpnipajadjeifaaRows
import Derived.Test.YtpnipajadjeifaaSuperE
import Derived.Test.YtpnipajadjeifaaSuper5
import Derived.WalkKit
import Derived.ProofKit
import Derived.OpenShut
import Derived.ShutString
import Derived.ChangeOld
import Derived.Below
import Derived.SizedLaws
namespace Go.Proofs.Ytpnipajadjeifaa.superBumps
open Go Go.ChangeShapes Go.WideShapes Go.ChangeAt Go.RowKit
open Go.Proofs.Ytpnipajadjeifaa.Sep
set_option linter.unusedVariables false
set_option linter.unusedSimpArgs false
theorem own : ownKnob Try.prog.godebug = none := by kernel_rfl
theorem laidOut : laidOutB Try.prog = true := by kernel_rfl
set_option maxRecDepth 100000 in
set_option maxHeartbeats 2000000 in
theorem lifted (os : Os) (started : os.Started) (H : Type) (enc : TypeId × Value → H) :
    ReturnsInHanded {} Try.checked os 5 .any (Rows.superBumpsSpec.pre6 enc Try.prog Try.f5 Rows.superBumpsRow.domain false) (Rows.superBumpsSpec.post enc Try.prog Try.f5 false true false false) := by
  refine returnsInHanded_of_change_sized (C := Try.checked) own started (by kernel_rfl) Try.func5
    (ChangeSpec.witness6 (enc := enc) (C := Try.checked) false ⟨#[], #[.agg (([.int .i64 0, .int .i64 0, .int .i64 0, .int .i64 0])).toArray, .int .i64 0, .slice none 0 0, .slice none 0 0], []⟩ 12 (by kernel_rfl) (by kernel_rfl) (by kernel_rfl) (by kernel_rfl)) ?_
  intro W base args ds gs before hval0 hW hcnd hsz0 _
  have hval : ∀ (j : Nat) t v, Try.f5.params[j]? = some t → args[j]? = some v → Value.okWide Try.prog W .any base t v := hval0
  have hW' := hW
  obtain ⟨p, q, hA0, hV, rfl, hfz, hnd⟩ := hW
  have hA : DataW.TrodAll enc Try.prog W 0 (fun _ => true) true Try.f5.params.toList args.toList ds p := hA0
  rw [Try.params5] at hA hval
  obtain ⟨v0, vs0, d0, ds0, p0, q0, hargs, rfl, rfl, h0, r0⟩ := trodAll_cons hA
  obtain ⟨v1, vs1, d1, ds1, p1, q1, rfl, rfl, rfl, h1, r1⟩ := trodAll_cons r0
  obtain ⟨v2, vs2, d2, ds2, p2, q2, rfl, rfl, rfl, h2, r2⟩ := trodAll_cons r1
  obtain ⟨v3, vs3, d3, ds3, p3, q3, rfl, rfl, rfl, h3, r3⟩ := trodAll_cons r2
  obtain ⟨rfl, rfl, rfl⟩ := trodAll_nil r3
  obtain rfl : args = #[v0, v1, v2, v3] := by cases args; simp_all
  obtain ⟨rfl, rfl⟩ := trodVars_none hV
  have k0 := h0
  have lt0 : ∀ x ∈ p0, x.block < W.heap.size := by obtain ⟨m, hm⟩ := k0; exact DataW.trod_lt m _ _ _ hm
  have hv0 := hval 0 23 v0 rfl rfl
  have T0 := Tr.of h0
  obtain ⟨cs0, rfl, hcs0⟩ := okWide_struct Try.underlying23 hv0
  obtain ⟨pa, pb, pc, pd, e0⟩ := tr_plan (i := 3) Try.underlying23 (by refine ⟨?_, ?_, ?_, ?_⟩ <;> rfl) Try.underlying3 (by kernel_rfl) (by kernel_rfl) T0
  obtain rfl : cs0 = [.int .i64 pa, .int .i64 pb, .int .i64 pc, .int .i64 pd].toArray := by apply Array.ext'; exact e0
  have k1 := h1
  have lt1 : ∀ x ∈ p1, x.block < W.heap.size := by obtain ⟨m, hm⟩ := k1; exact DataW.trod_lt m _ _ _ hm
  have hv1 := hval 1 3 v1 rfl rfl
  have T1 := Tr.of h1
  obtain ⟨z1, rfl⟩ := okWide_int Try.underlying3 hv1
  have k2 := h2
  have lt2 : ∀ x ∈ p2, x.block < W.heap.size := by obtain ⟨m, hm⟩ := k2; exact DataW.trod_lt m _ _ _ hm
  have hv2 := hval 2 46 v2 rfl rfl
  have T2 := Tr.of h2
  obtain ⟨a2, len2, cap2, rfl⟩ := okWide_slice Try.underlying46 hv2
  obtain ⟨vv2, l2, e2, hr2, _⟩ := tr_bytes Try.underlying46 Try.underlying5 (by kernel_rfl) T2
  cases e2
  have k3 := h3
  have lt3 : ∀ x ∈ p3, x.block < W.heap.size := by obtain ⟨m, hm⟩ := k3; exact DataW.trod_lt m _ _ _ hm
  have hv3 := hval 3 47 v3 rfl rfl
  have T3 := Tr.of h3
  obtain ⟨a3, len3, cap3, rfl⟩ := okWide_slice Try.underlying47 hv3
  obtain ⟨vv3, l3, e3, hr3, _⟩ := tr_bools Try.underlying47 Try.underlying4 (by kernel_rfl) T3
  cases e3
  clear hA0 hval0 hsz0
  refine Calls.mono (law_calls (bumps_c pa pb pc pd z1 _ _ l2 l3 _ hr2 hr3)) fun e W' ⟨he, bel⟩ => ?_
  subst he
  exact ⟨_, rfl, _, _, _, [], _, [], hW', trodAll_mk1 (shut_bool Try.underlying4 _), (trodAll_cons_mk (Below.trod laidOut (by kernel_rfl) (of_decide_eq_true (by kernel_rfl)) k0 bel lt0) (trodAll_cons_mk (Below.trod laidOut (by kernel_rfl) (of_decide_eq_true (by kernel_rfl)) k1 bel lt1) (trodAll_cons_mk (Below.trod laidOut (by kernel_rfl) (of_decide_eq_true (by kernel_rfl)) k2 bel lt2) (trodAll_cons_mk (Below.trod laidOut (by kernel_rfl) (of_decide_eq_true (by kernel_rfl)) k3 bel lt3) trodAll_mk0)))), rfl, bel.frame _, fun h => by cases h⟩
theorem over : Rows.superBumpsRow.holds Try.pinned (OpenSpec.ofChange Rows.superBumpsSpec) :=
  OpenClaim.holds_of_wide 5 Try.f5 rfl rfl rfl rfl rfl rfl rfl ⟨rfl, rfl, rfl, rfl, rfl⟩ rfl rfl rfl rfl rfl (by kernel_rfl) Try.func5 (by kernel_rfl)
    (of_decide_eq_true (by kernel_rfl)) (by unfold Func.isWrapper; first | (rw [if_pos (by decide +kernel)]; kernel_rfl) | (rw [if_neg (by decide +kernel)]; exact ⟨rfl, rfl⟩))
    (fun os started H enc _ => lifted os started H enc)
theorem proved : Rows.SuperBumpsSaid := over
#print axioms proved
end Go.Proofs.Ytpnipajadjeifaa.superBumps
namespace Go.Proofs.Ytpnipajadjeifaa
/-- The row, under a short name, for the claim. -/
theorem superBumps_holds : Rows.SuperBumpsSaid := superBumps.proved
end Go.Proofs.Ytpnipajadjeifaa
