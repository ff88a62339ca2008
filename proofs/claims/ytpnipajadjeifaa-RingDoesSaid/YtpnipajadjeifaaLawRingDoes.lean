/- RingDoes answers true at every input and leaves its arguments as they were; no condition. -/
import Derived.Test.YtpnipajadjeifaaRows
import Derived.Test.YtpnipajadjeifaaSuperE
import Derived.Test.YtpnipajadjeifaaRingK
import Derived.Test.YtpnipajadjeifaaRing11
import Derived.WalkKit
import Derived.ProofKit
import Derived.OpenShut
import Derived.ShutString
import Derived.ChangeOld
import Derived.Below
import Derived.SizedLaws
namespace Go.Proofs.Ytpnipajadjeifaa.ringDoes
open Go Go.ChangeShapes Go.WideShapes Go.ChangeAt Go.RowKit
open Go.Proofs.Ytpnipajadjeifaa.Sep
set_option linter.unusedVariables false
set_option linter.unusedSimpArgs false
theorem own : ownKnob Try.prog.godebug = none := by kernel_rfl
theorem laidOut : laidOutB Try.prog = true := by kernel_rfl
set_option maxRecDepth 100000 in
set_option maxHeartbeats 2000000 in
theorem lifted (os : Os) (started : os.Started) (H : Type) (enc : TypeId × Value → H) :
    ReturnsInHanded {} Try.checked os 7 .any (Rows.ringDoesSpec.pre6 enc Try.prog Try.f7 Rows.ringDoesRow.domain false) (Rows.ringDoesSpec.post enc Try.prog Try.f7 false true false false) := by
  refine returnsInHanded_of_change_sized (C := Try.checked) own started (by kernel_rfl) Try.func7
    (ChangeSpec.witness6 (enc := enc) (C := Try.checked) false ⟨#[], #[.int .u8 0, .slice none 0 0], []⟩ 12 (by kernel_rfl) (by kernel_rfl) (by kernel_rfl) (by kernel_rfl)) ?_
  intro W base args ds gs before hval0 hW hcnd hsz0 _
  have hval : ∀ (j : Nat) t v, Try.f7.params[j]? = some t → args[j]? = some v → Value.okWide Try.prog W .any base t v := hval0
  have hW' := hW
  obtain ⟨p, q, hA0, hV, rfl, hfz, hnd⟩ := hW
  have hA : DataW.TrodAll enc Try.prog W 0 (fun _ => true) true Try.f7.params.toList args.toList ds p := hA0
  rw [Try.params7] at hA hval
  obtain ⟨v0, vs0, d0, ds0, p0, q0, hargs, rfl, rfl, h0, r0⟩ := trodAll_cons hA
  obtain ⟨v1, vs1, d1, ds1, p1, q1, rfl, rfl, rfl, h1, r1⟩ := trodAll_cons r0
  obtain ⟨rfl, rfl, rfl⟩ := trodAll_nil r1
  obtain rfl : args = #[v0, v1] := by cases args; simp_all
  obtain ⟨rfl, rfl⟩ := trodVars_none hV
  have k0 := h0
  have lt0 : ∀ x ∈ p0, x.block < W.heap.size := by obtain ⟨m, hm⟩ := k0; exact DataW.trod_lt m _ _ _ hm
  have hv0 := hval 0 5 v0 rfl rfl
  have T0 := Tr.of h0
  obtain ⟨z0, rfl⟩ := okWide_int Try.underlying5 hv0
  obtain ⟨n0, e0⟩ := tr_byte Try.underlying5 T0
  cases e0
  have k1 := h1
  have lt1 : ∀ x ∈ p1, x.block < W.heap.size := by obtain ⟨m, hm⟩ := k1; exact DataW.trod_lt m _ _ _ hm
  have hv1 := hval 1 63 v1 rfl rfl
  have T1 := Tr.of h1
  obtain ⟨a1, len1, cap1, rfl⟩ := okWide_slice Try.underlying63 hv1
  obtain ⟨vv1, l1, e1, hl1⟩ := tr_acts (i := 3) (y := 46) (u := 5) (o := 4) Try.underlying63 Try.underlying72 (by refine ⟨?_, ?_, ?_, ?_, ?_, ?_⟩ <;> rfl) Try.underlying3 Try.underlying46 Try.underlying5 Try.underlying4 (by refine ⟨?_, ?_, ?_, ?_, ?_⟩ <;> kernel_rfl) T1
  cases e1
  clear hA0 hval0 hsz0
  refine Calls.mono (law_calls (rdoes_c n0 _ l1 _ hl1)) fun e W' ⟨he, bel⟩ => ?_
  subst he
  exact ⟨_, rfl, _, _, _, [], _, [], hW', trodAll_mk1 (shut_bool Try.underlying4 _), (trodAll_cons_mk (Below.trod laidOut (by kernel_rfl) (of_decide_eq_true (by kernel_rfl)) k0 bel lt0) (trodAll_cons_mk (Below.trod laidOut (by kernel_rfl) (of_decide_eq_true (by kernel_rfl)) k1 bel lt1) trodAll_mk0)), rfl, bel.frame _, fun h => by cases h⟩
theorem over : Rows.ringDoesRow.holds Try.pinned (OpenSpec.ofChange Rows.ringDoesSpec) :=
  OpenClaim.holds_of_wide 7 Try.f7 rfl rfl rfl rfl rfl rfl rfl ⟨rfl, rfl, rfl, rfl, rfl⟩ rfl rfl rfl rfl rfl (by kernel_rfl) Try.func7 (by kernel_rfl)
    (of_decide_eq_true (by kernel_rfl)) (by unfold Func.isWrapper; first | (rw [if_pos (by decide +kernel)]; kernel_rfl) | (rw [if_neg (by decide +kernel)]; exact ⟨rfl, rfl⟩))
    (fun os started H enc _ => lifted os started H enc)
theorem proved : Rows.RingDoesSaid := over
#print axioms proved
end Go.Proofs.Ytpnipajadjeifaa.ringDoes
namespace Go.Proofs.Ytpnipajadjeifaa
/-- The row, under a short name, for the claim. -/
theorem ringDoes_holds : Rows.RingDoesSaid := ringDoes.proved
end Go.Proofs.Ytpnipajadjeifaa
