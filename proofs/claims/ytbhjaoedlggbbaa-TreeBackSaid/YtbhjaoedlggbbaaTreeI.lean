/- What is known beforehand; what the law's own small data gives. -/
import Derived.Test.YtbhjaoedlggbbaaTreeH
namespace Go.Proofs.Ytbhjaoedlggbbaa.Sep
open Go Go.RowKit
set_option linter.unusedVariables false
set_option linter.unusedSimpArgs false
section
variable {G : Ctx} {P : Program} {arr : Array Oper} {Q : Post} {m : Mem} {T : Tm} {L : List Chunk} {os : List Oper}
theorem put_same {T : Tm} {d : Nat} {v : Value} (hv : T d = some v) : put T d v = T := by
  funext i
  simp only [put]
  cases hb : Nat.beq i d with
  | true => rw [Nat.eq_of_beq_eq_true hb, hv]; rfl
  | false => rfl
theorem OpsW.knowB {d : Nat} {b : Bool} (hT : T d = some (.bool b)) (h : OpsW G P arr Q os m (put T d (.bool b)) L) : OpsW G P arr Q os m T L := by
  rwa [put_same hT] at h
theorem chain_knowB {nt : Nat} {K : Tm → List Chunk → Prop} {l : List (Nat × Kind)} {d : Nat} {b : Bool} (hT : T d = some (.bool b)) (h : chain P arr nt m K l (put T d (.bool b)) L) : chain P arr nt m K l T L := by
  rwa [put_same hT] at h
end
theorem rdNil {μ : Mem} {sz : Nat} : Rd μ (.slice none 0 0) sz [] := ⟨.inl ⟨rfl, rfl⟩, fun b off len cap h => by cases h⟩
theorem rdsNil {μ : Mem} : Rds μ (.slice none 0 0) [] [] := ⟨rdNil, rfl, fun i hi => absurd hi (Nat.not_lt_zero i)⟩
theorem climbF_path {ls : List (List UInt8)} {k : Nat} (hc : checkF ls.length = 0) (hk : k < ls.length) :
    climbF (k : Int) (ls.length : Int) (pathF k (leafHs ls ls.length)) (ls.getD k []) = (shaF (rootText ls.length (topF (leafHs ls ls.length))), true) := by
  have hl := checkF_len hc
  have h := climb_path ls.length k (leafHs ls ls.length) (by rw [leafHs_length]; omega) (by rw [leafHs_length]; exact hk) []
  rw [leafHs_length, List.append_nil] at h
  have hg : (leafHs ls ls.length).getD k [] = shaF (leafText k (ls.getD k [])) := by
    rw [leafHs, List.getD_eq_getElem?_getD, List.getElem?_map, List.getElem?_range hk]; rfl
  rw [hg] at h
  rw [climbF_some (by omega) h]
  rfl
def ls3 : List (List UInt8) := [[97], [98], [99]]
theorem ls3_bd : ∀ i, (ls3.getD i []).length ≤ 549755813888 := bd3 (by decide) (by decide) (by decide)
theorem ls3_path : (pathF 2 (leafHs ls3 3)).length = 1 := by decide +kernel
theorem ls3_bad : (climbF 2 3 (pathF 2 (leafHs ls3 3)) [100]).1 ≠ shaF (rootText 3 (topF (leafHs ls3 3))) := by decide +kernel
theorem leaf01 : shaF (leafText 0 []) ≠ shaF (leafText 1 []) := by decide +kernel
theorem log3 : IsLog 3 2 := ⟨by decide, fun e he => by match e, he with | 0, _ => decide | 1, _ => decide⟩
theorem log1 : IsLog 1 0 := ⟨by decide, fun e he => absurd he (Nat.not_lt_zero e)⟩
theorem ls3_root : rootF ls3 = (shaF (rootText 3 (topF (leafHs ls3 3))), 0) := by
  rw [rootF, if_pos (show checkF ls3.length = 0 from rfl)]; rfl
theorem ls3_prove : proveF ls3 2 = (2, 3, pathF 2 (leafHs ls3 3), 0) := proveF_ok (ls := ls3) (k := 2) rfl (by decide)
theorem ls3_prove3 : proveF ls3 3 = (0, 0, [], 2) := by
  rw [proveF, if_pos (show checkF ls3.length = 0 from rfl), if_pos (.inr (by decide))]
theorem ls3_climb : climbF 2 3 (pathF 2 (leafHs ls3 3)) [99] = (shaF (rootText 3 (topF (leafHs ls3 3))), true) := climbF_path (ls := ls3) (k := 2) rfl (by decide)
theorem nil_root : rootF [] = (zero32, 1) := rfl
theorem hsP (k : Nat) (ls : List (List UInt8)) : HsOk (pathF k (leafHs ls ls.length)) := pathF_ok (leafHs_ok _ _)
theorem rootF_code (ls : List (List UInt8)) : (rootF ls).2 = checkF ls.length := by
  unfold rootF; split
  · rename_i h; exact h.symm
  · rfl
theorem rootF_len (ls : List (List UInt8)) : (rootF ls).1.length = 32 := by
  unfold rootF; split
  · exact shaF_length _
  · rfl
theorem proveF_bad {ls : List (List UInt8)} {k : Int} (h : checkF ls.length ≠ 0 ∨ k < 0 ∨ (ls.length : Int) ≤ k) : ∃ code, proveF ls k = (0, 0, [], code) ∧ (checkF ls.length ≠ 0 → code = checkF ls.length) ∧ (checkF ls.length = 0 → code = 2) := by
  unfold proveF
  by_cases hc : checkF ls.length = 0
  · rw [if_pos hc, if_pos (by omega)]; exact ⟨2, rfl, fun h => absurd hc h, fun _ => rfl⟩
  · rw [if_neg hc]; exact ⟨_, rfl, fun _ => rfl, fun h => absurd h hc⟩
theorem light_bd {ls : List (List UInt8)} {b : Nat} (h : lightP ls) (hb : 100 ≤ b) : ∀ i, (ls.getD i []).length ≤ b := fun i => Nat.le_trans (h.2 i) hb
end Go.Proofs.Ytbhjaoedlggbbaa.Sep
