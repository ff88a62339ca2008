/- Rows of hashes: what they are in memory, how a row goes up. -/
import Derived.Test.YtbhjaoedlggbbaaTreeC
namespace Go.Proofs.Ytbhjaoedlggbbaa.Sep
open Go Go.RowKit
set_option linter.unusedVariables false
set_option linter.unusedSimpArgs false
def HsOk (hs : List (List UInt8)) : Prop := ∀ h, h ∈ hs → h.length = 32
def hC (hs : List (List UInt8)) : List Value := hs.flatten.map bV
theorem HsOk.nil : HsOk [] := fun _ h => by cases h
theorem HsOk.snoc {hs : List (List UInt8)} {h : List UInt8} (a : HsOk hs) (b : h.length = 32) : HsOk (hs ++ [h]) := fun x hx => by
  rcases List.mem_append.1 hx with hx | hx
  · exact a x hx
  · rw [List.mem_singleton.1 hx]; exact b
theorem flat_len : ∀ {hs : List (List UInt8)}, HsOk hs → hs.flatten.length = hs.length * 32
  | [], _ => rfl
  | h :: hs, ok => by
    rw [List.flatten_cons, List.length_append, flat_len fun x hx => ok x (List.mem_cons_of_mem _ hx), ok h (List.mem_cons_self ..), List.length_cons, Nat.add_mul]; omega
theorem hC_length {hs : List (List UInt8)} (ok : HsOk hs) : (hC hs).length = hs.length * 32 := by rw [hC, List.length_map, flat_len ok]
theorem hC_snoc {hs : List (List UInt8)} {h : List UInt8} : hC hs ++ h.map bV = hC (hs ++ [h]) := by simp [hC]
theorem hC_append {a b : List (List UInt8)} : hC a ++ hC b = hC (a ++ b) := by simp [hC]
theorem flat_agg {vs : List Value} : List.flatMap (fun x : Value => x.cells.toList) [.agg vs.toArray] = vs := by simp [Value.cells]
theorem HsOk.getD {hs : List (List UInt8)} (ok : HsOk hs) {i : Nat} (hi : i < hs.length) : (hs.getD i []).length = 32 := by
  rw [List.getD_eq_getElem?_getD, List.getElem?_eq_getElem hi]; exact ok _ (List.getElem_mem hi)
theorem HsOk.take {hs : List (List UInt8)} (ok : HsOk hs) (k : Nat) : HsOk (hs.take k) := fun x hx => ok x (List.mem_of_mem_take hx)
theorem HsOk.drop {hs : List (List UInt8)} (ok : HsOk hs) (k : Nat) : HsOk (hs.drop k) := fun x hx => ok x (List.mem_of_mem_drop hx)
theorem hC_drop : ∀ {hs : List (List UInt8)} (_ : HsOk hs) (k : Nat), (hC hs).drop (k * 32) = hC (hs.drop k)
  | hs, _, 0 => by simp
  | [], _, k + 1 => by simp [hC]
  | h :: hs, ok, k + 1 => by
    have e : hC (h :: hs) = h.map bV ++ hC hs := by simp [hC]
    have hl : (h.map bV).length = 32 := by rw [List.length_map]; exact ok h (List.mem_cons_self ..)
    rw [e, List.drop_append, List.drop_of_length_le (by omega), List.nil_append, hl, show (k + 1) * 32 - 32 = k * 32 by omega, hC_drop (fun x hx => ok x (List.mem_cons_of_mem _ hx)) k]
    rfl
theorem hC_get {hs : List (List UInt8)} (ok : HsOk hs) {i : Nat} (hi : i < hs.length) : ((hC hs).drop (i * 32)).take 32 = (hs.getD i []).map bV := by
  rw [hC_drop ok, List.drop_eq_getElem_cons hi]
  have e : hC (hs[i] :: hs.drop (i + 1)) = (hs[i]).map bV ++ hC (hs.drop (i + 1)) := by rw [hC, hC, List.flatten_cons, List.map_append]
  rw [e, List.take_left' (by rw [List.length_map]; exact ok _ (List.getElem_mem hi)), List.getD_eq_getElem?_getD, List.getElem?_eq_getElem hi]
  rfl
section
variable {P : Program} {T : Tm} {m : Mem} {L : List Chunk} {dst : Option Tmp} {type : TypeId} {pos : String} {after : Array Edge} {guard : Option (Nat × Bool)}
theorem loadHash {t : TypeId} {x : Operand} {v : Value} {hs : List (List UInt8)} {i : Nat} (ht : AggT P t 32) (hx : ev T x = some (elemP v (i * 32))) (hr : Rd (memOf m L) v 32 (hC hs)) (ok : HsOk hs) (hi : i < hs.length) :
    LoadOp P ⟨dst, .load t x, type, pos, after, guard⟩ m T L (.agg ((hs.getD i []).map bV).toArray) := by
  have := loadOp_elemAgg (P := P) (m := m) (L := L) (dst := dst) (type := type) (pos := pos) (after := after) (guard := guard) ht hx hr (by rw [hC_length ok]; omega) (by decide)
  rwa [hC_get ok hi] at this
theorem opBuildArr0 {t : TypeId} {n sz : Nat} {zs : List Value} (ha : ArrT P t n sz) (hz : ZeroT P t zs) : PureOp P ⟨dst, .build t #[], type, pos, after, guard⟩ T (.agg zs.toArray) := by
  obtain ⟨e, hu, hs⟩ := ha
  obtain ⟨z, hz, rfl⟩ := hz
  intro ρ hρ w
  have hun : ∀ w, (underlying t).run P w = .ok (.array n e) w := fun w => run_underlying hu w
  have hrun : (Instr.build t ((#[] : Array (Nat × Operand)).map fun p => (p.1, ρ p.2))).run P w = .ok (.agg z.cells.toList.toArray) w := by
    unfold Instr.build
    simp [hz, hun, hs, Instr.fill]
  simp only [execOp, Sem.run_bind, hrun, Result.andThen_ok, Sem.run_pure]
end

/-! a row goes up -/
def joinF (a b : List UInt8) : List UInt8 := shaF (nodeText a b)
theorem joinF_length (a b : List UInt8) : (joinF a b).length = 32 := shaF_length _
def upF : List (List UInt8) → List (List UInt8)
  | [] => []
  | [a] => [a]
  | a :: b :: r => joinF a b :: upF r
theorem upF_append : ∀ (l r : List (List UInt8)), l.length % 2 = 0 → upF (l ++ r) = upF l ++ upF r
  | [], r, _ => rfl
  | [a], r, h => by simp at h
  | a :: b :: l, r, h => by
    simp only [List.cons_append, upF, upF_append l r (by simp only [List.length_cons] at h; omega)]
theorem upF_ok : ∀ {hs : List (List UInt8)}, HsOk hs → HsOk (upF hs)
  | [], _ => HsOk.nil
  | [a], h => h
  | a :: b :: r, h => fun x hx => by
    rcases List.mem_cons.1 hx with rfl | hx
    · exact joinF_length _ _
    · exact upF_ok (fun y hy => h y (List.mem_cons_of_mem _ (List.mem_cons_of_mem _ hy))) x hx
theorem upF_length : ∀ (hs : List (List UInt8)), (upF hs).length = (hs.length + 1) / 2
  | [] => by simp [upF]
  | [a] => by simp [upF]
  | a :: b :: r => by simp only [upF, List.length_cons, upF_length r]; omega
theorem take_hs {hs : List (List UInt8)} {i : Nat} (h : i < hs.length) : hs.take (i + 1) = hs.take i ++ [hs.getD i []] := by
  rw [List.take_add_one, List.getD_eq_getElem?_getD, List.getElem?_eq_getElem h]; rfl
theorem upF_two {hs : List (List UInt8)} {k : Nat} (h : 2 * k + 2 ≤ hs.length) : upF (hs.take (2 * k)) ++ [joinF (hs.getD (2 * k) []) (hs.getD (2 * k + 1) [])] = upF (hs.take (2 * (k + 1))) := by
  have e : hs.take (2 * (k + 1)) = hs.take (2 * k) ++ [hs.getD (2 * k) [], hs.getD (2 * k + 1) []] := by
    rw [show 2 * (k + 1) = 2 * k + 1 + 1 by omega, take_hs (i := 2 * k + 1) (by omega), take_hs (i := 2 * k) (by omega), List.append_assoc]; rfl
  rw [e, upF_append _ _ (by simp; omega)]
  rfl
theorem upF_odd {hs : List (List UInt8)} {k : Nat} (h : 2 * k + 1 = hs.length) : upF (hs.take (2 * k)) ++ [hs.getD (2 * k) []] = upF hs := by
  have e : hs = hs.take (2 * k) ++ [hs.getD (2 * k) []] := by
    rw [← take_hs (by omega), List.take_of_length_le (by omega)]
  conv => rhs; rw [e]
  rw [upF_append _ _ (by simp; omega)]
  rfl
def topN : Nat → List (List UInt8) → List UInt8
  | 0, hs => hs.headD []
  | k + 1, hs => if hs.length ≤ 1 then hs.headD [] else topN k (upF hs)
theorem topN_enough : ∀ (k : Nat) (hs : List (List UInt8)), hs.length ≤ k + 1 → ∀ j, k ≤ j → topN j hs = topN k hs
  | 0, hs, h, 0, _ => rfl
  | 0, hs, h, j + 1, _ => by show (if hs.length ≤ 1 then _ else _) = _; rw [if_pos h]; rfl
  | k + 1, hs, h, j + 1, hj => by
    rw [topN, topN]
    split
    · rfl
    · exact topN_enough k (upF hs) (by rw [upF_length]; omega) j (by omega)
def topF (hs : List (List UInt8)) : List UInt8 := topN hs.length hs
theorem topF_up {hs : List (List UInt8)} (h : 1 < hs.length) : topF (upF hs) = topF hs := by
  unfold topF
  obtain ⟨n, hn⟩ : ∃ n, hs.length = n + 1 := ⟨hs.length - 1, by omega⟩
  rw [hn, topN, if_neg (by omega)]
  exact (topN_enough _ (upF hs) (Nat.le_succ _) n (by rw [upF_length]; omega)).symm
theorem topF_one {hs : List (List UInt8)} (h : hs.length ≤ 1) : topF hs = hs.getD 0 [] := by
  unfold topF
  match hs with
  | [] => rfl
  | [a] => rfl
  | a :: b :: r => simp at h
def leafHs (ls : List (List UInt8)) (k : Nat) : List (List UInt8) := (List.range k).map fun i => shaF (leafText i (ls.getD i []))
theorem leafHs_ok (ls : List (List UInt8)) (k : Nat) : HsOk (leafHs ls k) := fun h hh => by
  obtain ⟨i, _, rfl⟩ := List.mem_map.1 hh
  exact shaF_length _
theorem leafHs_succ (ls : List (List UInt8)) (k : Nat) : leafHs ls k ++ [shaF (leafText k (ls.getD k []))] = leafHs ls (k + 1) := by simp [leafHs, List.range_succ]
theorem leafHs_length (ls : List (List UInt8)) (k : Nat) : (leafHs ls k).length = k := by simp [leafHs]
def checkF (n : Nat) : Nat := if n = 0 then 1 else if 1024 < n then 7 else 0
def zero32 : List UInt8 := List.replicate 32 0
def rootF (ls : List (List UInt8)) : List UInt8 × Nat := if checkF ls.length = 0 then (shaF (rootText ls.length (topF (leafHs ls ls.length))), 0) else (zero32, checkF ls.length)
end Go.Proofs.Ytbhjaoedlggbbaa.Sep
