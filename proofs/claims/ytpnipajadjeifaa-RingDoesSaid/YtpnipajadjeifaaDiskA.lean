/- Disks: sectors that last, writes that wait; what the package disk computes, in plain Lean. -/
import Derived.Test.YtpnipajadjeifaaSepP
import Derived.Test.YtpnipajadjeifaaSuperA
namespace Go.Proofs.Ytpnipajadjeifaa.Sep
open Go Go.RowKit
set_option linter.unusedVariables false
set_option linter.unusedSimpArgs false
/-! rows of equal rows -/
def SzOk (n : Nat) (ls : List (List UInt8)) : Prop := ∀ s, s ∈ ls → s.length = n
def secC (ls : List (List UInt8)) : List Value := ls.flatten.map bV
theorem SzOk.getD {n : Nat} {ls : List (List UInt8)} (ok : SzOk n ls) {i : Nat} (hi : i < ls.length) : (ls.getD i []).length = n := by
  rw [List.getD_eq_getElem?_getD, List.getElem?_eq_getElem hi]; exact ok _ (List.getElem_mem hi)
theorem SzOk.set {n : Nat} {ls : List (List UInt8)} (ok : SzOk n ls) {i : Nat} {s : List UInt8} (hs : s.length = n) : SzOk n (ls.set i s) := fun x hx => by
  rcases List.mem_or_eq_of_mem_set hx with h | rfl
  · exact ok x h
  · exact hs
theorem sz_flat {n : Nat} : ∀ {ls : List (List UInt8)}, SzOk n ls → ls.flatten.length = ls.length * n
  | [], _ => by simp
  | s :: ls, ok => by
    rw [List.flatten_cons, List.length_append, sz_flat fun x hx => ok x (List.mem_cons_of_mem _ hx), ok s (List.mem_cons_self ..), List.length_cons, Nat.add_mul]; omega
theorem secC_length {n : Nat} {ls : List (List UInt8)} (ok : SzOk n ls) : (secC ls).length = ls.length * n := by rw [secC, List.length_map, sz_flat ok]
theorem secC_get {n : Nat} : ∀ {ls : List (List UInt8)} (_ : SzOk n ls) {i : Nat} (_ : i < ls.length), ((secC ls).drop (i * n)).take n = (ls.getD i []).map bV
  | [], _, i, hi => by simp at hi
  | s :: ls, ok, i, hi => by
    have hs : (s.map bV).length = n := by rw [List.length_map]; exact ok s (List.mem_cons_self ..)
    have e : secC (s :: ls) = s.map bV ++ secC ls := by simp [secC]
    cases i with
    | zero => rw [Nat.zero_mul, List.drop_zero, e, List.take_left' hs]; rfl
    | succ i =>
      have := secC_get (fun x hx => ok x (List.mem_cons_of_mem _ hx)) (i := i) (by simpa using hi)
      rw [e, List.drop_append, List.drop_of_length_le (by rw [hs, Nat.add_mul]; omega), List.nil_append, hs, show (i + 1) * n - n = i * n by rw [Nat.add_mul]; omega, this]
      rfl
theorem secC_set {n : Nat} : ∀ {ls : List (List UInt8)} (_ : SzOk n ls) {i : Nat} (_ : i < ls.length) {s : List UInt8} (_ : s.length = n), segs (secC ls) (i * n) (s.map bV) = secC (ls.set i s)
  | [], _, i, hi, _, _ => by simp at hi
  | t :: ls, ok, i, hi, s, hs => by
    have ht : (t.map bV).length = n := by rw [List.length_map]; exact ok t (List.mem_cons_self ..)
    have hsl : (s.map bV).length = n := by rw [List.length_map]; exact hs
    have e : ∀ (t : List UInt8) ls, secC (t :: ls) = t.map bV ++ secC ls := fun t ls => by simp [secC]
    cases i with
    | zero =>
      rw [Nat.zero_mul, List.set_cons_zero, e, e]
      unfold segs
      rw [List.take_zero, List.nil_append, Nat.zero_add, List.drop_left' (ht.trans hsl.symm)]
    | succ i =>
      have ih := secC_set (fun x hx => ok x (List.mem_cons_of_mem _ hx)) (i := i) (by simpa using hi) hs
      rw [List.set_cons_succ, e, e, ← ih]
      unfold segs
      rw [List.take_append, List.take_of_length_le (by rw [ht, Nat.add_mul]; omega), ht, show (i + 1) * n - n = i * n by rw [Nat.add_mul]; omega, List.drop_append, List.drop_of_length_le (l := t.map bV) (by rw [ht, Nat.add_mul]; omega), List.nil_append, ht, hsl, show (i + 1) * n + n - n = i * n + n by rw [Nat.add_mul]; omega, List.append_assoc, List.append_assoc, List.append_assoc]
theorem secC_snoc {ls : List (List UInt8)} {s : List UInt8} : secC ls ++ s.map bV = secC (ls ++ [s]) := by simp [secC]
theorem secC_append {a b : List (List UInt8)} : secC a ++ secC b = secC (a ++ b) := by simp [secC]
section
variable {P : Program} {T : Tm} {m : Mem} {L : List Chunk} {dst : Option Tmp} {type : TypeId} {pos : String} {after : Array Edge} {guard : Option (Nat × Bool)}
theorem loadSec {t : TypeId} {x : Operand} {v : Value} {n i : Nat} {ls : List (List UInt8)} (ht : AggT P t n) (hx : ev T x = some (elemP v (i * n))) (hr : Rd (memOf m L) v n (secC ls)) (ok : SzOk n ls) (hi : i < ls.length) (h0 : 0 < n) :
    LoadOp P ⟨dst, .load t x, type, pos, after, guard⟩ m T L (.agg ((ls.getD i []).map bV).toArray) := by
  have hm : i * n + n ≤ ls.length * n := by rw [← Nat.succ_mul]; exact Nat.mul_le_mul_right _ hi
  have := loadOp_elemAgg (P := P) (m := m) (L := L) (dst := dst) (type := type) (pos := pos) (after := after) (guard := guard) ht hx hr (by rw [secC_length ok]; omega) h0
  rwa [secC_get ok hi] at this
/-- A sector is stored among sectors. -/
theorem lop_storeSec {t : TypeId} {x y : Operand} {v : Value} {n i : Nat} {ls : List (List UInt8)} {s : List UInt8} (ht : ∀ w, (sizeOf t).run P w = .ok n w) (hx : ev T x = some (elemP v (i * n))) (hy : ev T y = some (.agg (s.map bV).toArray)) (ok : SzOk n ls) (hi : i < ls.length) (hs : s.length = n) (h0 : 0 < n) :
    LOp P ⟨dst, .store t x y, type, pos, after, guard⟩ m T L (.sl v n (secC ls)) (fun u c => u = undef ∧ c = .sl v n (secC (ls.set i s))) := by
  have hm : i * n + n ≤ ls.length * n := by rw [← Nat.succ_mul]; exact Nat.mul_le_mul_right _ hi
  have := lop_storeElem (P := P) (m := m) (L := L) (dst := dst) (type := type) (pos := pos) (after := after) (guard := guard) (sz := n) (cs := secC ls) ht hx hy (by simpa [Value.cells] using hs) h0 (by rw [secC_length ok]; omega) (by simpa [Value.cells] using one_map (f := bV) (fun _ => rfl) s)
  rw [show (Value.agg (s.map bV).toArray).cells.toList = s.map bV from rfl, secC_set ok hi hs] at this
  exact this
end
/-! writes that wait -/
abbrev Wr := Nat × List UInt8
def wrC (ws : List Wr) : List Value := ws.flatMap fun w => iV w.1 :: w.2.map bV
def WsOk (n : Nat) (ws : List Wr) : Prop := ∀ w, w ∈ ws → w.1 < n ∧ w.2.length = 256
theorem WsOk.getD {n : Nat} {ws : List Wr} (ok : WsOk n ws) {i : Nat} (hi : i < ws.length) : (ws.getD i (0, [])).1 < n ∧ (ws.getD i (0, [])).2.length = 256 := by
  rw [List.getD_eq_getElem?_getD, List.getElem?_eq_getElem hi]; exact ok _ (List.getElem_mem hi)
theorem wrC_snoc {ws : List Wr} {i : Nat} {s : List UInt8} : wrC ws ++ (iV i :: s.map bV) = wrC (ws ++ [(i, s)]) := by simp [wrC]
theorem wrC_length {n : Nat} : ∀ {ws : List Wr}, WsOk n ws → (wrC ws).length = ws.length * 257
  | [], _ => rfl
  | w :: ws, ok => by
    have ih := wrC_length (n := n) (ws := ws) fun x hx => ok x (List.mem_cons_of_mem _ hx)
    have hw := (ok w (List.mem_cons_self ..)).2
    rw [show wrC (w :: ws) = (iV w.1 :: w.2.map bV) ++ wrC ws from rfl, List.length_append, ih, List.length_cons, List.length_map, hw, List.length_cons]; omega
theorem wrC_get {n : Nat} : ∀ {ws : List Wr} (_ : WsOk n ws) {i : Nat} (_ : i < ws.length), ((wrC ws).drop (i * 257)).take 257 = iV (ws.getD i (0, [])).1 :: (ws.getD i (0, [])).2.map bV
  | [], _, i, hi => by simp at hi
  | w :: ws, ok, i, hi => by
    have hw : (iV w.1 :: w.2.map bV).length = 257 := by simp [(ok w (List.mem_cons_self ..)).2]
    have e : wrC (w :: ws) = (iV w.1 :: w.2.map bV) ++ wrC ws := rfl
    cases i with
    | zero => rw [Nat.zero_mul, List.drop_zero, e, List.take_left' hw]; rfl
    | succ i =>
      have := wrC_get (fun x hx => ok x (List.mem_cons_of_mem _ hx)) (i := i) (by simpa using hi)
      rw [e, List.drop_append, List.drop_of_length_le (by rw [hw]; omega), List.nil_append, hw, show (i + 1) * 257 - 257 = i * 257 by omega, this]
      rfl
theorem wrC_one {ws : List Wr} : ∀ u, u ∈ wrC ws → one u = true := by
  intro u hu
  obtain ⟨w, _, hu⟩ := List.mem_flatMap.1 hu
  rcases List.mem_cons.1 hu with rfl | hu
  · rfl
  · obtain ⟨b, _, rfl⟩ := List.mem_map.1 hu; rfl
section
variable {P : Program} {T : Tm} {m : Mem} {L : List Chunk} {dst : Option Tmp} {type : TypeId} {pos : String} {after : Array Edge} {guard : Option (Nat × Bool)}
theorem loadWr {t : TypeId} {x : Operand} {v : Value} {n i : Nat} {ws : List Wr} (ht : AggT P t 257) (hx : ev T x = some (elemP v (i * 257))) (hr : Rd (memOf m L) v 257 (wrC ws)) (ok : WsOk n ws) (hi : i < ws.length) :
    LoadOp P ⟨dst, .load t x, type, pos, after, guard⟩ m T L (.agg (iV (ws.getD i (0, [])).1 :: (ws.getD i (0, [])).2.map bV).toArray) := by
  have := loadOp_elemAgg (P := P) (m := m) (L := L) (dst := dst) (type := type) (pos := pos) (after := after) (guard := guard) ht hx hr (by rw [wrC_length ok]; omega) (by decide)
  rwa [wrC_get ok hi] at this
end
/-! disks -/
structure Dk where
  last : List (List UInt8)
  wait : List Wr
  steps : Int
  fuse : Int
  down : Bool
def nowL (ws : List Wr) : List (Int × List UInt8) := ws.foldl (fun l w => aset l (w.1 : Int) w.2) []
theorem nowL_snoc (ws : List Wr) (w : Wr) : nowL (ws ++ [w]) = aset (nowL ws) (w.1 : Int) w.2 := by simp [nowL]
structure Dk.Ok (D : Dk) : Prop where
  sec : SzOk 256 D.last
  len : D.last.length ≤ 4096
  wait : WsOk D.last.length D.wait
  few : D.wait.length ≤ 1000000
  fuse : D.fuse ≤ 1000000
structure DkI (D : Dk) (lv wv : Value) : Prop where
  hl : slOk lv 256 (secC D.last)
  hw : slOk wv 257 (wrC D.wait)
  ok : D.Ok
def stepF (D : Dk) : Dk × Nat :=
  if D.down = true ∨ D.fuse = 0 then ({ D with down := true }, 4)
  else ({ D with fuse := if 0 < D.fuse then D.fuse - 1 else D.fuse, steps := IntKind.i64.wrap (D.steps + 1) }, 0)
def inF (D : Dk) (i : Int) : Prop := 0 ≤ i ∧ i < (D.last.length : Int)
instance (D : Dk) (i : Int) : Decidable (inF D i) := by unfold inF; infer_instance
def seeF (D : Dk) (i : Nat) : List UInt8 := (aget (nowL D.wait) (i : Int)).getD (D.last.getD i [])
def readF (D : Dk) (i : Int) : List UInt8 × Nat := if inF D i then (if D.down = true then (zero256, 4) else (seeF D i.toNat, 0)) else (zero256, 2)
def writeF (D : Dk) (i : Int) (s : List UInt8) : Dk × Nat :=
  if inF D i then (if (stepF D).2 = 0 then ({ (stepF D).1 with wait := (stepF D).1.wait ++ [(i.toNat, s)] }, 0) else stepF D) else (D, 2)
/-- The first k of the writes that wait, laid down where they are kept. -/
def setK (kf : Nat → Bool) (ws : List Wr) (l : List (List UInt8)) : Nat → List (List UInt8)
  | 0 => l
  | k + 1 => if kf k = true then (setK kf ws l k).set (ws.getD k (0, [])).1 (ws.getD k (0, [])).2 else setK kf ws l k
def cntK (kf : Nat → Bool) : Nat → Nat
  | 0 => 0
  | k + 1 => if kf k = true then cntK kf k + 1 else cntK kf k
def settleF (D : Dk) (kf : Nat → Bool) : Dk := { D with last := setK kf D.wait D.last D.wait.length, wait := [] }
def flushF (D : Dk) : Dk × Nat := if (stepF D).2 = 0 then (settleF (stepF D).1 (fun _ => true), 0) else stepF D
def crashF (D : Dk) (kf : Nat → Bool) : Dk := settleF { D with down := false, fuse := -1 } kf
def fuseF (D : Dk) (n : Int) : Dk := { D with fuse := max n (-1) }
def newF (n : Nat) : Dk := { last := List.replicate n zero256, wait := [], steps := 0, fuse := -1, down := false }
theorem setK_length (kf : Nat → Bool) (ws : List Wr) (l : List (List UInt8)) : ∀ k, (setK kf ws l k).length = l.length
  | 0 => rfl
  | k + 1 => by
    rw [setK]; split
    · rw [List.length_set, setK_length kf ws l k]
    · exact setK_length kf ws l k
theorem setK_ok {n : Nat} {kf : Nat → Bool} {ws : List Wr} {l : List (List UInt8)} (ok : SzOk 256 l) (hw : WsOk n ws) : ∀ k, k ≤ ws.length → SzOk 256 (setK kf ws l k)
  | 0, _ => ok
  | k + 1, h => by
    rw [setK]; split
    · exact (setK_ok ok hw k (by omega)).set (hw.getD (by omega)).2
    · exact setK_ok ok hw k (by omega)
theorem cntK_le (kf : Nat → Bool) : ∀ k, cntK kf k ≤ k
  | 0 => Nat.le_refl _
  | k + 1 => by have := cntK_le kf k; rw [cntK]; split <;> omega
theorem stepF_last (D : Dk) : (stepF D).1.last = D.last := by unfold stepF; split <;> rfl
theorem stepF_wait (D : Dk) : (stepF D).1.wait = D.wait := by unfold stepF; split <;> rfl
theorem stepF_fuse (D : Dk) : (stepF D).1.fuse ≤ max D.fuse 0 := by unfold stepF; split <;> (simp only; try split) <;> omega
theorem stepF_ok {D : Dk} (h : D.Ok) : (stepF D).1.Ok :=
  ⟨by rw [stepF_last]; exact h.sec, by rw [stepF_last]; exact h.len, by rw [stepF_last, stepF_wait]; exact h.wait, by rw [stepF_wait]; exact h.few, by have := stepF_fuse D; have := h.fuse; omega⟩
theorem settleF_ok {D : Dk} (h : D.Ok) (kf : Nat → Bool) : (settleF D kf).Ok :=
  ⟨setK_ok h.sec h.wait _ (Nat.le_refl _), by rw [settleF, setK_length]; exact h.len, (fun w hw => by cases hw), Nat.zero_le _, h.fuse⟩
theorem nil_wr : wrC [] = [] := rfl
theorem new_sec (n : Nat) : (List.replicate n (List.replicate 256 (Value.int .u8 0))).flatten = secC (List.replicate n zero256) := by
  rw [secC, List.map_flatten, List.map_replicate, zero256_map]
theorem newF_ok {n : Nat} (h : n ≤ 4096) : (newF n).Ok :=
  ⟨fun s hs => by rw [List.eq_of_mem_replicate hs]; exact List.length_replicate, by simpa [newF] using h, (fun w hw => by cases hw), Nat.zero_le _, show (-1 : Int) ≤ 1000000 by decide⟩
theorem writeF_ok {D : Dk} (h : D.Ok) {i : Int} {s : List UInt8} (hs : s.length = 256) (hf : D.wait.length < 1000000) : (writeF D i s).1.Ok := by
  unfold writeF
  split
  · rename_i hi
    split
    · have h1 := stepF_ok h
      refine ⟨h1.sec, h1.len, fun w hw => ?_, by simp only [List.length_append, stepF_wait, List.length_singleton]; omega, h1.fuse⟩
      rcases List.mem_append.1 hw with hw | hw
      · exact h1.wait w hw
      · rw [List.mem_singleton.1 hw]
        refine ⟨?_, hs⟩
        show i.toNat < (stepF D).1.last.length
        rw [stepF_last]
        unfold inF at hi
        omega
    · exact stepF_ok h
  · exact h
theorem flushF_ok {D : Dk} (h : D.Ok) : (flushF D).1.Ok := by
  unfold flushF
  split
  · exact settleF_ok (stepF_ok h) _
  · exact stepF_ok h
theorem crashF_ok {D : Dk} (h : D.Ok) (kf : Nat → Bool) : (crashF D kf).Ok := settleF_ok (D := { D with down := false, fuse := -1 }) ⟨h.sec, h.len, h.wait, h.few, show (-1 : Int) ≤ 1000000 by decide⟩ kf
theorem aget_len : ∀ (l : List (Int × List UInt8)), (∀ p, p ∈ l → p.2.length = 256) → ∀ k, ((aget l k).getD zero256).length = 256
  | [], _, _ => List.length_replicate
  | p :: l, h, k => by
    rw [aget]; split
    · exact h p (List.mem_cons_self ..)
    · exact aget_len l (fun q hq => h q (List.mem_cons_of_mem _ hq)) k
theorem aset_mem {α : Type} {k : Int} {v : α} : ∀ {l : List (Int × α)} {p : Int × α}, p ∈ aset l k v → p = (k, v) ∨ p ∈ l
  | [], p, h => .inl (List.mem_singleton.1 h)
  | q :: l, p, h => by
    rw [aset] at h
    split at h
    · rcases List.mem_cons.1 h with h | h
      · exact .inl h
      · exact .inr (List.mem_cons_of_mem _ h)
    · rcases List.mem_cons.1 h with h | h
      · exact .inr (h ▸ List.mem_cons_self ..)
      · exact (aset_mem h).imp id fun h => List.mem_cons_of_mem _ h
theorem nowL_mem {n : Nat} : ∀ (ws : List Wr) (l : List (Int × List UInt8)), WsOk n ws → (∀ p, p ∈ l → p.2.length = 256) → ∀ p, p ∈ ws.foldl (fun l w => aset l (w.1 : Int) w.2) l → p.2.length = 256
  | [], l, _, h, p, hp => h p hp
  | w :: ws, l, ok, h, p, hp => nowL_mem ws (aset l (w.1 : Int) w.2) (fun x hx => ok x (List.mem_cons_of_mem _ hx)) (fun q hq => by
      rcases aset_mem hq with rfl | hq
      · exact (ok w (List.mem_cons_self ..)).2
      · exact h q hq) p hp
theorem now_len {n : Nat} {ws : List Wr} (ok : WsOk n ws) (k : Int) : ((aget (nowL ws) k).getD zero256).length = 256 :=
  aget_len _ (nowL_mem ws [] ok fun p hp => by cases hp) k
theorem flat_agg {vs : List Value} : List.flatMap (fun x : Value => x.cells.toList) [.agg vs.toArray] = vs := by simp [Value.cells]
theorem wr_fill {i : Nat} {s : List UInt8} (hs : s.length = 256) : Fill [(0, 1), (1, 256)] ([.int .i64 0] ++ List.replicate 256 (.int .u8 0)) [(0, iV i), (1, .agg (s.map bV).toArray)] (iV i :: s.map bV) := by
  have hsl : (s.map bV).length = 256 := by rw [List.length_map]; exact hs
  have e1 : segs ([.int .i64 0] ++ List.replicate 256 (.int .u8 0)) 0 (iV i).cells.toList = [iV i] ++ List.replicate 256 (.int .u8 0) := by
    rw [show (iV i).cells.toList = [iV i] from rfl]
    simp only [segs, List.take_zero, List.nil_append, List.length_singleton, Nat.zero_add, List.drop_append, List.length_cons, List.length_nil]
    rfl
  have e2 : segs ([iV i] ++ List.replicate 256 (.int .u8 0)) 1 (Value.agg (s.map bV).toArray).cells.toList = iV i :: s.map bV := by
    rw [show (Value.agg (s.map bV).toArray).cells.toList = s.map bV from rfl]
    have h1 : List.take 1 ([iV i] ++ List.replicate 256 (Value.int .u8 0)) = [iV i] := rfl
    simp only [segs, hsl, h1]
    have h2 : List.drop (1 + 256) ([iV i] ++ List.replicate 256 (Value.int .u8 0)) = [] :=
      List.drop_of_length_le (by rw [List.length_append, List.length_replicate]; exact Nat.le_refl _)
    rw [h2, List.append_nil]; rfl
  refine .cons (off := 0) (size := 1) rfl rfl (by rw [List.length_append, List.length_replicate]; decide) ?_
  rw [e1]
  refine .cons (off := 1) (size := 256) rfl hsl (by rw [List.length_append, List.length_replicate]; exact Nat.le_refl _) ?_
  rw [e2]
  exact .nil
theorem one_wr (i : Nat) (s : List UInt8) : ∀ u, u ∈ iV i :: s.map bV → one u = true := by
  intro u hu
  rcases List.mem_cons.1 hu with rfl | hu
  · rfl
  · exact one_map (fun _ => rfl) _ u hu
theorem wr_tail {v : Value} {l : List Value} (h : l.length = 256) : ((v :: l).drop (0 + 1)).take 256 = l := by
  rw [show ((v :: l).drop (0 + 1)) = l from rfl, List.take_of_length_le (by omega)]
def keepF (kl : List Bool) (i : Nat) : Bool := decide (i < kl.length) && kl.getD i false
def imgF (D : Dk) : List (List UInt8) := D.last
end Go.Proofs.Ytpnipajadjeifaa.Sep
