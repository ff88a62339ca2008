/- Rings: the object of a ring, read; what its functions come to, in plain Lean. -/
import Derived.Test.YtpnipajadjeifaaRingA
import Derived.Test.YtpnipajadjeifaaSuperD
import Derived.Scope
namespace Go.Proofs.Ytpnipajadjeifaa.Sep
open Go Go.RowKit
set_option linter.unusedVariables false
set_option linter.unusedSimpArgs false
/-- A piece in which no goto leads out of itself. -/
theorem AWp.scope {G : Ctx} {P : Program} {c : Code} {Q : Post} {m : Mem} {T : Tm} {L : List Chunk} (hg : ∀ l m T L, ¬ Q (.goto l) m T L) (h : AWp G P c Q m T L) : AWp G P (.scope c) Q m T L := by
  intro a w s
  refine wp_scope_straight ?_
  intro b k cs
  obtain ⟨e, a₁, w₁, hq, harr⟩ := h a w s b k cs
  refine ⟨e, a₁, w₁, ?_, harr⟩
  cases e with
  | goto l => obtain ⟨m', T', L', hq, _⟩ := hq; exact (hg l _ _ _ hq).elim
  | _ => exact hq
theorem AWp.label {G : Ctx} {P : Program} {l : Nat} {Q : Post} {m : Mem} {T : Tm} {L : List Chunk} (h : Q .normal m T L) : AWp G P (.label l) Q m T L := fun _ _ s => wp_label ⟨m, T, L, h, s⟩
theorem take_nextR {x : List UInt8} {k : Nat} (h : k < x.length) : x.take k ++ [x.getD k 0] = x.take (k + 1) := by
  have := take_next (x := x) (i := 0) (k := k) (by omega)
  simpa using this
theorem slc_at {μ : Mem} {v : Value} {l q : List UInt8} (a b : Nat) (h : Rd μ v 1 (l.map bV)) (h1 : a ≤ b) (h2 : b ≤ l.length) (e : (l.drop a).take (b - a) = q) : Rd μ (slc v a b 1) 1 (q.map bV) := by
  rw [← e]; exact slc_bytes a b h h1 h2
theorem cut_bytes {v : Value} {l q : List UInt8} (a b : Nat) (h1 : a ≤ b) (h2 : b ≤ l.length) (e : (l.drop a).take (b - a) = q) {w : World} (hc : (Chunk.sl v 1 (l.map bV)).holds w) : (Chunk.sl (slc v a b 1) 1 (q.map bV)).holds w := by
  have := cut_sl (l := a) (h := b) (n := l.length) (by simp) h1 h2 (by decide) hc
  rw [Nat.mul_one, Nat.mul_one, ← List.map_drop, ← List.map_take, e] at this
  exact this
theorem cut_ok {v : Value} {l q : List UInt8} (a b : Nat) (h : slOk v 1 (l.map bV)) (h1 : a ≤ b) (h2 : b ≤ l.length) (e : (l.drop a).take (b - a) = q) : slOk (slc v a b 1) 1 (q.map bV) := by
  have := slc_ok (l := a) (h := b) (n := l.length) h (by simp) h1 h2 (by decide)
  rw [Nat.mul_one, Nat.mul_one, ← List.map_drop, ← List.map_take, e] at this
  exact this
/-- A ring's object, in memory that is read. -/
structure RgM (m : Mem) (rb b fr sz tl hd : Nat) : Prop where
  d : m ⟨rb, 0, none⟩ (.pointer (some ⟨b, 0, none⟩))
  f : m ⟨rb, 1, none⟩ (iV fr)
  s : m ⟨rb, 2, none⟩ (iV sz)
  t : m ⟨rb, 3, none⟩ (iV tl)
  h : m ⟨rb, 4, none⟩ (iV hd)
theorem RgM.mono {m m' : Mem} {rb b fr sz tl hd : Nat} (r : RgM m rb b fr sz tl hd) (h : ∀ a u, m a u → m' a u) : RgM m' rb b fr sz tl hd := ⟨h _ _ r.d, h _ _ r.f, h _ _ r.s, h _ _ r.t, h _ _ r.h⟩
theorem RgM.ro {m : Mem} {L : List Chunk} {rb b fr sz tl hd : Nat} (r : RgM m rb b fr sz tl hd) : RgM (memOf m L) rb b fr sz tl hd := r.mono fun _ _ h => .inl h
def rgC (b fr sz tl hd : Nat) : List Value := [.pointer (some ⟨b, 0, none⟩), iV fr, iV sz, iV tl, iV hd]
theorem RgM.of {m : Mem} {L : List Chunk} {rb b fr sz tl hd : Nat} (h : Chunk.obj rb (rgC b fr sz tl hd) ∈ L) : RgM (memOf m L) rb b fr sz tl hd :=
  ⟨memOf_obj h rfl, memOf_obj h rfl, memOf_obj h rfl, memOf_obj h rfl, memOf_obj h rfl⟩
/-- A disk that has its power, of which nothing waits. -/
structure Up (D : Dk) : Prop where
  ok : D.Ok
  down : D.down = false
  fuse : D.fuse = -1
/-- The sector of a number. -/
def secN (S : List (List UInt8)) (fr sz n : Nat) : List UInt8 := S.getD (fr + n % sz) []
/-- What is read of a number. -/
def readR (S : List (List UInt8)) (fr sz tl hd : Nat) (n : Int) : List UInt8 × Nat :=
  if n < tl ∨ (hd : Int) ≤ n then ([], 8) else
  if goodR (secN S fr sz n.toNat) ∧ gN (secN S fr sz n.toNat) 4 8 = n.toNat then (rB (secN S fr sz n.toNat), 0) else ([], 5)
theorem read_up {D : Dk} (h : Up D) (hw : D.wait = []) {i : Nat} (hi : i < D.last.length) : readF D (i : Int) = (D.last.getD i [], 0) := read_last hw h.down hi
theorem at_lt {fr sz n N : Nat} (h0 : 0 < sz) (h : fr + sz ≤ N) : fr + n % sz < N := by have := Nat.mod_lt n h0; omega
theorem secN_len {D : Dk} (h : D.Ok) {fr sz n : Nat} (h0 : 0 < sz) (hN : fr + sz ≤ D.last.length) : (secN D.last fr sz n).length = 256 := h.sec.getD (at_lt h0 hN)
/-- Parts of a list, each of them bytes that are read. -/
structure Parts (μ : Mem) (ls : List (List UInt8)) (vs : List Value) : Prop where
  len : vs.length = ls.length
  part : ∀ i, i < ls.length → Rd μ (vs.getD i undef) 1 ((ls.getD i []).map bV)
theorem Parts.mono {μ μ' : Mem} {ls : List (List UInt8)} {vs : List Value} (h : Parts μ ls vs) (hm : ∀ a u, μ a u → μ' a u) : Parts μ' ls vs := ⟨h.len, fun i hi => (h.part i hi).mono hm⟩
theorem Parts.snoc {μ : Mem} {ls : List (List UInt8)} {vs : List Value} {b : List UInt8} {v : Value} (h : Parts μ ls vs) (hv : Rd μ v 1 (b.map bV)) : Parts μ (ls ++ [b]) (vs ++ [v]) := by
  refine ⟨by simp [h.len], fun i hi => ?_⟩
  simp only [List.length_append, List.length_singleton] at hi
  rcases Nat.lt_or_ge i ls.length with h1 | h1
  · have := h.part i h1
    rw [List.getD_eq_getElem?_getD, List.getElem?_append_left (by rw [h.len]; exact h1), ← List.getD_eq_getElem?_getD, List.getD_eq_getElem?_getD (l := ls ++ [b]), List.getElem?_append_left h1, ← List.getD_eq_getElem?_getD]
    exact this
  · obtain rfl : i = ls.length := by omega
    rw [List.getD_eq_getElem?_getD, List.getElem?_append_right (by rw [h.len]; exact Nat.le_refl _), h.len, Nat.sub_self, List.getD_eq_getElem?_getD (l := ls ++ [b]), List.getElem?_append_right (Nat.le_refl _), Nat.sub_self]
    exact hv
/-- Are so many sectors noughts? -/
def cleanB (S : List (List UInt8)) (fr sz : Nat) : Nat → Nat → Bool
  | _, 0 => true
  | n, k + 1 => decide (secN S fr sz n = zero256) && cleanB S fr sz (n + 1) k
/-- The noughts that are written, one behind the other. -/
def zs (fr sz n : Nat) : Nat → List Wr
  | 0 => []
  | k + 1 => zs fr sz n k ++ [(fr + (n + k) % sz, zero256)]
theorem zs_length (fr sz n : Nat) : ∀ k, (zs fr sz n k).length = k
  | 0 => rfl
  | k + 1 => by rw [zs, List.length_append, zs_length fr sz n k]; rfl
def wrote (ws : List Wr) (S : List (List UInt8)) : List (List UInt8) := ws.foldl (fun l w => l.set w.1 w.2) S
theorem wrote_len : ∀ (ws : List Wr) (S : List (List UInt8)), (wrote ws S).length = S.length
  | [], S => rfl
  | w :: ws, S => by rw [wrote, List.foldl_cons]; exact (wrote_len ws _).trans (List.length_set ..)
theorem setK_all (ws : List Wr) (S : List (List UInt8)) : ∀ k, k ≤ ws.length → setK (fun _ => true) ws S k = wrote (ws.take k) S
  | 0, _ => rfl
  | k + 1, h => by
    rw [setK, if_pos rfl, setK_all ws S k (by omega), List.take_add_one, List.getElem?_eq_getElem (by omega), wrote, wrote, List.foldl_append, List.getD_eq_getElem?_getD, List.getElem?_eq_getElem (by omega)]
    rfl
theorem write_up {D : Dk} (h : Up D) {i : Nat} (hi : i < D.last.length) {s : List UInt8} (hs : s.length = 256) (hw : D.wait.length < 1000000) : ∃ E, writeF D (i : Int) s = (E, 0) ∧ Up E ∧ E.last = D.last ∧ E.wait = D.wait ++ [(i, s)] := by
  have h1 := writeF_on h.down h.fuse hi s
  have h2 := writeF_ok h.ok (i := (i : Int)) hs hw
  rw [h1] at h2
  exact ⟨_, h1, ⟨h2, h.down, rfl⟩, rfl, rfl⟩
theorem flush_up {D : Dk} (h : Up D) : ∃ E, flushF D = (E, 0) ∧ Up E ∧ E.last = wrote D.wait D.last ∧ E.wait = [] := by
  have h1 := flushF_on h.down h.fuse
  have h2 := flushF_ok h.ok
  rw [h1] at h2
  refine ⟨_, h1, ⟨h2, h.down, rfl⟩, ?_, rfl⟩
  show setK _ _ _ _ = _
  rw [setK_all _ _ _ (Nat.le_refl _), List.take_length]
/-- The least and the greatest number that stand where they should, and whether one does. -/
def foundN (S : List (List UInt8)) (fr sz : Nat) : Nat → Nat × Int × Bool
  | 0 => (0, -1, false)
  | i + 1 =>
    if goodR (S.getD (fr + i) []) ∧ gN (S.getD (fr + i) []) 4 8 % sz = i then
      (if (foundN S fr sz i).2.2 = false ∨ gN (S.getD (fr + i) []) 4 8 < (foundN S fr sz i).1 then gN (S.getD (fr + i) []) 4 8 else (foundN S fr sz i).1,
       max (foundN S fr sz i).2.1 (gN (S.getD (fr + i) []) 4 8), true)
    else foundN S fr sz i
end Go.Proofs.Ytpnipajadjeifaa.Sep
