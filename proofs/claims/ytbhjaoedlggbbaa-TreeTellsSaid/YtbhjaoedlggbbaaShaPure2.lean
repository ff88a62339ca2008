/- SHA-256 in plain words, the second part: blocks, what is padded, what grows. -/
import Derived.Test.YtbhjaoedlggbbaaShaPure
namespace Go.Proofs.Ytbhjaoedlggbbaa.Sep
open Go Go.RowKit
set_option linter.unusedVariables false
set_option linter.unusedSimpArgs false

def blocks : Nat → List UInt32 → List UInt8 → List UInt32
  | 0, ws, _ => ws
  | n + 1, ws, t => blocks n (mixF ws (t.take 64)) (t.drop 64)
theorem blocks_length : ∀ (n : Nat) (ws : List UInt32) (t : List UInt8), ws.length = 8 → (blocks n ws t).length = 8
  | 0, _, _, h => h
  | n + 1, ws, t, h => blocks_length n _ _ (mixF_length _ _ h)
theorem blocks_add : ∀ (a b : Nat) (ws : List UInt32) (t : List UInt8), blocks (a + b) ws t = blocks b (blocks a ws t) (t.drop (64 * a))
  | 0, b, ws, t => by simp [blocks]
  | a + 1, b, ws, t => by
    rw [show a + 1 + b = (a + b) + 1 by omega, blocks, blocks_add a b, blocks, List.drop_drop]
    congr 2; omega
theorem blocks_ext : ∀ (n : Nat) (ws : List UInt32) (t u : List UInt8), 64 * n ≤ t.length → blocks n ws (t ++ u) = blocks n ws t
  | 0, _, _, _, _ => rfl
  | n + 1, ws, t, u, h => by
    rw [blocks, blocks, List.take_append_of_le_length (by omega), List.drop_append_of_le_length (by omega), blocks_ext n _ _ _ (by simp; omega)]
theorem blocks_succ (n : Nat) (ws : List UInt32) (t : List UInt8) : blocks (n + 1) ws t = mixF (blocks n ws t) ((t.drop (64 * n)).take 64) := by
  rw [blocks_add n 1]; rfl

def iv0 : List UInt32 := [0x6a09e667, 0xbb67ae85, 0x3c6ef372, 0xa54ff53a, 0x510e527f, 0x9b05688c, 0x1f83d9ab, 0x5be0cd19]
def lenBytes (n : UInt64) : List UInt8 := (List.range 8).map fun i => (shr64 (8 * n) (8 * (7 - i))).toUInt8
def padZ (l : Nat) : Nat := (120 - (l + 1) % 64) % 64
theorem padZ_spec (l k : Nat) (hk : k ≤ padZ l) : (l + 1 + k) % 64 = 56 ↔ k = padZ l := by
  unfold padZ at *; omega
theorem padZ_lt (l : Nat) : padZ l < 64 := by unfold padZ; omega
def padded (t : List UInt8) (n : UInt64) : List UInt8 := t ++ [0x80] ++ List.replicate (padZ t.length) 0 ++ lenBytes n
theorem padded_length (t : List UInt8) (n : UInt64) : (padded t n).length = t.length + 1 + padZ t.length + 8 := by simp [padded, lenBytes]; omega
theorem padded_mod (t : List UInt8) (n : UInt64) : (padded t n).length % 64 = 0 := by
  rw [padded_length]
  have := (padZ_spec t.length (padZ t.length) (Nat.le_refl _)).2 rfl
  omega
def wordsBytes (ws : List UInt32) : List UInt8 := (List.range 32).map fun i => (shr32 (ws.getD (i / 4) 0) (24 - 8 * (i % 4))).toUInt8
def sumOf (ws : List UInt32) (t : List UInt8) (n : UInt64) : List UInt8 := wordsBytes (blocks ((padded t n).length / 64) ws (padded t n))
def shaF (t : List UInt8) : List UInt8 := sumOf iv0 t (UInt64.ofNat t.length)
theorem wordsBytes_length (ws : List UInt32) : (wordsBytes ws).length = 32 := by simp [wordsBytes]
theorem shaF_length (t : List UInt8) : (shaF t).length = 32 := wordsBytes_length _

/-- What a sum is behind a text: its words, what is left. -/
def stW (t : List UInt8) : List UInt32 := blocks (t.length / 64) iv0 t
def stR (t : List UInt8) : List UInt8 := t.drop (64 * (t.length / 64))
theorem stW_length (t : List UInt8) : (stW t).length = 8 := blocks_length _ _ _ rfl
theorem stR_length (t : List UInt8) : (stR t).length = t.length % 64 := by simp [stR]; omega
theorem st_add_W (t b : List UInt8) : blocks ((stR t ++ b).length / 64) (stW t) (stR t ++ b) = stW (t ++ b) := by
  unfold stW
  have hl : (stR t ++ b).length = t.length % 64 + b.length := by rw [List.length_append, stR_length]
  have h1 : (t ++ b).length / 64 = t.length / 64 + (stR t ++ b).length / 64 := by rw [hl, List.length_append]; omega
  rw [h1, blocks_add, blocks_ext _ _ t b (by omega)]
  congr 1
  rw [List.drop_append_of_le_length (by omega)]
  rfl
theorem st_add_R (t b : List UInt8) : (stR t ++ b).drop (64 * ((stR t ++ b).length / 64)) = stR (t ++ b) := by
  unfold stR
  have hl : (stR t ++ b).length = t.length % 64 + b.length := by rw [List.length_append, stR_length]
  have h1 : (t ++ b).length / 64 = t.length / 64 + (t.drop (64 * (t.length / 64)) ++ b).length / 64 := by
    rw [show t.drop (64 * (t.length / 64)) = stR t from rfl, hl, List.length_append]; omega
  rw [h1, ← List.drop_append_of_le_length (by omega), List.drop_drop]
  congr 1; omega
/-- The sum of all that came is the sum of the text. -/
theorem sum_st (t : List UInt8) (n : UInt64) : sumOf (stW t) (stR t) n = sumOf iv0 t n := by
  have hp : padZ (stR t).length = padZ t.length := by rw [stR_length]; unfold padZ; omega
  have e : padded t n = t.take (64 * (t.length / 64)) ++ padded (stR t) n := by
    unfold padded
    rw [hp]
    simp only [← List.append_assoc]
    congr 3
    exact (List.take_append_drop _ t).symm
  have htl : (t.take (64 * (t.length / 64))).length = 64 * (t.length / 64) := by simp; omega
  unfold sumOf
  congr 1
  rw [e, List.length_append, htl, Nat.add_comm, Nat.add_mul_div_left _ _ (by decide), Nat.add_comm, blocks_add]
  congr 1
  · rw [blocks_ext _ _ _ _ (by omega)]
    unfold stW
    have : t = t.take (64 * (t.length / 64)) ++ stR t := (List.take_append_drop _ t).symm
    conv => lhs; rw [this]
    rw [List.length_append, htl, stR_length]
    rw [show (64 * (t.length / 64) + t.length % 64) / 64 = t.length / 64 by omega]
    exact blocks_ext _ _ _ _ (by omega)
  · rw [List.drop_append_of_le_length (by omega), List.drop_of_length_le (by omega), List.nil_append]

/-! for the walks -/
theorem slc_bytes {μ : Mem} {v : Value} {α : Type} {f : α → Value} {l : List α} (a b : Nat) (h : Rd μ v 1 (l.map f)) (h1 : a ≤ b) (h2 : b ≤ l.length) : Rd μ (slc v a b 1) 1 (((l.drop a).take (b - a)).map f) := by
  have := slc_rd (l := a) (h := b) (n := l.length) h (by simp) h1 h2 (by decide)
  simpa [List.map_take, List.map_drop] using this
theorem cut_bytes {v : Value} {α : Type} {f : α → Value} {l : List α} (a b : Nat) (h1 : a ≤ b) (h2 : b ≤ l.length) (w : World) (hc : (Chunk.sl v 1 (l.map f)).holds w) :
    (Chunk.sl (slc v a b 1) 1 (((l.drop a).take (b - a)).map f)).holds w := by
  have := cut_sl (l := a) (h := b) (n := l.length) (by simp) h1 h2 (by decide) hc
  simpa [List.map_take, List.map_drop] using this
theorem segs_head {a b r : List Value} (h : a.length = b.length) : segs (a ++ r) 0 b = b ++ r := by
  simp [segs, ← h]
theorem loadPart {P : Program} {T : Tm} {m : Mem} {L : List Chunk} {dst : Option Tmp} {type : TypeId} {pos : String} {after : Array Edge} {guard : Option (Nat × Bool)} {t : TypeId} {x : Operand} {b o n : Nat} {cs : List Value} (out : List Value)
    (hx : ev T x = some (.pointer (some ⟨b, o, none⟩))) (hm : Chunk.obj b cs ∈ L) (ho : (cs.drop o).take n = out) (hl : out.length = n) (h0 : 0 < n) (ht : AggT P t n) : LoadOp P ⟨dst, .load t x, type, pos, after, guard⟩ m T L (.agg out.toArray) := by
  subst ho
  refine loadOp_objAgg ht hx hm ?_
  simp at hl
  omega
theorem lop_storeAgg {P : Program} {T : Tm} {m : Mem} {L : List Chunk} {dst : Option Tmp} {type : TypeId} {pos : String} {after : Array Edge} {guard : Option (Nat × Bool)} {t : TypeId} {x y : Operand} {b o n : Nat} {cs vs : List Value}
    (ht : ∀ w, (sizeOf t).run P w = .ok n w) (hx : ev T x = some (.pointer (some ⟨b, o, none⟩))) (hy : ev T y = some (.agg vs.toArray)) (hn : vs.length = n) (hl : o + n ≤ cs.length) (ho : ∀ u, u ∈ vs → one u = true) :
    LOp P ⟨dst, .store t x y, type, pos, after, guard⟩ m T L (.obj b cs) (fun u c => u = undef ∧ c = .obj b (segs cs o vs)) := lop_store ht hx hy hn hl ho
theorem get_tail {ws : List UInt32} {r : List Value} (hs : ws.length = 8) (i : Nat) : (ws.map wV ++ r)[8 + i]? = r[i]? := by
  rw [List.getElem?_append_right (by simp [hs])]; simp [hs]
theorem set_tail {ws : List UInt32} {r : List Value} {x : Value} (hs : ws.length = 8) (i : Nat) : (ws.map wV ++ r).set (8 + i) x = ws.map wV ++ r.set i x := by
  rw [List.set_append_right _ _ (by simp [hs])]; simp [hs]
theorem one_sl {v : Value} {sz : Nat} {cs : List Value} (h : slOk v sz cs) : one v = true := by
  rcases h with ⟨rfl, _⟩ | ⟨b, off, len, cap, rfl, _⟩ | ⟨a, cap, rfl, _⟩ <;> rfl
theorem AWp.nilChunk {G : Ctx} {P : Program} {c : Code} {Q : Post} {m : Mem} {T : Tm} {L : List Chunk} (sz : Nat) (h : AWp G P c Q m T (.sl (.slice none 0 0) sz [] :: L)) : AWp G P c Q m T L := by
  intro a w s
  refine h a w ⟨s.kn, s.heap.nilChunk, s.fr, ?_, s.ext, s.new⟩
  rintro k ⟨c, hc, hk⟩
  rcases List.mem_cons.1 hc with rfl | hc
  · obtain ⟨off, len, cap, e⟩ := hk; cases e
  · exact s.own k ⟨c, hc, hk⟩
end Go.Proofs.Ytbhjaoedlggbbaa.Sep
