/- Numbers as bytes, sectors, sums: what the packages word and crc compute, in plain Lean. -/
import Derived.Test.YtpnipajadjeifaaSepM
namespace Go.Proofs.Ytpnipajadjeifaa.Sep
open Go Go.RowKit
set_option linter.unusedVariables false
set_option linter.unusedSimpArgs false
theorem get_map {α : Type} {f : α → Value} {l : List α} {i : Nat} {d : α} (h : i < l.length) : (l.map f)[i]? = some (f (l.getD i d)) := get_map' h
theorem get_app {l r : List Value} {i : Nat} {u : Value} (h : l[i]? = some u) : (l ++ r)[i]? = some u := by
  rw [List.getElem?_append_left (List.getElem?_eq_some_iff.1 h).1]; exact h
theorem get_D {vs : List Value} {i : Nat} (h : i < vs.length) : vs[i]? = some (vs.getD i undef) := by
  rw [List.getD_eq_getElem?_getD, List.getElem?_eq_getElem h]; rfl
theorem one_sl {v : Value} {sz : Nat} {cs : List Value} (h : slOk v sz cs) : one v = true := by
  rcases h with ⟨rfl, _⟩ | ⟨b, off, len, cap, rfl, _⟩ | ⟨a, cap, rfl, _⟩ <;> rfl
theorem AWp.nilChunk {G : Ctx} {P : Program} {c : Code} {Q : Post} {m : Mem} {T : Tm} {L : List Chunk} (sz : Nat) (h : AWp G P c Q m T (.sl (.slice none 0 0) sz [] :: L)) : AWp G P c Q m T L :=
  h.chunks (fun w s => s.nilChunk) (by
    rintro k ⟨c, hc, hk⟩
    rcases List.mem_cons.1 hc with rfl | hc
    · obtain ⟨off, len, cap, h⟩ := hk; cases h
    · exact ⟨c, hc, hk⟩)
section
variable {G : Ctx} {P : Program} {arr : Array Oper} {Q : Post} {m : Mem} {T : Tm} {L : List Chunk} {os : List Oper}
theorem put_same {T : Tm} {d : Nat} {v : Value} (hv : T d = some v) : put T d v = T := by
  funext i
  simp only [put]
  cases hb : Nat.beq i d with
  | true => rw [Nat.eq_of_beq_eq_true hb, hv]; rfl
  | false => rfl
theorem OpsW.knowB {d : Nat} {b : Bool} (hT : T d = some (.bool b)) (h : OpsW G P arr Q os m (put T d (.bool b)) L) : OpsW G P arr Q os m T L := by
  rwa [put_same hT] at h
theorem chain_knowB {nt : Nat} {K : Tm → List Chunk → Prop} {l : List (Nat × Kind)} {d : Nat} {b : Bool} (hT : T d = some (.bool b)) (h : chain P arr nt m K l (put T d (.bool b)) L) : chain P arr nt m K l T L := by
  rwa [put_same hT] at h
end
def putF (x : UInt64) (n : Nat) : List UInt8 := (List.range n).map fun i => (shr64 x (8 * i)).toUInt8
theorem putF_length (x : UInt64) (n : Nat) : (putF x n).length = n := by simp [putF]
theorem set_seg {α : Type} {f : α → Value} {ws : List α} {n k : Nat} {x : α} {z : Value} (hl : ws.length = k) (hk : k < n) :
    segs (ws.map f ++ List.replicate (n - k) z) k [f x] = (ws ++ [x]).map f ++ List.replicate (n - (k + 1)) z := by
  obtain ⟨d, hd⟩ : ∃ d, n - k = d + 1 := ⟨n - k - 1, by omega⟩
  subst hl
  rw [hd, show n - (ws.length + 1) = d by omega, List.replicate_succ]
  simp [segs, List.take_left', List.drop_append]
theorem set_segB {ws : List UInt8} {n k : Nat} {x : UInt8} {z : Value} (hl : ws.length = k) (hk : k < n) :
    segs (ws.map bV ++ List.replicate (n - k) z) k (bV x).cells.toList = (ws ++ [x]).map bV ++ List.replicate (n - (k + 1)) z := set_seg (f := bV) hl hk
theorem slOk_same {v : Value} {sz : Nat} {cs cs' : List Value} (h : slOk v sz cs) (hl : cs'.length = cs.length) : slOk v sz cs' := by
  rcases h with ⟨rfl, rfl⟩ | ⟨b, off, len, cap, rfl, h, hc⟩ | ⟨a, cap, rfl, rfl⟩
  · exact .inl ⟨rfl, List.length_eq_zero_iff.1 hl⟩
  · exact .inr (.inl ⟨b, off, len, cap, rfl, hl.trans h, hc⟩)
  · exact .inr (.inr ⟨a, cap, rfl, List.length_eq_zero_iff.1 hl⟩)
theorem shr64_div (x : UInt64) (i : Nat) (h : i < 8) : shr64 (x / 256) (8 * i) = shr64 x (8 * (i + 1)) := by
  unfold shr64
  rw [Nat.min_eq_left (by omega), Nat.min_eq_left (by omega), UInt64.toNat_div, show (256 : UInt64).toNat = 2 ^ 8 from rfl, ← Nat.shiftRight_eq_div_pow, ← Nat.shiftRight_add]
  congr 2; omega
theorem putF_succ (x : UInt64) (n : Nat) (h : n < 8) : putF x (n + 1) = (x % 256).toUInt8 :: putF (x / 256) n := by
  unfold putF
  rw [List.range_succ_eq_map, List.map_cons, List.map_map]
  congr 1
  · apply UInt8.toNat_inj.1
    have := x.toNat_lt
    simp [shr64]
  · refine List.map_congr_left fun i hi => ?_
    have := List.mem_range.1 hi
    rw [shr64_div x i (by omega)]; rfl
/-! bytes in memory -/
theorem flat_map {l : List UInt8} : List.flatMap (fun x : Value => x.cells.toList) (l.map bV) = l.map bV := by
  induction l with
  | nil => rfl
  | cons b l ih => rw [List.map_cons, List.flatMap_cons, ih]; rfl
theorem flat_b1 {b : UInt8} : List.flatMap (fun x : Value => x.cells.toList) [bV b] = [b].map bV := rfl
theorem slc_bytes {μ : Mem} {v : Value} {α : Type} {f : α → Value} {l : List α} (a b : Nat) (h : Rd μ v 1 (l.map f)) (h1 : a ≤ b) (h2 : b ≤ l.length) : Rd μ (slc v a b 1) 1 (((l.drop a).take (b - a)).map f) := by
  have := slc_rd (l := a) (h := b) (n := l.length) h (by simp) h1 h2 (by decide)
  rwa [Nat.mul_one, Nat.mul_one, ← List.map_drop, ← List.map_take] at this
theorem arr_rd {μ : Mem} {b n : Nat} {x : List UInt8} (a c : Nat) (h : ∀ p u, (Chunk.obj b (x.map bV)).at p u → μ p u) (hx : x.length = n) (h1 : a ≤ c) (h2 : c ≤ n) : Rd μ (arrSl b 0 n a c 1) 1 (((x.drop a).take (c - a)).map bV) := by
  have h0 := arrSl_rd (m := fun _ _ => False) (L := [Chunk.obj b (x.map bV)]) (b := b) (o := 0) (n := n) (l := a) (h := c) (sz := 1) (List.mem_cons_self ..) (by simp [hx]) h1 h2
  rw [Nat.zero_add, Nat.mul_one, Nat.mul_one, ← List.map_drop, ← List.map_take] at h0
  refine h0.mono fun p u hp => ?_
  rcases hp with hp | ⟨d, hd, hp⟩
  · exact hp.elim
  · rw [List.mem_singleton.1 hd] at hp; exact h p u hp
theorem arr_rdL {m : Mem} {L : List Chunk} {b n : Nat} {x : List UInt8} (a c : Nat) (h : Chunk.obj b (x.map bV) ∈ L) (hx : x.length = n) (h1 : a ≤ c) (h2 : c ≤ n) : Rd (memOf m L) (arrSl b 0 n a c 1) 1 (((x.drop a).take (c - a)).map bV) :=
  arr_rd a c (fun p u hp => .inr ⟨_, h, hp⟩) hx h1 h2
theorem arr_all {μ : Mem} {b n : Nat} {x : List UInt8} (h : Rd μ (arrSl b 0 n 0 n 1) 1 (((x.drop 0).take (n - 0)).map bV)) (hx : x.length = n) : Rd μ (arrSl b 0 n 0 n 1) 1 (x.map bV) := by
  rwa [List.drop_zero, Nat.sub_zero, List.take_of_length_le (by omega)] at h
section
variable {P : Program} {T : Tm} {m : Mem} {L : List Chunk} {dst : Option Tmp} {type : TypeId} {pos : String} {after : Array Edge} {guard : Option (Nat × Bool)}
theorem loadOp_arr {t : TypeId} {x : Operand} {v : Value} {n : Nat} {l : List UInt8} (ht : AggT P t n) (hx : ev T x = some (elemP v 0)) (hr : Rd (memOf m L) v 1 (l.map bV)) (hn : n ≤ l.length) (h0 : 0 < n) :
    LoadOp P ⟨dst, .load t x, type, pos, after, guard⟩ m T L (.agg ((l.take n).map bV).toArray) := by
  have := loadOp_elemAgg (P := P) (m := m) (L := L) (dst := dst) (type := type) (pos := pos) (after := after) (guard := guard) ht hx hr (k := 0) (by simpa using hn) h0
  rwa [List.drop_zero, ← List.map_take] at this
end

section
variable {P : Program} {T : Tm} {m : Mem} {L : List Chunk} {dst : Option Tmp} {type : TypeId} {pos : String} {after : Array Edge} {guard : Option (Nat × Bool)}
theorem opBuildArr0 {t : TypeId} {n sz : Nat} {zs : List Value} (ha : ArrT P t n sz) (hz : ZeroT P t zs) : PureOp P ⟨dst, .build t #[], type, pos, after, guard⟩ T (.agg zs.toArray) := by
  obtain ⟨e, hu, hs⟩ := ha
  obtain ⟨z, hz, rfl⟩ := hz
  intro ρ hρ w
  have hun : ∀ w, (underlying t).run P w = .ok (.array n e) w := fun w => run_underlying hu w
  have hrun : (Instr.build t ((#[] : Array (Nat × Operand)).map fun p => (p.1, ρ p.2))).run P w = .ok (.agg z.cells.toList.toArray) w := by
    unfold Instr.build
    simp [hz, hun, hs, Instr.fill]
  simp only [execOp, Sem.run_bind, hrun, Result.andThen_ok, Sem.run_pure]
end

/-! sums of 32 bits -/
def stepC (r : UInt32) : UInt32 := if r &&& 1 = 1 then shr32 r 1 ^^^ 3988292384 else shr32 r 1
def stepsC : Nat → UInt32 → UInt32
  | 0, r => r
  | n + 1, r => stepC (stepsC n r)
def turnF (r : UInt32) (c : UInt8) : UInt32 := stepsC 8 (r ^^^ c.toUInt32)
def moreF (s : UInt32) (b : List UInt8) : UInt32 := ~~~(b.foldl turnF (~~~s))
def crcF (b : List UInt8) : UInt32 := moreF 0 b
def fourF (s : UInt32) : List UInt8 := [s.toUInt8, (shr32 s 8).toUInt8, (shr32 s 16).toUInt8, (shr32 s 24).toUInt8]
theorem fourF_length (s : UInt32) : (fourF s).length = 4 := rfl
def sealF (b : List UInt8) : List UInt8 := b ++ fourF (crcF b)
theorem sealF_length (b : List UInt8) : (sealF b).length = b.length + 4 := by simp [sealF, fourF_length]
def holdsF (b : List UInt8) : Bool := decide (4 ≤ b.length ∧ fourF (crcF (b.take (b.length - 4))) = b.drop (b.length - 4))
def wholeF (b : List UInt8) : List UInt8 := b.take 256 ++ List.replicate (256 - b.length) 0
theorem wholeF_length (b : List UInt8) : (wholeF b).length = 256 := by simp [wholeF]; omega
theorem foldl_take {β : Type} {f : β → UInt8 → β} {b : List UInt8} {i : Nat} {s : β} (h : i < b.length) : f ((b.take i).foldl f s) (b.getD i 0) = (b.take (i + 1)).foldl f s := by
  rw [List.take_add_one, List.foldl_append, List.getD_eq_getElem?_getD, List.getElem?_eq_getElem h]; rfl
/-! numbers of bytes -/
def getF : List UInt8 → UInt64
  | [] => 0
  | b :: r => b.toUInt64 + 256 * getF r
def getL (b : List UInt8) : UInt64 := getF (b.take 8)
theorem getF_lt : ∀ (b : List UInt8), b.length ≤ 8 → (getF b).toNat < 256 ^ b.length
  | [], _ => by simp [getF]
  | b :: r, h => by
    have ih := getF_lt r (by simp at h; omega)
    have hb := b.toNat_lt
    simp only [List.length_cons] at h ⊢
    have h8 : (256 : Nat) ^ r.length ≤ 256 ^ 7 := Nat.pow_le_pow_right (by decide) (by omega)
    simp only [getF, UInt64.toNat_add, UInt64.toNat_mul, UInt8.toNat_toUInt64, show (256 : UInt64).toNat = 256 from rfl]
    rw [Nat.pow_succ]
    refine Nat.lt_of_le_of_lt (Nat.mod_le _ _) ?_
    refine Nat.lt_of_le_of_lt (Nat.add_le_add_left (Nat.mod_le _ _) _) ?_
    omega
/-- What a number is that has one byte more below. -/
theorem shl_or {n : UInt64} {b : UInt8} (h : n.toNat < 2 ^ 56) : shl64 n 8 ||| b.toUInt64 = b.toUInt64 + 256 * n := by
  apply UInt64.toNat_inj.1
  have hb := b.toNat_lt
  simp only [UInt64.toNat_or, shl64, UInt64.toNat_ofNat', UInt64.toNat_add, UInt64.toNat_mul, UInt8.toNat_toUInt64, show (256 : UInt64).toNat = 256 from rfl, show min 8 64 = 8 from rfl]
  have e1 : n.toNat <<< 8 % 2 ^ 64 = n.toNat <<< 8 := Nat.mod_eq_of_lt (by rw [Nat.shiftLeft_eq]; omega)
  rw [e1, ← Nat.shiftLeft_add_eq_or_of_lt (by omega : b.toNat < 2 ^ 8), Nat.shiftLeft_eq]
  omega
theorem getF_down {b : List UInt8} {i : Nat} (hi : i < b.length) (h8 : b.length ≤ 8) : shl64 (getF (b.drop (i + 1))) 8 ||| (b.getD i 0).toUInt64 = getF (b.drop i) := by
  have hl := getF_lt (b.drop (i + 1)) (by simp; omega)
  have h7 : (256 : Nat) ^ (b.drop (i + 1)).length ≤ 256 ^ 7 := Nat.pow_le_pow_right (by decide) (by simp; omega)
  rw [shl_or (by omega), List.drop_eq_getElem_cons hi, getF, List.getD_eq_getElem?_getD, List.getElem?_eq_getElem hi]
  rfl
theorem zero_all {b : List UInt8} {i : Nat} (h : i < b.length) : (b.take (i + 1)).all (· == 0) = ((b.take i).all (· == 0) && (b.getD i 0 == 0)) := by
  rw [List.take_add_one, List.all_append, List.getD_eq_getElem?_getD, List.getElem?_eq_getElem h]; simp
theorem whole_segs (d : List UInt8) : segs (List.replicate 256 (.int .u8 0)) 0 ((d.map bV).take (min d.length 256 * 1)) = (wholeF d).map bV := by
  have h : ((d.map bV).take (min d.length 256 * 1)).length = min d.length 256 := by simp
  simp only [segs, h, Nat.zero_add, List.take_zero, List.nil_append, List.drop_replicate]
  have e : (d.map bV).take (min d.length 256 * 1) = (d.take 256).map bV := by
    rw [Nat.mul_one, List.map_take]
    rcases Nat.le_total d.length 256 with h1 | h1
    · rw [Nat.min_eq_left h1, List.take_of_length_le (by simp), List.take_of_length_le (by simpa using h1)]
    · rw [Nat.min_eq_right h1]
  rw [e, wholeF, List.map_append, List.map_replicate, show 256 - min d.length 256 = 256 - d.length by omega]
  rfl
theorem copy_bytes (d : List UInt8) (n : Nat) (h : n ≤ d.length) : segs (List.replicate n (.int .u8 0)) 0 ((d.map bV).take (min d.length n * 1)) = (d.take n).map bV := by
  have hl : ((d.map bV).take (min d.length n * 1)).length = n := by simp; omega
  simp only [segs, hl, Nat.zero_add, List.take_zero, List.nil_append, List.drop_replicate, Nat.sub_self, List.replicate_zero, List.append_nil]
  rw [Nat.mul_one, Nat.min_eq_right h, List.map_take]
/-- What a cursor gives, and where it is then. -/
def curT (bad : Bool) (d : List UInt8) (n : Nat) : List UInt8 := if bad = true ∨ d.length < n then List.replicate (min n 256) 0 else d.take n
def curB (bad : Bool) (d : List UInt8) (n : Nat) : Bool := decide (bad = true ∨ d.length < n)
def curD (bad : Bool) (d : List UInt8) (n : Nat) : List UInt8 := if bad = true ∨ d.length < n then d else d.drop n
def zeroF (b : List UInt8) : Bool := b.all (· == 0)
end Go.Proofs.Ytpnipajadjeifaa.Sep
