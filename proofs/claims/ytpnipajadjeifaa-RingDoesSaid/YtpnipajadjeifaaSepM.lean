/- More operations: bytes, numbers from kind to kind, the lesser of two, arrays behind slices, arrays indexed, slices of any elements made, values compared. -/
import Derived.Test.YtpnipajadjeifaaSepY
namespace Go.Proofs.Ytpnipajadjeifaa.Sep
open Go Go.RowKit
set_option linter.unusedVariables false
set_option linter.unusedSimpArgs false

theorem get_map' {α : Type} {f : α → Value} {l : List α} {i : Nat} {d : α} (h : i < l.length) : (l.map f)[i]? = some (f (l.getD i d)) := by
  rw [List.getElem?_map, List.getElem?_eq_getElem h, List.getD_eq_getElem?_getD, List.getElem?_eq_getElem h]; rfl

section
variable {P : Program} {T : Tm} {m : Mem} {L : List Chunk} {dst : Option Tmp} {type : TypeId} {pos : String} {after : Array Edge} {guard : Option (Nat × Bool)}

/-! bytes -/
theorem ofInt8 (a : UInt8) : BitVec.ofInt IntKind.u8.bits (a.toNat : Int) = a.toBitVec := by
  apply BitVec.eq_of_toNat_eq
  simp [IntKind.bits, BitVec.toNat_ofInt]
theorem back8 (b : BitVec 8) : IntKind.u8.wrap (b.toNat : Int) = ((UInt8.ofBitVec b).toNat : Int) := by
  rw [wrap_u8]
  have := b.isLt
  simp; omega
theorem op8_and {x y : Operand} {a b : UInt8} {t t' : TypeId} (hx : ev T x = some (bV a)) (hy : ev T y = some (bV b)) : PureOp P ⟨dst, .binOp .and t x y t', type, pos, after, guard⟩ T (bV (a &&& b)) := by
  intro ρ hρ w
  refine execBits (hρ x (by simp [Op.operands]) _ hx) (hρ y (by simp [Op.operands]) _ hy) _ w ?_
  rw [bin_and, ofInt8, ofInt8]
  exact congrArg (fun z => Result.ok (Value.int .u8 z) w) (back8 _)
theorem op8_or {x y : Operand} {a b : UInt8} {t t' : TypeId} (hx : ev T x = some (bV a)) (hy : ev T y = some (bV b)) : PureOp P ⟨dst, .binOp .or t x y t', type, pos, after, guard⟩ T (bV (a ||| b)) := by
  intro ρ hρ w
  refine execBits (hρ x (by simp [Op.operands]) _ hx) (hρ y (by simp [Op.operands]) _ hy) _ w ?_
  rw [bin_or, ofInt8, ofInt8]
  exact congrArg (fun z => Result.ok (Value.int .u8 z) w) (back8 _)
theorem op8_xor {x y : Operand} {a b : UInt8} {t t' : TypeId} (hx : ev T x = some (bV a)) (hy : ev T y = some (bV b)) : PureOp P ⟨dst, .binOp .xor t x y t', type, pos, after, guard⟩ T (bV (a ^^^ b)) := by
  intro ρ hρ w
  refine execBits (hρ x (by simp [Op.operands]) _ hx) (hρ y (by simp [Op.operands]) _ hy) _ w ?_
  rw [bin_xor, ofInt8, ofInt8]
  exact congrArg (fun z => Result.ok (Value.int .u8 z) w) (back8 _)
theorem op8_sub {x y : Operand} {a b : UInt8} {t t' : TypeId} (hx : ev T x = some (bV a)) (hy : ev T y = some (bV b)) : PureOp P ⟨dst, .binOp .sub t x y t', type, pos, after, guard⟩ T (bV (a - b)) := by
  have := pureOp_sub (P := P) (dst := dst) (type := type) (pos := pos) (after := after) (guard := guard) (t := t) (t' := t') hx hy
  have e : IntKind.u8.wrap ((a.toNat : Int) - (b.toNat : Int)) = ((a - b).toNat : Int) := by
    have h1 := a.toNat_lt
    have h2 := b.toNat_lt
    simp only [IntKind.wrap, IntKind.bits, IntKind.signed, UInt8.toNat_sub]
    simp
    omega
  rw [e] at this; exact this
theorem op8_add {x y : Operand} {a b : UInt8} {t t' : TypeId} (hx : ev T x = some (bV a)) (hy : ev T y = some (bV b)) : PureOp P ⟨dst, .binOp .add t x y t', type, pos, after, guard⟩ T (bV (a + b)) := by
  have := pureOp_add (P := P) (dst := dst) (type := type) (pos := pos) (after := after) (guard := guard) (t := t) (t' := t') hx hy
  rw [show (a.toNat : Int) + (b.toNat : Int) = ((a.toNat + b.toNat : Nat) : Int) by simp, wrap_u8] at this
  rw [bV, UInt8.toNat_add]; exact this
def shl8 (a : UInt8) (n : Nat) : UInt8 := UInt8.ofNat (a.toNat <<< min n 8)
def shr8 (a : UInt8) (n : Nat) : UInt8 := UInt8.ofNat (a.toNat >>> min n 8)
theorem op8_shl {x y : Operand} {a : UInt8} {n : Nat} {yk : IntKind} {t t' : TypeId} (hx : ev T x = some (bV a)) (hy : ev T y = some (.int yk (n : Int))) : PureOp P ⟨dst, .binOp .shl t x y t', type, pos, after, guard⟩ T (bV (shl8 a n)) := by
  intro ρ hρ w
  refine execShift (hρ x (by simp [Op.operands]) _ hx) (hρ y (by simp [Op.operands]) _ hy) _ w ?_
  rw [bin_shl]
  have : (a.toNat : Int) * 2 ^ min n IntKind.u8.bits = ((a.toNat * 2 ^ min n 8 : Nat) : Int) := by simp [IntKind.bits]
  rw [this, wrap_u8]
  simp [shl8, Nat.shiftLeft_eq]
theorem op8_shr {x y : Operand} {a : UInt8} {n : Nat} {yk : IntKind} {t t' : TypeId} (hx : ev T x = some (bV a)) (hy : ev T y = some (.int yk (n : Int))) : PureOp P ⟨dst, .binOp .shr t x y t', type, pos, after, guard⟩ T (bV (shr8 a n)) := by
  intro ρ hρ w
  refine execShift (hρ x (by simp [Op.operands]) _ hx) (hρ y (by simp [Op.operands]) _ hy) _ w ?_
  rw [bin_shr]
  have : (a.toNat : Int).fdiv (2 ^ min n IntKind.u8.bits) = ((a.toNat / 2 ^ min n 8 : Nat) : Int) := by
    rw [Int.fdiv_eq_ediv_of_nonneg _ (by exact Int.le_of_lt (Int.pow_pos (by decide)))]
    simp [IntKind.bits]
  rw [this]
  have h1 : a.toNat / 2 ^ min n 8 < 256 := Nat.lt_of_le_of_lt (Nat.div_le_self ..) a.toNat_lt
  have e : (shr8 a n).toNat = a.toNat / 2 ^ min n 8 := by
    simp only [shr8, Nat.shiftRight_eq_div_pow, UInt8.toNat_ofNat']
    exact Nat.mod_eq_of_lt h1
  rw [e]
theorem op8_eql {x y : Operand} {a b : UInt8} {t t' : TypeId} (hx : ev T x = some (bV a)) (hy : ev T y = some (bV b)) : PureOp P ⟨dst, .binOp .eql t x y t', type, pos, after, guard⟩ T (.bool (decide (a = b))) := by
  have := opN_eql (P := P) (dst := dst) (type := type) (pos := pos) (after := after) (guard := guard) (t := t) (t' := t') hx hy
  rwa [decide_eq_decide.2 (UInt8.toNat_inj (a := a) (b := b))] at this
theorem op8_neq {x y : Operand} {a b : UInt8} {t t' : TypeId} (hx : ev T x = some (bV a)) (hy : ev T y = some (bV b)) : PureOp P ⟨dst, .binOp .neq t x y t', type, pos, after, guard⟩ T (.bool (decide (a ≠ b))) := by
  have := opN_neq (P := P) (dst := dst) (type := type) (pos := pos) (after := after) (guard := guard) (t := t) (t' := t') hx hy
  rwa [decide_eq_decide.2 (not_congr (UInt8.toNat_inj (a := a) (b := b)))] at this
theorem op32_eql {x y : Operand} {a b : UInt32} {t t' : TypeId} (hx : ev T x = some (wV a)) (hy : ev T y = some (wV b)) : PureOp P ⟨dst, .binOp .eql t x y t', type, pos, after, guard⟩ T (.bool (decide (a = b))) := by
  have := opN_eql (P := P) (dst := dst) (type := type) (pos := pos) (after := after) (guard := guard) (t := t) (t' := t') hx hy
  rwa [decide_eq_decide.2 (UInt32.toNat_inj (a := a) (b := b))] at this
theorem op64_neq {x y : Operand} {a b : UInt64} {t t' : TypeId} (hx : ev T x = some (qV a)) (hy : ev T y = some (qV b)) : PureOp P ⟨dst, .binOp .neq t x y t', type, pos, after, guard⟩ T (.bool (decide (a ≠ b))) := by
  have := opN_neq (P := P) (dst := dst) (type := type) (pos := pos) (after := after) (guard := guard) (t := t) (t' := t') hx hy
  rwa [decide_eq_decide.2 (not_congr (UInt64.toNat_inj (a := a) (b := b)))] at this
theorem op64_gtr {x y : Operand} {a b : UInt64} {t t' : TypeId} (hx : ev T x = some (qV a)) (hy : ev T y = some (qV b)) : PureOp P ⟨dst, .binOp .gtr t x y t', type, pos, after, guard⟩ T (.bool (decide (b.toNat < a.toNat))) := opN_gtr hx hy
theorem ofInt64 (a : UInt64) : BitVec.ofInt IntKind.u64.bits (a.toNat : Int) = a.toBitVec := by
  apply BitVec.eq_of_toNat_eq
  simp [IntKind.bits, BitVec.toNat_ofInt]
theorem back64 (b : BitVec 64) : IntKind.u64.wrap (b.toNat : Int) = ((UInt64.ofBitVec b).toNat : Int) := by
  rw [wrap_u64]
  have := b.isLt
  simp; omega
theorem op64_or {x y : Operand} {a b : UInt64} {t t' : TypeId} (hx : ev T x = some (qV a)) (hy : ev T y = some (qV b)) : PureOp P ⟨dst, .binOp .or t x y t', type, pos, after, guard⟩ T (qV (a ||| b)) := by
  intro ρ hρ w
  refine execBits (hρ x (by simp [Op.operands]) _ hx) (hρ y (by simp [Op.operands]) _ hy) _ w ?_
  rw [bin_or, ofInt64, ofInt64]
  exact congrArg (fun z => Result.ok (Value.int .u64 z) w) (back64 _)
def shl64 (a : UInt64) (n : Nat) : UInt64 := UInt64.ofNat (a.toNat <<< min n 64)
theorem op64_shl {x y : Operand} {a : UInt64} {n : Nat} {yk : IntKind} {t t' : TypeId} (hx : ev T x = some (qV a)) (hy : ev T y = some (.int yk (n : Int))) : PureOp P ⟨dst, .binOp .shl t x y t', type, pos, after, guard⟩ T (qV (shl64 a n)) := by
  intro ρ hρ w
  refine execShift (hρ x (by simp [Op.operands]) _ hx) (hρ y (by simp [Op.operands]) _ hy) _ w ?_
  rw [bin_shl]
  have : (a.toNat : Int) * 2 ^ min n IntKind.u64.bits = ((a.toNat * 2 ^ min n 64 : Nat) : Int) := by simp [IntKind.bits]
  rw [this, wrap_u64]
  simp [shl64, Nat.shiftLeft_eq]

/-! from kind to kind -/
theorem op_conv8_I {x : Operand} {a : UInt8} {s d : TypeId} (hs : P.underlying s = some (.int .u8)) (hd : P.underlying d = some (.int .i64)) (hx : ev T x = some (bV a)) :
    PureOp P ⟨dst, .convert s d x, type, pos, after, guard⟩ T (iV a.toNat) := by
  have := pureOp_conv (P := P) (dst := dst) (type := type) (pos := pos) (after := after) (guard := guard) hs hd hx
  have h1 := a.toNat_lt
  rwa [wrap64_in (by omega) (by omega)] at this
theorem op_conv8_64 {x : Operand} {a : UInt8} {s d : TypeId} (hs : P.underlying s = some (.int .u8)) (hd : P.underlying d = some (.int .u64)) (hx : ev T x = some (bV a)) :
    PureOp P ⟨dst, .convert s d x, type, pos, after, guard⟩ T (qV a.toUInt64) := by
  have := pureOp_conv (P := P) (dst := dst) (type := type) (pos := pos) (after := after) (guard := guard) hs hd hx
  have h1 := a.toNat_lt
  rw [wrap_u64] at this
  rw [qV, UInt8.toNat_toUInt64]
  rwa [Nat.mod_eq_of_lt (by omega)] at this
theorem op_conv32_64 {x : Operand} {a : UInt32} {s d : TypeId} (hs : P.underlying s = some (.int .u32)) (hd : P.underlying d = some (.int .u64)) (hx : ev T x = some (wV a)) :
    PureOp P ⟨dst, .convert s d x, type, pos, after, guard⟩ T (qV a.toUInt64) := by
  have := pureOp_conv (P := P) (dst := dst) (type := type) (pos := pos) (after := after) (guard := guard) hs hd hx
  have h1 := a.toNat_lt
  rw [wrap_u64] at this
  rw [qV, UInt32.toNat_toUInt64]
  rwa [Nat.mod_eq_of_lt (by omega)] at this
/-- A number of 16 bits. -/
theorem op_convK_I {x : Operand} {k : IntKind} {n : Nat} {s d : TypeId} (hs : P.underlying s = some (.int k)) (hd : P.underlying d = some (.int .i64)) (hx : ev T x = some (.int k (n : Int))) (hn : n < 9223372036854775808) :
    PureOp P ⟨dst, .convert s d x, type, pos, after, guard⟩ T (iV n) := by
  have := pureOp_conv (P := P) (dst := dst) (type := type) (pos := pos) (after := after) (guard := guard) hs hd hx
  rwa [wrap64_in (by omega) (by omega)] at this
theorem op_conv64_I {x : Operand} {a : UInt64} {s d : TypeId} (hs : P.underlying s = some (.int .u64)) (hd : P.underlying d = some (.int .i64)) (hx : ev T x = some (qV a)) (hn : a.toNat < 9223372036854775808) :
    PureOp P ⟨dst, .convert s d x, type, pos, after, guard⟩ T (iV a.toNat) := op_convK_I hs hd hx hn
theorem op_convI_8 {x : Operand} {n : Nat} {s d : TypeId} (hs : P.underlying s = some (.int .i64)) (hd : P.underlying d = some (.int .u8)) (hx : ev T x = some (iV n)) :
    PureOp P ⟨dst, .convert s d x, type, pos, after, guard⟩ T (bV (UInt8.ofNat n)) := by
  have := pureOp_conv (P := P) (dst := dst) (type := type) (pos := pos) (after := after) (guard := guard) hs hd hx
  rw [wrap_u8] at this
  rw [bV, UInt8.toNat_ofNat']; exact this

/-! the lesser, the greater -/
theorem opN_min {x y : Operand} {a b : Nat} {ts : Array TypeId} {ty : TypeId} (hx : ev T x = some (iV a)) (hy : ev T y = some (iV b)) :
    PureOp P ⟨dst, .call ⟨.builtin .min, #[x, y], ts⟩, ty, pos, after, guard⟩ T (iV (min a b)) := by
  intro ρ hρ w
  have hx := hρ x (by simp [Op.operands, Call.operands]) _ hx
  have hy := hρ y (by simp [Op.operands, Call.operands]) _ hy
  simp [execOp, resolve, invoke, builtin, Builtin.min_, Builtin.min2, hx, hy]
  split <;> omega
theorem opZ_max {x y : Operand} {a b : Int} {ts : Array TypeId} {ty : TypeId} (hx : ev T x = some (.int .i64 a)) (hy : ev T y = some (.int .i64 b)) :
    PureOp P ⟨dst, .call ⟨.builtin .max, #[x, y], ts⟩, ty, pos, after, guard⟩ T (.int .i64 (max a b)) := by
  intro ρ hρ w
  have hx := hρ x (by simp [Op.operands, Call.operands]) _ hx
  have hy := hρ y (by simp [Op.operands, Call.operands]) _ hy
  simp [execOp, resolve, invoke, builtin, Builtin.max_, Builtin.max2, hx, hy]
  split <;> omega
theorem opZ_min {x y : Operand} {a b : Int} {ts : Array TypeId} {ty : TypeId} (hx : ev T x = some (.int .i64 a)) (hy : ev T y = some (.int .i64 b)) :
    PureOp P ⟨dst, .call ⟨.builtin .min, #[x, y], ts⟩, ty, pos, after, guard⟩ T (.int .i64 (min a b)) := by
  intro ρ hρ w
  have hx := hρ x (by simp [Op.operands, Call.operands]) _ hx
  have hy := hρ y (by simp [Op.operands, Call.operands]) _ hy
  simp [execOp, resolve, invoke, builtin, Builtin.min_, Builtin.min2, hx, hy]
  split <;> omega

/-! arrays -/
/-- The array behind a slice: its address. -/
theorem opN_arrayAt {t e : TypeId} {x : Operand} {v : Value} {n k : Nat} {cs : List Value} (ht : P.underlying t = some (.array n e)) (hx : ev T x = some v) (ho : slOk v 1 cs) (hn : cs.length = k) (hk : n ≤ k) (h0 : 0 < n) :
    PureOp P ⟨dst, .sliceToArrayPointer t x, type, pos, after, guard⟩ T (elemP v 0) := by
  intro ρ hρ w
  have hx := hρ x (by simp [Op.operands]) _ hx
  have hun : ∀ w, (underlying t).run P w = .ok (.array n e) w := fun w => run_underlying ht w
  have hl := ho.len
  rcases ho with ⟨rfl, rfl⟩ | ⟨b, off, len, cap, rfl, _⟩ | ⟨a, cap, rfl, rfl⟩
  · simp at hn; omega
  · simp [slLen] at hl
    have h1 : ¬ len < n := by omega
    simp [execOp, hx, Instr.arrayAt, hun, h1, elemP]
    rfl
  · simp at hn; omega
theorem opN_index {t e : TypeId} {x y : Operand} {cs : List Value} {n i sz : Nat} {k : IntKind} {v : Value} (ht : P.underlying t = some (.array n e)) (hz : ∀ w, (sizeOf e).run P w = .ok sz w) (hx : ev T x = some (.agg cs.toArray)) (hy : ev T y = some (.int k (i : Int))) (hi : i < n)
    (hp : ∀ w, (part e cs.toArray (i * sz)).run P w = .ok v w) : PureOp P ⟨dst, .index t x y, type, pos, after, guard⟩ T v := by
  intro ρ hρ w
  have hx := hρ x (by simp [Op.operands]) _ hx
  have hy := hρ y (by simp [Op.operands]) _ hy
  have hun : ∀ w, (underlying t).run P w = .ok (.array n e) w := fun w => run_underlying ht w
  simp [execOp, hx, hy, Instr.index, asIntOf, hun, hi, hz, hp]
theorem part_one {e : TypeId} {cs : List Value} {i : Nat} {v : Value} (he : Scal P e) (h : cs[i]? = some v) (w : World) : (part e cs.toArray i).run P w = .ok v w := by
  simp [part, he.1, h]
theorem part_agg {e : TypeId} {cs : List Value} {i n : Nat} (he : AggT P e n) (w : World) : (part e cs.toArray i).run P w = .ok (.agg ((cs.drop i).take n).toArray) w := by
  have : cs.toArray.extract i (i + n) = ((cs.drop i).take n).toArray := by
    apply Array.ext'
    simp [List.extract_eq_take_drop]
  simp [part, he.1, he.2, this]

/-- A slice made, of elements of any cells. -/
theorem allocOp_makeSliceN {t e : TypeId} {n sz bytes : Nat} {z : List Value} {x y : Operand} (ht : SlT P t e sz bytes z) (hx : ev T x = some (iV n)) (hy : ev T y = some (iV n)) (hb : n * bytes ≤ 140737488355328) (hn : n < 9223372036854775808) (h0 : 0 < sz) :
    AllocOp P ⟨dst, .makeSlice t x y, type, pos, after, guard⟩ T (fun v c => slOk v sz (List.replicate n z).flatten ∧ v ≠ .slice none 0 0 ∧ c = .sl v sz (List.replicate n z).flatten) := by
  obtain ⟨hu, i, zv, hi, hsz, hby, hzv, hzc, hzl⟩ := ht
  intro ρ hρ w
  have hx := hρ x (by simp [Op.operands]) _ hx
  have hy := hρ y (by simp [Op.operands]) _ hy
  have hun : ∀ w, (underlying t).run P w = .ok (.slice e) w := fun w => run_underlying hu w
  have hs : ∀ w, (sizeOf e).run P w = .ok sz w := fun w => by simp [sizeOf, typeInfo, hi, hsz]
  have hti : ∀ w, (typeInfo e).run P w = .ok i w := fun w => by simp [typeInfo, hi]
  have hze : ∀ w, (zeroValue e).run P w = .ok zv w := fun w => by simp [zeroValue, typeInfo, hi, hzv]
  have hw : IntKind.i64.wrap (n : Int) = n := by simp [IntKind.wrap, IntKind.bits, IntKind.signed]; omega
  have hzs : zv.cells.size = sz := by rw [← Array.length_toList, hzc, hzl]
  have hfl : (List.replicate n z).flatten.length = n * sz := by simp [hzl]
  have hcells : ((Array.range (n * sz)).map (fun j => zv.cells[j % zv.cells.size]!)) = (List.replicate n z).flatten.toArray := by
    apply Array.ext'
    apply List.ext_getElem
    · simp [hzl]
    · intro j h1 h2
      have hj : j < n * sz := by simpa [hzl] using h2
      have hjm : j % sz < z.length := by rw [hzl]; exact Nat.mod_lt _ h0
      have hdm := Nat.div_add_mod j sz
      have hq : j / sz < n := Nat.div_lt_of_lt_mul (by rw [Nat.mul_comm]; exact hj)
      have e1 := flat_row (List.replicate n z) (j / sz) (j % sz) (fun r hr => by rw [List.eq_of_mem_replicate hr]; exact hzl) (Nat.mod_lt _ h0)
      rw [show j / sz * sz + j % sz = j by rw [Nat.mul_comm]; exact hdm, List.getElem?_replicate, if_pos hq] at e1
      rw [List.getElem?_eq_getElem h2] at e1
      simp only [Option.bind_some] at e1
      rw [List.getElem?_eq_getElem hjm] at e1
      rw [Option.some.inj e1]
      simp only [Array.toList_map, Array.toList_range, List.getElem_map, List.getElem_range, hzs]
      have h3 : j % sz < zv.cells.size := by rw [hzs]; exact Nat.mod_lt _ h0
      rw [getElem!_pos zv.cells _ h3]
      have h4 : zv.cells.toList[j % sz]'(by simpa using h3) = z[j % sz] := by simp only [hzc]
      simpa using h4
  have hbn : ¬ ((bytes : Int) * (n : Int) > 2 ^ 48) := by
    have : ((n * bytes : Nat) : Int) ≤ ((140737488355328 : Nat) : Int) := Int.ofNat_le.2 hb
    rw [Int.natCast_mul, Int.mul_comm] at this
    omega
  have hask : ∀ k w, (askRoom k).run P w = .ok () w := by
    intro k w; unfold askRoom; split
    · simp [mark, Sem.run]
    · simp
  have hrun : ∀ w, (Instr.makeSlice t (.int .i64 n) (.int .i64 n)).run P w = .ok (.slice (some ⟨w.heap.size, 0, none⟩) n n) { w with heap := w.heap.push (.cells (List.replicate n z).flatten.toArray e) } := by
    intro w
    unfold Instr.makeSlice
    simp only [Sem.run_bind, hun, Result.andThen_ok, asInt, asIntOf, Sem.run_pure, hti, hby, hw]
    have h1 : (decide ((n : Int) < 0) || decide ((bytes : Int) * (n : Int) > 2 ^ 48) || decide ((n : Int) < 0) || decide ((n : Int) > (n : Int))) = false := by
      simp; omega
    simp only [h1, Bool.false_eq_true, if_false, Int.toNat_natCast, hask, hs, Sem.run_bind, Result.andThen_ok]
    by_cases h00 : n * sz = 0
    · have hn0 : n = 0 := by rcases Nat.mul_eq_zero.1 h00 with h | h <;> omega
      subst hn0
      simp [run_newRow, show Array.range 0 = #[] from rfl]
    · rw [if_neg h00]
      simp only [Sem.run_bind, hze, Sem.run_pure, Result.andThen_ok, hcells, run_newRow]
  refine ⟨_, _, _, ?_, ⟨slOk_made w.heap.size n n sz _ hfl (Nat.le_refl _), by simp, rfl⟩, ?_, Fr.push w (.cells (List.replicate n z).flatten.toArray e), ?_⟩
  · simp only [execOp, hx, hy, Sem.run_bind, hrun, Result.andThen_ok, Sem.run_pure]
  · exact .inr ⟨w.heap.size, 0, n, n, (List.replicate n z).flatten.toArray, e, (0, 0), rfl, hfl, Nat.le_refl _, by rw [List.size_toArray, hfl]; omega, by simp, okFr_zero _, fun i _ => by rw [Nat.zero_add]; exact List.getElem?_toArray⟩
  · rintro j ⟨off, len, cap, hj⟩
    cases hj
    exact Nat.le_refl _

/-- A copy into a slice's cells. -/
theorem lop_copySl {dT sT ty e : TypeId} {x y : Operand} {v : Value} {n k sz : Nat} {src : Value} {cs ys : List Value} (hu : P.underlying dT = some (.slice e)) (hz : ∀ w, (sizeOf e).run P w = .ok sz w)
    (hx : ev T x = some v) (hy : ev T y = some src) (hsrc : Src P m L src sz n ys) (hk : cs.length = k * sz) (h0 : 0 < sz) (hone : ∀ y, y ∈ ys → one y = true) :
    LOp P ⟨dst, .call ⟨.builtin .copy, #[x, y], #[dT, sT]⟩, ty, pos, after, guard⟩ m T L (.sl v sz cs) (fun u c => u = .int .i64 (min n k : Nat) ∧ c = .sl v sz (segs cs 0 (ys.take (min n k * sz)))) := by
  intro ρ hρ w s hm
  have hx := hρ x (by simp [Op.operands, Call.operands]) _ hx
  have hy := hρ y (by simp [Op.operands, Call.operands]) _ hy
  have hlen : (ys.take (min n k * sz)).length = min n k * sz := by
    have : min n k * sz ≤ n * sz := Nat.mul_le_mul_right _ (Nat.min_le_left _ _)
    rw [List.length_take, hsrc.1]; omega
  have hle : min n k * sz ≤ k * sz := Nat.mul_le_mul_right _ (Nat.min_le_right _ _)
  have hsl : (segs cs 0 (ys.take (min n k * sz))).length = cs.length := segs_length (by rw [hlen]; omega)
  rcases s.chunks _ hm with ⟨rfl, rfl⟩ | ⟨b, off, len, cap, c, el, fr, rfl, hl, hcap, htot, hb, hf, hc⟩
  · obtain rfl : k = 0 := by
      have hk : 0 = k * sz := hk
      rcases Nat.mul_eq_zero.1 hk.symm with h | h <;> omega
    have := run_copy (P := P) (sT := sT) (ty := ty) (base := none) (dLen := 0) (dCap := 0) hu hz hsrc w s
    refine ⟨_, _, _, w, ?_, .inl rfl, ⟨rfl, rfl⟩, .inl ⟨rfl, by simp [segs]⟩, Fr.refl _ _, fun k hk => .inl hk⟩
    simp only [Sem.run_bind, Result.andThen_ok, Sem.run_pure] at this
    simp only [execOp, resolve, invoke, builtin, hx, hy, List.map_toArray, List.map_cons, List.map_nil, Sem.run_bind, Sem.run_pure, Result.andThen_ok, this]
  · have hlk : len = k := Nat.eq_of_mul_eq_mul_right h0 (hl.symm.trans hk)
    subst hlk
    have hcs : off + cs.length ≤ c.size := by
      rw [hl]; exact Nat.le_trans (Nat.add_le_add_left (Nat.mul_le_mul_right _ hcap) _) htot
    obtain ⟨w', hr, hh, hfr⟩ := run_storeCells (P := P) (o := off) (ys.take (min n len * sz)) 0 c w hb hf (by rw [hlen]; omega) (fun u hu => hone u (List.mem_of_mem_take hu))
    rw [Nat.add_zero] at hh
    have hsz : (segs c.toList off (ys.take (min n len * sz))).length = c.toList.length := segs_length (by rw [hlen, Array.length_toList]; omega)
    have := run_copy (P := P) (sT := sT) (ty := ty) (base := some ⟨b, off, none⟩) (dLen := len) (dCap := cap) hu hz hsrc w s
    simp only [Sem.run_bind, hr, Result.andThen_ok, Sem.run_pure] at this
    refine ⟨_, _, _, w', ?_, .inl rfl, ⟨rfl, rfl⟩, ?_, ⟨hfr.os, hfr.tape, hfr.output, hfr.size, fun j hj hne => hfr.block j hj fun e => hne ?_⟩, fun k hk => .inl hk⟩
    · simp only [execOp, resolve, invoke, builtin, hx, hy, List.map_toArray, List.map_cons, List.map_nil, Sem.run_bind, Sem.run_pure, Result.andThen_ok, this]
    · refine .inr ⟨b, off, len, cap, _, el, fr, rfl, by rw [hsl]; exact hl, hcap, by simpa [hsz] using htot, hh, hf.congr (by simpa using hsz), fun i hi => ?_⟩
      rw [hsl] at hi
      have hci := hc i hi
      rw [List.getElem?_toArray, segs_get (by rw [hlen, Array.length_toList]; omega), segs_get (by rw [hlen]; omega)]
      rcases Nat.lt_or_ge i (min n len * sz) with h1 | h1
      · rw [if_neg (by omega), if_pos (by rw [hlen]; omega), if_neg (by omega), if_pos (by rw [hlen]; omega)]; congr 1; omega
      · rw [if_neg (by omega), if_neg (by rw [hlen]; omega), if_neg (by omega), if_neg (by rw [hlen]; omega)]; simpa using hci
    · subst e; exact ⟨off, len, cap, rfl⟩

/-! values compared -/
/-- Two values of a type whose keys are these: equal if these are. -/
theorem opK_equal {t : TypeId} {d : Nat} {x y : Value} {lx ly : List Lit} (hk : P.keyTypeAt d t = true) (hd : d ≤ 10000) (fx : Value.formed P t x = true) (fy : Value.formed P t y = true)
    (hx : P.keyLits d t x.cells.toList = some lx) (hy : P.keyLits d t y.cells.toList = some ly) {p : Prop} [Decidable p] (hpq : lx = ly ↔ p) (w : World) : (Op.equal t x y).run P w = .ok (decide p) w := by
  obtain ⟨r, h1, h2⟩ := run_equalIn_deep (P := P) (10000 - d) d t hk w d d _ _ _ _ fx fy hx hy
  have h3 : r = decide p := by
    rw [hpq] at h2
    cases r with
    | true => simp [h2.1 rfl]
    | false => simp; intro h; exact absurd (h2.2 h) (by simp)
  rw [← h3]
  rw [show 10000 - d + d = 10000 by omega] at h1
  exact h1
theorem opK_eql {t t' : TypeId} {d : Nat} {cx cy : Array Value} {lx ly : List Lit} {x y : Operand} (hg : P.eqGuardType P.depth t = false) (hk : P.keyTypeAt d t = true) (hd : d ≤ 10000) (hx : ev T x = some (.agg cx)) (hy : ev T y = some (.agg cy))
    (fx : Value.formed P t (.agg cx) = true) (fy : Value.formed P t (.agg cy) = true) (kx : P.keyLits d t cx.toList = some lx) (ky : P.keyLits d t cy.toList = some ly) {p : Prop} [Decidable p] (hpq : lx = ly ↔ p) :
    PureOp P ⟨dst, .binOp .eql t x y t', type, pos, after, guard⟩ T (.bool (decide (p))) := by
  intro ρ hρ w
  have hx := hρ x (by simp [Op.operands]) _ hx
  have hy := hρ y (by simp [Op.operands]) _ hy
  have hp : ∀ w, (program).run P w = .ok P w := fun _ => rfl
  simp [execOp, hx, hy, eqGuard, hp, hg, binOp, opK_equal hk hd fx fy kx ky hpq]
theorem opK_neq {t t' : TypeId} {d : Nat} {cx cy : Array Value} {lx ly : List Lit} {x y : Operand} (hg : P.eqGuardType P.depth t = false) (hk : P.keyTypeAt d t = true) (hd : d ≤ 10000) (hx : ev T x = some (.agg cx)) (hy : ev T y = some (.agg cy))
    (fx : Value.formed P t (.agg cx) = true) (fy : Value.formed P t (.agg cy) = true) (kx : P.keyLits d t cx.toList = some lx) (ky : P.keyLits d t cy.toList = some ly) {p : Prop} [Decidable p] (hpq : lx = ly ↔ p) :
    PureOp P ⟨dst, .binOp .neq t x y t', type, pos, after, guard⟩ T (.bool (decide (¬ p))) := by
  intro ρ hρ w
  have hx := hρ x (by simp [Op.operands]) _ hx
  have hy := hρ y (by simp [Op.operands]) _ hy
  have hp : ∀ w, (program).run P w = .ok P w := fun _ => rfl
  simp [execOp, hx, hy, eqGuard, hp, hg, binOp, opK_equal hk hd fx fy kx ky hpq]
/-- A pointer, compared with nil. -/
theorem run_equalNil {t e : TypeId} {a : Option Addr} (ht : P.underlying t = some (.pointer e)) (w : World) : (Op.equal t (.pointer a) (.pointer none)).run P w = .ok a.isNone w := by
  have hun : ∀ w, (underlying t).run P w = .ok (.pointer e) w := fun w => run_underlying ht w
  have h : ∀ d, (Op.equalIn (d + 1) t (.pointer a) (.pointer none)).run P w = .ok a.isNone w := fun d => by
    cases a <;> simp [Op.equalIn, hun]
  exact h 9999
theorem opP_isNil {x : Operand} {a : Option Addr} {t t' e : TypeId} (ht : P.underlying t = some (.pointer e)) (hx : ev T x = some (.pointer a)) : PureOp P ⟨dst, .binOp .eql t x (.const (.pointer none)) t', type, pos, after, guard⟩ T (.bool a.isNone) := by
  intro ρ hρ w
  have hx := hρ x (by simp [Op.operands]) _ hx
  have hy := hρ (.const (.pointer none)) (by simp [Op.operands]) _ rfl
  simp [execOp, hx, hy, eqGuard, binOp, run_equalNil ht]
theorem opP_notNil {x : Operand} {a : Option Addr} {t t' e : TypeId} (ht : P.underlying t = some (.pointer e)) (hx : ev T x = some (.pointer a)) : PureOp P ⟨dst, .binOp .neq t x (.const (.pointer none)) t', type, pos, after, guard⟩ T (.bool (!a.isNone)) := by
  intro ρ hρ w
  have hx := hρ x (by simp [Op.operands]) _ hx
  have hy := hρ (.const (.pointer none)) (by simp [Op.operands]) _ rfl
  simp [execOp, hx, hy, eqGuard, binOp, run_equalNil ht]
theorem run_equalBool {t : TypeId} {a b : Bool} (ht : P.underlying t = some .bool) (w : World) : (Op.equal t (.bool a) (.bool b)).run P w = .ok (a == b) w := by
  have hun : ∀ w, (underlying t).run P w = .ok .bool w := fun w => run_underlying ht w
  have h : ∀ d, (Op.equalIn (d + 1) t (.bool a) (.bool b)).run P w = .ok (a == b) w := fun d => by
    simp [Op.equalIn, hun]
  exact h 9999
theorem opBool_eql {x y : Operand} {a b : Bool} {t t' : TypeId} (ht : P.underlying t = some .bool) (hx : ev T x = some (.bool a)) (hy : ev T y = some (.bool b)) : PureOp P ⟨dst, .binOp .eql t x y t', type, pos, after, guard⟩ T (.bool (a == b)) := by
  intro ρ hρ w
  have hx := hρ x (by simp [Op.operands]) _ hx
  have hy := hρ y (by simp [Op.operands]) _ hy
  simp [execOp, hx, hy, eqGuard, binOp, run_equalBool ht]
theorem opBool_neq {x y : Operand} {a b : Bool} {t t' : TypeId} (ht : P.underlying t = some .bool) (hx : ev T x = some (.bool a)) (hy : ev T y = some (.bool b)) : PureOp P ⟨dst, .binOp .neq t x y t', type, pos, after, guard⟩ T (.bool (!(a == b))) := by
  intro ρ hρ w
  have hx := hρ x (by simp [Op.operands]) _ hx
  have hy := hρ y (by simp [Op.operands]) _ hy
  simp [execOp, hx, hy, eqGuard, binOp, run_equalBool ht]

/-! function values -/
theorem pureOp_makeFuncC {fn : Fn} {b : Operand} {v : Value} (h : ev T b = some v) : PureOp P ⟨dst, .makeFunc fn #[] #[b], type, pos, after, guard⟩ T (.func fn #[] #[v]) := by
  intro ρ hρ w
  have h := hρ b (by simp [Op.operands]) _ h
  simp [execOp, Instr.makeFunc, bind, Sem.bind, pure, Sem.run, h]
theorem callOp_val {f : FuncId} {x : Operand} {xs : Array Operand} {ts : Array TypeId} {vs : List Value} {fst cap : Array Value} (hc : ∀ args w, (callFunc f args).run P w = .ok (.enter f args) w) (hx : ev T x = some (.func (.func f) fst cap))
    (hv : evs T xs.toList = some vs) : CallOp P ⟨dst, .call ⟨.value x, xs, ts⟩, type, pos, after, guard⟩ T f (fst.toList ++ vs ++ cap.toList) := by
  intro ρ hρ w
  have hf := hρ x (by simp [Op.operands, Call.operands]) _ hx
  have hargs : xs.map ρ = vs.toArray := by
    apply Array.ext'
    rw [Array.toList_map]
    have key : ∀ (l : List Operand) (vs : List Value), evs T l = some vs → (∀ x, x ∈ l → ∀ u, ev T x = some u → ρ x = u) → l.map ρ = vs := by
      intro l
      induction l with
      | nil => intro vs h _; simp [evs] at h; simp [h]
      | cons x l ih =>
        intro vs h hr
        simp only [evs] at h
        cases hx : ev T x with
        | none => rw [hx] at h; cases h
        | some v =>
          cases hl : evs T l with
          | none => rw [hx, hl] at h; cases h
          | some us =>
            rw [hx, hl] at h
            cases h
            rw [List.map_cons, ih us hl (fun y hy => hr y (List.mem_cons_of_mem _ hy)), hr x (List.mem_cons_self ..) v hx]
    exact key xs.toList vs hv fun x hx u hu => hρ x (by simp only [Op.operands, Call.operands]; exact Array.mem_append.2 (.inr (Array.mem_toList_iff.1 hx))) u hu
  have e : (fst ++ vs.toArray ++ cap) = (fst.toList ++ vs ++ cap.toList).toArray := by apply Array.ext'; simp
  simp [execOp, resolve, hf, Deferred.ofValue, invoke, hargs, hc]
end

/-! results -/
section
variable {P : Program} {fn : Func} {nt : Nat} {m : Mem} {T : Tm} {L : List Chunk}
theorem res_cell_tmp2 {t u s' : Tmp} {ty : TypeId} {b n : Nat} {cs : List Value} {x y : Value} (h : fn.results = #[.cell t ty, .tmp u, .tmp s']) (hv : T t = some (.pointer (some ⟨b, 0, none⟩))) (hm : Chunk.obj b cs ∈ L) (hn : cs.length = n) (ht : AggT P ty n)
    (hx : T u = some x) (hy : T s' = some y) : ResultsOk P fn nt m T L (.tuple #[.agg cs.toArray, x, y]) := by
  intro a w ha s
  have := run_cellRes (P := P) (a := ⟨b, 0, none⟩) (by rw [hn]; exact ht) s fun j u hj => by rw [add_mk]; exact memOf_obj hm (by simpa using hj)
  simp [results, h, (ha.2.2 t _ hv).2, (ha.2.2 u _ hx).2, (ha.2.2 s' _ hy).2, asAddr, this]
theorem res_tmp2_cell_tmp {t u s' q : Tmp} {ty : TypeId} {b n : Nat} {cs : List Value} {x y z : Value} (h : fn.results = #[.tmp t, .tmp u, .cell s' ty, .tmp q]) (hv : T s' = some (.pointer (some ⟨b, 0, none⟩))) (hm : Chunk.obj b cs ∈ L) (hn : cs.length = n) (ht : AggT P ty n)
    (hx : T t = some x) (hy : T u = some y) (hz : T q = some z) : ResultsOk P fn nt m T L (.tuple #[x, y, .agg cs.toArray, z]) := by
  intro a w ha s
  have := run_cellRes (P := P) (a := ⟨b, 0, none⟩) (by rw [hn]; exact ht) s fun j u hj => by rw [add_mk]; exact memOf_obj hm (by simpa using hj)
  simp [results, h, (ha.2.2 t _ hx).2, (ha.2.2 u _ hy).2, (ha.2.2 s' _ hv).2, (ha.2.2 q _ hz).2, asAddr, this]
theorem res_tmp4 {t u s' q : Tmp} {v x y z : Value} (h : fn.results = #[.tmp t, .tmp u, .tmp s', .tmp q]) (hv : T t = some v) (hx : T u = some x) (hy : T s' = some y) (hz : T q = some z) : ResultsOk P fn nt m T L (.tuple #[v, x, y, z]) := by
  intro a w ha _
  simp [results, h, (ha.2.2 t v hv).2, (ha.2.2 u x hx).2, (ha.2.2 s' y hy).2, (ha.2.2 q z hz).2]
end
end Go.Proofs.Ytpnipajadjeifaa.Sep
