/- Values of bytes and words; lists of chunks in another order; small words for the walks. -/
import Derived.Test.YtpnipajadjeifaaSepK
import Derived.KernelRfl
namespace Go.Proofs.Ytpnipajadjeifaa.Sep
open Go Go.RowKit
set_option linter.unusedVariables false
set_option linter.unusedSimpArgs false

@[reducible] def bV (b : UInt8) : Value := .int .u8 (b.toNat : Int)
@[reducible] def wV (x : UInt32) : Value := .int .u32 (x.toNat : Int)
@[reducible] def qV (x : UInt64) : Value := .int .u64 (x.toNat : Int)
@[reducible] def iV (i : Nat) : Value := .int .i64 (i : Int)

theorem bV_inj {a b : UInt8} (h : bV a = bV b) : a = b := by
  simp only [bV, Value.int.injEq, true_and] at h
  exact UInt8.toNat_inj.1 (by omega)
theorem wV_inj {a b : UInt32} (h : wV a = wV b) : a = b := by
  simp only [wV, Value.int.injEq, true_and] at h
  exact UInt32.toNat_inj.1 (by omega)

theorem one_map {α : Type} {f : α → Value} (hf : ∀ a, one (f a) = true) (l : List α) : ∀ u, u ∈ l.map f → one u = true := by
  intro u hu
  obtain ⟨a, _, rfl⟩ := List.mem_map.1 hu
  exact hf a

theorem wrap_u8 (n : Nat) : IntKind.u8.wrap (n : Int) = ((n % 256 : Nat) : Int) := by simp [IntKind.wrap, IntKind.bits, IntKind.signed]
theorem wrap_u32 (n : Nat) : IntKind.u32.wrap (n : Int) = ((n % 4294967296 : Nat) : Int) := by simp [IntKind.wrap, IntKind.bits, IntKind.signed]
theorem wrap_u64 (n : Nat) : IntKind.u64.wrap (n : Int) = ((n % 18446744073709551616 : Nat) : Int) := by simp [IntKind.wrap, IntKind.bits, IntKind.signed]

section
variable {P : Program} {T : Tm} {m : Mem} {L : List Chunk} {dst : Option Tmp} {type : TypeId} {pos : String} {after : Array Edge} {guard : Option (Nat × Bool)}

theorem execBits {ρ : Operand → Value} {op : BinOp} {t t' : TypeId} {x y : Operand} {k : IntKind} {a b : Int} (hx : ρ x = .int k a) (hy : ρ y = .int k b) (r : Int) (w : World)
    (h : (binOp op t (.int k a) (.int k b)).run P w = .ok (.int k r) w) :
    (execOp ρ ⟨dst, .binOp op t x y t', type, pos, after, guard⟩).run P w = .ok (.value (.int k r)) w := by
  rw [execOp_binInt hx hy, Sem.run_bind, h]; rfl

theorem bin_and {t : TypeId} {k : IntKind} {a b : Int} (w : World) : (binOp .and t (.int k a) (.int k b)).run P w = .ok (.int k (k.wrap ((BitVec.ofInt k.bits a &&& BitVec.ofInt k.bits b).toNat))) w := by
  simp [binOp, Op.intBits]
theorem bin_or {t : TypeId} {k : IntKind} {a b : Int} (w : World) : (binOp .or t (.int k a) (.int k b)).run P w = .ok (.int k (k.wrap ((BitVec.ofInt k.bits a ||| BitVec.ofInt k.bits b).toNat))) w := by
  simp [binOp, Op.intBits]
theorem bin_xor {t : TypeId} {k : IntKind} {a b : Int} (w : World) : (binOp .xor t (.int k a) (.int k b)).run P w = .ok (.int k (k.wrap ((BitVec.ofInt k.bits a ^^^ BitVec.ofInt k.bits b).toNat))) w := by
  simp [binOp, Op.intBits]
theorem bin_shl {t : TypeId} {k yk : IntKind} {a : Int} {n : Nat} (w : World) : (binOp .shl t (.int k a) (.int yk (n : Int))).run P w = .ok (.int k (k.wrap (a * 2 ^ min n k.bits))) w := by
  have : ¬ ((n : Int) < 0) := by omega
  simp [binOp, Op.shift, this]
theorem bin_shr {t : TypeId} {k yk : IntKind} {a : Int} {n : Nat} (w : World) : (binOp .shr t (.int k a) (.int yk (n : Int))).run P w = .ok (.int k (a.fdiv (2 ^ min n k.bits))) w := by
  have : ¬ ((n : Int) < 0) := by omega
  simp [binOp, Op.shift, this]

theorem execShift {ρ : Operand → Value} {op : BinOp} {t t' : TypeId} {x y : Operand} {k yk : IntKind} {a b : Int} (hx : ρ x = .int k a) (hy : ρ y = .int yk b) (r : Int) (w : World)
    (h : (binOp op t (.int k a) (.int yk b)).run P w = .ok (.int k r) w) :
    (execOp ρ ⟨dst, .binOp op t x y t', type, pos, after, guard⟩).run P w = .ok (.value (.int k r)) w := by
  have : (execOp ρ ⟨dst, .binOp op t x y t', type, pos, after, guard⟩).run P w = (binOp op t (.int k a) (.int yk b) >>= fun v => (Sem.pure (Next.value v) : Sem Next)).run P w := by
    simp only [execOp, hx, hy, eqGuard, bind, Sem.bind, pure]
    cases op <;> rfl
  rw [this, Sem.run_bind, h]; rfl

/-! words of 32 bits -/
theorem ofInt32 (a : UInt32) : BitVec.ofInt IntKind.u32.bits (a.toNat : Int) = a.toBitVec := by
  apply BitVec.eq_of_toNat_eq
  simp [IntKind.bits, BitVec.toNat_ofInt]
theorem back32 (b : BitVec 32) : IntKind.u32.wrap (b.toNat : Int) = ((UInt32.ofBitVec b).toNat : Int) := by
  rw [wrap_u32]
  have := b.isLt
  simp; omega

theorem op32_add {x y : Operand} {a b : UInt32} {t t' : TypeId} (hx : ev T x = some (wV a)) (hy : ev T y = some (wV b)) : PureOp P ⟨dst, .binOp .add t x y t', type, pos, after, guard⟩ T (wV (a + b)) := by
  have := pureOp_add (P := P) (dst := dst) (type := type) (pos := pos) (after := after) (guard := guard) (t := t) (t' := t') hx hy
  rw [show (a.toNat : Int) + (b.toNat : Int) = ((a.toNat + b.toNat : Nat) : Int) by simp, wrap_u32] at this
  rw [wV, UInt32.toNat_add]; exact this
theorem op32_and {x y : Operand} {a b : UInt32} {t t' : TypeId} (hx : ev T x = some (wV a)) (hy : ev T y = some (wV b)) : PureOp P ⟨dst, .binOp .and t x y t', type, pos, after, guard⟩ T (wV (a &&& b)) := by
  intro ρ hρ w
  refine execBits (hρ x (by simp [Op.operands]) _ hx) (hρ y (by simp [Op.operands]) _ hy) _ w ?_
  rw [bin_and, ofInt32, ofInt32]
  exact congrArg (fun z => Result.ok (Value.int .u32 z) w) (back32 _)
theorem op32_or {x y : Operand} {a b : UInt32} {t t' : TypeId} (hx : ev T x = some (wV a)) (hy : ev T y = some (wV b)) : PureOp P ⟨dst, .binOp .or t x y t', type, pos, after, guard⟩ T (wV (a ||| b)) := by
  intro ρ hρ w
  refine execBits (hρ x (by simp [Op.operands]) _ hx) (hρ y (by simp [Op.operands]) _ hy) _ w ?_
  rw [bin_or, ofInt32, ofInt32]
  exact congrArg (fun z => Result.ok (Value.int .u32 z) w) (back32 _)
theorem op32_xor {x y : Operand} {a b : UInt32} {t t' : TypeId} (hx : ev T x = some (wV a)) (hy : ev T y = some (wV b)) : PureOp P ⟨dst, .binOp .xor t x y t', type, pos, after, guard⟩ T (wV (a ^^^ b)) := by
  intro ρ hρ w
  refine execBits (hρ x (by simp [Op.operands]) _ hx) (hρ y (by simp [Op.operands]) _ hy) _ w ?_
  rw [bin_xor, ofInt32, ofInt32]
  exact congrArg (fun z => Result.ok (Value.int .u32 z) w) (back32 _)
theorem op32_sub {x y : Operand} {a b : UInt32} {t t' : TypeId} (hx : ev T x = some (wV a)) (hy : ev T y = some (wV b)) : PureOp P ⟨dst, .binOp .sub t x y t', type, pos, after, guard⟩ T (wV (a - b)) := by
  have := pureOp_sub (P := P) (dst := dst) (type := type) (pos := pos) (after := after) (guard := guard) (t := t) (t' := t') hx hy
  have e : IntKind.u32.wrap ((a.toNat : Int) - (b.toNat : Int)) = ((a - b).toNat : Int) := by
    have h1 := a.toNat_lt
    have h2 := b.toNat_lt
    simp only [IntKind.wrap, IntKind.bits, IntKind.signed, UInt32.toNat_sub]
    simp
    omega
  rw [e] at this; exact this
theorem op32_mul {x y : Operand} {a b : UInt32} {t t' : TypeId} (hx : ev T x = some (wV a)) (hy : ev T y = some (wV b)) : PureOp P ⟨dst, .binOp .mul t x y t', type, pos, after, guard⟩ T (wV (a * b)) := by
  have := pureOp_mul (P := P) (dst := dst) (type := type) (pos := pos) (after := after) (guard := guard) (t := t) (t' := t') hx hy
  rw [show (a.toNat : Int) * (b.toNat : Int) = ((a.toNat * b.toNat : Nat) : Int) by simp, wrap_u32] at this
  rw [wV, UInt32.toNat_mul]; exact this
theorem op32_not {x : Operand} {a : UInt32} {t : TypeId} (hx : ev T x = some (wV a)) : PureOp P ⟨dst, .unOp .xor t x, type, pos, after, guard⟩ T (wV (~~~a)) := by
  intro ρ hρ w
  have hx := hρ x (by simp [Op.operands]) _ hx
  have e : IntKind.u32.wrap (((BitVec.ofInt IntKind.u32.bits IntKind.u32.max) ^^^ (BitVec.ofInt IntKind.u32.bits (a.toNat : Int))).toNat : Int) = ((~~~a).toNat : Int) := by
    rw [ofInt32]
    have h1 : BitVec.ofInt IntKind.u32.bits IntKind.u32.max = (BitVec.allOnes 32) := rfl
    rw [h1]
    have h2 : BitVec.allOnes 32 ^^^ a.toBitVec = (~~~a).toBitVec := by
      rw [BitVec.allOnes_xor]; rfl
    exact (congrArg (fun z : BitVec 32 => IntKind.u32.wrap (z.toNat : Int)) h2).trans (back32 _)
  simp only [execOp, hx, Op.unary, Op.intBits, Sem.run_bind, IntKind.signed, Bool.false_eq_true, if_false, Sem.run_pure, Result.andThen_ok]
  exact congrArg (fun z => Result.ok (Next.value (Value.int .u32 z)) w) e
/-- The shifts, as functions of a number. -/
def shl32 (a : UInt32) (n : Nat) : UInt32 := UInt32.ofNat (a.toNat <<< min n 32)
def shr32 (a : UInt32) (n : Nat) : UInt32 := UInt32.ofNat (a.toNat >>> min n 32)
theorem op32_shl {x y : Operand} {a : UInt32} {n : Nat} {yk : IntKind} {t t' : TypeId} (hx : ev T x = some (wV a)) (hy : ev T y = some (.int yk (n : Int))) : PureOp P ⟨dst, .binOp .shl t x y t', type, pos, after, guard⟩ T (wV (shl32 a n)) := by
  intro ρ hρ w
  refine execShift (hρ x (by simp [Op.operands]) _ hx) (hρ y (by simp [Op.operands]) _ hy) _ w ?_
  rw [bin_shl]
  have : (a.toNat : Int) * 2 ^ min n IntKind.u32.bits = ((a.toNat * 2 ^ min n 32 : Nat) : Int) := by simp [IntKind.bits]
  rw [this, wrap_u32]
  simp [shl32, Nat.shiftLeft_eq]
theorem op32_shr {x y : Operand} {a : UInt32} {n : Nat} {yk : IntKind} {t t' : TypeId} (hx : ev T x = some (wV a)) (hy : ev T y = some (.int yk (n : Int))) : PureOp P ⟨dst, .binOp .shr t x y t', type, pos, after, guard⟩ T (wV (shr32 a n)) := by
  intro ρ hρ w
  refine execShift (hρ x (by simp [Op.operands]) _ hx) (hρ y (by simp [Op.operands]) _ hy) _ w ?_
  rw [bin_shr]
  have : (a.toNat : Int).fdiv (2 ^ min n IntKind.u32.bits) = ((a.toNat / 2 ^ min n 32 : Nat) : Int) := by
    rw [Int.fdiv_eq_ediv_of_nonneg _ (by exact Int.le_of_lt (Int.pow_pos (by decide)))]
    simp [IntKind.bits]
  rw [this]
  have h1 : a.toNat / 2 ^ min n 32 < 4294967296 := Nat.lt_of_le_of_lt (Nat.div_le_self ..) a.toNat_lt
  have e : (shr32 a n).toNat = a.toNat / 2 ^ min n 32 := by
    simp only [shr32, Nat.shiftRight_eq_div_pow, UInt32.toNat_ofNat']
    exact Nat.mod_eq_of_lt h1
  rw [e]

/-! from kind to kind -/
theorem op_conv8_32 {x : Operand} {a : UInt8} {s d : TypeId} (hs : P.underlying s = some (.int .u8)) (hd : P.underlying d = some (.int .u32)) (hx : ev T x = some (bV a)) :
    PureOp P ⟨dst, .convert s d x, type, pos, after, guard⟩ T (wV a.toUInt32) := by
  have := pureOp_conv (P := P) (dst := dst) (type := type) (pos := pos) (after := after) (guard := guard) hs hd hx
  rw [wrap_u32] at this
  have h1 := a.toNat_lt
  rw [wV, UInt8.toNat_toUInt32]
  rwa [Nat.mod_eq_of_lt (by omega)] at this
theorem op_conv32_8 {x : Operand} {a : UInt32} {s d : TypeId} (hs : P.underlying s = some (.int .u32)) (hd : P.underlying d = some (.int .u8)) (hx : ev T x = some (wV a)) :
    PureOp P ⟨dst, .convert s d x, type, pos, after, guard⟩ T (bV a.toUInt8) := by
  have := pureOp_conv (P := P) (dst := dst) (type := type) (pos := pos) (after := after) (guard := guard) hs hd hx
  rw [wrap_u8] at this
  rw [bV, UInt32.toNat_toUInt8]; exact this
theorem op_conv64_8 {x : Operand} {a : UInt64} {s d : TypeId} (hs : P.underlying s = some (.int .u64)) (hd : P.underlying d = some (.int .u8)) (hx : ev T x = some (qV a)) :
    PureOp P ⟨dst, .convert s d x, type, pos, after, guard⟩ T (bV a.toUInt8) := by
  have := pureOp_conv (P := P) (dst := dst) (type := type) (pos := pos) (after := after) (guard := guard) hs hd hx
  rw [wrap_u8] at this
  rw [bV, UInt64.toNat_toUInt8]; exact this
theorem op_convI_64 {x : Operand} {n : Nat} {s d : TypeId} (hs : P.underlying s = some (.int .i64)) (hd : P.underlying d = some (.int .u64)) (hx : ev T x = some (iV n)) (hn : n < 18446744073709551616) :
    PureOp P ⟨dst, .convert s d x, type, pos, after, guard⟩ T (qV (UInt64.ofNat n)) := by
  have := pureOp_conv (P := P) (dst := dst) (type := type) (pos := pos) (after := after) (guard := guard) hs hd hx
  rw [wrap_u64] at this
  rw [qV, UInt64.toNat_ofNat']; exact this
theorem op_convI_uint {x : Operand} {n : Nat} {k : IntKind} {s d : TypeId} (hs : P.underlying s = some (.int .i64)) (hd : P.underlying d = some (.int .u64)) (hx : ev T x = some (iV n)) (hn : n < 18446744073709551616) :
    PureOp P ⟨dst, .convert s d x, type, pos, after, guard⟩ T (.int .u64 (n : Int)) := by
  have := pureOp_conv (P := P) (dst := dst) (type := type) (pos := pos) (after := after) (guard := guard) hs hd hx
  rwa [wrap_u64, Nat.mod_eq_of_lt hn] at this

/-! words of 64 bits -/
theorem op64_add {x y : Operand} {a b : UInt64} {t t' : TypeId} (hx : ev T x = some (qV a)) (hy : ev T y = some (qV b)) : PureOp P ⟨dst, .binOp .add t x y t', type, pos, after, guard⟩ T (qV (a + b)) := by
  have := pureOp_add (P := P) (dst := dst) (type := type) (pos := pos) (after := after) (guard := guard) (t := t) (t' := t') hx hy
  rw [show (a.toNat : Int) + (b.toNat : Int) = ((a.toNat + b.toNat : Nat) : Int) by simp, wrap_u64] at this
  rw [qV, UInt64.toNat_add]; exact this
theorem op64_mul {x y : Operand} {a b : UInt64} {t t' : TypeId} (hx : ev T x = some (qV a)) (hy : ev T y = some (qV b)) : PureOp P ⟨dst, .binOp .mul t x y t', type, pos, after, guard⟩ T (qV (a * b)) := by
  have := pureOp_mul (P := P) (dst := dst) (type := type) (pos := pos) (after := after) (guard := guard) (t := t) (t' := t') hx hy
  rw [show (a.toNat : Int) * (b.toNat : Int) = ((a.toNat * b.toNat : Nat) : Int) by simp, wrap_u64] at this
  rw [qV, UInt64.toNat_mul]; exact this
def shr64 (a : UInt64) (n : Nat) : UInt64 := UInt64.ofNat (a.toNat >>> min n 64)
theorem op64_shr {x y : Operand} {a : UInt64} {n : Nat} {yk : IntKind} {t t' : TypeId} (hx : ev T x = some (qV a)) (hy : ev T y = some (.int yk (n : Int))) : PureOp P ⟨dst, .binOp .shr t x y t', type, pos, after, guard⟩ T (qV (shr64 a n)) := by
  intro ρ hρ w
  refine execShift (hρ x (by simp [Op.operands]) _ hx) (hρ y (by simp [Op.operands]) _ hy) _ w ?_
  rw [bin_shr]
  have : (a.toNat : Int).fdiv (2 ^ min n IntKind.u64.bits) = ((a.toNat / 2 ^ min n 64 : Nat) : Int) := by
    rw [Int.fdiv_eq_ediv_of_nonneg _ (by exact Int.le_of_lt (Int.pow_pos (by decide)))]
    simp [IntKind.bits]
  rw [this]
  have h1 : a.toNat / 2 ^ min n 64 < 18446744073709551616 := Nat.lt_of_le_of_lt (Nat.div_le_self ..) a.toNat_lt
  have e : (shr64 a n).toNat = a.toNat / 2 ^ min n 64 := by
    simp only [shr64, Nat.shiftRight_eq_div_pow, UInt64.toNat_ofNat']
    exact Nat.mod_eq_of_lt h1
  rw [e]
end

/-! natural numbers as int -/
section
variable {P : Program} {T : Tm} {m : Mem} {L : List Chunk} {dst : Option Tmp} {type : TypeId} {pos : String} {after : Array Edge} {guard : Option (Nat × Bool)}
theorem opN_add {x y : Operand} {a b : Nat} {t t' : TypeId} (hx : ev T x = some (iV a)) (hy : ev T y = some (iV b)) (h : a + b < 9223372036854775808) :
    PureOp P ⟨dst, .binOp .add t x y t', type, pos, after, guard⟩ T (iV (a + b)) := by
  have := pureOp_addI (P := P) (dst := dst) (type := type) (pos := pos) (after := after) (guard := guard) (t := t) (t' := t') hx hy (by omega)
  rwa [← Int.natCast_add] at this
theorem opN_sub {x y : Operand} {a b : Nat} {t t' : TypeId} (hx : ev T x = some (iV a)) (hy : ev T y = some (iV b)) (h : b ≤ a ∧ a < 9223372036854775808) :
    PureOp P ⟨dst, .binOp .sub t x y t', type, pos, after, guard⟩ T (iV (a - b)) := by
  have := pureOp_subI (P := P) (dst := dst) (type := type) (pos := pos) (after := after) (guard := guard) (t := t) (t' := t') hx hy (by omega)
  rwa [← Int.natCast_sub h.1] at this
theorem opN_mul {x y : Operand} {a b : Nat} {t t' : TypeId} (hx : ev T x = some (iV a)) (hy : ev T y = some (iV b)) (h : a * b < 9223372036854775808) :
    PureOp P ⟨dst, .binOp .mul t x y t', type, pos, after, guard⟩ T (iV (a * b)) := by
  have e : (a : Int) * (b : Int) = ((a * b : Nat) : Int) := by simp
  have := pureOp_mulI (P := P) (dst := dst) (type := type) (pos := pos) (after := after) (guard := guard) (t := t) (t' := t') hx hy (by rw [e]; omega)
  rwa [e] at this
theorem opN_quo {x y : Operand} {a b : Nat} {t t' : TypeId} (hx : ev T x = some (iV a)) (hy : ev T y = some (iV b)) (ha : a < 9223372036854775808) (hb : 0 < b) :
    PureOp P ⟨dst, .binOp .quo t x y t', type, pos, after, guard⟩ T (iV (a / b)) := by
  have := pureOp_quoI (P := P) (dst := dst) (type := type) (pos := pos) (after := after) (guard := guard) (t := t) (t' := t') hx hy (by omega) (by omega)
  rwa [← Int.natCast_ediv] at this
theorem opN_rem {x y : Operand} {a b : Nat} {t t' : TypeId} (hx : ev T x = some (iV a)) (hy : ev T y = some (iV b)) (ha : a < 9223372036854775808) (hb : 0 < b) :
    PureOp P ⟨dst, .binOp .rem t x y t', type, pos, after, guard⟩ T (iV (a % b)) := by
  have := pureOp_remI (P := P) (dst := dst) (type := type) (pos := pos) (after := after) (guard := guard) (t := t) (t' := t') hx hy (by omega) (by omega)
  rwa [← Int.natCast_emod] at this
theorem opN_lss {x y : Operand} {a b : Nat} {k : IntKind} {t t' : TypeId} (hx : ev T x = some (.int k (a : Int))) (hy : ev T y = some (.int k (b : Int))) : PureOp P ⟨dst, .binOp .lss t x y t', type, pos, after, guard⟩ T (.bool (decide (a < b))) := by
  have := pureOp_lss (P := P) (dst := dst) (type := type) (pos := pos) (after := after) (guard := guard) (t := t) (t' := t') hx hy
  rwa [decide_eq_decide.2 (show ((a : Int) < (b : Int)) ↔ a < b by omega)] at this
theorem opN_leq {x y : Operand} {a b : Nat} {k : IntKind} {t t' : TypeId} (hx : ev T x = some (.int k (a : Int))) (hy : ev T y = some (.int k (b : Int))) : PureOp P ⟨dst, .binOp .leq t x y t', type, pos, after, guard⟩ T (.bool (decide (a ≤ b))) := by
  have := pureOp_leq (P := P) (dst := dst) (type := type) (pos := pos) (after := after) (guard := guard) (t := t) (t' := t') hx hy
  rwa [decide_eq_decide.2 (show ((a : Int) ≤ (b : Int)) ↔ a ≤ b by omega)] at this
theorem opN_gtr {x y : Operand} {a b : Nat} {k : IntKind} {t t' : TypeId} (hx : ev T x = some (.int k (a : Int))) (hy : ev T y = some (.int k (b : Int))) : PureOp P ⟨dst, .binOp .gtr t x y t', type, pos, after, guard⟩ T (.bool (decide (b < a))) := by
  have := pureOp_gtr (P := P) (dst := dst) (type := type) (pos := pos) (after := after) (guard := guard) (t := t) (t' := t') hx hy
  rwa [decide_eq_decide.2 (show ((a : Int) > (b : Int)) ↔ b < a by omega)] at this
theorem opN_geq {x y : Operand} {a b : Nat} {k : IntKind} {t t' : TypeId} (hx : ev T x = some (.int k (a : Int))) (hy : ev T y = some (.int k (b : Int))) : PureOp P ⟨dst, .binOp .geq t x y t', type, pos, after, guard⟩ T (.bool (decide (b ≤ a))) := by
  have := pureOp_geq (P := P) (dst := dst) (type := type) (pos := pos) (after := after) (guard := guard) (t := t) (t' := t') hx hy
  rwa [decide_eq_decide.2 (show ((a : Int) ≥ (b : Int)) ↔ b ≤ a by omega)] at this
theorem opN_eql {x y : Operand} {a b : Nat} {k : IntKind} {t t' : TypeId} (hx : ev T x = some (.int k (a : Int))) (hy : ev T y = some (.int k (b : Int))) : PureOp P ⟨dst, .binOp .eql t x y t', type, pos, after, guard⟩ T (.bool (decide (a = b))) := by
  have := pureOp_eql (P := P) (dst := dst) (type := type) (pos := pos) (after := after) (guard := guard) (t := t) (t' := t') hx hy
  rwa [decide_eq_decide.2 (show ((a : Int) = (b : Int)) ↔ a = b by omega)] at this
theorem opN_neq {x y : Operand} {a b : Nat} {k : IntKind} {t t' : TypeId} (hx : ev T x = some (.int k (a : Int))) (hy : ev T y = some (.int k (b : Int))) : PureOp P ⟨dst, .binOp .neq t x y t', type, pos, after, guard⟩ T (.bool (decide (a ≠ b))) := by
  have := pureOp_neq (P := P) (dst := dst) (type := type) (pos := pos) (after := after) (guard := guard) (t := t) (t' := t') hx hy
  rwa [decide_eq_decide.2 (not_congr (show ((a : Int) = (b : Int)) ↔ a = b by omega))] at this
/-- The i-th place of an array of cells that begins an object. -/
theorem opN_indexArr0 {t : TypeId} {x y : Operand} {b n : Nat} {k : IntKind} {i : Nat} (ha : ArrT P t n 1) (hx : ev T x = some (.pointer (some ⟨b, 0, none⟩)))
    (hy : ev T y = some (.int k (i : Int))) (hi : i < n) : PureOp P ⟨dst, .indexAddr t x y, type, pos, after, guard⟩ T (.pointer (some ⟨b, i, none⟩)) := by
  have := pureOp_indexArr (P := P) (dst := dst) (type := type) (pos := pos) (after := after) (guard := guard) ha hx hy (by omega)
  simpa using this
theorem opN_indexArr {t : TypeId} {x y : Operand} {b o n sz : Nat} {k : IntKind} {i : Nat} (ha : ArrT P t n sz) (hx : ev T x = some (.pointer (some ⟨b, o, none⟩)))
    (hy : ev T y = some (.int k (i : Int))) (hi : i < n) : PureOp P ⟨dst, .indexAddr t x y, type, pos, after, guard⟩ T (.pointer (some ⟨b, o + i * sz, none⟩)) := by
  have := pureOp_indexArr (P := P) (dst := dst) (type := type) (pos := pos) (after := after) (guard := guard) ha hx hy (by omega)
  simpa using this
theorem opN_indexSl {t e : TypeId} {x y : Operand} {v : Value} {n sz : Nat} {cs : List Value} {k : IntKind} {i : Nat} (ht : P.underlying t = some (.slice e)) (hz : ∀ w, (sizeOf e).run P w = .ok sz w)
    (hx : ev T x = some v) (ho : slOk v sz cs) (hn : cs.length = n * sz) (h0 : 0 < sz)
    (hy : ev T y = some (.int k (i : Int))) (hi : i < n) : PureOp P ⟨dst, .indexAddr t x y, type, pos, after, guard⟩ T (elemP v (i * sz)) := by
  have := pureOp_indexSl (P := P) (dst := dst) (type := type) (pos := pos) (after := after) (guard := guard) ht hz hx ho hn h0 hy (by omega)
  simpa using this
theorem opN_indexSl1 {t e : TypeId} {x y : Operand} {v : Value} {cs : List Value} {k : IntKind} {i : Nat} (ht : P.underlying t = some (.slice e)) (hz : ∀ w, (sizeOf e).run P w = .ok 1 w)
    (hx : ev T x = some v) (ho : slOk v 1 cs) (hy : ev T y = some (.int k (i : Int))) (hi : i < cs.length) : PureOp P ⟨dst, .indexAddr t x y, type, pos, after, guard⟩ T (elemP v i) := by
  have := opN_indexSl (P := P) (dst := dst) (type := type) (pos := pos) (after := after) (guard := guard) ht hz hx ho (n := cs.length) (by simp) (by decide) hy hi
  simpa using this
theorem opN_len1 {t e ty : TypeId} {x : Operand} {v : Value} {cs : List Value} (n : Nat) (ht : P.underlying t = some (.slice e)) (hx : ev T x = some v) (ho : slOk v 1 cs) (hn : cs.length = n) :
    PureOp P ⟨dst, .call ⟨.builtin .len, #[x], #[t]⟩, ty, pos, after, guard⟩ T (iV n) := pureOp_len ht hx ho (by omega) (by decide)
end

theorem loadAll {P : Program} {T : Tm} {m : Mem} {L : List Chunk} {dst : Option Tmp} {type : TypeId} {pos : String} {after : Array Edge} {guard : Option (Nat × Bool)} {t : TypeId} {x : Operand} {b n : Nat} {cs : List Value}
    (hx : ev T x = some (.pointer (some ⟨b, 0, none⟩))) (hm : Chunk.obj b cs ∈ L) (hn : cs.length = n) (ht : AggT P t n) : LoadOp P ⟨dst, .load t x, type, pos, after, guard⟩ m T L (.agg cs.toArray) :=
  loadOp_objAll (by rw [hn]; exact ht) hx hm
theorem resCell {P : Program} {T : Tm} {m : Mem} {L : List Chunk} {fn : Func} {nt : Nat} {t : Tmp} {ty : TypeId} {b n : Nat} {cs : List Value} (h : fn.results = #[.cell t ty]) (hv : T t = some (.pointer (some ⟨b, 0, none⟩)))
    (hm : Chunk.obj b cs ∈ L) (hn : cs.length = n) (ht : AggT P ty n) : ResultsOk P fn nt m T L (.agg cs.toArray) := res_cell h hv (by rw [hn]; exact ht) hm
theorem resCellTmp {P : Program} {T : Tm} {m : Mem} {L : List Chunk} {fn : Func} {nt : Nat} {t u : Tmp} {ty : TypeId} {b n : Nat} {cs : List Value} {x : Value} (h : fn.results = #[.cell t ty, .tmp u])
    (hv : T t = some (.pointer (some ⟨b, 0, none⟩))) (hm : Chunk.obj b cs ∈ L) (hn : cs.length = n) (ht : AggT P ty n) (hx : T u = some x) : ResultsOk P fn nt m T L (.tuple #[.agg cs.toArray, x]) :=
  res_cell_tmp h hv (by rw [hn]; exact ht) hm hx
/-! arrays and structs built -/
theorem opBuildArr {P : Program} {T : Tm} {dst : Option Tmp} {type : TypeId} {pos : String} {after : Array Edge} {guard : Option (Nat × Bool)} {t : TypeId} {n sz : Nat} {zs : List Value} {parts : Array (Nat × Operand)} {vs : List Value}
    (ha : ArrT P t n sz) (hz : ZeroT P t zs) (hzl : zs.length = n * sz) (hp : evParts T 0 parts.toList = some vs) (hn : vs.length = n) (hv : ∀ v, v ∈ vs → v.cells.size = sz) :
    PureOp P ⟨dst, .build t parts, type, pos, after, guard⟩ T (.agg (vs.flatMap (·.cells.toList)).toArray) := by
  obtain ⟨e, hu, hs⟩ := ha
  obtain ⟨z, hz, rfl⟩ := hz
  intro ρ hρ w
  have hparts : (parts.map fun p => (p.1, ρ p.2)).toList = (vs.zipIdx 0).map fun p => (p.2, p.1) := by
    rw [Array.toList_map]
    exact evParts_spec _ 0 vs hp fun p hpm u hpu => hρ p.2 (by simp only [Op.operands]; exact List.mem_toArray.2 (List.mem_map.2 ⟨p, hpm, rfl⟩)) u hpu
  have hun : ∀ w, (underlying t).run P w = .ok (.array n e) w := fun w => run_underlying hu w
  have hfill := fill_row (sz := sz) vs 0 [] z.cells.toList (by simp) (by rw [hzl, hn]) hv
  rw [List.nil_append, Array.toArray_toList, List.nil_append] at hfill
  have hrun : (Instr.build t (parts.map fun p => (p.1, ρ p.2))).run P w = .ok (.agg (vs.flatMap (·.cells.toList)).toArray) w := by
    unfold Instr.build
    simp only [Sem.run_bind, hz, hun, Result.andThen_ok, hs, hparts, hfill, Sem.run_pure]
  simp only [execOp, Sem.run_bind, hrun, Result.andThen_ok, Sem.run_pure]

/-- What the parts of a struct lay over its zero. -/
inductive Fill (places : List (Nat × Nat)) : List Value → List (Nat × Value) → List Value → Prop where
  | nil {cs : List Value} : Fill places cs [] cs
  | cons {cs out : List Value} {i off size : Nat} {v : Value} {r : List (Nat × Value)} (hp : places[i]? = some (off, size)) (hv : v.cells.toList.length = size) (hl : off + size ≤ cs.length)
      (h : Fill places (segs cs off v.cells.toList) r out) : Fill places cs ((i, v) :: r) out
theorem Fill.run {places : List (Nat × Nat)} {cs out : List Value} {ps : List (Nat × Value)} (h : Fill places cs ps out) : Instr.fill (places.toArray[·]?) cs.toArray ps = some out.toArray := by
  induction h with
  | nil => rfl
  | @cons cs out i off size v r hp hv hl h ih =>
    have hs : v.cells.size = size := by simpa using hv
    have hp' : places.toArray[i]? = some (off, size) := by simpa using hp
    simp only [Instr.fill, hp']
    rw [if_neg (by simp [hs]; omega), ← Array.foldl_toList, Array.toList_zipIdx, foldl_set v.cells.toList off _ (by simp [hs]; omega)]
    exact ih
def StructT (P : Program) (t : TypeId) (places : List (Nat × Nat)) (zs : List Value) : Prop :=
  ∃ fields z, (∀ w, (underlying t).run P w = .ok (.struct fields) w) ∧ (∀ w, (zeroValue t).run P w = .ok z w) ∧ z.cells.toList = zs ∧
    ∀ w, (fields.mapM fun f => (do pure (f.offset, ← sizeOf f.type) : Sem (Nat × Nat))).run P w = .ok places.toArray w
def evPartsS (T : Tm) : List (Nat × Operand) → Option (List (Nat × Value))
  | [] => some []
  | (j, x) :: r => match ev T x, evPartsS T r with
    | some v, some vs => some ((j, v) :: vs)
    | _, _ => none
theorem evPartsS_spec {T : Tm} {ρ : Operand → Value} : ∀ (ps : List (Nat × Operand)) (vs : List (Nat × Value)), evPartsS T ps = some vs → (∀ p, p ∈ ps → ∀ u, ev T p.2 = some u → ρ p.2 = u) →
    ps.map (fun p => (p.1, ρ p.2)) = vs
  | [], vs, h, _ => by simp [evPartsS] at h; subst h; rfl
  | (j, x) :: r, vs, h, hρ => by
    simp only [evPartsS] at h
    cases hx : ev T x with
    | none => rw [hx] at h; cases h
    | some v =>
      cases hr : evPartsS T r with
      | none => rw [hx, hr] at h; cases h
      | some us =>
        rw [hx, hr] at h
        cases h
        rw [List.map_cons, evPartsS_spec r us hr (fun p hp => hρ p (List.mem_cons_of_mem _ hp))]
        have := hρ (j, x) (List.mem_cons_self ..) v hx
        simp only at this
        rw [this]
theorem opBuildStruct {P : Program} {T : Tm} {dst : Option Tmp} {type : TypeId} {pos : String} {after : Array Edge} {guard : Option (Nat × Bool)} {t : TypeId} {places : List (Nat × Nat)} {zs out : List Value} {parts : Array (Nat × Operand)} {vs : List (Nat × Value)}
    (ha : StructT P t places zs) (hp : evPartsS T parts.toList = some vs) (hf : Fill places zs vs out) : PureOp P ⟨dst, .build t parts, type, pos, after, guard⟩ T (.agg out.toArray) := by
  obtain ⟨fields, z, hu, hz, rfl, hpl⟩ := ha
  intro ρ hρ w
  have hparts : (parts.map fun p => (p.1, ρ p.2)).toList = vs := by
    rw [Array.toList_map]
    exact evPartsS_spec _ vs hp fun p hpm u hpu => hρ p.2 (by simp only [Op.operands]; exact List.mem_toArray.2 (List.mem_map.2 ⟨p, hpm, rfl⟩)) u hpu
  have hrun : (Instr.build t (parts.map fun p => (p.1, ρ p.2))).run P w = .ok (.agg out.toArray) w := by
    unfold Instr.build
    have h2 := hf.run
    rw [Array.toArray_toList] at h2
    simp only [Sem.run_bind, hz, hu, Result.andThen_ok, hpl, hparts, h2, Sem.run_pure]
  simp only [execOp, Sem.run_bind, hrun, Result.andThen_ok, Sem.run_pure]

/-- The operands of a call, by reckoning. -/
def evs (T : Tm) : List Operand → Option (List Value)
  | [] => some []
  | x :: l => match ev T x, evs T l with
    | some v, some vs => some (v :: vs)
    | _, _ => none
theorem evs_mapM (T : Tm) : ∀ (l : List Operand) (vs : List Value), evs T l = some vs → l.mapM (ev T) = some vs
  | [], vs, h => by simp [evs] at h; simp [h]
  | x :: l, vs, h => by
    simp only [evs] at h
    cases hx : ev T x with
    | none => rw [hx] at h; cases h
    | some v =>
      cases hl : evs T l with
      | none => rw [hx, hl] at h; cases h
      | some us =>
        rw [hx, hl] at h
        cases h
        simp [hx, evs_mapM T l us hl]
theorem callOp {P : Program} {T : Tm} {dst : Option Tmp} {type : TypeId} {pos : String} {after : Array Edge} {guard : Option (Nat × Bool)} {f : FuncId} {xs : Array Operand} {ts : Array TypeId} {vs : List Value}
    (hc : ∀ args w, (callFunc f args).run P w = .ok (.enter f args) w) (hv : evs T xs.toList = some vs) : CallOp P ⟨dst, .call ⟨.value (.func f), xs, ts⟩, type, pos, after, guard⟩ T f vs :=
  callOp_func hc (evs_mapM T _ _ hv)
theorem toWp {P : Program} {o : Oper} {m : Mem} {T : Tm} {L : List Chunk} {c : Chunk} {R : Value → Chunk → Prop} {f : Chunk → List Chunk} (hp : Pos L c f) (h : LOp P o m T L c R) :
    WOp P o m T L (fun v L' => ∃ c', R v c' ∧ L' = f c') := h.toW hp
theorem permNone {L : List Chunk} : L.Perm ([] ++ L) := .refl _

theorem ZeroT.unique {P : Program} {t : TypeId} {a b : List Value} (h : ZeroT P t a) (k : ZeroT P t b) : a = b := by
  obtain ⟨z, hz, rfl⟩ := h
  obtain ⟨y, hy, rfl⟩ := k
  have := (hz default).symm.trans (hy default)
  cases this; rfl
theorem SlT.unique {P : Program} {t e e' : TypeId} {sz sz' b b' : Nat} {z z' : List Value} (h : SlT P t e sz b z) (k : SlT P t e' sz' b' z') : sz = sz' := by
  obtain ⟨h1, i, _, h2, h3, _⟩ := h
  obtain ⟨k1, j, _, k2, k3, _⟩ := k
  rw [h1] at k1; cases k1
  rw [h2] at k2; cases k2
  exact h3.symm.trans k3
theorem AllocOp.mono {P : Program} {o : Oper} {T : Tm} {R S : Value → Chunk → Prop} (h : AllocOp P o T R) (hs : ∀ v c, R v c → S v c) : AllocOp P o T S :=
  fun ρ hρ w => let ⟨v, c, w', h1, h2, h3⟩ := h ρ hρ w; ⟨v, c, w', h1, hs v c h2, h3⟩
section
variable {P : Program} {arr : Array Oper} {nt : Nat} {m : Mem} {T : Tm} {L : List Chunk} {dst : Option Tmp} {type : TypeId} {pos : String} {after : Array Edge} {guard : Option (Nat × Bool)}
theorem allocStep_alloc {t : TypeId} {zs : List Value} (hg : gd arr ⟨dst, .alloc t, type, pos, after, guard⟩ T = some true) (hd : dstOk nt dst = true) (hz : ZeroT P t zs) :
    OpStep P arr nt ⟨dst, .alloc t, type, pos, after, guard⟩ m T L .alloc (fun T' L' => ∃ v c, (∃ b, v = .pointer (some ⟨b, 0, none⟩) ∧ c = .obj b zs) ∧ T' = putO T dst v ∧ L' = c :: L) :=
  .alloc hg hd ((allocOp_alloc hz).mono fun v c ⟨b, h1, h2⟩ => ⟨b, zs, hz, h1, h2⟩) fun v c ⟨b, zs', hz', h1, h2⟩ => ⟨b, h1, by rw [h2, hz'.unique hz]⟩
theorem allocStep_box {t : TypeId} {x : Operand} {u : Value} (hg : gd arr ⟨dst, .box t x, type, pos, after, guard⟩ T = some true) (hd : dstOk nt dst = true) (hx : ev T x = some u) :
    OpStep P arr nt ⟨dst, .box t x, type, pos, after, guard⟩ m T L .alloc (fun T' L' => ∃ v c, (∃ b, v = .pointer (some ⟨b, 0, none⟩) ∧ c = .obj b u.cells.toList) ∧ T' = putO T dst v ∧ L' = c :: L) :=
  .alloc hg hd ((allocOp_box hx).mono fun v c ⟨b, h1, h2⟩ => ⟨b, u, hx, h1, h2⟩) fun v c ⟨b, u', hu, h1, h2⟩ => ⟨b, h1, by rw [hx] at hu; cases hu; exact h2⟩
theorem allocStep_buildSlice {t e : TypeId} {n sz bytes : Nat} {z : List Value} {parts : Array (Nat × Operand)} {vs : List Value}
    (hg : gd arr ⟨dst, .buildSlice t n parts, type, pos, after, guard⟩ T = some true) (hd : dstOk nt dst = true) (ht : SlT P t e sz bytes z)
    (hp : evParts T 0 parts.toList = some vs) (hn : vs.length = n) (hv : ∀ v, v ∈ vs → v.cells.size = sz) (hsmall : n * sz ≤ 16777216) :
    OpStep P arr nt ⟨dst, .buildSlice t n parts, type, pos, after, guard⟩ m T L .alloc
      (fun T' L' => ∃ v c, (slOk v sz (vs.flatMap (·.cells.toList)) ∧ v ≠ .slice none 0 0 ∧ c = .sl v sz (vs.flatMap (·.cells.toList))) ∧ T' = putO T dst v ∧ L' = c :: L) :=
  .alloc hg hd ((allocOp_buildSlice ht hp hn hv hsmall).mono fun v c ⟨h1, h2, h3⟩ => ⟨vs, e, sz, bytes, z, hp, ht, h1, h2, h3⟩) fun v c ⟨vs', e', sz', b', z', hp', ht', h1, h2, h3⟩ => by
    rw [hp] at hp'; cases hp'
    have := ht'.unique ht; subst this
    exact ⟨h1, h2, h3⟩
end

section
variable {P : Program} {arr : Array Oper} {nt : Nat} {m : Mem} {T : Tm} {L : List Chunk} {dst : Option Tmp} {type : TypeId} {pos : String} {after : Array Edge} {guard : Option (Nat × Bool)}
theorem lop_storeAllN (n : Nat) {t : TypeId} {x y : Operand} {b : Nat} {cs vs : List Value} (ht : ∀ w, (sizeOf t).run P w = .ok n w) (hx : ev T x = some (.pointer (some ⟨b, 0, none⟩)))
    (hy : ev T y = some (.agg vs.toArray)) (hc : cs.length = n) (hn : vs.length = n) (ho : ∀ u, u ∈ vs → one u = true) :
    LOp P ⟨dst, .store t x y, type, pos, after, guard⟩ m T L (.obj b cs) (fun u c => u = undef ∧ c = .obj b vs) := lop_storeAll (by rw [hc]; exact ht) hx hy (by omega) ho
theorem allocOp_boxAgg {t : TypeId} {x : Operand} {vs : List Value} (hx : ev T x = some (.agg vs.toArray)) :
    AllocOp P ⟨dst, .box t x, type, pos, after, guard⟩ T (fun p c => ∃ b, p = .pointer (some ⟨b, 0, none⟩) ∧ c = .obj b vs) := allocOp_box hx
theorem allocStep_boxAgg {t : TypeId} {x : Operand} {vs : List Value} (hg : gd arr ⟨dst, .box t x, type, pos, after, guard⟩ T = some true) (hd : dstOk nt dst = true) (hx : ev T x = some (.agg vs.toArray)) :
    OpStep P arr nt ⟨dst, .box t x, type, pos, after, guard⟩ m T L .alloc (fun T' L' => ∃ v c, (∃ b, v = .pointer (some ⟨b, 0, none⟩) ∧ c = .obj b vs) ∧ T' = putO T dst v ∧ L' = c :: L) := allocStep_box hg hd hx
end

/-! ### Chunks in another order -/
inductive Ext : List Chunk → Chunk → List Chunk → Prop where
  | here {L : List Chunk} {c : Chunk} : Ext (c :: L) c L
  | there {L R : List Chunk} {c d : Chunk} (h : Ext L c R) : Ext (d :: L) c (d :: R)
inductive Sel : List Chunk → List Chunk → List Chunk → Prop where
  | nil {L : List Chunk} : Sel L [] L
  | cons {L R L' F : List Chunk} {c : Chunk} (h : Ext L c R) (h' : Sel R L' F) : Sel L (c :: L') F
theorem Ext.perm {L R : List Chunk} {c : Chunk} (h : Ext L c R) : L.Perm (c :: R) := by
  induction h with
  | here => exact .refl _
  | there h ih => exact (ih.cons _).trans (.swap ..)
theorem Sel.perm {L L' F : List Chunk} (h : Sel L L' F) : L.Perm (L' ++ F) := by
  induction h with
  | nil => exact .refl _
  | cons h _ ih => exact h.perm.trans (ih.cons _)

section
variable {G : Ctx} {P : Program} {arr : Array Oper} {Q : Post} {m : Mem} {T : Tm} {L : List Chunk} {os : List Oper} {K : Mem → Tm → List Chunk → Prop}
theorem OpsW.keep {L' F : List Chunk} (h : Sel L L' F) (k : OpsW G P arr Q os m T L') : OpsW G P arr Q os m T L := fun a w s => k a w (Sat.less (F := F) (s.perm h.perm))
theorem AWp.keep {c : Code} {L' F : List Chunk} (h : Sel L L' F) (k : AWp G P c Q m T L') : AWp G P c Q m T L := fun a w s => k a w (Sat.less (F := F) (s.perm h.perm))
theorem OpsW.done (h : K m T L) : OpsW G P arr (thenQ K Q) [] m T L := OpsW.nil (Q := thenQ K Q) h
theorem exit_here {id : Nat} (h : Q .normal m T L) : inBlockQ id Q (.exit id) m T L := by
  show (if id = id then Q .normal m T L else Q (.exit id) m T L)
  rw [if_pos rfl]; exact h
theorem exit_on {id id' : Nat} (hne : Nat.beq id' id = false) (h : Q (.exit id') m T L) : inBlockQ id Q (.exit id') m T L := by
  show (if id' = id then Q .normal m T L else Q (.exit id') m T L)
  rw [if_neg (fun e => by subst e; simp at hne)]; exact h
theorem AWp.drawK {id : Nat} {y : Code} {l : List (Nat × Kind)} (hm : P.follows .mixedOrders = true) (hok : drawOk arr l = true)
    (h : chain P arr G.nt m (fun T L => AWp G P y Q m T L) l T L) : AWp G P (.region id arr true) (thenQ (fun m T L => AWp G P y Q m T L) Q) m T L :=
  .draw l hm hok (fun _ _ _ p h => h.perm p.symm) h
/-- Chunks that are only read in a piece of code lie in the memory that stays, for so long. -/
theorem AWp.lend {c : Code} {Lw U : List Chunk} (hp : L.Perm (Lw ++ U)) (h : ∀ w0, AWp ⟨G.nt, w0, hasAny Lw, memOf m U⟩ P c (fun e m1 T1 L1 => m1 = memOf m U ∧ Q e m T1 (L1 ++ U)) (memOf m U) T Lw) : AWp G P c Q m T L := by
  intro a w s0
  have s := s0.perm hp
  have s1 : Sat ⟨G.nt, w, hasAny Lw, memOf m U⟩ (memOf m U) T Lw a w := ⟨s.kn, s.heap.frame, Fr.refl _ _, fun k hk => .inl hk, fun _ _ h => h, fun _ _ h => .inl h⟩
  refine wp_mono (h w a w s1) ?_
  rintro e a' w' ⟨m1, T1, L1, ⟨rfl, hq⟩, s'⟩
  obtain ⟨hR, hF, hx⟩ := List.pairwise_append.1 s.heap.apart
  have hF' : ∀ c, c ∈ U → ∀ k, c.has k → k < w.heap.size ∧ ¬ hasAny Lw k := fun c hc k hk =>
    ⟨Chunk.holds_lt (s.heap.chunks c (List.mem_append_right _ hc)) hk, fun ⟨d, hd, hk'⟩ => hx d hd c hc k hk' hk⟩
  refine ⟨m, T1, L1 ++ U, hq, s'.kn, ⟨fun x u hxm => s'.heap.mem x u (.inl hxm), fun c hc => ?_, ?_, fun c hc x u hxm hk => ?_⟩, ?_, ?_, s.ext, s.new⟩
  · rcases List.mem_append.1 hc with hc | hc
    · exact s'.heap.chunks c hc
    · exact Chunk.holds_same (s.heap.chunks c (List.mem_append_right _ hc)) fun k hk => s'.fr.block k (hF' c hc k hk).1 (hF' c hc k hk).2
  · refine List.pairwise_append.2 ⟨s'.heap.apart, hF, fun c hc e he k hk hk' => ?_⟩
    rcases s'.own k ⟨c, hc, hk⟩ with h | h
    · exact (hF' e he k hk').2 h
    · exact absurd (hF' e he k hk').1 (Nat.not_lt.2 h)
  · rcases List.mem_append.1 hc with hc | hc
    · exact s'.heap.off c hc x u (.inl hxm) hk
    · exact s.heap.off c (List.mem_append_right _ hc) x u hxm hk
  · exact s.fr.trans s'.fr (fun x hx ⟨c, hc, hk⟩ => (s.own x ⟨c, List.mem_append_left _ hc, hk⟩).resolve_right (Nat.not_le.2 hx))
  · rintro k ⟨c, hc, hk⟩
    rcases List.mem_append.1 hc with hc | hc
    · rcases s'.own k ⟨c, hc, hk⟩ with ⟨e, he, hk'⟩ | h
      · exact s.own k ⟨e, List.mem_append_left _ he, hk'⟩
      · exact .inr (Nat.le_trans s.fr.size h)
    · exact s.own k ⟨c, List.mem_append_right _ hc, hk⟩
theorem one_rfl {vs : List Value} (h : vs.all one = true) : ∀ u, u ∈ vs → one u = true := fun u hu => List.all_eq_true.1 h u hu
theorem roObj {U : List Chunk} {dst : Option Tmp} {type : TypeId} {pos : String} {after : Array Edge} {guard : Option (Nat × Bool)} {t : TypeId} {x : Operand} {b o : Nat} {cs : List Value} {u : Value}
    (ht : Scal P t) (hx : ev T x = some (.pointer (some ⟨b, o, none⟩))) (hm : Chunk.obj b cs ∈ U) (hu : cs[o]? = some u) : LoadOp P ⟨dst, .load t x, type, pos, after, guard⟩ (memOf m U) T L u :=
  loadOp_scal ht hx (.inl (memOf_obj hm hu))
theorem roAll {U : List Chunk} {dst : Option Tmp} {type : TypeId} {pos : String} {after : Array Edge} {guard : Option (Nat × Bool)} {t : TypeId} {x : Operand} {b n : Nat} {cs : List Value}
    (hx : ev T x = some (.pointer (some ⟨b, 0, none⟩))) (hm : Chunk.obj b cs ∈ U) (hn : cs.length = n) (ht : AggT P t n) : LoadOp P ⟨dst, .load t x, type, pos, after, guard⟩ (memOf m U) T L (.agg cs.toArray) :=
  loadOp_agg (by rw [hn]; exact ht) hx fun j u hj => by rw [add_mk]; exact .inl (memOf_obj hm (by simpa using hj))
theorem cells_rfl {vs : List Value} {sz : Nat} (h : vs.all (fun v => Nat.beq v.cells.size sz) = true) : ∀ v, v ∈ vs → v.cells.size = sz := fun v hv => Nat.eq_of_beq_eq_true (List.all_eq_true.1 h v hv)
theorem SatH.know_sl {w : World} {v : Value} {sz : Nat} {cs : List Value} (h : SatH m L w) (hm : Chunk.sl v sz cs ∈ L) : slOk v sz cs := Chunk.sl_ok (h.chunks _ hm)
theorem OpsW.know {X : Prop} (h : ∀ w, SatH m L w → X) (k : X → OpsW G P arr Q os m T L) : OpsW G P arr Q os m T L := fun a w s => k (h w s.heap) a w s
theorem AWp.know {c : Code} {X : Prop} (h : ∀ w, SatH m L w → X) (k : X → AWp G P c Q m T L) : AWp G P c Q m T L := fun a w s => k (h w s.heap) a w s
/-- A slice's chunk, cut. -/
theorem cut_sl {v : Value} {sz l h n : Nat} {cs : List Value} (hn : cs.length = n * sz) (h1 : l ≤ h) (h2 : h ≤ n) (h0 : 0 < sz) {w : World} (hc : (Chunk.sl v sz cs).holds w) :
    (Chunk.sl (slc v l h sz) sz ((cs.drop (l * sz)).take ((h - l) * sz))).holds w := by
  have ho := Chunk.sl_ok hc
  have hl := ho.len_eq hn h0
  have hok := slc_ok ho hn h1 h2 h0
  have hh : h * sz ≤ n * sz := Nat.mul_le_mul_right _ h2
  have hlh : l * sz + (h - l) * sz = h * sz := by rw [← Nat.add_mul]; congr 1; omega
  rcases hc with ⟨rfl, rfl⟩ | ⟨b, off, len, cap, c, elem, fr, rfl, hlen, hcap, htot, hb, hf, hcc⟩
  · simp [slLen] at hl
    subst hl
    obtain rfl : h = 0 := by omega
    obtain rfl : l = 0 := by omega
    exact .inl ⟨rfl, by simp⟩
  · simp [slLen] at hl
    subst hl
    have hcl : (cap - l) * sz + l * sz = cap * sz := by rw [← Nat.add_mul]; congr 1; omega
    refine .inr ⟨b, if cap = l then off else off + l * sz, h - l, cap - l, c, elem, fr, ?_, by simp; omega, by omega, ?_, hb, hf, fun i hi => ?_⟩
    · simp only [slc]; split <;> simp [add_mk]
    · split <;> omega
    · simp at hi
      rw [List.getElem?_take_of_lt (by omega), List.getElem?_drop]
      split
      · exfalso
        have : h - l = 0 := by omega
        rw [this] at hi; simp at hi
      · have := hcc (l * sz + i) (by omega)
        rw [← this]; congr 1; omega
theorem has_cut {v : Value} {sz l h : Nat} {cs cs' : List Value} (ho : slOk v sz cs) (hne : 0 < cs.length) {k : Nat} (hk : (Chunk.sl (slc v l h sz) sz cs').has k) : (Chunk.sl v sz cs).has k := by
  obtain ⟨off, len, cap, e⟩ := hk
  rcases ho with ⟨rfl, rfl⟩ | ⟨b, off', len', cap', rfl, _⟩ | ⟨a, cap', rfl, rfl⟩
  rotate_left 2
  · simp at hne
  · simp only [slc] at e; split at e <;> simp at e
  · simp only [slc] at e
    split at e
    · simp at e; obtain ⟨⟨rfl, rfl⟩, _, _⟩ := e; exact ⟨_, _, _, rfl⟩
    · simp only [Option.map_some, add_mk] at e
      simp at e; obtain ⟨⟨rfl, rfl⟩, _, _⟩ := e; exact ⟨_, _, _, rfl⟩
theorem Pos.append {c : Chunk} {f : Chunk → List Chunk} (h : Pos L c f) : ∃ A B, L = A ++ c :: B ∧ ∀ x, f x = A ++ x :: B := by
  induction h with
  | @here L c => exact ⟨[], L, rfl, fun _ => rfl⟩
  | @there L c d f h ih => obtain ⟨A, B, h1, h2⟩ := ih; exact ⟨d :: A, B, by rw [h1]; rfl, fun x => by show d :: f x = _; rw [h2]; rfl⟩
/-- One chunk, told otherwise. -/
theorem SatH.retell {c c' : Chunk} {f : Chunk → List Chunk} (hp : Pos L c f) (h : ∀ w, c.holds w → c'.holds w) (hk : ∀ k, c'.has k → c.has k) {w : World} (s : SatH m L w) : SatH m (f c') w := by
  obtain ⟨F, h1, h2⟩ := hp.rest
  have s1 := s.perm h1
  obtain ⟨hx, hF⟩ := List.pairwise_cons.1 s1.apart
  refine SatH.perm (L := c' :: F) ⟨s1.mem, fun d hd => ?_, List.pairwise_cons.2 ⟨fun d hd k hk' => hx d hd k (hk k hk'), hF⟩, fun d hd a u ha hd' => ?_⟩ (h2 c').symm
  · rcases List.mem_cons.1 hd with rfl | hd
    · exact h w (s1.chunks c (List.mem_cons_self ..))
    · exact s1.chunks d (List.mem_cons_of_mem _ hd)
  · rcases List.mem_cons.1 hd with rfl | hd
    · exact s1.off c (List.mem_cons_self ..) a u ha (hk _ hd')
    · exact s1.off d (List.mem_cons_of_mem _ hd) a u ha hd'
theorem hasAny_retell {c c' : Chunk} {f : Chunk → List Chunk} (hp : Pos L c f) (hk : ∀ k, c'.has k → c.has k) (k : Nat) (h : hasAny (f c') k) : hasAny L k := by
  obtain ⟨F, h1, h2⟩ := hp.rest
  obtain ⟨d, hd, hdk⟩ := h
  rcases List.mem_cons.1 ((h2 c').mem_iff.1 hd) with rfl | hd
  · exact ⟨c, hp.mem, hk k hdk⟩
  · exact ⟨d, h1.mem_iff.2 (List.mem_cons_of_mem _ hd), hdk⟩
theorem OpsW.retell {c : Chunk} {f : Chunk → List Chunk} (c' : Chunk) (hp : Pos L c f) (h : ∀ w, c.holds w → c'.holds w) (hk : ∀ k, c'.has k → c.has k) (k : OpsW G P arr Q os m T (f c')) : OpsW G P arr Q os m T L :=
  .chunks k (fun _ s => s.retell hp h hk) (fun j hj => hasAny_retell hp hk j hj)
theorem AWp.retell {c : Chunk} {f : Chunk → List Chunk} {y : Code} (c' : Chunk) (hp : Pos L c f) (h : ∀ w, c.holds w → c'.holds w) (hk : ∀ k, c'.has k → c.has k) (k : AWp G P y Q m T (f c')) : AWp G P y Q m T L :=
  fun a w s => k a w ⟨s.kn, s.heap.retell hp h hk, s.fr, fun j hj => s.own j (hasAny_retell hp hk j hj), s.ext, s.new⟩
end
end Go.Proofs.Ytpnipajadjeifaa.Sep
