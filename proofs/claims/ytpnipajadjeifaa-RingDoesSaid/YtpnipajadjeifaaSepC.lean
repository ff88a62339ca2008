/- The operations that touch no memory, one by one. -/
import Derived.Test.YtpnipajadjeifaaSepB
import Derived.WalkKit
namespace Go.Proofs.Ytpnipajadjeifaa.Sep
open Go Go.RowKit
set_option linter.unusedVariables false
set_option linter.unusedSimpArgs false

section
variable {P : Program} {T : Tm} {dst : Option Tmp} {type : TypeId} {pos : String} {after : Array Edge} {guard : Option (Nat × Bool)}

theorem pureOp_move {x : Operand} {v : Value} (h : ev T x = some v) : PureOp P ⟨dst, .move x, type, pos, after, guard⟩ T v := by
  intro ρ hρ w
  have hx := hρ x (by simp [Op.operands]) v h
  simp [execOp, hx, pure, Sem.run]
theorem pureOp_assign {x : Operand} {v : Value} (h : ev T x = some v) : PureOp P ⟨dst, .assign x, type, pos, after, guard⟩ T v := by
  intro ρ hρ w
  have hx := hρ x (by simp [Op.operands]) v h
  simp [execOp, hx, pure, Sem.run]
theorem pureOp_pick_true {c x y : Operand} {v : Value} (hc : ev T c = some (.bool true)) (h : ev T x = some v) : PureOp P ⟨dst, .pick c x y, type, pos, after, guard⟩ T v := by
  intro ρ hρ w
  have hc := hρ c (by simp [Op.operands]) _ hc
  have hx := hρ x (by simp [Op.operands]) v h
  simp [execOp, hx, hc, asBool, bind, Sem.bind, pure, Sem.run]
theorem pureOp_pick_false {c x y : Operand} {v : Value} (hc : ev T c = some (.bool false)) (h : ev T y = some v) : PureOp P ⟨dst, .pick c x y, type, pos, after, guard⟩ T v := by
  intro ρ hρ w
  have hc := hρ c (by simp [Op.operands]) _ hc
  have hx := hρ y (by simp [Op.operands]) v h
  simp [execOp, hx, hc, asBool, bind, Sem.bind, pure, Sem.run]
theorem pureOp_not {x : Operand} {b : Bool} {t : TypeId} (h : ev T x = some (.bool b)) : PureOp P ⟨dst, .unOp .not t x, type, pos, after, guard⟩ T (.bool !b) := by
  intro ρ hρ w
  have hx := hρ x (by simp [Op.operands]) _ h
  simp [execOp, hx, Op.unary, bind, Sem.bind, pure, Sem.run]
theorem pureOp_notP {x : Operand} {p : Prop} [Decidable p] {t : TypeId} (h : ev T x = some (.bool (decide p))) : PureOp P ⟨dst, .unOp .not t x, type, pos, after, guard⟩ T (.bool (decide (¬ p))) := by
  have := pureOp_not (P := P) (dst := dst) (type := type) (pos := pos) (after := after) (guard := guard) (t := t) h
  rwa [← decide_not] at this
theorem pureOp_nilCheck {x : Operand} {a : Addr} (h : ev T x = some (.pointer (some a))) : PureOp P ⟨dst, .nilCheck x, type, pos, after, guard⟩ T (.pointer (some a)) := by
  intro ρ hρ w
  have hx := hρ x (by simp [Op.operands]) _ h
  simp [execOp, hx, pure, Sem.run]
theorem pureOp_extract {x : Operand} {vs : Array Value} {i : Nat} {v : Value} (h : ev T x = some (.tuple vs)) (hi : vs[i]? = some v) : PureOp P ⟨dst, .extract x i, type, pos, after, guard⟩ T v := by
  intro ρ hρ w
  have hx := hρ x (by simp [Op.operands]) _ h
  simp [execOp, hx, Instr.extract, hi, bind, Sem.bind, pure, Sem.run]
theorem pureOp_makeFunc {fn : Fn} : PureOp P ⟨dst, .makeFunc fn #[] #[], type, pos, after, guard⟩ T (.func fn #[] #[]) := by
  intro ρ hρ w
  simp [execOp, Instr.makeFunc, bind, Sem.bind, pure, Sem.run]

/-! whole numbers -/
theorem execOp_binInt {ρ : Operand → Value} {op : BinOp} {t t' : TypeId} {x y : Operand} {k : IntKind} {a b : Int} (hx : ρ x = .int k a) (hy : ρ y = .int k b) (w : World) :
    (execOp ρ ⟨dst, .binOp op t x y t', type, pos, after, guard⟩).run P w = (binOp op t (.int k a) (.int k b) >>= fun v => (Sem.pure (Next.value v) : Sem Next)).run P w := by
  simp only [execOp, hx, hy, eqGuard, bind, Sem.bind, pure]
  cases op <;> rfl

theorem pureOp_add {x y : Operand} {k : IntKind} {a b : Int} {t t' : TypeId} (hx : ev T x = some (.int k a)) (hy : ev T y = some (.int k b)) :
    PureOp P ⟨dst, .binOp .add t x y t', type, pos, after, guard⟩ T (.int k (k.wrap (a + b))) := by
  intro ρ hρ w
  rw [execOp_binInt (hρ x (by simp [Op.operands]) _ hx) (hρ y (by simp [Op.operands]) _ hy)]
  simp [binOp, Op.intArith, bind, Sem.bind, pure, Sem.run]
theorem pureOp_sub {x y : Operand} {k : IntKind} {a b : Int} {t t' : TypeId} (hx : ev T x = some (.int k a)) (hy : ev T y = some (.int k b)) :
    PureOp P ⟨dst, .binOp .sub t x y t', type, pos, after, guard⟩ T (.int k (k.wrap (a - b))) := by
  intro ρ hρ w
  rw [execOp_binInt (hρ x (by simp [Op.operands]) _ hx) (hρ y (by simp [Op.operands]) _ hy)]
  simp [binOp, Op.intArith, bind, Sem.bind, pure, Sem.run]
theorem pureOp_mul {x y : Operand} {k : IntKind} {a b : Int} {t t' : TypeId} (hx : ev T x = some (.int k a)) (hy : ev T y = some (.int k b)) :
    PureOp P ⟨dst, .binOp .mul t x y t', type, pos, after, guard⟩ T (.int k (k.wrap (a * b))) := by
  intro ρ hρ w
  rw [execOp_binInt (hρ x (by simp [Op.operands]) _ hx) (hρ y (by simp [Op.operands]) _ hy)]
  simp [binOp, Op.intArith, bind, Sem.bind, pure, Sem.run]
theorem pureOp_quo {x y : Operand} {k : IntKind} {a b : Int} {t t' : TypeId} (hx : ev T x = some (.int k a)) (hy : ev T y = some (.int k b)) (hb : b ≠ 0) :
    PureOp P ⟨dst, .binOp .quo t x y t', type, pos, after, guard⟩ T (.int k (k.wrap (a.tdiv b))) := by
  intro ρ hρ w
  rw [execOp_binInt (hρ x (by simp [Op.operands]) _ hx) (hρ y (by simp [Op.operands]) _ hy)]
  simp [binOp, Op.intDiv, hb, bind, Sem.bind, pure, Sem.run]
theorem pureOp_rem {x y : Operand} {k : IntKind} {a b : Int} {t t' : TypeId} (hx : ev T x = some (.int k a)) (hy : ev T y = some (.int k b)) (hb : b ≠ 0) :
    PureOp P ⟨dst, .binOp .rem t x y t', type, pos, after, guard⟩ T (.int k (a.tmod b)) := by
  intro ρ hρ w
  rw [execOp_binInt (hρ x (by simp [Op.operands]) _ hx) (hρ y (by simp [Op.operands]) _ hy)]
  simp [binOp, Op.intDiv, hb, bind, Sem.bind, pure, Sem.run]
theorem pureOp_lss {x y : Operand} {k : IntKind} {a b : Int} {t t' : TypeId} (hx : ev T x = some (.int k a)) (hy : ev T y = some (.int k b)) :
    PureOp P ⟨dst, .binOp .lss t x y t', type, pos, after, guard⟩ T (.bool (decide (a < b))) := by
  intro ρ hρ w
  rw [execOp_binInt (hρ x (by simp [Op.operands]) _ hx) (hρ y (by simp [Op.operands]) _ hy)]
  simp [binOp, Op.intCmp, bind, Sem.bind, pure, Sem.run]
theorem pureOp_leq {x y : Operand} {k : IntKind} {a b : Int} {t t' : TypeId} (hx : ev T x = some (.int k a)) (hy : ev T y = some (.int k b)) :
    PureOp P ⟨dst, .binOp .leq t x y t', type, pos, after, guard⟩ T (.bool (decide (a ≤ b))) := by
  intro ρ hρ w
  rw [execOp_binInt (hρ x (by simp [Op.operands]) _ hx) (hρ y (by simp [Op.operands]) _ hy)]
  simp [binOp, Op.intCmp, bind, Sem.bind, pure, Sem.run]
theorem pureOp_gtr {x y : Operand} {k : IntKind} {a b : Int} {t t' : TypeId} (hx : ev T x = some (.int k a)) (hy : ev T y = some (.int k b)) :
    PureOp P ⟨dst, .binOp .gtr t x y t', type, pos, after, guard⟩ T (.bool (decide (a > b))) := by
  intro ρ hρ w
  rw [execOp_binInt (hρ x (by simp [Op.operands]) _ hx) (hρ y (by simp [Op.operands]) _ hy)]
  simp [binOp, Op.intCmp, bind, Sem.bind, pure, Sem.run]
theorem pureOp_geq {x y : Operand} {k : IntKind} {a b : Int} {t t' : TypeId} (hx : ev T x = some (.int k a)) (hy : ev T y = some (.int k b)) :
    PureOp P ⟨dst, .binOp .geq t x y t', type, pos, after, guard⟩ T (.bool (decide (a ≥ b))) := by
  intro ρ hρ w
  rw [execOp_binInt (hρ x (by simp [Op.operands]) _ hx) (hρ y (by simp [Op.operands]) _ hy)]
  simp [binOp, Op.intCmp, bind, Sem.bind, pure, Sem.run]
theorem pureOp_eql {x y : Operand} {k : IntKind} {a b : Int} {t t' : TypeId} (hx : ev T x = some (.int k a)) (hy : ev T y = some (.int k b)) :
    PureOp P ⟨dst, .binOp .eql t x y t', type, pos, after, guard⟩ T (.bool (decide (a = b))) := by
  intro ρ hρ w
  rw [execOp_binInt (hρ x (by simp [Op.operands]) _ hx) (hρ y (by simp [Op.operands]) _ hy)]
  simp [binOp, Op.intCmp, bind, Sem.bind, pure, Sem.run]
  rw [Bool.eq_iff_iff]; simp
theorem pureOp_neq {x y : Operand} {k : IntKind} {a b : Int} {t t' : TypeId} (hx : ev T x = some (.int k a)) (hy : ev T y = some (.int k b)) :
    PureOp P ⟨dst, .binOp .neq t x y t', type, pos, after, guard⟩ T (.bool (decide (a ≠ b))) := by
  intro ρ hρ w
  rw [execOp_binInt (hρ x (by simp [Op.operands]) _ hx) (hρ y (by simp [Op.operands]) _ hy)]
  simp [binOp, Op.intCmp, bind, Sem.bind, pure, Sem.run]
  rw [Bool.eq_iff_iff]; simp

theorem wrap64_in {x : Int} (h : -9223372036854775808 ≤ x) (h' : x < 9223372036854775808) : IntKind.i64.wrap x = x := by
  unfold IntKind.wrap
  simp [IntKind.bits, IntKind.signed]
  omega

/-- int: sums that stay in range, division by what is positive. -/
theorem pureOp_addI {x y : Operand} {a b : Int} {t t' : TypeId} (hx : ev T x = some (.int .i64 a)) (hy : ev T y = some (.int .i64 b)) (h : -9223372036854775808 ≤ a + b ∧ a + b < 9223372036854775808) :
    PureOp P ⟨dst, .binOp .add t x y t', type, pos, after, guard⟩ T (.int .i64 (a + b)) := by
  have := pureOp_add (P := P) (dst := dst) (type := type) (pos := pos) (after := after) (guard := guard) (t := t) (t' := t') hx hy
  rwa [wrap64_in h.1 h.2] at this
theorem pureOp_subI {x y : Operand} {a b : Int} {t t' : TypeId} (hx : ev T x = some (.int .i64 a)) (hy : ev T y = some (.int .i64 b)) (h : -9223372036854775808 ≤ a - b ∧ a - b < 9223372036854775808) :
    PureOp P ⟨dst, .binOp .sub t x y t', type, pos, after, guard⟩ T (.int .i64 (a - b)) := by
  have := pureOp_sub (P := P) (dst := dst) (type := type) (pos := pos) (after := after) (guard := guard) (t := t) (t' := t') hx hy
  rwa [wrap64_in h.1 h.2] at this
theorem pureOp_mulI {x y : Operand} {a b : Int} {t t' : TypeId} (hx : ev T x = some (.int .i64 a)) (hy : ev T y = some (.int .i64 b)) (h : -9223372036854775808 ≤ a * b ∧ a * b < 9223372036854775808) :
    PureOp P ⟨dst, .binOp .mul t x y t', type, pos, after, guard⟩ T (.int .i64 (a * b)) := by
  have := pureOp_mul (P := P) (dst := dst) (type := type) (pos := pos) (after := after) (guard := guard) (t := t) (t' := t') hx hy
  rwa [wrap64_in h.1 h.2] at this
theorem pureOp_quoI {x y : Operand} {a b : Int} {t t' : TypeId} (hx : ev T x = some (.int .i64 a)) (hy : ev T y = some (.int .i64 b)) (ha : 0 ≤ a ∧ a < 9223372036854775808) (hb : 0 < b) :
    PureOp P ⟨dst, .binOp .quo t x y t', type, pos, after, guard⟩ T (.int .i64 (a / b)) := by
  have := pureOp_quo (P := P) (dst := dst) (type := type) (pos := pos) (after := after) (guard := guard) (t := t) (t' := t') hx hy (by omega)
  rw [Int.tdiv_eq_ediv_of_nonneg ha.1] at this
  rwa [wrap64_in (by have := Int.ediv_nonneg ha.1 (Int.le_of_lt hb); omega) (by have := Int.ediv_le_self b ha.1; omega)] at this
theorem pureOp_remI {x y : Operand} {k : IntKind} {a b : Int} {t t' : TypeId} (hx : ev T x = some (.int k a)) (hy : ev T y = some (.int k b)) (ha : 0 ≤ a) (hb : 0 < b) :
    PureOp P ⟨dst, .binOp .rem t x y t', type, pos, after, guard⟩ T (.int k (a % b)) := by
  have := pureOp_rem (P := P) (dst := dst) (type := type) (pos := pos) (after := after) (guard := guard) (t := t) (t' := t') hx hy (by omega)
  rwa [Int.tmod_eq_emod_of_nonneg ha] at this
end
end Go.Proofs.Ytpnipajadjeifaa.Sep
