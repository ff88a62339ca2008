/- More operations: slices made, the greater of two, arrays compared, arrays sliced. -/
import Derived.Test.YtpnipajadjeifaaSepV
import Derived.DeepKeys
namespace Go.Proofs.Ytpnipajadjeifaa.Sep
open Go Go.RowKit
set_option linter.unusedVariables false
set_option linter.unusedSimpArgs false
section
variable {P : Program} {T : Tm} {m : Mem} {L : List Chunk} {dst : Option Tmp} {type : TypeId} {pos : String} {after : Array Edge} {guard : Option (Nat × Bool)}

/-- A slice made, of elements of one cell. -/
theorem allocOp_makeSlice {t e : TypeId} {n bytes : Nat} {z : Value} {x y : Operand} (ht : SlT P t e 1 bytes [z]) (hx : ev T x = some (iV n)) (hy : ev T y = some (iV n)) (hb : n * bytes ≤ 140737488355328) (hn : n < 9223372036854775808) :
    AllocOp P ⟨dst, .makeSlice t x y, type, pos, after, guard⟩ T (fun v c => slOk v 1 (List.replicate n z) ∧ v ≠ .slice none 0 0 ∧ c = .sl v 1 (List.replicate n z)) := by
  obtain ⟨hu, i, zv, hi, hsz, hby, hzv, hzc, hzl⟩ := ht
  intro ρ hρ w
  have hx := hρ x (by simp [Op.operands]) _ hx
  have hy := hρ y (by simp [Op.operands]) _ hy
  have hun : ∀ w, (underlying t).run P w = .ok (.slice e) w := fun w => run_underlying hu w
  have hs : ∀ w, (sizeOf e).run P w = .ok 1 w := fun w => by simp [sizeOf, typeInfo, hi, hsz]
  have hti : ∀ w, (typeInfo e).run P w = .ok i w := fun w => by simp [typeInfo, hi]
  have hze : ∀ w, (zeroValue e).run P w = .ok zv w := fun w => by simp [zeroValue, typeInfo, hi, hzv]
  have hw : IntKind.i64.wrap (n : Int) = n := by simp [IntKind.wrap, IntKind.bits, IntKind.signed]; omega
  have hzs : zv.cells.size = 1 := by rw [← Array.length_toList, hzc]; rfl
  have hz0 : zv.cells[0]! = z := by
    have : zv.cells = #[z] := by apply Array.ext'; exact hzc
    rw [this]; rfl
  have hbn : ¬ ((bytes : Int) * (n : Int) > 2 ^ 48) := by
    have : ((n * bytes : Nat) : Int) ≤ ((140737488355328 : Nat) : Int) := Int.ofNat_le.2 hb
    rw [Int.natCast_mul, Int.mul_comm] at this
    omega
  have hask : ∀ k w, (askRoom k).run P w = .ok () w := by
    intro k w; unfold askRoom; split
    · simp [mark, Sem.run]
    · simp
  have hcells : ((Array.range n).map (fun j => zv.cells[j % zv.cells.size]!)) = (List.replicate n z).toArray := by rw [zeros_size hzs, hz0]
  have hrun : ∀ w, (Instr.makeSlice t (.int .i64 n) (.int .i64 n)).run P w = .ok (.slice (some ⟨w.heap.size, 0, none⟩) n n) { w with heap := w.heap.push (.cells (List.replicate n z).toArray e) } := by
    intro w
    unfold Instr.makeSlice
    simp only [Sem.run_bind, hun, Result.andThen_ok, asInt, asIntOf, Sem.run_pure, hti, hby, hw]
    have h1 : (decide ((n : Int) < 0) || decide ((bytes : Int) * (n : Int) > 2 ^ 48) || decide ((n : Int) < 0) || decide ((n : Int) > (n : Int))) = false := by
      simp; omega
    simp only [h1, Bool.false_eq_true, if_false, Int.toNat_natCast, hask, hs, Nat.mul_one, Sem.run_bind, Result.andThen_ok]
    by_cases h0 : n = 0
    · subst h0
      simp [run_newRow, show Array.range 0 = #[] from rfl]
    · rw [if_neg h0]
      simp only [Sem.run_bind, hze, Sem.run_pure, Result.andThen_ok, hcells, run_newRow]
  refine ⟨_, _, _, ?_, ⟨slOk_made w.heap.size n n 1 _ (by simp) (Nat.le_refl _), by simp, rfl⟩, ?_, Fr.push w (.cells (List.replicate n z).toArray e), ?_⟩
  · simp only [execOp, hx, hy, Sem.run_bind, hrun, Result.andThen_ok, Sem.run_pure]
  · exact .inr ⟨w.heap.size, 0, n, n, (List.replicate n z).toArray, e, (0, 0), rfl, by simp, Nat.le_refl _, by simp, by simp, okFr_zero _, fun i _ => by rw [Nat.zero_add]; exact List.getElem?_toArray⟩
  · rintro j ⟨off, len, cap, hj⟩
    cases hj
    exact Nat.le_refl _
theorem opN_max {x y : Operand} {a b : Nat} {ts : Array TypeId} {ty : TypeId} (hx : ev T x = some (iV a)) (hy : ev T y = some (iV b)) :
    PureOp P ⟨dst, .call ⟨.builtin .max, #[x, y], ts⟩, ty, pos, after, guard⟩ T (iV (max a b)) := by
  intro ρ hρ w
  have hx := hρ x (by simp [Op.operands, Call.operands]) _ hx
  have hy := hρ y (by simp [Op.operands, Call.operands]) _ hy
  simp [execOp, resolve, invoke, builtin, Builtin.max_, Builtin.max2, hx, hy]
  split <;> omega
theorem opU_sub {x y : Operand} {a b : Nat} {t t' : TypeId} (hx : ev T x = some (.int .u64 (a : Int))) (hy : ev T y = some (.int .u64 (b : Int))) (h : b ≤ a) (ha : a < 18446744073709551616) :
    PureOp P ⟨dst, .binOp .sub t x y t', type, pos, after, guard⟩ T (.int .u64 ((a - b : Nat) : Int)) := by
  have := pureOp_sub (P := P) (dst := dst) (type := type) (pos := pos) (after := after) (guard := guard) (t := t) (t' := t') hx hy
  rwa [← Int.natCast_sub h, wrap_u64, Nat.mod_eq_of_lt (by omega)] at this
theorem op64_rem {x y : Operand} {a b : UInt64} {t t' : TypeId} (hx : ev T x = some (qV a)) (hy : ev T y = some (qV b)) (hb : b.toNat ≠ 0) :
    PureOp P ⟨dst, .binOp .rem t x y t', type, pos, after, guard⟩ T (qV (a % b)) := by
  have := pureOp_rem (P := P) (dst := dst) (type := type) (pos := pos) (after := after) (guard := guard) (t := t) (t' := t') hx hy (by omega)
  rw [qV, UInt64.toNat_mod, Int.natCast_emod]
  rwa [Int.tmod_eq_emod_of_nonneg (by omega)] at this
theorem op64_quo {x y : Operand} {a b : UInt64} {t t' : TypeId} (hx : ev T x = some (qV a)) (hy : ev T y = some (qV b)) (hb : b.toNat ≠ 0) :
    PureOp P ⟨dst, .binOp .quo t x y t', type, pos, after, guard⟩ T (qV (a / b)) := by
  have := pureOp_quo (P := P) (dst := dst) (type := type) (pos := pos) (after := after) (guard := guard) (t := t) (t' := t') hx hy (by omega)
  rw [Int.tdiv_eq_ediv_of_nonneg (by omega), ← Int.natCast_ediv, wrap_u64, Nat.mod_eq_of_lt (Nat.lt_of_le_of_lt (Nat.div_le_self ..) a.toNat_lt)] at this
  rw [qV, UInt64.toNat_div]
  exact this
theorem opN_xor {x y : Operand} {a b : Nat} {t t' : TypeId} (hx : ev T x = some (iV a)) (hy : ev T y = some (iV b)) (ha : a < 9223372036854775808) (hb : b < 9223372036854775808) :
    PureOp P ⟨dst, .binOp .xor t x y t', type, pos, after, guard⟩ T (iV (a ^^^ b)) := by
  intro ρ hρ w
  refine execBits (hρ x (by simp [Op.operands]) _ hx) (hρ y (by simp [Op.operands]) _ hy) _ w ?_
  rw [bin_xor]
  have h1 : (a ^^^ b) < 2 ^ 63 := Nat.xor_lt_two_pow (by omega) (by omega)
  have h2 : (BitVec.ofInt IntKind.i64.bits (a : Int) ^^^ BitVec.ofInt IntKind.i64.bits (b : Int)).toNat = a ^^^ b := by
    have e : ∀ n : Nat, n < 9223372036854775808 → (BitVec.ofInt IntKind.i64.bits (n : Int)).toNat = n := by
      intro n hn; simp [IntKind.bits, BitVec.toNat_ofInt]; omega
    rw [BitVec.toNat_xor, e a ha, e b hb]
  rw [h2]
  have h3 : IntKind.i64.wrap ((a ^^^ b : Nat) : Int) = ((a ^^^ b : Nat) : Int) := by
    generalize a ^^^ b = c at h1
    simp [IntKind.wrap, IntKind.bits, IntKind.signed]; omega
  rw [h3]

/-! arrays of bytes compared -/
theorem mapM_some {α β : Type} {f : α → Option β} {g : α → β} : ∀ (l : List α), (∀ x, x ∈ l → f x = some (g x)) → l.mapM f = some (l.map g)
  | [], _ => by simp
  | x :: l, h => by
    rw [List.mapM_cons, h x (List.mem_cons_self ..), mapM_some l fun y hy => h y (List.mem_cons_of_mem _ hy)]; rfl
def bL (b : UInt8) : Lit := .int .u8 b.toNat
theorem bL_inj {a b : UInt8} (h : bL a = bL b) : a = b := by
  simp only [bL, Lit.int.injEq, true_and] at h
  exact UInt8.toNat_inj.1 (by omega)
theorem flat_one {α β : Type} (f : α → β) : ∀ l : List α, (l.map fun x => [f x]).flatten = l.map f
  | [] => rfl
  | x :: l => by simp [flat_one f l]
theorem keyLits_bytes {t e : TypeId} {n : Nat} (ht : P.underlying t = some (.array n e)) (he : P.underlying e = some (.int .u8)) (hct : P.cellsOf t = n) (hce : P.cellsOf e = 1) {bs : List UInt8} (hl : bs.length = n) :
    P.keyLits 2 t (bs.map bV) = some (bs.map bL) := by
  unfold Program.keyLits
  simp only [ht, hct, List.length_map, hl, if_true, hce, Nat.mul_one]
  have : (List.range n).mapM (fun i => P.keyLits 1 e (((bs.map bV).drop i).take 1)) = some ((List.range n).map fun i => [bL (bs.getD i 0)]) := by
    refine mapM_some _ fun i hi => ?_
    have hi : i < bs.length := by rw [hl]; exact List.mem_range.1 hi
    have e1 : ((bs.map bV).drop i).take 1 = [bV (bs.getD i 0)] := by
      rw [List.drop_eq_getElem_cons (by simpa using hi)]
      simp [List.getD_eq_getElem?_getD, List.getElem?_eq_getElem hi]
    rw [e1]
    unfold Program.keyLits
    have hw : (Lit.int IntKind.u8 ((bs.getD i 0).toNat : Int)).wf = true := by
      have := (bs.getD i 0).toNat_lt
      generalize bs.getD i 0 = b0 at this
      simp [Lit.wf, IntKind.min, IntKind.max, IntKind.bits, IntKind.signed]
      omega
    simp only [he, bV, hw, and_self, if_true]
    rfl
  rw [this, Option.map_some, flat_one]
  congr 1
  apply List.ext_getElem
  · simp [hl]
  · intro i h1 h2
    simp at h2
    simp [List.getElem?_eq_getElem h2]
structure BytesT (P : Program) (t : TypeId) (n : Nat) : Prop where
  eq : ∃ e, P.underlying t = some (.array n e) ∧ P.underlying e = some (.int .u8) ∧ P.cellsOf t = n ∧ P.cellsOf e = 1
theorem run_equalBytes {t : TypeId} {n : Nat} (ht : BytesT P t n) {a b : List UInt8} (ha : a.length = n) (hb : b.length = n) (w : World) :
    (Op.equal t (.agg (a.map bV).toArray) (.agg (b.map bV).toArray)).run P w = .ok (decide (a = b)) w := by
  obtain ⟨e, hu, he, hct, hce⟩ := ht.eq
  have hk : P.keyTypeAt 2 t = true := by
    unfold Program.keyTypeAt
    simp [hu, Program.keyTypeAt, he, Program.plainKey]
  have hf : ∀ c : List UInt8, c.length = n → Value.formed P t (.agg (c.map bV).toArray) = true := fun c hc => by simp [Value.formed, hu, hct, hc]
  obtain ⟨r, h1, h2⟩ := run_equalIn_deep (P := P) 9998 2 t hk w 2 2 _ _ _ _ (hf a ha) (hf b hb) (by simpa [Value.cells] using keyLits_bytes hu he hct hce ha) (by simpa [Value.cells] using keyLits_bytes hu he hct hce hb)
  have h3 : r = decide (a = b) := by
    have : (a.map bL = b.map bL) ↔ a = b := ⟨fun h => List.map_inj_right (fun _ _ => bL_inj) |>.1 h, fun h => by rw [h]⟩
    rw [this] at h2
    cases r with
    | true => simp [h2.1 rfl]
    | false => simp; intro h; exact absurd (h2.2 h) (by simp)
  rw [← h3]
  exact h1
theorem eqGuardType_bytes {t : TypeId} {n : Nat} (ht : BytesT P t n) (hd : 1 < P.depth) : P.eqGuardType P.depth t = false := by
  obtain ⟨e, hu, he, _, _⟩ := ht.eq
  obtain ⟨d, hd'⟩ : ∃ d, P.depth = d + 2 := ⟨P.depth - 2, by omega⟩
  rw [hd']
  simp [Program.eqGuardType, hu, he]
theorem opB_eql {t t' : TypeId} {n : Nat} {x y : Operand} {a b : List UInt8} (ht : BytesT P t n) (hd : 1 < P.depth) (hx : ev T x = some (.agg (a.map bV).toArray)) (hy : ev T y = some (.agg (b.map bV).toArray)) (ha : a.length = n) (hb : b.length = n) :
    PureOp P ⟨dst, .binOp .eql t x y t', type, pos, after, guard⟩ T (.bool (decide (a = b))) := by
  intro ρ hρ w
  have hx := hρ x (by simp [Op.operands]) _ hx
  have hy := hρ y (by simp [Op.operands]) _ hy
  have hp : ∀ w, (program).run P w = .ok P w := fun _ => rfl
  simp [execOp, hx, hy, eqGuard, hp, eqGuardType_bytes ht hd, binOp, run_equalBytes ht ha hb]
theorem opB_neq {t t' : TypeId} {n : Nat} {x y : Operand} {a b : List UInt8} (ht : BytesT P t n) (hd : 1 < P.depth) (hx : ev T x = some (.agg (a.map bV).toArray)) (hy : ev T y = some (.agg (b.map bV).toArray)) (ha : a.length = n) (hb : b.length = n) :
    PureOp P ⟨dst, .binOp .neq t x y t', type, pos, after, guard⟩ T (.bool (decide (a ≠ b))) := by
  intro ρ hρ w
  have hx := hρ x (by simp [Op.operands]) _ hx
  have hy := hρ y (by simp [Op.operands]) _ hy
  have hp : ∀ w, (program).run P w = .ok P w := fun _ => rfl
  simp [execOp, hx, hy, eqGuard, hp, eqGuardType_bytes ht hd, binOp, run_equalBytes ht ha hb]

/-! an array's cells, as a slice that is read -/
theorem Rd.of_obj {b n cap : Nat} {cs : List Value} (h : Chunk.obj b cs ∈ L) (hn : cs.length = n) (hc : n ≤ cap) : Rd (memOf m L) (.slice (some ⟨b, 0, none⟩) n cap) 1 cs := by
  refine ⟨.inr (.inl ⟨b, 0, n, cap, rfl, by omega, hc⟩), ?_⟩
  rintro b' off len cap' e i u hi
  simp only [Value.slice.injEq, Option.some.injEq, Addr.mk.injEq] at e
  obtain ⟨⟨rfl, rfl, _⟩, _, _⟩ := e
  rw [Nat.zero_add]
  exact memOf_obj h hi
end

/-! ### Where branches meet -/
section
variable {G : Ctx} {P : Program} {arr : Array Oper} {Q : Post} {m : Mem} {T : Tm} {L : List Chunk}
/-- Less may be known, fewer chunks may be held. -/
def Weak (R : Mem → Tm → List Chunk → Prop) : Mem → Tm → List Chunk → Prop :=
  fun m T L => ∃ T0 L0 F, (∀ i v, T0 i = some v → T i = some v) ∧ L.Perm (L0 ++ F) ∧ R m T0 L0
theorem Weak.perm {R : Mem → Tm → List Chunk → Prop} : ∀ T L L', L.Perm L' → Weak R m T L → Weak R m T L' :=
  fun _ _ _ p ⟨T0, L0, F, ht, hp, hr⟩ => ⟨T0, L0, F, ht, p.symm.trans hp, hr⟩
theorem AWp.joinW {x y : Code} (R : Mem → Tm → List Chunk → Prop) (h : AWp G P x (thenQ (Weak R) Q) m T L) (k : ∀ m T L, R m T L → AWp G P y Q m T L) :
    AWp G P x (thenQ (fun m T L => AWp G P y Q m T L) Q) m T L :=
  h.mono fun e m T L q => by
    cases e
    case normal =>
      obtain ⟨T0, L0, F, ht, hp, hr⟩ := q
      exact AWp.forget (AWp.perm (AWp.drop (k _ _ _ hr)) hp) ht
    all_goals exact q
theorem chain_splitP {nt : Nat} {K : Tm → List Chunk → Prop} {l : List (Nat × Kind)} {d : Nat} {p : Prop} [Decidable p] (hT : T d = some (.bool (decide p)))
    (ht : p → chain P arr nt m K l (put T d (.bool true)) L) (hf : ¬ p → chain P arr nt m K l (put T d (.bool false)) L) : chain P arr nt m K l T L := by
  have key : ∀ v, T d = some v → put T d v = T := fun v hv => by
    funext i
    simp only [put]
    cases hb : Nat.beq i d with
    | true => rw [Nat.eq_of_beq_eq_true hb, hv]; rfl
    | false => rfl
  by_cases hp : p
  · have := ht hp
    rwa [key _ (by rw [hT, decide_eq_true hp])] at this
  · have := hf hp
    rwa [key _ (by rw [hT, decide_eq_false hp])] at this
theorem chain_splitB {nt : Nat} {K : Tm → List Chunk → Prop} {l : List (Nat × Kind)} {d : Nat} {b : Bool} (hT : T d = some (.bool b))
    (ht : b = true → chain P arr nt m K l (put T d (.bool true)) L) (hf : b = false → chain P arr nt m K l (put T d (.bool false)) L) : chain P arr nt m K l T L := by
  refine chain_splitP (d := d) (p := b = true) (by rw [hT]; simp) ht (fun h => hf (by simpa using h))
end
end Go.Proofs.Ytpnipajadjeifaa.Sep
