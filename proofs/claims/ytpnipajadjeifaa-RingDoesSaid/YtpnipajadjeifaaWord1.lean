/- The walks of the packages word and crc, and of the references 01. -/
import Derived.Test.YtpnipajadjeifaaWords
import Derived.Test.YtpnipajadjeifaaProg
namespace Go.Proofs.Ytpnipajadjeifaa.Sep
open Go Go.RowKit
set_option linter.unusedVariables false
set_option linter.unusedSimpArgs false
theorem slt46 : SlT Try.prog 46 5 1 1 [.int .u8 0] := ⟨Try.underlying46, ⟨_, _, (by kernel_rfl : Try.prog.info? 5 = some Try.t5), rfl, rfl, rfl, rfl, rfl⟩⟩
theorem ni46 : NotInt Try.prog 46 := ⟨_, Try.underlying46, fun k h => by cases h⟩
theorem sc5 : Scal Try.prog 5 := ⟨Try.isAgg5, Try.sizeOf5⟩
theorem zt166 : ZeroT Try.prog 166 ([.int .u8 0, .int .u8 0, .int .u8 0, .int .u8 0]) := ⟨_, Try.zeroValue166, rfl⟩
theorem arr166 : ArrT Try.prog 166 4 1 := ⟨5, Try.underlying166, Try.sizeOf5⟩
theorem by166 : BytesT Try.prog 166 4 := ⟨_, Try.underlying166, Try.underlying5, by kernel_rfl, by kernel_rfl⟩
theorem dpth : 1 < Try.prog.depth := by decide +kernel
set_option maxRecDepth 100000 in
theorem zt24 : ZeroT Try.prog 24 (List.replicate 256 (.int .u8 0)) := ⟨_, Try.zeroValue24, rfl⟩
theorem ag24 : AggT Try.prog 24 256 := ⟨Try.isAgg24, Try.sizeOf24⟩
theorem st171 : StructT Try.prog 171 [(0, 1), (1, 1)] ([.slice none 0 0, .bool false]) := ⟨_, _, Try.runUnderlying171, Try.zeroValue171, rfl, by intro w; simp [Try.sizeOf4, Try.sizeOf46]⟩
theorem fa171_1 : FieldAt Try.prog 171 1 1 := by
  intro b o w
  simp [Instr.fieldAt, Try.runUnderlying171, fieldPlace, Instr.sureAddr, Try.sizeOf4, add_mk]
theorem sc4 : Scal Try.prog 4 := ⟨Try.isAgg4, Try.sizeOf4⟩
theorem fa171_0 : FieldAt Try.prog 171 0 0 := by
  intro b o w
  simp [Instr.fieldAt, Try.runUnderlying171, fieldPlace, Instr.sureAddr, Try.sizeOf46, add_mk]
theorem sc46 : Scal Try.prog 46 := ⟨Try.isAgg46, Try.sizeOf46⟩
theorem ag166 : AggT Try.prog 166 4 := ⟨Try.isAgg166, Try.sizeOf166⟩


set_option maxRecDepth 20000 in
set_option maxHeartbeats 1000000 in
theorem put_c (x : UInt64) (n : Nat) (m : Mem) (hn : n ≤ 8) :
    Ctr Try.prog 69 [qV x, iV n] m [] (fun _ r L => slOk r 1 ((putF x n).map bV) ∧ r ≠ .slice none 0 0 ∧ L = [.sl r 1 ((putF x n).map bV)]) := by
  refine Ctr.intro Try.func69 rfl Try.ntmps69 (by simp) fun w0 => ?_
  refine AWp.forget ?_ (sub_put (i := 0) rfl (sub_put (i := 1) rfl (sub_nil)))
  refine AWp.seq ?_
  refine AWp.region ?_
  refine OpsW.pure rfl rfl (pureOp_assign rfl) ?_
  refine OpsW.nil ?_
  refine AWp.forget ?_ (sub_put (i := 0) rfl (sub_put (i := 1) rfl (sub_put (i := 4) rfl (sub_nil))))
  refine AWp.seq ?_
  refine AWp.region ?_
  refine OpsW.pure rfl rfl (pureOp_move rfl) ?_
  refine OpsW.pure rfl rfl (opN_max (b := 0) rfl rfl) ?_
  rw [Nat.max_eq_left (Nat.zero_le n)]
  refine OpsW.alloc rfl rfl (allocOp_makeSlice slt46 rfl rfl (by omega) (by omega)) ?_
  rintro v9 _ ⟨hv9, hn9, rfl⟩
  refine OpsW.pure rfl rfl (pureOp_assign rfl) ?_
  refine OpsW.nil ?_
  refine AWp.forget ?_ (sub_put (i := 0) rfl (sub_put (i := 1) rfl (sub_put (i := 4) rfl (sub_put (i := 5) rfl (sub_nil)))))
  refine AWp.seq ?_
  refine AWp.seq ?_
  refine AWp.region ?_
  refine OpsW.pure rfl rfl (pureOp_move rfl) ?_
  refine OpsW.pure rfl rfl (opN_len1 n Try.underlying46 rfl (by assumption) (by simp)) ?_
  refine OpsW.pure rfl rfl (pureOp_move rfl) ?_
  refine OpsW.nil ?_
  refine AWp.forget ?_ (sub_put (i := 0) rfl (sub_put (i := 1) rfl (sub_put (i := 4) rfl (sub_put (i := 5) rfl (sub_put (i := 11) rfl (sub_put (i := 12) rfl (sub_nil)))))))
  refine AWp.block ?_
  refine AWp.forget ?_ (sub_put (i := 0) rfl (sub_put (i := 5) rfl (sub_put (i := 11) rfl (sub_put (i := 12) rfl (sub_nil)))))
  refine AWp.loop (fun N m' T' L' => ∃ bs : List UInt8, N = n - bs.length ∧ bs.length ≤ n ∧ bs = (List.range bs.length).map (fun i => (shr64 x (8 * i)).toUInt8) ∧ m' = m ∧ T' = put (put (put (put (tnil) 12 (iV bs.length)) 11 (iV n)) 5 (v9)) 0 (qV x) ∧ L' = [.sl v9 1 (bs.map bV ++ List.replicate (n - bs.length) (.int .u8 0))]) _ (⟨[], rfl, by simp, rfl, rfl, rfl, rfl⟩) ?_
  rintro _ m _ _ ⟨bs, rfl, hbs, hbd, rfl, rfl, rfl⟩
  refine AWp.seq ?_
  refine AWp.region ?_
  refine OpsW.pure rfl rfl (opN_lss rfl rfl) ?_
  refine OpsW.nil ?_
  refine AWp.forget ?_ (sub_put (i := 0) rfl (sub_put (i := 5) rfl (sub_put (i := 11) rfl (sub_put (i := 12) rfl (sub_put (i := 13) rfl (sub_nil))))))
  refine AWp.seq ?_
  refine AWp.condP rfl (fun ht13 => ?_) (fun ht13 => ?_)
  refine AWp.skip ?_
  refine AWp.seq ?_
  refine AWp.block ?_
  refine AWp.seq ?_
  refine AWp.region ?_
  refine OpsW.pure rfl rfl (pureOp_move rfl) ?_
  refine OpsW.pure rfl rfl (pureOp_assign rfl) ?_
  refine OpsW.nil ?_
  refine AWp.forget ?_ (sub_put (i := 0) rfl (sub_put (i := 5) rfl (sub_put (i := 6) rfl (sub_put (i := 11) rfl (sub_put (i := 12) rfl (sub_put (i := 13) rfl (sub_nil)))))))
  refine AWp.seq ?_
  refine AWp.region ?_
  refine OpsW.pure rfl rfl (pureOp_move rfl) ?_
  refine OpsW.pure rfl rfl (opN_lss (b := 8) rfl rfl) ?_
  refine OpsW.nil ?_
  refine AWp.forget ?_ (sub_put (i := 0) rfl (sub_put (i := 5) rfl (sub_put (i := 6) rfl (sub_put (i := 11) rfl (sub_put (i := 12) rfl (sub_put (i := 13) rfl (sub_put (i := 16) rfl (sub_nil))))))))
  refine AWp.cond_true (by show some (Value.bool (decide _)) = _; rw [decide_eq_true (by omega)]) ?_
  refine AWp.region ?_
  refine OpsW.pure rfl rfl (pureOp_move rfl) ?_
  refine OpsW.pure rfl rfl (pureOp_move rfl) ?_
  refine OpsW.pure rfl rfl (pureOp_move rfl) ?_
  refine OpsW.pure rfl rfl (pureOp_move rfl) ?_
  refine OpsW.pure rfl rfl (opN_mul (a := 8) rfl rfl (by omega)) ?_
  refine OpsW.pure rfl rfl (op64_shr (n := (8 * bs.length)) rfl rfl) ?_
  refine OpsW.pure rfl rfl (op_conv64_8 Try.underlying122 Try.underlying5 rfl) ?_
  refine OpsW.pure rfl rfl (opN_indexSl1 Try.underlying46 Try.sizeOf5 rfl (by assumption) rfl (by simp; omega)) ?_
  refine OpsW.upd rfl rfl (by repeat (first | exact Pos.here | apply Pos.there)) (lop_storeElem Try.sizeOf5 rfl rfl rfl (by decide) (by simp; omega) (by simp [Value.cells, one])) ?_
  rintro _ _ ⟨rfl, rfl⟩
  rw [set_segB rfl (by omega)]
  refine OpsW.nil ?_
  refine AWp.forget ?_ (sub_put (i := 0) rfl (sub_put (i := 5) rfl (sub_put (i := 6) rfl (sub_put (i := 11) rfl (sub_put (i := 12) rfl (sub_put (i := 13) rfl (sub_put (i := 16) rfl (sub_nil))))))))
  refine AWp.region ?_
  refine OpsW.pure rfl rfl (opN_add (b := 1) rfl rfl (by omega)) ?_
  refine OpsW.pure rfl rfl (pureOp_move rfl) ?_
  refine OpsW.forget ?_ (sub_put (i := 0) rfl (sub_put (i := 5) rfl (sub_put (i := 11) rfl (sub_put (i := 12) rfl (sub_nil)))))
  refine OpsW.keep (L' := [.sl v9 1 _]) (by repeat (first | exact Sel.nil | (apply Sel.cons; (repeat (first | exact Ext.here | apply Ext.there))))) ?_
  refine OpsW.nil ?_
  exact ⟨_, by simp; omega, bs ++ [_], rfl, by simp; omega, by simp only [List.length_append, List.length_singleton]; rw [List.range_succ, List.map_append, ← hbd]; rfl, rfl, by simp, by simp⟩
  have hbn : bs.length = n := by omega
  refine AWp.exit (exit_here ?_)
  refine AWp.seq ?_
  refine AWp.region ?_
  refine OpsW.pure rfl rfl (pureOp_move rfl) ?_
  refine OpsW.pure rfl rfl (pureOp_assign rfl) ?_
  refine OpsW.nil ?_
  refine AWp.forget ?_ (sub_put (i := 0) rfl (sub_put (i := 4) rfl (sub_put (i := 5) rfl (sub_put (i := 11) rfl (sub_put (i := 12) rfl (sub_put (i := 13) rfl (sub_nil)))))))
  refine AWp.ret ?_
  rw [hbn] at hbd
  have hcl : bs.map bV ++ List.replicate (n - bs.length) (.int .u8 0) = (putF x n).map bV := by rw [hbn, Nat.sub_self, putF, ← hbd]; simp
  rw [hcl]
  exact ⟨_, [.sl v9 1 ((putF x n).map bV)], [], .refl _, res_tmp rfl rfl, slOk_same hv9 (by simp [putF_length]), hn9, rfl⟩

set_option maxRecDepth 20000 in
set_option maxHeartbeats 1000000 in
theorem put01_c (x : UInt64) (n : Nat) (m : Mem) (hn : n ≤ 8) :
    Ctr Try.prog 73 [qV x, iV n] m [] (fun _ r L => slOk r 1 ((putF x n).map bV) ∧ L = [.sl r 1 ((putF x n).map bV)]) := by
  refine Ctr.intro Try.func73 rfl Try.ntmps73 (by simp) fun w0 => ?_
  refine AWp.forget ?_ (sub_put (i := 0) rfl (sub_put (i := 1) rfl (sub_nil)))
  refine AWp.seq ?_
  refine AWp.region ?_
  refine OpsW.pure rfl rfl (pureOp_assign rfl) ?_
  refine OpsW.nil ?_
  refine AWp.forget ?_ (sub_put (i := 0) rfl (sub_put (i := 1) rfl (sub_put (i := 4) rfl (sub_nil))))
  refine AWp.seq ?_
  refine AWp.seq ?_
  refine AWp.region ?_
  refine OpsW.pure rfl rfl (pureOp_move rfl) ?_
  refine OpsW.pure rfl rfl (opN_leq (b := 0) rfl rfl) ?_
  refine OpsW.nil ?_
  refine AWp.forget ?_ (sub_put (i := 0) rfl (sub_put (i := 1) rfl (sub_put (i := 4) rfl (sub_put (i := 7) rfl (sub_nil)))))
  refine AWp.condP rfl (fun ht7 => ?_) (fun ht7 => ?_)
  · skip
    refine AWp.seq ?_
    obtain rfl : n = 0 := by omega
    refine AWp.nilChunk 1 ?_
    refine AWp.region ?_
    refine OpsW.pure rfl rfl (pureOp_assign rfl) ?_
    refine OpsW.nil ?_
    refine AWp.forget ?_ (sub_put (i := 0) rfl (sub_put (i := 1) rfl (sub_put (i := 4) rfl (sub_put (i := 7) rfl (sub_nil)))))
    refine AWp.ret ?_
    exact ⟨_, [.sl (.slice none 0 0) 1 []], [], .refl _, res_tmp rfl rfl, .inl ⟨rfl, rfl⟩, rfl⟩
  refine AWp.skip ?_
  refine AWp.seq ?_
  obtain ⟨k, rfl⟩ : ∃ k, n = k + 1 := ⟨n - 1, by omega⟩
  rw [putF_succ x k (by omega)]
  refine AWp.region ?_
  refine OpsW.pure rfl rfl (pureOp_move rfl) ?_
  refine OpsW.pure rfl rfl (op64_rem (b := 256) rfl rfl (by decide)) ?_
  refine OpsW.pure rfl rfl (op_conv64_8 Try.underlying122 Try.underlying5 rfl) ?_
  refine OpsW.alloc rfl rfl (allocOp_buildSlice slt46 rfl rfl (by first | exact cells_rfl rfl | simp [Value.cells]) (by decide)) ?_
  rintro v11 _ ⟨hv11, hn11, rfl⟩
  rw [flat_b1] at hv11 ⊢
  refine OpsW.pure rfl rfl (pureOp_assign rfl) ?_
  refine OpsW.nil ?_
  refine AWp.forget ?_ (sub_put (i := 0) rfl (sub_put (i := 1) rfl (sub_put (i := 4) rfl (sub_put (i := 5) rfl (sub_put (i := 7) rfl (sub_nil))))))
  refine AWp.seq ?_
  refine AWp.region ?_
  refine OpsW.pure rfl rfl (pureOp_move rfl) ?_
  refine OpsW.pure rfl rfl (pureOp_move rfl) ?_
  refine OpsW.pure rfl rfl (op64_quo (b := 256) rfl rfl (by decide)) ?_
  refine OpsW.pure rfl rfl (pureOp_move rfl) ?_
  refine OpsW.pure rfl rfl (opN_sub (b := 1) rfl rfl (by omega)) ?_
  rw [Nat.add_sub_cancel]
  refine OpsW.callA rfl rfl (callOp Try.call73 rfl) permNone (put01_c (x / 256) k _ (by omega)) ?_
  rintro v17 _ ⟨hv17, rfl⟩
  refine OpsW.upd rfl rfl (by repeat (first | exact Pos.here | apply Pos.there)) (lop_append (k := _) slt46 ni46 rfl rfl (Nat.mul_one _).symm (src_rd (n := _) (by first | exact Rd.ro (by assumption) | exact Rd.of_sl (by repeat (first | exact List.Mem.head _ | apply List.Mem.tail)) (by assumption)) (Nat.mul_one _).symm (by decide)) (by simp [putF_length]; omega) (by first | exact one_map (fun _ => rfl) _ | exact one_rfl rfl | exact one_sup _ | (simp [one, *]; done)) (by decide) (by decide)) ?_
  rintro v18 _ ⟨hv18, rfl⟩
  rw [← List.map_append] at hv18 ⊢
  refine OpsW.pure rfl rfl (pureOp_assign rfl) ?_
  refine OpsW.nil ?_
  refine AWp.forget ?_ (sub_put (i := 0) rfl (sub_put (i := 1) rfl (sub_put (i := 4) rfl (sub_put (i := 5) rfl (sub_put (i := 7) rfl (sub_nil))))))
  refine AWp.ret ?_
  exact ⟨_, [.sl v18 1 (((x % 256).toUInt8 :: putF (x / 256) k).map bV)], _, Sel.perm (by repeat (first | exact Sel.nil | (apply Sel.cons; (repeat (first | exact Ext.here | apply Ext.there))))), res_tmp rfl rfl, hv18, rfl⟩
termination_by n
decreasing_by omega

set_option maxRecDepth 20000 in
set_option maxHeartbeats 1000000 in
theorem turn_c (r0 : UInt32) (c : UInt8) (m : Mem) :
    Ctr Try.prog 121 [wV r0, bV c] m [] (fun _ r L => r = wV (turnF r0 c) ∧ L = []) := by
  refine Ctr.intro Try.func121 rfl Try.ntmps121 (by simp) fun w0 => ?_
  refine AWp.forget ?_ (sub_put (i := 0) rfl (sub_put (i := 1) rfl (sub_nil)))
  refine AWp.seq ?_
  refine AWp.region ?_
  refine OpsW.pure rfl rfl (pureOp_assign rfl) ?_
  refine OpsW.nil ?_
  refine AWp.forget ?_ (sub_put (i := 0) rfl (sub_put (i := 1) rfl (sub_put (i := 4) rfl (sub_nil))))
  refine AWp.seq ?_
  refine AWp.region ?_
  refine OpsW.pure rfl rfl (pureOp_move rfl) ?_
  refine OpsW.pure rfl rfl (pureOp_move rfl) ?_
  refine OpsW.pure rfl rfl (op_conv8_32 Try.underlying5 Try.underlying43 rfl) ?_
  refine OpsW.pure rfl rfl (op32_xor rfl rfl) ?_
  refine OpsW.pure rfl rfl (pureOp_assign rfl) ?_
  refine OpsW.nil ?_
  refine AWp.forget ?_ (sub_put (i := 0) rfl (sub_put (i := 1) rfl (sub_put (i := 4) rfl (sub_nil))))
  refine AWp.seq ?_
  refine AWp.seq ?_
  refine AWp.region ?_
  refine OpsW.pure rfl rfl (pureOp_move rfl) ?_
  refine OpsW.nil ?_
  refine AWp.forget ?_ (sub_put (i := 0) rfl (sub_put (i := 1) rfl (sub_put (i := 4) rfl (sub_put (i := 9) rfl (sub_nil)))))
  refine AWp.block ?_
  refine AWp.forget ?_ (sub_put (i := 0) rfl (sub_put (i := 9) rfl (sub_nil)))
  refine AWp.loop (fun N m' T' L' => ∃ k : Nat, N = 8 - k ∧ k ≤ 8 ∧ m' = m ∧ T' = put (put (tnil) 9 (iV k)) 0 (wV (stepsC k (r0 ^^^ c.toUInt32))) ∧ L' = []) _ (⟨0, rfl, by omega, rfl, rfl, rfl⟩) ?_
  rintro _ m _ _ ⟨k, rfl, hk, rfl, rfl, rfl⟩
  refine AWp.seq ?_
  refine AWp.region ?_
  refine OpsW.pure rfl rfl (opN_lss (b := 8) rfl rfl) ?_
  refine OpsW.nil ?_
  refine AWp.forget ?_ (sub_put (i := 0) rfl (sub_put (i := 9) rfl (sub_put (i := 10) rfl (sub_nil))))
  refine AWp.seq ?_
  refine AWp.condP rfl (fun ht10 => ?_) (fun ht10 => ?_)
  refine AWp.skip ?_
  refine AWp.seq ?_
  refine AWp.joinW (fun m' T' L' => m' = m ∧ T' = put (put (tnil) 9 (iV k)) 0 (wV (stepsC (k + 1) (r0 ^^^ c.toUInt32))) ∧ L' = []) ?_ ?_
  · skip
    refine AWp.block ?_
    refine AWp.seq ?_
    refine AWp.region ?_
    refine OpsW.pure rfl rfl (pureOp_move rfl) ?_
    refine OpsW.pure rfl rfl (op32_and (b := 1) rfl rfl) ?_
    refine OpsW.pure rfl rfl (op32_eql (b := 1) rfl rfl) ?_
    refine OpsW.nil ?_
    refine AWp.forget ?_ (sub_put (i := 0) rfl (sub_put (i := 9) rfl (sub_put (i := 10) rfl (sub_put (i := 13) rfl (sub_nil)))))
    refine AWp.condP rfl (fun ht13 => ?_) (fun ht13 => ?_)
    · skip
      refine AWp.region ?_
      refine OpsW.pure rfl rfl (pureOp_move rfl) ?_
      refine OpsW.pure rfl rfl (op32_shr (n := 1) rfl rfl) ?_
      refine OpsW.pure rfl rfl (op32_xor (b := 3988292384) rfl rfl) ?_
      refine OpsW.pure rfl rfl (pureOp_assign rfl) ?_
      refine OpsW.nil ?_
      refine ⟨_, [], _, sub_put (i := 0) rfl (sub_put (i := 9) rfl (sub_nil)), Sel.perm (by repeat (first | exact Sel.nil | (apply Sel.cons; (repeat (first | exact Ext.here | apply Ext.there))))), ?_⟩
      exact ⟨rfl, by rw [stepsC, stepC, if_pos ht13], rfl⟩
    · skip
      refine AWp.region ?_
      refine OpsW.pure rfl rfl (pureOp_move rfl) ?_
      refine OpsW.pure rfl rfl (op32_shr (n := 1) rfl rfl) ?_
      refine OpsW.pure rfl rfl (pureOp_assign rfl) ?_
      refine OpsW.nil ?_
      refine ⟨_, [], _, sub_put (i := 0) rfl (sub_put (i := 9) rfl (sub_nil)), Sel.perm (by repeat (first | exact Sel.nil | (apply Sel.cons; (repeat (first | exact Ext.here | apply Ext.there))))), ?_⟩
      exact ⟨rfl, by rw [stepsC, stepC, if_neg ht13], rfl⟩
  rintro m _ _ ⟨rfl, rfl, rfl⟩
  refine AWp.region ?_
  refine OpsW.pure rfl rfl (opN_add (b := 1) rfl rfl (by omega)) ?_
  refine OpsW.pure rfl rfl (pureOp_move rfl) ?_
  refine OpsW.forget ?_ (sub_put (i := 0) rfl (sub_put (i := 9) rfl (sub_nil)))
  refine OpsW.keep (L' := []) (by repeat (first | exact Sel.nil | (apply Sel.cons; (repeat (first | exact Ext.here | apply Ext.there))))) ?_
  refine OpsW.nil ?_
  exact ⟨_, by omega, k + 1, rfl, by omega, rfl, rfl, rfl⟩
  obtain rfl : k = 8 := by omega
  refine AWp.exit (exit_here ?_)
  refine AWp.seq ?_
  refine AWp.region ?_
  refine OpsW.pure rfl rfl (pureOp_move rfl) ?_
  refine OpsW.pure rfl rfl (pureOp_assign rfl) ?_
  refine OpsW.nil ?_
  refine AWp.forget ?_ (sub_put (i := 0) rfl (sub_put (i := 4) rfl (sub_put (i := 9) rfl (sub_put (i := 10) rfl (sub_nil)))))
  refine AWp.ret ?_
  exact ⟨_, [], _, permNone, res_tmp rfl rfl, rfl, rfl⟩

set_option maxRecDepth 20000 in
set_option maxHeartbeats 1000000 in
theorem more_c (s : UInt32) (v : Value) (d : List UInt8) (m : Mem) (hv : Rd m v 1 (d.map bV)) (hdl : d.length ≤ 1099511627776) :
    Ctr Try.prog 119 [wV s, v] m [] (fun _ r L => r = wV (moreF s d) ∧ L = []) := by
  have ho := hv.1
  refine Ctr.intro Try.func119 rfl Try.ntmps119 (by simp) fun w0 => ?_
  refine AWp.forget ?_ (sub_put (i := 0) rfl (sub_put (i := 1) rfl (sub_nil)))
  refine AWp.seq ?_
  refine AWp.region ?_
  refine OpsW.pure rfl rfl (pureOp_assign rfl) ?_
  refine OpsW.nil ?_
  refine AWp.forget ?_ (sub_put (i := 0) rfl (sub_put (i := 1) rfl (sub_put (i := 4) rfl (sub_nil))))
  refine AWp.seq ?_
  refine AWp.region ?_
  refine OpsW.pure rfl rfl (pureOp_move rfl) ?_
  refine OpsW.pure rfl rfl (op32_not rfl) ?_
  refine OpsW.pure rfl rfl (pureOp_assign rfl) ?_
  refine OpsW.nil ?_
  refine AWp.forget ?_ (sub_put (i := 0) rfl (sub_put (i := 1) rfl (sub_put (i := 4) rfl (sub_put (i := 5) rfl (sub_nil)))))
  refine AWp.seq ?_
  refine AWp.seq ?_
  refine AWp.region ?_
  refine OpsW.pure rfl rfl (pureOp_move rfl) ?_
  refine OpsW.pure rfl rfl (opN_len1 _ Try.underlying46 rfl (by assumption) (by simp; rfl)) ?_
  refine OpsW.pure rfl rfl (pureOp_move rfl) ?_
  refine OpsW.nil ?_
  refine AWp.forget ?_ (sub_put (i := 0) rfl (sub_put (i := 1) rfl (sub_put (i := 4) rfl (sub_put (i := 5) rfl (sub_put (i := 10) rfl (sub_put (i := 11) rfl (sub_put (i := 12) rfl (sub_nil))))))))
  refine AWp.block ?_
  refine AWp.forget ?_ (sub_put (i := 5) rfl (sub_put (i := 10) rfl (sub_put (i := 11) rfl (sub_put (i := 12) rfl (sub_nil)))))
  refine AWp.loop (fun N m' T' L' => ∃ k : Nat, N = d.length - k ∧ k ≤ d.length ∧ m' = m ∧ T' = put (put (put (put (tnil) 12 (iV k)) 11 (iV d.length)) 10 (v)) 5 (wV ((d.take k).foldl turnF (~~~s))) ∧ L' = []) _ (⟨0, rfl, Nat.zero_le _, rfl, rfl, rfl⟩) ?_
  rintro _ m _ _ ⟨k, rfl, hk, rfl, rfl, rfl⟩
  refine AWp.seq ?_
  refine AWp.region ?_
  refine OpsW.pure rfl rfl (opN_lss rfl rfl) ?_
  refine OpsW.nil ?_
  refine AWp.forget ?_ (sub_put (i := 5) rfl (sub_put (i := 10) rfl (sub_put (i := 11) rfl (sub_put (i := 12) rfl (sub_put (i := 13) rfl (sub_nil))))))
  refine AWp.seq ?_
  refine AWp.condP rfl (fun ht13 => ?_) (fun ht13 => ?_)
  refine AWp.skip ?_
  refine AWp.seq ?_
  refine AWp.block ?_
  refine AWp.seq ?_
  refine AWp.region ?_
  refine OpsW.pure rfl rfl (opN_indexSl1 Try.underlying46 Try.sizeOf5 rfl (by assumption) rfl (by simp; omega)) ?_
  refine OpsW.load rfl rfl (loadOp_elem (u := bV (d.getD (k) 0)) sc5 rfl (by first | exact Rd.ro (by assumption) | exact Rd.of_sl (by repeat (first | exact List.Mem.head _ | apply List.Mem.tail)) (by assumption)) (get_map (by first | assumption | omega))) ?_
  refine OpsW.pure rfl rfl (pureOp_assign rfl) ?_
  refine OpsW.nil ?_
  refine AWp.forget ?_ (sub_put (i := 5) rfl (sub_put (i := 7) rfl (sub_put (i := 10) rfl (sub_put (i := 11) rfl (sub_put (i := 12) rfl (sub_put (i := 13) rfl (sub_nil)))))))
  refine AWp.region ?_
  refine OpsW.pure rfl rfl (pureOp_move rfl) ?_
  refine OpsW.pure rfl rfl (pureOp_move rfl) ?_
  refine OpsW.callA rfl rfl (callOp Try.call121 rfl) permNone (turn_c _ (d.getD k 0) _) ?_
  rintro _ _ ⟨rfl, rfl⟩
  refine OpsW.pure rfl rfl (pureOp_assign rfl) ?_
  refine OpsW.nil ?_
  refine AWp.forget ?_ (sub_put (i := 5) rfl (sub_put (i := 7) rfl (sub_put (i := 10) rfl (sub_put (i := 11) rfl (sub_put (i := 12) rfl (sub_put (i := 13) rfl (sub_nil)))))))
  refine AWp.region ?_
  refine OpsW.pure rfl rfl (opN_add (b := 1) rfl rfl (by omega)) ?_
  refine OpsW.pure rfl rfl (pureOp_move rfl) ?_
  refine OpsW.forget ?_ (sub_put (i := 5) rfl (sub_put (i := 10) rfl (sub_put (i := 11) rfl (sub_put (i := 12) rfl (sub_nil)))))
  refine OpsW.keep (L' := []) (by repeat (first | exact Sel.nil | (apply Sel.cons; (repeat (first | exact Ext.here | apply Ext.there))))) ?_
  refine OpsW.nil ?_
  exact ⟨_, by omega, k + 1, rfl, by omega, rfl, by rw [foldl_take (f := turnF) (by omega)], rfl⟩
  obtain rfl : k = d.length := by omega
  rw [List.take_length]
  refine AWp.exit (exit_here ?_)
  refine AWp.seq ?_
  refine AWp.region ?_
  refine OpsW.pure rfl rfl (pureOp_move rfl) ?_
  refine OpsW.pure rfl rfl (op32_not rfl) ?_
  refine OpsW.pure rfl rfl (pureOp_assign rfl) ?_
  refine OpsW.nil ?_
  refine AWp.forget ?_ (sub_put (i := 4) rfl (sub_put (i := 5) rfl (sub_put (i := 10) rfl (sub_put (i := 11) rfl (sub_put (i := 12) rfl (sub_put (i := 13) rfl (sub_nil)))))))
  refine AWp.ret ?_
  exact ⟨_, [], _, permNone, res_tmp rfl rfl, rfl, rfl⟩

set_option maxRecDepth 20000 in
set_option maxHeartbeats 1000000 in
theorem crc_c (v : Value) (d : List UInt8) (m : Mem) (hv : Rd m v 1 (d.map bV)) (hdl : d.length ≤ 1099511627776) :
    Ctr Try.prog 114 [v] m [] (fun _ r L => r = wV (crcF d) ∧ L = []) := by
  have ho := hv.1
  refine Ctr.intro Try.func114 rfl Try.ntmps114 (by simp) fun w0 => ?_
  refine AWp.forget ?_ (sub_put (i := 0) rfl (sub_nil))
  refine AWp.seq ?_
  refine AWp.region ?_
  refine OpsW.pure rfl rfl (pureOp_assign rfl) ?_
  refine OpsW.nil ?_
  refine AWp.forget ?_ (sub_put (i := 0) rfl (sub_put (i := 2) rfl (sub_nil)))
  refine AWp.seq ?_
  refine AWp.region ?_
  refine OpsW.pure rfl rfl (pureOp_move rfl) ?_
  refine OpsW.callA rfl rfl (callOp Try.call119 rfl) permNone (more_c 0 v d _ hv.ro hdl) ?_
  rintro _ _ ⟨rfl, rfl⟩
  refine OpsW.pure rfl rfl (pureOp_assign rfl) ?_
  refine OpsW.nil ?_
  refine AWp.forget ?_ (sub_put (i := 0) rfl (sub_put (i := 2) rfl (sub_nil)))
  refine AWp.ret ?_
  exact ⟨_, [], _, permNone, res_tmp rfl rfl, rfl, rfl⟩

set_option maxRecDepth 20000 in
set_option maxHeartbeats 1000000 in
theorem four_c (s : UInt32) (m : Mem) :
    Ctr Try.prog 113 [wV s] m [] (fun _ r L => r = .agg ((fourF s).map bV).toArray ∧ L = []) := by
  refine Ctr.intro Try.func113 rfl Try.ntmps113 (by simp) fun w0 => ?_
  refine AWp.forget ?_ (sub_put (i := 0) rfl (sub_nil))
  refine AWp.seq ?_
  refine AWp.region ?_
  refine OpsW.alloc rfl rfl (allocOp_alloc zt166) ?_
  rintro _ _ ⟨b2, rfl, rfl⟩
  refine OpsW.nil ?_
  refine AWp.forget ?_ (sub_put (i := 0) rfl (sub_put (i := 2) rfl (sub_nil)))
  refine AWp.seq ?_
  refine AWp.region ?_
  refine OpsW.pure rfl rfl (pureOp_move rfl) ?_
  refine OpsW.pure rfl rfl (op_conv32_8 Try.underlying43 Try.underlying5 rfl) ?_
  refine OpsW.pure rfl rfl (pureOp_move rfl) ?_
  refine OpsW.pure rfl rfl (op32_shr (n := 8) rfl rfl) ?_
  refine OpsW.pure rfl rfl (op_conv32_8 Try.underlying43 Try.underlying5 rfl) ?_
  refine OpsW.pure rfl rfl (pureOp_move rfl) ?_
  refine OpsW.pure rfl rfl (op32_shr (n := 16) rfl rfl) ?_
  refine OpsW.pure rfl rfl (op_conv32_8 Try.underlying43 Try.underlying5 rfl) ?_
  refine OpsW.pure rfl rfl (pureOp_move rfl) ?_
  refine OpsW.pure rfl rfl (op32_shr (n := 24) rfl rfl) ?_
  refine OpsW.pure rfl rfl (op_conv32_8 Try.underlying43 Try.underlying5 rfl) ?_
  refine OpsW.pure rfl rfl (opBuildArr arr166 zt166 (by simp) rfl rfl (by first | exact cells_rfl rfl | simp [Value.cells])) ?_
  refine OpsW.upd rfl rfl (by repeat (first | exact Pos.here | apply Pos.there)) (lop_storeAllN 4 Try.sizeOf166 rfl rfl (by first | rfl | assumption | (rw [List.length_map]; assumption) | (simp [*]; done) | (simp [*]; omega) | omega) (by first | rfl | assumption | (rw [List.length_map]; assumption) | (simp [*]; done) | (simp [*]; omega) | omega) (by first | exact one_map (fun _ => rfl) _ | exact one_rfl rfl | exact one_sup _ | (simp [one, *]; done))) ?_
  rintro _ _ ⟨rfl, rfl⟩
  refine OpsW.nil ?_
  refine AWp.forget ?_ (sub_put (i := 0) rfl (sub_put (i := 2) rfl (sub_nil)))
  refine AWp.ret ?_
  exact ⟨_, [], _, permNone, resCell rfl rfl (by repeat (first | exact List.Mem.head _ | apply List.Mem.tail)) (by rfl) ag166, rfl, rfl⟩

set_option maxRecDepth 20000 in
set_option maxHeartbeats 1000000 in
theorem holds_c (v : Value) (d : List UInt8) (m : Mem) (hv : Rd m v 1 (d.map bV)) (hdl : d.length ≤ 1099511627776) :
    Ctr Try.prog 75 [v] m [] (fun _ r L => r = .bool (holdsF d) ∧ L = []) := by
  have ho := hv.1
  refine Ctr.intro Try.func75 rfl Try.ntmps75 (by simp) fun w0 => ?_
  refine AWp.forget ?_ (sub_put (i := 0) rfl (sub_nil))
  refine AWp.seq ?_
  refine AWp.region ?_
  refine OpsW.pure rfl rfl (pureOp_assign rfl) ?_
  refine OpsW.nil ?_
  refine AWp.forget ?_ (sub_put (i := 0) rfl (sub_put (i := 2) rfl (sub_nil)))
  refine AWp.seq ?_
  refine AWp.region ?_
  refine OpsW.pure rfl rfl (pureOp_move rfl) ?_
  refine OpsW.pure rfl rfl (opN_len1 _ Try.underlying46 rfl (by assumption) (by simp; rfl)) ?_
  refine OpsW.pure rfl rfl (pureOp_subI rfl rfl (by omega)) ?_
  refine OpsW.pure rfl rfl (pureOp_assign rfl) ?_
  refine OpsW.nil ?_
  refine AWp.forget ?_ (sub_put (i := 0) rfl (sub_put (i := 2) rfl (sub_put (i := 3) rfl (sub_nil))))
  refine AWp.seq ?_
  refine AWp.seq ?_
  refine AWp.region ?_
  refine OpsW.pure rfl rfl (pureOp_move rfl) ?_
  refine OpsW.pure rfl rfl (pureOp_lss rfl rfl) ?_
  refine OpsW.nil ?_
  refine AWp.forget ?_ (sub_put (i := 0) rfl (sub_put (i := 2) rfl (sub_put (i := 3) rfl (sub_put (i := 8) rfl (sub_nil)))))
  refine AWp.condP rfl (fun ht8 => ?_) (fun ht8 => ?_)
  · skip
    refine AWp.seq ?_
    refine AWp.region ?_
    refine OpsW.pure rfl rfl (pureOp_assign rfl) ?_
    refine OpsW.nil ?_
    refine AWp.forget ?_ (sub_put (i := 0) rfl (sub_put (i := 2) rfl (sub_put (i := 3) rfl (sub_put (i := 8) rfl (sub_nil)))))
    refine AWp.ret ?_
    exact ⟨_, [], _, permNone, res_tmp rfl rfl, by rw [holdsF, decide_eq_false (by omega)], rfl⟩
  refine AWp.skip ?_
  refine AWp.seq ?_
  obtain ⟨k, hk⟩ : ∃ k, d.length = k + 4 := ⟨d.length - 4, by omega⟩
  rw [show ((d.length : Int) - 4) = (k : Int) from by omega]
  have hr1 := slc_bytes (f := bV) 0 k hv (Nat.zero_le _) (by omega)
  rw [List.drop_zero, Nat.sub_zero] at hr1
  have hr2 := slc_bytes (f := bV) k (k + 4) hv (by omega) (by omega)
  rw [Nat.add_sub_cancel_left, List.take_of_length_le (l := d.drop k) (by simp; omega)] at hr2
  have ho2 := hr2.1
  refine AWp.draw [(0, .pure), (1, .pure), (2, .pure), (5, .pure), (6, .pure), (7, .pure), (8, .pure), (9, .load), (3, .call), (4, .call), (10, .pure), (11, .pure)] rfl (by decide +kernel) (fun _ _ _ p h => AWp.perm h p.symm) ?_
  refine ⟨_, _, rfl, OpStep.pure rfl rfl (pureOp_move rfl), ?_⟩
  rintro _ _ ⟨rfl, rfl⟩ -
  refine ⟨_, _, rfl, OpStep.pure rfl rfl (pureOp_move rfl), ?_⟩
  rintro _ _ ⟨rfl, rfl⟩ -
  refine ⟨_, _, rfl, OpStep.pure rfl rfl (pureOp_slice (n := k + 4) (0) (k) Try.underlying46 Try.sizeOf5 rfl (by assumption) (by simp [hk]) (by decide) (.inl ⟨rfl, rfl⟩) (.inr ⟨_, _, _, rfl, rfl, rfl⟩) (by omega) (by omega)), ?_⟩
  rintro _ _ ⟨rfl, rfl⟩ -
  refine ⟨_, _, rfl, OpStep.pure rfl rfl (pureOp_move rfl), ?_⟩
  rintro _ _ ⟨rfl, rfl⟩ -
  refine ⟨_, _, rfl, OpStep.pure rfl rfl (pureOp_move rfl), ?_⟩
  rintro _ _ ⟨rfl, rfl⟩ -
  refine ⟨_, _, rfl, OpStep.pure rfl rfl (pureOp_slice (n := k + 4) (k) (k + 4) Try.underlying46 Try.sizeOf5 rfl (by assumption) (by simp [hk]) (by decide) (.inr ⟨_, _, _, rfl, rfl, rfl⟩) (.inl ⟨rfl, rfl⟩) (by omega) (by omega)), ?_⟩
  rintro _ _ ⟨rfl, rfl⟩ -
  refine ⟨_, _, rfl, OpStep.pure rfl rfl (opN_arrayAt Try.underlying166 rfl (by assumption) (by simp; rfl) (by omega) (by decide)), ?_⟩
  rintro _ _ ⟨rfl, rfl⟩ -
  refine ⟨_, _, rfl, OpStep.load rfl rfl (loadOp_arr ag166 rfl hr2.ro (by simp; omega) (by decide)), ?_⟩
  rintro _ _ ⟨rfl, rfl⟩ -
  rw [List.take_of_length_le (l := d.drop k) (by simp; omega)]
  refine ⟨_, _, rfl, OpStep.call rfl rfl (callOp Try.call114 rfl) (crc_c _ (d.take k) _ hr1.ro (by simp; omega)), ?_⟩
  rintro _ _ ⟨_, _, ⟨rfl, rfl⟩, rfl, rfl⟩ -
  refine ⟨_, _, rfl, OpStep.call rfl rfl (callOp Try.call113 rfl) (four_c _ _), ?_⟩
  rintro _ _ ⟨_, _, ⟨rfl, rfl⟩, rfl, rfl⟩ -
  refine ⟨_, _, rfl, OpStep.pure rfl rfl (opB_eql by166 dpth rfl rfl rfl (by simp; omega)), ?_⟩
  rintro _ _ ⟨rfl, rfl⟩ -
  refine ⟨_, _, rfl, OpStep.pure rfl rfl (pureOp_assign rfl), ?_⟩
  rintro _ _ ⟨rfl, rfl⟩ -
  refine AWp.forget ?_ (sub_put (i := 0) rfl (sub_put (i := 2) rfl (sub_put (i := 3) rfl (sub_put (i := 8) rfl (sub_nil)))))
  refine AWp.ret ?_
  exact ⟨_, [], _, permNone, res_tmp rfl rfl, by rw [holdsF, show d.length - 4 = k from by omega]; congr 1; rw [decide_eq_decide]; exact ⟨fun h => ⟨by omega, h⟩, fun h => h.2⟩, rfl⟩

set_option maxRecDepth 20000 in
set_option maxHeartbeats 1000000 in
theorem sealed_c (v : Value) (d : List UInt8) (m : Mem) (hv : Rd m v 1 (d.map bV)) (hdl : d.length ≤ 1099511627776) :
    Ctr Try.prog 71 [v] m [] (fun _ r L => slOk r 1 ((sealF d).map bV) ∧ L = [.sl r 1 ((sealF d).map bV)]) := by
  have ho := hv.1
  refine Ctr.intro Try.func71 rfl Try.ntmps71 (by simp) fun w0 => ?_
  refine AWp.forget ?_ (sub_put (i := 0) rfl (sub_nil))
  refine AWp.seq ?_
  refine AWp.region ?_
  refine OpsW.pure rfl rfl (pureOp_assign rfl) ?_
  refine OpsW.nil ?_
  refine AWp.forget ?_ (sub_put (i := 0) rfl (sub_put (i := 2) rfl (sub_nil)))
  refine AWp.seq ?_
  refine AWp.region ?_
  refine OpsW.pure rfl rfl (pureOp_move rfl) ?_
  refine OpsW.callA rfl rfl (callOp Try.call114 rfl) permNone (crc_c v d _ hv.ro hdl) ?_
  rintro _ _ ⟨rfl, rfl⟩
  refine OpsW.callA rfl rfl (callOp Try.call113 rfl) permNone (four_c _ _) ?_
  rintro _ _ ⟨rfl, rfl⟩
  refine OpsW.alloc rfl rfl (allocOp_alloc zt166) ?_
  rintro _ _ ⟨b3, rfl, rfl⟩
  refine OpsW.upd rfl rfl (by repeat (first | exact Pos.here | apply Pos.there)) (lop_storeAllN 4 Try.sizeOf166 rfl rfl (by first | rfl | assumption | (rw [List.length_map]; assumption) | (simp [*]; done) | (simp [*]; omega) | omega) (by first | rfl | assumption | (rw [List.length_map]; assumption) | (simp [*]; done) | (simp [*]; omega) | omega) (by first | exact one_map (fun _ => rfl) _ | exact one_rfl rfl | exact one_sup _ | (simp [one, *]; done))) ?_
  rintro _ _ ⟨rfl, rfl⟩
  refine OpsW.nil ?_
  refine AWp.forget ?_ (sub_put (i := 0) rfl (sub_put (i := 2) rfl (sub_put (i := 3) rfl (sub_nil))))
  refine AWp.seq ?_
  refine AWp.draw [(1, .pure), (3, .pure), (0, .alloc), (2, .wr), (4, .wr), (5, .pure)] rfl (by decide +kernel) (fun _ _ _ p h => AWp.perm h p.symm) ?_
  refine ⟨_, _, rfl, OpStep.pure rfl rfl (pureOp_move rfl), ?_⟩
  rintro _ _ ⟨rfl, rfl⟩ -
  refine ⟨_, _, rfl, OpStep.pure rfl rfl (pureOp_sliceArr (n := 4) 0 4 Try.underlying166 Try.sizeOf5 rfl (.inl ⟨rfl, rfl⟩) (.inl ⟨rfl, rfl⟩) (by decide) (by decide)), ?_⟩
  rintro _ _ ⟨rfl, rfl⟩ -
  refine ⟨_, _, rfl, allocStep_buildSlice rfl rfl slt46 rfl rfl (by first | exact cells_rfl rfl | simp [Value.cells]) (by decide), ?_⟩
  rintro _ _ ⟨v7, _, ⟨hv7, hn7, rfl⟩, rfl, rfl⟩ -
  simp only [List.flatMap_nil] at hv7 ⊢
  refine ⟨_, _, rfl, OpStep.wr rfl rfl (toWp (by repeat (first | exact Pos.here | apply Pos.there)) (lop_append (k := _) slt46 ni46 rfl rfl (Nat.mul_one _).symm (src_rd (n := _) (by first | exact Rd.ro (by assumption) | exact Rd.of_sl (by repeat (first | exact List.Mem.head _ | apply List.Mem.tail)) (by assumption)) (Nat.mul_one _).symm (by decide)) (by simp; omega) (by first | exact one_map (fun _ => rfl) _ | exact one_rfl rfl | exact one_sup _ | (simp [one, *]; done)) (by decide) (by decide))), ?_⟩
  rintro _ _ ⟨v9, ⟨_, ⟨hv9, rfl⟩, rfl⟩, rfl⟩ -
  rw [List.nil_append] at hv9 ⊢
  refine ⟨_, _, rfl, OpStep.wr rfl rfl (toWp (by repeat (first | exact Pos.here | apply Pos.there)) (lop_append (k := _) slt46 ni46 rfl rfl (Nat.mul_one _).symm (src_rd (n := _) (arr_all (arr_rdL 0 4 (by repeat (first | exact List.Mem.head _ | apply List.Mem.tail)) rfl (by decide) (by decide)) rfl) (Nat.mul_one _).symm (by decide)) (by simp [fourF_length]; omega) (by first | exact one_map (fun _ => rfl) _ | exact one_rfl rfl | exact one_sup _ | (simp [one, *]; done)) (by decide) (by decide))), ?_⟩
  rintro _ _ ⟨v11, ⟨_, ⟨hv11, rfl⟩, rfl⟩, rfl⟩ -
  rw [← List.map_append] at hv11 ⊢
  refine ⟨_, _, rfl, OpStep.pure rfl rfl (pureOp_assign rfl), ?_⟩
  rintro _ _ ⟨rfl, rfl⟩ -
  refine AWp.forget ?_ (sub_put (i := 0) rfl (sub_put (i := 2) rfl (sub_put (i := 3) rfl (sub_nil))))
  refine AWp.ret ?_
  exact ⟨_, [.sl v11 1 _], _, Sel.perm (by repeat (first | exact Sel.nil | (apply Sel.cons; (repeat (first | exact Ext.here | apply Ext.there))))), res_tmp rfl rfl, hv11, rfl⟩

set_option maxRecDepth 20000 in
set_option maxHeartbeats 1000000 in
theorem get_c (v : Value) (d : List UInt8) (m : Mem) (hv : Rd m v 1 (d.map bV)) :
    Ctr Try.prog 117 [v] m [] (fun _ r L => r = qV (getL d) ∧ L = []) := by
  have ho := hv.1
  refine Ctr.intro Try.func117 rfl Try.ntmps117 (by simp) fun w0 => ?_
  refine AWp.forget ?_ (sub_put (i := 0) rfl (sub_nil))
  refine AWp.seq ?_
  refine AWp.region ?_
  refine OpsW.pure rfl rfl (pureOp_assign rfl) ?_
  refine OpsW.nil ?_
  refine AWp.forget ?_ (sub_put (i := 0) rfl (sub_put (i := 2) rfl (sub_nil)))
  refine AWp.seq ?_
  refine AWp.region ?_
  refine OpsW.pure rfl rfl (pureOp_assign rfl) ?_
  refine OpsW.nil ?_
  refine AWp.forget ?_ (sub_put (i := 0) rfl (sub_put (i := 2) rfl (sub_put (i := 3) rfl (sub_nil))))
  refine AWp.seq ?_
  refine AWp.seq ?_
  obtain ⟨n, hn⟩ : ∃ n, n = min d.length 8 := ⟨_, rfl⟩
  have hgl : getL d = getF (d.take n) := by
    rw [getL, hn]
    rcases Nat.le_total d.length 8 with h | h
    · rw [Nat.min_eq_left h, List.take_of_length_le h, List.take_length]
    · rw [Nat.min_eq_right h]
  have htl : (d.take n).length = n := by rw [List.length_take]; omega
  have hdg : ∀ k, k < n → d.getD k 0 = (d.take n).getD k 0 := fun k hk => by rw [List.getD_eq_getElem?_getD, List.getD_eq_getElem?_getD, List.getElem?_take_of_lt hk]
  refine AWp.region ?_
  refine OpsW.pure rfl rfl (pureOp_move rfl) ?_
  refine OpsW.pure rfl rfl (opN_len1 _ Try.underlying46 rfl (by assumption) (by simp; rfl)) ?_
  refine OpsW.pure rfl rfl (opN_min (b := 8) rfl rfl) ?_
  rw [← hn]
  refine OpsW.pure rfl rfl (pureOp_subI rfl rfl (by omega)) ?_
  refine OpsW.pure rfl rfl (pureOp_assign rfl) ?_
  refine OpsW.nil ?_
  refine AWp.forget ?_ (sub_put (i := 0) rfl (sub_put (i := 2) rfl (sub_put (i := 3) rfl (sub_put (i := 4) rfl (sub_nil)))))
  refine AWp.block ?_
  refine AWp.forget ?_ (sub_put (i := 0) rfl (sub_put (i := 3) rfl (sub_put (i := 4) rfl (sub_nil))))
  refine AWp.loop (fun N m' T' L' => ∃ k : Nat, N = k ∧ k ≤ n ∧ m' = m ∧ T' = put (put (put (tnil) 4 (.int .i64 ((k : Int) - 1))) 3 (qV (getF ((d.take n).drop k)))) 0 (v) ∧ L' = []) _ (⟨n, rfl, Nat.le_refl _, rfl, by rw [List.drop_of_length_le (by omega)]; rfl, rfl⟩) ?_
  rintro _ m _ _ ⟨k, hN, hk, rfl, rfl, rfl⟩
  refine AWp.seq ?_
  refine AWp.seq ?_
  refine AWp.region ?_
  refine OpsW.pure rfl rfl (pureOp_move rfl) ?_
  refine OpsW.pure rfl rfl (pureOp_geq rfl rfl) ?_
  refine OpsW.nil ?_
  refine AWp.forget ?_ (sub_put (i := 0) rfl (sub_put (i := 3) rfl (sub_put (i := 4) rfl (sub_put (i := 10) rfl (sub_nil)))))
  refine AWp.condP rfl (fun ht10 => ?_) (fun ht10 => ?_)
  refine AWp.skip ?_
  refine AWp.seq ?_
  refine AWp.block ?_
  obtain ⟨i, rfl⟩ : ∃ i, k = i + 1 := ⟨k - 1, by omega⟩
  rw [show (((i + 1 : Nat) : Int) - 1) = (i : Int) from by omega]
  refine AWp.region ?_
  refine OpsW.pure rfl rfl (pureOp_move rfl) ?_
  refine OpsW.pure rfl rfl (op64_shl (n := 8) rfl rfl) ?_
  refine OpsW.pure rfl rfl (pureOp_move rfl) ?_
  refine OpsW.pure rfl rfl (pureOp_move rfl) ?_
  refine OpsW.pure rfl rfl (opN_indexSl1 Try.underlying46 Try.sizeOf5 rfl (by assumption) rfl (by simp; omega)) ?_
  refine OpsW.load rfl rfl (loadOp_elem (u := bV (d.getD (i) 0)) sc5 rfl (by first | exact Rd.ro (by assumption) | exact Rd.of_sl (by repeat (first | exact List.Mem.head _ | apply List.Mem.tail)) (by assumption)) (get_map (by first | assumption | omega))) ?_
  refine OpsW.pure rfl rfl (op_conv8_64 Try.underlying5 Try.underlying122 rfl) ?_
  refine OpsW.pure rfl rfl (op64_or rfl rfl) ?_
  refine OpsW.pure rfl rfl (pureOp_assign rfl) ?_
  refine OpsW.nil ?_
  refine AWp.forget ?_ (sub_put (i := 0) rfl (sub_put (i := 3) rfl (sub_put (i := 4) rfl (sub_put (i := 10) rfl (sub_nil)))))
  refine AWp.region ?_
  refine OpsW.pure rfl rfl (pureOp_move rfl) ?_
  refine OpsW.pure rfl rfl (pureOp_subI rfl rfl (by omega)) ?_
  refine OpsW.pure rfl rfl (pureOp_assign rfl) ?_
  refine OpsW.forget ?_ (sub_put (i := 0) rfl (sub_put (i := 3) rfl (sub_put (i := 4) rfl (sub_nil))))
  refine OpsW.keep (L' := []) (by repeat (first | exact Sel.nil | (apply Sel.cons; (repeat (first | exact Ext.here | apply Ext.there))))) ?_
  refine OpsW.nil ?_
  exact ⟨_, by omega, i, rfl, by omega, rfl, by rw [hdg i (by omega), getF_down (by omega) (by omega)], rfl⟩
  obtain rfl : k = 0 := by omega
  refine AWp.exit (exit_here ?_)
  refine AWp.seq ?_
  refine AWp.region ?_
  refine OpsW.pure rfl rfl (pureOp_move rfl) ?_
  refine OpsW.pure rfl rfl (pureOp_assign rfl) ?_
  refine OpsW.nil ?_
  refine AWp.forget ?_ (sub_put (i := 0) rfl (sub_put (i := 2) rfl (sub_put (i := 3) rfl (sub_put (i := 4) rfl (sub_put (i := 10) rfl (sub_nil))))))
  refine AWp.ret ?_
  exact ⟨_, [], _, permNone, res_tmp rfl rfl, by rw [hgl]; rfl, rfl⟩

set_option maxRecDepth 20000 in
set_option maxHeartbeats 1000000 in
theorem zero_c (v : Value) (d : List UInt8) (m : Mem) (hv : Rd m v 1 (d.map bV)) (hdl : d.length ≤ 1099511627776) :
    Ctr Try.prog 118 [v] m [] (fun _ r L => r = .bool (zeroF d) ∧ L = []) := by
  have ho := hv.1
  refine Ctr.intro Try.func118 rfl Try.ntmps118 (by simp) fun w0 => ?_
  refine AWp.forget ?_ (sub_put (i := 0) rfl (sub_nil))
  refine AWp.seq ?_
  refine AWp.region ?_
  refine OpsW.pure rfl rfl (pureOp_assign rfl) ?_
  refine OpsW.nil ?_
  refine AWp.forget ?_ (sub_put (i := 0) rfl (sub_put (i := 2) rfl (sub_nil)))
  refine AWp.seq ?_
  refine AWp.seq ?_
  refine AWp.region ?_
  refine OpsW.pure rfl rfl (pureOp_move rfl) ?_
  refine OpsW.pure rfl rfl (opN_len1 _ Try.underlying46 rfl (by assumption) (by simp; rfl)) ?_
  refine OpsW.pure rfl rfl (pureOp_move rfl) ?_
  refine OpsW.nil ?_
  refine AWp.forget ?_ (sub_put (i := 0) rfl (sub_put (i := 2) rfl (sub_put (i := 5) rfl (sub_put (i := 6) rfl (sub_put (i := 7) rfl (sub_nil))))))
  refine AWp.block ?_
  refine AWp.forget ?_ (sub_put (i := 5) rfl (sub_put (i := 6) rfl (sub_put (i := 7) rfl (sub_nil))))
  refine AWp.loop (fun N m' T' L' => ∃ k : Nat, N = d.length - k ∧ k ≤ d.length ∧ zeroF (d.take k) = true ∧ m' = m ∧ T' = put (put (put (tnil) 7 (iV k)) 6 (iV d.length)) 5 (v) ∧ L' = []) _ (⟨0, rfl, Nat.zero_le _, rfl, rfl, rfl, rfl⟩) ?_
  rintro _ m _ _ ⟨k, rfl, hk, hz, rfl, rfl, rfl⟩
  refine AWp.seq ?_
  refine AWp.region ?_
  refine OpsW.pure rfl rfl (opN_lss rfl rfl) ?_
  refine OpsW.nil ?_
  refine AWp.forget ?_ (sub_put (i := 5) rfl (sub_put (i := 6) rfl (sub_put (i := 7) rfl (sub_put (i := 8) rfl (sub_nil)))))
  refine AWp.seq ?_
  refine AWp.condP rfl (fun ht8 => ?_) (fun ht8 => ?_)
  refine AWp.skip ?_
  refine AWp.seq ?_
  refine AWp.block ?_
  refine AWp.seq ?_
  refine AWp.region ?_
  refine OpsW.pure rfl rfl (opN_indexSl1 Try.underlying46 Try.sizeOf5 rfl (by assumption) rfl (by simp; omega)) ?_
  refine OpsW.load rfl rfl (loadOp_elem (u := bV (d.getD (k) 0)) sc5 rfl (by first | exact Rd.ro (by assumption) | exact Rd.of_sl (by repeat (first | exact List.Mem.head _ | apply List.Mem.tail)) (by assumption)) (get_map (by first | assumption | omega))) ?_
  refine OpsW.pure rfl rfl (pureOp_assign rfl) ?_
  refine OpsW.nil ?_
  refine AWp.forget ?_ (sub_put (i := 4) rfl (sub_put (i := 5) rfl (sub_put (i := 6) rfl (sub_put (i := 7) rfl (sub_put (i := 8) rfl (sub_nil))))))
  refine AWp.seq ?_
  refine AWp.region ?_
  refine OpsW.pure rfl rfl (pureOp_move rfl) ?_
  refine OpsW.pure rfl rfl (op8_neq (b := 0) rfl rfl) ?_
  refine OpsW.nil ?_
  refine AWp.forget ?_ (sub_put (i := 4) rfl (sub_put (i := 5) rfl (sub_put (i := 6) rfl (sub_put (i := 7) rfl (sub_put (i := 8) rfl (sub_put (i := 12) rfl (sub_nil)))))))
  refine AWp.condP rfl (fun ht12 => ?_) (fun ht12 => ?_)
  · skip
    refine AWp.seq ?_
    refine AWp.region ?_
    refine OpsW.pure rfl rfl (pureOp_assign rfl) ?_
    refine OpsW.nil ?_
    refine AWp.forget ?_ (sub_put (i := 2) rfl (sub_put (i := 4) rfl (sub_put (i := 5) rfl (sub_put (i := 6) rfl (sub_put (i := 7) rfl (sub_put (i := 8) rfl (sub_put (i := 12) rfl (sub_nil))))))))
    refine AWp.ret ?_
    exact ⟨_, [], _, permNone, res_tmp rfl rfl, by
      have h1 : zeroF d = false := by
        rw [zeroF, Bool.eq_false_iff]
        intro h
        exact ht12 (by rw [List.getD_eq_getElem?_getD, List.getElem?_eq_getElem (show k < d.length by omega)]; exact eq_of_beq (List.all_eq_true.1 h _ (List.getElem_mem _)))
      rw [h1], rfl⟩
  refine AWp.skip ?_
  refine AWp.region ?_
  refine OpsW.pure rfl rfl (opN_add (b := 1) rfl rfl (by omega)) ?_
  refine OpsW.pure rfl rfl (pureOp_move rfl) ?_
  refine OpsW.forget ?_ (sub_put (i := 5) rfl (sub_put (i := 6) rfl (sub_put (i := 7) rfl (sub_nil))))
  refine OpsW.keep (L' := []) (by repeat (first | exact Sel.nil | (apply Sel.cons; (repeat (first | exact Ext.here | apply Ext.there))))) ?_
  refine OpsW.nil ?_
  exact ⟨_, by omega, k + 1, rfl, by omega, by rw [zeroF, zero_all (by omega)]; rw [zeroF] at hz; rw [hz]; simpa using ht12, rfl, rfl, rfl⟩
  obtain rfl : k = d.length := by omega
  rw [List.take_length] at hz
  refine AWp.exit (exit_here ?_)
  refine AWp.seq ?_
  refine AWp.region ?_
  refine OpsW.pure rfl rfl (pureOp_assign rfl) ?_
  refine OpsW.nil ?_
  refine AWp.forget ?_ (sub_put (i := 2) rfl (sub_put (i := 5) rfl (sub_put (i := 6) rfl (sub_put (i := 7) rfl (sub_put (i := 8) rfl (sub_nil))))))
  refine AWp.ret ?_
  exact ⟨_, [], _, permNone, res_tmp rfl rfl, by rw [hz], rfl⟩

set_option maxRecDepth 20000 in
set_option maxHeartbeats 1000000 in
theorem whole_c (v : Value) (d : List UInt8) (m : Mem) (hv : Rd m v 1 (d.map bV)) :
    Ctr Try.prog 70 [v] m [] (fun _ r L => r = .agg ((wholeF d).map bV).toArray ∧ L = []) := by
  have ho := hv.1
  refine Ctr.intro Try.func70 rfl Try.ntmps70 (by simp) fun w0 => ?_
  refine AWp.forget ?_ (sub_put (i := 0) rfl (sub_nil))
  refine AWp.seq ?_
  refine AWp.region ?_
  refine OpsW.alloc rfl rfl (allocOp_alloc zt24) ?_
  rintro _ _ ⟨b2, rfl, rfl⟩
  refine OpsW.nil ?_
  refine AWp.forget ?_ (sub_put (i := 0) rfl (sub_put (i := 2) rfl (sub_nil)))
  refine AWp.seq ?_
  refine AWp.region ?_
  refine OpsW.alloc rfl rfl (allocOp_alloc zt24) ?_
  rintro _ _ ⟨b3, rfl, rfl⟩
  refine OpsW.nil ?_
  refine AWp.forget ?_ (sub_put (i := 0) rfl (sub_put (i := 2) rfl (sub_put (i := 3) rfl (sub_nil))))
  refine AWp.seq ?_
  refine AWp.region ?_
  refine OpsW.pure rfl rfl (pureOp_sliceArr (n := 256) 0 256 Try.underlying24 Try.sizeOf5 rfl (.inl ⟨rfl, rfl⟩) (.inl ⟨rfl, rfl⟩) (by decide) (by decide)) ?_
  refine OpsW.pure rfl rfl (pureOp_move rfl) ?_
  refine OpsW.upd rfl rfl (by repeat (first | exact Pos.here | apply Pos.there)) (lop_copyObj (n := d.length) (ys := d.map bV) Try.underlying46 Try.sizeOf5 rfl rfl (src_rd hv.ro (by simp) (by decide)) (by simp) (one_map (fun _ => rfl) _)) ?_
  rintro _ _ ⟨rfl, rfl⟩
  rw [show segs (List.replicate 256 (.int .u8 0)) (0 + 0 * 1) ((d.map bV).take (min d.length (256 - 0) * 1)) = (wholeF d).map bV from whole_segs d]
  have hwl := wholeF_length d
  refine OpsW.nil ?_
  refine AWp.forget ?_ (sub_put (i := 0) rfl (sub_put (i := 2) rfl (sub_put (i := 3) rfl (sub_nil))))
  refine AWp.seq ?_
  refine AWp.region ?_
  refine OpsW.load rfl rfl (loadAll rfl (by repeat (first | exact List.Mem.head _ | apply List.Mem.tail)) (by first | rfl | assumption | (rw [List.length_map]; assumption) | (simp [*]; done) | (simp [*]; omega) | omega) ag24) ?_
  refine OpsW.upd rfl rfl (by repeat (first | exact Pos.here | apply Pos.there)) (lop_storeAllN 256 Try.sizeOf24 rfl rfl (by first | rfl | assumption | (rw [List.length_map]; assumption) | (simp [*]; done) | (simp [*]; omega) | omega) (by first | rfl | assumption | (rw [List.length_map]; assumption) | (simp [*]; done) | (simp [*]; omega) | omega) (by first | exact one_map (fun _ => rfl) _ | exact one_rfl rfl | exact one_sup _ | (simp [one, *]; done))) ?_
  rintro _ _ ⟨rfl, rfl⟩
  refine OpsW.nil ?_
  refine AWp.forget ?_ (sub_put (i := 0) rfl (sub_put (i := 2) rfl (sub_put (i := 3) rfl (sub_nil))))
  refine AWp.ret ?_
  exact ⟨_, [], _, permNone, resCell rfl rfl (by repeat (first | exact List.Mem.head _ | apply List.Mem.tail)) (by simp [wholeF_length]) ag24, rfl, rfl⟩

set_option maxRecDepth 20000 in
set_option maxHeartbeats 1000000 in
theorem from_c (v : Value) (m : Mem) (hv : one v = true) :
    Ctr Try.prog 76 [v] m [] (fun _ r L => ∃ b, r = .pointer (some ⟨b, 0, none⟩) ∧ L = [.obj b [v, .bool false]]) := by
  refine Ctr.intro Try.func76 rfl Try.ntmps76 (by simp) fun w0 => ?_
  refine AWp.forget ?_ (sub_put (i := 0) rfl (sub_nil))
  refine AWp.seq ?_
  refine AWp.region ?_
  refine OpsW.pure rfl rfl (pureOp_assign rfl) ?_
  refine OpsW.nil ?_
  refine AWp.forget ?_ (sub_put (i := 0) rfl (sub_put (i := 2) rfl (sub_nil)))
  refine AWp.seq ?_
  refine AWp.region ?_
  refine OpsW.pure rfl rfl (pureOp_move rfl) ?_
  refine OpsW.pure rfl rfl (opBuildStruct st171 rfl (.cons rfl (by rw [one_cells hv]; rfl) (Nat.le_of_ble_eq_true rfl) (.nil))) ?_
  refine OpsW.alloc rfl rfl (allocOp_boxAgg rfl) ?_
  rintro _ _ ⟨b5, rfl, rfl⟩
  rw [one_cells hv]
  rw [show (segs [.slice none 0 0, .bool false] 0 #[v].toList) = [v, .bool false] from rfl]
  refine OpsW.pure rfl rfl (pureOp_assign rfl) ?_
  refine OpsW.nil ?_
  refine AWp.forget ?_ (sub_put (i := 0) rfl (sub_put (i := 2) rfl (sub_nil)))
  refine AWp.ret ?_
  exact ⟨_, [.obj b5 _], _, Sel.perm (by repeat (first | exact Sel.nil | (apply Sel.cons; (repeat (first | exact Ext.here | apply Ext.there))))), res_tmp rfl rfl, b5, rfl, rfl⟩

set_option maxRecDepth 20000 in
set_option maxHeartbeats 2000000 in
theorem bytes_c (b : Nat) (v : Value) (bad : Bool) (d : List UInt8) (n : Nat) (m : Mem) (hv : Rd m v 1 (d.map bV)) (hdl : d.length ≤ 1099511627776) (hn : n ≤ 1099511627776) :
    Ctr Try.prog 89 [.pointer (some ⟨b, 0, none⟩), iV n] m [.obj b [v, .bool bad]] (fun _ r L => ∃ v', slOk r 1 ((curT bad d n).map bV) ∧ Rd m v' 1 ((curD bad d n).map bV) ∧ L = [.sl r 1 ((curT bad d n).map bV), .obj b [v', .bool (curB bad d n)]]) := by
  have ho := hv.1
  refine Ctr.intro Try.func89 rfl Try.ntmps89 (by simp) fun w0 => ?_
  refine AWp.forget ?_ (sub_put (i := 0) rfl (sub_put (i := 1) rfl (sub_nil)))
  refine AWp.seq ?_
  refine AWp.region ?_
  refine OpsW.pure rfl rfl (pureOp_assign rfl) ?_
  refine OpsW.nil ?_
  refine AWp.forget ?_ (sub_put (i := 0) rfl (sub_put (i := 1) rfl (sub_put (i := 4) rfl (sub_nil))))
  refine AWp.seq ?_
  refine AWp.seq ?_
  refine AWp.joinW (fun m' T' L' => ∃ bb : Bool, (bb = true ↔ (bad = true ∨ d.length < n)) ∧ m' = m ∧ T' = put (put (put (tnil) 22 (.bool bb)) 1 (iV n)) 0 (.pointer (some ⟨b, 0, none⟩)) ∧ L' = [.obj b [v, .bool bad]]) ?_ ?_
  · skip
    refine AWp.region ?_
    refine OpsW.pure rfl rfl (pureOp_move rfl) ?_
    refine OpsW.pure rfl rfl (pureOp_nilCheck rfl) ?_
    refine OpsW.pure rfl rfl (pureOp_fieldAddr fa171_1 rfl) ?_
    refine OpsW.load rfl rfl (loadOp_obj sc4 rfl (by repeat (first | exact List.Mem.head _ | apply List.Mem.tail)) rfl) ?_
    refine OpsW.pure rfl rfl (pureOp_move rfl) ?_
    refine OpsW.split (d := 10) rfl (fun h10 => ?_) (fun h10 => ?_)
    · skip
      refine OpsW.skipG rfl rfl ?_
      refine OpsW.skipG rfl rfl ?_
      refine OpsW.pure rfl rfl (pureOp_pick_true rfl rfl) ?_
      refine OpsW.pure rfl rfl (pureOp_move rfl) ?_
      refine OpsW.skipG rfl rfl ?_
      refine OpsW.skipG rfl rfl ?_
      refine OpsW.skipG rfl rfl ?_
      refine OpsW.skipG rfl rfl ?_
      refine OpsW.skipG rfl rfl ?_
      refine OpsW.skipG rfl rfl ?_
      refine OpsW.skipG rfl rfl ?_
      refine OpsW.pure rfl rfl (pureOp_pick_true rfl rfl) ?_
      refine OpsW.nil ?_
      refine ⟨_, [.obj b _], _, sub_put (i := 0) rfl (sub_put (i := 1) rfl (sub_put (i := 22) rfl (sub_nil))), Sel.perm (by repeat (first | exact Sel.nil | (apply Sel.cons; (repeat (first | exact Ext.here | apply Ext.there))))), ?_⟩
      exact ⟨_, by simp [h10], rfl, rfl, rfl⟩
    · skip
      refine OpsW.pure rfl rfl (pureOp_move rfl) ?_
      refine OpsW.pure rfl rfl (opN_lss (b := 0) rfl rfl) ?_
      refine OpsW.knowB (d := 12) (b := false) (by show some (Value.bool (decide _)) = _; rw [decide_eq_false (Nat.not_lt_zero _)]) ?_
      refine OpsW.pure rfl rfl (pureOp_pick_false rfl rfl) ?_
      refine OpsW.pure rfl rfl (pureOp_move rfl) ?_
      refine OpsW.pure rfl rfl (pureOp_move rfl) ?_
      refine OpsW.pure rfl rfl (pureOp_move rfl) ?_
      refine OpsW.pure rfl rfl (pureOp_nilCheck rfl) ?_
      refine OpsW.pure rfl rfl (pureOp_fieldAddr fa171_0 rfl) ?_
      refine OpsW.load rfl rfl (loadOp_obj (u := v) sc46 rfl (by repeat (first | exact List.Mem.head _ | apply List.Mem.tail)) rfl) ?_
      refine OpsW.pure rfl rfl (opN_len1 _ Try.underlying46 rfl (by assumption) (by simp; rfl)) ?_
      refine OpsW.pure rfl rfl (opN_gtr rfl rfl) ?_
      refine OpsW.splitP (d := 21) rfl (fun h21 => ?_) (fun h21 => ?_)
      · skip
        refine OpsW.pure rfl rfl (pureOp_pick_false rfl rfl) ?_
        refine OpsW.nil ?_
        refine ⟨_, [.obj b _], _, sub_put (i := 0) rfl (sub_put (i := 1) rfl (sub_put (i := 22) rfl (sub_nil))), Sel.perm (by repeat (first | exact Sel.nil | (apply Sel.cons; (repeat (first | exact Ext.here | apply Ext.there))))), ?_⟩
        exact ⟨_, by simp [h10, h21], rfl, rfl, rfl⟩
      · skip
        refine OpsW.pure rfl rfl (pureOp_pick_false rfl rfl) ?_
        refine OpsW.nil ?_
        refine ⟨_, [.obj b _], _, sub_put (i := 0) rfl (sub_put (i := 1) rfl (sub_put (i := 22) rfl (sub_nil))), Sel.perm (by repeat (first | exact Sel.nil | (apply Sel.cons; (repeat (first | exact Ext.here | apply Ext.there))))), ?_⟩
        exact ⟨_, by simp [h10, h21], rfl, rfl, rfl⟩
  rintro m _ _ ⟨bb, hbb, rfl, rfl, rfl⟩
  refine AWp.cond rfl (fun ht22 => ?_) (fun ht22 => ?_)
  · skip
    refine AWp.seq ?_
    have hc := hbb.1 ht22
    have hcT : curT bad d n = List.replicate (min n 256) 0 := if_pos hc
    have hcD : curD bad d n = d := if_pos hc
    have hcB : curB bad d n = true := decide_eq_true hc
    rw [hcT, hcD, hcB]
    refine AWp.region ?_
    refine OpsW.pure rfl rfl (pureOp_move rfl) ?_
    refine OpsW.pure rfl rfl (pureOp_nilCheck rfl) ?_
    refine OpsW.pure rfl rfl (pureOp_fieldAddr fa171_1 rfl) ?_
    refine OpsW.upd rfl rfl (by repeat (first | exact Pos.here | apply Pos.there)) (lop_store1 Try.sizeOf4 rfl rfl (by first | rfl | assumption | exact one_sl (by assumption)) (by first | rfl | assumption | (rw [List.length_map]; assumption) | (simp [*]; done) | (simp [*]; omega) | omega)) ?_
    rintro _ _ ⟨rfl, rfl⟩
    refine OpsW.nil ?_
    refine AWp.forget ?_ (sub_put (i := 0) rfl (sub_put (i := 1) rfl (sub_put (i := 22) rfl (sub_nil))))
    refine AWp.seq ?_
    refine AWp.region ?_
    refine OpsW.pure rfl rfl (pureOp_move rfl) ?_
    refine OpsW.pure rfl rfl (opN_max (b := 0) rfl rfl) ?_
    rw [Nat.max_eq_left (Nat.zero_le n)]
    refine OpsW.pure rfl rfl (opN_min (b := 256) rfl rfl) ?_
    refine OpsW.alloc rfl rfl (allocOp_makeSlice slt46 rfl rfl (by omega) (by omega)) ?_
    rintro v29 _ ⟨hv29, hn29, rfl⟩
    refine OpsW.pure rfl rfl (pureOp_assign rfl) ?_
    refine OpsW.nil ?_
    refine AWp.forget ?_ (sub_put (i := 0) rfl (sub_put (i := 1) rfl (sub_put (i := 4) rfl (sub_put (i := 22) rfl (sub_nil)))))
    refine AWp.ret ?_
    exact ⟨_, [.sl v29 1 _, .obj b _], _, Sel.perm (by repeat (first | exact Sel.nil | (apply Sel.cons; (repeat (first | exact Ext.here | apply Ext.there))))), res_tmp rfl rfl, v, slOk_same hv29 (by simp), hv, by rw [List.map_replicate]; rfl⟩
  refine AWp.skip ?_
  refine AWp.seq ?_
  have hc : ¬ (bad = true ∨ d.length < n) := fun h => by rw [hbb.2 h] at ht22; cases ht22
  have hcT : curT bad d n = d.take n := if_neg hc
  have hcD : curD bad d n = d.drop n := if_neg hc
  have hcB : curB bad d n = false := decide_eq_false hc
  obtain rfl : bad = false := by cases bad; rfl; exact absurd (.inl rfl) hc
  have hnd : n ≤ d.length := by omega
  rw [hcT, hcD, hcB]
  have hr2 := slc_bytes (f := bV) n d.length hv hnd (Nat.le_refl _)
  rw [List.take_of_length_le (by simp)] at hr2
  refine AWp.region ?_
  refine OpsW.pure rfl rfl (pureOp_move rfl) ?_
  refine OpsW.alloc rfl rfl (allocOp_makeSlice slt46 rfl rfl (by omega) (by omega)) ?_
  rintro v31 _ ⟨hv31, hn31, rfl⟩
  refine OpsW.pure rfl rfl (pureOp_assign rfl) ?_
  refine OpsW.nil ?_
  refine AWp.forget ?_ (sub_put (i := 0) rfl (sub_put (i := 1) rfl (sub_put (i := 5) rfl (sub_put (i := 22) rfl (sub_nil)))))
  refine AWp.seq ?_
  refine AWp.region ?_
  refine OpsW.pure rfl rfl (pureOp_move rfl) ?_
  refine OpsW.pure rfl rfl (pureOp_move rfl) ?_
  refine OpsW.pure rfl rfl (pureOp_nilCheck rfl) ?_
  refine OpsW.pure rfl rfl (pureOp_fieldAddr fa171_0 rfl) ?_
  refine OpsW.load rfl rfl (loadOp_obj (u := v) sc46 rfl (by repeat (first | exact List.Mem.head _ | apply List.Mem.tail)) rfl) ?_
  refine OpsW.upd rfl rfl (by repeat (first | exact Pos.here | apply Pos.there)) (lop_copySl (n := d.length) (k := n) (ys := d.map bV) Try.underlying46 Try.sizeOf5 rfl rfl (src_rd hv.ro (by simp) (by decide)) (by simp) (by decide) (one_map (fun _ => rfl) _)) ?_
  rintro _ _ ⟨rfl, rfl⟩
  rw [copy_bytes d n hnd]
  refine OpsW.nil ?_
  refine AWp.forget ?_ (sub_put (i := 0) rfl (sub_put (i := 1) rfl (sub_put (i := 5) rfl (sub_put (i := 22) rfl (sub_nil)))))
  refine AWp.seq ?_
  refine AWp.region ?_
  refine OpsW.pure rfl rfl (pureOp_move rfl) ?_
  refine OpsW.pure rfl rfl (pureOp_move rfl) ?_
  refine OpsW.pure rfl rfl (pureOp_nilCheck rfl) ?_
  refine OpsW.pure rfl rfl (pureOp_fieldAddr fa171_0 rfl) ?_
  refine OpsW.load rfl rfl (loadOp_obj (u := v) sc46 rfl (by repeat (first | exact List.Mem.head _ | apply List.Mem.tail)) rfl) ?_
  refine OpsW.pure rfl rfl (pureOp_move rfl) ?_
  refine OpsW.pure rfl rfl (pureOp_slice (n := d.length) (n) (d.length) Try.underlying46 Try.sizeOf5 rfl (by assumption) (by simp) (by decide) (.inr ⟨_, _, _, rfl, rfl, rfl⟩) (.inl ⟨rfl, rfl⟩) (by omega) (by omega)) ?_
  refine OpsW.pure rfl rfl (pureOp_nilCheck rfl) ?_
  refine OpsW.pure rfl rfl (pureOp_fieldAddr fa171_0 rfl) ?_
  refine OpsW.upd rfl rfl (by repeat (first | exact Pos.here | apply Pos.there)) (lop_store1 Try.sizeOf46 rfl rfl (one_sl hr2.1) (by first | rfl | assumption | (rw [List.length_map]; assumption) | (simp [*]; done) | (simp [*]; omega) | omega)) ?_
  rintro _ _ ⟨rfl, rfl⟩
  refine OpsW.nil ?_
  refine AWp.forget ?_ (sub_put (i := 0) rfl (sub_put (i := 1) rfl (sub_put (i := 5) rfl (sub_put (i := 22) rfl (sub_nil)))))
  refine AWp.seq ?_
  refine AWp.region ?_
  refine OpsW.pure rfl rfl (pureOp_move rfl) ?_
  refine OpsW.pure rfl rfl (pureOp_assign rfl) ?_
  refine OpsW.nil ?_
  refine AWp.forget ?_ (sub_put (i := 0) rfl (sub_put (i := 1) rfl (sub_put (i := 4) rfl (sub_put (i := 5) rfl (sub_put (i := 22) rfl (sub_nil))))))
  refine AWp.ret ?_
  exact ⟨_, [.sl v31 1 _, .obj b _], _, Sel.perm (by repeat (first | exact Sel.nil | (apply Sel.cons; (repeat (first | exact Ext.here | apply Ext.there))))), res_tmp rfl rfl, _, slOk_same hv31 (by simp; omega), hr2, rfl⟩

set_option maxRecDepth 20000 in
set_option maxHeartbeats 1000000 in
theorem num_c (b : Nat) (v : Value) (bad : Bool) (d : List UInt8) (n : Nat) (m : Mem) (hv : Rd m v 1 (d.map bV)) (hdl : d.length ≤ 1099511627776) (hn : n ≤ 1099511627776) :
    Ctr Try.prog 77 [.pointer (some ⟨b, 0, none⟩), iV n] m [.obj b [v, .bool bad]] (fun _ r L => ∃ v', r = qV (getL (curT bad d n)) ∧ Rd m v' 1 ((curD bad d n).map bV) ∧ L = [.obj b [v', .bool (curB bad d n)]]) := by
  refine Ctr.intro Try.func77 rfl Try.ntmps77 (by simp) fun w0 => ?_
  refine AWp.forget ?_ (sub_put (i := 0) rfl (sub_put (i := 1) rfl (sub_nil)))
  refine AWp.seq ?_
  refine AWp.region ?_
  refine OpsW.pure rfl rfl (pureOp_assign rfl) ?_
  refine OpsW.nil ?_
  refine AWp.forget ?_ (sub_put (i := 0) rfl (sub_put (i := 1) rfl (sub_put (i := 4) rfl (sub_nil))))
  refine AWp.seq ?_
  refine AWp.region ?_
  refine OpsW.pure rfl rfl (pureOp_move rfl) ?_
  refine OpsW.pure rfl rfl (pureOp_move rfl) ?_
  refine OpsW.callA rfl rfl (callOp Try.call89 rfl) (Sel.perm (L' := [.obj b _]) (by repeat (first | exact Sel.nil | (apply Sel.cons; (repeat (first | exact Ext.here | apply Ext.there)))))) (bytes_c b v bad d n _ hv.ro hdl hn) ?_
  rintro v7 _ ⟨v', hv7, hrd, rfl⟩
  refine OpsW.callA rfl rfl (callOp Try.call117 rfl) permNone (get_c v7 _ _ (Rd.of_sl (by repeat (first | exact List.Mem.head _ | apply List.Mem.tail)) hv7)) ?_
  rintro _ _ ⟨rfl, rfl⟩
  refine OpsW.pure rfl rfl (pureOp_assign rfl) ?_
  refine OpsW.nil ?_
  refine AWp.forget ?_ (sub_put (i := 0) rfl (sub_put (i := 1) rfl (sub_put (i := 4) rfl (sub_nil))))
  refine AWp.ret ?_
  exact ⟨_, [.obj b _], _, Sel.perm (by repeat (first | exact Sel.nil | (apply Sel.cons; (repeat (first | exact Ext.here | apply Ext.there))))), res_tmp rfl rfl, v', rfl, (by refine hrd.mono ?_; rintro a u (h | ⟨c, hc, _⟩); exact h; cases hc), rfl⟩

set_option maxRecDepth 20000 in
set_option maxHeartbeats 1000000 in
theorem rest_c (b : Nat) (v : Value) (bad : Bool) (d : List UInt8) (m : Mem) (hv : Rd m v 1 (d.map bV)) (hdl : d.length ≤ 1099511627776) :
    Ctr Try.prog 78 [.pointer (some ⟨b, 0, none⟩)] m [.obj b [v, .bool bad]] (fun _ r L => r = .bool (!bad && zeroF d) ∧ L = [.obj b [v, .bool bad]]) := by
  have ho := hv.1
  refine Ctr.intro Try.func78 rfl Try.ntmps78 (by simp) fun w0 => ?_
  refine AWp.forget ?_ (sub_put (i := 0) rfl (sub_nil))
  refine AWp.seq ?_
  refine AWp.region ?_
  refine OpsW.pure rfl rfl (pureOp_assign rfl) ?_
  refine OpsW.nil ?_
  refine AWp.forget ?_ (sub_put (i := 0) rfl (sub_put (i := 2) rfl (sub_nil)))
  refine AWp.seq ?_
  refine AWp.joinW (fun m' T' L' => ∃ bb : Bool, bb = (!bad && zeroF d) ∧ m' = m ∧ T' = put (tnil) 2 (.bool bb) ∧ L' = [.obj b [v, .bool bad]]) ?_ ?_
  · skip
    refine AWp.region ?_
    refine OpsW.pure rfl rfl (pureOp_move rfl) ?_
    refine OpsW.pure rfl rfl (pureOp_nilCheck rfl) ?_
    refine OpsW.pure rfl rfl (pureOp_fieldAddr fa171_1 rfl) ?_
    refine OpsW.load rfl rfl (loadOp_obj sc4 rfl (by repeat (first | exact List.Mem.head _ | apply List.Mem.tail)) rfl) ?_
    refine OpsW.split (d := 6) rfl (fun h6 => ?_) (fun h6 => ?_)
    · skip
      refine OpsW.pure rfl rfl (pureOp_not rfl) ?_
      refine OpsW.pure rfl rfl (pureOp_move rfl) ?_
      refine OpsW.skipG rfl rfl ?_
      refine OpsW.skipG rfl rfl ?_
      refine OpsW.skipG rfl rfl ?_
      refine OpsW.skipG rfl rfl ?_
      refine OpsW.skipG rfl rfl ?_
      refine OpsW.pure rfl rfl (pureOp_pick_false rfl rfl) ?_
      refine OpsW.pure rfl rfl (pureOp_assign rfl) ?_
      refine OpsW.nil ?_
      refine ⟨_, [.obj b _], _, sub_put (i := 2) rfl (sub_nil), Sel.perm (by repeat (first | exact Sel.nil | (apply Sel.cons; (repeat (first | exact Ext.here | apply Ext.there))))), ?_⟩
      exact ⟨_, (by simp [h6]), rfl, rfl, rfl⟩
    · skip
      refine OpsW.pure rfl rfl (pureOp_not rfl) ?_
      refine OpsW.pure rfl rfl (pureOp_move rfl) ?_
      refine OpsW.pure rfl rfl (pureOp_move rfl) ?_
      refine OpsW.pure rfl rfl (pureOp_nilCheck rfl) ?_
      refine OpsW.pure rfl rfl (pureOp_fieldAddr fa171_0 rfl) ?_
      refine OpsW.load rfl rfl (loadOp_obj (u := v) sc46 rfl (by repeat (first | exact List.Mem.head _ | apply List.Mem.tail)) rfl) ?_
      refine OpsW.callA rfl rfl (callOp Try.call118 rfl) permNone (zero_c v d _ hv.ro hdl) ?_
      rintro _ _ ⟨rfl, rfl⟩
      refine OpsW.pure rfl rfl (pureOp_pick_true rfl rfl) ?_
      refine OpsW.pure rfl rfl (pureOp_assign rfl) ?_
      refine OpsW.nil ?_
      refine ⟨_, [.obj b _], _, sub_put (i := 2) rfl (sub_nil), Sel.perm (by repeat (first | exact Sel.nil | (apply Sel.cons; (repeat (first | exact Ext.here | apply Ext.there))))), ?_⟩
      exact ⟨_, (by simp [h6]), rfl, rfl, rfl⟩
  rintro m _ _ ⟨bb, hbb, rfl, rfl, rfl⟩
  refine AWp.ret ?_
  exact ⟨_, [.obj b _], _, Sel.perm (by repeat (first | exact Sel.nil | (apply Sel.cons; (repeat (first | exact Ext.here | apply Ext.there))))), res_tmp rfl rfl, by rw [hbb], rfl⟩

set_option maxRecDepth 20000 in
set_option maxHeartbeats 1000000 in
theorem get01_c (v : Value) (d : List UInt8) (m : Mem) (hv : Rd m v 1 (d.map bV)) :
    Ctr Try.prog 79 [v] m [] (fun _ r L => r = qV (getL d) ∧ L = []) := by
  have ho := hv.1
  refine Ctr.intro Try.func79 rfl Try.ntmps79 (by simp) fun w0 => ?_
  refine AWp.forget ?_ (sub_put (i := 0) rfl (sub_nil))
  refine AWp.seq ?_
  refine AWp.region ?_
  refine OpsW.pure rfl rfl (pureOp_assign rfl) ?_
  refine OpsW.nil ?_
  refine AWp.forget ?_ (sub_put (i := 0) rfl (sub_put (i := 2) rfl (sub_nil)))
  refine AWp.seq ?_
  refine AWp.seq ?_
  refine AWp.region ?_
  refine OpsW.pure rfl rfl (pureOp_move rfl) ?_
  refine OpsW.pure rfl rfl (opN_len1 _ Try.underlying46 rfl (by assumption) (by simp; rfl)) ?_
  refine OpsW.pure rfl rfl (opN_eql (b := 0) rfl rfl) ?_
  refine OpsW.nil ?_
  refine AWp.forget ?_ (sub_put (i := 0) rfl (sub_put (i := 2) rfl (sub_put (i := 5) rfl (sub_nil))))
  refine AWp.condP rfl (fun ht5 => ?_) (fun ht5 => ?_)
  · skip
    refine AWp.seq ?_
    refine AWp.region ?_
    refine OpsW.pure rfl rfl (pureOp_assign rfl) ?_
    refine OpsW.nil ?_
    refine AWp.forget ?_ (sub_put (i := 0) rfl (sub_put (i := 2) rfl (sub_put (i := 5) rfl (sub_nil))))
    refine AWp.ret ?_
    exact ⟨_, [], _, permNone, res_tmp rfl rfl, by rw [List.length_eq_zero_iff.1 ht5]; rfl, rfl⟩
  refine AWp.skip ?_
  refine AWp.seq ?_
  refine AWp.seq ?_
  refine AWp.region ?_
  refine OpsW.pure rfl rfl (pureOp_move rfl) ?_
  refine OpsW.pure rfl rfl (opN_len1 _ Try.underlying46 rfl (by assumption) (by simp; rfl)) ?_
  refine OpsW.pure rfl rfl (opN_gtr (b := 8) rfl rfl) ?_
  refine OpsW.nil ?_
  refine AWp.forget ?_ (sub_put (i := 0) rfl (sub_put (i := 2) rfl (sub_put (i := 5) rfl (sub_put (i := 8) rfl (sub_nil)))))
  refine AWp.condP rfl (fun ht8 => ?_) (fun ht8 => ?_)
  · skip
    refine AWp.seq ?_
    have hr8 := slc_bytes (f := bV) 0 8 hv (by decide) (by omega)
    rw [List.drop_zero, Nat.sub_zero] at hr8
    refine AWp.region ?_
    refine OpsW.pure rfl rfl (pureOp_move rfl) ?_
    refine OpsW.pure rfl rfl (pureOp_slice (n := d.length) (0) (8) Try.underlying46 Try.sizeOf5 rfl (by assumption) (by simp) (by decide) (.inl ⟨rfl, rfl⟩) (.inr ⟨_, _, _, rfl, rfl, rfl⟩) (by omega) (by omega)) ?_
    refine OpsW.callA rfl rfl (callOp Try.call79 rfl) permNone (get01_c _ (d.take 8) _ hr8.ro) ?_
    rintro _ _ ⟨rfl, rfl⟩
    refine OpsW.pure rfl rfl (pureOp_assign rfl) ?_
    refine OpsW.nil ?_
    refine AWp.forget ?_ (sub_put (i := 0) rfl (sub_put (i := 2) rfl (sub_put (i := 5) rfl (sub_put (i := 8) rfl (sub_nil)))))
    refine AWp.ret ?_
    exact ⟨_, [], _, permNone, res_tmp rfl rfl, by rw [getL, getL, List.take_take]; rfl, rfl⟩
  refine AWp.skip ?_
  refine AWp.seq ?_
  have hr1 := slc_bytes (f := bV) 1 d.length hv (by omega) (Nat.le_refl _)
  rw [List.take_of_length_le (by simp)] at hr1
  have hgl : getL d = (d.getD 0 0).toUInt64 + 256 * getL (d.drop 1) := by
    have h8 : d.length ≤ 8 := by omega
    rw [getL, getL, List.take_of_length_le h8, List.take_of_length_le (by simp; omega)]
    match d, ht5 with
    | [], h => exact absurd rfl h
    | b :: r, _ => rfl
  refine AWp.draw [(0, .pure), (1, .pure), (2, .load), (3, .pure), (4, .pure), (5, .pure), (6, .call), (7, .pure), (8, .pure), (9, .pure)] rfl (by decide +kernel) (fun _ _ _ p h => AWp.perm h p.symm) ?_
  refine ⟨_, _, rfl, OpStep.pure rfl rfl (pureOp_move rfl), ?_⟩
  rintro _ _ ⟨rfl, rfl⟩ -
  refine ⟨_, _, rfl, OpStep.pure rfl rfl (opN_indexSl1 (i := 0) Try.underlying46 Try.sizeOf5 rfl (by assumption) rfl (by simp; omega)), ?_⟩
  rintro _ _ ⟨rfl, rfl⟩ -
  refine ⟨_, _, rfl, OpStep.load rfl rfl (loadOp_elem (u := bV (d.getD (0) 0)) sc5 rfl (by first | exact Rd.ro (by assumption) | exact Rd.of_sl (by repeat (first | exact List.Mem.head _ | apply List.Mem.tail)) (by assumption)) (get_map (by first | assumption | omega))), ?_⟩
  rintro _ _ ⟨rfl, rfl⟩ -
  refine ⟨_, _, rfl, OpStep.pure rfl rfl (op_conv8_64 Try.underlying5 Try.underlying122 rfl), ?_⟩
  rintro _ _ ⟨rfl, rfl⟩ -
  refine ⟨_, _, rfl, OpStep.pure rfl rfl (pureOp_move rfl), ?_⟩
  rintro _ _ ⟨rfl, rfl⟩ -
  refine ⟨_, _, rfl, OpStep.pure rfl rfl (pureOp_slice (n := d.length) (1) (d.length) Try.underlying46 Try.sizeOf5 rfl (by assumption) (by simp) (by decide) (.inr ⟨_, _, _, rfl, rfl, rfl⟩) (.inl ⟨rfl, rfl⟩) (by omega) (by omega)), ?_⟩
  rintro _ _ ⟨rfl, rfl⟩ -
  refine ⟨_, _, rfl, OpStep.call rfl rfl (callOp Try.call79 rfl) (get01_c _ (d.drop 1) _ hr1.ro), ?_⟩
  rintro _ _ ⟨_, _, ⟨rfl, rfl⟩, rfl, rfl⟩ -
  refine ⟨_, _, rfl, OpStep.pure rfl rfl (op64_mul (a := 256) rfl rfl), ?_⟩
  rintro _ _ ⟨rfl, rfl⟩ -
  refine ⟨_, _, rfl, OpStep.pure rfl rfl (op64_add rfl rfl), ?_⟩
  rintro _ _ ⟨rfl, rfl⟩ -
  refine ⟨_, _, rfl, OpStep.pure rfl rfl (pureOp_assign rfl), ?_⟩
  rintro _ _ ⟨rfl, rfl⟩ -
  refine AWp.forget ?_ (sub_put (i := 0) rfl (sub_put (i := 2) rfl (sub_put (i := 5) rfl (sub_put (i := 8) rfl (sub_nil)))))
  refine AWp.ret ?_
  exact ⟨_, [], _, permNone, res_tmp rfl rfl, by rw [hgl], rfl⟩
termination_by d.length
decreasing_by all_goals (simp; omega)

set_option maxRecDepth 20000 in
set_option maxHeartbeats 1000000 in
theorem same01_c (v w : Value) (d e : List UInt8) (m : Mem) (hv : Rd m v 1 (d.map bV)) (hw : Rd m w 1 (e.map bV)) :
    Ctr Try.prog 33 [v, w] m [] (fun _ r L => r = .bool (decide (d = e)) ∧ L = []) := by
  refine Ctr.intro Try.func33 rfl Try.ntmps33 (by simp) fun w0 => ?_
  refine AWp.forget ?_ (sub_put (i := 0) rfl (sub_put (i := 1) rfl (sub_nil)))
  refine AWp.seq ?_
  refine AWp.region ?_
  refine OpsW.pure rfl rfl (pureOp_assign rfl) ?_
  refine OpsW.nil ?_
  refine AWp.forget ?_ (sub_put (i := 0) rfl (sub_put (i := 1) rfl (sub_put (i := 4) rfl (sub_nil))))
  refine AWp.seq ?_
  refine AWp.region ?_
  refine OpsW.pure rfl rfl (pureOp_move rfl) ?_
  refine OpsW.load rfl rfl (loadOp_toString Try.underlying46 Try.underlying5 Try.underlying9 rfl hv.ro) ?_
  refine OpsW.pure rfl rfl (pureOp_move rfl) ?_
  refine OpsW.load rfl rfl (loadOp_toString Try.underlying46 Try.underlying5 Try.underlying9 rfl hw.ro) ?_
  refine OpsW.pure rfl rfl (opS_eql rfl rfl) ?_
  refine OpsW.pure rfl rfl (pureOp_assign rfl) ?_
  refine OpsW.nil ?_
  refine AWp.forget ?_ (sub_put (i := 0) rfl (sub_put (i := 1) rfl (sub_put (i := 4) rfl (sub_nil))))
  refine AWp.ret ?_
  exact ⟨_, [], _, permNone, res_tmp rfl rfl, rfl, rfl⟩

end Go.Proofs.Ytpnipajadjeifaa.Sep
