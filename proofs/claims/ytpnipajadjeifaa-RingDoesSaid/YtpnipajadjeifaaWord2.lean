/- The walks of the references 02, and of the sealing of sectors in 08. -/
import Derived.Test.YtpnipajadjeifaaWord1
import Derived.Test.YtpnipajadjeifaaCrc
import Derived.Test.YtpnipajadjeifaaSepN
import Derived.Test.YtpnipajadjeifaaProg
namespace Go.Proofs.Ytpnipajadjeifaa.Sep
open Go Go.RowKit
set_option linter.unusedVariables false
set_option linter.unusedSimpArgs false
theorem arr24 : ArrT Try.prog 24 256 1 := ⟨5, Try.underlying24, Try.sizeOf5⟩


set_option maxRecDepth 20000 in
set_option maxHeartbeats 1000000 in
theorem bits_c (v : Value) (d : List UInt8) (m : Mem) (hv : Rd m v 1 (d.map bV)) (hdl : d.length ≤ 1099511627776) :
    Ctr Try.prog 120 [v] m [] (fun _ r L => slOk r 1 ((bitsF d).map bV) ∧ L = [.sl r 1 ((bitsF d).map bV)]) := by
  have ho := hv.1
  refine Ctr.intro Try.func120 rfl Try.ntmps120 (by simp) fun w0 => ?_
  refine AWp.forget ?_ (sub_put (i := 0) rfl (sub_nil))
  refine AWp.seq ?_
  refine AWp.region ?_
  refine OpsW.pure rfl rfl (pureOp_assign rfl) ?_
  refine OpsW.nil ?_
  refine AWp.forget ?_ (sub_put (i := 0) rfl (sub_put (i := 2) rfl (sub_nil)))
  refine AWp.seq ?_
  refine AWp.nilChunk 1 ?_
  refine AWp.region ?_
  refine OpsW.pure rfl rfl (pureOp_assign rfl) ?_
  refine OpsW.nil ?_
  refine AWp.forget ?_ (sub_put (i := 0) rfl (sub_put (i := 2) rfl (sub_put (i := 3) rfl (sub_nil))))
  refine AWp.seq ?_
  refine AWp.seq ?_
  refine AWp.region ?_
  refine OpsW.pure rfl rfl (pureOp_assign rfl) ?_
  refine OpsW.nil ?_
  refine AWp.forget ?_ (sub_put (i := 0) rfl (sub_put (i := 2) rfl (sub_put (i := 3) rfl (sub_put (i := 4) rfl (sub_nil)))))
  refine AWp.block ?_
  refine AWp.forget ?_ (sub_put (i := 0) rfl (sub_put (i := 3) rfl (sub_put (i := 4) rfl (sub_nil))))
  refine AWp.keep (L' := [.sl (.slice none 0 0) 1 _]) (by repeat (first | exact Sel.nil | (apply Sel.cons; (repeat (first | exact Ext.here | apply Ext.there))))) ?_
  refine AWp.loop (fun N m' T' L' => ∃ (i : Nat) (vv : Value), N = d.length - i ∧ i ≤ d.length ∧ slOk vv 1 ((bitsF (d.take i)).map bV) ∧ m' = m ∧ T' = put (put (put (tnil) 4 (iV i)) 3 (vv)) 0 (v) ∧ L' = [.sl vv 1 ((bitsF (d.take i)).map bV)]) _ (⟨0, .slice none 0 0, rfl, Nat.zero_le _, .inl ⟨rfl, rfl⟩, rfl, rfl, rfl⟩) ?_
  rintro _ m _ _ ⟨i, vv, rfl, hi, hvv, rfl, rfl, rfl⟩
  refine AWp.seq ?_
  refine AWp.seq ?_
  refine AWp.region ?_
  refine OpsW.pure rfl rfl (pureOp_move rfl) ?_
  refine OpsW.pure rfl rfl (pureOp_move rfl) ?_
  refine OpsW.pure rfl rfl (opN_len1 _ Try.underlying46 rfl (by assumption) (by simp; rfl)) ?_
  refine OpsW.pure rfl rfl (opN_lss rfl rfl) ?_
  refine OpsW.nil ?_
  refine AWp.forget ?_ (sub_put (i := 0) rfl (sub_put (i := 3) rfl (sub_put (i := 4) rfl (sub_put (i := 9) rfl (sub_nil)))))
  refine AWp.condP rfl (fun ht9 => ?_) (fun ht9 => ?_)
  refine AWp.skip ?_
  refine AWp.seq ?_
  refine AWp.block ?_
  refine AWp.seq ?_
  refine AWp.region ?_
  refine OpsW.pure rfl rfl (pureOp_assign rfl) ?_
  refine OpsW.nil ?_
  refine AWp.forget ?_ (sub_put (i := 0) rfl (sub_put (i := 3) rfl (sub_put (i := 4) rfl (sub_put (i := 5) rfl (sub_put (i := 9) rfl (sub_nil))))))
  refine AWp.block ?_
  refine AWp.forget ?_ (sub_put (i := 0) rfl (sub_put (i := 3) rfl (sub_put (i := 4) rfl (sub_put (i := 5) rfl (sub_nil)))))
  refine AWp.loop (fun N m' T' L' => ∃ (k : Nat) (vw : Value), N = 8 - k ∧ k ≤ 8 ∧ slOk vw 1 ((bitsF (d.take i) ++ bitK (d.getD i 0) k).map bV) ∧ m' = m ∧ T' = put (put (put (put (tnil) 5 (iV k)) 4 (iV i)) 3 (vw)) 0 (v) ∧ L' = [.sl vw 1 ((bitsF (d.take i) ++ bitK (d.getD i 0) k).map bV)]) _ (⟨0, vv, rfl, Nat.zero_le _, by simpa [bitK] using hvv, rfl, rfl, by simp [bitK]⟩) ?_
  rintro _ m _ _ ⟨k, vw, rfl, hk, hvw, rfl, rfl, rfl⟩
  refine AWp.seq ?_
  refine AWp.seq ?_
  refine AWp.region ?_
  refine OpsW.pure rfl rfl (pureOp_move rfl) ?_
  refine OpsW.pure rfl rfl (opN_lss (b := 8) rfl rfl) ?_
  refine OpsW.nil ?_
  refine AWp.forget ?_ (sub_put (i := 0) rfl (sub_put (i := 3) rfl (sub_put (i := 4) rfl (sub_put (i := 5) rfl (sub_put (i := 13) rfl (sub_nil))))))
  refine AWp.condP rfl (fun ht13 => ?_) (fun ht13 => ?_)
  refine AWp.skip ?_
  refine AWp.seq ?_
  refine AWp.block ?_
  refine AWp.region ?_
  refine OpsW.pure rfl rfl (pureOp_move rfl) ?_
  refine OpsW.pure rfl rfl (pureOp_move rfl) ?_
  refine OpsW.pure rfl rfl (pureOp_move rfl) ?_
  refine OpsW.pure rfl rfl (opN_indexSl1 Try.underlying46 Try.sizeOf5 rfl (by assumption) rfl (by simp; omega)) ?_
  refine OpsW.load rfl rfl (loadOp_elem (u := bV ((d).getD (i) 0)) sc5 rfl (by first | exact Rd.ro (by assumption) | exact Rd.of_sl (by repeat (first | exact List.Mem.head _ | apply List.Mem.tail)) (by assumption)) (get_map (by first | assumption | omega))) ?_
  refine OpsW.pure rfl rfl (pureOp_move rfl) ?_
  refine OpsW.pure rfl rfl (op_convI_uint (k := .i64) Try.underlying3 Try.underlying44 rfl (by omega)) ?_
  refine OpsW.pure rfl rfl (op8_shr (n := k) rfl rfl) ?_
  refine OpsW.pure rfl rfl (op8_and (b := 1) rfl rfl) ?_
  refine OpsW.alloc rfl rfl (allocOp_buildSlice slt46 rfl rfl (by first | exact cells_rfl rfl | simp [Value.cells]) (by decide)) ?_
  rintro v25 _ ⟨hv25, hn25, rfl⟩
  rw [flat_b1] at hv25 ⊢
  refine OpsW.upd rfl rfl (by repeat (first | exact Pos.here | apply Pos.there)) (lop_append (k := _) slt46 ni46 rfl rfl (Nat.mul_one _).symm (src_rd (n := _) (by first | exact Rd.ro (by assumption) | exact Rd.of_sl (by repeat (first | exact List.Mem.head _ | apply List.Mem.tail)) (by assumption)) (Nat.mul_one _).symm (by decide)) (by have := bitsF_length (d.take i); rw [List.length_take] at this; simp only [List.length_map, List.length_append, bitK_length, List.length_cons, List.length_nil]; omega) (by first | exact one_map (fun _ => rfl) _ | exact one_rfl rfl | exact one_sup _ | (simp [one, *]; done)) (by decide) (by decide)) ?_
  rintro v26 _ ⟨hv26, rfl⟩
  rw [← List.map_append, List.append_assoc, bitK_succ] at hv26 ⊢
  refine OpsW.pure rfl rfl (pureOp_assign rfl) ?_
  refine OpsW.nil ?_
  refine AWp.forget ?_ (sub_put (i := 0) rfl (sub_put (i := 3) rfl (sub_put (i := 4) rfl (sub_put (i := 5) rfl (sub_put (i := 13) rfl (sub_nil))))))
  refine AWp.region ?_
  refine OpsW.pure rfl rfl (pureOp_move rfl) ?_
  refine OpsW.pure rfl rfl (opN_add (b := 1) rfl rfl (by omega)) ?_
  refine OpsW.pure rfl rfl (pureOp_assign rfl) ?_
  refine OpsW.forget ?_ (sub_put (i := 0) rfl (sub_put (i := 3) rfl (sub_put (i := 4) rfl (sub_put (i := 5) rfl (sub_nil)))))
  refine OpsW.keep (L' := [.sl v26 1 _]) (by repeat (first | exact Sel.nil | (apply Sel.cons; (repeat (first | exact Ext.here | apply Ext.there))))) ?_
  refine OpsW.nil ?_
  exact ⟨_, by omega, k + 1, v26, rfl, by omega, hv26, rfl, rfl, rfl⟩
  obtain rfl : k = 8 := by omega
  rw [bitsF_take (by omega)] at hvw ⊢
  refine AWp.exit (exit_here ?_)
  refine AWp.region ?_
  refine OpsW.pure rfl rfl (pureOp_move rfl) ?_
  refine OpsW.pure rfl rfl (opN_add (b := 1) rfl rfl (by omega)) ?_
  refine OpsW.pure rfl rfl (pureOp_assign rfl) ?_
  refine OpsW.forget ?_ (sub_put (i := 0) rfl (sub_put (i := 3) rfl (sub_put (i := 4) rfl (sub_nil))))
  refine OpsW.keep (L' := [.sl vw 1 _]) (by repeat (first | exact Sel.nil | (apply Sel.cons; (repeat (first | exact Ext.here | apply Ext.there))))) ?_
  refine OpsW.nil ?_
  exact ⟨_, by omega, i + 1, vw, rfl, by omega, hvw, rfl, rfl, rfl⟩
  obtain rfl : i = d.length := by omega
  rw [List.take_length] at hvv ⊢
  refine AWp.exit (exit_here ?_)
  refine AWp.seq ?_
  refine AWp.region ?_
  refine OpsW.pure rfl rfl (pureOp_move rfl) ?_
  refine OpsW.pure rfl rfl (pureOp_assign rfl) ?_
  refine OpsW.nil ?_
  refine AWp.forget ?_ (sub_put (i := 0) rfl (sub_put (i := 2) rfl (sub_put (i := 3) rfl (sub_put (i := 4) rfl (sub_put (i := 9) rfl (sub_nil))))))
  refine AWp.ret ?_
  exact ⟨_, [.sl vv 1 _], _, Sel.perm (by repeat (first | exact Sel.nil | (apply Sel.cons; (repeat (first | exact Ext.here | apply Ext.there))))), res_tmp rfl rfl, hvv, rfl⟩

set_option maxRecDepth 20000 in
set_option maxHeartbeats 4000000 in
theorem crc02_c (v : Value) (d : List UInt8) (m : Mem) (hv : Rd m v 1 (d.map bV)) (hdl : d.length ≤ 1099511627776) :
    Ctr Try.prog 116 [v] m [] (fun _ r L => r = wV (crcF d) ∧ L = []) := by
  have ho := hv.1
  refine Ctr.intro Try.func116 rfl Try.ntmps116 (by simp) fun w0 => ?_
  refine AWp.forget ?_ (sub_put (i := 0) rfl (sub_nil))
  refine AWp.seq ?_
  refine AWp.region ?_
  refine OpsW.pure rfl rfl (pureOp_assign rfl) ?_
  refine OpsW.nil ?_
  refine AWp.forget ?_ (sub_put (i := 0) rfl (sub_put (i := 2) rfl (sub_nil)))
  refine AWp.seq ?_
  refine AWp.region ?_
  refine OpsW.pure rfl rfl (pureOp_move rfl) ?_
  refine OpsW.callA rfl rfl (callOp Try.call120 rfl) permNone (bits_c v d _ hv.ro hdl) ?_
  rintro v12 _ ⟨hv12, rfl⟩
  refine OpsW.upd rfl rfl (by repeat (first | exact Pos.here | apply Pos.there)) (lop_appendZ (n := 32) (k := _) slt46 Try.underlying3 rfl rfl (Nat.mul_one _).symm (by simp [bitsF_length]; omega) rfl (by decide) (by decide)) ?_
  rintro v13 _ ⟨hv13, rfl⟩
  rw [zeros_map, ← List.map_append] at hv13 ⊢
  refine OpsW.pure rfl rfl (pureOp_assign rfl) ?_
  refine OpsW.nil ?_
  refine AWp.forget ?_ (sub_put (i := 0) rfl (sub_put (i := 2) rfl (sub_put (i := 3) rfl (sub_nil))))
  refine AWp.seq ?_
  refine AWp.seq ?_
  refine AWp.region ?_
  refine OpsW.pure rfl rfl (pureOp_assign rfl) ?_
  refine OpsW.nil ?_
  refine AWp.forget ?_ (sub_put (i := 0) rfl (sub_put (i := 2) rfl (sub_put (i := 3) rfl (sub_put (i := 4) rfl (sub_nil)))))
  refine AWp.block ?_
  refine AWp.forget ?_ (sub_put (i := 3) rfl (sub_put (i := 4) rfl (sub_nil)))
  obtain ⟨l0, hl0⟩ : ∃ l, l = bitsF d ++ List.replicate 32 0 := ⟨_, rfl⟩
  have hll : l0.length = 8 * d.length + 32 := by rw [hl0, List.length_append, bitsF_length, List.length_replicate]
  rw [← hl0] at hv13 ⊢
  refine AWp.loop (fun N m' T' L' => ∃ k : Nat, N = 32 - k ∧ k ≤ 32 ∧ m' = m ∧ T' = put (put (tnil) 4 (iV k)) 3 (v13) ∧ L' = [.sl v13 1 ((flipN k l0).map bV)]) _ (⟨0, rfl, Nat.zero_le _, rfl, rfl, rfl⟩) ?_
  rintro _ m _ _ ⟨k, rfl, hk, rfl, rfl, rfl⟩
  have h13 : slOk v13 1 ((flipN k l0).map bV) := slOk_same hv13 (by simp [flipN_length])
  refine AWp.seq ?_
  refine AWp.seq ?_
  refine AWp.region ?_
  refine OpsW.pure rfl rfl (pureOp_move rfl) ?_
  refine OpsW.pure rfl rfl (opN_lss (b := 32) rfl rfl) ?_
  refine OpsW.nil ?_
  refine AWp.forget ?_ (sub_put (i := 3) rfl (sub_put (i := 4) rfl (sub_put (i := 15) rfl (sub_nil))))
  refine AWp.condP rfl (fun ht15 => ?_) (fun ht15 => ?_)
  refine AWp.skip ?_
  refine AWp.seq ?_
  refine AWp.block ?_
  refine AWp.region ?_
  refine OpsW.pure rfl rfl (pureOp_move rfl) ?_
  refine OpsW.pure rfl rfl (pureOp_move rfl) ?_
  refine OpsW.pure rfl rfl (pureOp_move rfl) ?_
  refine OpsW.pure rfl rfl (pureOp_move rfl) ?_
  refine OpsW.pure rfl rfl (opN_indexSl1 Try.underlying46 Try.sizeOf5 rfl (by assumption) rfl (by simp [flipN_length]; omega)) ?_
  refine OpsW.load rfl rfl (loadOp_elem (u := bV ((flipN k l0).getD (k) 0)) sc5 rfl (by first | exact Rd.ro (by assumption) | exact Rd.of_sl (by repeat (first | exact List.Mem.head _ | apply List.Mem.tail)) (by assumption)) (get_map (by rw [flipN_length]; omega))) ?_
  refine OpsW.pure rfl rfl (op8_sub (a := 1) rfl rfl) ?_
  refine OpsW.pure rfl rfl (opN_indexSl1 Try.underlying46 Try.sizeOf5 rfl (by assumption) rfl (by simp [flipN_length]; omega)) ?_
  refine OpsW.upd rfl rfl (by repeat (first | exact Pos.here | apply Pos.there)) (lop_storeElem Try.sizeOf5 rfl rfl rfl (by decide) (by simp [flipN_length]; omega) (by simp [Value.cells, one])) ?_
  rintro _ _ ⟨rfl, rfl⟩
  rw [seg_set (by rw [flipN_length]; omega)]
  refine OpsW.nil ?_
  refine AWp.forget ?_ (sub_put (i := 3) rfl (sub_put (i := 4) rfl (sub_put (i := 15) rfl (sub_nil))))
  refine AWp.region ?_
  refine OpsW.pure rfl rfl (pureOp_move rfl) ?_
  refine OpsW.pure rfl rfl (opN_add (b := 1) rfl rfl (by omega)) ?_
  refine OpsW.pure rfl rfl (pureOp_assign rfl) ?_
  refine OpsW.forget ?_ (sub_put (i := 3) rfl (sub_put (i := 4) rfl (sub_nil)))
  refine OpsW.keep (L' := [.sl v13 1 _]) (by repeat (first | exact Sel.nil | (apply Sel.cons; (repeat (first | exact Ext.here | apply Ext.there))))) ?_
  refine OpsW.nil ?_
  exact ⟨_, by omega, k + 1, rfl, by omega, rfl, rfl, rfl⟩
  obtain rfl : k = 32 := by omega
  obtain ⟨l1, hl1⟩ : ∃ l, l = flipN 32 l0 := ⟨_, rfl⟩
  have hll1 : l1.length = 8 * d.length + 32 := by rw [hl1, flipN_length, hll]
  rw [← hl1] at h13 ⊢
  refine AWp.exit (exit_here ?_)
  refine AWp.seq ?_
  refine AWp.region ?_
  refine OpsW.alloc rfl rfl (allocOp_buildSlice slt46 rfl rfl (by first | exact cells_rfl rfl | simp [Value.cells]) (by decide)) ?_
  rintro v26 _ ⟨hv26, hn26, rfl⟩
  rw [show List.flatMap (fun x : Value => x.cells.toList) [.int .u8 1, .int .u8 0, .int .u8 0, .int .u8 0, .int .u8 0, .int .u8 0, .int .u8 1, .int .u8 0, .int .u8 0, .int .u8 1, .int .u8 1, .int .u8 0, .int .u8 0, .int .u8 0, .int .u8 0, .int .u8 0, .int .u8 1, .int .u8 0, .int .u8 0, .int .u8 0, .int .u8 1, .int .u8 1, .int .u8 1, .int .u8 0, .int .u8 1, .int .u8 1, .int .u8 0, .int .u8 1, .int .u8 1, .int .u8 0, .int .u8 1, .int .u8 1, .int .u8 1] = polyL.map bV from rfl] at hv26 ⊢
  refine OpsW.pure rfl rfl (pureOp_assign rfl) ?_
  refine OpsW.nil ?_
  refine AWp.forget ?_ (sub_put (i := 3) rfl (sub_put (i := 4) rfl (sub_put (i := 5) rfl (sub_put (i := 15) rfl (sub_nil)))))
  refine AWp.seq ?_
  refine AWp.seq ?_
  refine AWp.region ?_
  refine OpsW.pure rfl rfl (pureOp_assign rfl) ?_
  refine OpsW.nil ?_
  refine AWp.forget ?_ (sub_put (i := 3) rfl (sub_put (i := 4) rfl (sub_put (i := 5) rfl (sub_put (i := 6) rfl (sub_put (i := 15) rfl (sub_nil))))))
  refine AWp.block ?_
  refine AWp.forget ?_ (sub_put (i := 3) rfl (sub_put (i := 5) rfl (sub_put (i := 6) rfl (sub_nil))))
  refine AWp.keep (L' := [.sl v13 1 _, .sl v26 1 _]) (by repeat (first | exact Sel.nil | (apply Sel.cons; (repeat (first | exact Ext.here | apply Ext.there))))) ?_
  refine AWp.loop (fun N m' T' L' => ∃ i : Nat, N = 8 * d.length - i ∧ i ≤ 8 * d.length ∧ m' = m ∧ T' = put (put (put (tnil) 6 (iV i)) 5 (v26)) 3 (v13) ∧ L' = [.sl v13 1 ((divN i l1).map bV), .sl v26 1 (polyL.map bV)]) _ (⟨0, rfl, Nat.zero_le _, rfl, rfl, rfl⟩) ?_
  rintro _ m _ _ ⟨i, rfl, hi, rfl, rfl, rfl⟩
  have h13i : slOk v13 1 ((divN i l1).map bV) := slOk_same h13 (by simp [divN_length])
  have hdl1 : (divN i l1).length = 8 * d.length + 32 := by rw [divN_length, hll1]
  refine AWp.seq ?_
  refine AWp.seq ?_
  refine AWp.region ?_
  refine OpsW.pure rfl rfl (pureOp_move rfl) ?_
  refine OpsW.pure rfl rfl (opN_add (b := 32) rfl rfl (by omega)) ?_
  refine OpsW.pure rfl rfl (pureOp_move rfl) ?_
  refine OpsW.pure rfl rfl (opN_len1 (8 * d.length + 32) Try.underlying46 rfl (by assumption) (by simp [hdl1])) ?_
  refine OpsW.pure rfl rfl (opN_lss rfl rfl) ?_
  refine OpsW.nil ?_
  refine AWp.forget ?_ (sub_put (i := 3) rfl (sub_put (i := 5) rfl (sub_put (i := 6) rfl (sub_put (i := 31) rfl (sub_nil)))))
  refine AWp.condP rfl (fun ht31 => ?_) (fun ht31 => ?_)
  refine AWp.skip ?_
  refine AWp.seq ?_
  refine AWp.joinW (fun m' T' L' => m' = m ∧ T' = put (put (put (tnil) 6 (iV i)) 5 (v26)) 3 (v13) ∧ L' = [.sl v13 1 ((divN (i + 1) l1).map bV), .sl v26 1 (polyL.map bV)]) ?_ ?_
  · skip
    refine AWp.block ?_
    refine AWp.seq ?_
    refine AWp.region ?_
    refine OpsW.pure rfl rfl (pureOp_move rfl) ?_
    refine OpsW.pure rfl rfl (pureOp_move rfl) ?_
    refine OpsW.pure rfl rfl (opN_indexSl1 Try.underlying46 Try.sizeOf5 rfl (by assumption) rfl (by simp [hdl1]; omega)) ?_
    refine OpsW.load rfl rfl (loadOp_elem (u := bV ((divN i l1).getD (i) 0)) sc5 rfl (by first | exact Rd.ro (by assumption) | exact Rd.of_sl (by repeat (first | exact List.Mem.head _ | apply List.Mem.tail)) (by assumption)) (get_map (by omega))) ?_
    refine OpsW.pure rfl rfl (op8_eql (b := 1) rfl rfl) ?_
    refine OpsW.nil ?_
    refine AWp.forget ?_ (sub_put (i := 3) rfl (sub_put (i := 5) rfl (sub_put (i := 6) rfl (sub_put (i := 31) rfl (sub_put (i := 38) rfl (sub_nil))))))
    refine AWp.condP rfl (fun ht38 => ?_) (fun ht38 => ?_)
    · skip
      refine AWp.seq ?_
      refine AWp.region ?_
      refine OpsW.pure rfl rfl (pureOp_assign rfl) ?_
      refine OpsW.nil ?_
      refine AWp.forget ?_ (sub_put (i := 3) rfl (sub_put (i := 5) rfl (sub_put (i := 6) rfl (sub_put (i := 7) rfl (sub_put (i := 31) rfl (sub_put (i := 38) rfl (sub_nil)))))))
      refine AWp.block ?_
      refine AWp.forget ?_ (sub_put (i := 3) rfl (sub_put (i := 5) rfl (sub_put (i := 6) rfl (sub_put (i := 7) rfl (sub_nil)))))
      refine AWp.loop (fun N m' T' L' => ∃ k : Nat, N = 33 - k ∧ k ≤ 33 ∧ m' = m ∧ T' = put (put (put (put (tnil) 7 (iV k)) 6 (iV i)) 5 (v26)) 3 (v13) ∧ L' = [.sl v13 1 ((xorN i k (divN i l1)).map bV), .sl v26 1 (polyL.map bV)]) _ (⟨0, rfl, Nat.zero_le _, rfl, rfl, rfl⟩) ?_
      rintro _ m _ _ ⟨k, rfl, hk, rfl, rfl, rfl⟩
      have h13x : slOk v13 1 ((xorN i k (divN i l1)).map bV) := slOk_same h13 (by simp [xorN_length, divN_length])
      have hxl : (xorN i k (divN i l1)).length = 8 * d.length + 32 := by rw [xorN_length, hdl1]
      refine AWp.seq ?_
      refine AWp.seq ?_
      refine AWp.region ?_
      refine OpsW.pure rfl rfl (pureOp_move rfl) ?_
      refine OpsW.pure rfl rfl (opN_lss (b := 33) rfl rfl) ?_
      refine OpsW.nil ?_
      refine AWp.forget ?_ (sub_put (i := 3) rfl (sub_put (i := 5) rfl (sub_put (i := 6) rfl (sub_put (i := 7) rfl (sub_put (i := 40) rfl (sub_nil))))))
      refine AWp.condP rfl (fun ht40 => ?_) (fun ht40 => ?_)
      refine AWp.skip ?_
      refine AWp.seq ?_
      refine AWp.block ?_
      refine AWp.draw [(0, .pure), (1, .pure), (2, .pure), (3, .pure), (4, .pure), (5, .pure), (6, .pure), (7, .pure), (8, .pure), (9, .load), (10, .pure), (11, .pure), (12, .pure), (13, .load), (14, .pure), (15, .pure), (16, .wr)] rfl (by decide +kernel) (fun _ _ _ p h => AWp.perm h p.symm) ?_
      refine ⟨_, _, rfl, OpStep.pure rfl rfl (pureOp_move rfl), ?_⟩
      rintro _ _ ⟨rfl, rfl⟩ -
      refine ⟨_, _, rfl, OpStep.pure rfl rfl (pureOp_move rfl), ?_⟩
      rintro _ _ ⟨rfl, rfl⟩ -
      refine ⟨_, _, rfl, OpStep.pure rfl rfl (pureOp_move rfl), ?_⟩
      rintro _ _ ⟨rfl, rfl⟩ -
      refine ⟨_, _, rfl, OpStep.pure rfl rfl (opN_add rfl rfl (by omega)), ?_⟩
      rintro _ _ ⟨rfl, rfl⟩ -
      refine ⟨_, _, rfl, OpStep.pure rfl rfl (pureOp_move rfl), ?_⟩
      rintro _ _ ⟨rfl, rfl⟩ -
      refine ⟨_, _, rfl, OpStep.pure rfl rfl (pureOp_move rfl), ?_⟩
      rintro _ _ ⟨rfl, rfl⟩ -
      refine ⟨_, _, rfl, OpStep.pure rfl rfl (pureOp_move rfl), ?_⟩
      rintro _ _ ⟨rfl, rfl⟩ -
      refine ⟨_, _, rfl, OpStep.pure rfl rfl (opN_add rfl rfl (by omega)), ?_⟩
      rintro _ _ ⟨rfl, rfl⟩ -
      refine ⟨_, _, rfl, OpStep.pure rfl rfl (opN_indexSl1 Try.underlying46 Try.sizeOf5 rfl (by assumption) rfl (by simp [hxl]; omega)), ?_⟩
      rintro _ _ ⟨rfl, rfl⟩ -
      refine ⟨_, _, rfl, OpStep.load rfl rfl (loadOp_elem (u := bV ((xorN i k (divN i l1)).getD (i + k) 0)) sc5 rfl (by first | exact Rd.ro (by assumption) | exact Rd.of_sl (by repeat (first | exact List.Mem.head _ | apply List.Mem.tail)) (by assumption)) (get_map (by omega))), ?_⟩
      rintro _ _ ⟨rfl, rfl⟩ -
      refine ⟨_, _, rfl, OpStep.pure rfl rfl (pureOp_move rfl), ?_⟩
      rintro _ _ ⟨rfl, rfl⟩ -
      refine ⟨_, _, rfl, OpStep.pure rfl rfl (pureOp_move rfl), ?_⟩
      rintro _ _ ⟨rfl, rfl⟩ -
      refine ⟨_, _, rfl, OpStep.pure rfl rfl (opN_indexSl1 Try.underlying46 Try.sizeOf5 rfl (by assumption) rfl (by simp [polyL]; omega)), ?_⟩
      rintro _ _ ⟨rfl, rfl⟩ -
      refine ⟨_, _, rfl, OpStep.load rfl rfl (loadOp_elem (u := bV ((polyL).getD (k) 0)) sc5 rfl (by first | exact Rd.ro (by assumption) | exact Rd.of_sl (by repeat (first | exact List.Mem.head _ | apply List.Mem.tail)) (by assumption)) (get_map (by simp [polyL]; omega))), ?_⟩
      rintro _ _ ⟨rfl, rfl⟩ -
      refine ⟨_, _, rfl, OpStep.pure rfl rfl (op8_xor rfl rfl), ?_⟩
      rintro _ _ ⟨rfl, rfl⟩ -
      refine ⟨_, _, rfl, OpStep.pure rfl rfl (opN_indexSl1 Try.underlying46 Try.sizeOf5 rfl (by assumption) rfl (by simp [hxl]; omega)), ?_⟩
      rintro _ _ ⟨rfl, rfl⟩ -
      refine ⟨_, _, rfl, OpStep.wr rfl rfl (toWp (by repeat (first | exact Pos.here | apply Pos.there)) (lop_storeElem Try.sizeOf5 rfl rfl rfl (by decide) (by simp [hxl]; omega) (by simp [Value.cells, one]))), ?_⟩
      rintro _ _ ⟨_, ⟨_, ⟨rfl, rfl⟩, rfl⟩, rfl⟩ -
      rw [seg_set (by omega)]
      refine AWp.forget ?_ (sub_put (i := 3) rfl (sub_put (i := 5) rfl (sub_put (i := 6) rfl (sub_put (i := 7) rfl (sub_put (i := 40) rfl (sub_nil))))))
      refine AWp.region ?_
      refine OpsW.pure rfl rfl (pureOp_move rfl) ?_
      refine OpsW.pure rfl rfl (opN_add (b := 1) rfl rfl (by omega)) ?_
      refine OpsW.pure rfl rfl (pureOp_assign rfl) ?_
      refine OpsW.forget ?_ (sub_put (i := 3) rfl (sub_put (i := 5) rfl (sub_put (i := 6) rfl (sub_put (i := 7) rfl (sub_nil)))))
      refine OpsW.keep (L' := [.sl v13 1 _, .sl v26 1 _]) (by repeat (first | exact Sel.nil | (apply Sel.cons; (repeat (first | exact Ext.here | apply Ext.there))))) ?_
      refine OpsW.nil ?_
      exact ⟨_, by omega, k + 1, rfl, by omega, rfl, rfl, rfl⟩
      obtain rfl : k = 33 := by omega
      refine AWp.exit (exit_here ?_)
      refine ⟨_, [.sl v13 1 _, .sl v26 1 _], _, sub_put (i := 3) rfl (sub_put (i := 5) rfl (sub_put (i := 6) rfl (sub_nil))), Sel.perm (by repeat (first | exact Sel.nil | (apply Sel.cons; (repeat (first | exact Ext.here | apply Ext.there))))), ?_⟩
      exact ⟨rfl, rfl, by rw [divN, if_pos ht38]⟩
    · skip
      refine AWp.skip ?_
      refine ⟨_, [.sl v13 1 _, .sl v26 1 _], _, sub_put (i := 3) rfl (sub_put (i := 5) rfl (sub_put (i := 6) rfl (sub_nil))), Sel.perm (by repeat (first | exact Sel.nil | (apply Sel.cons; (repeat (first | exact Ext.here | apply Ext.there))))), ?_⟩
      exact ⟨rfl, rfl, by rw [divN, if_neg ht38]⟩
  rintro m _ _ ⟨rfl, rfl, rfl⟩
  refine AWp.region ?_
  refine OpsW.pure rfl rfl (pureOp_move rfl) ?_
  refine OpsW.pure rfl rfl (opN_add (b := 1) rfl rfl (by omega)) ?_
  refine OpsW.pure rfl rfl (pureOp_assign rfl) ?_
  refine OpsW.forget ?_ (sub_put (i := 3) rfl (sub_put (i := 5) rfl (sub_put (i := 6) rfl (sub_nil))))
  refine OpsW.keep (L' := [.sl v13 1 _, .sl v26 1 _]) (by repeat (first | exact Sel.nil | (apply Sel.cons; (repeat (first | exact Ext.here | apply Ext.there))))) ?_
  refine OpsW.nil ?_
  exact ⟨_, by omega, i + 1, rfl, by omega, rfl, rfl, rfl⟩
  obtain rfl : i = 8 * d.length := by omega
  refine AWp.exit (exit_here ?_)
  refine AWp.seq ?_
  refine AWp.region ?_
  refine OpsW.pure rfl rfl (pureOp_assign rfl) ?_
  refine OpsW.nil ?_
  refine AWp.forget ?_ (sub_put (i := 3) rfl (sub_put (i := 5) rfl (sub_put (i := 6) rfl (sub_put (i := 8) rfl (sub_put (i := 31) rfl (sub_nil))))))
  refine AWp.seq ?_
  refine AWp.region ?_
  refine OpsW.pure rfl rfl (pureOp_move rfl) ?_
  refine OpsW.pure rfl rfl (opN_len1 (8 * d.length + 32) Try.underlying46 rfl (by assumption) (by simp [hdl1])) ?_
  refine OpsW.pure rfl rfl (opN_sub (b := 32) rfl rfl (by omega)) ?_
  rw [Nat.add_sub_cancel]
  refine OpsW.pure rfl rfl (pureOp_assign rfl) ?_
  refine OpsW.nil ?_
  refine AWp.forget ?_ (sub_put (i := 3) rfl (sub_put (i := 5) rfl (sub_put (i := 6) rfl (sub_put (i := 8) rfl (sub_put (i := 9) rfl (sub_put (i := 31) rfl (sub_nil)))))))
  refine AWp.seq ?_
  refine AWp.seq ?_
  refine AWp.region ?_
  refine OpsW.pure rfl rfl (pureOp_assign rfl) ?_
  refine OpsW.nil ?_
  refine AWp.forget ?_ (sub_put (i := 3) rfl (sub_put (i := 5) rfl (sub_put (i := 6) rfl (sub_put (i := 8) rfl (sub_put (i := 9) rfl (sub_put (i := 10) rfl (sub_put (i := 31) rfl (sub_nil))))))))
  refine AWp.block ?_
  refine AWp.forget ?_ (sub_put (i := 3) rfl (sub_put (i := 8) rfl (sub_put (i := 9) rfl (sub_put (i := 10) rfl (sub_nil)))))
  refine AWp.keep (L' := [.sl v13 1 _]) (by repeat (first | exact Sel.nil | (apply Sel.cons; (repeat (first | exact Ext.here | apply Ext.there))))) ?_
  refine AWp.loop (fun N m' T' L' => ∃ k : Nat, N = 32 - k ∧ k ≤ 32 ∧ m' = m ∧ T' = put (put (put (put (tnil) 10 (iV k)) 9 (iV (8 * d.length))) 8 (wV (sumN (8 * d.length) (divN (8 * d.length) l1) k))) 3 (v13) ∧ L' = [.sl v13 1 ((divN (8 * d.length) l1).map bV)]) _ (⟨0, rfl, Nat.zero_le _, rfl, rfl, rfl⟩) ?_
  rintro _ m _ _ ⟨k, rfl, hk, rfl, rfl, rfl⟩
  refine AWp.seq ?_
  refine AWp.seq ?_
  refine AWp.region ?_
  refine OpsW.pure rfl rfl (pureOp_move rfl) ?_
  refine OpsW.pure rfl rfl (opN_lss (b := 32) rfl rfl) ?_
  refine OpsW.nil ?_
  refine AWp.forget ?_ (sub_put (i := 3) rfl (sub_put (i := 8) rfl (sub_put (i := 9) rfl (sub_put (i := 10) rfl (sub_put (i := 63) rfl (sub_nil))))))
  refine AWp.condP rfl (fun ht63 => ?_) (fun ht63 => ?_)
  refine AWp.skip ?_
  refine AWp.seq ?_
  refine AWp.block ?_
  refine AWp.region ?_
  refine OpsW.pure rfl rfl (pureOp_move rfl) ?_
  refine OpsW.pure rfl rfl (pureOp_move rfl) ?_
  refine OpsW.pure rfl rfl (pureOp_move rfl) ?_
  refine OpsW.pure rfl rfl (pureOp_move rfl) ?_
  refine OpsW.pure rfl rfl (opN_add rfl rfl (by omega)) ?_
  refine OpsW.pure rfl rfl (opN_indexSl1 Try.underlying46 Try.sizeOf5 rfl (by assumption) rfl (by simp [hdl1]; omega)) ?_
  refine OpsW.load rfl rfl (loadOp_elem (u := bV ((divN (8 * d.length) l1).getD (8 * d.length + k) 0)) sc5 rfl (by first | exact Rd.ro (by assumption) | exact Rd.of_sl (by repeat (first | exact List.Mem.head _ | apply List.Mem.tail)) (by assumption)) (get_map (by omega))) ?_
  refine OpsW.pure rfl rfl (op8_sub (a := 1) rfl rfl) ?_
  refine OpsW.pure rfl rfl (op_conv8_32 Try.underlying5 Try.underlying43 rfl) ?_
  refine OpsW.pure rfl rfl (pureOp_move rfl) ?_
  refine OpsW.pure rfl rfl (op_convI_uint (k := .i64) Try.underlying3 Try.underlying44 rfl (by omega)) ?_
  refine OpsW.pure rfl rfl (op32_shl (n := k) rfl rfl) ?_
  refine OpsW.pure rfl rfl (op32_or rfl rfl) ?_
  refine OpsW.pure rfl rfl (pureOp_assign rfl) ?_
  refine OpsW.nil ?_
  refine AWp.forget ?_ (sub_put (i := 3) rfl (sub_put (i := 8) rfl (sub_put (i := 9) rfl (sub_put (i := 10) rfl (sub_put (i := 63) rfl (sub_nil))))))
  refine AWp.region ?_
  refine OpsW.pure rfl rfl (pureOp_move rfl) ?_
  refine OpsW.pure rfl rfl (opN_add (b := 1) rfl rfl (by omega)) ?_
  refine OpsW.pure rfl rfl (pureOp_assign rfl) ?_
  refine OpsW.forget ?_ (sub_put (i := 3) rfl (sub_put (i := 8) rfl (sub_put (i := 9) rfl (sub_put (i := 10) rfl (sub_nil)))))
  refine OpsW.keep (L' := [.sl v13 1 _]) (by repeat (first | exact Sel.nil | (apply Sel.cons; (repeat (first | exact Ext.here | apply Ext.there))))) ?_
  refine OpsW.nil ?_
  exact ⟨_, by omega, k + 1, rfl, by omega, rfl, rfl, rfl⟩
  obtain rfl : k = 32 := by omega
  refine AWp.exit (exit_here ?_)
  refine AWp.seq ?_
  refine AWp.region ?_
  refine OpsW.pure rfl rfl (pureOp_move rfl) ?_
  refine OpsW.pure rfl rfl (pureOp_assign rfl) ?_
  refine OpsW.nil ?_
  refine AWp.forget ?_ (sub_put (i := 2) rfl (sub_put (i := 3) rfl (sub_put (i := 8) rfl (sub_put (i := 9) rfl (sub_put (i := 10) rfl (sub_put (i := 63) rfl (sub_nil)))))))
  refine AWp.ret ?_
  exact ⟨_, [], _, permNone, res_tmp rfl rfl, by rw [← crc2F_eq, crc2F, ← hl0, ← hl1], rfl⟩

set_option maxRecDepth 20000 in
set_option maxHeartbeats 2000000 in
theorem sealed08_c (v : Value) (d : List UInt8) (m : Mem) (hv : Rd m v 1 (d.map bV)) (hdl : d.length ≤ 252) :
    Ctr Try.prog 74 [v] m [] (fun _ r L => r = .agg ((secF d).map bV).toArray ∧ L = []) := by
  have ho := hv.1
  refine Ctr.intro Try.func74 rfl Try.ntmps74 (by simp) fun w0 => ?_
  refine AWp.forget ?_ (sub_put (i := 0) rfl (sub_nil))
  refine AWp.seq ?_
  refine AWp.region ?_
  refine OpsW.alloc rfl rfl (allocOp_alloc zt24) ?_
  rintro _ _ ⟨b2, rfl, rfl⟩
  refine OpsW.nil ?_
  refine AWp.forget ?_ (sub_put (i := 0) rfl (sub_put (i := 2) rfl (sub_nil)))
  refine AWp.seq ?_
  refine AWp.region ?_
  refine OpsW.pure rfl rfl (pureOp_assign rfl) ?_
  refine OpsW.nil ?_
  refine AWp.forget ?_ (sub_put (i := 0) rfl (sub_put (i := 2) rfl (sub_put (i := 3) rfl (sub_nil))))
  refine AWp.seq ?_
  refine AWp.nilChunk 1 ?_
  refine AWp.region ?_
  refine OpsW.pure rfl rfl (pureOp_move rfl) ?_
  refine OpsW.pure rfl rfl (pureOp_move rfl) ?_
  refine OpsW.upd rfl rfl (by repeat (first | exact Pos.here | apply Pos.there)) (lop_append (k := _) slt46 ni46 rfl rfl (Nat.mul_one _).symm (src_rd (n := _) (by first | exact Rd.ro (by assumption) | exact Rd.of_sl (by repeat (first | exact List.Mem.head _ | apply List.Mem.tail)) (by assumption)) (Nat.mul_one _).symm (by decide)) (by simp; omega) (by first | exact one_map (fun _ => rfl) _ | exact one_rfl rfl | exact one_sup _ | (simp [one, *]; done)) (by decide) (by decide)) ?_
  rintro v8 _ ⟨hv8, rfl⟩
  rw [List.nil_append] at hv8 ⊢
  refine OpsW.pure rfl rfl (pureOp_assign rfl) ?_
  refine OpsW.nil ?_
  refine AWp.forget ?_ (sub_put (i := 0) rfl (sub_put (i := 2) rfl (sub_put (i := 3) rfl (sub_nil))))
  refine AWp.seq ?_
  refine AWp.block ?_
  refine AWp.forget ?_ (sub_put (i := 2) rfl (sub_put (i := 3) rfl (sub_nil)))
  refine AWp.loop (fun N m' T' L' => ∃ (k : Nat) (vv : Value), N = 252 - d.length - k ∧ k ≤ 252 - d.length ∧ slOk vv 1 ((d ++ List.replicate k 0).map bV) ∧ m' = m ∧ T' = put (put (tnil) 3 (vv)) 2 (.pointer (some ⟨b2, 0, none⟩)) ∧ L' = [.sl vv 1 ((d ++ List.replicate k 0).map bV), .obj b2 (List.replicate 256 (.int .u8 0))]) _ (⟨0, v8, rfl, Nat.zero_le _, by simpa using hv8, rfl, rfl, by simp⟩) ?_
  rintro _ m _ _ ⟨k, vv, rfl, hk, hvv, rfl, rfl, rfl⟩
  refine AWp.seq ?_
  refine AWp.seq ?_
  refine AWp.region ?_
  refine OpsW.pure rfl rfl (pureOp_move rfl) ?_
  refine OpsW.pure rfl rfl (opN_len1 (d.length + k) Try.underlying46 rfl (by assumption) (by simp)) ?_
  refine OpsW.pure rfl rfl (opN_lss (b := 252) rfl rfl) ?_
  refine OpsW.nil ?_
  refine AWp.forget ?_ (sub_put (i := 2) rfl (sub_put (i := 3) rfl (sub_put (i := 11) rfl (sub_nil))))
  refine AWp.condP rfl (fun ht11 => ?_) (fun ht11 => ?_)
  refine AWp.skip ?_
  refine AWp.block ?_
  refine AWp.region ?_
  refine OpsW.pure rfl rfl (pureOp_move rfl) ?_
  refine OpsW.alloc rfl rfl (allocOp_buildSlice slt46 rfl rfl (by first | exact cells_rfl rfl | simp [Value.cells]) (by decide)) ?_
  rintro v13 _ ⟨hv13, hn13, rfl⟩
  rw [show List.flatMap (fun x : Value => x.cells.toList) [.int .u8 0] = [(0 : UInt8)].map bV from rfl] at hv13 ⊢
  refine OpsW.upd rfl rfl (by repeat (first | exact Pos.here | apply Pos.there)) (lop_append (k := _) slt46 ni46 rfl rfl (Nat.mul_one _).symm (src_rd (n := _) (by first | exact Rd.ro (by assumption) | exact Rd.of_sl (by repeat (first | exact List.Mem.head _ | apply List.Mem.tail)) (by assumption)) (Nat.mul_one _).symm (by decide)) (by simp; omega) (by first | exact one_map (fun _ => rfl) _ | exact one_rfl rfl | exact one_sup _ | (simp [one, *]; done)) (by decide) (by decide)) ?_
  rintro v14 _ ⟨hv14, rfl⟩
  rw [← List.map_append, List.append_assoc, ← List.replicate_succ'] at hv14 ⊢
  refine OpsW.pure rfl rfl (pureOp_assign rfl) ?_
  refine OpsW.forget ?_ (sub_put (i := 2) rfl (sub_put (i := 3) rfl (sub_nil)))
  refine OpsW.keep (L' := [.sl v14 1 _, .obj b2 _]) (by repeat (first | exact Sel.nil | (apply Sel.cons; (repeat (first | exact Ext.here | apply Ext.there))))) ?_
  refine OpsW.nil ?_
  exact ⟨_, by omega, k + 1, v14, rfl, by omega, hv14, rfl, rfl, rfl⟩
  obtain rfl : k = 252 - d.length := by omega
  rw [show d ++ List.replicate (252 - d.length) 0 = padF d from rfl] at hvv ⊢
  have hpl := padF_length hdl
  refine AWp.exit (exit_here ?_)
  refine AWp.seq ?_
  refine AWp.region ?_
  refine OpsW.pure rfl rfl (pureOp_move rfl) ?_
  refine OpsW.pure rfl rfl (pureOp_move rfl) ?_
  refine OpsW.callA rfl rfl (callOp Try.call116 rfl) permNone (crc02_c vv (padF d) _ (Rd.of_sl (by repeat (first | exact List.Mem.head _ | apply List.Mem.tail)) hvv) (by omega)) ?_
  rintro _ _ ⟨rfl, rfl⟩
  refine OpsW.pure rfl rfl (op_conv32_64 Try.underlying43 Try.underlying122 rfl) ?_
  refine OpsW.callA rfl rfl (callOp Try.call73 rfl) permNone (put01_c (crcF (padF d)).toUInt64 4 _ (by decide)) ?_
  rintro v19 _ ⟨hv19, rfl⟩
  rw [four_put] at hv19 ⊢
  refine OpsW.upd rfl rfl (by repeat (first | exact Pos.here | apply Pos.there)) (lop_append (k := _) slt46 ni46 rfl rfl (Nat.mul_one _).symm (src_rd (n := _) (by first | exact Rd.ro (by assumption) | exact Rd.of_sl (by repeat (first | exact List.Mem.head _ | apply List.Mem.tail)) (by assumption)) (Nat.mul_one _).symm (by decide)) (by simp [hpl, fourF_length]) (by first | exact one_map (fun _ => rfl) _ | exact one_rfl rfl | exact one_sup _ | (simp [one, *]; done)) (by decide) (by decide)) ?_
  rintro v20 _ ⟨hv20, rfl⟩
  rw [← List.map_append, show padF d ++ fourF (crcF (padF d)) = secF d from rfl] at hv20 ⊢
  have hsl := secF_length hdl
  refine OpsW.pure rfl rfl (pureOp_assign rfl) ?_
  refine OpsW.nil ?_
  refine AWp.forget ?_ (sub_put (i := 2) rfl (sub_put (i := 3) rfl (sub_put (i := 11) rfl (sub_nil))))
  refine AWp.seq ?_
  refine AWp.region ?_
  refine OpsW.alloc rfl rfl (allocOp_alloc zt24) ?_
  rintro _ _ ⟨b4, rfl, rfl⟩
  refine OpsW.nil ?_
  refine AWp.forget ?_ (sub_put (i := 2) rfl (sub_put (i := 3) rfl (sub_put (i := 4) rfl (sub_put (i := 11) rfl (sub_nil)))))
  refine AWp.seq ?_
  refine AWp.seq ?_
  refine AWp.region ?_
  refine OpsW.pure rfl rfl (pureOp_assign rfl) ?_
  refine OpsW.nil ?_
  refine AWp.forget ?_ (sub_put (i := 2) rfl (sub_put (i := 3) rfl (sub_put (i := 4) rfl (sub_put (i := 5) rfl (sub_put (i := 11) rfl (sub_nil))))))
  refine AWp.block ?_
  refine AWp.forget ?_ (sub_put (i := 2) rfl (sub_put (i := 3) rfl (sub_put (i := 4) rfl (sub_put (i := 5) rfl (sub_nil)))))
  refine AWp.keep (L' := [.obj b4 _, .sl v20 1 _, .obj b2 _]) (by repeat (first | exact Sel.nil | (apply Sel.cons; (repeat (first | exact Ext.here | apply Ext.there))))) ?_
  refine AWp.loop (fun N m' T' L' => ∃ k : Nat, N = 256 - k ∧ k ≤ 256 ∧ m' = m ∧ T' = put (put (put (put (tnil) 5 (iV k)) 4 (.pointer (some ⟨b4, 0, none⟩))) 3 (v20)) 2 (.pointer (some ⟨b2, 0, none⟩)) ∧ L' = [.obj b4 (((secF d).take k).map bV ++ List.replicate (256 - k) (.int .u8 0)), .sl v20 1 ((secF d).map bV), .obj b2 (List.replicate 256 (.int .u8 0))]) _ (⟨0, rfl, Nat.zero_le _, rfl, rfl, by simp⟩) ?_
  rintro _ m _ _ ⟨k, rfl, hk, rfl, rfl, rfl⟩
  refine AWp.seq ?_
  refine AWp.seq ?_
  refine AWp.region ?_
  refine OpsW.pure rfl rfl (pureOp_move rfl) ?_
  refine OpsW.pure rfl rfl (opN_lss (b := 256) rfl rfl) ?_
  refine OpsW.nil ?_
  refine AWp.forget ?_ (sub_put (i := 2) rfl (sub_put (i := 3) rfl (sub_put (i := 4) rfl (sub_put (i := 5) rfl (sub_put (i := 22) rfl (sub_nil))))))
  refine AWp.condP rfl (fun ht22 => ?_) (fun ht22 => ?_)
  refine AWp.skip ?_
  refine AWp.seq ?_
  refine AWp.block ?_
  refine AWp.region ?_
  refine OpsW.pure rfl rfl (pureOp_move rfl) ?_
  refine OpsW.pure rfl rfl (pureOp_move rfl) ?_
  refine OpsW.pure rfl rfl (pureOp_move rfl) ?_
  refine OpsW.pure rfl rfl (opN_indexSl1 Try.underlying46 Try.sizeOf5 rfl (by assumption) rfl (by simp [hsl]; omega)) ?_
  refine OpsW.load rfl rfl (loadOp_elem (u := bV ((secF d).getD (k) 0)) sc5 rfl (by first | exact Rd.ro (by assumption) | exact Rd.of_sl (by repeat (first | exact List.Mem.head _ | apply List.Mem.tail)) (by assumption)) (get_map (by omega))) ?_
  refine OpsW.pure rfl rfl (opN_indexArr0 arr24 rfl rfl (by omega)) ?_
  refine OpsW.upd rfl rfl (by repeat (first | exact Pos.here | apply Pos.there)) (lop_store1 Try.sizeOf5 rfl rfl rfl (by simp [hsl]; omega)) ?_
  rintro _ _ ⟨rfl, rfl⟩
  rw [set_take (by omega) (by omega)]
  refine OpsW.nil ?_
  refine AWp.forget ?_ (sub_put (i := 2) rfl (sub_put (i := 3) rfl (sub_put (i := 4) rfl (sub_put (i := 5) rfl (sub_put (i := 22) rfl (sub_nil))))))
  refine AWp.region ?_
  refine OpsW.pure rfl rfl (pureOp_move rfl) ?_
  refine OpsW.pure rfl rfl (opN_add (b := 1) rfl rfl (by omega)) ?_
  refine OpsW.pure rfl rfl (pureOp_assign rfl) ?_
  refine OpsW.forget ?_ (sub_put (i := 2) rfl (sub_put (i := 3) rfl (sub_put (i := 4) rfl (sub_put (i := 5) rfl (sub_nil)))))
  refine OpsW.keep (L' := [.obj b4 _, .sl v20 1 _, .obj b2 _]) (by repeat (first | exact Sel.nil | (apply Sel.cons; (repeat (first | exact Ext.here | apply Ext.there))))) ?_
  refine OpsW.nil ?_
  exact ⟨_, by omega, k + 1, rfl, by omega, rfl, rfl, rfl⟩
  obtain rfl : k = 256 := by omega
  rw [List.take_of_length_le (by omega)]
  refine AWp.exit (exit_here ?_)
  refine AWp.seq ?_
  refine AWp.region ?_
  refine OpsW.load rfl rfl (loadAll rfl (by repeat (first | exact List.Mem.head _ | apply List.Mem.tail)) (by simp [hsl]) ag24) ?_
  refine OpsW.upd rfl rfl (by repeat (first | exact Pos.here | apply Pos.there)) (lop_storeAllN 256 Try.sizeOf24 rfl rfl (by simp) (by simp [hsl]) (by simpa using one_map (f := bV) (fun _ => rfl) _)) ?_
  rintro _ _ ⟨rfl, rfl⟩
  refine OpsW.nil ?_
  refine AWp.forget ?_ (sub_put (i := 2) rfl (sub_put (i := 3) rfl (sub_put (i := 4) rfl (sub_put (i := 5) rfl (sub_put (i := 22) rfl (sub_nil))))))
  refine AWp.ret ?_
  exact ⟨_, [], _, permNone, resCell rfl rfl (by repeat (first | exact List.Mem.head _ | apply List.Mem.tail)) (by simp [hsl]) ag24, by simp, rfl⟩

end Go.Proofs.Ytpnipajadjeifaa.Sep
