/- The walk of RingDoes. -/
import Derived.Test.YtpnipajadjeifaaRing10
import Derived.Test.YtpnipajadjeifaaRingJ
import Derived.Test.YtpnipajadjeifaaProg
namespace Go.Proofs.Ytpnipajadjeifaa.Sep
open Go Go.RowKit
set_option linter.unusedVariables false
set_option linter.unusedSimpArgs false
theorem fa72_2 : FieldAt Try.prog 72 2 2 := by
  intro b o w
  simp [Instr.fieldAt, Try.runUnderlying72, fieldPlace, Instr.sureAddr, Try.sizeOf5, add_mk]
theorem fa72_0 : FieldAt Try.prog 72 0 0 := by
  intro b o w
  simp [Instr.fieldAt, Try.runUnderlying72, fieldPlace, Instr.sureAddr, Try.sizeOf3, add_mk]


set_option maxRecDepth 20000 in
set_option maxHeartbeats 8000000 in
theorem rdoes_c (sb : UInt8) (av : Value) (l : List Act36) (m : Mem) (hl : ActsOk m av l) :
    Ctr Try.prog 7 [bV sb, av] m [] (fun _ r L => r = .bool true ∧ L = []) := by
  have ho := hl.rd.1
  have hrd := hl.rd
  have hsb := sb.toNat_lt
  refine Ctr.intro Try.func7 rfl Try.ntmps7 (by simp) fun w0 => ?_
  refine AWp.forget ?_ (sub_put (i := 0) rfl (sub_put (i := 1) rfl (sub_nil)))
  refine AWp.seq ?_
  refine AWp.region ?_
  refine OpsW.pure rfl rfl (pureOp_assign rfl) ?_
  refine OpsW.nil ?_
  refine AWp.forget ?_ (sub_put (i := 0) rfl (sub_put (i := 1) rfl (sub_put (i := 4) rfl (sub_nil))))
  refine AWp.seq ?_
  refine AWp.seq ?_
  refine AWp.region ?_
  refine OpsW.pure rfl rfl (pureOp_move rfl) ?_
  refine OpsW.callA rfl rfl (callOp Try.call34 rfl) permNone (light36_c av l _ hl.ro) ?_
  rintro _ _ ⟨rfl, rfl⟩
  obtain ⟨li, hli⟩ : ∃ x, x = lightB l := ⟨_, rfl⟩
  rw [← hli]
  refine OpsW.pure rfl rfl (pureOp_not rfl) ?_
  refine OpsW.nil ?_
  refine AWp.forget ?_ (sub_put (i := 0) rfl (sub_put (i := 1) rfl (sub_put (i := 4) rfl (sub_put (i := 25) rfl (sub_nil)))))
  refine AWp.cond rfl (fun ht25 => ?_) (fun ht25 => ?_)
  · skip
    refine AWp.seq ?_
    refine AWp.region ?_
    refine OpsW.callA rfl rfl (callOp Try.call28 rfl) permNone (works36_c _) ?_
    rintro _ _ ⟨rfl, rfl⟩
    refine OpsW.pure rfl rfl (pureOp_assign rfl) ?_
    refine OpsW.nil ?_
    refine AWp.forget ?_ (sub_put (i := 0) rfl (sub_put (i := 1) rfl (sub_put (i := 4) rfl (sub_put (i := 25) rfl (sub_nil)))))
    refine AWp.ret ?_
    exact ⟨_, [], _, permNone, res_tmp rfl rfl, rfl, rfl⟩
  refine AWp.skip ?_
  refine AWp.seq ?_
  have hlight : lightB l = true := by
    rw [← hli]
    cases li with
    | true => rfl
    | false => cases ht25
  obtain ⟨hl60, hlb⟩ := light_get hlight
  refine AWp.region ?_
  refine OpsW.pure rfl rfl (pureOp_move rfl) ?_
  refine OpsW.pure rfl rfl (op_conv8_I Try.underlying5 Try.underlying3 rfl) ?_
  refine OpsW.pure rfl rfl (opN_rem (b := 8) rfl rfl (by omega) (by omega)) ?_
  refine OpsW.pure rfl rfl (opN_add (a := 2) rfl rfl (by omega)) ?_
  obtain ⟨sz, hsz⟩ : ∃ sz, sz = 2 + sb.toNat % 8 := ⟨_, rfl⟩
  have hsz2 : 2 ≤ sz ∧ sz ≤ 9 := by omega
  rw [← hsz]
  refine OpsW.pure rfl rfl (pureOp_assign rfl) ?_
  refine OpsW.nil ?_
  refine AWp.forget ?_ (sub_put (i := 0) rfl (sub_put (i := 1) rfl (sub_put (i := 4) rfl (sub_put (i := 5) rfl (sub_put (i := 25) rfl (sub_nil))))))
  refine AWp.seq ?_
  refine AWp.region ?_
  refine OpsW.pure rfl rfl (pureOp_move rfl) ?_
  refine OpsW.pure rfl rfl (opN_add (b := 3) rfl rfl (by omega)) ?_
  refine OpsW.callA rfl rfl (callOp Try.call21 rfl) permNone (dnew_c (sz + 3) _ (by omega)) ?_
  rintro _ _ (⟨h1, _⟩ | ⟨_, b, lv, mb0, rfl, hI0, rfl⟩)
  · omega
  obtain ⟨wv0, hwv⟩ : ∃ wv, wv = Value.slice none 0 0 := ⟨_, rfl⟩
  have hR0 : RI (newF (sz + 3)) 2 sz 0 0 [] := .new (by omega) hsz2.1 (by omega) (by omega)
  obtain ⟨D0, hD0⟩ : ∃ D0, D0 = newF (sz + 3) := ⟨_, rfl⟩
  have hlen0 : D0.last.length = sz + 3 := by rw [hD0, new_len]
  rw [← hwv, ← hD0] at hI0 ⊢
  rw [← hD0] at hR0
  refine OpsW.pure rfl rfl (pureOp_move rfl) ?_
  refine OpsW.pure rfl rfl (pureOp_extract rfl rfl) ?_
  refine OpsW.pure rfl rfl (pureOp_extract rfl rfl) ?_
  refine OpsW.pure rfl rfl (pureOp_assign rfl) ?_
  refine OpsW.pure rfl rfl (pureOp_assign rfl) ?_
  refine OpsW.nil ?_
  refine AWp.forget ?_ (sub_put (i := 0) rfl (sub_put (i := 1) rfl (sub_put (i := 4) rfl (sub_put (i := 5) rfl (sub_put (i := 6) rfl (sub_put (i := 7) rfl (sub_put (i := 25) rfl (sub_nil))))))))
  refine AWp.seq ?_
  refine AWp.seq ?_
  refine AWp.region ?_
  refine OpsW.pure rfl rfl (pureOp_move rfl) ?_
  refine OpsW.pure rfl rfl (opP_isNil Try.underlying48 rfl) ?_
  refine OpsW.knowB (d := 38) (b := false) rfl ?_
  refine OpsW.pure rfl rfl (pureOp_move rfl) ?_
  refine OpsW.pure rfl rfl (pureOp_move rfl) ?_
  refine OpsW.pure rfl rfl (opN_neq (b := 0) rfl rfl) ?_
  refine OpsW.knowB (d := 41) (b := false) (by show some (Value.bool (decide _)) = _; rw [decide_eq_false (fun h => h rfl)]) ?_
  refine OpsW.pure rfl rfl (pureOp_pick_false rfl rfl) ?_
  refine OpsW.nil ?_
  refine AWp.forget ?_ (sub_put (i := 0) rfl (sub_put (i := 1) rfl (sub_put (i := 4) rfl (sub_put (i := 5) rfl (sub_put (i := 6) rfl (sub_put (i := 7) rfl (sub_put (i := 25) rfl (sub_put (i := 42) rfl (sub_nil)))))))))
  refine AWp.cond_false rfl ?_
  refine AWp.skip ?_
  refine AWp.seq ?_
  refine AWp.region ?_
  refine OpsW.pure rfl rfl (pureOp_move rfl) ?_
  refine OpsW.pure rfl rfl (pureOp_move rfl) ?_
  refine OpsW.callA rfl rfl (callOp Try.call35 rfl) (Sel.perm (L' := [.obj b _, .sl lv 256 _, .sl wv0 257 _, .mp mb0 _]) (by repeat (first | exact Sel.nil | (apply Sel.cons; (repeat (first | exact Ext.here | apply Ext.there)))))) (rnew_c b lv wv0 mb0 D0 2 sz _ hI0 (by omega) (by omega)) ?_
  rintro _ _ (⟨_, rb, rfl, rfl⟩ | ⟨hno, _⟩)
  rotate_left
  · exact absurd ⟨by omega, by omega, by omega⟩ hno
  refine OpsW.pure rfl rfl (pureOp_move rfl) ?_
  refine OpsW.pure rfl rfl (pureOp_extract rfl rfl) ?_
  refine OpsW.pure rfl rfl (pureOp_extract rfl rfl) ?_
  refine OpsW.pure rfl rfl (pureOp_assign rfl) ?_
  refine OpsW.pure rfl rfl (pureOp_assign rfl) ?_
  refine OpsW.nil ?_
  refine AWp.forget ?_ (sub_put (i := 0) rfl (sub_put (i := 1) rfl (sub_put (i := 4) rfl (sub_put (i := 5) rfl (sub_put (i := 6) rfl (sub_put (i := 7) rfl (sub_put (i := 8) rfl (sub_put (i := 9) rfl (sub_put (i := 25) rfl (sub_put (i := 42) rfl (sub_nil)))))))))))
  refine AWp.seq ?_
  refine AWp.seq ?_
  refine AWp.region ?_
  refine OpsW.pure rfl rfl (pureOp_move rfl) ?_
  refine OpsW.pure rfl rfl (opP_isNil Try.underlying65 rfl) ?_
  refine OpsW.knowB (d := 50) (b := false) rfl ?_
  refine OpsW.pure rfl rfl (pureOp_move rfl) ?_
  refine OpsW.pure rfl rfl (pureOp_move rfl) ?_
  refine OpsW.pure rfl rfl (opN_neq (b := 0) rfl rfl) ?_
  refine OpsW.knowB (d := 53) (b := false) (by show some (Value.bool (decide _)) = _; rw [decide_eq_false (fun h => h rfl)]) ?_
  refine OpsW.pure rfl rfl (pureOp_pick_false rfl rfl) ?_
  refine OpsW.nil ?_
  refine AWp.forget ?_ (sub_put (i := 0) rfl (sub_put (i := 1) rfl (sub_put (i := 4) rfl (sub_put (i := 5) rfl (sub_put (i := 6) rfl (sub_put (i := 7) rfl (sub_put (i := 8) rfl (sub_put (i := 9) rfl (sub_put (i := 25) rfl (sub_put (i := 42) rfl (sub_put (i := 54) rfl (sub_nil))))))))))))
  refine AWp.cond_false rfl ?_
  refine AWp.skip ?_
  refine AWp.seq ?_
  refine AWp.region ?_
  refine OpsW.pure rfl rfl (pureOp_move rfl) ?_
  refine OpsW.pure rfl rfl (opBuildStruct st70 rfl (.cons rfl (by first | rfl | (simp [Value.cells, *]; done)) (by first | exact Nat.le_of_ble_eq_true rfl | (simp [segs_length, *]; done)) (.nil))) ?_
  refine OpsW.alloc rfl rfl (allocOp_alloc zt70) ?_
  rintro _ _ ⟨b10, rfl, rfl⟩
  refine OpsW.upd rfl rfl (by repeat (first | exact Pos.here | apply Pos.there)) (lop_storeAllN 3 Try.sizeOf70 rfl rfl (by first | rfl | assumption | (rw [List.length_map]; assumption) | (simp [*]; done) | (simp [*]; omega) | omega) (by rfl) (by first | exact one_map (fun _ => rfl) _ | exact one_rfl rfl | exact one_sup _ | (simp [one, *]; done))) ?_
  rintro _ _ ⟨rfl, rfl⟩
  refine OpsW.nil ?_
  refine AWp.forget ?_ (sub_put (i := 0) rfl (sub_put (i := 1) rfl (sub_put (i := 4) rfl (sub_put (i := 5) rfl (sub_put (i := 6) rfl (sub_put (i := 7) rfl (sub_put (i := 8) rfl (sub_put (i := 9) rfl (sub_put (i := 10) rfl (sub_put (i := 25) rfl (sub_put (i := 42) rfl (sub_put (i := 54) rfl (sub_nil)))))))))))))
  refine AWp.seq ?_
  refine AWp.seq ?_
  refine AWp.fz0 ?_
  refine AWp.keep (L' := [.obj b10 [iV sz, iV 0, .slice none 0 0], .fz _, .obj rb _, .obj b _, .sl lv 256 _, .sl wv0 257 _, .mp mb0 _]) (by repeat (first | exact Sel.nil | (apply Sel.cons; (repeat (first | exact Ext.here | apply Ext.there))))) ?_
  refine AWp.region ?_
  refine OpsW.pure rfl rfl (pureOp_assign rfl) ?_
  refine OpsW.nil ?_
  refine AWp.forget ?_ (sub_put (i := 0) rfl (sub_put (i := 1) rfl (sub_put (i := 4) rfl (sub_put (i := 5) rfl (sub_put (i := 6) rfl (sub_put (i := 7) rfl (sub_put (i := 8) rfl (sub_put (i := 9) rfl (sub_put (i := 10) rfl (sub_put (i := 11) rfl (sub_put (i := 25) rfl (sub_put (i := 42) rfl (sub_put (i := 54) rfl (sub_nil))))))))))))))
  refine AWp.block ?_
  refine AWp.forget ?_ (sub_put (i := 1) rfl (sub_put (i := 5) rfl (sub_put (i := 6) rfl (sub_put (i := 8) rfl (sub_put (i := 10) rfl (sub_put (i := 11) rfl (sub_nil)))))))
  refine AWp.keep (L' := [.obj b10 _, .fz _, .obj rb _, .obj b _, .sl lv 256 _, .sl wv0 257 _, .mp mb0 _]) (by repeat (first | exact Sel.nil | (apply Sel.cons; (repeat (first | exact Ext.here | apply Ext.there))))) ?_
  refine AWp.loop (fun N m' T' L' => ∃ (i tl hd : Nat) (ml : List (List UInt8)) (mv : Value) (mvs : List Value) (μ : Mem) (D : Dk) (wv : Value) (mb : Nat), N = l.length - i ∧ i ≤ l.length ∧ RI D 2 sz tl hd ml ∧ hd ≤ i ∧ Rd (memOf m [.fz μ]) mv 1 mvs ∧ Parts (memOf m [.fz μ]) ml mvs ∧ slOk wv 257 (wrC D.wait) ∧ D.last.length = sz + 3 ∧ m' = m ∧ T' = put (put (put (put (put (put (tnil) 11 (iV i)) 10 (.pointer (some ⟨b10, 0, none⟩))) 8 (.pointer (some ⟨rb, 0, none⟩))) 6 (.pointer (some ⟨b, 0, none⟩))) 5 (iV sz)) 1 (av) ∧ L' = [.obj b10 [iV sz, iV (tl), mv], .fz μ, .obj rb (rgC b 2 sz (tl) (hd)), .obj b [lv, wv, .map (some mb), .int .i64 D.steps, .int .i64 D.fuse, .bool D.down], .sl lv 256 (secC D.last), .sl wv 257 (wrC D.wait), .mp mb (mapC (nowL D.wait))]) _ (⟨0, 0, 0, [], .slice none 0 0, [], _, D0, wv0, mb0, rfl, Nat.zero_le _, hR0, Nat.le_refl _, ⟨.inl ⟨rfl, rfl⟩, fun b off len cap hv => by cases hv⟩, ⟨rfl, fun i hi => absurd hi (Nat.not_lt_zero _)⟩, hI0.hw, hlen0, rfl, rfl, rfl⟩) ?_
  rintro _ m _ _ ⟨i, tl, hd, ml, mv, mvs, μ, D, wv, mb, rfl, hi, hD, hhi, hmv, hmp, hwD, hlD, rfl, rfl, rfl⟩
  have hI1 := hI0.to hD.up.ok (hlD.trans hlen0.symm) hwD
  have hmo := hmv.1
  have hmn := one_sl hmo
  have hlm := hD.s.len
  have hfm := hD.s.full
  refine AWp.seq ?_
  refine AWp.seq ?_
  refine AWp.region ?_
  refine OpsW.pure rfl rfl (pureOp_move rfl) ?_
  refine OpsW.pure rfl rfl (pureOp_move rfl) ?_
  refine OpsW.pure rfl rfl (pureOp_len (n := l.length) Try.underlying63 rfl (by assumption) (actsC_length l) (by decide)) ?_
  refine OpsW.pure rfl rfl (opN_lss rfl rfl) ?_
  refine OpsW.nil ?_
  refine AWp.forget ?_ (sub_put (i := 1) rfl (sub_put (i := 5) rfl (sub_put (i := 6) rfl (sub_put (i := 8) rfl (sub_put (i := 10) rfl (sub_put (i := 11) rfl (sub_put (i := 60) rfl (sub_nil))))))))
  refine AWp.condP rfl (fun ht60 => ?_) (fun ht60 => ?_)
  refine AWp.skip ?_
  refine AWp.seq ?_
  refine AWp.block ?_
  refine AWp.seq ?_
  refine AWp.seq ?_
  have hai := hl.part _ (getD_mem (show i < l.length by omega))
  have hbl := hlb i (by omega)
  obtain ⟨q, hq⟩ : ∃ q, q = (l.getD i act0).to.toNat % 12 := ⟨_, rfl⟩
  have hq12 : q < 12 := by omega
  have htb := (l.getD i act0).to.toNat_lt
  refine AWp.region ?_
  refine OpsW.pure rfl rfl (pureOp_move rfl) ?_
  refine OpsW.pure rfl rfl (pureOp_move rfl) ?_
  refine OpsW.pure rfl rfl (opN_indexSl (n := l.length) Try.underlying63 Try.sizeOf72 rfl (by assumption) (actsC_length l) (by decide) rfl (by omega)) ?_
  refine OpsW.pure rfl rfl (pureOp_fieldElem fa72_0 rfl ho (by rw [actsC_length]; omega)) ?_
  refine OpsW.load rfl rfl (loadOp_elem (u := .int .i64 (l.getD i act0).kind) sc3 rfl (by first | exact Rd.ro (by assumption) | exact Rd.of_sl (by repeat (first | exact List.Mem.head _ | apply List.Mem.tail)) (by assumption)) ((actsC_get l i 0 (by omega) (by decide)).trans rfl)) ?_
  refine OpsW.pure rfl rfl (pureOp_eql rfl rfl) ?_
  refine OpsW.nil ?_
  refine AWp.forget ?_ (sub_put (i := 1) rfl (sub_put (i := 5) rfl (sub_put (i := 6) rfl (sub_put (i := 8) rfl (sub_put (i := 10) rfl (sub_put (i := 11) rfl (sub_put (i := 60) rfl (sub_put (i := 68) rfl (sub_nil)))))))))
  refine AWp.joinW (fun m' T' L' => ∃ (tl2 hd2 : Nat) (ml2 : List (List UInt8)) (mv2 : Value) (mvs2 : List Value) (μ2 : Mem) (D2 : Dk) (wv2 : Value) (mb2 : Nat), RI D2 2 sz tl2 hd2 ml2 ∧ hd2 ≤ i + 1 ∧ Rd (memOf m [.fz μ2]) mv2 1 mvs2 ∧ Parts (memOf m [.fz μ2]) ml2 mvs2 ∧ slOk wv2 257 (wrC D2.wait) ∧ D2.last.length = sz + 3 ∧ m' = m ∧ T' = put (put (put (put (put (put (tnil) 11 (iV i)) 10 (.pointer (some ⟨b10, 0, none⟩))) 8 (.pointer (some ⟨rb, 0, none⟩))) 6 (.pointer (some ⟨b, 0, none⟩))) 5 (iV sz)) 1 (av) ∧ L' = [.obj b10 [iV sz, iV (tl2), mv2], .fz μ2, .obj rb (rgC b 2 sz (tl2) (hd2)), .obj b [lv, wv2, .map (some mb2), .int .i64 D2.steps, .int .i64 D2.fuse, .bool D2.down], .sl lv 256 (secC D2.last), .sl wv2 257 (wrC D2.wait), .mp mb2 (mapC (nowL D2.wait))]) ?_ ?_
  · skip
    refine AWp.condP rfl (fun ht68 => ?_) (fun ht68 => ?_)
    · skip
      refine AWp.seq ?_
      refine AWp.draw [(0, .pure), (1, .pure), (2, .load), (3, .pure), (4, .pure), (5, .pure), (6, .pure), (7, .load), (8, .pure), (9, .pure), (10, .pure), (11, .wr), (12, .pure), (13, .pure), (14, .pure), (15, .pure), (16, .pure)] rfl (by decide +kernel) (fun _ _ _ p h => AWp.perm h p.symm) ?_
      refine ⟨_, _, rfl, OpStep.pure rfl rfl (pureOp_move rfl), ?_⟩
      rintro _ _ ⟨rfl, rfl⟩ -
      refine ⟨_, _, rfl, OpStep.pure rfl rfl (pureOp_fieldAddr fa70_1 rfl), ?_⟩
      rintro _ _ ⟨rfl, rfl⟩ -
      refine ⟨_, _, rfl, OpStep.load rfl rfl (loadOp_obj sc3 rfl (by repeat (first | exact List.Mem.head _ | apply List.Mem.tail)) rfl), ?_⟩
      rintro _ _ ⟨rfl, rfl⟩ -
      refine ⟨_, _, rfl, OpStep.pure rfl rfl (pureOp_move rfl), ?_⟩
      rintro _ _ ⟨rfl, rfl⟩ -
      refine ⟨_, _, rfl, OpStep.pure rfl rfl (pureOp_move rfl), ?_⟩
      rintro _ _ ⟨rfl, rfl⟩ -
      refine ⟨_, _, rfl, OpStep.pure rfl rfl (opN_indexSl (n := l.length) Try.underlying63 Try.sizeOf72 rfl (by assumption) (actsC_length l) (by decide) rfl (by omega)), ?_⟩
      rintro _ _ ⟨rfl, rfl⟩ -
      refine ⟨_, _, rfl, OpStep.pure rfl rfl (pureOp_fieldElem fa72_2 rfl ho (by rw [actsC_length]; omega)), ?_⟩
      rintro _ _ ⟨rfl, rfl⟩ -
      refine ⟨_, _, rfl, OpStep.load rfl rfl (loadOp_elem (u := bV (l.getD i act0).to) sc5 rfl (by first | exact Rd.ro (by assumption) | exact Rd.of_sl (by repeat (first | exact List.Mem.head _ | apply List.Mem.tail)) (by assumption)) ((actsC_get l i 2 (by omega) (by decide)).trans rfl)), ?_⟩
      rintro _ _ ⟨rfl, rfl⟩ -
      refine ⟨_, _, rfl, OpStep.pure rfl rfl (op_conv8_I Try.underlying5 Try.underlying3 rfl), ?_⟩
      rintro _ _ ⟨rfl, rfl⟩ -
      refine ⟨_, _, rfl, OpStep.pure rfl rfl (opN_rem (b := 12) rfl rfl (by omega) (by omega)), ?_⟩
      rintro _ _ ⟨rfl, rfl⟩ -
      rw [← hq]
      refine ⟨_, _, rfl, OpStep.pure rfl rfl (opN_add rfl rfl (by omega)), ?_⟩
      rintro _ _ ⟨rfl, rfl⟩ -
      refine ⟨_, _, rfl, OpStep.callW rfl rfl (callOp Try.call36 rfl) (Sel.perm (L' := [.obj rb _, .obj b _, .sl lv 256 _, .sl wv 257 _, .mp mb _]) (by repeat (first | exact Sel.nil | (apply Sel.cons; (repeat (first | exact Ext.here | apply Ext.there)))))) (rdrop_c rb b lv wv mb D 2 sz tl hd (tl + q) _ hI1 (by omega) (by omega) hD.s.hN (by omega) (by omega) hD.wait (by omega)), ?_⟩
      rintro _ _ ⟨_, _, ⟨wv1, mb1, rfl, hw1, rfl⟩, rfl, rfl⟩ -
      obtain ⟨D1, hA1, hR1⟩ := hD.drop (q36 tl ml (tl + q)) (n := 0) (q36_le _ _ _)
      have hl1 := dropN_len 2 sz (q36 tl ml (tl + q)) D tl 0
      rw [drop_both hlm, hA1] at hw1 ⊢
      rw [hA1] at hl1
      dsimp only at hw1 hl1 ⊢
      rw [Nat.zero_add (q36 tl ml (tl + q))]
      refine ⟨_, _, rfl, OpStep.pure rfl rfl (pureOp_move rfl), ?_⟩
      rintro _ _ ⟨rfl, rfl⟩ -
      refine ⟨_, _, rfl, OpStep.pure rfl rfl (pureOp_extract (v := iV (q36 tl ml (tl + q))) rfl rfl), ?_⟩
      rintro _ _ ⟨rfl, rfl⟩ -
      refine ⟨_, _, rfl, OpStep.pure rfl rfl (pureOp_extract (v := iV 0) rfl rfl), ?_⟩
      rintro _ _ ⟨rfl, rfl⟩ -
      refine ⟨_, _, rfl, OpStep.pure rfl rfl (pureOp_assign rfl), ?_⟩
      rintro _ _ ⟨rfl, rfl⟩ -
      refine ⟨_, _, rfl, OpStep.pure rfl rfl (pureOp_assign rfl), ?_⟩
      rintro _ _ ⟨rfl, rfl⟩ -
      refine AWp.forget ?_ (sub_put (i := 1) rfl (sub_put (i := 5) rfl (sub_put (i := 6) rfl (sub_put (i := 8) rfl (sub_put (i := 10) rfl (sub_put (i := 11) rfl (sub_put (i := 12) rfl (sub_put (i := 13) rfl (sub_put (i := 60) rfl (sub_put (i := 68) rfl (sub_nil)))))))))))
      refine AWp.seq ?_
      refine AWp.draw [(0, .load), (1, .pure), (2, .load), (3, .pure), (4, .pure), (5, .pure), (6, .pure), (7, .load), (8, .pure), (9, .pure), (10, .pure), (11, .call), (12, .pure), (13, .pure), (14, .pure), (15, .alloc), (16, .wr), (17, .pure)] rfl (by decide +kernel) (fun _ _ _ p h => AWp.perm h p.symm) ?_
      refine ⟨_, _, rfl, OpStep.load rfl rfl (loadAll rfl (by repeat (first | exact List.Mem.head _ | apply List.Mem.tail)) (by rfl) ag70), ?_⟩
      rintro _ _ ⟨rfl, rfl⟩ -
      refine ⟨_, _, rfl, OpStep.pure rfl rfl (pureOp_fieldAddr fa70_1 rfl), ?_⟩
      rintro _ _ ⟨rfl, rfl⟩ -
      refine ⟨_, _, rfl, OpStep.load rfl rfl (loadOp_obj sc3 rfl (by repeat (first | exact List.Mem.head _ | apply List.Mem.tail)) rfl), ?_⟩
      rintro _ _ ⟨rfl, rfl⟩ -
      refine ⟨_, _, rfl, OpStep.pure rfl rfl (pureOp_move rfl), ?_⟩
      rintro _ _ ⟨rfl, rfl⟩ -
      refine ⟨_, _, rfl, OpStep.pure rfl rfl (pureOp_move rfl), ?_⟩
      rintro _ _ ⟨rfl, rfl⟩ -
      refine ⟨_, _, rfl, OpStep.pure rfl rfl (opN_indexSl (n := l.length) Try.underlying63 Try.sizeOf72 rfl (by assumption) (actsC_length l) (by decide) rfl (by omega)), ?_⟩
      rintro _ _ ⟨rfl, rfl⟩ -
      refine ⟨_, _, rfl, OpStep.pure rfl rfl (pureOp_fieldElem fa72_2 rfl ho (by rw [actsC_length]; omega)), ?_⟩
      rintro _ _ ⟨rfl, rfl⟩ -
      refine ⟨_, _, rfl, OpStep.load rfl rfl (loadOp_elem (u := bV (l.getD i act0).to) sc5 rfl (by first | exact Rd.ro (by assumption) | exact Rd.of_sl (by repeat (first | exact List.Mem.head _ | apply List.Mem.tail)) (by assumption)) ((actsC_get l i 2 (by omega) (by decide)).trans rfl)), ?_⟩
      rintro _ _ ⟨rfl, rfl⟩ -
      refine ⟨_, _, rfl, OpStep.pure rfl rfl (op_conv8_I Try.underlying5 Try.underlying3 rfl), ?_⟩
      rintro _ _ ⟨rfl, rfl⟩ -
      refine ⟨_, _, rfl, OpStep.pure rfl rfl (opN_rem (b := 12) rfl rfl (by omega) (by omega)), ?_⟩
      rintro _ _ ⟨rfl, rfl⟩ -
      rw [← hq]
      refine ⟨_, _, rfl, OpStep.pure rfl rfl (opN_add rfl rfl (by omega)), ?_⟩
      rintro _ _ ⟨rfl, rfl⟩ -
      refine ⟨_, _, rfl, OpStep.call rfl rfl (callOp Try.call37 rfl) ((rdrop36_c sz tl mv mvs ml (tl + q) (memOf m [.fz μ]) hmv hmp (by omega) (by omega) (by omega)).more (memOf_in (by repeat (first | exact List.Mem.head _ | apply List.Mem.tail)))), ?_⟩
      rintro _ _ ⟨_, _, ⟨v84, rfl, hv84, rfl⟩, rfl, rfl⟩ -
      have hn84 := one_sl hv84.1
      refine ⟨_, _, rfl, OpStep.pure rfl rfl (pureOp_move rfl), ?_⟩
      rintro _ _ ⟨rfl, rfl⟩ -
      refine ⟨_, _, rfl, OpStep.pure rfl rfl (pureOp_extract (v := .agg (mC sz (tl + q36 tl ml (tl + q)) v84).toArray) rfl rfl), ?_⟩
      rintro _ _ ⟨rfl, rfl⟩ -
      refine ⟨_, _, rfl, OpStep.pure rfl rfl (pureOp_extract (v := iV (q36 tl ml (tl + q))) rfl rfl), ?_⟩
      rintro _ _ ⟨rfl, rfl⟩ -
      refine ⟨_, _, rfl, allocStep_alloc rfl rfl zt70, ?_⟩
      rintro _ _ ⟨_, _, ⟨b14, rfl, rfl⟩, rfl, rfl⟩ -
      refine ⟨_, _, rfl, OpStep.wr rfl rfl (toWp (by repeat (first | exact Pos.here | apply Pos.there)) (lop_storeAllN 3 Try.sizeOf70 rfl rfl (by first | rfl | assumption | (rw [List.length_map]; assumption) | (simp [*]; done) | (simp [*]; omega) | omega) (by rfl) (by intro u hu; simp [mC] at hu; rcases hu with rfl | rfl | rfl <;> first | rfl | exact hn84))), ?_⟩
      rintro _ _ ⟨_, ⟨_, ⟨rfl, rfl⟩, rfl⟩, rfl⟩ -
      refine ⟨_, _, rfl, OpStep.pure rfl rfl (pureOp_assign rfl), ?_⟩
      rintro _ _ ⟨rfl, rfl⟩ -
      refine AWp.forget ?_ (sub_put (i := 1) rfl (sub_put (i := 5) rfl (sub_put (i := 6) rfl (sub_put (i := 8) rfl (sub_put (i := 10) rfl (sub_put (i := 11) rfl (sub_put (i := 12) rfl (sub_put (i := 13) rfl (sub_put (i := 14) rfl (sub_put (i := 15) rfl (sub_put (i := 60) rfl (sub_put (i := 68) rfl (sub_nil)))))))))))))
      refine AWp.seq ?_
      refine AWp.region ?_
      refine OpsW.load rfl rfl (loadAll rfl (by repeat (first | exact List.Mem.head _ | apply List.Mem.tail)) (by rfl) ag70) ?_
      refine OpsW.upd rfl rfl (by repeat (first | exact Pos.here | apply Pos.there)) (lop_storeAllN 3 Try.sizeOf70 rfl rfl (by rfl) (by rfl) (by intro u hu; simp [mC] at hu; rcases hu with rfl | rfl | rfl <;> first | rfl | exact hn84)) ?_
      rintro _ _ ⟨rfl, rfl⟩
      refine OpsW.nil ?_
      refine AWp.forget ?_ (sub_put (i := 1) rfl (sub_put (i := 5) rfl (sub_put (i := 6) rfl (sub_put (i := 8) rfl (sub_put (i := 10) rfl (sub_put (i := 11) rfl (sub_put (i := 12) rfl (sub_put (i := 13) rfl (sub_put (i := 14) rfl (sub_put (i := 15) rfl (sub_put (i := 60) rfl (sub_put (i := 68) rfl (sub_nil)))))))))))))
      refine AWp.seq ?_
      refine AWp.region ?_
      refine OpsW.pure rfl rfl (pureOp_move rfl) ?_
      refine OpsW.pure rfl rfl (pureOp_move rfl) ?_
      refine OpsW.pure rfl rfl (opN_neq rfl rfl) ?_
      refine OpsW.knowB (d := 102) (b := false) (by show some (Value.bool (decide _)) = _; rw [decide_eq_false (fun h => h rfl)]) ?_
      refine OpsW.pure rfl rfl (pureOp_move rfl) ?_
      refine OpsW.pure rfl rfl (pureOp_move rfl) ?_
      refine OpsW.pure rfl rfl (opN_neq (b := 0) rfl rfl) ?_
      refine OpsW.knowB (d := 105) (b := false) (by show some (Value.bool (decide _)) = _; rw [decide_eq_false (fun h => h rfl)]) ?_
      refine OpsW.pure rfl rfl (pureOp_pick_false rfl rfl) ?_
      refine OpsW.nil ?_
      refine AWp.forget ?_ (sub_put (i := 1) rfl (sub_put (i := 5) rfl (sub_put (i := 6) rfl (sub_put (i := 8) rfl (sub_put (i := 10) rfl (sub_put (i := 11) rfl (sub_put (i := 12) rfl (sub_put (i := 13) rfl (sub_put (i := 14) rfl (sub_put (i := 15) rfl (sub_put (i := 60) rfl (sub_put (i := 68) rfl (sub_put (i := 106) rfl (sub_nil))))))))))))))
      refine AWp.cond_false rfl ?_
      refine AWp.skip ?_
      refine ⟨_, [.obj b10 _, .fz _, .obj rb _, .obj b _, .sl lv 256 _, .sl wv1 257 _, .mp mb1 _], _, sub_put (i := 1) rfl (sub_put (i := 5) rfl (sub_put (i := 6) rfl (sub_put (i := 8) rfl (sub_put (i := 10) rfl (sub_put (i := 11) rfl (sub_nil)))))), Sel.perm (by repeat (first | exact Sel.nil | (apply Sel.cons; (repeat (first | exact Ext.here | apply Ext.there))))), ?_⟩
      exact ⟨tl + q36 tl ml (tl + q), hd, ml.drop (q36 tl ml (tl + q)), v84, mvs.drop (q36 tl ml (tl + q)), μ, D1, wv1, mb1, hR1, by omega, hv84, hmp.drop _, hw1, hl1.trans hlD, rfl, rfl, rfl⟩
    · skip
      refine AWp.seq ?_
      refine AWp.region ?_
      refine OpsW.pure rfl rfl (pureOp_move rfl) ?_
      refine OpsW.pure rfl rfl (pureOp_move rfl) ?_
      refine OpsW.pure rfl rfl (pureOp_move rfl) ?_
      refine OpsW.pure rfl rfl (opN_indexSl (n := l.length) Try.underlying63 Try.sizeOf72 rfl (by assumption) (actsC_length l) (by decide) rfl (by omega)) ?_
      refine OpsW.pure rfl rfl (pureOp_fieldElem fa72_1 rfl ho (by rw [actsC_length]; omega)) ?_
      refine OpsW.load rfl rfl (loadOp_elem (u := (l.getD i act0).bv) sc46 rfl (by first | exact Rd.ro (by assumption) | exact Rd.of_sl (by repeat (first | exact List.Mem.head _ | apply List.Mem.tail)) (by assumption)) ((actsC_get l i 1 (by omega) (by decide)).trans rfl)) ?_
      refine OpsW.callA rfl rfl (callOp Try.call38 rfl) (Sel.perm (L' := [.obj rb _, .obj b _, .sl lv 256 _, .sl wv 257 _, .mp mb _]) (by repeat (first | exact Sel.nil | (apply Sel.cons; (repeat (first | exact Ext.here | apply Ext.there)))))) (rapp_c rb b lv wv mb D 2 sz tl hd (l.getD i act0).bv (l.getD i act0).b _ hI1 (by omega) (by omega) hD.s.hN (by omega) (by omega) hai.ro (by omega) (by rw [hD.wait]; decide)) ?_
      rintro _ _ ⟨wv1, mb1, rfl, hw1, rfl⟩
      obtain ⟨D1, hd1, n1, hA1, hT1⟩ := app_told hD (l.getD i act0).b (by omega)
      have hl1 := appF_len D 2 sz tl hd (l.getD i act0).b
      rw [hA1] at hw1 hl1 ⊢
      dsimp only at hw1 hl1 ⊢
      refine OpsW.pure rfl rfl (pureOp_move rfl) ?_
      refine OpsW.pure rfl rfl (pureOp_extract (v := iV n1) rfl rfl) ?_
      refine OpsW.pure rfl rfl (pureOp_extract (v := iV (c36 sz tl ml (l.getD i act0).b)) rfl rfl) ?_
      refine OpsW.pure rfl rfl (pureOp_assign rfl) ?_
      refine OpsW.pure rfl rfl (pureOp_assign rfl) ?_
      refine OpsW.nil ?_
      refine AWp.forget ?_ (sub_put (i := 1) rfl (sub_put (i := 5) rfl (sub_put (i := 6) rfl (sub_put (i := 8) rfl (sub_put (i := 10) rfl (sub_put (i := 11) rfl (sub_put (i := 16) rfl (sub_put (i := 17) rfl (sub_put (i := 60) rfl (sub_put (i := 68) rfl (sub_nil)))))))))))
      refine AWp.seq ?_
      refine AWp.draw [(0, .load), (1, .pure), (2, .pure), (3, .pure), (4, .pure), (5, .load), (6, .call), (7, .pure), (8, .pure), (9, .pure), (10, .pure), (11, .alloc), (12, .wr), (13, .pure), (14, .pure)] rfl (by decide +kernel) (fun _ _ _ p h => AWp.perm h p.symm) ?_
      refine ⟨_, _, rfl, OpStep.load rfl rfl (loadAll rfl (by repeat (first | exact List.Mem.head _ | apply List.Mem.tail)) (by rfl) ag70), ?_⟩
      rintro _ _ ⟨rfl, rfl⟩ -
      refine ⟨_, _, rfl, OpStep.pure rfl rfl (pureOp_move rfl), ?_⟩
      rintro _ _ ⟨rfl, rfl⟩ -
      refine ⟨_, _, rfl, OpStep.pure rfl rfl (pureOp_move rfl), ?_⟩
      rintro _ _ ⟨rfl, rfl⟩ -
      refine ⟨_, _, rfl, OpStep.pure rfl rfl (opN_indexSl (n := l.length) Try.underlying63 Try.sizeOf72 rfl (by assumption) (actsC_length l) (by decide) rfl (by omega)), ?_⟩
      rintro _ _ ⟨rfl, rfl⟩ -
      refine ⟨_, _, rfl, OpStep.pure rfl rfl (pureOp_fieldElem fa72_1 rfl ho (by rw [actsC_length]; omega)), ?_⟩
      rintro _ _ ⟨rfl, rfl⟩ -
      refine ⟨_, _, rfl, OpStep.load rfl rfl (loadOp_elem (u := (l.getD i act0).bv) sc46 rfl (by first | exact Rd.ro (by assumption) | exact Rd.of_sl (by repeat (first | exact List.Mem.head _ | apply List.Mem.tail)) (by assumption)) ((actsC_get l i 1 (by omega) (by decide)).trans rfl)), ?_⟩
      rintro _ _ ⟨rfl, rfl⟩ -
      refine ⟨_, _, rfl, OpStep.call rfl rfl (callOp Try.call39 rfl) ((rapp36_c sz tl mv mvs ml (l.getD i act0).bv (l.getD i act0).b (memOf m [.fz μ]) hmv hmp (by omega) (by omega) hai.ro (by omega)).more (memOf_in (by repeat (first | exact List.Mem.head _ | apply List.Mem.tail)))), ?_⟩
      rintro _ _ ⟨_, _, ⟨v117, n117, μ1, rfl, hT2, rfl⟩, rfl, rfl⟩ -
      have hn117 := told_one hmn hT2
      refine ⟨_, _, rfl, OpStep.pure rfl rfl (pureOp_move rfl), ?_⟩
      rintro _ _ ⟨rfl, rfl⟩ -
      refine ⟨_, _, rfl, OpStep.pure rfl rfl (pureOp_extract (v := .agg (mC sz tl v117).toArray) rfl rfl), ?_⟩
      rintro _ _ ⟨rfl, rfl⟩ -
      refine ⟨_, _, rfl, OpStep.pure rfl rfl (pureOp_extract (v := iV n117) rfl rfl), ?_⟩
      rintro _ _ ⟨rfl, rfl⟩ -
      refine ⟨_, _, rfl, OpStep.pure rfl rfl (pureOp_extract (v := iV (c36 sz tl ml (l.getD i act0).b)) rfl rfl), ?_⟩
      rintro _ _ ⟨rfl, rfl⟩ -
      refine ⟨_, _, rfl, allocStep_alloc rfl rfl zt70, ?_⟩
      rintro _ _ ⟨_, _, ⟨b18, rfl, rfl⟩, rfl, rfl⟩ -
      refine ⟨_, _, rfl, OpStep.wr rfl rfl (toWp (by repeat (first | exact Pos.here | apply Pos.there)) (lop_storeAllN 3 Try.sizeOf70 rfl rfl (by first | rfl | assumption | (rw [List.length_map]; assumption) | (simp [*]; done) | (simp [*]; omega) | omega) (by rfl) (by intro u hu; simp [mC] at hu; rcases hu with rfl | rfl | rfl <;> first | rfl | exact hn117))), ?_⟩
      rintro _ _ ⟨_, ⟨_, ⟨rfl, rfl⟩, rfl⟩, rfl⟩ -
      refine ⟨_, _, rfl, OpStep.pure rfl rfl (pureOp_assign rfl), ?_⟩
      rintro _ _ ⟨rfl, rfl⟩ -
      refine ⟨_, _, rfl, OpStep.pure rfl rfl (pureOp_assign rfl), ?_⟩
      rintro _ _ ⟨rfl, rfl⟩ -
      refine AWp.forget ?_ (sub_put (i := 1) rfl (sub_put (i := 5) rfl (sub_put (i := 6) rfl (sub_put (i := 8) rfl (sub_put (i := 10) rfl (sub_put (i := 11) rfl (sub_put (i := 16) rfl (sub_put (i := 17) rfl (sub_put (i := 18) rfl (sub_put (i := 19) rfl (sub_put (i := 20) rfl (sub_put (i := 60) rfl (sub_put (i := 68) rfl (sub_nil))))))))))))))
      refine AWp.seq ?_
      refine AWp.region ?_
      refine OpsW.load rfl rfl (loadAll rfl (by repeat (first | exact List.Mem.head _ | apply List.Mem.tail)) (by rfl) ag70) ?_
      refine OpsW.upd rfl rfl (by repeat (first | exact Pos.here | apply Pos.there)) (lop_storeAllN 3 Try.sizeOf70 rfl rfl (by rfl) (by rfl) (by intro u hu; simp [mC] at hu; rcases hu with rfl | rfl | rfl <;> first | rfl | exact hn117)) ?_
      rintro _ _ ⟨rfl, rfl⟩
      refine OpsW.nil ?_
      refine AWp.forget ?_ (sub_put (i := 1) rfl (sub_put (i := 5) rfl (sub_put (i := 6) rfl (sub_put (i := 8) rfl (sub_put (i := 10) rfl (sub_put (i := 11) rfl (sub_put (i := 16) rfl (sub_put (i := 17) rfl (sub_put (i := 18) rfl (sub_put (i := 19) rfl (sub_put (i := 20) rfl (sub_put (i := 60) rfl (sub_put (i := 68) rfl (sub_nil))))))))))))))
      refine AWp.seq ?_
      refine AWp.keep (L' := [.fz μ1, .fz μ, .obj b10 _, .obj rb _, .obj b _, .sl lv 256 _, .sl wv1 257 _, .mp mb1 _]) (by repeat (first | exact Sel.nil | (apply Sel.cons; (repeat (first | exact Ext.here | apply Ext.there))))) ?_
      refine AWp.gather ?_
      obtain ⟨ml2, mvs2, hR2, hh2, hnn, hv2, hmp2⟩ := told_both hlm hT1 hT2 hmv hmp hai
      refine AWp.region ?_
      refine OpsW.pure rfl rfl (pureOp_move rfl) ?_
      refine OpsW.pure rfl rfl (pureOp_move rfl) ?_
      refine OpsW.pure rfl rfl (opN_neq rfl rfl) ?_
      refine OpsW.knowB (d := 131) (b := false) (by show some (Value.bool (decide _)) = _; rw [decide_eq_false (fun h => h hnn)]) ?_
      refine OpsW.pure rfl rfl (pureOp_move rfl) ?_
      refine OpsW.pure rfl rfl (pureOp_move rfl) ?_
      refine OpsW.pure rfl rfl (pureOp_move rfl) ?_
      refine OpsW.pure rfl rfl (opN_neq rfl rfl) ?_
      refine OpsW.knowB (d := 135) (b := false) (by show some (Value.bool (decide _)) = _; rw [decide_eq_false (fun h => h rfl)]) ?_
      refine OpsW.pure rfl rfl (pureOp_pick_false rfl rfl) ?_
      refine OpsW.nil ?_
      refine AWp.forget ?_ (sub_put (i := 1) rfl (sub_put (i := 5) rfl (sub_put (i := 6) rfl (sub_put (i := 8) rfl (sub_put (i := 10) rfl (sub_put (i := 11) rfl (sub_put (i := 16) rfl (sub_put (i := 17) rfl (sub_put (i := 18) rfl (sub_put (i := 19) rfl (sub_put (i := 20) rfl (sub_put (i := 60) rfl (sub_put (i := 68) rfl (sub_put (i := 136) rfl (sub_nil)))))))))))))))
      refine AWp.cond_false rfl ?_
      refine AWp.skip ?_
      refine ⟨_, [.obj b10 _, .fz _, .obj rb _, .obj b _, .sl lv 256 _, .sl wv1 257 _, .mp mb1 _], _, sub_put (i := 1) rfl (sub_put (i := 5) rfl (sub_put (i := 6) rfl (sub_put (i := 8) rfl (sub_put (i := 10) rfl (sub_put (i := 11) rfl (sub_nil)))))), Sel.perm (by repeat (first | exact Sel.nil | (apply Sel.cons; (repeat (first | exact Ext.here | apply Ext.there))))), ?_⟩
      exact ⟨tl, hd1, ml2, v117, mvs2, _, D1, wv1, mb1, hR2, by omega, hv2, hmp2, hw1, hl1.trans hlD, rfl, rfl, rfl⟩
  rintro m _ _ ⟨tl2, hd2, ml2, mv2, mvs2, μ2, D2, wv2, mb2, hD2, hh2, hmv2, hmp2, hw2, hl2, rfl, rfl, rfl⟩
  have hI2 := hI0.to hD2.up.ok (hl2.trans hlen0.symm) hw2
  have hmo2 := hmv2.1
  have hlm2 := hD2.s.len
  have hfm2 := hD2.s.full
  refine AWp.seq ?_
  refine AWp.seq ?_
  refine AWp.region ?_
  refine OpsW.pure rfl rfl (pureOp_move rfl) ?_
  refine OpsW.load rfl rfl (loadAll rfl (by repeat (first | exact List.Mem.head _ | apply List.Mem.tail)) (by rfl) ag70) ?_
  refine OpsW.callA rfl rfl (callOp Try.call40 rfl) (Sel.perm (L' := [.obj b _, .sl lv 256 _, .sl wv2 257 _, .mp mb2 _]) (by repeat (first | exact Sel.nil | (apply Sel.cons; (repeat (first | exact Ext.here | apply Ext.there)))))) (same36_c rb b lv wv2 mb2 D2 2 sz tl2 hd2 sz tl2 mv2 mvs2 ml2 _ (RgM.of (by repeat (first | exact List.Mem.head _ | apply List.Mem.tail))) hI2 hD2.up hD2.wait (by omega) (by omega) hD2.s.hN (by omega) (by omega) hD2.s.hall (hmv2.inL (by repeat (first | exact List.Mem.head _ | apply List.Mem.tail))) (hmp2.inL (by repeat (first | exact List.Mem.head _ | apply List.Mem.tail))) (by omega) (by omega)) ?_
  rintro _ _ ⟨rfl, rfl⟩
  rw [show sameR D2.last 2 sz tl2 hd2 tl2 ml2 = true from by rw [hD2.s.same]; exact decide_eq_true ⟨rfl, rfl⟩]
  refine OpsW.knowB (d := 139) (b := true) rfl ?_
  refine OpsW.pure rfl rfl (pureOp_not rfl) ?_
  refine OpsW.nil ?_
  refine AWp.forget ?_ (sub_put (i := 1) rfl (sub_put (i := 5) rfl (sub_put (i := 6) rfl (sub_put (i := 8) rfl (sub_put (i := 10) rfl (sub_put (i := 11) rfl (sub_put (i := 140) rfl (sub_nil))))))))
  refine AWp.cond_false rfl ?_
  refine AWp.skip ?_
  refine AWp.seq ?_
  refine AWp.region ?_
  refine OpsW.pure rfl rfl (pureOp_move rfl) ?_
  refine OpsW.pure rfl rfl (pureOp_move rfl) ?_
  refine OpsW.pure rfl rfl (pureOp_move rfl) ?_
  refine OpsW.callA rfl rfl (callOp Try.call42 rfl) permNone (rnext_c rb b 2 sz tl2 hd2 _ (RgM.of (by repeat (first | exact List.Mem.head _ | apply List.Mem.tail)))) ?_
  rintro _ _ ⟨rfl, rfl⟩
  refine OpsW.callA rfl rfl (callOp Try.call41 rfl) (Sel.perm (L' := [.obj b _, .sl lv 256 _, .sl wv2 257 _, .mp mb2 _]) (by repeat (first | exact Sel.nil | (apply Sel.cons; (repeat (first | exact Ext.here | apply Ext.there)))))) (ropen_c b lv wv2 mb2 D2 2 sz hd2 tl2 hd2 _ hI2 hD2.up hD2.wait (by omega) (by omega) hD2.s.hN (by omega) (hD2.s.ends (next := hd2) (fun _ => rfl)).1 (hD2.s.ends (next := hd2) (fun _ => rfl)).2 (by omega) (by omega) (by omega) hD2.s.hall) ?_
  rintro _ _ ⟨rb2, D5, wv5, mb5, rfl, hU5, hw5b, hl5b, hs5, rfl⟩
  have hD5 := hD2.opened hU5 hw5b hl5b
  have hl5 : D5.last.length = sz + 3 := by rw [hl5b, wrote_len]; exact hl2
  have hI5 := hI0.to hU5.ok (hl5.trans hlen0.symm) hs5
  refine OpsW.pure rfl rfl (pureOp_move rfl) ?_
  refine OpsW.pure rfl rfl (pureOp_extract rfl rfl) ?_
  refine OpsW.pure rfl rfl (pureOp_extract rfl rfl) ?_
  refine OpsW.pure rfl rfl (pureOp_assign rfl) ?_
  refine OpsW.pure rfl rfl (pureOp_assign rfl) ?_
  refine OpsW.nil ?_
  refine AWp.forget ?_ (sub_put (i := 1) rfl (sub_put (i := 5) rfl (sub_put (i := 6) rfl (sub_put (i := 8) rfl (sub_put (i := 10) rfl (sub_put (i := 11) rfl (sub_put (i := 21) rfl (sub_put (i := 22) rfl (sub_put (i := 140) rfl (sub_nil))))))))))
  refine AWp.seq ?_
  refine AWp.region ?_
  refine OpsW.pure rfl rfl (pureOp_move rfl) ?_
  refine OpsW.pure rfl rfl (opN_neq (b := 0) rfl rfl) ?_
  refine OpsW.knowB (d := 150) (b := false) (by show some (Value.bool (decide _)) = _; rw [decide_eq_false (fun h => h rfl)]) ?_
  refine OpsW.pure rfl rfl (pureOp_move rfl) ?_
  refine OpsW.pure rfl rfl (pureOp_move rfl) ?_
  refine OpsW.pure rfl rfl (opP_isNil Try.underlying65 rfl) ?_
  refine OpsW.knowB (d := 153) (b := false) rfl ?_
  refine OpsW.pure rfl rfl (pureOp_pick_false rfl rfl) ?_
  refine OpsW.pure rfl rfl (pureOp_move rfl) ?_
  refine OpsW.pure rfl rfl (pureOp_move rfl) ?_
  refine OpsW.load rfl rfl (loadAll rfl (by repeat (first | exact List.Mem.head _ | apply List.Mem.tail)) (by rfl) ag70) ?_
  refine OpsW.callA rfl rfl (callOp Try.call40 rfl) (Sel.perm (L' := [.obj b _, .sl lv 256 _, .sl wv5 257 _, .mp mb5 _]) (by repeat (first | exact Sel.nil | (apply Sel.cons; (repeat (first | exact Ext.here | apply Ext.there)))))) (same36_c rb2 b lv wv5 mb5 D5 2 sz tl2 hd2 sz tl2 mv2 mvs2 ml2 _ (RgM.of (by repeat (first | exact List.Mem.head _ | apply List.Mem.tail))) hI5 hD5.up hD5.wait (by omega) (by omega) hD5.s.hN (by omega) (by omega) hD5.s.hall (hmv2.inL (by repeat (first | exact List.Mem.head _ | apply List.Mem.tail))) (hmp2.inL (by repeat (first | exact List.Mem.head _ | apply List.Mem.tail))) (by omega) (by omega)) ?_
  rintro _ _ ⟨rfl, rfl⟩
  rw [show sameR D5.last 2 sz tl2 hd2 tl2 ml2 = true from by rw [hD5.s.same]; exact decide_eq_true ⟨rfl, rfl⟩]
  refine OpsW.knowB (d := 158) (b := true) rfl ?_
  refine OpsW.pure rfl rfl (pureOp_not rfl) ?_
  refine OpsW.pure rfl rfl (pureOp_pick_false rfl rfl) ?_
  refine OpsW.nil ?_
  refine AWp.forget ?_ (sub_put (i := 1) rfl (sub_put (i := 5) rfl (sub_put (i := 6) rfl (sub_put (i := 8) rfl (sub_put (i := 10) rfl (sub_put (i := 11) rfl (sub_put (i := 21) rfl (sub_put (i := 22) rfl (sub_put (i := 140) rfl (sub_put (i := 160) rfl (sub_nil)))))))))))
  refine AWp.cond_false rfl ?_
  refine AWp.skip ?_
  refine AWp.region ?_
  refine OpsW.pure rfl rfl (pureOp_move rfl) ?_
  refine OpsW.pure rfl rfl (opN_add (b := 1) rfl rfl (by omega)) ?_
  refine OpsW.pure rfl rfl (pureOp_assign rfl) ?_
  refine OpsW.forget ?_ (sub_put (i := 1) rfl (sub_put (i := 5) rfl (sub_put (i := 6) rfl (sub_put (i := 8) rfl (sub_put (i := 10) rfl (sub_put (i := 11) rfl (sub_nil)))))))
  refine OpsW.keep (L' := [.obj b10 _, .fz _, .obj rb _, .obj b _, .sl lv 256 _, .sl wv5 257 _, .mp mb5 _]) (by repeat (first | exact Sel.nil | (apply Sel.cons; (repeat (first | exact Ext.here | apply Ext.there))))) ?_
  refine OpsW.nil ?_
  exact ⟨_, by omega, i + 1, tl2, hd2, ml2, mv2, mvs2, μ2, D5, wv5, mb5, rfl, by omega, hD5, by omega, hmv2, hmp2, hs5, hl5, rfl, rfl, rfl⟩
  refine AWp.exit (exit_here ?_)
  refine AWp.seq ?_
  refine AWp.region ?_
  refine OpsW.callA rfl rfl (callOp Try.call28 rfl) permNone (works36_c _) ?_
  rintro _ _ ⟨rfl, rfl⟩
  refine OpsW.pure rfl rfl (pureOp_assign rfl) ?_
  refine OpsW.nil ?_
  refine AWp.forget ?_ (sub_put (i := 1) rfl (sub_put (i := 4) rfl (sub_put (i := 5) rfl (sub_put (i := 6) rfl (sub_put (i := 8) rfl (sub_put (i := 10) rfl (sub_put (i := 11) rfl (sub_put (i := 60) rfl (sub_nil)))))))))
  refine AWp.ret ?_
  exact ⟨_, [], _, permNone, res_tmp rfl rfl, rfl, rfl⟩

end Go.Proofs.Ytpnipajadjeifaa.Sep
