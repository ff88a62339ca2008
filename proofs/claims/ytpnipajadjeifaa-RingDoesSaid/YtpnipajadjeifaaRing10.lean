/- The walk of RingTurns. -/
import Derived.Test.YtpnipajadjeifaaRing9
import Derived.Test.YtpnipajadjeifaaRingI
import Derived.Test.YtpnipajadjeifaaProg
namespace Go.Proofs.Ytpnipajadjeifaa.Sep
open Go Go.RowKit
set_option linter.unusedVariables false
set_option linter.unusedSimpArgs false



set_option maxRecDepth 20000 in
set_option maxHeartbeats 8000000 in
theorem rturns_c (sb : UInt8) (av : Value) (avs : List Value) (ls : List (List UInt8)) (m : Mem) (hm : Rd m av 1 avs) (hp : Parts m ls avs) :
    Ctr Try.prog 8 [bV sb, av] m [] (fun _ r L => r = .bool true ∧ L = []) := by
  have ho := hm.1
  have hsb := sb.toNat_lt
  refine Ctr.intro Try.func8 rfl Try.ntmps8 (by simp) fun w0 => ?_
  refine AWp.forget ?_ (sub_put (i := 0) rfl (sub_put (i := 1) rfl (sub_nil)))
  refine AWp.seq ?_
  refine AWp.region ?_
  refine OpsW.pure rfl rfl (pureOp_assign rfl) ?_
  refine OpsW.nil ?_
  refine AWp.forget ?_ (sub_put (i := 0) rfl (sub_put (i := 1) rfl (sub_put (i := 4) rfl (sub_nil))))
  refine AWp.seq ?_
  refine AWp.seq ?_
  refine AWp.region ?_
  refine OpsW.pure rfl rfl (pureOp_move rfl) ?_
  refine OpsW.pure rfl rfl (opN_len1 ls.length Try.underlying68 rfl (by assumption) hp.len) ?_
  refine OpsW.pure rfl rfl (opN_gtr (b := 100) rfl rfl) ?_
  refine OpsW.nil ?_
  refine AWp.forget ?_ (sub_put (i := 0) rfl (sub_put (i := 1) rfl (sub_put (i := 4) rfl (sub_put (i := 21) rfl (sub_nil)))))
  refine AWp.condP rfl (fun ht21 => ?_) (fun ht21 => ?_)
  · skip
    refine AWp.seq ?_
    refine AWp.region ?_
    refine OpsW.callA rfl rfl (callOp Try.call28 rfl) permNone (works36_c _) ?_
    rintro _ _ ⟨rfl, rfl⟩
    refine OpsW.pure rfl rfl (pureOp_assign rfl) ?_
    refine OpsW.nil ?_
    refine AWp.forget ?_ (sub_put (i := 0) rfl (sub_put (i := 1) rfl (sub_put (i := 4) rfl (sub_put (i := 21) rfl (sub_nil)))))
    refine AWp.ret ?_
    exact ⟨_, [], _, permNone, res_tmp rfl rfl, rfl, rfl⟩
  refine AWp.skip ?_
  refine AWp.seq ?_
  refine AWp.region ?_
  refine OpsW.pure rfl rfl (pureOp_move rfl) ?_
  refine OpsW.pure rfl rfl (op_conv8_I Try.underlying5 Try.underlying3 rfl) ?_
  refine OpsW.pure rfl rfl (opN_rem (b := 8) rfl rfl (by omega) (by omega)) ?_
  refine OpsW.pure rfl rfl (opN_add (a := 2) rfl rfl (by omega)) ?_
  obtain ⟨sz, hsz⟩ : ∃ sz, sz = 2 + sb.toNat % 8 := ⟨_, rfl⟩
  have hsz2 : 2 ≤ sz ∧ sz ≤ 9 := by omega
  rw [← hsz]
  refine OpsW.pure rfl rfl (pureOp_assign rfl) ?_
  refine OpsW.nil ?_
  refine AWp.forget ?_ (sub_put (i := 0) rfl (sub_put (i := 1) rfl (sub_put (i := 4) rfl (sub_put (i := 5) rfl (sub_put (i := 21) rfl (sub_nil))))))
  refine AWp.seq ?_
  refine AWp.region ?_
  refine OpsW.pure rfl rfl (pureOp_move rfl) ?_
  refine OpsW.callA rfl rfl (callOp Try.call21 rfl) permNone (dnew_c sz _ (by omega)) ?_
  rintro _ _ (⟨h1, _⟩ | ⟨_, b, lv, mb0, rfl, hI0, rfl⟩)
  · omega
  obtain ⟨wv0, hwv⟩ : ∃ wv, wv = Value.slice none 0 0 := ⟨_, rfl⟩
  have hR0 : RI (newF sz) 0 sz 0 0 [] := .new (by omega) hsz2.1 (by omega) (by omega)
  obtain ⟨D0, hD0⟩ : ∃ D0, D0 = newF sz := ⟨_, rfl⟩
  have hlen0 : D0.last.length = sz := by rw [hD0, new_len]
  rw [← hwv, ← hD0] at hI0 ⊢
  rw [← hD0] at hR0
  refine OpsW.pure rfl rfl (pureOp_move rfl) ?_
  refine OpsW.pure rfl rfl (pureOp_extract rfl rfl) ?_
  refine OpsW.pure rfl rfl (pureOp_extract rfl rfl) ?_
  refine OpsW.pure rfl rfl (pureOp_assign rfl) ?_
  refine OpsW.pure rfl rfl (pureOp_assign rfl) ?_
  refine OpsW.nil ?_
  refine AWp.forget ?_ (sub_put (i := 0) rfl (sub_put (i := 1) rfl (sub_put (i := 4) rfl (sub_put (i := 5) rfl (sub_put (i := 6) rfl (sub_put (i := 7) rfl (sub_put (i := 21) rfl (sub_nil))))))))
  refine AWp.seq ?_
  refine AWp.seq ?_
  refine AWp.region ?_
  refine OpsW.pure rfl rfl (pureOp_move rfl) ?_
  refine OpsW.pure rfl rfl (opP_isNil Try.underlying48 rfl) ?_
  refine OpsW.knowB (d := 33) (b := false) rfl ?_
  refine OpsW.pure rfl rfl (pureOp_move rfl) ?_
  refine OpsW.pure rfl rfl (pureOp_move rfl) ?_
  refine OpsW.pure rfl rfl (opN_neq (b := 0) rfl rfl) ?_
  refine OpsW.knowB (d := 36) (b := false) (by show some (Value.bool (decide _)) = _; rw [decide_eq_false (fun h => h rfl)]) ?_
  refine OpsW.pure rfl rfl (pureOp_pick_false rfl rfl) ?_
  refine OpsW.nil ?_
  refine AWp.forget ?_ (sub_put (i := 0) rfl (sub_put (i := 1) rfl (sub_put (i := 4) rfl (sub_put (i := 5) rfl (sub_put (i := 6) rfl (sub_put (i := 7) rfl (sub_put (i := 21) rfl (sub_put (i := 37) rfl (sub_nil)))))))))
  refine AWp.cond_false rfl ?_
  refine AWp.skip ?_
  refine AWp.seq ?_
  refine AWp.region ?_
  refine OpsW.pure rfl rfl (pureOp_move rfl) ?_
  refine OpsW.pure rfl rfl (pureOp_move rfl) ?_
  refine OpsW.callA rfl rfl (callOp Try.call35 rfl) (Sel.perm (L' := [.obj b _, .sl lv 256 _, .sl wv0 257 _, .mp mb0 _]) (by repeat (first | exact Sel.nil | (apply Sel.cons; (repeat (first | exact Ext.here | apply Ext.there)))))) (rnew_c b lv wv0 mb0 D0 0 sz _ hI0 (by omega) (by omega)) ?_
  rintro _ _ (⟨_, rb, rfl, rfl⟩ | ⟨hno, _⟩)
  rotate_left
  · exact absurd ⟨by omega, by omega, by omega⟩ hno
  refine OpsW.pure rfl rfl (pureOp_move rfl) ?_
  refine OpsW.pure rfl rfl (pureOp_extract rfl rfl) ?_
  refine OpsW.pure rfl rfl (pureOp_extract rfl rfl) ?_
  refine OpsW.pure rfl rfl (pureOp_assign rfl) ?_
  refine OpsW.pure rfl rfl (pureOp_assign rfl) ?_
  refine OpsW.nil ?_
  refine AWp.forget ?_ (sub_put (i := 0) rfl (sub_put (i := 1) rfl (sub_put (i := 4) rfl (sub_put (i := 5) rfl (sub_put (i := 6) rfl (sub_put (i := 7) rfl (sub_put (i := 8) rfl (sub_put (i := 9) rfl (sub_put (i := 21) rfl (sub_put (i := 37) rfl (sub_nil)))))))))))
  refine AWp.seq ?_
  refine AWp.seq ?_
  refine AWp.region ?_
  refine OpsW.pure rfl rfl (pureOp_move rfl) ?_
  refine OpsW.pure rfl rfl (opP_isNil Try.underlying65 rfl) ?_
  refine OpsW.knowB (d := 45) (b := false) rfl ?_
  refine OpsW.pure rfl rfl (pureOp_move rfl) ?_
  refine OpsW.pure rfl rfl (pureOp_move rfl) ?_
  refine OpsW.pure rfl rfl (opN_neq (b := 0) rfl rfl) ?_
  refine OpsW.knowB (d := 48) (b := false) (by show some (Value.bool (decide _)) = _; rw [decide_eq_false (fun h => h rfl)]) ?_
  refine OpsW.pure rfl rfl (pureOp_pick_false rfl rfl) ?_
  refine OpsW.nil ?_
  refine AWp.forget ?_ (sub_put (i := 0) rfl (sub_put (i := 1) rfl (sub_put (i := 4) rfl (sub_put (i := 5) rfl (sub_put (i := 6) rfl (sub_put (i := 7) rfl (sub_put (i := 8) rfl (sub_put (i := 9) rfl (sub_put (i := 21) rfl (sub_put (i := 37) rfl (sub_put (i := 49) rfl (sub_nil))))))))))))
  refine AWp.cond_false rfl ?_
  refine AWp.skip ?_
  refine AWp.seq ?_
  refine AWp.seq ?_
  refine AWp.region ?_
  refine OpsW.pure rfl rfl (pureOp_assign rfl) ?_
  refine OpsW.nil ?_
  refine AWp.forget ?_ (sub_put (i := 0) rfl (sub_put (i := 1) rfl (sub_put (i := 4) rfl (sub_put (i := 5) rfl (sub_put (i := 6) rfl (sub_put (i := 7) rfl (sub_put (i := 8) rfl (sub_put (i := 9) rfl (sub_put (i := 10) rfl (sub_put (i := 21) rfl (sub_put (i := 37) rfl (sub_put (i := 49) rfl (sub_nil)))))))))))))
  refine AWp.block ?_
  refine AWp.forget ?_ (sub_put (i := 1) rfl (sub_put (i := 5) rfl (sub_put (i := 6) rfl (sub_put (i := 8) rfl (sub_put (i := 10) rfl (sub_nil))))))
  refine AWp.keep (L' := [.obj rb _, .obj b _, .sl lv 256 _, .sl wv0 257 _, .mp mb0 _]) (by repeat (first | exact Sel.nil | (apply Sel.cons; (repeat (first | exact Ext.here | apply Ext.there))))) ?_
  refine AWp.loop (fun N m' T' L' => ∃ (i : Nat) (D : Dk) (wv : Value) (mb : Nat), N = ls.length - i ∧ i ≤ ls.length ∧ RI D 0 sz (i - sz) i ((ls.take i).drop (i - sz)) ∧ slOk wv 257 (wrC D.wait) ∧ D.last.length = sz ∧ m' = m ∧ T' = put (put (put (put (put (tnil) 10 (iV i)) 8 (.pointer (some ⟨rb, 0, none⟩))) 6 (.pointer (some ⟨b, 0, none⟩))) 5 (iV sz)) 1 (av) ∧ L' = [.obj rb (rgC b 0 sz (i - sz) i), .obj b [lv, wv, .map (some mb), .int .i64 D.steps, .int .i64 D.fuse, .bool D.down], .sl lv 256 (secC D.last), .sl wv 257 (wrC D.wait), .mp mb (mapC (nowL D.wait))]) _ (⟨0, D0, wv0, mb0, rfl, Nat.zero_le _, by rw [Nat.zero_sub]; exact hR0, hI0.hw, hlen0, rfl, rfl, by rw [Nat.zero_sub]⟩) ?_
  rintro _ m _ _ ⟨i, D, wv, mb, rfl, hi, hD, hwD, hlD, rfl, rfl, rfl⟩
  have hI1 := hI0.to hD.up.ok (hlD.trans hlen0.symm) hwD
  have hll := turn_len (sz := sz) hi
  refine AWp.seq ?_
  refine AWp.seq ?_
  refine AWp.region ?_
  refine OpsW.pure rfl rfl (pureOp_move rfl) ?_
  refine OpsW.pure rfl rfl (pureOp_move rfl) ?_
  refine OpsW.pure rfl rfl (opN_len1 ls.length Try.underlying68 rfl (by assumption) hp.len) ?_
  refine OpsW.pure rfl rfl (opN_lss rfl rfl) ?_
  refine OpsW.nil ?_
  refine AWp.forget ?_ (sub_put (i := 1) rfl (sub_put (i := 5) rfl (sub_put (i := 6) rfl (sub_put (i := 8) rfl (sub_put (i := 10) rfl (sub_put (i := 53) rfl (sub_nil)))))))
  refine AWp.condP rfl (fun ht53 => ?_) (fun ht53 => ?_)
  refine AWp.skip ?_
  refine AWp.seq ?_
  refine AWp.block ?_
  refine AWp.seq ?_
  refine AWp.seq ?_
  have hpi := hp.part i (by omega)
  have hpio := hpi.1
  refine AWp.region ?_
  refine OpsW.pure rfl rfl (pureOp_move rfl) ?_
  refine OpsW.pure rfl rfl (pureOp_move rfl) ?_
  refine OpsW.pure rfl rfl (opN_indexSl1 Try.underlying68 Try.sizeOf46 rfl (by assumption) rfl (by rw [hp.len]; omega)) ?_
  refine OpsW.load rfl rfl (loadOp_elem (u := avs.getD i undef) sc46 rfl (by first | exact Rd.ro (by assumption) | exact Rd.of_sl (by repeat (first | exact List.Mem.head _ | apply List.Mem.tail)) (by assumption)) (get_D (by rw [hp.len]; omega))) ?_
  refine OpsW.pure rfl rfl (opN_len1 (ls.getD i []).length Try.underlying46 rfl (by assumption) (List.length_map ..)) ?_
  refine OpsW.pure rfl rfl (opN_gtr (b := 224) rfl rfl) ?_
  refine OpsW.nil ?_
  refine AWp.forget ?_ (sub_put (i := 1) rfl (sub_put (i := 5) rfl (sub_put (i := 6) rfl (sub_put (i := 8) rfl (sub_put (i := 10) rfl (sub_put (i := 53) rfl (sub_put (i := 61) rfl (sub_nil))))))))
  refine AWp.condP rfl (fun ht61 => ?_) (fun ht61 => ?_)
  · skip
    refine AWp.seq ?_
    refine AWp.region ?_
    refine OpsW.callA rfl rfl (callOp Try.call28 rfl) permNone (works36_c _) ?_
    rintro _ _ ⟨rfl, rfl⟩
    refine OpsW.pure rfl rfl (pureOp_assign rfl) ?_
    refine OpsW.nil ?_
    refine AWp.forget ?_ (sub_put (i := 1) rfl (sub_put (i := 4) rfl (sub_put (i := 5) rfl (sub_put (i := 6) rfl (sub_put (i := 8) rfl (sub_put (i := 10) rfl (sub_put (i := 53) rfl (sub_put (i := 61) rfl (sub_nil)))))))))
    refine AWp.ret ?_
    exact ⟨_, [], _, permNone, res_tmp rfl rfl, rfl, rfl⟩
  refine AWp.skip ?_
  refine AWp.seq ?_
  refine AWp.seq ?_
  refine AWp.region ?_
  refine OpsW.pure rfl rfl (pureOp_move rfl) ?_
  refine OpsW.callA rfl rfl (callOp Try.call43 rfl) permNone (rlen_c rb b 0 sz (i - sz) i _ (RgM.of (by repeat (first | exact List.Mem.head _ | apply List.Mem.tail))) (by omega) (by omega)) ?_
  rintro _ _ ⟨rfl, rfl⟩
  refine OpsW.pure rfl rfl (pureOp_move rfl) ?_
  refine OpsW.pure rfl rfl (opN_eql rfl rfl) ?_
  refine OpsW.nil ?_
  refine AWp.forget ?_ (sub_put (i := 1) rfl (sub_put (i := 5) rfl (sub_put (i := 6) rfl (sub_put (i := 8) rfl (sub_put (i := 10) rfl (sub_put (i := 53) rfl (sub_put (i := 61) rfl (sub_put (i := 66) rfl (sub_nil)))))))))
  refine AWp.joinW (fun m' T' L' => ∃ (D1 : Dk) (wv1 : Value) (mb1 : Nat), RI D1 0 sz (i + 1 - sz) i ((ls.take i).drop (i + 1 - sz)) ∧ slOk wv1 257 (wrC D1.wait) ∧ D1.last.length = sz ∧ m' = m ∧ T' = put (put (put (put (put (tnil) 10 (iV i)) 8 (.pointer (some ⟨rb, 0, none⟩))) 6 (.pointer (some ⟨b, 0, none⟩))) 5 (iV sz)) 1 (av) ∧ L' = [.obj rb (rgC b 0 sz (i + 1 - sz) i), .obj b [lv, wv1, .map (some mb1), .int .i64 D1.steps, .int .i64 D1.fuse, .bool D1.down], .sl lv 256 (secC D1.last), .sl wv1 257 (wrC D1.wait), .mp mb1 (mapC (nowL D1.wait))]) ?_ ?_
  · skip
    refine AWp.condP rfl (fun ht66 => ?_) (fun ht66 => ?_)
    · skip
      refine AWp.region ?_
      refine OpsW.pure rfl rfl (pureOp_move rfl) ?_
      refine OpsW.pure rfl rfl (pureOp_move rfl) ?_
      refine OpsW.callA rfl rfl (callOp Try.call44 rfl) permNone (rfirst_c rb b 0 sz (i - sz) i _ (RgM.of (by repeat (first | exact List.Mem.head _ | apply List.Mem.tail)))) ?_
      rintro _ _ ⟨rfl, rfl⟩
      refine OpsW.pure rfl rfl (opN_add (b := 1) rfl rfl (by omega)) ?_
      refine OpsW.callA rfl rfl (callOp Try.call36 rfl) (Sel.perm (L' := [.obj rb _, .obj b _, .sl lv 256 _, .sl wv 257 _, .mp mb _]) (by repeat (first | exact Sel.nil | (apply Sel.cons; (repeat (first | exact Ext.here | apply Ext.there)))))) (rdrop_c rb b lv wv mb D 0 sz (i - sz) i (i - sz + 1) _ hI1 (by omega) (by omega) (by omega) (by omega) (by omega) hD.wait (by omega)) ?_
      rintro _ _ ⟨wv1, mb1, rfl, hw1, rfl⟩
      obtain ⟨D1, hA1, hR1⟩ := hD.drop 1 (n := 0) (by omega)
      have hl1 := dropN_len 0 sz 1 D (i - sz) 0
      rw [show min (i - sz + 1) i - (i - sz) = 1 by omega, hA1] at hw1 ⊢
      rw [hA1] at hl1
      dsimp only at hw1 hl1 ⊢
      have he : i - sz + 1 = i + 1 - sz := by omega
      have hR1b : RI D1 0 sz (i + 1 - sz) i ((ls.take i).drop (i + 1 - sz)) := by rw [List.drop_drop, he] at hR1; exact hR1
      refine OpsW.nil ?_
      refine ⟨_, [.obj rb _, .obj b _, .sl lv 256 _, .sl wv1 257 _, .mp mb1 _], _, sub_put (i := 1) rfl (sub_put (i := 5) rfl (sub_put (i := 6) rfl (sub_put (i := 8) rfl (sub_put (i := 10) rfl (sub_nil))))), Sel.perm (by repeat (first | exact Sel.nil | (apply Sel.cons; (repeat (first | exact Ext.here | apply Ext.there))))), ?_⟩
      exact ⟨D1, wv1, mb1, hR1b, hw1, hl1.trans hlD, rfl, rfl, by rw [he]⟩
    · skip
      refine AWp.skip ?_
      refine ⟨_, [.obj rb _, .obj b _, .sl lv 256 _, .sl wv 257 _, .mp mb _], _, sub_put (i := 1) rfl (sub_put (i := 5) rfl (sub_put (i := 6) rfl (sub_put (i := 8) rfl (sub_put (i := 10) rfl (sub_nil))))), Sel.perm (by repeat (first | exact Sel.nil | (apply Sel.cons; (repeat (first | exact Ext.here | apply Ext.there))))), ?_⟩
      have he : i - sz = i + 1 - sz := by omega
      have hD2 := hD
      rw [he] at hD2
      exact ⟨D, wv, mb, hD2, hwD, hlD, rfl, rfl, by rw [he]⟩
  rintro m _ _ ⟨D1, wv1, mb1, hR1, hw1, hl2, rfl, rfl, rfl⟩
  have hI2 := hI0.to hR1.up.ok (hl2.trans hlen0.symm) hw1
  have hll1 := turn_len1 (sz := sz) hi
  refine AWp.seq ?_
  refine AWp.region ?_
  refine OpsW.pure rfl rfl (pureOp_move rfl) ?_
  refine OpsW.pure rfl rfl (pureOp_move rfl) ?_
  refine OpsW.pure rfl rfl (pureOp_move rfl) ?_
  refine OpsW.pure rfl rfl (opN_indexSl1 Try.underlying68 Try.sizeOf46 rfl (by assumption) rfl (by rw [hp.len]; omega)) ?_
  refine OpsW.load rfl rfl (loadOp_elem (u := avs.getD i undef) sc46 rfl (by first | exact Rd.ro (by assumption) | exact Rd.of_sl (by repeat (first | exact List.Mem.head _ | apply List.Mem.tail)) (by assumption)) (get_D (by rw [hp.len]; omega))) ?_
  refine OpsW.callA rfl rfl (callOp Try.call38 rfl) (Sel.perm (L' := [.obj rb _, .obj b _, .sl lv 256 _, .sl wv1 257 _, .mp mb1 _]) (by repeat (first | exact Sel.nil | (apply Sel.cons; (repeat (first | exact Ext.here | apply Ext.there)))))) (rapp_c rb b lv wv1 mb1 D1 0 sz (i + 1 - sz) i (avs.getD i undef) (ls.getD i []) _ hI2 (by omega) (by omega) (by omega) (by omega) (by omega) hpi.ro (by omega) (by rw [hR1.wait]; decide)) ?_
  rintro _ _ ⟨wv3, mb3, rfl, hw3, rfl⟩
  obtain ⟨D3, hA3, hR3⟩ := hR1.append (b := ls.getD i []) (Nat.le_of_not_lt ht61) (by omega) (by omega)
  have hl3 := appF_len D1 0 sz (i + 1 - sz) i (ls.getD i [])
  rw [hA3] at hw3 hl3 ⊢
  dsimp only at hw3 hl3 ⊢
  rw [turn_step (by omega) (by omega)] at hR3
  refine OpsW.pure rfl rfl (pureOp_move rfl) ?_
  refine OpsW.pure rfl rfl (pureOp_extract rfl rfl) ?_
  refine OpsW.pure rfl rfl (pureOp_extract rfl rfl) ?_
  refine OpsW.pure rfl rfl (pureOp_assign rfl) ?_
  refine OpsW.pure rfl rfl (pureOp_assign rfl) ?_
  refine OpsW.nil ?_
  refine AWp.forget ?_ (sub_put (i := 1) rfl (sub_put (i := 5) rfl (sub_put (i := 6) rfl (sub_put (i := 8) rfl (sub_put (i := 10) rfl (sub_put (i := 11) rfl (sub_put (i := 12) rfl (sub_nil))))))))
  refine AWp.seq ?_
  refine AWp.region ?_
  refine OpsW.pure rfl rfl (pureOp_move rfl) ?_
  refine OpsW.pure rfl rfl (pureOp_move rfl) ?_
  refine OpsW.pure rfl rfl (opN_neq rfl rfl) ?_
  refine OpsW.knowB (d := 83) (b := false) (by show some (Value.bool (decide _)) = _; rw [decide_eq_false (fun h => h rfl)]) ?_
  refine OpsW.pure rfl rfl (pureOp_move rfl) ?_
  refine OpsW.pure rfl rfl (pureOp_move rfl) ?_
  refine OpsW.pure rfl rfl (opN_neq (b := 0) rfl rfl) ?_
  refine OpsW.knowB (d := 86) (b := false) (by show some (Value.bool (decide _)) = _; rw [decide_eq_false (fun h => h rfl)]) ?_
  refine OpsW.pure rfl rfl (pureOp_pick_false rfl rfl) ?_
  refine OpsW.nil ?_
  refine AWp.forget ?_ (sub_put (i := 1) rfl (sub_put (i := 5) rfl (sub_put (i := 6) rfl (sub_put (i := 8) rfl (sub_put (i := 10) rfl (sub_put (i := 11) rfl (sub_put (i := 12) rfl (sub_put (i := 87) rfl (sub_nil)))))))))
  refine AWp.cond_false rfl ?_
  refine AWp.skip ?_
  refine AWp.region ?_
  refine OpsW.pure rfl rfl (pureOp_move rfl) ?_
  refine OpsW.pure rfl rfl (opN_add (b := 1) rfl rfl (by omega)) ?_
  refine OpsW.pure rfl rfl (pureOp_assign rfl) ?_
  refine OpsW.forget ?_ (sub_put (i := 1) rfl (sub_put (i := 5) rfl (sub_put (i := 6) rfl (sub_put (i := 8) rfl (sub_put (i := 10) rfl (sub_nil))))))
  refine OpsW.keep (L' := [.obj rb _, .obj b _, .sl lv 256 _, .sl wv3 257 _, .mp mb3 _]) (by repeat (first | exact Sel.nil | (apply Sel.cons; (repeat (first | exact Ext.here | apply Ext.there))))) ?_
  refine OpsW.nil ?_
  exact ⟨_, by omega, i + 1, D3, wv3, mb3, rfl, by omega, hR3, hw3, hl3.trans hl2, rfl, rfl, rfl⟩
  obtain rfl : i = ls.length := by omega
  rw [List.take_length] at hD
  refine AWp.exit (exit_here ?_)
  refine AWp.seq ?_
  refine AWp.seq ?_
  have hI1 := hI0.to hD.up.ok (hlD.trans hlen0.symm) hwD
  refine AWp.region ?_
  refine OpsW.pure rfl rfl (pureOp_assign rfl) ?_
  refine OpsW.nil ?_
  refine AWp.forget ?_ (sub_put (i := 1) rfl (sub_put (i := 5) rfl (sub_put (i := 6) rfl (sub_put (i := 8) rfl (sub_put (i := 10) rfl (sub_put (i := 13) rfl (sub_put (i := 53) rfl (sub_nil))))))))
  refine AWp.block ?_
  refine AWp.forget ?_ (sub_put (i := 1) rfl (sub_put (i := 5) rfl (sub_put (i := 6) rfl (sub_put (i := 8) rfl (sub_put (i := 13) rfl (sub_nil))))))
  refine AWp.keep (L' := [.obj rb _, .obj b _, .sl lv 256 _, .sl wv 257 _, .mp mb _]) (by repeat (first | exact Sel.nil | (apply Sel.cons; (repeat (first | exact Ext.here | apply Ext.there))))) ?_
  refine AWp.loop (fun N m' T' L' => ∃ i : Nat, N = ls.length - i ∧ i ≤ ls.length ∧ m' = m ∧ T' = put (put (put (put (put (tnil) 13 (iV i)) 8 (.pointer (some ⟨rb, 0, none⟩))) 6 (.pointer (some ⟨b, 0, none⟩))) 5 (iV sz)) 1 (av) ∧ L' = [.obj rb (rgC b 0 sz (ls.length - sz) ls.length), .obj b [lv, wv, .map (some mb), .int .i64 D.steps, .int .i64 D.fuse, .bool D.down], .sl lv 256 (secC D.last), .sl wv 257 (wrC D.wait), .mp mb (mapC (nowL D.wait))]) _ (⟨0, rfl, Nat.zero_le _, rfl, rfl, rfl⟩) ?_
  rintro _ m _ _ ⟨i, rfl, hi2, rfl, rfl, rfl⟩
  refine AWp.seq ?_
  refine AWp.seq ?_
  refine AWp.region ?_
  refine OpsW.pure rfl rfl (pureOp_move rfl) ?_
  refine OpsW.pure rfl rfl (pureOp_move rfl) ?_
  refine OpsW.pure rfl rfl (opN_len1 ls.length Try.underlying68 rfl (by assumption) hp.len) ?_
  refine OpsW.pure rfl rfl (opN_lss rfl rfl) ?_
  refine OpsW.nil ?_
  refine AWp.forget ?_ (sub_put (i := 1) rfl (sub_put (i := 5) rfl (sub_put (i := 6) rfl (sub_put (i := 8) rfl (sub_put (i := 13) rfl (sub_put (i := 91) rfl (sub_nil)))))))
  refine AWp.condP rfl (fun ht91 => ?_) (fun ht91 => ?_)
  refine AWp.skip ?_
  refine AWp.seq ?_
  refine AWp.block ?_
  refine AWp.seq ?_
  refine AWp.region ?_
  refine OpsW.pure rfl rfl (pureOp_move rfl) ?_
  refine OpsW.pure rfl rfl (pureOp_move rfl) ?_
  refine OpsW.callA rfl rfl (callOp Try.call45 rfl) (Sel.perm (L' := [.obj b _, .sl lv 256 _, .sl wv 257 _, .mp mb _]) (by repeat (first | exact Sel.nil | (apply Sel.cons; (repeat (first | exact Ext.here | apply Ext.there)))))) (rread_c rb b lv wv mb D 0 sz (ls.length - sz) ls.length (i : Int) _ (RgM.of (by repeat (first | exact List.Mem.head _ | apply List.Mem.tail))) hI1 hD.up hD.wait (by omega) (by omega) hD.s.hN (by omega) (by omega)) ?_
  rintro _ _ ⟨v, rfl, hv, rfl⟩
  obtain ⟨ht1, ht2⟩ := turn_read hD (i := i) (by omega)
  obtain ⟨bs, cc, hX⟩ : ∃ bs cc, readR D.last 0 sz (ls.length - sz) ls.length (i : Int) = (bs, cc) := ⟨_, _, rfl⟩
  rw [hX] at hv ht1 ht2 ⊢
  dsimp only at hv ht1 ht2 ⊢
  have hpi := hp.part i (by omega)
  have hpio := hpi.1
  refine OpsW.pure rfl rfl (pureOp_move rfl) ?_
  refine OpsW.pure rfl rfl (pureOp_extract (v := v) rfl rfl) ?_
  refine OpsW.pure rfl rfl (pureOp_extract (v := iV cc) rfl rfl) ?_
  refine OpsW.pure rfl rfl (pureOp_assign rfl) ?_
  refine OpsW.pure rfl rfl (pureOp_assign rfl) ?_
  refine OpsW.nil ?_
  refine AWp.forget ?_ (sub_put (i := 1) rfl (sub_put (i := 5) rfl (sub_put (i := 6) rfl (sub_put (i := 8) rfl (sub_put (i := 13) rfl (sub_put (i := 14) rfl (sub_put (i := 15) rfl (sub_put (i := 91) rfl (sub_nil)))))))))
  refine AWp.seq ?_
  refine AWp.region ?_
  refine OpsW.pure rfl rfl (pureOp_move rfl) ?_
  refine OpsW.pure rfl rfl (pureOp_move rfl) ?_
  refine OpsW.pure rfl rfl (opN_len1 ls.length Try.underlying68 rfl (by assumption) hp.len) ?_
  refine OpsW.pure rfl rfl (pureOp_move rfl) ?_
  refine OpsW.pure rfl rfl (pureOp_subI rfl rfl (by omega)) ?_
  refine OpsW.pure rfl rfl (pureOp_geq rfl rfl) ?_
  refine OpsW.pure rfl rfl (pureOp_assign rfl) ?_
  refine OpsW.nil ?_
  refine AWp.forget ?_ (sub_put (i := 1) rfl (sub_put (i := 5) rfl (sub_put (i := 6) rfl (sub_put (i := 8) rfl (sub_put (i := 13) rfl (sub_put (i := 14) rfl (sub_put (i := 15) rfl (sub_put (i := 16) rfl (sub_put (i := 91) rfl (sub_nil))))))))))
  refine AWp.seq ?_
  refine AWp.joinW (fun m' T' L' => m' = m ∧ T' = put (put (put (put (put (put (tnil) 127 (.bool false)) 13 (iV i)) 8 (.pointer (some ⟨rb, 0, none⟩))) 6 (.pointer (some ⟨b, 0, none⟩))) 5 (iV sz)) 1 (av) ∧ L' = [.obj rb (rgC b 0 sz (ls.length - sz) ls.length), .obj b [lv, wv, .map (some mb), .int .i64 D.steps, .int .i64 D.fuse, .bool D.down], .sl lv 256 (secC D.last), .sl wv 257 (wrC D.wait), .mp mb (mapC (nowL D.wait))]) ?_ ?_
  · skip
    refine AWp.region ?_
    refine OpsW.pure rfl rfl (pureOp_move rfl) ?_
    refine OpsW.splitP (d := 106) rfl (fun h106 => ?_) (fun h106 => ?_)
    · skip
      refine OpsW.pure rfl rfl (pureOp_move rfl) ?_
      refine OpsW.pure rfl rfl (pureOp_move rfl) ?_
      refine OpsW.pure rfl rfl (opN_neq (b := 0) rfl rfl) ?_
      refine OpsW.knowB (d := 109) (b := false) (by show some (Value.bool (decide _)) = _; rw [decide_eq_false (fun h => h (ht1 h106).1)]) ?_
      refine OpsW.pure rfl rfl (pureOp_move rfl) ?_
      refine OpsW.pure rfl rfl (pureOp_move rfl) ?_
      refine OpsW.pure rfl rfl (pureOp_move rfl) ?_
      refine OpsW.pure rfl rfl (pureOp_move rfl) ?_
      refine OpsW.pure rfl rfl (opN_indexSl1 Try.underlying68 Try.sizeOf46 rfl (by assumption) rfl (by rw [hp.len]; omega)) ?_
      refine OpsW.load rfl rfl (loadOp_elem (u := avs.getD i undef) sc46 rfl (by first | exact Rd.ro (by assumption) | exact Rd.of_sl (by repeat (first | exact List.Mem.head _ | apply List.Mem.tail)) (by assumption)) (get_D (by rw [hp.len]; omega))) ?_
      refine OpsW.callA rfl rfl (callOp Try.call33 rfl) permNone (same01_c v (avs.getD i undef) bs (ls.getD i []) _ (Rd.of_sl (by repeat (first | exact List.Mem.head _ | apply List.Mem.tail)) hv) hpi.ro) ?_
      rintro _ _ ⟨rfl, rfl⟩
      refine OpsW.pure rfl rfl (pureOp_notP rfl) ?_
      refine OpsW.knowB (d := 117) (b := false) (by show some (Value.bool (decide _)) = _; rw [decide_eq_false (fun h => h (ht1 h106).2)]) ?_
      refine OpsW.pure rfl rfl (pureOp_pick_false rfl rfl) ?_
      refine OpsW.pure rfl rfl (pureOp_pick_true rfl rfl) ?_
      refine OpsW.pure rfl rfl (pureOp_move rfl) ?_
      refine OpsW.pure rfl rfl (pureOp_move rfl) ?_
      refine OpsW.pure rfl rfl (pureOp_notP rfl) ?_
      refine OpsW.splitP (d := 122) rfl (fun h122 => ?_) (fun h122 => ?_)
      · skip
        refine OpsW.pure rfl rfl (pureOp_move rfl) ?_
        refine OpsW.pure rfl rfl (pureOp_move rfl) ?_
        refine OpsW.pure rfl rfl (opN_neq (b := 8) rfl rfl) ?_
        refine OpsW.knowB (d := 125) (b := false) (by show some (Value.bool (decide _)) = _; rw [decide_eq_false (fun h => h (ht2 (by assumption)))]) ?_
        refine OpsW.pure rfl rfl (pureOp_pick_true rfl rfl) ?_
        refine OpsW.pure rfl rfl (pureOp_pick_false rfl rfl) ?_
        refine OpsW.nil ?_
        refine ⟨_, [.obj rb _, .obj b _, .sl lv 256 _, .sl wv 257 _, .mp mb (mapC (nowL D.wait))], _, sub_put (i := 1) rfl (sub_put (i := 5) rfl (sub_put (i := 6) rfl (sub_put (i := 8) rfl (sub_put (i := 13) rfl (sub_put (i := 127) rfl (sub_nil)))))), Sel.perm (by repeat (first | exact Sel.nil | (apply Sel.cons; (repeat (first | exact Ext.here | apply Ext.there))))), ?_⟩
        exact ⟨rfl, rfl, rfl⟩
      · skip
        refine OpsW.pure rfl rfl (pureOp_move rfl) ?_
        refine OpsW.skipG rfl rfl ?_
        refine OpsW.skipG rfl rfl ?_
        refine OpsW.pure rfl rfl (pureOp_pick_false rfl rfl) ?_
        refine OpsW.pure rfl rfl (pureOp_pick_false rfl rfl) ?_
        refine OpsW.nil ?_
        refine ⟨_, [.obj rb _, .obj b _, .sl lv 256 _, .sl wv 257 _, .mp mb (mapC (nowL D.wait))], _, sub_put (i := 1) rfl (sub_put (i := 5) rfl (sub_put (i := 6) rfl (sub_put (i := 8) rfl (sub_put (i := 13) rfl (sub_put (i := 127) rfl (sub_nil)))))), Sel.perm (by repeat (first | exact Sel.nil | (apply Sel.cons; (repeat (first | exact Ext.here | apply Ext.there))))), ?_⟩
        exact ⟨rfl, rfl, rfl⟩
    · skip
      refine OpsW.pure rfl rfl (pureOp_move rfl) ?_
      refine OpsW.skipG rfl rfl ?_
      refine OpsW.skipG rfl rfl ?_
      refine OpsW.skipG rfl rfl ?_
      refine OpsW.skipG rfl rfl ?_
      refine OpsW.skipG rfl rfl ?_
      refine OpsW.skipG rfl rfl ?_
      refine OpsW.skipG rfl rfl ?_
      refine OpsW.skipG rfl rfl ?_
      refine OpsW.skipG rfl rfl ?_
      refine OpsW.skipG rfl rfl ?_
      refine OpsW.skipG rfl rfl ?_
      refine OpsW.pure rfl rfl (pureOp_pick_false rfl rfl) ?_
      refine OpsW.pure rfl rfl (pureOp_move rfl) ?_
      refine OpsW.pure rfl rfl (pureOp_move rfl) ?_
      refine OpsW.pure rfl rfl (pureOp_notP rfl) ?_
      refine OpsW.splitP (d := 122) rfl (fun h122_1 => ?_) (fun h122_1 => ?_)
      · skip
        refine OpsW.pure rfl rfl (pureOp_move rfl) ?_
        refine OpsW.pure rfl rfl (pureOp_move rfl) ?_
        refine OpsW.pure rfl rfl (opN_neq (b := 8) rfl rfl) ?_
        refine OpsW.knowB (d := 125) (b := false) (by show some (Value.bool (decide _)) = _; rw [decide_eq_false (fun h => h (ht2 (by assumption)))]) ?_
        refine OpsW.pure rfl rfl (pureOp_pick_true rfl rfl) ?_
        refine OpsW.pure rfl rfl (pureOp_pick_false rfl rfl) ?_
        refine OpsW.nil ?_
        refine ⟨_, [.obj rb _, .obj b _, .sl lv 256 _, .sl wv 257 _, .mp mb (mapC (nowL D.wait))], _, sub_put (i := 1) rfl (sub_put (i := 5) rfl (sub_put (i := 6) rfl (sub_put (i := 8) rfl (sub_put (i := 13) rfl (sub_put (i := 127) rfl (sub_nil)))))), Sel.perm (by repeat (first | exact Sel.nil | (apply Sel.cons; (repeat (first | exact Ext.here | apply Ext.there))))), ?_⟩
        exact ⟨rfl, rfl, rfl⟩
      · skip
        refine OpsW.pure rfl rfl (pureOp_move rfl) ?_
        refine OpsW.skipG rfl rfl ?_
        refine OpsW.skipG rfl rfl ?_
        refine OpsW.pure rfl rfl (pureOp_pick_false rfl rfl) ?_
        refine OpsW.pure rfl rfl (pureOp_pick_false rfl rfl) ?_
        refine OpsW.nil ?_
        refine ⟨_, [.obj rb _, .obj b _, .sl lv 256 _, .sl wv 257 _, .mp mb (mapC (nowL D.wait))], _, sub_put (i := 1) rfl (sub_put (i := 5) rfl (sub_put (i := 6) rfl (sub_put (i := 8) rfl (sub_put (i := 13) rfl (sub_put (i := 127) rfl (sub_nil)))))), Sel.perm (by repeat (first | exact Sel.nil | (apply Sel.cons; (repeat (first | exact Ext.here | apply Ext.there))))), ?_⟩
        exact ⟨rfl, rfl, rfl⟩
  rintro m _ _ ⟨rfl, rfl, rfl⟩
  refine AWp.cond_false rfl ?_
  refine AWp.skip ?_
  refine AWp.region ?_
  refine OpsW.pure rfl rfl (pureOp_move rfl) ?_
  refine OpsW.pure rfl rfl (opN_add (b := 1) rfl rfl (by omega)) ?_
  refine OpsW.pure rfl rfl (pureOp_assign rfl) ?_
  refine OpsW.forget ?_ (sub_put (i := 1) rfl (sub_put (i := 5) rfl (sub_put (i := 6) rfl (sub_put (i := 8) rfl (sub_put (i := 13) rfl (sub_nil))))))
  refine OpsW.keep (L' := [.obj rb _, .obj b _, .sl lv 256 _, .sl wv 257 _, .mp mb _]) (by repeat (first | exact Sel.nil | (apply Sel.cons; (repeat (first | exact Ext.here | apply Ext.there))))) ?_
  refine OpsW.nil ?_
  exact ⟨_, by omega, i + 1, rfl, by omega, rfl, rfl, rfl⟩
  obtain rfl : i = ls.length := by omega
  refine AWp.exit (exit_here ?_)
  refine AWp.seq ?_
  refine AWp.region ?_
  refine OpsW.pure rfl rfl (pureOp_move rfl) ?_
  refine OpsW.pure rfl rfl (pureOp_move rfl) ?_
  refine OpsW.pure rfl rfl (opN_len1 ls.length Try.underlying68 rfl (by assumption) hp.len) ?_
  refine OpsW.callA rfl rfl (callOp Try.call45 rfl) (Sel.perm (L' := [.obj b _, .sl lv 256 _, .sl wv 257 _, .mp mb _]) (by repeat (first | exact Sel.nil | (apply Sel.cons; (repeat (first | exact Ext.here | apply Ext.there)))))) (rread_c rb b lv wv mb D 0 sz (ls.length - sz) ls.length ((ls.length : Nat) : Int) _ (RgM.of (by repeat (first | exact List.Mem.head _ | apply List.Mem.tail))) hI1 hD.up hD.wait (by omega) (by omega) hD.s.hN (by omega) (by omega)) ?_
  rintro _ _ ⟨v, rfl, hv, rfl⟩
  rw [read_high (n := ((ls.length : Nat) : Int)) (Int.le_refl _)] at hv ⊢
  dsimp only at hv ⊢
  refine OpsW.pure rfl rfl (pureOp_move rfl) ?_
  refine OpsW.pure rfl rfl (pureOp_extract (v := v) rfl rfl) ?_
  refine OpsW.pure rfl rfl (pureOp_extract (v := iV 8) rfl rfl) ?_
  refine OpsW.pure rfl rfl (pureOp_assign rfl) ?_
  refine OpsW.pure rfl rfl (pureOp_assign rfl) ?_
  refine OpsW.nil ?_
  refine AWp.forget ?_ (sub_put (i := 1) rfl (sub_put (i := 5) rfl (sub_put (i := 6) rfl (sub_put (i := 8) rfl (sub_put (i := 13) rfl (sub_put (i := 18) rfl (sub_put (i := 91) rfl (sub_nil))))))))
  refine AWp.seq ?_
  refine AWp.region ?_
  refine OpsW.pure rfl rfl (pureOp_move rfl) ?_
  refine OpsW.pure rfl rfl (opN_eql (b := 8) rfl rfl) ?_
  refine OpsW.knowB (d := 136) (b := true) (by show some (Value.bool (decide _)) = _; rw [decide_eq_true (rfl)]) ?_
  refine OpsW.pure rfl rfl (pureOp_move rfl) ?_
  refine OpsW.pure rfl rfl (pureOp_move rfl) ?_
  refine OpsW.callA rfl rfl (callOp Try.call46 rfl) (Sel.perm (L' := [.obj b _, .sl lv 256 _, .sl wv 257 _, .mp mb _]) (by repeat (first | exact Sel.nil | (apply Sel.cons; (repeat (first | exact Ext.here | apply Ext.there)))))) (rclean_c rb b lv wv mb D 0 sz (ls.length - sz) ls.length _ (RgM.of (by repeat (first | exact List.Mem.head _ | apply List.Mem.tail))) hI1 hD.up hD.wait (by omega) (by omega) hD.s.hN (by omega) (by omega)) ?_
  rintro _ _ ⟨rfl, rfl⟩
  rw [hD.s.clean]
  refine OpsW.knowB (d := 139) (b := true) rfl ?_
  refine OpsW.pure rfl rfl (pureOp_pick_true rfl rfl) ?_
  refine OpsW.pure rfl rfl (pureOp_move rfl) ?_
  refine OpsW.callA rfl rfl (callOp Try.call28 rfl) permNone (works36_c _) ?_
  rintro _ _ ⟨rfl, rfl⟩
  refine OpsW.knowB (d := 142) (b := true) rfl ?_
  refine OpsW.pure rfl rfl (pureOp_pick_true rfl rfl) ?_
  refine OpsW.pure rfl rfl (pureOp_assign rfl) ?_
  refine OpsW.nil ?_
  refine AWp.forget ?_ (sub_put (i := 1) rfl (sub_put (i := 4) rfl (sub_put (i := 5) rfl (sub_put (i := 6) rfl (sub_put (i := 8) rfl (sub_put (i := 13) rfl (sub_put (i := 18) rfl (sub_put (i := 91) rfl (sub_nil)))))))))
  refine AWp.ret ?_
  exact ⟨_, [], _, permNone, res_tmp rfl rfl, rfl, rfl⟩

end Go.Proofs.Ytpnipajadjeifaa.Sep
