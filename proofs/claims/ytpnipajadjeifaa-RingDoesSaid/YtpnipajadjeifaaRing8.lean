/- The walks of works (ring) and of RingSectors. -/
import Derived.Test.YtpnipajadjeifaaRing7
import Derived.Test.YtpnipajadjeifaaRingH
import Derived.Test.YtpnipajadjeifaaProg
namespace Go.Proofs.Ytpnipajadjeifaa.Sep
open Go Go.RowKit
set_option linter.unusedVariables false
set_option linter.unusedSimpArgs false



set_option maxRecDepth 20000 in
set_option maxHeartbeats 8000000 in
theorem works36_c  (m : Mem) :
    Ctr Try.prog 28 [] m [] (fun _ r L => r = .bool true ∧ L = []) := by
  refine Ctr.intro Try.func28 rfl Try.ntmps28 (by simp) fun w0 => ?_
  refine AWp.forget ?_ (sub_nil)
  refine AWp.seq ?_
  refine AWp.region ?_
  refine OpsW.pure rfl rfl (pureOp_assign rfl) ?_
  refine OpsW.nil ?_
  refine AWp.forget ?_ (sub_put (i := 0) rfl (sub_nil))
  refine AWp.seq ?_
  refine AWp.region ?_
  refine OpsW.callA rfl rfl (callOp Try.call21 rfl) permNone (dnew_c 9 _ (by decide)) ?_
  rintro _ _ (⟨h1, _⟩ | ⟨_, b, lv, mb0, rfl, hI0, rfl⟩)
  · omega
  obtain ⟨wv0, hwv⟩ : ∃ wv, wv = Value.slice none 0 0 := ⟨_, rfl⟩
  have hR0 : RI (newF 9) 2 3 0 0 [] := .new (by decide) (by decide) (by decide) (by decide)
  obtain ⟨D0, hD0⟩ : ∃ D0, D0 = newF 9 := ⟨_, rfl⟩
  have hlen0 : D0.last.length = 9 := by rw [hD0, new_len]
  rw [← hwv, ← hD0] at hI0 ⊢
  rw [← hD0] at hR0
  refine OpsW.pure rfl rfl (pureOp_move rfl) ?_
  refine OpsW.pure rfl rfl (pureOp_extract rfl rfl) ?_
  refine OpsW.pure rfl rfl (pureOp_extract rfl rfl) ?_
  refine OpsW.pure rfl rfl (pureOp_assign rfl) ?_
  refine OpsW.pure rfl rfl (pureOp_assign rfl) ?_
  refine OpsW.nil ?_
  refine AWp.forget ?_ (sub_put (i := 0) rfl (sub_put (i := 1) rfl (sub_nil)))
  refine AWp.seq ?_
  refine AWp.seq ?_
  refine AWp.region ?_
  refine OpsW.pure rfl rfl (pureOp_move rfl) ?_
  refine OpsW.pure rfl rfl (opP_isNil Try.underlying48 rfl) ?_
  refine OpsW.nil ?_
  refine AWp.forget ?_ (sub_put (i := 0) rfl (sub_put (i := 1) rfl (sub_put (i := 33) rfl (sub_nil))))
  refine AWp.cond_false rfl ?_
  refine AWp.skip ?_
  refine AWp.seq ?_
  refine AWp.region ?_
  refine OpsW.pure rfl rfl (pureOp_move rfl) ?_
  refine OpsW.callA rfl rfl (callOp Try.call35 rfl) (Sel.perm (L' := [.obj b _, .sl lv 256 _, .sl wv0 257 _, .mp mb0 _]) (by repeat (first | exact Sel.nil | (apply Sel.cons; (repeat (first | exact Ext.here | apply Ext.there)))))) (rnew_c b lv wv0 mb0 D0 2 3 _ hI0 (by decide) (by decide)) ?_
  rintro _ _ (⟨_, rb, rfl, rfl⟩ | ⟨hno, _⟩)
  rotate_left
  · exact absurd ⟨by decide, by decide, by omega⟩ hno
  refine OpsW.pure rfl rfl (pureOp_move rfl) ?_
  refine OpsW.pure rfl rfl (pureOp_extract rfl rfl) ?_
  refine OpsW.pure rfl rfl (pureOp_extract rfl rfl) ?_
  refine OpsW.pure rfl rfl (pureOp_assign rfl) ?_
  refine OpsW.pure rfl rfl (pureOp_assign rfl) ?_
  refine OpsW.nil ?_
  refine AWp.forget ?_ (sub_put (i := 0) rfl (sub_put (i := 1) rfl (sub_put (i := 3) rfl (sub_put (i := 4) rfl (sub_put (i := 33) rfl (sub_nil))))))
  refine AWp.seq ?_
  refine AWp.region ?_
  refine OpsW.pure rfl rfl (pureOp_move rfl) ?_
  refine OpsW.callA rfl rfl (callOp Try.call35 rfl) (Sel.perm (L' := [.obj b _, .sl lv 256 _, .sl wv0 257 _, .mp mb0 _]) (by repeat (first | exact Sel.nil | (apply Sel.cons; (repeat (first | exact Ext.here | apply Ext.there)))))) (rnew_c b lv wv0 mb0 D0 7 3 _ hI0 (by decide) (by decide)) ?_
  rintro _ _ (⟨hyes, _⟩ | ⟨_, rfl, rfl⟩)
  · omega
  refine OpsW.pure rfl rfl (pureOp_move rfl) ?_
  refine OpsW.pure rfl rfl (pureOp_extract rfl rfl) ?_
  refine OpsW.pure rfl rfl (pureOp_extract rfl rfl) ?_
  refine OpsW.pure rfl rfl (pureOp_assign rfl) ?_
  refine OpsW.pure rfl rfl (pureOp_assign rfl) ?_
  refine OpsW.nil ?_
  refine AWp.forget ?_ (sub_put (i := 0) rfl (sub_put (i := 1) rfl (sub_put (i := 3) rfl (sub_put (i := 4) rfl (sub_put (i := 6) rfl (sub_put (i := 33) rfl (sub_nil)))))))
  refine AWp.seq ?_
  refine AWp.region ?_
  refine OpsW.callA rfl rfl (callOp Try.call35 rfl) permNone (rnewnil_c 0 3 _) ?_
  rintro _ _ ⟨rfl, rfl⟩
  refine OpsW.pure rfl rfl (pureOp_move rfl) ?_
  refine OpsW.pure rfl rfl (pureOp_extract rfl rfl) ?_
  refine OpsW.pure rfl rfl (pureOp_extract rfl rfl) ?_
  refine OpsW.pure rfl rfl (pureOp_assign rfl) ?_
  refine OpsW.pure rfl rfl (pureOp_assign rfl) ?_
  refine OpsW.nil ?_
  refine AWp.forget ?_ (sub_put (i := 0) rfl (sub_put (i := 1) rfl (sub_put (i := 3) rfl (sub_put (i := 4) rfl (sub_put (i := 6) rfl (sub_put (i := 8) rfl (sub_put (i := 33) rfl (sub_nil))))))))
  refine AWp.seq ?_
  refine AWp.seq ?_
  refine AWp.region ?_
  refine OpsW.pure rfl rfl (pureOp_move rfl) ?_
  refine OpsW.pure rfl rfl (opP_isNil Try.underlying65 rfl) ?_
  refine OpsW.nil ?_
  refine AWp.forget ?_ (sub_put (i := 0) rfl (sub_put (i := 1) rfl (sub_put (i := 3) rfl (sub_put (i := 4) rfl (sub_put (i := 6) rfl (sub_put (i := 8) rfl (sub_put (i := 33) rfl (sub_put (i := 49) rfl (sub_nil)))))))))
  refine AWp.cond_false rfl ?_
  refine AWp.skip ?_
  refine AWp.seq ?_
  refine AWp.region ?_
  refine OpsW.pure rfl rfl (pureOp_move rfl) ?_
  refine OpsW.alloc rfl rfl (allocOp_buildSlice slt46 rfl rfl (by first | exact cells_rfl rfl | simp [Value.cells]) (by decide)) ?_
  rintro v51 _ ⟨hv51, hn51, rfl⟩
  rw [show List.flatMap (fun x : Value => x.cells.toList) [.int .u8 97] = [(97 : UInt8)].map bV from rfl] at hv51 ⊢
  refine OpsW.upd rfl rfl (by repeat (first | exact Pos.here | apply Pos.there)) (lop_convMark Try.underlying46 Try.underlying5 rfl (by assumption)) ?_
  rintro u _ ⟨e, rfl⟩
  rw [e]
  clear e
  refine OpsW.callA rfl rfl (callOp Try.call38 rfl) (Sel.perm (L' := [.obj rb _, .obj b _, .sl lv 256 _, .sl wv0 257 _, .mp mb0 _]) (by repeat (first | exact Sel.nil | (apply Sel.cons; (repeat (first | exact Ext.here | apply Ext.there)))))) (rapp_c rb b lv wv0 mb0 D0 2 3 0 0 v51 [97] _ hI0 (by decide) (by decide) (by have := hR0.s.hN; omega) (by decide) (by decide) (Rd.of_sl (by repeat (first | exact List.Mem.head _ | apply List.Mem.tail)) hv51) (by decide) (by rw [hR0.wait]; decide)) ?_
  rintro _ _ ⟨wv1, mb1, rfl, hw1, rfl⟩
  obtain ⟨D1, hA1, hR1⟩ := hR0.append (b := [97]) (by decide) (by decide) (by decide)
  have hl1 := appF_len D0 2 3 0 0 [97]
  rw [hA1] at hw1 hl1 ⊢
  dsimp only at hw1 hl1 ⊢
  have hI1 := hI0.to hR1.up.ok hl1 hw1
  refine OpsW.nil ?_
  refine AWp.forget ?_ (sub_put (i := 0) rfl (sub_put (i := 1) rfl (sub_put (i := 3) rfl (sub_put (i := 4) rfl (sub_put (i := 6) rfl (sub_put (i := 8) rfl (sub_put (i := 33) rfl (sub_put (i := 49) rfl (sub_nil)))))))))
  refine AWp.seq ?_
  refine AWp.region ?_
  refine OpsW.pure rfl rfl (pureOp_move rfl) ?_
  refine OpsW.alloc rfl rfl (allocOp_buildSlice slt46 rfl rfl (by first | exact cells_rfl rfl | simp [Value.cells]) (by decide)) ?_
  rintro v56 _ ⟨hv56, hn56, rfl⟩
  rw [show List.flatMap (fun x : Value => x.cells.toList) [.int .u8 98] = [(98 : UInt8)].map bV from rfl] at hv56 ⊢
  refine OpsW.upd rfl rfl (by repeat (first | exact Pos.here | apply Pos.there)) (lop_convMark Try.underlying46 Try.underlying5 rfl (by assumption)) ?_
  rintro u _ ⟨e, rfl⟩
  rw [e]
  clear e
  refine OpsW.callA rfl rfl (callOp Try.call38 rfl) (Sel.perm (L' := [.obj rb _, .obj b _, .sl lv 256 _, .sl wv1 257 _, .mp mb1 _]) (by repeat (first | exact Sel.nil | (apply Sel.cons; (repeat (first | exact Ext.here | apply Ext.there)))))) (rapp_c rb b lv wv1 mb1 D1 2 3 0 1 v56 [98] _ hI1 (by decide) (by decide) (by have := hR1.s.hN; omega) (by decide) (by decide) (Rd.of_sl (by repeat (first | exact List.Mem.head _ | apply List.Mem.tail)) hv56) (by decide) (by rw [hR1.wait]; decide)) ?_
  rintro _ _ ⟨wv2, mb2, rfl, hw2, rfl⟩
  obtain ⟨D2, hA2, hR2⟩ := hR1.append (b := [98]) (by decide) (by decide) (by decide)
  have hl2 := appF_len D1 2 3 0 1 [98]
  rw [hA2] at hw2 hl2 ⊢
  dsimp only at hw2 hl2 ⊢
  have hI2 := hI1.to hR2.up.ok hl2 hw2
  refine OpsW.pure rfl rfl (pureOp_move rfl) ?_
  refine OpsW.pure rfl rfl (pureOp_extract rfl rfl) ?_
  refine OpsW.pure rfl rfl (pureOp_extract rfl rfl) ?_
  refine OpsW.pure rfl rfl (pureOp_assign rfl) ?_
  refine OpsW.pure rfl rfl (pureOp_assign rfl) ?_
  refine OpsW.nil ?_
  refine AWp.forget ?_ (sub_put (i := 0) rfl (sub_put (i := 1) rfl (sub_put (i := 3) rfl (sub_put (i := 4) rfl (sub_put (i := 6) rfl (sub_put (i := 8) rfl (sub_put (i := 9) rfl (sub_put (i := 10) rfl (sub_put (i := 33) rfl (sub_put (i := 49) rfl (sub_nil)))))))))))
  refine AWp.seq ?_
  refine AWp.region ?_
  refine OpsW.pure rfl rfl (pureOp_move rfl) ?_
  refine OpsW.alloc rfl rfl (allocOp_buildSlice slt46 rfl rfl (by first | exact cells_rfl rfl | simp [Value.cells]) (by decide)) ?_
  rintro v62 _ ⟨hv62, hn62, rfl⟩
  rw [show List.flatMap (fun x : Value => x.cells.toList) [.int .u8 99] = [(99 : UInt8)].map bV from rfl] at hv62 ⊢
  refine OpsW.upd rfl rfl (by repeat (first | exact Pos.here | apply Pos.there)) (lop_convMark Try.underlying46 Try.underlying5 rfl (by assumption)) ?_
  rintro u _ ⟨e, rfl⟩
  rw [e]
  clear e
  refine OpsW.callA rfl rfl (callOp Try.call38 rfl) (Sel.perm (L' := [.obj rb _, .obj b _, .sl lv 256 _, .sl wv2 257 _, .mp mb2 _]) (by repeat (first | exact Sel.nil | (apply Sel.cons; (repeat (first | exact Ext.here | apply Ext.there)))))) (rapp_c rb b lv wv2 mb2 D2 2 3 0 2 v62 [99] _ hI2 (by decide) (by decide) (by have := hR2.s.hN; omega) (by decide) (by decide) (Rd.of_sl (by repeat (first | exact List.Mem.head _ | apply List.Mem.tail)) hv62) (by decide) (by rw [hR2.wait]; decide)) ?_
  rintro _ _ ⟨wv3, mb3, rfl, hw3, rfl⟩
  obtain ⟨D3, hA3, hR3⟩ := hR2.append (b := [99]) (by decide) (by decide) (by decide)
  have hl3 := appF_len D2 2 3 0 2 [99]
  rw [hA3] at hw3 hl3 ⊢
  dsimp only at hw3 hl3 ⊢
  have hI3 := hI2.to hR3.up.ok hl3 hw3
  refine OpsW.nil ?_
  refine AWp.forget ?_ (sub_put (i := 0) rfl (sub_put (i := 1) rfl (sub_put (i := 3) rfl (sub_put (i := 4) rfl (sub_put (i := 6) rfl (sub_put (i := 8) rfl (sub_put (i := 9) rfl (sub_put (i := 10) rfl (sub_put (i := 33) rfl (sub_put (i := 49) rfl (sub_nil)))))))))))
  refine AWp.seq ?_
  refine AWp.region ?_
  refine OpsW.pure rfl rfl (pureOp_move rfl) ?_
  refine OpsW.alloc rfl rfl (allocOp_buildSlice slt46 rfl rfl (by first | exact cells_rfl rfl | simp [Value.cells]) (by decide)) ?_
  rintro v67 _ ⟨hv67, hn67, rfl⟩
  rw [show List.flatMap (fun x : Value => x.cells.toList) [.int .u8 100] = [(100 : UInt8)].map bV from rfl] at hv67 ⊢
  refine OpsW.upd rfl rfl (by repeat (first | exact Pos.here | apply Pos.there)) (lop_convMark Try.underlying46 Try.underlying5 rfl (by assumption)) ?_
  rintro u _ ⟨e, rfl⟩
  rw [e]
  clear e
  refine OpsW.callA rfl rfl (callOp Try.call38 rfl) (Sel.perm (L' := [.obj rb _, .obj b _, .sl lv 256 _, .sl wv3 257 _, .mp mb3 _]) (by repeat (first | exact Sel.nil | (apply Sel.cons; (repeat (first | exact Ext.here | apply Ext.there)))))) (rapp_c rb b lv wv3 mb3 D3 2 3 0 3 v67 [100] _ hI3 (by decide) (by decide) (by have := hR3.s.hN; omega) (by decide) (by decide) (Rd.of_sl (by repeat (first | exact List.Mem.head _ | apply List.Mem.tail)) hv67) (by decide) (by rw [hR3.wait]; decide)) ?_
  rintro _ _ ⟨wv4, mb4, rfl, hw4, rfl⟩
  have hA4 := hR3.append_full [100] (by decide)
  rw [hA4] at hw4 ⊢
  dsimp only at hw4 ⊢
  have hI4 := hI3.to hR3.up.ok rfl hw4
  refine OpsW.pure rfl rfl (pureOp_move rfl) ?_
  refine OpsW.pure rfl rfl (pureOp_extract rfl rfl) ?_
  refine OpsW.pure rfl rfl (pureOp_extract rfl rfl) ?_
  refine OpsW.pure rfl rfl (pureOp_assign rfl) ?_
  refine OpsW.pure rfl rfl (pureOp_assign rfl) ?_
  refine OpsW.nil ?_
  refine AWp.forget ?_ (sub_put (i := 0) rfl (sub_put (i := 1) rfl (sub_put (i := 3) rfl (sub_put (i := 4) rfl (sub_put (i := 6) rfl (sub_put (i := 8) rfl (sub_put (i := 9) rfl (sub_put (i := 10) rfl (sub_put (i := 12) rfl (sub_put (i := 33) rfl (sub_put (i := 49) rfl (sub_nil))))))))))))
  refine AWp.seq ?_
  refine AWp.region ?_
  refine OpsW.pure rfl rfl (pureOp_move rfl) ?_
  refine OpsW.callA rfl rfl (callOp Try.call36 rfl) (Sel.perm (L' := [.obj rb _, .obj b _, .sl lv 256 _, .sl wv4 257 _, .mp mb4 _]) (by repeat (first | exact Sel.nil | (apply Sel.cons; (repeat (first | exact Ext.here | apply Ext.there)))))) (rdrop_c rb b lv wv4 mb4 D3 2 3 0 3 2 _ hI4 (by decide) (by decide) hR3.s.hN (by decide) (by decide) hR3.wait (by decide)) ?_
  rintro _ _ ⟨wv5, mb5, rfl, hw5, rfl⟩
  obtain ⟨D5, hA5, hR5⟩ := hR3.drop 2 (n := 0) (by decide)
  have hl5 := dropN_len 2 3 2 D3 0 0
  rw [show min 2 3 - 0 = 2 from rfl, hA5] at hw5 ⊢
  rw [hA5] at hl5
  dsimp only at hw5 hl5 ⊢
  have hI5 := hI4.to hR5.up.ok hl5 hw5
  have hR5 : RI D5 2 3 2 3 [[99]] := hR5
  refine OpsW.pure rfl rfl (pureOp_move rfl) ?_
  refine OpsW.pure rfl rfl (pureOp_extract rfl rfl) ?_
  refine OpsW.pure rfl rfl (pureOp_extract rfl rfl) ?_
  refine OpsW.pure rfl rfl (pureOp_assign rfl) ?_
  refine OpsW.pure rfl rfl (pureOp_assign rfl) ?_
  refine OpsW.nil ?_
  refine AWp.forget ?_ (sub_put (i := 0) rfl (sub_put (i := 1) rfl (sub_put (i := 3) rfl (sub_put (i := 4) rfl (sub_put (i := 6) rfl (sub_put (i := 8) rfl (sub_put (i := 9) rfl (sub_put (i := 10) rfl (sub_put (i := 12) rfl (sub_put (i := 13) rfl (sub_put (i := 14) rfl (sub_put (i := 33) rfl (sub_put (i := 49) rfl (sub_nil))))))))))))))
  refine AWp.seq ?_
  refine AWp.region ?_
  refine OpsW.pure rfl rfl (pureOp_move rfl) ?_
  refine OpsW.callA rfl rfl (callOp Try.call45 rfl) (Sel.perm (L' := [.obj b _, .sl lv 256 _, .sl wv5 257 _, .mp mb5 _]) (by repeat (first | exact Sel.nil | (apply Sel.cons; (repeat (first | exact Ext.here | apply Ext.there)))))) (rread_c rb b lv wv5 mb5 D5 2 3 2 3 2 _ (RgM.of (by repeat (first | exact List.Mem.head _ | apply List.Mem.tail))) hI5 hR5.up hR5.wait (by decide) (by decide) hR5.s.hN (by decide) (by decide)) ?_
  rintro _ _ ⟨v79, rfl, hv79, rfl⟩
  rw [show readR D5.last 2 3 2 3 2 = ([99], 0) from hR5.s.read (i := 0) (by decide)] at hv79 ⊢
  dsimp only at hv79 ⊢
  refine OpsW.pure rfl rfl (pureOp_move rfl) ?_
  refine OpsW.pure rfl rfl (pureOp_extract (v := v79) rfl rfl) ?_
  refine OpsW.pure rfl rfl (pureOp_extract rfl rfl) ?_
  refine OpsW.pure rfl rfl (pureOp_assign rfl) ?_
  refine OpsW.pure rfl rfl (pureOp_assign rfl) ?_
  refine OpsW.nil ?_
  refine AWp.forget ?_ (sub_put (i := 0) rfl (sub_put (i := 1) rfl (sub_put (i := 3) rfl (sub_put (i := 4) rfl (sub_put (i := 6) rfl (sub_put (i := 8) rfl (sub_put (i := 9) rfl (sub_put (i := 10) rfl (sub_put (i := 12) rfl (sub_put (i := 13) rfl (sub_put (i := 14) rfl (sub_put (i := 15) rfl (sub_put (i := 16) rfl (sub_put (i := 33) rfl (sub_put (i := 49) rfl (sub_nil))))))))))))))))
  refine AWp.seq ?_
  refine AWp.region ?_
  refine OpsW.pure rfl rfl (pureOp_move rfl) ?_
  refine OpsW.callA rfl rfl (callOp Try.call45 rfl) (Sel.perm (L' := [.obj b _, .sl lv 256 _, .sl wv5 257 _, .mp mb5 _]) (by repeat (first | exact Sel.nil | (apply Sel.cons; (repeat (first | exact Ext.here | apply Ext.there)))))) (rread_c rb b lv wv5 mb5 D5 2 3 2 3 1 _ (RgM.of (by repeat (first | exact List.Mem.head _ | apply List.Mem.tail))) hI5 hR5.up hR5.wait (by decide) (by decide) hR5.s.hN (by decide) (by decide)) ?_
  rintro _ _ ⟨v84, rfl, hv84, rfl⟩
  rw [read_low (n := 1) (by decide)] at hv84 ⊢
  dsimp only at hv84 ⊢
  refine OpsW.pure rfl rfl (pureOp_move rfl) ?_
  refine OpsW.pure rfl rfl (pureOp_extract (v := v84) rfl rfl) ?_
  refine OpsW.pure rfl rfl (pureOp_extract rfl rfl) ?_
  refine OpsW.pure rfl rfl (pureOp_assign rfl) ?_
  refine OpsW.pure rfl rfl (pureOp_assign rfl) ?_
  refine OpsW.nil ?_
  refine AWp.forget ?_ (sub_put (i := 0) rfl (sub_put (i := 1) rfl (sub_put (i := 3) rfl (sub_put (i := 4) rfl (sub_put (i := 6) rfl (sub_put (i := 8) rfl (sub_put (i := 9) rfl (sub_put (i := 10) rfl (sub_put (i := 12) rfl (sub_put (i := 13) rfl (sub_put (i := 14) rfl (sub_put (i := 15) rfl (sub_put (i := 16) rfl (sub_put (i := 18) rfl (sub_put (i := 33) rfl (sub_put (i := 49) rfl (sub_nil)))))))))))))))))
  refine AWp.seq ?_
  refine AWp.region ?_
  refine OpsW.pure rfl rfl (pureOp_move rfl) ?_
  refine OpsW.callA rfl rfl (callOp Try.call41 rfl) (Sel.perm (L' := [.obj b _, .sl lv 256 _, .sl wv5 257 _, .mp mb5 _]) (by repeat (first | exact Sel.nil | (apply Sel.cons; (repeat (first | exact Ext.here | apply Ext.there)))))) (ropen_c b lv wv5 mb5 D5 2 3 0 2 3 _ hI5 hR5.up hR5.wait (by decide) (by decide) hR5.s.hN (by decide) (hR5.s.ends (next := 0) (fun h => by cases h)).1 (hR5.s.ends (next := 0) (fun h => by cases h)).2 (by decide) (by decide) (by decide) hR5.s.hall) ?_
  rintro _ _ ⟨rb2, D6, wv6, mb6, rfl, hU6, hw6, hl6, hs6, rfl⟩
  have hR6 := hR5.opened hU6 hw6 hl6
  have hI6 := hI5.to hU6.ok (by rw [hl6, wrote_len]) hs6
  refine OpsW.pure rfl rfl (pureOp_move rfl) ?_
  refine OpsW.pure rfl rfl (pureOp_extract rfl rfl) ?_
  refine OpsW.pure rfl rfl (pureOp_extract rfl rfl) ?_
  refine OpsW.pure rfl rfl (pureOp_assign rfl) ?_
  refine OpsW.pure rfl rfl (pureOp_assign rfl) ?_
  refine OpsW.nil ?_
  refine AWp.forget ?_ (sub_put (i := 0) rfl (sub_put (i := 1) rfl (sub_put (i := 3) rfl (sub_put (i := 4) rfl (sub_put (i := 6) rfl (sub_put (i := 8) rfl (sub_put (i := 9) rfl (sub_put (i := 10) rfl (sub_put (i := 12) rfl (sub_put (i := 13) rfl (sub_put (i := 14) rfl (sub_put (i := 15) rfl (sub_put (i := 16) rfl (sub_put (i := 18) rfl (sub_put (i := 19) rfl (sub_put (i := 20) rfl (sub_put (i := 33) rfl (sub_put (i := 49) rfl (sub_nil)))))))))))))))))))
  refine AWp.seq ?_
  refine AWp.seq ?_
  refine AWp.region ?_
  refine OpsW.pure rfl rfl (pureOp_move rfl) ?_
  refine OpsW.pure rfl rfl (opP_isNil Try.underlying65 rfl) ?_
  refine OpsW.nil ?_
  refine AWp.forget ?_ (sub_put (i := 0) rfl (sub_put (i := 1) rfl (sub_put (i := 3) rfl (sub_put (i := 4) rfl (sub_put (i := 6) rfl (sub_put (i := 8) rfl (sub_put (i := 9) rfl (sub_put (i := 10) rfl (sub_put (i := 12) rfl (sub_put (i := 13) rfl (sub_put (i := 14) rfl (sub_put (i := 15) rfl (sub_put (i := 16) rfl (sub_put (i := 18) rfl (sub_put (i := 19) rfl (sub_put (i := 20) rfl (sub_put (i := 33) rfl (sub_put (i := 49) rfl (sub_put (i := 93) rfl (sub_nil))))))))))))))))))))
  refine AWp.cond_false rfl ?_
  refine AWp.skip ?_
  refine AWp.seq ?_
  refine AWp.region ?_
  refine OpsW.pure rfl rfl (pureOp_move rfl) ?_
  refine OpsW.callA rfl rfl (callOp Try.call88 rfl) (Sel.perm (L' := [.obj b _, .sl lv 256 _, .sl wv6 257 _, .mp mb6 _]) (by repeat (first | exact Sel.nil | (apply Sel.cons; (repeat (first | exact Ext.here | apply Ext.there)))))) (rall_c rb2 b lv wv6 mb6 D6 2 3 2 3 _ (RgM.of (by repeat (first | exact List.Mem.head _ | apply List.Mem.tail))) hI6 hR6.up hR6.wait (by decide) (by decide) hR6.s.hN (by decide) (by decide) hR6.s.hall) ?_
  rintro _ _ ⟨v96, vs, μ, rfl, hv96, hparts, rfl⟩
  have hvl := hparts.len
  rw [allL_length] at hvl
  refine OpsW.pure rfl rfl (pureOp_move rfl) ?_
  refine OpsW.pure rfl rfl (pureOp_extract (v := v96) rfl rfl) ?_
  refine OpsW.pure rfl rfl (pureOp_extract (v := iV 0) rfl rfl) ?_
  refine OpsW.pure rfl rfl (pureOp_assign rfl) ?_
  refine OpsW.pure rfl rfl (pureOp_assign rfl) ?_
  refine OpsW.nil ?_
  refine AWp.forget ?_ (sub_put (i := 0) rfl (sub_put (i := 1) rfl (sub_put (i := 3) rfl (sub_put (i := 4) rfl (sub_put (i := 6) rfl (sub_put (i := 8) rfl (sub_put (i := 9) rfl (sub_put (i := 10) rfl (sub_put (i := 12) rfl (sub_put (i := 13) rfl (sub_put (i := 14) rfl (sub_put (i := 15) rfl (sub_put (i := 16) rfl (sub_put (i := 18) rfl (sub_put (i := 19) rfl (sub_put (i := 20) rfl (sub_put (i := 21) rfl (sub_put (i := 22) rfl (sub_put (i := 33) rfl (sub_put (i := 49) rfl (sub_put (i := 93) rfl (sub_nil))))))))))))))))))))))
  refine AWp.seq ?_
  refine AWp.region ?_
  refine OpsW.alloc rfl rfl (allocOp_buildSlice slt46 rfl rfl (by first | exact cells_rfl rfl | simp [Value.cells]) (by decide)) ?_
  rintro v100 _ ⟨hv100, hn100, rfl⟩
  rw [show List.flatMap (fun x : Value => x.cells.toList) [.int .u8 122] = [(122 : UInt8)].map bV from rfl] at hv100 ⊢
  refine OpsW.upd rfl rfl (by repeat (first | exact Pos.here | apply Pos.there)) (lop_convMark Try.underlying46 Try.underlying5 rfl (by assumption)) ?_
  rintro u _ ⟨e, rfl⟩
  rw [e]
  clear e
  refine OpsW.callA rfl rfl (callOp Try.call29 rfl) permNone (rput_c 7 v100 [122] _ (Rd.of_sl (by repeat (first | exact List.Mem.head _ | apply List.Mem.tail)) hv100) (by decide)) ?_
  rintro _ _ ⟨rfl, rfl⟩
  rw [show putR 7 [122] = (secF (ringB 7 [122]), 0) from putR_ok (n := 7) (by decide) (by decide)]
  dsimp only
  obtain ⟨hx1, hx2, hx3⟩ := ring_back (n := 7) (b := [122]) (by decide) (by decide)
  obtain ⟨x, hx⟩ : ∃ x, x = secF (ringB 7 [122]) := ⟨_, rfl⟩
  have hxl : x.length = 256 := by rw [hx]; exact secF_length (by rw [ringB_length]; decide)
  rw [← hx] at hx1 hx2 hx3 ⊢
  have hxm : (x.map bV).length = 256 := by rw [List.length_map]; exact hxl
  refine OpsW.pure rfl rfl (pureOp_move rfl) ?_
  refine OpsW.pure rfl rfl (pureOp_extract rfl rfl) ?_
  refine OpsW.pure rfl rfl (pureOp_extract rfl rfl) ?_
  refine OpsW.alloc rfl rfl (allocOp_alloc zt24) ?_
  rintro _ _ ⟨b23, rfl, rfl⟩
  refine OpsW.upd rfl rfl (by repeat (first | exact Pos.here | apply Pos.there)) (lop_storeAllN 256 Try.sizeOf24 rfl rfl List.length_replicate hxm (by first | exact one_map (fun _ => rfl) _ | exact one_rfl rfl | exact one_sup _ | (simp [one, *]; done))) ?_
  rintro _ _ ⟨rfl, rfl⟩
  refine OpsW.pure rfl rfl (pureOp_assign rfl) ?_
  refine OpsW.nil ?_
  refine AWp.forget ?_ (sub_put (i := 0) rfl (sub_put (i := 1) rfl (sub_put (i := 3) rfl (sub_put (i := 4) rfl (sub_put (i := 6) rfl (sub_put (i := 8) rfl (sub_put (i := 9) rfl (sub_put (i := 10) rfl (sub_put (i := 12) rfl (sub_put (i := 13) rfl (sub_put (i := 14) rfl (sub_put (i := 15) rfl (sub_put (i := 16) rfl (sub_put (i := 18) rfl (sub_put (i := 19) rfl (sub_put (i := 20) rfl (sub_put (i := 21) rfl (sub_put (i := 22) rfl (sub_put (i := 23) rfl (sub_put (i := 24) rfl (sub_put (i := 33) rfl (sub_put (i := 49) rfl (sub_put (i := 93) rfl (sub_nil))))))))))))))))))))))))
  refine AWp.seq ?_
  refine AWp.region ?_
  refine OpsW.load rfl rfl (loadAll rfl (by repeat (first | exact List.Mem.head _ | apply List.Mem.tail)) hxm ag24) ?_
  refine OpsW.callA rfl rfl (callOp Try.call31 rfl) permNone (rget_c x _ hxl) ?_
  rintro _ _ ⟨k, v107, bs, rfl, hv107, hg, rfl⟩
  obtain ⟨hk, hbs⟩ := hg hx1
  rw [hx2] at hk
  rw [hx3] at hbs
  subst hk hbs
  rw [decide_eq_true hx1]
  refine OpsW.pure rfl rfl (pureOp_move rfl) ?_
  refine OpsW.pure rfl rfl (pureOp_extract (v := iV 7) rfl rfl) ?_
  refine OpsW.pure rfl rfl (pureOp_extract (v := v107) rfl rfl) ?_
  refine OpsW.pure rfl rfl (pureOp_extract (v := .bool true) rfl rfl) ?_
  refine OpsW.pure rfl rfl (pureOp_assign rfl) ?_
  refine OpsW.pure rfl rfl (pureOp_assign rfl) ?_
  refine OpsW.pure rfl rfl (pureOp_assign rfl) ?_
  refine OpsW.nil ?_
  refine AWp.forget ?_ (sub_put (i := 0) rfl (sub_put (i := 1) rfl (sub_put (i := 3) rfl (sub_put (i := 4) rfl (sub_put (i := 6) rfl (sub_put (i := 8) rfl (sub_put (i := 9) rfl (sub_put (i := 10) rfl (sub_put (i := 12) rfl (sub_put (i := 13) rfl (sub_put (i := 14) rfl (sub_put (i := 15) rfl (sub_put (i := 16) rfl (sub_put (i := 18) rfl (sub_put (i := 19) rfl (sub_put (i := 20) rfl (sub_put (i := 21) rfl (sub_put (i := 22) rfl (sub_put (i := 23) rfl (sub_put (i := 24) rfl (sub_put (i := 25) rfl (sub_put (i := 26) rfl (sub_put (i := 27) rfl (sub_put (i := 33) rfl (sub_put (i := 49) rfl (sub_put (i := 93) rfl (sub_nil)))))))))))))))))))))))))))
  refine AWp.seq ?_
  refine AWp.region ?_
  refine OpsW.pure rfl rfl (pureOp_move rfl) ?_
  refine OpsW.pure rfl rfl (opN_eql (b := 0) rfl rfl) ?_
  refine OpsW.knowB (d := 112) (b := true) rfl ?_
  refine OpsW.pure rfl rfl (pureOp_move rfl) ?_
  refine OpsW.pure rfl rfl (pureOp_move rfl) ?_
  refine OpsW.pure rfl rfl (opN_eql (b := 2) rfl rfl) ?_
  refine OpsW.knowB (d := 115) (b := true) rfl ?_
  refine OpsW.pure rfl rfl (pureOp_pick_true rfl rfl) ?_
  refine OpsW.pure rfl rfl (pureOp_move rfl) ?_
  refine OpsW.pure rfl rfl (pureOp_move rfl) ?_
  refine OpsW.pure rfl rfl (opN_eql (b := 1) rfl rfl) ?_
  refine OpsW.knowB (d := 119) (b := true) rfl ?_
  refine OpsW.pure rfl rfl (pureOp_pick_true rfl rfl) ?_
  refine OpsW.pure rfl rfl (pureOp_move rfl) ?_
  refine OpsW.pure rfl rfl (pureOp_move rfl) ?_
  refine OpsW.pure rfl rfl (opN_eql (b := 1) rfl rfl) ?_
  refine OpsW.knowB (d := 123) (b := true) rfl ?_
  refine OpsW.pure rfl rfl (pureOp_pick_true rfl rfl) ?_
  refine OpsW.pure rfl rfl (pureOp_move rfl) ?_
  refine OpsW.pure rfl rfl (pureOp_move rfl) ?_
  refine OpsW.pure rfl rfl (opN_eql (b := 0) rfl rfl) ?_
  refine OpsW.knowB (d := 127) (b := true) rfl ?_
  refine OpsW.pure rfl rfl (pureOp_pick_true rfl rfl) ?_
  refine OpsW.pure rfl rfl (pureOp_move rfl) ?_
  refine OpsW.pure rfl rfl (pureOp_move rfl) ?_
  refine OpsW.pure rfl rfl (opN_eql (b := 6) rfl rfl) ?_
  refine OpsW.knowB (d := 131) (b := true) rfl ?_
  refine OpsW.pure rfl rfl (pureOp_pick_true rfl rfl) ?_
  refine OpsW.pure rfl rfl (pureOp_move rfl) ?_
  refine OpsW.pure rfl rfl (pureOp_move rfl) ?_
  refine OpsW.pure rfl rfl (opN_eql (b := 2) rfl rfl) ?_
  refine OpsW.knowB (d := 135) (b := true) rfl ?_
  refine OpsW.pure rfl rfl (pureOp_pick_true rfl rfl) ?_
  refine OpsW.pure rfl rfl (pureOp_move rfl) ?_
  refine OpsW.pure rfl rfl (pureOp_move rfl) ?_
  refine OpsW.pure rfl rfl (opN_eql (b := 0) rfl rfl) ?_
  refine OpsW.knowB (d := 139) (b := true) rfl ?_
  refine OpsW.pure rfl rfl (pureOp_pick_true rfl rfl) ?_
  refine OpsW.pure rfl rfl (pureOp_move rfl) ?_
  refine OpsW.pure rfl rfl (pureOp_move rfl) ?_
  refine OpsW.load rfl rfl (loadOp_toString Try.underlying46 Try.underlying5 Try.underlying9 rfl (Rd.of_sl (by repeat (first | exact List.Mem.head _ | apply List.Mem.tail)) hv79)) ?_
  refine OpsW.pure rfl rfl (opS_eql (a := [99]) (b := [99]) rfl rfl) ?_
  refine OpsW.knowB (d := 144) (b := true) rfl ?_
  refine OpsW.pure rfl rfl (pureOp_pick_true rfl rfl) ?_
  refine OpsW.pure rfl rfl (pureOp_move rfl) ?_
  refine OpsW.pure rfl rfl (pureOp_move rfl) ?_
  refine OpsW.pure rfl rfl (opN_eql (b := 0) rfl rfl) ?_
  refine OpsW.knowB (d := 148) (b := true) rfl ?_
  refine OpsW.pure rfl rfl (pureOp_pick_true rfl rfl) ?_
  refine OpsW.pure rfl rfl (pureOp_move rfl) ?_
  refine OpsW.pure rfl rfl (pureOp_move rfl) ?_
  refine OpsW.pure rfl rfl (opN_eql (b := 8) rfl rfl) ?_
  refine OpsW.knowB (d := 152) (b := true) rfl ?_
  refine OpsW.pure rfl rfl (pureOp_pick_true rfl rfl) ?_
  refine OpsW.pure rfl rfl (pureOp_move rfl) ?_
  refine OpsW.pure rfl rfl (pureOp_move rfl) ?_
  refine OpsW.pure rfl rfl (opN_eql (b := 0) rfl rfl) ?_
  refine OpsW.knowB (d := 156) (b := true) rfl ?_
  refine OpsW.pure rfl rfl (pureOp_pick_true rfl rfl) ?_
  refine OpsW.pure rfl rfl (pureOp_move rfl) ?_
  refine OpsW.pure rfl rfl (pureOp_move rfl) ?_
  refine OpsW.pure rfl rfl (opN_len1 1 Try.underlying68 rfl (by assumption) hvl) ?_
  refine OpsW.pure rfl rfl (opN_eql (b := 1) rfl rfl) ?_
  refine OpsW.knowB (d := 161) (b := true) rfl ?_
  refine OpsW.pure rfl rfl (pureOp_pick_true rfl rfl) ?_
  refine OpsW.pure rfl rfl (pureOp_move rfl) ?_
  refine OpsW.pure rfl rfl (pureOp_move rfl) ?_
  refine OpsW.pure rfl rfl (opN_eql (b := 0) rfl rfl) ?_
  refine OpsW.knowB (d := 165) (b := true) rfl ?_
  refine OpsW.pure rfl rfl (pureOp_pick_true rfl rfl) ?_
  refine OpsW.pure rfl rfl (pureOp_move rfl) ?_
  refine OpsW.pure rfl rfl (pureOp_move rfl) ?_
  refine OpsW.callA rfl rfl (callOp Try.call44 rfl) permNone (rfirst_c rb2 b 2 3 2 3 _ (RgM.of (by repeat (first | exact List.Mem.head _ | apply List.Mem.tail)))) ?_
  rintro _ _ ⟨rfl, rfl⟩
  refine OpsW.pure rfl rfl (opN_eql (b := 2) rfl rfl) ?_
  refine OpsW.knowB (d := 170) (b := true) rfl ?_
  refine OpsW.pure rfl rfl (pureOp_pick_true rfl rfl) ?_
  refine OpsW.pure rfl rfl (pureOp_move rfl) ?_
  refine OpsW.pure rfl rfl (pureOp_move rfl) ?_
  refine OpsW.callA rfl rfl (callOp Try.call42 rfl) permNone (rnext_c rb2 b 2 3 2 3 _ (RgM.of (by repeat (first | exact List.Mem.head _ | apply List.Mem.tail)))) ?_
  rintro _ _ ⟨rfl, rfl⟩
  refine OpsW.pure rfl rfl (opN_eql (b := 3) rfl rfl) ?_
  refine OpsW.knowB (d := 175) (b := true) rfl ?_
  refine OpsW.pure rfl rfl (pureOp_pick_true rfl rfl) ?_
  refine OpsW.pure rfl rfl (pureOp_move rfl) ?_
  refine OpsW.pure rfl rfl (pureOp_move rfl) ?_
  refine OpsW.callA rfl rfl (callOp Try.call43 rfl) permNone (rlen_c rb2 b 2 3 2 3 _ (RgM.of (by repeat (first | exact List.Mem.head _ | apply List.Mem.tail))) (by decide) (by decide)) ?_
  rintro _ _ ⟨rfl, rfl⟩
  refine OpsW.pure rfl rfl (opN_eql (b := 1) rfl rfl) ?_
  refine OpsW.knowB (d := 180) (b := true) rfl ?_
  refine OpsW.pure rfl rfl (pureOp_pick_true rfl rfl) ?_
  refine OpsW.pure rfl rfl (pureOp_move rfl) ?_
  refine OpsW.pure rfl rfl (pureOp_move rfl) ?_
  refine OpsW.callA rfl rfl (callOp Try.call46 rfl) (Sel.perm (L' := [.obj b _, .sl lv 256 _, .sl wv6 257 _, .mp mb6 _]) (by repeat (first | exact Sel.nil | (apply Sel.cons; (repeat (first | exact Ext.here | apply Ext.there)))))) (rclean_c rb b lv wv6 mb6 D6 2 3 2 3 _ (RgM.of (by repeat (first | exact List.Mem.head _ | apply List.Mem.tail))) hI6 hR6.up hR6.wait (by decide) (by decide) hR6.s.hN (by decide) (by decide)) ?_
  rintro _ _ ⟨rfl, rfl⟩
  rw [show cleanB D6.last 2 3 3 (2 + 3 - 3) = true from hR6.s.clean]
  refine OpsW.knowB (d := 184) (b := true) rfl ?_
  refine OpsW.pure rfl rfl (pureOp_pick_true rfl rfl) ?_
  refine OpsW.pure rfl rfl (pureOp_move rfl) ?_
  refine OpsW.pure rfl rfl (pureOp_move rfl) ?_
  refine OpsW.pure rfl rfl (opN_eql (b := 0) rfl rfl) ?_
  refine OpsW.knowB (d := 188) (b := true) rfl ?_
  refine OpsW.pure rfl rfl (pureOp_pick_true rfl rfl) ?_
  refine OpsW.pure rfl rfl (pureOp_move rfl) ?_
  refine OpsW.pure rfl rfl (pureOp_move rfl) ?_
  refine OpsW.pure rfl rfl (opN_eql (b := 7) rfl rfl) ?_
  refine OpsW.knowB (d := 192) (b := true) rfl ?_
  refine OpsW.pure rfl rfl (pureOp_pick_true rfl rfl) ?_
  refine OpsW.pure rfl rfl (pureOp_move rfl) ?_
  refine OpsW.pure rfl rfl (pureOp_move rfl) ?_
  refine OpsW.load rfl rfl (loadOp_toString Try.underlying46 Try.underlying5 Try.underlying9 rfl (Rd.of_sl (by repeat (first | exact List.Mem.head _ | apply List.Mem.tail)) hv107)) ?_
  refine OpsW.pure rfl rfl (opS_eql (a := [122]) (b := [122]) rfl rfl) ?_
  refine OpsW.knowB (d := 197) (b := true) rfl ?_
  refine OpsW.pure rfl rfl (pureOp_pick_true rfl rfl) ?_
  refine OpsW.pure rfl rfl (pureOp_move rfl) ?_
  refine OpsW.pure rfl rfl (pureOp_move rfl) ?_
  refine OpsW.pure rfl rfl (pureOp_pick_true rfl rfl) ?_
  refine OpsW.pure rfl rfl (pureOp_assign rfl) ?_
  refine OpsW.nil ?_
  refine AWp.forget ?_ (sub_put (i := 0) rfl (sub_put (i := 1) rfl (sub_put (i := 3) rfl (sub_put (i := 4) rfl (sub_put (i := 6) rfl (sub_put (i := 8) rfl (sub_put (i := 9) rfl (sub_put (i := 10) rfl (sub_put (i := 12) rfl (sub_put (i := 13) rfl (sub_put (i := 14) rfl (sub_put (i := 15) rfl (sub_put (i := 16) rfl (sub_put (i := 18) rfl (sub_put (i := 19) rfl (sub_put (i := 20) rfl (sub_put (i := 21) rfl (sub_put (i := 22) rfl (sub_put (i := 23) rfl (sub_put (i := 24) rfl (sub_put (i := 25) rfl (sub_put (i := 26) rfl (sub_put (i := 27) rfl (sub_put (i := 33) rfl (sub_put (i := 49) rfl (sub_put (i := 93) rfl (sub_nil)))))))))))))))))))))))))))
  refine AWp.ret ?_
  exact ⟨_, [], _, permNone, res_tmp rfl rfl, rfl, rfl⟩

end Go.Proofs.Ytpnipajadjeifaa.Sep
