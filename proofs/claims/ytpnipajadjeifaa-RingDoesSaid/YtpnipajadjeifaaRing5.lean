/- The walk of ring.Open. -/
import Derived.Test.YtpnipajadjeifaaRing4
import Derived.Test.YtpnipajadjeifaaProg
namespace Go.Proofs.Ytpnipajadjeifaa.Sep
open Go Go.RowKit
set_option linter.unusedVariables false
set_option linter.unusedSimpArgs false



set_option maxRecDepth 20000 in
set_option maxHeartbeats 4000000 in
theorem ropen_c (b : Nat) (lv wv : Value) (mb : Nat) (D : Dk) (fr sz next tl hd : Nat) (m : Mem) (h : DkI D lv wv) (hu : Up D) (hw0 : D.wait = []) (h2 : 2 ≤ sz) (hs : sz ≤ 256) (hN : fr + sz ≤ D.last.length) (hnx : next ≤ 1099511627776) (htl : (if (foundN D.last fr sz sz).2.2 = true then (foundN D.last fr sz sz).1 else next) = tl) (hhd : (if (foundN D.last fr sz sz).2.2 = true then (foundN D.last fr sz sz).2.1 + 1 else (next : Int)) = (hd : Int)) (hle : tl ≤ hd) (hbig : hd ≤ 4000000000000) (hsz : hd - tl ≤ sz) (hall : ∀ n : Nat, tl ≤ n → n < hd → (readR D.last fr sz tl hd (n : Int)).2 = 0) :
    Ctr Try.prog 41 [.pointer (some ⟨b, 0, none⟩), iV fr, iV sz, iV next] m [.obj b [lv, wv, .map (some mb), .int .i64 D.steps, .int .i64 D.fuse, .bool D.down], .sl lv 256 (secC D.last), .sl wv 257 (wrC D.wait), .mp mb (mapC (nowL D.wait))] (fun _ r L => ∃ rb D' wv' mb', r = .tuple #[.pointer (some ⟨rb, 0, none⟩), iV 0] ∧ Up D' ∧ D'.wait = [] ∧ D'.last = wrote (zs fr sz hd (tl + sz - hd)) D.last ∧ slOk wv' 257 (wrC D'.wait) ∧ L = [.obj rb (rgC b fr sz tl hd), .obj b [lv, wv', .map (some mb'), .int .i64 D'.steps, .int .i64 D'.fuse, .bool D'.down], .sl lv 256 (secC D'.last), .sl wv' 257 (wrC D'.wait), .mp mb' (mapC (nowL D'.wait))]) := by
  have hlen := h.ok.len
  refine Ctr.intro Try.func41 rfl Try.ntmps41 (by simp) fun w0 => ?_
  refine AWp.forget ?_ (sub_put (i := 0) rfl (sub_put (i := 1) rfl (sub_put (i := 2) rfl (sub_put (i := 3) rfl (sub_nil)))))
  refine AWp.seq ?_
  refine AWp.region ?_
  refine OpsW.pure rfl rfl (pureOp_assign rfl) ?_
  refine OpsW.pure rfl rfl (pureOp_assign rfl) ?_
  refine OpsW.nil ?_
  refine AWp.forget ?_ (sub_put (i := 0) rfl (sub_put (i := 1) rfl (sub_put (i := 2) rfl (sub_put (i := 3) rfl (sub_put (i := 8) rfl (sub_put (i := 9) rfl (sub_nil)))))))
  refine AWp.scope (fun _ _ _ _ h => h) ?_
  refine AWp.seq ?_
  refine AWp.region ?_
  refine OpsW.pure rfl rfl (pureOp_move rfl) ?_
  refine OpsW.pure rfl rfl (pureOp_move rfl) ?_
  refine OpsW.pure rfl rfl (pureOp_move rfl) ?_
  refine OpsW.callA rfl rfl (callOp Try.call35 rfl) (Sel.perm (L' := [.obj b _, .sl lv 256 _, .sl wv 257 _, .mp mb _]) (by repeat (first | exact Sel.nil | (apply Sel.cons; (repeat (first | exact Ext.here | apply Ext.there)))))) (rnew_c b lv wv mb D fr sz _ h (by omega) (by omega)) ?_
  rintro _ _ (⟨_, rb, rfl, rfl⟩ | ⟨hno, _⟩)
  rotate_left
  · exact absurd ⟨h2, hs, hN⟩ hno
  refine OpsW.pure rfl rfl (pureOp_move rfl) ?_
  refine OpsW.pure rfl rfl (pureOp_extract rfl rfl) ?_
  refine OpsW.pure rfl rfl (pureOp_extract rfl rfl) ?_
  refine OpsW.pure rfl rfl (pureOp_assign rfl) ?_
  refine OpsW.pure rfl rfl (pureOp_assign rfl) ?_
  refine OpsW.nil ?_
  refine AWp.forget ?_ (sub_put (i := 0) rfl (sub_put (i := 1) rfl (sub_put (i := 2) rfl (sub_put (i := 3) rfl (sub_put (i := 8) rfl (sub_put (i := 9) rfl (sub_put (i := 10) rfl (sub_put (i := 11) rfl (sub_nil)))))))))
  refine AWp.seq ?_
  refine AWp.seq ?_
  refine AWp.region ?_
  refine OpsW.pure rfl rfl (pureOp_move rfl) ?_
  refine OpsW.pure rfl rfl (opN_neq (b := 0) rfl rfl) ?_
  refine OpsW.knowB (d := 26) (b := false) (by show some (Value.bool (decide _)) = _; rw [decide_eq_false (fun h => h rfl)]) ?_
  refine OpsW.nil ?_
  refine AWp.forget ?_ (sub_put (i := 0) rfl (sub_put (i := 1) rfl (sub_put (i := 2) rfl (sub_put (i := 3) rfl (sub_put (i := 8) rfl (sub_put (i := 9) rfl (sub_put (i := 10) rfl (sub_put (i := 11) rfl (sub_put (i := 26) rfl (sub_nil))))))))))
  refine AWp.cond_false rfl ?_
  refine AWp.skip ?_
  refine AWp.seq ?_
  refine AWp.seq ?_
  refine AWp.region ?_
  refine OpsW.pure rfl rfl (pureOp_move rfl) ?_
  refine OpsW.pure rfl rfl (opN_lss (b := 0) rfl rfl) ?_
  refine OpsW.knowB (d := 29) (b := false) (by show some (Value.bool (decide _)) = _; rw [decide_eq_false (Nat.not_lt_zero _)]) ?_
  refine OpsW.pure rfl rfl (pureOp_move rfl) ?_
  refine OpsW.pure rfl rfl (pureOp_move rfl) ?_
  refine OpsW.pure rfl rfl (opN_gtr (b := 1099511627776) rfl rfl) ?_
  refine OpsW.knowB (d := 32) (b := false) (by show some (Value.bool (decide _)) = _; rw [decide_eq_false (Nat.not_lt.2 hnx)]) ?_
  refine OpsW.pure rfl rfl (pureOp_pick_false rfl rfl) ?_
  refine OpsW.nil ?_
  refine AWp.forget ?_ (sub_put (i := 0) rfl (sub_put (i := 1) rfl (sub_put (i := 2) rfl (sub_put (i := 3) rfl (sub_put (i := 8) rfl (sub_put (i := 9) rfl (sub_put (i := 10) rfl (sub_put (i := 11) rfl (sub_put (i := 26) rfl (sub_put (i := 33) rfl (sub_nil)))))))))))
  refine AWp.cond_false rfl ?_
  refine AWp.skip ?_
  refine AWp.seq ?_
  refine AWp.region ?_
  refine OpsW.pure rfl rfl (pureOp_move rfl) ?_
  refine OpsW.callA rfl rfl (callOp Try.call92 rfl) (Sel.perm (L' := [.obj b _, .sl lv 256 _, .sl wv 257 _, .mp mb _]) (by repeat (first | exact Sel.nil | (apply Sel.cons; (repeat (first | exact Ext.here | apply Ext.there)))))) (rfound_c rb b lv wv mb D fr sz 0 0 _ (RgM.of (by repeat (first | exact List.Mem.head _ | apply List.Mem.tail))) h hu hw0 (by omega) hs hN (Nat.le_refl _) (by omega)) ?_
  rintro _ _ ⟨rfl, rfl⟩
  obtain ⟨F, hF⟩ : ∃ F, F = foundN D.last fr sz sz := ⟨_, rfl⟩
  rw [← hF] at htl hhd ⊢
  refine OpsW.pure rfl rfl (pureOp_move rfl) ?_
  refine OpsW.pure rfl rfl (pureOp_extract (v := iV F.1) rfl rfl) ?_
  refine OpsW.pure rfl rfl (pureOp_extract (v := .int .i64 F.2.1) rfl rfl) ?_
  refine OpsW.pure rfl rfl (pureOp_extract (v := .bool F.2.2) rfl rfl) ?_
  refine OpsW.pure rfl rfl (pureOp_extract (v := iV 0) rfl rfl) ?_
  refine OpsW.pure rfl rfl (pureOp_assign rfl) ?_
  refine OpsW.pure rfl rfl (pureOp_assign rfl) ?_
  refine OpsW.pure rfl rfl (pureOp_assign rfl) ?_
  refine OpsW.pure rfl rfl (pureOp_assign rfl) ?_
  refine OpsW.nil ?_
  refine AWp.forget ?_ (sub_put (i := 0) rfl (sub_put (i := 1) rfl (sub_put (i := 2) rfl (sub_put (i := 3) rfl (sub_put (i := 8) rfl (sub_put (i := 9) rfl (sub_put (i := 10) rfl (sub_put (i := 11) rfl (sub_put (i := 12) rfl (sub_put (i := 13) rfl (sub_put (i := 14) rfl (sub_put (i := 26) rfl (sub_put (i := 33) rfl (sub_nil))))))))))))))
  refine AWp.seq ?_
  refine AWp.seq ?_
  refine AWp.region ?_
  refine OpsW.pure rfl rfl (pureOp_move rfl) ?_
  refine OpsW.pure rfl rfl (opN_neq (b := 0) rfl rfl) ?_
  refine OpsW.knowB (d := 42) (b := false) (by show some (Value.bool (decide _)) = _; rw [decide_eq_false (fun h => h rfl)]) ?_
  refine OpsW.nil ?_
  refine AWp.forget ?_ (sub_put (i := 0) rfl (sub_put (i := 1) rfl (sub_put (i := 2) rfl (sub_put (i := 3) rfl (sub_put (i := 8) rfl (sub_put (i := 9) rfl (sub_put (i := 10) rfl (sub_put (i := 11) rfl (sub_put (i := 12) rfl (sub_put (i := 13) rfl (sub_put (i := 14) rfl (sub_put (i := 26) rfl (sub_put (i := 33) rfl (sub_put (i := 42) rfl (sub_nil)))))))))))))))
  refine AWp.cond_false rfl ?_
  refine AWp.skip ?_
  refine AWp.seq ?_
  refine AWp.seq ?_
  refine AWp.region ?_
  refine OpsW.pure rfl rfl (pureOp_move rfl) ?_
  refine OpsW.pure rfl rfl (pureOp_move rfl) ?_
  refine OpsW.pure rfl rfl (pureOp_move rfl) ?_
  refine OpsW.pure rfl rfl (pureOp_move rfl) ?_
  refine OpsW.pure rfl rfl (pureOp_nilCheck rfl) ?_
  refine OpsW.pure rfl rfl (pureOp_fieldAddr fa144_3 rfl) ?_
  refine OpsW.upd rfl rfl (by repeat (first | exact Pos.here | apply Pos.there)) (lop_store1 Try.sizeOf3 rfl rfl (by first | rfl | assumption | exact one_sl (by assumption)) (rg_lt (by decide))) ?_
  rintro _ _ ⟨rfl, rfl⟩
  refine OpsW.pure rfl rfl (pureOp_nilCheck rfl) ?_
  refine OpsW.pure rfl rfl (pureOp_fieldAddr fa144_4 rfl) ?_
  refine OpsW.upd rfl rfl (by repeat (first | exact Pos.here | apply Pos.there)) (lop_store1 Try.sizeOf3 rfl rfl (by first | rfl | assumption | exact one_sl (by assumption)) (by rw [List.length_set]; exact rg_lt (by decide))) ?_
  rintro _ _ ⟨rfl, rfl⟩
  refine OpsW.nil ?_
  refine AWp.forget ?_ (sub_put (i := 0) rfl (sub_put (i := 1) rfl (sub_put (i := 2) rfl (sub_put (i := 3) rfl (sub_put (i := 8) rfl (sub_put (i := 9) rfl (sub_put (i := 10) rfl (sub_put (i := 11) rfl (sub_put (i := 12) rfl (sub_put (i := 13) rfl (sub_put (i := 14) rfl (sub_put (i := 26) rfl (sub_put (i := 33) rfl (sub_put (i := 42) rfl (sub_nil)))))))))))))))
  refine AWp.seq ?_
  refine AWp.region ?_
  refine OpsW.pure rfl rfl (pureOp_move rfl) ?_
  refine OpsW.nil ?_
  refine AWp.forget ?_ (sub_put (i := 0) rfl (sub_put (i := 1) rfl (sub_put (i := 2) rfl (sub_put (i := 3) rfl (sub_put (i := 8) rfl (sub_put (i := 9) rfl (sub_put (i := 10) rfl (sub_put (i := 11) rfl (sub_put (i := 12) rfl (sub_put (i := 13) rfl (sub_put (i := 14) rfl (sub_put (i := 26) rfl (sub_put (i := 33) rfl (sub_put (i := 42) rfl (sub_put (i := 52) rfl (sub_nil))))))))))))))))
  refine AWp.joinW (fun m' T' L' => m' = m ∧ T' = put (put (tnil) 10 (.pointer (some ⟨rb, 0, none⟩))) 2 (iV sz) ∧ L' = [.obj rb (rgC b fr sz tl hd), .obj b [lv, wv, .map (some mb), .int .i64 D.steps, .int .i64 D.fuse, .bool D.down], .sl lv 256 (secC D.last), .sl wv 257 (wrC D.wait), .mp mb (mapC (nowL D.wait))]) ?_ ?_
  · skip
    refine AWp.cond rfl (fun ht52 => ?_) (fun ht52 => ?_)
    · skip
      rw [if_pos ht52] at htl hhd
      refine AWp.region ?_
      refine OpsW.pure rfl rfl (pureOp_move rfl) ?_
      refine OpsW.pure rfl rfl (pureOp_move rfl) ?_
      refine OpsW.pure rfl rfl (pureOp_move rfl) ?_
      refine OpsW.pure rfl rfl (pureOp_move rfl) ?_
      refine OpsW.pure rfl rfl (pureOp_addI rfl rfl (by omega)) ?_
      refine OpsW.pure rfl rfl (pureOp_nilCheck rfl) ?_
      refine OpsW.pure rfl rfl (pureOp_fieldAddr fa144_3 rfl) ?_
      refine OpsW.upd rfl rfl (by repeat (first | exact Pos.here | apply Pos.there)) (lop_store1 Try.sizeOf3 rfl rfl (by first | rfl | assumption | exact one_sl (by assumption)) (by rw [List.length_set, List.length_set]; exact rg_lt (by decide))) ?_
      rintro _ _ ⟨rfl, rfl⟩
      refine OpsW.pure rfl rfl (pureOp_nilCheck rfl) ?_
      refine OpsW.pure rfl rfl (pureOp_fieldAddr fa144_4 rfl) ?_
      refine OpsW.upd rfl rfl (by repeat (first | exact Pos.here | apply Pos.there)) (lop_store1 Try.sizeOf3 rfl rfl (by first | rfl | assumption | exact one_sl (by assumption)) (by rw [List.length_set, List.length_set, List.length_set]; exact rg_lt (by decide))) ?_
      rintro _ _ ⟨rfl, rfl⟩
      refine OpsW.nil ?_
      refine ⟨_, [.obj rb _, .obj b _, .sl lv 256 _, .sl wv 257 _, .mp mb (mapC (nowL D.wait))], _, sub_put (i := 2) rfl (sub_put (i := 10) rfl (sub_nil)), Sel.perm (by repeat (first | exact Sel.nil | (apply Sel.cons; (repeat (first | exact Ext.here | apply Ext.there))))), ?_⟩
      first
        | exact ⟨rfl, rfl, (by rw [rgC_set2 htl hhd])⟩
        | exact ⟨rfl, rfl, (by rw [if_neg (by rw [ht52]; decide)] at htl hhd; rw [rgC_set1 htl hhd])⟩
    · skip
      refine AWp.skip ?_
      refine ⟨_, [.obj rb _, .obj b _, .sl lv 256 _, .sl wv 257 _, .mp mb (mapC (nowL D.wait))], _, sub_put (i := 2) rfl (sub_put (i := 10) rfl (sub_nil)), Sel.perm (by repeat (first | exact Sel.nil | (apply Sel.cons; (repeat (first | exact Ext.here | apply Ext.there))))), ?_⟩
      first
        | exact ⟨rfl, rfl, (by rw [rgC_set2 htl hhd])⟩
        | exact ⟨rfl, rfl, (by rw [if_neg (by rw [ht52]; decide)] at htl hhd; rw [rgC_set1 htl hhd])⟩
  rintro m _ _ ⟨rfl, rfl, rfl⟩
  refine AWp.seq ?_
  refine AWp.seq ?_
  refine AWp.region ?_
  refine OpsW.pure rfl rfl (pureOp_move rfl) ?_
  refine OpsW.callA rfl rfl (callOp Try.call43 rfl) permNone (rlen_c rb b fr sz tl hd _ (RgM.of (by repeat (first | exact List.Mem.head _ | apply List.Mem.tail))) hle hbig) ?_
  rintro _ _ ⟨rfl, rfl⟩
  refine OpsW.pure rfl rfl (pureOp_move rfl) ?_
  refine OpsW.pure rfl rfl (opN_gtr rfl rfl) ?_
  refine OpsW.knowB (d := 65) (b := false) (by show some (Value.bool (decide _)) = _; rw [decide_eq_false (Nat.not_lt.2 hsz)]) ?_
  refine OpsW.nil ?_
  refine AWp.forget ?_ (sub_put (i := 2) rfl (sub_put (i := 10) rfl (sub_put (i := 65) rfl (sub_nil))))
  refine AWp.cond_false rfl ?_
  refine AWp.skip ?_
  refine AWp.seq ?_
  refine AWp.label ?_
  refine AWp.seq ?_
  refine AWp.seq ?_
  refine AWp.region ?_
  refine OpsW.pure rfl rfl (pureOp_move rfl) ?_
  refine OpsW.pure rfl rfl (pureOp_nilCheck rfl) ?_
  refine OpsW.pure rfl rfl (pureOp_fieldAddr fa144_3 rfl) ?_
  refine OpsW.load rfl rfl (loadOp_obj sc3 rfl (by repeat (first | exact List.Mem.head _ | apply List.Mem.tail)) rfl) ?_
  refine OpsW.pure rfl rfl (pureOp_assign rfl) ?_
  refine OpsW.nil ?_
  refine AWp.forget ?_ (sub_put (i := 2) rfl (sub_put (i := 10) rfl (sub_put (i := 15) rfl (sub_put (i := 65) rfl (sub_nil)))))
  refine AWp.block ?_
  refine AWp.forget ?_ (sub_put (i := 10) rfl (sub_put (i := 15) rfl (sub_nil)))
  refine AWp.loop (fun N m' T' L' => ∃ n : Nat, N = hd - n ∧ tl ≤ n ∧ n ≤ hd ∧ m' = m ∧ T' = put (put (tnil) 15 (iV n)) 10 (.pointer (some ⟨rb, 0, none⟩)) ∧ L' = [.obj rb (rgC b fr sz tl hd), .obj b [lv, wv, .map (some mb), .int .i64 D.steps, .int .i64 D.fuse, .bool D.down], .sl lv 256 (secC D.last), .sl wv 257 (wrC D.wait), .mp mb (mapC (nowL D.wait))]) _ (⟨tl, rfl, Nat.le_refl _, hle, rfl, rfl, rfl⟩) ?_
  rintro _ m _ _ ⟨n, rfl, hn1, hn2, rfl, rfl, rfl⟩
  refine AWp.seq ?_
  refine AWp.seq ?_
  refine AWp.region ?_
  refine OpsW.pure rfl rfl (pureOp_move rfl) ?_
  refine OpsW.pure rfl rfl (pureOp_move rfl) ?_
  refine OpsW.pure rfl rfl (pureOp_nilCheck rfl) ?_
  refine OpsW.pure rfl rfl (pureOp_fieldAddr fa144_4 rfl) ?_
  refine OpsW.load rfl rfl (loadOp_obj sc3 rfl (by repeat (first | exact List.Mem.head _ | apply List.Mem.tail)) rfl) ?_
  refine OpsW.pure rfl rfl (opN_lss rfl rfl) ?_
  refine OpsW.nil ?_
  refine AWp.forget ?_ (sub_put (i := 10) rfl (sub_put (i := 15) rfl (sub_put (i := 75) rfl (sub_nil))))
  refine AWp.condP rfl (fun ht75 => ?_) (fun ht75 => ?_)
  refine AWp.skip ?_
  refine AWp.seq ?_
  refine AWp.block ?_
  refine AWp.seq ?_
  refine AWp.region ?_
  refine OpsW.pure rfl rfl (pureOp_move rfl) ?_
  refine OpsW.pure rfl rfl (pureOp_move rfl) ?_
  refine OpsW.callA rfl rfl (callOp Try.call45 rfl) (Sel.perm (L' := [.obj b _, .sl lv 256 _, .sl wv 257 _, .mp mb _]) (by repeat (first | exact Sel.nil | (apply Sel.cons; (repeat (first | exact Ext.here | apply Ext.there)))))) (rread_c rb b lv wv mb D fr sz tl hd (n : Int) _ (RgM.of (by repeat (first | exact List.Mem.head _ | apply List.Mem.tail))) h hu hw0 (by omega) hs hN hle hbig) ?_
  rintro _ _ ⟨v, rfl, hv, rfl⟩
  rw [hall n (by omega) (by omega)]
  refine OpsW.pure rfl rfl (pureOp_move rfl) ?_
  refine OpsW.pure rfl rfl (pureOp_extract rfl rfl) ?_
  refine OpsW.pure rfl rfl (pureOp_extract rfl rfl) ?_
  refine OpsW.pure rfl rfl (pureOp_assign rfl) ?_
  refine OpsW.pure rfl rfl (pureOp_assign rfl) ?_
  refine OpsW.nil ?_
  refine AWp.forget ?_ (sub_put (i := 10) rfl (sub_put (i := 15) rfl (sub_put (i := 17) rfl (sub_put (i := 75) rfl (sub_nil)))))
  refine AWp.seq ?_
  refine AWp.region ?_
  refine OpsW.pure rfl rfl (pureOp_move rfl) ?_
  refine OpsW.pure rfl rfl (opN_neq (b := 0) rfl rfl) ?_
  refine OpsW.knowB (d := 85) (b := false) (by show some (Value.bool (decide _)) = _; rw [decide_eq_false (fun h => h rfl)]) ?_
  refine OpsW.nil ?_
  refine AWp.forget ?_ (sub_put (i := 10) rfl (sub_put (i := 15) rfl (sub_put (i := 17) rfl (sub_put (i := 75) rfl (sub_put (i := 85) rfl (sub_nil))))))
  refine AWp.cond_false rfl ?_
  refine AWp.skip ?_
  refine AWp.region ?_
  refine OpsW.pure rfl rfl (pureOp_move rfl) ?_
  refine OpsW.pure rfl rfl (opN_add (b := 1) rfl rfl (by omega)) ?_
  refine OpsW.pure rfl rfl (pureOp_assign rfl) ?_
  refine OpsW.forget ?_ (sub_put (i := 10) rfl (sub_put (i := 15) rfl (sub_nil)))
  refine OpsW.keep (L' := [.obj rb _, .obj b _, .sl lv 256 _, .sl wv 257 _, .mp mb (mapC (nowL D.wait))]) (by repeat (first | exact Sel.nil | (apply Sel.cons; (repeat (first | exact Ext.here | apply Ext.there))))) ?_
  refine OpsW.nil ?_
  exact ⟨_, by omega, n + 1, rfl, by omega, by omega, rfl, rfl, rfl⟩
  refine AWp.exit (exit_here ?_)
  refine AWp.seq ?_
  refine AWp.region ?_
  refine OpsW.pure rfl rfl (pureOp_move rfl) ?_
  refine OpsW.pure rfl rfl (pureOp_move rfl) ?_
  refine OpsW.callA rfl rfl (callOp Try.call93 rfl) (Sel.perm (L' := [.obj b _, .sl lv 256 _, .sl wv 257 _, .mp mb _]) (by repeat (first | exact Sel.nil | (apply Sel.cons; (repeat (first | exact Ext.here | apply Ext.there)))))) (rscrub_c rb b lv wv mb D fr sz tl hd _ (RgM.of (by repeat (first | exact List.Mem.head _ | apply List.Mem.tail))) h hu hw0 (by omega) hs hN hle hbig) ?_
  rintro _ _ ⟨D2, wv2, mb2, rfl, hU2, hw2, hl2, hs2, rfl⟩
  refine OpsW.pure rfl rfl (pureOp_assign rfl) ?_
  refine OpsW.pure rfl rfl (pureOp_assign rfl) ?_
  refine OpsW.nil ?_
  refine AWp.forget ?_ (sub_put (i := 8) rfl (sub_put (i := 9) rfl (sub_put (i := 10) rfl (sub_put (i := 15) rfl (sub_put (i := 75) rfl (sub_nil))))))
  refine AWp.ret ?_
  exact ⟨_, [.obj rb _, .obj b _, .sl lv 256 _, .sl wv2 257 _, .mp mb2 _], _, Sel.perm (by repeat (first | exact Sel.nil | (apply Sel.cons; (repeat (first | exact Ext.here | apply Ext.there))))), res_tmp2 rfl rfl rfl, rb, D2, wv2, mb2, rfl, hU2, hw2, hl2, hs2, rfl⟩

end Go.Proofs.Ytpnipajadjeifaa.Sep
