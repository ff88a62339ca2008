/- The walks of ring.Read, Clean, scrub, found. -/
import Derived.Test.YtpnipajadjeifaaRing2
import Derived.Test.YtpnipajadjeifaaProg
namespace Go.Proofs.Ytpnipajadjeifaa.Sep
open Go Go.RowKit
set_option linter.unusedVariables false
set_option linter.unusedSimpArgs false
theorem fa144_0 : FieldAt Try.prog 144 0 0 := by
  intro b o w
  simp [Instr.fieldAt, Try.runUnderlying144, fieldPlace, Instr.sureAddr, Try.sizeOf48, add_mk]
theorem sc48 : Scal Try.prog 48 := ⟨Try.isAgg48, Try.sizeOf48⟩


set_option maxRecDepth 20000 in
set_option maxHeartbeats 4000000 in
theorem rread_c (rb b : Nat) (lv wv : Value) (mb : Nat) (D : Dk) (fr sz tl hd : Nat) (n : Int) (m : Mem) (hr : RgM m rb b fr sz tl hd) (h : DkI D lv wv) (hu : Up D) (hw0 : D.wait = []) (h0 : 0 < sz) (hs : sz ≤ 256) (hN : fr + sz ≤ D.last.length) (hle : tl ≤ hd) (hbig : hd ≤ 4000000000000) :
    Ctr Try.prog 45 [.pointer (some ⟨rb, 0, none⟩), .int .i64 n] m [.obj b [lv, wv, .map (some mb), .int .i64 D.steps, .int .i64 D.fuse, .bool D.down], .sl lv 256 (secC D.last), .sl wv 257 (wrC D.wait), .mp mb (mapC (nowL D.wait))] (fun _ r L => ∃ v, r = .tuple #[v, iV (readR D.last fr sz tl hd n).2] ∧ slOk v 1 ((readR D.last fr sz tl hd n).1.map bV) ∧ L = [.sl v 1 ((readR D.last fr sz tl hd n).1.map bV), .obj b [lv, wv, .map (some mb), .int .i64 D.steps, .int .i64 D.fuse, .bool D.down], .sl lv 256 (secC D.last), .sl wv 257 (wrC D.wait), .mp mb (mapC (nowL D.wait))]) := by
  have hlen := h.ok.len
  refine Ctr.intro Try.func45 rfl Try.ntmps45 (by simp) fun w0 => ?_
  refine AWp.forget ?_ (sub_put (i := 0) rfl (sub_put (i := 1) rfl (sub_nil)))
  refine AWp.seq ?_
  refine AWp.region ?_
  refine OpsW.pure rfl rfl (pureOp_assign rfl) ?_
  refine OpsW.pure rfl rfl (pureOp_assign rfl) ?_
  refine OpsW.nil ?_
  refine AWp.forget ?_ (sub_put (i := 0) rfl (sub_put (i := 1) rfl (sub_put (i := 4) rfl (sub_put (i := 5) rfl (sub_nil)))))
  refine AWp.seq ?_
  refine AWp.seq ?_
  refine AWp.joinW (fun m' T' L' => ∃ bb : Bool, (bb = true ↔ (n < tl ∨ (hd : Int) ≤ n)) ∧ m' = m ∧ T' = put (put (put (tnil) 24 (.bool bb)) 1 (.int .i64 n)) 0 (.pointer (some ⟨rb, 0, none⟩)) ∧ L' = [.obj b [lv, wv, .map (some mb), .int .i64 D.steps, .int .i64 D.fuse, .bool D.down], .sl lv 256 (secC D.last), .sl wv 257 (wrC D.wait), .mp mb (mapC (nowL D.wait))]) ?_ ?_
  · skip
    refine AWp.region ?_
    refine OpsW.pure rfl rfl (pureOp_move rfl) ?_
    refine OpsW.pure rfl rfl (pureOp_move rfl) ?_
    refine OpsW.pure rfl rfl (pureOp_nilCheck rfl) ?_
    refine OpsW.pure rfl rfl (pureOp_fieldAddr fa144_3 rfl) ?_
    refine OpsW.load rfl rfl (loadOp_scal sc3 rfl (.inl hr.t)) ?_
    refine OpsW.pure rfl rfl (pureOp_lss rfl rfl) ?_
    refine OpsW.splitP (d := 16) rfl (fun h16 => ?_) (fun h16 => ?_)
    · skip
      refine OpsW.pure rfl rfl (pureOp_move rfl) ?_
      refine OpsW.skipG rfl rfl ?_
      refine OpsW.skipG rfl rfl ?_
      refine OpsW.skipG rfl rfl ?_
      refine OpsW.skipG rfl rfl ?_
      refine OpsW.skipG rfl rfl ?_
      refine OpsW.skipG rfl rfl ?_
      refine OpsW.pure rfl rfl (pureOp_pick_true rfl rfl) ?_
      refine OpsW.nil ?_
      refine ⟨_, [.obj b _, .sl lv 256 _, .sl wv 257 _, .mp mb (mapC (nowL D.wait))], _, sub_put (i := 0) rfl (sub_put (i := 1) rfl (sub_put (i := 24) rfl (sub_nil))), Sel.perm (by repeat (first | exact Sel.nil | (apply Sel.cons; (repeat (first | exact Ext.here | apply Ext.there))))), ?_⟩
      exact ⟨_, (by first | exact ⟨fun _ => .inl h16, fun _ => rfl⟩ | exact ⟨fun h => .inr (of_decide_eq_true h), fun h => decide_eq_true (h.resolve_left h16)⟩), rfl, rfl, rfl⟩
    · skip
      refine OpsW.pure rfl rfl (pureOp_move rfl) ?_
      refine OpsW.pure rfl rfl (pureOp_move rfl) ?_
      refine OpsW.pure rfl rfl (pureOp_move rfl) ?_
      refine OpsW.pure rfl rfl (pureOp_nilCheck rfl) ?_
      refine OpsW.pure rfl rfl (pureOp_fieldAddr fa144_4 rfl) ?_
      refine OpsW.load rfl rfl (loadOp_scal sc3 rfl (.inl hr.h)) ?_
      refine OpsW.pure rfl rfl (pureOp_geq rfl rfl) ?_
      refine OpsW.pure rfl rfl (pureOp_pick_false rfl rfl) ?_
      refine OpsW.nil ?_
      refine ⟨_, [.obj b _, .sl lv 256 _, .sl wv 257 _, .mp mb (mapC (nowL D.wait))], _, sub_put (i := 0) rfl (sub_put (i := 1) rfl (sub_put (i := 24) rfl (sub_nil))), Sel.perm (by repeat (first | exact Sel.nil | (apply Sel.cons; (repeat (first | exact Ext.here | apply Ext.there))))), ?_⟩
      exact ⟨_, (by first | exact ⟨fun _ => .inl h16, fun _ => rfl⟩ | exact ⟨fun h => .inr (of_decide_eq_true h), fun h => decide_eq_true (h.resolve_left h16)⟩), rfl, rfl, rfl⟩
  rintro m _ _ ⟨bb, hbb, rfl, rfl, rfl⟩
  refine AWp.cond rfl (fun ht24 => ?_) (fun ht24 => ?_)
  · skip
    refine AWp.seq ?_
    refine AWp.nilChunk 1 ?_
    refine AWp.region ?_
    refine OpsW.pure rfl rfl (pureOp_assign rfl) ?_
    refine OpsW.pure rfl rfl (pureOp_assign rfl) ?_
    refine OpsW.nil ?_
    refine AWp.forget ?_ (sub_put (i := 0) rfl (sub_put (i := 1) rfl (sub_put (i := 4) rfl (sub_put (i := 5) rfl (sub_put (i := 24) rfl (sub_nil))))))
    refine AWp.ret ?_
    have hR : readR D.last fr sz tl hd n = ([], 8) := if_pos (hbb.1 ht24)
    exact ⟨_, [.sl (.slice none 0 0) 1 _, .obj b _, .sl lv 256 _, .sl wv 257 _, .mp mb _], _, Sel.perm (by repeat (first | exact Sel.nil | (apply Sel.cons; (repeat (first | exact Ext.here | apply Ext.there))))), res_tmp2 rfl rfl rfl, _, by rw [hR]; rfl, by rw [hR]; exact .inl ⟨rfl, rfl⟩, by rw [hR]; rfl⟩
  refine AWp.skip ?_
  refine AWp.seq ?_
  have hin : ¬ (n < tl ∨ (hd : Int) ≤ n) := fun h => by rw [hbb.2 h] at ht24; cases ht24
  obtain ⟨n, rfl⟩ : ∃ q : Nat, n = (q : Int) := ⟨n.toNat, by omega⟩
  refine AWp.draw [(0, .pure), (1, .pure), (2, .pure), (3, .ro), (4, .pure), (5, .pure), (6, .call), (7, .wr), (8, .pure), (9, .pure), (10, .pure), (11, .alloc), (12, .wr), (13, .pure)] rfl (by decide +kernel) (fun _ _ _ p h => AWp.perm h p.symm) ?_
  refine ⟨_, _, rfl, OpStep.pure rfl rfl (pureOp_move rfl), ?_⟩
  rintro _ _ ⟨rfl, rfl⟩ -
  refine ⟨_, _, rfl, OpStep.pure rfl rfl (pureOp_nilCheck rfl), ?_⟩
  rintro _ _ ⟨rfl, rfl⟩ -
  refine ⟨_, _, rfl, OpStep.pure rfl rfl (pureOp_fieldAddr fa144_0 rfl), ?_⟩
  rintro _ _ ⟨rfl, rfl⟩ -
  refine ⟨_, _, rfl, OpStep.ro rfl rfl (loadOp_scal sc48 rfl (.inl hr.d)), ?_⟩
  rintro _ _ ⟨rfl, rfl⟩ -
  refine ⟨_, _, rfl, OpStep.pure rfl rfl (pureOp_move rfl), ?_⟩
  rintro _ _ ⟨rfl, rfl⟩ -
  refine ⟨_, _, rfl, OpStep.pure rfl rfl (pureOp_move rfl), ?_⟩
  rintro _ _ ⟨rfl, rfl⟩ -
  refine ⟨_, _, rfl, OpStep.call rfl rfl (callOp Try.call91 rfl) (rat_c rb b fr sz tl hd (n) _ hr.ro h0 (by omega) (by omega) (by omega)), ?_⟩
  rintro _ _ ⟨_, _, ⟨rfl, rfl⟩, rfl, rfl⟩ -
  refine ⟨_, _, rfl, OpStep.callW rfl rfl (callOp Try.call87 rfl) (Sel.perm (L' := [.obj b _, .sl lv 256 _, .sl wv 257 _, .mp mb _]) (by repeat (first | exact Sel.nil | (apply Sel.cons; (repeat (first | exact Ext.here | apply Ext.there)))))) (dread_c b lv wv mb D ((fr + (n) % sz : Nat) : Int) _ h), ?_⟩
  rintro _ _ ⟨_, _, ⟨rfl, rfl⟩, rfl, rfl⟩ -
  rw [read_up hu hw0 (at_lt (n := n) h0 hN)]
  dsimp only
  obtain ⟨s, hs1⟩ : ∃ s, s = secN D.last fr sz (n) := ⟨_, rfl⟩
  rw [show D.last.getD (fr + (n) % sz) [] = s from hs1.symm]
  have hsl : s.length = 256 := by rw [hs1]; exact secN_len h.ok h0 hN
  have hsm : (s.map bV).length = 256 := by rw [List.length_map]; exact hsl
  refine ⟨_, _, rfl, OpStep.pure rfl rfl (pureOp_move rfl), ?_⟩
  rintro _ _ ⟨rfl, rfl⟩ -
  refine ⟨_, _, rfl, OpStep.pure rfl rfl (pureOp_extract rfl rfl), ?_⟩
  rintro _ _ ⟨rfl, rfl⟩ -
  refine ⟨_, _, rfl, OpStep.pure rfl rfl (pureOp_extract rfl rfl), ?_⟩
  rintro _ _ ⟨rfl, rfl⟩ -
  refine ⟨_, _, rfl, allocStep_alloc rfl rfl zt24, ?_⟩
  rintro _ _ ⟨_, _, ⟨b6, rfl, rfl⟩, rfl, rfl⟩ -
  refine ⟨_, _, rfl, OpStep.wr rfl rfl (toWp (by repeat (first | exact Pos.here | apply Pos.there)) (lop_storeAllN 256 Try.sizeOf24 rfl rfl List.length_replicate hsm (by first | exact one_map (fun _ => rfl) _ | exact one_rfl rfl | exact one_sup _ | (simp [one, *]; done)))), ?_⟩
  rintro _ _ ⟨_, ⟨_, ⟨rfl, rfl⟩, rfl⟩, rfl⟩ -
  refine ⟨_, _, rfl, OpStep.pure rfl rfl (pureOp_assign rfl), ?_⟩
  rintro _ _ ⟨rfl, rfl⟩ -
  refine AWp.forget ?_ (sub_put (i := 0) rfl (sub_put (i := 1) rfl (sub_put (i := 6) rfl (sub_put (i := 7) rfl (sub_put (i := 24) rfl (sub_nil))))))
  refine AWp.seq ?_
  refine AWp.seq ?_
  refine AWp.region ?_
  refine OpsW.pure rfl rfl (pureOp_move rfl) ?_
  refine OpsW.pure rfl rfl (opN_neq (b := 0) rfl rfl) ?_
  refine OpsW.knowB (d := 37) (b := false) (by show some (Value.bool (decide _)) = _; rw [decide_eq_false (fun h => h rfl)]) ?_
  refine OpsW.nil ?_
  refine AWp.forget ?_ (sub_put (i := 0) rfl (sub_put (i := 1) rfl (sub_put (i := 6) rfl (sub_put (i := 7) rfl (sub_put (i := 24) rfl (sub_put (i := 37) rfl (sub_nil)))))))
  refine AWp.cond_false rfl ?_
  refine AWp.skip ?_
  refine AWp.seq ?_
  refine AWp.region ?_
  refine OpsW.load rfl rfl (loadAll rfl (by repeat (first | exact List.Mem.head _ | apply List.Mem.tail)) hsm ag24) ?_
  refine OpsW.callA rfl rfl (callOp Try.call31 rfl) permNone (rget_c s _ hsl) ?_
  rintro _ _ ⟨k, v, bs, rfl, hv, hg, rfl⟩
  refine OpsW.pure rfl rfl (pureOp_move rfl) ?_
  refine OpsW.pure rfl rfl (pureOp_extract rfl rfl) ?_
  refine OpsW.pure rfl rfl (pureOp_extract rfl rfl) ?_
  refine OpsW.pure rfl rfl (pureOp_extract rfl rfl) ?_
  refine OpsW.pure rfl rfl (pureOp_assign rfl) ?_
  refine OpsW.pure rfl rfl (pureOp_assign rfl) ?_
  refine OpsW.pure rfl rfl (pureOp_assign rfl) ?_
  refine OpsW.nil ?_
  refine AWp.forget ?_ (sub_put (i := 0) rfl (sub_put (i := 1) rfl (sub_put (i := 6) rfl (sub_put (i := 7) rfl (sub_put (i := 8) rfl (sub_put (i := 9) rfl (sub_put (i := 10) rfl (sub_put (i := 24) rfl (sub_put (i := 37) rfl (sub_nil))))))))))
  refine AWp.seq ?_
  refine AWp.seq ?_
  refine AWp.joinW (fun m' T' L' => ∃ cc : Bool, (cc = true ↔ ¬ (goodR s ∧ k = n)) ∧ m' = m ∧ T' = put (put (tnil) 51 (.bool cc)) 9 (v) ∧ L' = [.sl v 1 (bs.map bV), .obj b [lv, wv, .map (some mb), .int .i64 D.steps, .int .i64 D.fuse, .bool D.down], .sl lv 256 (secC D.last), .sl wv 257 (wrC D.wait), .mp mb (mapC (nowL D.wait))]) ?_ ?_
  · skip
    refine AWp.region ?_
    refine OpsW.pure rfl rfl (pureOp_move rfl) ?_
    refine OpsW.pure rfl rfl (pureOp_notP rfl) ?_
    refine OpsW.splitP (d := 46) rfl (fun h46 => ?_) (fun h46 => ?_)
    · skip
      refine OpsW.pure rfl rfl (pureOp_move rfl) ?_
      refine OpsW.skipG rfl rfl ?_
      refine OpsW.skipG rfl rfl ?_
      refine OpsW.skipG rfl rfl ?_
      refine OpsW.pure rfl rfl (pureOp_pick_true rfl rfl) ?_
      refine OpsW.nil ?_
      refine ⟨_, [.sl v 1 _, .obj b _, .sl lv 256 _, .sl wv 257 _, .mp mb (mapC (nowL D.wait))], _, sub_put (i := 9) rfl (sub_put (i := 51) rfl (sub_nil)), Sel.perm (by repeat (first | exact Sel.nil | (apply Sel.cons; (repeat (first | exact Ext.here | apply Ext.there))))), ?_⟩
      exact ⟨_, (by first | exact ⟨fun _ h => h46 h.1, fun _ => rfl⟩ | exact ⟨fun h k => of_decide_eq_true h k.2, fun h => decide_eq_true fun k => h ⟨Decidable.of_not_not h46, k⟩⟩), rfl, rfl, rfl⟩
    · skip
      refine OpsW.pure rfl rfl (pureOp_move rfl) ?_
      refine OpsW.pure rfl rfl (pureOp_move rfl) ?_
      refine OpsW.pure rfl rfl (pureOp_move rfl) ?_
      refine OpsW.pure rfl rfl (opN_neq rfl rfl) ?_
      refine OpsW.pure rfl rfl (pureOp_pick_false rfl rfl) ?_
      refine OpsW.nil ?_
      refine ⟨_, [.sl v 1 _, .obj b _, .sl lv 256 _, .sl wv 257 _, .mp mb (mapC (nowL D.wait))], _, sub_put (i := 9) rfl (sub_put (i := 51) rfl (sub_nil)), Sel.perm (by repeat (first | exact Sel.nil | (apply Sel.cons; (repeat (first | exact Ext.here | apply Ext.there))))), ?_⟩
      exact ⟨_, (by first | exact ⟨fun _ h => h46 h.1, fun _ => rfl⟩ | exact ⟨fun h k => of_decide_eq_true h k.2, fun h => decide_eq_true fun k => h ⟨Decidable.of_not_not h46, k⟩⟩), rfl, rfl, rfl⟩
  rintro m _ _ ⟨cc, hcc, rfl, rfl, rfl⟩
  refine AWp.cond rfl (fun ht51 => ?_) (fun ht51 => ?_)
  · skip
    refine AWp.seq ?_
    refine AWp.nilChunk 1 ?_
    refine AWp.region ?_
    refine OpsW.pure rfl rfl (pureOp_assign rfl) ?_
    refine OpsW.pure rfl rfl (pureOp_assign rfl) ?_
    refine OpsW.nil ?_
    refine AWp.forget ?_ (sub_put (i := 4) rfl (sub_put (i := 5) rfl (sub_put (i := 9) rfl (sub_put (i := 51) rfl (sub_nil)))))
    refine AWp.ret ?_
    have hR : readR D.last fr sz tl hd n = ([], 5) := by
      rw [readR, if_neg hin, Int.toNat_natCast, ← hs1, if_neg]
      exact fun k => hcc.1 ht51 ⟨k.1, (hg k.1).1.trans k.2⟩
    exact ⟨_, [.sl (.slice none 0 0) 1 _, .obj b _, .sl lv 256 _, .sl wv 257 _, .mp mb _], _, Sel.perm (by repeat (first | exact Sel.nil | (apply Sel.cons; (repeat (first | exact Ext.here | apply Ext.there))))), res_tmp2 rfl rfl rfl, _, by rw [hR]; rfl, by rw [hR]; exact .inl ⟨rfl, rfl⟩, by rw [hR]; rfl⟩
  refine AWp.skip ?_
  refine AWp.seq ?_
  refine AWp.region ?_
  refine OpsW.pure rfl rfl (pureOp_move rfl) ?_
  refine OpsW.pure rfl rfl (pureOp_assign rfl) ?_
  refine OpsW.pure rfl rfl (pureOp_assign rfl) ?_
  refine OpsW.nil ?_
  refine AWp.forget ?_ (sub_put (i := 4) rfl (sub_put (i := 5) rfl (sub_put (i := 9) rfl (sub_put (i := 51) rfl (sub_nil)))))
  refine AWp.ret ?_
  have hok : goodR s ∧ k = n := Decidable.byContradiction fun h => by rw [hcc.2 h] at ht51; cases ht51
  obtain ⟨hk1, hk2⟩ := hg hok.1
  have hR : readR D.last fr sz tl hd n = (bs, 0) := by
    rw [readR, if_neg hin, Int.toNat_natCast, ← hs1, if_pos ⟨hok.1, hk1.symm.trans hok.2⟩, hk2]
  exact ⟨_, [.sl v 1 _, .obj b _, .sl lv 256 _, .sl wv 257 _, .mp mb _], _, Sel.perm (by repeat (first | exact Sel.nil | (apply Sel.cons; (repeat (first | exact Ext.here | apply Ext.there))))), res_tmp2 rfl rfl rfl, v, by rw [hR]; rfl, by rw [hR]; exact hv, by rw [hR]⟩

set_option maxRecDepth 20000 in
set_option maxHeartbeats 4000000 in
theorem rclean_c (rb b : Nat) (lv wv : Value) (mb : Nat) (D : Dk) (fr sz tl hd : Nat) (m : Mem) (hr : RgM m rb b fr sz tl hd) (h : DkI D lv wv) (hu : Up D) (hw0 : D.wait = []) (h0 : 0 < sz) (hs : sz ≤ 256) (hN : fr + sz ≤ D.last.length) (hle : tl ≤ hd) (hbig : hd ≤ 4000000000000) :
    Ctr Try.prog 46 [.pointer (some ⟨rb, 0, none⟩)] m [.obj b [lv, wv, .map (some mb), .int .i64 D.steps, .int .i64 D.fuse, .bool D.down], .sl lv 256 (secC D.last), .sl wv 257 (wrC D.wait), .mp mb (mapC (nowL D.wait))] (fun _ r L => r = .bool (cleanB D.last fr sz hd (tl + sz - hd)) ∧ L = [.obj b [lv, wv, .map (some mb), .int .i64 D.steps, .int .i64 D.fuse, .bool D.down], .sl lv 256 (secC D.last), .sl wv 257 (wrC D.wait), .mp mb (mapC (nowL D.wait))]) := by
  have hlen := h.ok.len
  refine Ctr.intro Try.func46 rfl Try.ntmps46 (by simp) fun w0 => ?_
  refine AWp.forget ?_ (sub_put (i := 0) rfl (sub_nil))
  refine AWp.seq ?_
  refine AWp.region ?_
  refine OpsW.pure rfl rfl (pureOp_assign rfl) ?_
  refine OpsW.nil ?_
  refine AWp.forget ?_ (sub_put (i := 0) rfl (sub_put (i := 2) rfl (sub_nil)))
  refine AWp.seq ?_
  refine AWp.seq ?_
  refine AWp.region ?_
  refine OpsW.pure rfl rfl (pureOp_move rfl) ?_
  refine OpsW.pure rfl rfl (pureOp_nilCheck rfl) ?_
  refine OpsW.pure rfl rfl (pureOp_fieldAddr fa144_4 rfl) ?_
  refine OpsW.load rfl rfl (loadOp_scal sc3 rfl (.inl hr.h)) ?_
  refine OpsW.pure rfl rfl (pureOp_assign rfl) ?_
  refine OpsW.nil ?_
  refine AWp.forget ?_ (sub_put (i := 0) rfl (sub_put (i := 2) rfl (sub_put (i := 3) rfl (sub_nil))))
  refine AWp.block ?_
  refine AWp.forget ?_ (sub_put (i := 0) rfl (sub_put (i := 3) rfl (sub_nil)))
  refine AWp.loop (fun N m' T' L' => ∃ n : Nat, N = tl + sz - n ∧ hd ≤ n ∧ n ≤ max hd (tl + sz) ∧ cleanB D.last fr sz hd (tl + sz - hd) = cleanB D.last fr sz n (tl + sz - n) ∧ m' = m ∧ T' = put (put (tnil) 3 (iV n)) 0 (.pointer (some ⟨rb, 0, none⟩)) ∧ L' = [.obj b [lv, wv, .map (some mb), .int .i64 D.steps, .int .i64 D.fuse, .bool D.down], .sl lv 256 (secC D.last), .sl wv 257 (wrC D.wait), .mp mb (mapC (nowL D.wait))]) _ (⟨hd, rfl, Nat.le_refl _, by omega, rfl, rfl, rfl, rfl⟩) ?_
  rintro _ m _ _ ⟨n, rfl, hn1, hn2, hcl, rfl, rfl, rfl⟩
  refine AWp.seq ?_
  refine AWp.seq ?_
  refine AWp.draw [(0, .pure), (1, .pure), (2, .pure), (3, .pure), (4, .ro), (5, .pure), (6, .pure), (7, .pure), (8, .ro), (9, .pure), (10, .pure)] rfl (by decide +kernel) (fun _ _ _ p h => AWp.perm h p.symm) ?_
  refine ⟨_, _, rfl, OpStep.pure rfl rfl (pureOp_move rfl), ?_⟩
  rintro _ _ ⟨rfl, rfl⟩ -
  refine ⟨_, _, rfl, OpStep.pure rfl rfl (pureOp_move rfl), ?_⟩
  rintro _ _ ⟨rfl, rfl⟩ -
  refine ⟨_, _, rfl, OpStep.pure rfl rfl (pureOp_nilCheck rfl), ?_⟩
  rintro _ _ ⟨rfl, rfl⟩ -
  refine ⟨_, _, rfl, OpStep.pure rfl rfl (pureOp_fieldAddr fa144_3 rfl), ?_⟩
  rintro _ _ ⟨rfl, rfl⟩ -
  refine ⟨_, _, rfl, OpStep.ro rfl rfl (loadOp_scal sc3 rfl (.inl hr.t)), ?_⟩
  rintro _ _ ⟨rfl, rfl⟩ -
  refine ⟨_, _, rfl, OpStep.pure rfl rfl (pureOp_move rfl), ?_⟩
  rintro _ _ ⟨rfl, rfl⟩ -
  refine ⟨_, _, rfl, OpStep.pure rfl rfl (pureOp_nilCheck rfl), ?_⟩
  rintro _ _ ⟨rfl, rfl⟩ -
  refine ⟨_, _, rfl, OpStep.pure rfl rfl (pureOp_fieldAddr fa144_2 rfl), ?_⟩
  rintro _ _ ⟨rfl, rfl⟩ -
  refine ⟨_, _, rfl, OpStep.ro rfl rfl (loadOp_scal sc3 rfl (.inl hr.s)), ?_⟩
  rintro _ _ ⟨rfl, rfl⟩ -
  refine ⟨_, _, rfl, OpStep.pure rfl rfl (opN_add rfl rfl (by omega)), ?_⟩
  rintro _ _ ⟨rfl, rfl⟩ -
  refine ⟨_, _, rfl, OpStep.pure rfl rfl (opN_lss rfl rfl), ?_⟩
  rintro _ _ ⟨rfl, rfl⟩ -
  refine AWp.forget ?_ (sub_put (i := 0) rfl (sub_put (i := 3) rfl (sub_put (i := 20) rfl (sub_nil))))
  refine AWp.condP rfl (fun ht20 => ?_) (fun ht20 => ?_)
  refine AWp.skip ?_
  refine AWp.seq ?_
  refine AWp.block ?_
  refine AWp.seq ?_
  refine AWp.draw [(0, .pure), (1, .pure), (2, .pure), (3, .ro), (4, .pure), (5, .pure), (6, .call), (7, .wr), (8, .pure), (9, .pure), (10, .pure), (11, .alloc), (12, .wr), (13, .pure)] rfl (by decide +kernel) (fun _ _ _ p h => AWp.perm h p.symm) ?_
  refine ⟨_, _, rfl, OpStep.pure rfl rfl (pureOp_move rfl), ?_⟩
  rintro _ _ ⟨rfl, rfl⟩ -
  refine ⟨_, _, rfl, OpStep.pure rfl rfl (pureOp_nilCheck rfl), ?_⟩
  rintro _ _ ⟨rfl, rfl⟩ -
  refine ⟨_, _, rfl, OpStep.pure rfl rfl (pureOp_fieldAddr fa144_0 rfl), ?_⟩
  rintro _ _ ⟨rfl, rfl⟩ -
  refine ⟨_, _, rfl, OpStep.ro rfl rfl (loadOp_scal sc48 rfl (.inl hr.d)), ?_⟩
  rintro _ _ ⟨rfl, rfl⟩ -
  refine ⟨_, _, rfl, OpStep.pure rfl rfl (pureOp_move rfl), ?_⟩
  rintro _ _ ⟨rfl, rfl⟩ -
  refine ⟨_, _, rfl, OpStep.pure rfl rfl (pureOp_move rfl), ?_⟩
  rintro _ _ ⟨rfl, rfl⟩ -
  refine ⟨_, _, rfl, OpStep.call rfl rfl (callOp Try.call91 rfl) (rat_c rb b fr sz tl hd (n) _ hr.ro h0 (by omega) (by omega) (by omega)), ?_⟩
  rintro _ _ ⟨_, _, ⟨rfl, rfl⟩, rfl, rfl⟩ -
  refine ⟨_, _, rfl, OpStep.callW rfl rfl (callOp Try.call87 rfl) (Sel.perm (L' := [.obj b _, .sl lv 256 _, .sl wv 257 _, .mp mb _]) (by repeat (first | exact Sel.nil | (apply Sel.cons; (repeat (first | exact Ext.here | apply Ext.there)))))) (dread_c b lv wv mb D ((fr + (n) % sz : Nat) : Int) _ h), ?_⟩
  rintro _ _ ⟨_, _, ⟨rfl, rfl⟩, rfl, rfl⟩ -
  rw [read_up hu hw0 (at_lt (n := n) h0 hN)]
  dsimp only
  obtain ⟨s, hs1⟩ : ∃ s, s = secN D.last fr sz (n) := ⟨_, rfl⟩
  rw [show D.last.getD (fr + (n) % sz) [] = s from hs1.symm]
  have hsl : s.length = 256 := by rw [hs1]; exact secN_len h.ok h0 hN
  have hsm : (s.map bV).length = 256 := by rw [List.length_map]; exact hsl
  refine ⟨_, _, rfl, OpStep.pure rfl rfl (pureOp_move rfl), ?_⟩
  rintro _ _ ⟨rfl, rfl⟩ -
  refine ⟨_, _, rfl, OpStep.pure rfl rfl (pureOp_extract rfl rfl), ?_⟩
  rintro _ _ ⟨rfl, rfl⟩ -
  refine ⟨_, _, rfl, OpStep.pure rfl rfl (pureOp_extract rfl rfl), ?_⟩
  rintro _ _ ⟨rfl, rfl⟩ -
  refine ⟨_, _, rfl, allocStep_alloc rfl rfl zt24, ?_⟩
  rintro _ _ ⟨_, _, ⟨b4, rfl, rfl⟩, rfl, rfl⟩ -
  refine ⟨_, _, rfl, OpStep.wr rfl rfl (toWp (by repeat (first | exact Pos.here | apply Pos.there)) (lop_storeAllN 256 Try.sizeOf24 rfl rfl List.length_replicate hsm (by first | exact one_map (fun _ => rfl) _ | exact one_rfl rfl | exact one_sup _ | (simp [one, *]; done)))), ?_⟩
  rintro _ _ ⟨_, ⟨_, ⟨rfl, rfl⟩, rfl⟩, rfl⟩ -
  refine ⟨_, _, rfl, OpStep.pure rfl rfl (pureOp_assign rfl), ?_⟩
  rintro _ _ ⟨rfl, rfl⟩ -
  refine AWp.forget ?_ (sub_put (i := 0) rfl (sub_put (i := 3) rfl (sub_put (i := 4) rfl (sub_put (i := 5) rfl (sub_put (i := 20) rfl (sub_nil))))))
  refine AWp.seq ?_
  refine AWp.region ?_
  refine OpsW.pure rfl rfl (pureOp_move rfl) ?_
  refine OpsW.pure rfl rfl (opN_neq (b := 0) rfl rfl) ?_
  refine OpsW.knowB (d := 35) (b := false) (by show some (Value.bool (decide _)) = _; rw [decide_eq_false (fun h => h rfl)]) ?_
  refine OpsW.pure rfl rfl (pureOp_move rfl) ?_
  refine OpsW.load rfl rfl (loadAll rfl (by repeat (first | exact List.Mem.head _ | apply List.Mem.tail)) hsm ag24) ?_
  refine OpsW.pure rfl rfl (opBuildArr0 arr24 zt24) ?_
  rw [← zero256_map]
  refine OpsW.pure rfl rfl (opB_neq by24 dpth rfl rfl hsl List.length_replicate) ?_
  refine OpsW.pure rfl rfl (pureOp_pick_false rfl rfl) ?_
  refine OpsW.nil ?_
  refine AWp.forget ?_ (sub_put (i := 0) rfl (sub_put (i := 3) rfl (sub_put (i := 4) rfl (sub_put (i := 5) rfl (sub_put (i := 20) rfl (sub_put (i := 40) rfl (sub_nil)))))))
  refine AWp.condP rfl (fun ht40 => ?_) (fun ht40 => ?_)
  · skip
    refine AWp.seq ?_
    have hcf : cleanB D.last fr sz hd (tl + sz - hd) = false := by
      obtain ⟨q, hq⟩ : ∃ q, tl + sz - n = q + 1 := ⟨tl + sz - n - 1, by omega⟩
      rw [hcl, hq, cleanB, decide_eq_false (by rw [← hs1]; exact ht40), Bool.false_and]
    refine AWp.region ?_
    refine OpsW.pure rfl rfl (pureOp_assign rfl) ?_
    refine OpsW.nil ?_
    refine AWp.forget ?_ (sub_put (i := 0) rfl (sub_put (i := 2) rfl (sub_put (i := 3) rfl (sub_put (i := 4) rfl (sub_put (i := 5) rfl (sub_put (i := 20) rfl (sub_put (i := 40) rfl (sub_nil))))))))
    refine AWp.ret ?_
    exact ⟨_, [.obj b _, .sl lv 256 _, .sl wv 257 _, .mp mb _], _, Sel.perm (by repeat (first | exact Sel.nil | (apply Sel.cons; (repeat (first | exact Ext.here | apply Ext.there))))), res_tmp rfl rfl, by rw [hcf], rfl⟩
  refine AWp.skip ?_
  obtain ⟨q, hq⟩ : ∃ q, tl + sz - n = q + 1 := ⟨tl + sz - n - 1, by omega⟩
  have hcl2 : cleanB D.last fr sz hd (tl + sz - hd) = cleanB D.last fr sz (n + 1) (tl + sz - (n + 1)) := by
    have hse : secN D.last fr sz n = zero256 := by rw [← hs1]; exact Decidable.of_not_not ht40
    rw [hcl, hq, cleanB, decide_eq_true hse, Bool.true_and, show tl + sz - (n + 1) = q by omega]
  refine AWp.region ?_
  refine OpsW.pure rfl rfl (pureOp_move rfl) ?_
  refine OpsW.pure rfl rfl (opN_add (b := 1) rfl rfl (by omega)) ?_
  refine OpsW.pure rfl rfl (pureOp_assign rfl) ?_
  refine OpsW.forget ?_ (sub_put (i := 0) rfl (sub_put (i := 3) rfl (sub_nil)))
  refine OpsW.keep (L' := [.obj b _, .sl lv 256 _, .sl wv 257 _, .mp mb (mapC (nowL D.wait))]) (by repeat (first | exact Sel.nil | (apply Sel.cons; (repeat (first | exact Ext.here | apply Ext.there))))) ?_
  refine OpsW.nil ?_
  exact ⟨_, by omega, n + 1, rfl, by omega, by omega, hcl2, rfl, rfl, rfl⟩
  refine AWp.exit (exit_here ?_)
  refine AWp.seq ?_
  refine AWp.region ?_
  refine OpsW.pure rfl rfl (pureOp_assign rfl) ?_
  refine OpsW.nil ?_
  refine AWp.forget ?_ (sub_put (i := 0) rfl (sub_put (i := 2) rfl (sub_put (i := 3) rfl (sub_put (i := 20) rfl (sub_nil)))))
  refine AWp.ret ?_
  have hct : cleanB D.last fr sz hd (tl + sz - hd) = true := by rw [hcl, show tl + sz - n = 0 by omega]; rfl
  exact ⟨_, [.obj b _, .sl lv 256 _, .sl wv 257 _, .mp mb _], _, Sel.perm (by repeat (first | exact Sel.nil | (apply Sel.cons; (repeat (first | exact Ext.here | apply Ext.there))))), res_tmp rfl rfl, by rw [hct], rfl⟩

set_option maxRecDepth 20000 in
set_option maxHeartbeats 4000000 in
theorem rscrub_c (rb b : Nat) (lv wv : Value) (mb : Nat) (D : Dk) (fr sz tl hd : Nat) (m : Mem) (hr : RgM m rb b fr sz tl hd) (h : DkI D lv wv) (hu : Up D) (hw0 : D.wait = []) (h0 : 0 < sz) (hs : sz ≤ 256) (hN : fr + sz ≤ D.last.length) (hle : tl ≤ hd) (hbig : hd ≤ 4000000000000) :
    Ctr Try.prog 93 [.pointer (some ⟨rb, 0, none⟩)] m [.obj b [lv, wv, .map (some mb), .int .i64 D.steps, .int .i64 D.fuse, .bool D.down], .sl lv 256 (secC D.last), .sl wv 257 (wrC D.wait), .mp mb (mapC (nowL D.wait))] (fun _ r L => ∃ D' wv' mb', r = iV 0 ∧ Up D' ∧ D'.wait = [] ∧ D'.last = wrote (zs fr sz hd (tl + sz - hd)) D.last ∧ slOk wv' 257 (wrC D'.wait) ∧ L = [.obj b [lv, wv', .map (some mb'), .int .i64 D'.steps, .int .i64 D'.fuse, .bool D'.down], .sl lv 256 (secC D'.last), .sl wv' 257 (wrC D'.wait), .mp mb' (mapC (nowL D'.wait))]) := by
  have hlen := h.ok.len
  have hlC := secC_length h.ok.sec
  refine Ctr.intro Try.func93 rfl Try.ntmps93 (by simp) fun w0 => ?_
  refine AWp.forget ?_ (sub_put (i := 0) rfl (sub_nil))
  refine AWp.seq ?_
  refine AWp.region ?_
  refine OpsW.pure rfl rfl (pureOp_assign rfl) ?_
  refine OpsW.nil ?_
  refine AWp.forget ?_ (sub_put (i := 0) rfl (sub_put (i := 2) rfl (sub_nil)))
  refine AWp.seq ?_
  refine AWp.seq ?_
  refine AWp.region ?_
  refine OpsW.pure rfl rfl (pureOp_move rfl) ?_
  refine OpsW.pure rfl rfl (pureOp_nilCheck rfl) ?_
  refine OpsW.pure rfl rfl (pureOp_fieldAddr fa144_4 rfl) ?_
  refine OpsW.load rfl rfl (loadOp_scal sc3 rfl (.inl hr.h)) ?_
  refine OpsW.pure rfl rfl (pureOp_assign rfl) ?_
  refine OpsW.nil ?_
  refine AWp.forget ?_ (sub_put (i := 0) rfl (sub_put (i := 2) rfl (sub_put (i := 3) rfl (sub_nil))))
  refine AWp.block ?_
  refine AWp.forget ?_ (sub_put (i := 0) rfl (sub_put (i := 3) rfl (sub_nil)))
  refine AWp.keep (L' := [.obj b _, .sl lv 256 _, .sl wv 257 _, .mp mb _]) (by repeat (first | exact Sel.nil | (apply Sel.cons; (repeat (first | exact Ext.here | apply Ext.there))))) ?_
  refine AWp.loop (fun N m' T' L' => ∃ (j : Nat) (E : Dk) (wv1 : Value), N = tl + sz - (hd + j) ∧ j ≤ tl + sz - hd ∧ Up E ∧ E.last = D.last ∧ E.wait = zs fr sz hd j ∧ slOk wv1 257 (wrC E.wait) ∧ m' = m ∧ T' = put (put (tnil) 3 (iV (hd + j))) 0 (.pointer (some ⟨rb, 0, none⟩)) ∧ L' = [.obj b [lv, wv1, .map (some mb), .int .i64 E.steps, .int .i64 E.fuse, .bool E.down], .sl lv 256 (secC E.last), .sl wv1 257 (wrC E.wait), .mp mb (mapC (nowL E.wait))]) _ (⟨0, D, wv, rfl, Nat.zero_le _, hu, rfl, hw0, h.hw, rfl, rfl, rfl⟩) ?_
  rintro _ m _ _ ⟨j, E, wv1, rfl, hj, hE, hEl, hEw, hw1, rfl, rfl, rfl⟩
  have hI1 : DkI E lv wv1 := ⟨by rw [hEl]; exact h.hl, hw1, hE.ok⟩
  have hfew : E.wait.length < 1000000 := by rw [hEw, zs_length]; omega
  have hin : fr + (hd + j) % sz < E.last.length := by rw [hEl]; exact at_lt h0 hN
  refine AWp.seq ?_
  refine AWp.seq ?_
  refine AWp.draw [(0, .pure), (1, .pure), (2, .pure), (3, .pure), (4, .ro), (5, .pure), (6, .pure), (7, .pure), (8, .ro), (9, .pure), (10, .pure)] rfl (by decide +kernel) (fun _ _ _ p h => AWp.perm h p.symm) ?_
  refine ⟨_, _, rfl, OpStep.pure rfl rfl (pureOp_move rfl), ?_⟩
  rintro _ _ ⟨rfl, rfl⟩ -
  refine ⟨_, _, rfl, OpStep.pure rfl rfl (pureOp_move rfl), ?_⟩
  rintro _ _ ⟨rfl, rfl⟩ -
  refine ⟨_, _, rfl, OpStep.pure rfl rfl (pureOp_nilCheck rfl), ?_⟩
  rintro _ _ ⟨rfl, rfl⟩ -
  refine ⟨_, _, rfl, OpStep.pure rfl rfl (pureOp_fieldAddr fa144_3 rfl), ?_⟩
  rintro _ _ ⟨rfl, rfl⟩ -
  refine ⟨_, _, rfl, OpStep.ro rfl rfl (loadOp_scal sc3 rfl (.inl hr.t)), ?_⟩
  rintro _ _ ⟨rfl, rfl⟩ -
  refine ⟨_, _, rfl, OpStep.pure rfl rfl (pureOp_move rfl), ?_⟩
  rintro _ _ ⟨rfl, rfl⟩ -
  refine ⟨_, _, rfl, OpStep.pure rfl rfl (pureOp_nilCheck rfl), ?_⟩
  rintro _ _ ⟨rfl, rfl⟩ -
  refine ⟨_, _, rfl, OpStep.pure rfl rfl (pureOp_fieldAddr fa144_2 rfl), ?_⟩
  rintro _ _ ⟨rfl, rfl⟩ -
  refine ⟨_, _, rfl, OpStep.ro rfl rfl (loadOp_scal sc3 rfl (.inl hr.s)), ?_⟩
  rintro _ _ ⟨rfl, rfl⟩ -
  refine ⟨_, _, rfl, OpStep.pure rfl rfl (opN_add rfl rfl (by omega)), ?_⟩
  rintro _ _ ⟨rfl, rfl⟩ -
  refine ⟨_, _, rfl, OpStep.pure rfl rfl (opN_lss rfl rfl), ?_⟩
  rintro _ _ ⟨rfl, rfl⟩ -
  refine AWp.forget ?_ (sub_put (i := 0) rfl (sub_put (i := 3) rfl (sub_put (i := 19) rfl (sub_nil))))
  refine AWp.condP rfl (fun ht19 => ?_) (fun ht19 => ?_)
  refine AWp.skip ?_
  refine AWp.seq ?_
  refine AWp.block ?_
  refine AWp.seq ?_
  refine AWp.draw [(0, .pure), (1, .pure), (2, .pure), (3, .ro), (4, .pure), (5, .pure), (7, .pure), (6, .call), (8, .wr), (9, .pure)] rfl (by decide +kernel) (fun _ _ _ p h => AWp.perm h p.symm) ?_
  refine ⟨_, _, rfl, OpStep.pure rfl rfl (pureOp_move rfl), ?_⟩
  rintro _ _ ⟨rfl, rfl⟩ -
  refine ⟨_, _, rfl, OpStep.pure rfl rfl (pureOp_nilCheck rfl), ?_⟩
  rintro _ _ ⟨rfl, rfl⟩ -
  refine ⟨_, _, rfl, OpStep.pure rfl rfl (pureOp_fieldAddr fa144_0 rfl), ?_⟩
  rintro _ _ ⟨rfl, rfl⟩ -
  refine ⟨_, _, rfl, OpStep.ro rfl rfl (loadOp_scal sc48 rfl (.inl hr.d)), ?_⟩
  rintro _ _ ⟨rfl, rfl⟩ -
  refine ⟨_, _, rfl, OpStep.pure rfl rfl (pureOp_move rfl), ?_⟩
  rintro _ _ ⟨rfl, rfl⟩ -
  refine ⟨_, _, rfl, OpStep.pure rfl rfl (pureOp_move rfl), ?_⟩
  rintro _ _ ⟨rfl, rfl⟩ -
  refine ⟨_, _, rfl, OpStep.pure rfl rfl (opBuildArr0 arr24 zt24), ?_⟩
  rintro _ _ ⟨rfl, rfl⟩ -
  rw [← zero256_map]
  refine ⟨_, _, rfl, OpStep.call rfl rfl (callOp Try.call91 rfl) (rat_c rb b fr sz tl hd (hd + j) _ hr.ro h0 (by omega) (by omega) (by omega)), ?_⟩
  rintro _ _ ⟨_, _, ⟨rfl, rfl⟩, rfl, rfl⟩ -
  refine ⟨_, _, rfl, OpStep.callW rfl rfl (callOp Try.call22 rfl) (Sel.perm (L' := [.obj b _, .sl lv 256 _, .sl wv1 257 _, .mp mb _]) (by repeat (first | exact Sel.nil | (apply Sel.cons; (repeat (first | exact Ext.here | apply Ext.there)))))) (dwrite_c b lv wv1 mb E ((fr + (hd + j) % sz : Nat) : Int) zero256 _ hI1 List.length_replicate hfew), ?_⟩
  rintro _ _ ⟨_, _, ⟨wv2, rfl, hw2, rfl⟩, rfl, rfl⟩ -
  obtain ⟨E2, hW, hE2, hl2, hw2b⟩ := write_up hE hin (s := zero256) List.length_replicate hfew
  rw [hW] at hw2 ⊢
  dsimp only at hw2 ⊢
  refine ⟨_, _, rfl, OpStep.pure rfl rfl (pureOp_assign rfl), ?_⟩
  rintro _ _ ⟨rfl, rfl⟩ -
  refine AWp.forget ?_ (sub_put (i := 0) rfl (sub_put (i := 3) rfl (sub_put (i := 4) rfl (sub_put (i := 19) rfl (sub_nil)))))
  refine AWp.seq ?_
  refine AWp.region ?_
  refine OpsW.pure rfl rfl (pureOp_move rfl) ?_
  refine OpsW.pure rfl rfl (opN_neq (b := 0) rfl rfl) ?_
  refine OpsW.knowB (d := 32) (b := false) (by show some (Value.bool (decide _)) = _; rw [decide_eq_false (fun h => h rfl)]) ?_
  refine OpsW.nil ?_
  refine AWp.forget ?_ (sub_put (i := 0) rfl (sub_put (i := 3) rfl (sub_put (i := 4) rfl (sub_put (i := 19) rfl (sub_put (i := 32) rfl (sub_nil))))))
  refine AWp.cond_false rfl ?_
  refine AWp.skip ?_
  refine AWp.region ?_
  refine OpsW.pure rfl rfl (pureOp_move rfl) ?_
  refine OpsW.pure rfl rfl (opN_add (b := 1) rfl rfl (by omega)) ?_
  refine OpsW.pure rfl rfl (pureOp_assign rfl) ?_
  refine OpsW.forget ?_ (sub_put (i := 0) rfl (sub_put (i := 3) rfl (sub_nil)))
  refine OpsW.keep (L' := [.obj b _, .sl lv 256 _, .sl wv2 257 _, .mp mb _]) (by repeat (first | exact Sel.nil | (apply Sel.cons; (repeat (first | exact Ext.here | apply Ext.there))))) ?_
  refine OpsW.nil ?_
  exact ⟨_, by omega, j + 1, E2, wv2, rfl, by omega, hE2, hl2.trans hEl, by rw [hw2b, hEw]; rfl, hw2, rfl, rfl, rfl⟩
  obtain rfl : j = tl + sz - hd := by omega
  refine AWp.exit (exit_here ?_)
  refine AWp.seq ?_
  refine AWp.region ?_
  refine OpsW.pure rfl rfl (pureOp_move rfl) ?_
  refine OpsW.pure rfl rfl (pureOp_nilCheck rfl) ?_
  refine OpsW.pure rfl rfl (pureOp_fieldAddr fa144_0 rfl) ?_
  refine OpsW.load rfl rfl (loadOp_scal sc48 rfl (.inl hr.d)) ?_
  refine OpsW.callA rfl rfl (callOp Try.call23 rfl) (Sel.perm (L' := [.obj b _, .sl lv 256 _, .sl wv1 257 _, .mp mb _]) (by repeat (first | exact Sel.nil | (apply Sel.cons; (repeat (first | exact Ext.here | apply Ext.there)))))) (dflush_c b lv wv1 mb E _ hI1) ?_
  rintro _ _ ⟨wv3, mb3, rfl, hw3, rfl⟩
  obtain ⟨E3, hF, hE3, hl3, hw3b⟩ := flush_up hE
  rw [hF] at hw3 ⊢
  dsimp only at hw3 ⊢
  refine OpsW.pure rfl rfl (pureOp_assign rfl) ?_
  refine OpsW.nil ?_
  refine AWp.forget ?_ (sub_put (i := 0) rfl (sub_put (i := 2) rfl (sub_put (i := 3) rfl (sub_put (i := 19) rfl (sub_nil)))))
  refine AWp.ret ?_
  exact ⟨_, [.obj b _, .sl lv 256 _, .sl wv3 257 _, .mp mb3 _], _, Sel.perm (by repeat (first | exact Sel.nil | (apply Sel.cons; (repeat (first | exact Ext.here | apply Ext.there))))), res_tmp rfl rfl, E3, wv3, mb3, rfl, hE3, hw3b, by rw [hl3, hEw, hEl], hw3, rfl⟩

set_option maxRecDepth 20000 in
set_option maxHeartbeats 4000000 in
theorem rfound_c (rb b : Nat) (lv wv : Value) (mb : Nat) (D : Dk) (fr sz tl hd : Nat) (m : Mem) (hr : RgM m rb b fr sz tl hd) (h : DkI D lv wv) (hu : Up D) (hw0 : D.wait = []) (h0 : 0 < sz) (hs : sz ≤ 256) (hN : fr + sz ≤ D.last.length) (hle : tl ≤ hd) (hbig : hd ≤ 4000000000000) :
    Ctr Try.prog 92 [.pointer (some ⟨rb, 0, none⟩)] m [.obj b [lv, wv, .map (some mb), .int .i64 D.steps, .int .i64 D.fuse, .bool D.down], .sl lv 256 (secC D.last), .sl wv 257 (wrC D.wait), .mp mb (mapC (nowL D.wait))] (fun _ r L => r = .tuple #[iV (foundN D.last fr sz sz).1, .int .i64 (foundN D.last fr sz sz).2.1, .bool (foundN D.last fr sz sz).2.2, iV 0] ∧ L = [.obj b [lv, wv, .map (some mb), .int .i64 D.steps, .int .i64 D.fuse, .bool D.down], .sl lv 256 (secC D.last), .sl wv 257 (wrC D.wait), .mp mb (mapC (nowL D.wait))]) := by
  have hlen := h.ok.len
  refine Ctr.intro Try.func92 rfl Try.ntmps92 (by simp) fun w0 => ?_
  refine AWp.forget ?_ (sub_put (i := 0) rfl (sub_nil))
  refine AWp.seq ?_
  refine AWp.region ?_
  refine OpsW.pure rfl rfl (pureOp_assign rfl) ?_
  refine OpsW.pure rfl rfl (pureOp_assign rfl) ?_
  refine OpsW.pure rfl rfl (pureOp_assign rfl) ?_
  refine OpsW.pure rfl rfl (pureOp_assign rfl) ?_
  refine OpsW.nil ?_
  refine AWp.forget ?_ (sub_put (i := 0) rfl (sub_put (i := 2) rfl (sub_put (i := 3) rfl (sub_put (i := 4) rfl (sub_put (i := 5) rfl (sub_nil))))))
  refine AWp.seq ?_
  refine AWp.region ?_
  refine OpsW.pure rfl rfl (pureOp_assign rfl) ?_
  refine OpsW.pure rfl rfl (pureOp_assign rfl) ?_
  refine OpsW.pure rfl rfl (pureOp_assign rfl) ?_
  refine OpsW.nil ?_
  refine AWp.forget ?_ (sub_put (i := 0) rfl (sub_put (i := 2) rfl (sub_put (i := 3) rfl (sub_put (i := 4) rfl (sub_put (i := 5) rfl (sub_put (i := 6) rfl (sub_put (i := 7) rfl (sub_put (i := 8) rfl (sub_nil)))))))))
  refine AWp.seq ?_
  refine AWp.seq ?_
  refine AWp.region ?_
  refine OpsW.pure rfl rfl (pureOp_move rfl) ?_
  refine OpsW.pure rfl rfl (pureOp_nilCheck rfl) ?_
  refine OpsW.pure rfl rfl (pureOp_fieldAddr fa144_2 rfl) ?_
  refine OpsW.load rfl rfl (loadOp_scal sc3 rfl (.inl hr.s)) ?_
  refine OpsW.pure rfl rfl (pureOp_move rfl) ?_
  refine OpsW.nil ?_
  refine AWp.forget ?_ (sub_put (i := 0) rfl (sub_put (i := 2) rfl (sub_put (i := 3) rfl (sub_put (i := 4) rfl (sub_put (i := 5) rfl (sub_put (i := 6) rfl (sub_put (i := 7) rfl (sub_put (i := 8) rfl (sub_put (i := 18) rfl (sub_put (i := 19) rfl (sub_nil)))))))))))
  refine AWp.block ?_
  refine AWp.forget ?_ (sub_put (i := 0) rfl (sub_put (i := 6) rfl (sub_put (i := 7) rfl (sub_put (i := 8) rfl (sub_put (i := 18) rfl (sub_put (i := 19) rfl (sub_nil)))))))
  refine AWp.loop (fun N m' T' L' => ∃ i : Nat, N = sz - i ∧ i ≤ sz ∧ m' = m ∧ T' = put (put (put (put (put (put (tnil) 19 (iV i)) 18 (iV sz)) 8 (.bool (foundN D.last fr sz i).2.2)) 7 (.int .i64 (foundN D.last fr sz i).2.1)) 6 (iV (foundN D.last fr sz i).1)) 0 (.pointer (some ⟨rb, 0, none⟩)) ∧ L' = [.obj b [lv, wv, .map (some mb), .int .i64 D.steps, .int .i64 D.fuse, .bool D.down], .sl lv 256 (secC D.last), .sl wv 257 (wrC D.wait), .mp mb (mapC (nowL D.wait))]) _ (⟨0, rfl, Nat.zero_le _, rfl, rfl, rfl⟩) ?_
  rintro _ m _ _ ⟨i, rfl, hi, rfl, rfl, rfl⟩
  obtain ⟨F, hF⟩ : ∃ F, F = foundN D.last fr sz i := ⟨_, rfl⟩
  rw [← hF]
  refine AWp.seq ?_
  refine AWp.region ?_
  refine OpsW.pure rfl rfl (opN_lss rfl rfl) ?_
  refine OpsW.nil ?_
  refine AWp.forget ?_ (sub_put (i := 0) rfl (sub_put (i := 6) rfl (sub_put (i := 7) rfl (sub_put (i := 8) rfl (sub_put (i := 18) rfl (sub_put (i := 19) rfl (sub_put (i := 20) rfl (sub_nil))))))))
  refine AWp.seq ?_
  refine AWp.condP rfl (fun ht20 => ?_) (fun ht20 => ?_)
  refine AWp.skip ?_
  refine AWp.seq ?_
  refine AWp.joinW (fun m' T' L' => m' = m ∧ T' = put (put (put (put (put (put (tnil) 19 (iV i)) 18 (iV sz)) 8 (.bool (foundN D.last fr sz (i + 1)).2.2)) 7 (.int .i64 (foundN D.last fr sz (i + 1)).2.1)) 6 (iV (foundN D.last fr sz (i + 1)).1)) 0 (.pointer (some ⟨rb, 0, none⟩)) ∧ L' = [.obj b [lv, wv, .map (some mb), .int .i64 D.steps, .int .i64 D.fuse, .bool D.down], .sl lv 256 (secC D.last), .sl wv 257 (wrC D.wait), .mp mb (mapC (nowL D.wait))]) ?_ ?_
  · skip
    refine AWp.block ?_
    refine AWp.seq ?_
    refine AWp.region ?_
    refine OpsW.pure rfl rfl (pureOp_move rfl) ?_
    refine OpsW.pure rfl rfl (pureOp_assign rfl) ?_
    refine OpsW.nil ?_
    refine AWp.forget ?_ (sub_put (i := 0) rfl (sub_put (i := 6) rfl (sub_put (i := 7) rfl (sub_put (i := 8) rfl (sub_put (i := 9) rfl (sub_put (i := 18) rfl (sub_put (i := 19) rfl (sub_put (i := 20) rfl (sub_nil)))))))))
    refine AWp.seq ?_
    refine AWp.draw [(0, .pure), (1, .pure), (2, .pure), (3, .ro), (4, .pure), (5, .pure), (6, .pure), (7, .ro), (8, .pure), (9, .pure), (10, .wr), (11, .pure), (12, .pure), (13, .pure), (14, .alloc), (15, .wr), (16, .pure)] rfl (by decide +kernel) (fun _ _ _ p h => AWp.perm h p.symm) ?_
    refine ⟨_, _, rfl, OpStep.pure rfl rfl (pureOp_move rfl), ?_⟩
    rintro _ _ ⟨rfl, rfl⟩ -
    refine ⟨_, _, rfl, OpStep.pure rfl rfl (pureOp_nilCheck rfl), ?_⟩
    rintro _ _ ⟨rfl, rfl⟩ -
    refine ⟨_, _, rfl, OpStep.pure rfl rfl (pureOp_fieldAddr fa144_0 rfl), ?_⟩
    rintro _ _ ⟨rfl, rfl⟩ -
    refine ⟨_, _, rfl, OpStep.ro rfl rfl (loadOp_scal sc48 rfl (.inl hr.d)), ?_⟩
    rintro _ _ ⟨rfl, rfl⟩ -
    refine ⟨_, _, rfl, OpStep.pure rfl rfl (pureOp_move rfl), ?_⟩
    rintro _ _ ⟨rfl, rfl⟩ -
    refine ⟨_, _, rfl, OpStep.pure rfl rfl (pureOp_nilCheck rfl), ?_⟩
    rintro _ _ ⟨rfl, rfl⟩ -
    refine ⟨_, _, rfl, OpStep.pure rfl rfl (pureOp_fieldAddr fa144_1 rfl), ?_⟩
    rintro _ _ ⟨rfl, rfl⟩ -
    refine ⟨_, _, rfl, OpStep.ro rfl rfl (loadOp_scal sc3 rfl (.inl hr.f)), ?_⟩
    rintro _ _ ⟨rfl, rfl⟩ -
    refine ⟨_, _, rfl, OpStep.pure rfl rfl (pureOp_move rfl), ?_⟩
    rintro _ _ ⟨rfl, rfl⟩ -
    refine ⟨_, _, rfl, OpStep.pure rfl rfl (opN_add rfl rfl (by omega)), ?_⟩
    rintro _ _ ⟨rfl, rfl⟩ -
    refine ⟨_, _, rfl, OpStep.callW rfl rfl (callOp Try.call87 rfl) (Sel.perm (L' := [.obj b _, .sl lv 256 _, .sl wv 257 _, .mp mb _]) (by repeat (first | exact Sel.nil | (apply Sel.cons; (repeat (first | exact Ext.here | apply Ext.there)))))) (dread_c b lv wv mb D ((fr + i : Nat) : Int) _ h), ?_⟩
    rintro _ _ ⟨_, _, ⟨rfl, rfl⟩, rfl, rfl⟩ -
    rw [read_up hu hw0 (i := fr + i) (by omega)]
    dsimp only
    obtain ⟨s, hs1⟩ : ∃ s, s = D.last.getD (fr + i) [] := ⟨_, rfl⟩
    rw [← hs1]
    have hsl : s.length = 256 := by rw [hs1]; exact h.ok.sec.getD (by omega)
    have hsm : (s.map bV).length = 256 := by rw [List.length_map]; exact hsl
    refine ⟨_, _, rfl, OpStep.pure rfl rfl (pureOp_move rfl), ?_⟩
    rintro _ _ ⟨rfl, rfl⟩ -
    refine ⟨_, _, rfl, OpStep.pure rfl rfl (pureOp_extract rfl rfl), ?_⟩
    rintro _ _ ⟨rfl, rfl⟩ -
    refine ⟨_, _, rfl, OpStep.pure rfl rfl (pureOp_extract rfl rfl), ?_⟩
    rintro _ _ ⟨rfl, rfl⟩ -
    refine ⟨_, _, rfl, allocStep_alloc rfl rfl zt24, ?_⟩
    rintro _ _ ⟨_, _, ⟨b10, rfl, rfl⟩, rfl, rfl⟩ -
    refine ⟨_, _, rfl, OpStep.wr rfl rfl (toWp (by repeat (first | exact Pos.here | apply Pos.there)) (lop_storeAllN 256 Try.sizeOf24 rfl rfl List.length_replicate hsm (by first | exact one_map (fun _ => rfl) _ | exact one_rfl rfl | exact one_sup _ | (simp [one, *]; done)))), ?_⟩
    rintro _ _ ⟨_, ⟨_, ⟨rfl, rfl⟩, rfl⟩, rfl⟩ -
    refine ⟨_, _, rfl, OpStep.pure rfl rfl (pureOp_assign rfl), ?_⟩
    rintro _ _ ⟨rfl, rfl⟩ -
    refine AWp.forget ?_ (sub_put (i := 0) rfl (sub_put (i := 6) rfl (sub_put (i := 7) rfl (sub_put (i := 8) rfl (sub_put (i := 9) rfl (sub_put (i := 10) rfl (sub_put (i := 11) rfl (sub_put (i := 18) rfl (sub_put (i := 19) rfl (sub_put (i := 20) rfl (sub_nil)))))))))))
    refine AWp.seq ?_
    refine AWp.seq ?_
    refine AWp.region ?_
    refine OpsW.pure rfl rfl (pureOp_move rfl) ?_
    refine OpsW.pure rfl rfl (opN_neq (b := 0) rfl rfl) ?_
    refine OpsW.knowB (d := 37) (b := false) (by show some (Value.bool (decide _)) = _; rw [decide_eq_false (fun h => h rfl)]) ?_
    refine OpsW.nil ?_
    refine AWp.forget ?_ (sub_put (i := 0) rfl (sub_put (i := 6) rfl (sub_put (i := 7) rfl (sub_put (i := 8) rfl (sub_put (i := 9) rfl (sub_put (i := 10) rfl (sub_put (i := 11) rfl (sub_put (i := 18) rfl (sub_put (i := 19) rfl (sub_put (i := 20) rfl (sub_put (i := 37) rfl (sub_nil))))))))))))
    refine AWp.cond_false rfl ?_
    refine AWp.skip ?_
    refine AWp.seq ?_
    refine AWp.region ?_
    refine OpsW.load rfl rfl (loadAll rfl (by repeat (first | exact List.Mem.head _ | apply List.Mem.tail)) hsm ag24) ?_
    refine OpsW.callA rfl rfl (callOp Try.call31 rfl) permNone (rget_c s _ hsl) ?_
    rintro _ _ ⟨k, v, bs, rfl, hv, hg, rfl⟩
    refine OpsW.pure rfl rfl (pureOp_move rfl) ?_
    refine OpsW.pure rfl rfl (pureOp_extract rfl rfl) ?_
    refine OpsW.pure rfl rfl (pureOp_extract rfl rfl) ?_
    refine OpsW.pure rfl rfl (pureOp_extract rfl rfl) ?_
    refine OpsW.pure rfl rfl (pureOp_assign rfl) ?_
    refine OpsW.pure rfl rfl (pureOp_assign rfl) ?_
    refine OpsW.pure rfl rfl (pureOp_assign rfl) ?_
    refine OpsW.nil ?_
    refine AWp.forget ?_ (sub_put (i := 0) rfl (sub_put (i := 6) rfl (sub_put (i := 7) rfl (sub_put (i := 8) rfl (sub_put (i := 9) rfl (sub_put (i := 10) rfl (sub_put (i := 11) rfl (sub_put (i := 12) rfl (sub_put (i := 14) rfl (sub_put (i := 18) rfl (sub_put (i := 19) rfl (sub_put (i := 20) rfl (sub_put (i := 37) rfl (sub_nil))))))))))))))
    refine AWp.seq ?_
    refine AWp.seq ?_
    refine AWp.joinW (fun m' T' L' => ∃ cc : Bool, (cc = true ↔ ¬ (goodR s ∧ k % sz = i)) ∧ m' = m ∧ T' = put (put (put (put (put (put (put (put (tnil) 56 (.bool cc)) 19 (iV i)) 18 (iV sz)) 12 (iV k)) 8 (.bool F.2.2)) 7 (.int .i64 F.2.1)) 6 (iV F.1)) 0 (.pointer (some ⟨rb, 0, none⟩)) ∧ L' = [.obj b [lv, wv, .map (some mb), .int .i64 D.steps, .int .i64 D.fuse, .bool D.down], .sl lv 256 (secC D.last), .sl wv 257 (wrC D.wait), .mp mb (mapC (nowL D.wait))]) ?_ ?_
    · skip
      refine AWp.region ?_
      refine OpsW.pure rfl rfl (pureOp_move rfl) ?_
      refine OpsW.pure rfl rfl (pureOp_notP rfl) ?_
      refine OpsW.splitP (d := 46) rfl (fun h46 => ?_) (fun h46 => ?_)
      · skip
        refine OpsW.pure rfl rfl (pureOp_move rfl) ?_
        refine OpsW.skipG rfl rfl ?_
        refine OpsW.skipG rfl rfl ?_
        refine OpsW.skipG rfl rfl ?_
        refine OpsW.skipG rfl rfl ?_
        refine OpsW.skipG rfl rfl ?_
        refine OpsW.skipG rfl rfl ?_
        refine OpsW.skipG rfl rfl ?_
        refine OpsW.skipG rfl rfl ?_
        refine OpsW.pure rfl rfl (pureOp_pick_true rfl rfl) ?_
        refine OpsW.nil ?_
        refine ⟨_, [.obj b _, .sl lv 256 _, .sl wv 257 _, .mp mb (mapC (nowL D.wait))], _, sub_put (i := 0) rfl (sub_put (i := 6) rfl (sub_put (i := 7) rfl (sub_put (i := 8) rfl (sub_put (i := 12) rfl (sub_put (i := 18) rfl (sub_put (i := 19) rfl (sub_put (i := 56) rfl (sub_nil)))))))), Sel.perm (by repeat (first | exact Sel.nil | (apply Sel.cons; (repeat (first | exact Ext.here | apply Ext.there))))), ?_⟩
        exact ⟨_, (by first | exact ⟨fun _ h => h46 h.1, fun _ => rfl⟩ | exact ⟨fun h k => of_decide_eq_true h k.2, fun h => decide_eq_true fun k => h ⟨Decidable.of_not_not h46, k⟩⟩), rfl, rfl, rfl⟩
      · skip
        refine OpsW.pure rfl rfl (pureOp_move rfl) ?_
        refine OpsW.pure rfl rfl (pureOp_move rfl) ?_
        refine OpsW.pure rfl rfl (pureOp_move rfl) ?_
        refine OpsW.pure rfl rfl (pureOp_nilCheck rfl) ?_
        refine OpsW.pure rfl rfl (pureOp_fieldAddr fa144_2 rfl) ?_
        refine OpsW.load rfl rfl (loadOp_scal sc3 rfl (.inl hr.s)) ?_
        have hkb : k ≤ 1099511627776 := by
          have h1 := Decidable.of_not_not h46
          rw [(hg h1).1]; exact h1.1.2.1
        refine OpsW.pure rfl rfl (opN_rem rfl rfl (by omega) (by omega)) ?_
        refine OpsW.pure rfl rfl (pureOp_move rfl) ?_
        refine OpsW.pure rfl rfl (opN_neq rfl rfl) ?_
        refine OpsW.pure rfl rfl (pureOp_pick_false rfl rfl) ?_
        refine OpsW.nil ?_
        refine ⟨_, [.obj b _, .sl lv 256 _, .sl wv 257 _, .mp mb (mapC (nowL D.wait))], _, sub_put (i := 0) rfl (sub_put (i := 6) rfl (sub_put (i := 7) rfl (sub_put (i := 8) rfl (sub_put (i := 12) rfl (sub_put (i := 18) rfl (sub_put (i := 19) rfl (sub_put (i := 56) rfl (sub_nil)))))))), Sel.perm (by repeat (first | exact Sel.nil | (apply Sel.cons; (repeat (first | exact Ext.here | apply Ext.there))))), ?_⟩
        exact ⟨_, (by first | exact ⟨fun _ h => h46 h.1, fun _ => rfl⟩ | exact ⟨fun h k => of_decide_eq_true h k.2, fun h => decide_eq_true fun k => h ⟨Decidable.of_not_not h46, k⟩⟩), rfl, rfl, rfl⟩
    rintro m _ _ ⟨cc, hcc, rfl, rfl, rfl⟩
    refine AWp.cond rfl (fun ht56 => ?_) (fun ht56 => ?_)
    · skip
      refine AWp.exit (exit_here ?_)
      refine ⟨_, [.obj b _, .sl lv 256 _, .sl wv 257 _, .mp mb (mapC (nowL D.wait))], _, sub_put (i := 0) rfl (sub_put (i := 6) rfl (sub_put (i := 7) rfl (sub_put (i := 8) rfl (sub_put (i := 18) rfl (sub_put (i := 19) rfl (sub_nil)))))), Sel.perm (by repeat (first | exact Sel.nil | (apply Sel.cons; (repeat (first | exact Ext.here | apply Ext.there))))), ?_⟩
      first
        | exact ⟨rfl, (by rw [foundN, ← hs1, ← hF, if_neg (fun h => hcc.1 ht56 ⟨h.1, by rw [(hg h.1).1]; exact h.2⟩)]), rfl⟩
        | exact ⟨rfl, (by rw [foundN, ← hs1, ← hF, if_pos hok]), rfl⟩
    refine AWp.skip ?_
    refine AWp.seq ?_
    refine AWp.seq ?_
    have hok : goodR s ∧ k % sz = i := Decidable.byContradiction fun h => by rw [hcc.2 h] at ht56; cases ht56
    obtain ⟨hk1, _⟩ := hg hok.1
    subst hk1
    refine AWp.joinW (fun m' T' L' => ∃ ee : Bool, (ee = true ↔ (F.2.2 = false ∨ gN s 4 8 < F.1)) ∧ m' = m ∧ T' = put (put (put (put (put (put (put (put (tnil) 63 (.bool ee)) 19 (iV i)) 18 (iV sz)) 12 (iV (gN s 4 8))) 8 (.bool F.2.2)) 7 (.int .i64 F.2.1)) 6 (iV F.1)) 0 (.pointer (some ⟨rb, 0, none⟩)) ∧ L' = [.obj b [lv, wv, .map (some mb), .int .i64 D.steps, .int .i64 D.fuse, .bool D.down], .sl lv 256 (secC D.last), .sl wv 257 (wrC D.wait), .mp mb (mapC (nowL D.wait))]) ?_ ?_
    · skip
      refine AWp.region ?_
      refine OpsW.pure rfl rfl (pureOp_move rfl) ?_
      refine OpsW.pure rfl rfl (pureOp_not rfl) ?_
      refine OpsW.split (d := 58) rfl (fun h58 => ?_) (fun h58 => ?_)
      · skip
        refine OpsW.pure rfl rfl (pureOp_move rfl) ?_
        refine OpsW.skipG rfl rfl ?_
        refine OpsW.skipG rfl rfl ?_
        refine OpsW.skipG rfl rfl ?_
        refine OpsW.pure rfl rfl (pureOp_pick_true rfl rfl) ?_
        refine OpsW.nil ?_
        refine ⟨_, [.obj b _, .sl lv 256 _, .sl wv 257 _, .mp mb (mapC (nowL D.wait))], _, sub_put (i := 0) rfl (sub_put (i := 6) rfl (sub_put (i := 7) rfl (sub_put (i := 8) rfl (sub_put (i := 12) rfl (sub_put (i := 18) rfl (sub_put (i := 19) rfl (sub_put (i := 63) rfl (sub_nil)))))))), Sel.perm (by repeat (first | exact Sel.nil | (apply Sel.cons; (repeat (first | exact Ext.here | apply Ext.there))))), ?_⟩
        exact ⟨_, (by simp at h58; simp [h58]), rfl, rfl, rfl⟩
      · skip
        refine OpsW.pure rfl rfl (pureOp_move rfl) ?_
        refine OpsW.pure rfl rfl (pureOp_move rfl) ?_
        refine OpsW.pure rfl rfl (pureOp_move rfl) ?_
        refine OpsW.pure rfl rfl (opN_lss rfl rfl) ?_
        refine OpsW.pure rfl rfl (pureOp_pick_false rfl rfl) ?_
        refine OpsW.nil ?_
        refine ⟨_, [.obj b _, .sl lv 256 _, .sl wv 257 _, .mp mb (mapC (nowL D.wait))], _, sub_put (i := 0) rfl (sub_put (i := 6) rfl (sub_put (i := 7) rfl (sub_put (i := 8) rfl (sub_put (i := 12) rfl (sub_put (i := 18) rfl (sub_put (i := 19) rfl (sub_put (i := 63) rfl (sub_nil)))))))), Sel.perm (by repeat (first | exact Sel.nil | (apply Sel.cons; (repeat (first | exact Ext.here | apply Ext.there))))), ?_⟩
        exact ⟨_, (by simp at h58; simp [h58]), rfl, rfl, rfl⟩
    rintro m _ _ ⟨ee, hee, rfl, rfl, rfl⟩
    refine AWp.joinW (fun m' T' L' => m' = m ∧ T' = put (put (put (put (put (put (put (tnil) 19 (iV i)) 18 (iV sz)) 12 (iV (gN s 4 8))) 8 (.bool F.2.2)) 7 (.int .i64 F.2.1)) 6 (iV (if F.2.2 = false ∨ gN s 4 8 < F.1 then gN s 4 8 else F.1))) 0 (.pointer (some ⟨rb, 0, none⟩)) ∧ L' = [.obj b [lv, wv, .map (some mb), .int .i64 D.steps, .int .i64 D.fuse, .bool D.down], .sl lv 256 (secC D.last), .sl wv 257 (wrC D.wait), .mp mb (mapC (nowL D.wait))]) ?_ ?_
    · skip
      refine AWp.cond rfl (fun ht63 => ?_) (fun ht63 => ?_)
      · skip
        refine AWp.region ?_
        refine OpsW.pure rfl rfl (pureOp_move rfl) ?_
        refine OpsW.pure rfl rfl (pureOp_assign rfl) ?_
        refine OpsW.nil ?_
        refine ⟨_, [.obj b _, .sl lv 256 _, .sl wv 257 _, .mp mb (mapC (nowL D.wait))], _, sub_put (i := 0) rfl (sub_put (i := 6) rfl (sub_put (i := 7) rfl (sub_put (i := 8) rfl (sub_put (i := 12) rfl (sub_put (i := 18) rfl (sub_put (i := 19) rfl (sub_nil))))))), Sel.perm (by repeat (first | exact Sel.nil | (apply Sel.cons; (repeat (first | exact Ext.here | apply Ext.there))))), ?_⟩
        first
          | exact ⟨rfl, (by rw [if_pos (hee.1 ht63)]), rfl⟩
          | exact ⟨rfl, (by rw [if_neg (fun h => by rw [hee.2 h] at ht63; cases ht63)]), rfl⟩
      · skip
        refine AWp.skip ?_
        refine ⟨_, [.obj b _, .sl lv 256 _, .sl wv 257 _, .mp mb (mapC (nowL D.wait))], _, sub_put (i := 0) rfl (sub_put (i := 6) rfl (sub_put (i := 7) rfl (sub_put (i := 8) rfl (sub_put (i := 12) rfl (sub_put (i := 18) rfl (sub_put (i := 19) rfl (sub_nil))))))), Sel.perm (by repeat (first | exact Sel.nil | (apply Sel.cons; (repeat (first | exact Ext.here | apply Ext.there))))), ?_⟩
        first
          | exact ⟨rfl, (by rw [if_pos (hee.1 ht63)]), rfl⟩
          | exact ⟨rfl, (by rw [if_neg (fun h => by rw [hee.2 h] at ht63; cases ht63)]), rfl⟩
    rintro m _ _ ⟨rfl, rfl, rfl⟩
    refine AWp.region ?_
    refine OpsW.pure rfl rfl (pureOp_move rfl) ?_
    refine OpsW.pure rfl rfl (pureOp_move rfl) ?_
    refine OpsW.pure rfl rfl (opZ_max rfl rfl) ?_
    refine OpsW.pure rfl rfl (pureOp_assign rfl) ?_
    refine OpsW.pure rfl rfl (pureOp_assign rfl) ?_
    refine OpsW.nil ?_
    refine ⟨_, [.obj b _, .sl lv 256 _, .sl wv 257 _, .mp mb (mapC (nowL D.wait))], _, sub_put (i := 0) rfl (sub_put (i := 6) rfl (sub_put (i := 7) rfl (sub_put (i := 8) rfl (sub_put (i := 18) rfl (sub_put (i := 19) rfl (sub_nil)))))), Sel.perm (by repeat (first | exact Sel.nil | (apply Sel.cons; (repeat (first | exact Ext.here | apply Ext.there))))), ?_⟩
    first
      | exact ⟨rfl, (by rw [foundN, ← hs1, ← hF, if_neg (fun h => hcc.1 ht56 ⟨h.1, by rw [(hg h.1).1]; exact h.2⟩)]), rfl⟩
      | exact ⟨rfl, (by rw [foundN, ← hs1, ← hF, if_pos hok]), rfl⟩
  rintro m _ _ ⟨rfl, rfl, rfl⟩
  refine AWp.region ?_
  refine OpsW.pure rfl rfl (opN_add (b := 1) rfl rfl (by omega)) ?_
  refine OpsW.pure rfl rfl (pureOp_move rfl) ?_
  refine OpsW.forget ?_ (sub_put (i := 0) rfl (sub_put (i := 6) rfl (sub_put (i := 7) rfl (sub_put (i := 8) rfl (sub_put (i := 18) rfl (sub_put (i := 19) rfl (sub_nil)))))))
  refine OpsW.keep (L' := [.obj b _, .sl lv 256 _, .sl wv 257 _, .mp mb (mapC (nowL D.wait))]) (by repeat (first | exact Sel.nil | (apply Sel.cons; (repeat (first | exact Ext.here | apply Ext.there))))) ?_
  refine OpsW.nil ?_
  exact ⟨_, by omega, i + 1, rfl, by omega, rfl, rfl, rfl⟩
  obtain rfl : i = sz := by omega
  refine AWp.exit (exit_here ?_)
  refine AWp.seq ?_
  refine AWp.region ?_
  refine OpsW.pure rfl rfl (pureOp_move rfl) ?_
  refine OpsW.pure rfl rfl (pureOp_move rfl) ?_
  refine OpsW.pure rfl rfl (pureOp_move rfl) ?_
  refine OpsW.pure rfl rfl (pureOp_assign rfl) ?_
  refine OpsW.pure rfl rfl (pureOp_assign rfl) ?_
  refine OpsW.pure rfl rfl (pureOp_assign rfl) ?_
  refine OpsW.pure rfl rfl (pureOp_assign rfl) ?_
  refine OpsW.nil ?_
  refine AWp.forget ?_ (sub_put (i := 0) rfl (sub_put (i := 2) rfl (sub_put (i := 3) rfl (sub_put (i := 4) rfl (sub_put (i := 5) rfl (sub_put (i := 6) rfl (sub_put (i := 7) rfl (sub_put (i := 8) rfl (sub_put (i := 18) rfl (sub_put (i := 19) rfl (sub_put (i := 20) rfl (sub_nil))))))))))))
  refine AWp.ret ?_
  exact ⟨_, [.obj b _, .sl lv 256 _, .sl wv 257 _, .mp mb _], _, Sel.perm (by repeat (first | exact Sel.nil | (apply Sel.cons; (repeat (first | exact Ext.here | apply Ext.there))))), res_tmp4 rfl rfl rfl rfl rfl, by rw [hF]; rfl, rfl⟩

end Go.Proofs.Ytpnipajadjeifaa.Sep
