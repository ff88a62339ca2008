/- The walks of ring.All, New, Append, Drop. -/
import Derived.Test.YtpnipajadjeifaaRing3
import Derived.Test.YtpnipajadjeifaaRingC
import Derived.Test.YtpnipajadjeifaaProg
namespace Go.Proofs.Ytpnipajadjeifaa.Sep
open Go Go.RowKit
set_option linter.unusedVariables false
set_option linter.unusedSimpArgs false
theorem slt68 : SlT Try.prog 68 46 1 24 [.slice none 0 0] := ⟨Try.underlying68, ⟨_, _, (by kernel_rfl : Try.prog.info? 46 = some Try.t46), rfl, rfl, rfl, rfl, rfl⟩⟩
theorem ni68 : NotInt Try.prog 68 := ⟨_, Try.underlying68, fun k h => by cases h⟩
theorem st144 : StructT Try.prog 144 [(0, 1), (1, 1), (2, 1), (3, 1), (4, 1)] ([.pointer none, .int .i64 0, .int .i64 0, .int .i64 0, .int .i64 0]) := ⟨_, _, Try.runUnderlying144, Try.zeroValue144, rfl, by intro w; simp [Try.sizeOf3, Try.sizeOf48]⟩


set_option maxRecDepth 20000 in
set_option maxHeartbeats 4000000 in
theorem rall_c (rb b : Nat) (lv wv : Value) (mb : Nat) (D : Dk) (fr sz tl hd : Nat) (m : Mem) (hr : RgM m rb b fr sz tl hd) (h : DkI D lv wv) (hu : Up D) (hw0 : D.wait = []) (h0 : 0 < sz) (hs : sz ≤ 256) (hN : fr + sz ≤ D.last.length) (hle : tl ≤ hd) (hbig : hd ≤ 4000000000000) (hall : ∀ n : Nat, tl ≤ n → n < hd → (readR D.last fr sz tl hd (n : Int)).2 = 0) :
    Ctr Try.prog 88 [.pointer (some ⟨rb, 0, none⟩)] m [.obj b [lv, wv, .map (some mb), .int .i64 D.steps, .int .i64 D.fuse, .bool D.down], .sl lv 256 (secC D.last), .sl wv 257 (wrC D.wait), .mp mb (mapC (nowL D.wait))] (fun _ r L => ∃ v vs μ, r = .tuple #[v, iV 0] ∧ slOk v 1 vs ∧ Parts μ (allL D.last fr sz tl hd (hd - tl)) vs ∧ L = [.sl v 1 vs, .fz μ, .obj b [lv, wv, .map (some mb), .int .i64 D.steps, .int .i64 D.fuse, .bool D.down], .sl lv 256 (secC D.last), .sl wv 257 (wrC D.wait), .mp mb (mapC (nowL D.wait))]) := by
  have hlen := h.ok.len
  refine Ctr.intro Try.func88 rfl Try.ntmps88 (by simp) fun w0 => ?_
  refine AWp.forget ?_ (sub_put (i := 0) rfl (sub_nil))
  refine AWp.seq ?_
  refine AWp.region ?_
  refine OpsW.pure rfl rfl (pureOp_assign rfl) ?_
  refine OpsW.pure rfl rfl (pureOp_assign rfl) ?_
  refine OpsW.nil ?_
  refine AWp.forget ?_ (sub_put (i := 0) rfl (sub_put (i := 2) rfl (sub_put (i := 3) rfl (sub_nil))))
  refine AWp.seq ?_
  refine AWp.region ?_
  refine OpsW.pure rfl rfl (pureOp_assign rfl) ?_
  refine OpsW.nil ?_
  refine AWp.forget ?_ (sub_put (i := 0) rfl (sub_put (i := 2) rfl (sub_put (i := 3) rfl (sub_put (i := 4) rfl (sub_nil)))))
  refine AWp.seq ?_
  refine AWp.seq ?_
  refine AWp.nilChunk 1 ?_
  refine AWp.fz0 ?_
  refine AWp.region ?_
  refine OpsW.pure rfl rfl (pureOp_move rfl) ?_
  refine OpsW.pure rfl rfl (pureOp_nilCheck rfl) ?_
  refine OpsW.pure rfl rfl (pureOp_fieldAddr fa144_3 rfl) ?_
  refine OpsW.load rfl rfl (loadOp_scal sc3 rfl (.inl hr.t)) ?_
  refine OpsW.pure rfl rfl (pureOp_assign rfl) ?_
  refine OpsW.nil ?_
  refine AWp.forget ?_ (sub_put (i := 0) rfl (sub_put (i := 2) rfl (sub_put (i := 3) rfl (sub_put (i := 4) rfl (sub_put (i := 5) rfl (sub_nil))))))
  refine AWp.block ?_
  refine AWp.forget ?_ (sub_put (i := 0) rfl (sub_put (i := 4) rfl (sub_put (i := 5) rfl (sub_nil))))
  refine AWp.keep (L' := [.sl (.slice none 0 0) 1 _, .fz _, .obj b _, .sl lv 256 _, .sl wv 257 _, .mp mb _]) (by repeat (first | exact Sel.nil | (apply Sel.cons; (repeat (first | exact Ext.here | apply Ext.there))))) ?_
  refine AWp.loop (fun N m' T' L' => ∃ (k : Nat) (ov : Value) (ovs : List Value) (μ : Mem), N = hd - (tl + k) ∧ tl + k ≤ hd ∧ slOk ov 1 ovs ∧ Parts μ (allL D.last fr sz tl hd k) ovs ∧ m' = m ∧ T' = put (put (put (tnil) 5 (iV (tl + k))) 4 (ov)) 0 (.pointer (some ⟨rb, 0, none⟩)) ∧ L' = [.sl ov 1 ovs, .fz μ, .obj b [lv, wv, .map (some mb), .int .i64 D.steps, .int .i64 D.fuse, .bool D.down], .sl lv 256 (secC D.last), .sl wv 257 (wrC D.wait), .mp mb (mapC (nowL D.wait))]) _ (⟨0, .slice none 0 0, [], _, rfl, hle, .inl ⟨rfl, rfl⟩, ⟨rfl, fun i hi => absurd hi (Nat.not_lt_zero _)⟩, rfl, rfl, rfl⟩) ?_
  rintro _ m _ _ ⟨k, ov, ovs, μ, rfl, hk, hov, hparts, rfl, rfl, rfl⟩
  refine AWp.seq ?_
  refine AWp.seq ?_
  refine AWp.region ?_
  refine OpsW.pure rfl rfl (pureOp_move rfl) ?_
  refine OpsW.pure rfl rfl (pureOp_move rfl) ?_
  refine OpsW.pure rfl rfl (pureOp_nilCheck rfl) ?_
  refine OpsW.pure rfl rfl (pureOp_fieldAddr fa144_4 rfl) ?_
  refine OpsW.load rfl rfl (loadOp_scal sc3 rfl (.inl hr.h)) ?_
  refine OpsW.pure rfl rfl (opN_lss rfl rfl) ?_
  refine OpsW.nil ?_
  refine AWp.forget ?_ (sub_put (i := 0) rfl (sub_put (i := 4) rfl (sub_put (i := 5) rfl (sub_put (i := 17) rfl (sub_nil)))))
  refine AWp.condP rfl (fun ht17 => ?_) (fun ht17 => ?_)
  refine AWp.skip ?_
  refine AWp.seq ?_
  refine AWp.block ?_
  refine AWp.seq ?_
  refine AWp.region ?_
  refine OpsW.pure rfl rfl (pureOp_move rfl) ?_
  refine OpsW.pure rfl rfl (pureOp_move rfl) ?_
  refine OpsW.callA rfl rfl (callOp Try.call45 rfl) (Sel.perm (L' := [.obj b _, .sl lv 256 _, .sl wv 257 _, .mp mb _]) (by repeat (first | exact Sel.nil | (apply Sel.cons; (repeat (first | exact Ext.here | apply Ext.there)))))) (rread_c rb b lv wv mb D fr sz tl hd ((tl + k : Nat) : Int) _ hr.ro h hu hw0 h0 hs hN hle hbig) ?_
  rintro _ _ ⟨v, rfl, hv, rfl⟩
  rw [hall (tl + k) (by omega) (by omega)]
  obtain ⟨bs, hbs⟩ : ∃ bs, bs = (readR D.last fr sz tl hd ((tl + k : Nat) : Int)).1 := ⟨_, rfl⟩
  rw [← hbs] at hv ⊢
  refine OpsW.pure rfl rfl (pureOp_move rfl) ?_
  refine OpsW.pure rfl rfl (pureOp_extract (v := v) rfl rfl) ?_
  refine OpsW.pure rfl rfl (pureOp_extract rfl rfl) ?_
  refine OpsW.pure rfl rfl (pureOp_assign rfl) ?_
  refine OpsW.pure rfl rfl (pureOp_assign rfl) ?_
  refine OpsW.nil ?_
  refine AWp.forget ?_ (sub_put (i := 0) rfl (sub_put (i := 4) rfl (sub_put (i := 5) rfl (sub_put (i := 6) rfl (sub_put (i := 7) rfl (sub_put (i := 17) rfl (sub_nil)))))))
  refine AWp.seq ?_
  refine AWp.seq ?_
  refine AWp.region ?_
  refine OpsW.pure rfl rfl (pureOp_move rfl) ?_
  refine OpsW.pure rfl rfl (opN_neq (b := 0) rfl rfl) ?_
  refine OpsW.knowB (d := 27) (b := false) (by show some (Value.bool (decide _)) = _; rw [decide_eq_false (fun h => h rfl)]) ?_
  refine OpsW.nil ?_
  refine AWp.forget ?_ (sub_put (i := 0) rfl (sub_put (i := 4) rfl (sub_put (i := 5) rfl (sub_put (i := 6) rfl (sub_put (i := 7) rfl (sub_put (i := 17) rfl (sub_put (i := 27) rfl (sub_nil))))))))
  refine AWp.cond_false rfl ?_
  refine AWp.skip ?_
  refine AWp.keep (L' := [.sl v 1 _, .fz μ, .sl ov 1 _, .obj b _, .sl lv 256 _, .sl wv 257 _, .mp mb _]) (by repeat (first | exact Sel.nil | (apply Sel.cons; (repeat (first | exact Ext.here | apply Ext.there))))) ?_
  refine AWp.gather ?_
  have hpm : Parts (fun z u => μ z u ∨ (Chunk.sl v 1 (bs.map bV)).at z u) (allL D.last fr sz tl hd k ++ [bs]) (ovs ++ [v]) := (hparts.mono fun z u h => .inl h).snoc (Rd.of_at hv fun z u h => .inr h)
  revert hpm
  generalize (fun z u => μ z u ∨ (Chunk.sl v 1 (bs.map bV)).at z u) = μ2
  intro hpm
  have hol := hparts.len
  rw [allL_length] at hol
  refine AWp.region ?_
  refine OpsW.pure rfl rfl (pureOp_move rfl) ?_
  refine OpsW.pure rfl rfl (pureOp_move rfl) ?_
  refine OpsW.alloc rfl rfl (allocOp_buildSlice slt68 rfl rfl (fun u hu => by rw [List.mem_singleton.1 hu]; exact size_sl hv) (by decide)) ?_
  rintro v31 _ ⟨hv31, hn31, rfl⟩
  rw [show List.flatMap (fun x : Value => x.cells.toList) [v] = [v] from by simp [cells_sl hv]] at hv31 ⊢
  refine OpsW.upd rfl rfl (by repeat (first | exact Pos.here | apply Pos.there)) (lop_append (k := ovs.length) slt68 ni68 rfl rfl (by simp) (src_rd (n := 1) (by first | exact Rd.ro (by assumption) | exact Rd.of_sl (by repeat (first | exact List.Mem.head _ | apply List.Mem.tail)) (by assumption)) rfl (by decide)) (by omega) (by intro u hu; rw [List.mem_singleton.1 hu]; exact one_sl hv) (by decide) (by decide)) ?_
  rintro v32 _ ⟨hv32, rfl⟩
  refine OpsW.pure rfl rfl (pureOp_assign rfl) ?_
  refine OpsW.nil ?_
  refine AWp.forget ?_ (sub_put (i := 0) rfl (sub_put (i := 4) rfl (sub_put (i := 5) rfl (sub_put (i := 6) rfl (sub_put (i := 7) rfl (sub_put (i := 17) rfl (sub_put (i := 27) rfl (sub_nil))))))))
  refine AWp.region ?_
  refine OpsW.pure rfl rfl (pureOp_move rfl) ?_
  refine OpsW.pure rfl rfl (opN_add (b := 1) rfl rfl (by omega)) ?_
  refine OpsW.pure rfl rfl (pureOp_assign rfl) ?_
  refine OpsW.forget ?_ (sub_put (i := 0) rfl (sub_put (i := 4) rfl (sub_put (i := 5) rfl (sub_nil))))
  refine OpsW.keep (L' := [.sl v32 1 _, .fz _, .obj b _, .sl lv 256 _, .sl wv 257 _, .mp mb _]) (by repeat (first | exact Sel.nil | (apply Sel.cons; (repeat (first | exact Ext.here | apply Ext.there))))) ?_
  refine OpsW.nil ?_
  exact ⟨_, by omega, k + 1, v32, ovs ++ [v], μ2, rfl, by omega, hv32, (by rw [allL_succ, ← hbs]; exact hpm), rfl, rfl, rfl⟩
  obtain rfl : k = hd - tl := by omega
  refine AWp.exit (exit_here ?_)
  refine AWp.seq ?_
  refine AWp.region ?_
  refine OpsW.pure rfl rfl (pureOp_move rfl) ?_
  refine OpsW.pure rfl rfl (pureOp_assign rfl) ?_
  refine OpsW.pure rfl rfl (pureOp_assign rfl) ?_
  refine OpsW.nil ?_
  refine AWp.forget ?_ (sub_put (i := 0) rfl (sub_put (i := 2) rfl (sub_put (i := 3) rfl (sub_put (i := 4) rfl (sub_put (i := 5) rfl (sub_put (i := 17) rfl (sub_nil)))))))
  refine AWp.ret ?_
  exact ⟨_, [.sl ov 1 _, .fz μ, .obj b _, .sl lv 256 _, .sl wv 257 _, .mp mb _], _, Sel.perm (by repeat (first | exact Sel.nil | (apply Sel.cons; (repeat (first | exact Ext.here | apply Ext.there))))), res_tmp2 rfl rfl rfl, ov, ovs, μ, rfl, hov, hparts, rfl⟩

set_option maxRecDepth 20000 in
set_option maxHeartbeats 4000000 in
theorem rnew_c (b : Nat) (lv wv : Value) (mb : Nat) (D : Dk) (fr sz : Nat) (m : Mem) (h : DkI D lv wv) (hf : fr ≤ 1000000) (hs : sz ≤ 1000000) :
    Ctr Try.prog 35 [.pointer (some ⟨b, 0, none⟩), iV fr, iV sz] m [.obj b [lv, wv, .map (some mb), .int .i64 D.steps, .int .i64 D.fuse, .bool D.down], .sl lv 256 (secC D.last), .sl wv 257 (wrC D.wait), .mp mb (mapC (nowL D.wait))] (fun _ r L => (2 ≤ sz ∧ sz ≤ 256 ∧ fr + sz ≤ D.last.length) ∧ (∃ rb, r = .tuple #[.pointer (some ⟨rb, 0, none⟩), iV 0] ∧ L = [.obj rb (rgC b fr sz 0 0), .obj b [lv, wv, .map (some mb), .int .i64 D.steps, .int .i64 D.fuse, .bool D.down], .sl lv 256 (secC D.last), .sl wv 257 (wrC D.wait), .mp mb (mapC (nowL D.wait))]) ∨ ¬ (2 ≤ sz ∧ sz ≤ 256 ∧ fr + sz ≤ D.last.length) ∧ r = .tuple #[.pointer none, iV 2] ∧ L = [.obj b [lv, wv, .map (some mb), .int .i64 D.steps, .int .i64 D.fuse, .bool D.down], .sl lv 256 (secC D.last), .sl wv 257 (wrC D.wait), .mp mb (mapC (nowL D.wait))]) := by
  have hlen := h.ok.len
  refine Ctr.intro Try.func35 rfl Try.ntmps35 (by simp) fun w0 => ?_
  refine AWp.forget ?_ (sub_put (i := 0) rfl (sub_put (i := 1) rfl (sub_put (i := 2) rfl (sub_nil))))
  refine AWp.seq ?_
  refine AWp.region ?_
  refine OpsW.pure rfl rfl (pureOp_assign rfl) ?_
  refine OpsW.pure rfl rfl (pureOp_assign rfl) ?_
  refine OpsW.nil ?_
  refine AWp.forget ?_ (sub_put (i := 0) rfl (sub_put (i := 1) rfl (sub_put (i := 2) rfl (sub_put (i := 6) rfl (sub_put (i := 7) rfl (sub_nil))))))
  refine AWp.seq ?_
  refine AWp.block ?_
  refine AWp.seq ?_
  refine AWp.region ?_
  refine OpsW.pure rfl rfl (pureOp_move rfl) ?_
  refine OpsW.pure rfl rfl (opP_isNil Try.underlying48 rfl) ?_
  refine OpsW.pure rfl rfl (pureOp_assign rfl) ?_
  refine OpsW.nil ?_
  refine AWp.forget ?_ (sub_put (i := 0) rfl (sub_put (i := 1) rfl (sub_put (i := 2) rfl (sub_put (i := 6) rfl (sub_put (i := 7) rfl (sub_put (i := 8) rfl (sub_nil)))))))
  refine AWp.cond_false rfl ?_
  refine AWp.seq ?_
  refine AWp.joinW (fun m' T' L' => ∃ bb : Bool, (bb = true ↔ ¬ (2 ≤ sz ∧ sz ≤ 256 ∧ fr + sz ≤ D.last.length)) ∧ m' = m ∧ T' = put (put (put (put (tnil) 11 (.bool bb)) 2 (iV sz)) 1 (iV fr)) 0 (.pointer (some ⟨b, 0, none⟩)) ∧ L' = [.obj b [lv, wv, .map (some mb), .int .i64 D.steps, .int .i64 D.fuse, .bool D.down], .sl lv 256 (secC D.last), .sl wv 257 (wrC D.wait), .mp mb (mapC (nowL D.wait))]) ?_ ?_
  · skip
    refine AWp.region ?_
    refine OpsW.pure rfl rfl (pureOp_move rfl) ?_
    refine OpsW.pure rfl rfl (opN_lss (b := 2) rfl rfl) ?_
    refine OpsW.splitP (d := 13) rfl (fun h13 => ?_) (fun h13 => ?_)
    · skip
      refine OpsW.pure rfl rfl (pureOp_move rfl) ?_
      refine OpsW.skipG rfl rfl ?_
      refine OpsW.skipG rfl rfl ?_
      refine OpsW.pure rfl rfl (pureOp_pick_true rfl rfl) ?_
      refine OpsW.pure rfl rfl (pureOp_move rfl) ?_
      refine OpsW.skipG rfl rfl ?_
      refine OpsW.skipG rfl rfl ?_
      refine OpsW.pure rfl rfl (pureOp_pick_true rfl rfl) ?_
      refine OpsW.pure rfl rfl (pureOp_move rfl) ?_
      refine OpsW.skipG rfl rfl ?_
      refine OpsW.skipG rfl rfl ?_
      refine OpsW.skipG rfl rfl ?_
      refine OpsW.skipG rfl rfl ?_
      refine OpsW.skipG rfl rfl ?_
      refine OpsW.skipG rfl rfl ?_
      refine OpsW.pure rfl rfl (pureOp_pick_true rfl rfl) ?_
      refine OpsW.pure rfl rfl (pureOp_assign rfl) ?_
      refine OpsW.nil ?_
      refine ⟨_, [.obj b _, .sl lv 256 _, .sl wv 257 _, .mp mb (mapC (nowL D.wait))], _, sub_put (i := 0) rfl (sub_put (i := 1) rfl (sub_put (i := 2) rfl (sub_put (i := 11) rfl (sub_nil)))), Sel.perm (by repeat (first | exact Sel.nil | (apply Sel.cons; (repeat (first | exact Ext.here | apply Ext.there))))), ?_⟩
      exact ⟨_, (by constructor <;> intro h <;> first | rfl | (have := of_decide_eq_true h; omega) | (apply decide_eq_true; omega) | omega | (exfalso; omega)), rfl, rfl, rfl⟩
    · skip
      refine OpsW.pure rfl rfl (pureOp_move rfl) ?_
      refine OpsW.pure rfl rfl (pureOp_move rfl) ?_
      refine OpsW.pure rfl rfl (opN_gtr (b := 256) rfl rfl) ?_
      refine OpsW.splitP (d := 16) rfl (fun h16 => ?_) (fun h16 => ?_)
      · skip
        refine OpsW.pure rfl rfl (pureOp_pick_false rfl rfl) ?_
        refine OpsW.pure rfl rfl (pureOp_move rfl) ?_
        refine OpsW.skipG rfl rfl ?_
        refine OpsW.skipG rfl rfl ?_
        refine OpsW.pure rfl rfl (pureOp_pick_true rfl rfl) ?_
        refine OpsW.pure rfl rfl (pureOp_move rfl) ?_
        refine OpsW.skipG rfl rfl ?_
        refine OpsW.skipG rfl rfl ?_
        refine OpsW.skipG rfl rfl ?_
        refine OpsW.skipG rfl rfl ?_
        refine OpsW.skipG rfl rfl ?_
        refine OpsW.skipG rfl rfl ?_
        refine OpsW.pure rfl rfl (pureOp_pick_true rfl rfl) ?_
        refine OpsW.pure rfl rfl (pureOp_assign rfl) ?_
        refine OpsW.nil ?_
        refine ⟨_, [.obj b _, .sl lv 256 _, .sl wv 257 _, .mp mb (mapC (nowL D.wait))], _, sub_put (i := 0) rfl (sub_put (i := 1) rfl (sub_put (i := 2) rfl (sub_put (i := 11) rfl (sub_nil)))), Sel.perm (by repeat (first | exact Sel.nil | (apply Sel.cons; (repeat (first | exact Ext.here | apply Ext.there))))), ?_⟩
        exact ⟨_, (by constructor <;> intro h <;> first | rfl | (have := of_decide_eq_true h; omega) | (apply decide_eq_true; omega) | omega | (exfalso; omega)), rfl, rfl, rfl⟩
      · skip
        refine OpsW.pure rfl rfl (pureOp_pick_false rfl rfl) ?_
        refine OpsW.pure rfl rfl (pureOp_move rfl) ?_
        refine OpsW.pure rfl rfl (pureOp_move rfl) ?_
        refine OpsW.pure rfl rfl (opN_lss (b := 0) rfl rfl) ?_
        refine OpsW.splitP (d := 20) rfl (fun h20 => ?_) (fun h20 => ?_)
        · skip
          refine OpsW.pure rfl rfl (pureOp_pick_false rfl rfl) ?_
          refine OpsW.pure rfl rfl (pureOp_move rfl) ?_
          refine OpsW.skipG rfl rfl ?_
          refine OpsW.skipG rfl rfl ?_
          refine OpsW.skipG rfl rfl ?_
          refine OpsW.skipG rfl rfl ?_
          refine OpsW.skipG rfl rfl ?_
          refine OpsW.skipG rfl rfl ?_
          refine OpsW.pure rfl rfl (pureOp_pick_true rfl rfl) ?_
          refine OpsW.pure rfl rfl (pureOp_assign rfl) ?_
          refine OpsW.nil ?_
          refine ⟨_, [.obj b _, .sl lv 256 _, .sl wv 257 _, .mp mb (mapC (nowL D.wait))], _, sub_put (i := 0) rfl (sub_put (i := 1) rfl (sub_put (i := 2) rfl (sub_put (i := 11) rfl (sub_nil)))), Sel.perm (by repeat (first | exact Sel.nil | (apply Sel.cons; (repeat (first | exact Ext.here | apply Ext.there))))), ?_⟩
          exact ⟨_, (by constructor <;> intro h <;> first | rfl | (have := of_decide_eq_true h; omega) | (apply decide_eq_true; omega) | omega | (exfalso; omega)), rfl, rfl, rfl⟩
        · skip
          refine OpsW.pure rfl rfl (pureOp_pick_false rfl rfl) ?_
          refine OpsW.pure rfl rfl (pureOp_move rfl) ?_
          refine OpsW.pure rfl rfl (pureOp_move rfl) ?_
          refine OpsW.pure rfl rfl (pureOp_move rfl) ?_
          refine OpsW.callA rfl rfl (callOp Try.call90 rfl) (Sel.perm (L' := [.obj b _, .sl lv 256 _, .sl wv 257 _, .mp mb _]) (by repeat (first | exact Sel.nil | (apply Sel.cons; (repeat (first | exact Ext.here | apply Ext.there)))))) (dsize_c b lv wv mb D _ h) ?_
          rintro _ _ ⟨rfl, rfl⟩
          refine OpsW.pure rfl rfl (pureOp_move rfl) ?_
          refine OpsW.pure rfl rfl (pureOp_subI rfl rfl (by omega)) ?_
          refine OpsW.pure rfl rfl (pureOp_gtr rfl rfl) ?_
          refine OpsW.pure rfl rfl (pureOp_pick_false rfl rfl) ?_
          refine OpsW.pure rfl rfl (pureOp_assign rfl) ?_
          refine OpsW.nil ?_
          refine ⟨_, [.obj b _, .sl lv 256 _, .sl wv 257 _, .mp mb (mapC (nowL D.wait))], _, sub_put (i := 0) rfl (sub_put (i := 1) rfl (sub_put (i := 2) rfl (sub_put (i := 11) rfl (sub_nil)))), Sel.perm (by repeat (first | exact Sel.nil | (apply Sel.cons; (repeat (first | exact Ext.here | apply Ext.there))))), ?_⟩
          exact ⟨_, (by constructor <;> intro h <;> first | rfl | (have := of_decide_eq_true h; omega) | (apply decide_eq_true; omega) | omega | (exfalso; omega)), rfl, rfl, rfl⟩
  rintro m _ _ ⟨bb, hbb, rfl, rfl, rfl⟩
  refine AWp.cond rfl (fun ht11 => ?_) (fun ht11 => ?_)
  · skip
    refine AWp.seq ?_
    refine AWp.region ?_
    refine OpsW.pure rfl rfl (pureOp_assign rfl) ?_
    refine OpsW.pure rfl rfl (pureOp_assign rfl) ?_
    refine OpsW.nil ?_
    refine AWp.forget ?_ (sub_put (i := 0) rfl (sub_put (i := 1) rfl (sub_put (i := 2) rfl (sub_put (i := 6) rfl (sub_put (i := 7) rfl (sub_put (i := 11) rfl (sub_nil)))))))
    refine AWp.ret ?_
    exact ⟨_, [.obj b _, .sl lv 256 _, .sl wv 257 _, .mp mb _], _, Sel.perm (by repeat (first | exact Sel.nil | (apply Sel.cons; (repeat (first | exact Ext.here | apply Ext.there))))), res_tmp2 rfl rfl rfl, .inr ⟨hbb.1 ht11, rfl, rfl⟩⟩
  refine AWp.skip ?_
  refine AWp.seq ?_
  refine AWp.region ?_
  refine OpsW.pure rfl rfl (pureOp_move rfl) ?_
  refine OpsW.pure rfl rfl (pureOp_move rfl) ?_
  refine OpsW.pure rfl rfl (pureOp_move rfl) ?_
  refine OpsW.pure rfl rfl (opBuildStruct st144 rfl (.cons rfl (by first | rfl | (simp [Value.cells, *]; done)) (by first | exact Nat.le_of_ble_eq_true rfl | (simp [segs_length, *]; done)) (.cons rfl (by first | rfl | (simp [Value.cells, *]; done)) (by first | exact Nat.le_of_ble_eq_true rfl | (simp [segs_length, *]; done)) (.cons rfl (by first | rfl | (simp [Value.cells, *]; done)) (by first | exact Nat.le_of_ble_eq_true rfl | (simp [segs_length, *]; done)) (.nil))))) ?_
  refine OpsW.alloc rfl rfl (allocOp_boxAgg rfl) ?_
  rintro _ _ ⟨b34, rfl, rfl⟩
  refine OpsW.pure rfl rfl (pureOp_assign rfl) ?_
  refine OpsW.pure rfl rfl (pureOp_assign rfl) ?_
  refine OpsW.nil ?_
  refine AWp.forget ?_ (sub_put (i := 0) rfl (sub_put (i := 1) rfl (sub_put (i := 2) rfl (sub_put (i := 6) rfl (sub_put (i := 7) rfl (sub_put (i := 11) rfl (sub_nil)))))))
  refine AWp.ret ?_
  have hok : 2 ≤ sz ∧ sz ≤ 256 ∧ fr + sz ≤ D.last.length := Decidable.byContradiction fun h => by rw [hbb.2 h] at ht11; cases ht11
  exact ⟨_, [.obj b34 _, .obj b _, .sl lv 256 _, .sl wv 257 _, .mp mb _], _, Sel.perm (by repeat (first | exact Sel.nil | (apply Sel.cons; (repeat (first | exact Ext.here | apply Ext.there))))), res_tmp2 rfl rfl rfl, .inl ⟨hok, b34, rfl, rfl⟩⟩

set_option maxRecDepth 20000 in
set_option maxHeartbeats 1000000 in
theorem rnewnil_c (fr sz : Nat) (m : Mem) :
    Ctr Try.prog 35 [.pointer none, iV fr, iV sz] m [] (fun _ r L => r = .tuple #[.pointer none, iV 1] ∧ L = []) := by
  refine Ctr.intro Try.func35 rfl Try.ntmps35 (by simp) fun w0 => ?_
  refine AWp.forget ?_ (sub_put (i := 0) rfl (sub_put (i := 1) rfl (sub_put (i := 2) rfl (sub_nil))))
  refine AWp.seq ?_
  refine AWp.region ?_
  refine OpsW.pure rfl rfl (pureOp_assign rfl) ?_
  refine OpsW.pure rfl rfl (pureOp_assign rfl) ?_
  refine OpsW.nil ?_
  refine AWp.forget ?_ (sub_put (i := 0) rfl (sub_put (i := 1) rfl (sub_put (i := 2) rfl (sub_put (i := 6) rfl (sub_put (i := 7) rfl (sub_nil))))))
  refine AWp.seq ?_
  refine AWp.block ?_
  refine AWp.seq ?_
  refine AWp.region ?_
  refine OpsW.pure rfl rfl (pureOp_move rfl) ?_
  refine OpsW.pure rfl rfl (opP_isNil Try.underlying48 rfl) ?_
  refine OpsW.pure rfl rfl (pureOp_assign rfl) ?_
  refine OpsW.nil ?_
  refine AWp.forget ?_ (sub_put (i := 0) rfl (sub_put (i := 1) rfl (sub_put (i := 2) rfl (sub_put (i := 6) rfl (sub_put (i := 7) rfl (sub_put (i := 8) rfl (sub_nil)))))))
  refine AWp.cond_true rfl ?_
  refine AWp.seq ?_
  refine AWp.region ?_
  refine OpsW.pure rfl rfl (pureOp_assign rfl) ?_
  refine OpsW.pure rfl rfl (pureOp_assign rfl) ?_
  refine OpsW.nil ?_
  refine AWp.forget ?_ (sub_put (i := 0) rfl (sub_put (i := 1) rfl (sub_put (i := 2) rfl (sub_put (i := 6) rfl (sub_put (i := 7) rfl (sub_put (i := 8) rfl (sub_nil)))))))
  refine AWp.ret ?_
  exact ⟨_, [], _, permNone, res_tmp2 rfl rfl rfl, rfl, rfl⟩

set_option maxRecDepth 20000 in
set_option maxHeartbeats 4000000 in
theorem rapp_c (rb b : Nat) (lv wv : Value) (mb : Nat) (D : Dk) (fr sz tl hd : Nat) (bv : Value) (bs : List UInt8) (m : Mem) (h : DkI D lv wv) (h0 : 0 < sz) (hs : sz ≤ 256) (hN : fr + sz ≤ D.last.length) (hle : tl ≤ hd) (hbig : hd ≤ 4000000000000) (hb : Rd m bv 1 (bs.map bV)) (hbl : bs.length ≤ 1099511627776) (hfew : D.wait.length < 1000000) :
    Ctr Try.prog 38 [.pointer (some ⟨rb, 0, none⟩), bv] m [.obj rb (rgC b fr sz tl hd), .obj b [lv, wv, .map (some mb), .int .i64 D.steps, .int .i64 D.fuse, .bool D.down], .sl lv 256 (secC D.last), .sl wv 257 (wrC D.wait), .mp mb (mapC (nowL D.wait))] (fun _ r L => ∃ wv' mb', r = .tuple #[iV (appF D fr sz tl hd bs).2.2.1, iV (appF D fr sz tl hd bs).2.2.2] ∧ slOk wv' 257 (wrC (appF D fr sz tl hd bs).1.wait) ∧ L = [.obj rb (rgC b fr sz tl (appF D fr sz tl hd bs).2.1), .obj b [lv, wv', .map (some mb'), .int .i64 (appF D fr sz tl hd bs).1.steps, .int .i64 (appF D fr sz tl hd bs).1.fuse, .bool (appF D fr sz tl hd bs).1.down], .sl lv 256 (secC (appF D fr sz tl hd bs).1.last), .sl wv' 257 (wrC (appF D fr sz tl hd bs).1.wait), .mp mb' (mapC (nowL (appF D fr sz tl hd bs).1.wait))]) := by
  have hlen := h.ok.len
  have ho := hb.1
  refine Ctr.intro Try.func38 rfl Try.ntmps38 (by simp) fun w0 => ?_
  refine AWp.forget ?_ (sub_put (i := 0) rfl (sub_put (i := 1) rfl (sub_nil)))
  refine AWp.seq ?_
  refine AWp.region ?_
  refine OpsW.pure rfl rfl (pureOp_assign rfl) ?_
  refine OpsW.pure rfl rfl (pureOp_assign rfl) ?_
  refine OpsW.nil ?_
  refine AWp.forget ?_ (sub_put (i := 0) rfl (sub_put (i := 1) rfl (sub_put (i := 4) rfl (sub_put (i := 5) rfl (sub_nil)))))
  refine AWp.seq ?_
  refine AWp.seq ?_
  refine AWp.lend (Sel.perm (L' := []) (by repeat (first | exact Sel.nil | (apply Sel.cons; (repeat (first | exact Ext.here | apply Ext.there)))))) (fun w1 => ?_)
  refine AWp.draw [(0, .pure), (2, .pure), (3, .pure), (4, .pure), (5, .ro), (1, .call), (6, .pure)] rfl (by decide +kernel) (fun _ _ _ p h => ⟨h.1, AWp.perm h.2 (p.symm.append_right _)⟩) ?_
  refine ⟨_, _, rfl, OpStep.pure rfl rfl (pureOp_move rfl), ?_⟩
  rintro _ _ ⟨rfl, rfl⟩ -
  refine ⟨_, _, rfl, OpStep.pure rfl rfl (pureOp_move rfl), ?_⟩
  rintro _ _ ⟨rfl, rfl⟩ -
  refine ⟨_, _, rfl, OpStep.pure rfl rfl (pureOp_nilCheck rfl), ?_⟩
  rintro _ _ ⟨rfl, rfl⟩ -
  refine ⟨_, _, rfl, OpStep.pure rfl rfl (pureOp_fieldAddr fa144_2 rfl), ?_⟩
  rintro _ _ ⟨rfl, rfl⟩ -
  refine ⟨_, _, rfl, OpStep.ro rfl rfl (roObj sc3 rfl (by repeat (first | exact List.Mem.head _ | apply List.Mem.tail)) rfl), ?_⟩
  rintro _ _ ⟨rfl, rfl⟩ -
  refine ⟨_, _, rfl, OpStep.call rfl rfl (callOp Try.call43 rfl) (rlen_c rb b fr sz tl hd _ (RgM.of (by repeat (first | exact List.Mem.head _ | apply List.Mem.tail))).ro hle hbig), ?_⟩
  rintro _ _ ⟨_, _, ⟨rfl, rfl⟩, rfl, rfl⟩ -
  refine ⟨_, _, rfl, OpStep.pure rfl rfl (opN_geq rfl rfl), ?_⟩
  rintro _ _ ⟨rfl, rfl⟩ -
  refine ⟨rfl, ?_⟩
  refine AWp.keep (L' := [.obj rb _, .obj b _, .sl lv 256 _, .sl wv 257 _, .mp mb _]) (by repeat (first | exact Sel.nil | (apply Sel.cons; (repeat (first | exact Ext.here | apply Ext.there))))) ?_
  refine AWp.forget ?_ (sub_put (i := 0) rfl (sub_put (i := 1) rfl (sub_put (i := 4) rfl (sub_put (i := 5) rfl (sub_put (i := 16) rfl (sub_nil))))))
  refine AWp.condP rfl (fun ht16 => ?_) (fun ht16 => ?_)
  · skip
    refine AWp.seq ?_
    refine AWp.region ?_
    refine OpsW.pure rfl rfl (pureOp_assign rfl) ?_
    refine OpsW.pure rfl rfl (pureOp_assign rfl) ?_
    refine OpsW.nil ?_
    refine AWp.forget ?_ (sub_put (i := 0) rfl (sub_put (i := 1) rfl (sub_put (i := 4) rfl (sub_put (i := 5) rfl (sub_put (i := 16) rfl (sub_nil))))))
    refine AWp.ret ?_
    have hB : appF D fr sz tl hd bs = (D, hd, 0, 6) := by
      unfold appF; rw [if_pos ht16]
    exact ⟨_, [.obj rb _, .obj b _, .sl lv 256 _, .sl wv 257 _, .mp mb _], _, Sel.perm (by repeat (first | exact Sel.nil | (apply Sel.cons; (repeat (first | exact Ext.here | apply Ext.there))))), res_tmp2 rfl rfl rfl, wv, mb, by rw [hB]; rfl, by rw [hB]; exact h.hw, by first | (rw [hB]; done) | (rw [hB]; rfl)⟩
  refine AWp.skip ?_
  refine AWp.seq ?_
  refine AWp.region ?_
  refine OpsW.pure rfl rfl (pureOp_move rfl) ?_
  refine OpsW.pure rfl rfl (pureOp_nilCheck rfl) ?_
  refine OpsW.pure rfl rfl (pureOp_fieldAddr fa144_4 rfl) ?_
  refine OpsW.load rfl rfl (loadOp_obj sc3 rfl (by repeat (first | exact List.Mem.head _ | apply List.Mem.tail)) rfl) ?_
  refine OpsW.pure rfl rfl (pureOp_move rfl) ?_
  refine OpsW.callA rfl rfl (callOp Try.call29 rfl) permNone (rput_c (hd : Nat) bv bs _ hb.ro hbl) ?_
  rintro _ _ ⟨rfl, rfl⟩
  obtain ⟨s, e, hP⟩ : ∃ s e, putR hd bs = (s, e) := ⟨_, _, rfl⟩
  have hsl := putR_length hd bs
  rw [hP] at hsl ⊢
  dsimp only at hsl ⊢
  have hsm : (s.map bV).length = 256 := by rw [List.length_map]; exact hsl
  refine OpsW.pure rfl rfl (pureOp_move rfl) ?_
  refine OpsW.pure rfl rfl (pureOp_extract rfl rfl) ?_
  refine OpsW.pure rfl rfl (pureOp_extract rfl rfl) ?_
  refine OpsW.alloc rfl rfl (allocOp_alloc zt24) ?_
  rintro _ _ ⟨b6, rfl, rfl⟩
  refine OpsW.upd rfl rfl (by repeat (first | exact Pos.here | apply Pos.there)) (lop_storeAllN 256 Try.sizeOf24 rfl rfl (by first | rfl | assumption | (rw [List.length_map]; assumption) | (simp [*]; done) | (simp [*]; omega) | omega) (by first | rfl | assumption | (rw [List.length_map]; assumption) | (simp [*]; done) | (simp [*]; omega) | omega) (by first | exact one_map (fun _ => rfl) _ | exact one_rfl rfl | exact one_sup _ | (simp [one, *]; done))) ?_
  rintro _ _ ⟨rfl, rfl⟩
  refine OpsW.pure rfl rfl (pureOp_assign rfl) ?_
  refine OpsW.nil ?_
  refine AWp.forget ?_ (sub_put (i := 0) rfl (sub_put (i := 1) rfl (sub_put (i := 4) rfl (sub_put (i := 5) rfl (sub_put (i := 6) rfl (sub_put (i := 7) rfl (sub_put (i := 16) rfl (sub_nil))))))))
  refine AWp.seq ?_
  refine AWp.seq ?_
  refine AWp.region ?_
  refine OpsW.pure rfl rfl (pureOp_move rfl) ?_
  refine OpsW.pure rfl rfl (opN_neq (b := 0) rfl rfl) ?_
  refine OpsW.nil ?_
  refine AWp.forget ?_ (sub_put (i := 0) rfl (sub_put (i := 1) rfl (sub_put (i := 4) rfl (sub_put (i := 5) rfl (sub_put (i := 6) rfl (sub_put (i := 7) rfl (sub_put (i := 16) rfl (sub_put (i := 27) rfl (sub_nil)))))))))
  refine AWp.condP rfl (fun ht27 => ?_) (fun ht27 => ?_)
  · skip
    refine AWp.seq ?_
    refine AWp.region ?_
    refine OpsW.pure rfl rfl (pureOp_move rfl) ?_
    refine OpsW.pure rfl rfl (pureOp_assign rfl) ?_
    refine OpsW.pure rfl rfl (pureOp_assign rfl) ?_
    refine OpsW.nil ?_
    refine AWp.forget ?_ (sub_put (i := 0) rfl (sub_put (i := 1) rfl (sub_put (i := 4) rfl (sub_put (i := 5) rfl (sub_put (i := 6) rfl (sub_put (i := 7) rfl (sub_put (i := 16) rfl (sub_put (i := 27) rfl (sub_nil)))))))))
    refine AWp.ret ?_
    have hB : appF D fr sz tl hd bs = (D, hd, 0, e) := by
      unfold appF; rw [if_neg ht16, hP]; dsimp only; rw [if_pos ht27]
    exact ⟨_, [.obj rb _, .obj b _, .sl lv 256 _, .sl wv 257 _, .mp mb _], _, Sel.perm (by repeat (first | exact Sel.nil | (apply Sel.cons; (repeat (first | exact Ext.here | apply Ext.there))))), res_tmp2 rfl rfl rfl, wv, mb, by rw [hB]; rfl, by rw [hB]; exact h.hw, by first | (rw [hB]; done) | (rw [hB]; rfl)⟩
  refine AWp.skip ?_
  refine AWp.seq ?_
  refine AWp.seq ?_
  obtain rfl : e = 0 := Decidable.of_not_not ht27
  have hfull : ¬ sz ≤ hd - tl := ht16
  refine AWp.lend (Sel.perm (L' := [.obj b _, .sl lv 256 _, .sl wv 257 _, .mp mb _]) (by repeat (first | exact Sel.nil | (apply Sel.cons; (repeat (first | exact Ext.here | apply Ext.there)))))) (fun w1 => ?_)
  refine AWp.draw [(0, .pure), (1, .pure), (2, .pure), (3, .ro), (4, .pure), (5, .pure), (6, .pure), (7, .pure), (8, .ro), (10, .ro), (9, .call), (11, .wr), (12, .pure)] rfl (by decide +kernel) (fun _ _ _ p h => ⟨h.1, AWp.perm h.2 (p.symm.append_right _)⟩) ?_
  refine ⟨_, _, rfl, OpStep.pure rfl rfl (pureOp_move rfl), ?_⟩
  rintro _ _ ⟨rfl, rfl⟩ -
  refine ⟨_, _, rfl, OpStep.pure rfl rfl (pureOp_nilCheck rfl), ?_⟩
  rintro _ _ ⟨rfl, rfl⟩ -
  refine ⟨_, _, rfl, OpStep.pure rfl rfl (pureOp_fieldAddr fa144_0 rfl), ?_⟩
  rintro _ _ ⟨rfl, rfl⟩ -
  refine ⟨_, _, rfl, OpStep.ro rfl rfl (roObj sc48 rfl (by repeat (first | exact List.Mem.head _ | apply List.Mem.tail)) rfl), ?_⟩
  rintro _ _ ⟨rfl, rfl⟩ -
  refine ⟨_, _, rfl, OpStep.pure rfl rfl (pureOp_move rfl), ?_⟩
  rintro _ _ ⟨rfl, rfl⟩ -
  refine ⟨_, _, rfl, OpStep.pure rfl rfl (pureOp_move rfl), ?_⟩
  rintro _ _ ⟨rfl, rfl⟩ -
  refine ⟨_, _, rfl, OpStep.pure rfl rfl (pureOp_nilCheck rfl), ?_⟩
  rintro _ _ ⟨rfl, rfl⟩ -
  refine ⟨_, _, rfl, OpStep.pure rfl rfl (pureOp_fieldAddr fa144_4 rfl), ?_⟩
  rintro _ _ ⟨rfl, rfl⟩ -
  refine ⟨_, _, rfl, OpStep.ro rfl rfl (roObj sc3 rfl (by repeat (first | exact List.Mem.head _ | apply List.Mem.tail)) rfl), ?_⟩
  rintro _ _ ⟨rfl, rfl⟩ -
  refine ⟨_, _, rfl, OpStep.ro rfl rfl (roAll rfl (by repeat (first | exact List.Mem.head _ | apply List.Mem.tail)) hsm ag24), ?_⟩
  rintro _ _ ⟨rfl, rfl⟩ -
  refine ⟨_, _, rfl, OpStep.call rfl rfl (callOp Try.call91 rfl) (rat_c rb b fr sz tl hd hd _ (RgM.of (by repeat (first | exact List.Mem.head _ | apply List.Mem.tail))).ro h0 (by omega) (by omega) (by omega)), ?_⟩
  rintro _ _ ⟨_, _, ⟨rfl, rfl⟩, rfl, rfl⟩ -
  refine ⟨_, _, rfl, OpStep.callW rfl rfl (callOp Try.call22 rfl) (Sel.perm (L' := [.obj b _, .sl lv 256 _, .sl wv 257 _, .mp mb _]) (by repeat (first | exact Sel.nil | (apply Sel.cons; (repeat (first | exact Ext.here | apply Ext.there)))))) (dwrite_c b lv wv mb D ((fr + hd % sz : Nat) : Int) s _ h hsl hfew), ?_⟩
  rintro _ _ ⟨_, _, ⟨wv1, rfl, hw1, rfl⟩, rfl, rfl⟩ -
  obtain ⟨D1, e1, hW⟩ : ∃ D1 e1, writeF D ((fr + hd % sz : Nat) : Int) s = (D1, e1) := ⟨_, _, rfl⟩
  have hla := writeF_last D ((fr + hd % sz : Nat) : Int) s
  have ok1 := writeF_ok h.ok (i := ((fr + hd % sz : Nat) : Int)) hsl hfew
  rw [hW] at hla ok1 hw1 ⊢
  dsimp only at hla ok1 hw1 ⊢
  have hI1 : DkI D1 lv wv1 := ⟨by rw [hla]; exact h.hl, hw1, ok1⟩
  refine ⟨_, _, rfl, OpStep.pure rfl rfl (pureOp_assign rfl), ?_⟩
  rintro _ _ ⟨rfl, rfl⟩ -
  refine ⟨rfl, ?_⟩
  refine AWp.keep (L' := [.obj rb _, .obj b6 _, .obj b _, .sl lv 256 _, .sl wv1 257 _, .mp mb _]) (by repeat (first | exact Sel.nil | (apply Sel.cons; (repeat (first | exact Ext.here | apply Ext.there))))) ?_
  refine AWp.forget ?_ (sub_put (i := 0) rfl (sub_put (i := 1) rfl (sub_put (i := 4) rfl (sub_put (i := 5) rfl (sub_put (i := 6) rfl (sub_put (i := 7) rfl (sub_put (i := 8) rfl (sub_put (i := 16) rfl (sub_put (i := 27) rfl (sub_nil))))))))))
  refine AWp.seq ?_
  refine AWp.region ?_
  refine OpsW.pure rfl rfl (pureOp_move rfl) ?_
  refine OpsW.pure rfl rfl (opN_neq (b := 0) rfl rfl) ?_
  refine OpsW.nil ?_
  refine AWp.forget ?_ (sub_put (i := 0) rfl (sub_put (i := 1) rfl (sub_put (i := 4) rfl (sub_put (i := 5) rfl (sub_put (i := 6) rfl (sub_put (i := 7) rfl (sub_put (i := 8) rfl (sub_put (i := 16) rfl (sub_put (i := 27) rfl (sub_put (i := 42) rfl (sub_nil)))))))))))
  refine AWp.condP rfl (fun ht42 => ?_) (fun ht42 => ?_)
  · skip
    refine AWp.seq ?_
    refine AWp.region ?_
    refine OpsW.pure rfl rfl (pureOp_move rfl) ?_
    refine OpsW.pure rfl rfl (pureOp_assign rfl) ?_
    refine OpsW.pure rfl rfl (pureOp_assign rfl) ?_
    refine OpsW.nil ?_
    refine AWp.forget ?_ (sub_put (i := 0) rfl (sub_put (i := 1) rfl (sub_put (i := 4) rfl (sub_put (i := 5) rfl (sub_put (i := 6) rfl (sub_put (i := 7) rfl (sub_put (i := 8) rfl (sub_put (i := 16) rfl (sub_put (i := 27) rfl (sub_put (i := 42) rfl (sub_nil)))))))))))
    refine AWp.ret ?_
    have hB : appF D fr sz tl hd bs = (D1, hd, 0, e1) := by
      unfold appF; rw [if_neg hfull, hP]; dsimp only; rw [if_neg (by simp), hW]; dsimp only; rw [if_pos ht42]
    exact ⟨_, [.obj rb _, .obj b _, .sl lv 256 _, .sl wv1 257 _, .mp mb _], _, Sel.perm (by repeat (first | exact Sel.nil | (apply Sel.cons; (repeat (first | exact Ext.here | apply Ext.there))))), res_tmp2 rfl rfl rfl, wv1, mb, by rw [hB]; rfl, by rw [hB]; exact hw1, by first | (rw [hB]; done) | (rw [hB]; rfl)⟩
  refine AWp.skip ?_
  refine AWp.seq ?_
  refine AWp.seq ?_
  obtain rfl : e1 = 0 := Decidable.of_not_not ht42
  refine AWp.region ?_
  refine OpsW.pure rfl rfl (pureOp_move rfl) ?_
  refine OpsW.pure rfl rfl (pureOp_nilCheck rfl) ?_
  refine OpsW.pure rfl rfl (pureOp_fieldAddr fa144_0 rfl) ?_
  refine OpsW.load rfl rfl (loadOp_obj sc48 rfl (by repeat (first | exact List.Mem.head _ | apply List.Mem.tail)) rfl) ?_
  refine OpsW.callA rfl rfl (callOp Try.call23 rfl) (Sel.perm (L' := [.obj b _, .sl lv 256 _, .sl wv1 257 _, .mp mb _]) (by repeat (first | exact Sel.nil | (apply Sel.cons; (repeat (first | exact Ext.here | apply Ext.there)))))) (dflush_c b lv wv1 mb D1 _ hI1) ?_
  rintro _ _ ⟨wv2, mb2, rfl, hw2, rfl⟩
  obtain ⟨D2, e2, hF⟩ : ∃ D2 e2, flushF D1 = (D2, e2) := ⟨_, _, rfl⟩
  rw [hF] at hw2 ⊢
  dsimp only at hw2 ⊢
  refine OpsW.pure rfl rfl (pureOp_assign rfl) ?_
  refine OpsW.nil ?_
  refine AWp.forget ?_ (sub_put (i := 0) rfl (sub_put (i := 1) rfl (sub_put (i := 4) rfl (sub_put (i := 5) rfl (sub_put (i := 6) rfl (sub_put (i := 7) rfl (sub_put (i := 8) rfl (sub_put (i := 9) rfl (sub_put (i := 16) rfl (sub_put (i := 27) rfl (sub_put (i := 42) rfl (sub_nil))))))))))))
  refine AWp.seq ?_
  refine AWp.region ?_
  refine OpsW.pure rfl rfl (pureOp_move rfl) ?_
  refine OpsW.pure rfl rfl (opN_neq (b := 0) rfl rfl) ?_
  refine OpsW.nil ?_
  refine AWp.forget ?_ (sub_put (i := 0) rfl (sub_put (i := 1) rfl (sub_put (i := 4) rfl (sub_put (i := 5) rfl (sub_put (i := 6) rfl (sub_put (i := 7) rfl (sub_put (i := 8) rfl (sub_put (i := 9) rfl (sub_put (i := 16) rfl (sub_put (i := 27) rfl (sub_put (i := 42) rfl (sub_put (i := 50) rfl (sub_nil)))))))))))))
  refine AWp.condP rfl (fun ht50 => ?_) (fun ht50 => ?_)
  · skip
    refine AWp.seq ?_
    refine AWp.region ?_
    refine OpsW.pure rfl rfl (pureOp_move rfl) ?_
    refine OpsW.pure rfl rfl (pureOp_assign rfl) ?_
    refine OpsW.pure rfl rfl (pureOp_assign rfl) ?_
    refine OpsW.nil ?_
    refine AWp.forget ?_ (sub_put (i := 0) rfl (sub_put (i := 1) rfl (sub_put (i := 4) rfl (sub_put (i := 5) rfl (sub_put (i := 6) rfl (sub_put (i := 7) rfl (sub_put (i := 8) rfl (sub_put (i := 9) rfl (sub_put (i := 16) rfl (sub_put (i := 27) rfl (sub_put (i := 42) rfl (sub_put (i := 50) rfl (sub_nil)))))))))))))
    refine AWp.ret ?_
    have hB : appF D fr sz tl hd bs = (D2, hd, 0, e2) := by
      unfold appF; rw [if_neg hfull, hP]; dsimp only; rw [if_neg (by simp), hW]; dsimp only; rw [if_neg (by simp), hF]; dsimp only; rw [if_pos ht50]
    exact ⟨_, [.obj rb _, .obj b _, .sl lv 256 _, .sl wv2 257 _, .mp mb2 _], _, Sel.perm (by repeat (first | exact Sel.nil | (apply Sel.cons; (repeat (first | exact Ext.here | apply Ext.there))))), res_tmp2 rfl rfl rfl, wv2, mb2, by rw [hB]; rfl, by rw [hB]; exact hw2, by first | (rw [hB]; done) | (rw [hB]; rfl)⟩
  refine AWp.skip ?_
  refine AWp.seq ?_
  obtain rfl : e2 = 0 := Decidable.of_not_not ht50
  refine AWp.region ?_
  refine OpsW.pure rfl rfl (pureOp_move rfl) ?_
  refine OpsW.pure rfl rfl (pureOp_nilCheck rfl) ?_
  refine OpsW.pure rfl rfl (pureOp_fieldAddr fa144_4 rfl) ?_
  refine OpsW.load rfl rfl (loadOp_obj sc3 rfl (by repeat (first | exact List.Mem.head _ | apply List.Mem.tail)) rfl) ?_
  refine OpsW.pure rfl rfl (opN_add (b := 1) rfl rfl (by omega)) ?_
  refine OpsW.pure rfl rfl (pureOp_nilCheck rfl) ?_
  refine OpsW.pure rfl rfl (pureOp_fieldAddr fa144_4 rfl) ?_
  refine OpsW.upd rfl rfl (by repeat (first | exact Pos.here | apply Pos.there)) (lop_store1 Try.sizeOf3 rfl rfl (by first | rfl | assumption | exact one_sl (by assumption)) (rg_lt (by decide))) ?_
  rintro _ _ ⟨rfl, rfl⟩
  refine OpsW.nil ?_
  refine AWp.forget ?_ (sub_put (i := 0) rfl (sub_put (i := 1) rfl (sub_put (i := 4) rfl (sub_put (i := 5) rfl (sub_put (i := 6) rfl (sub_put (i := 7) rfl (sub_put (i := 8) rfl (sub_put (i := 9) rfl (sub_put (i := 16) rfl (sub_put (i := 27) rfl (sub_put (i := 42) rfl (sub_put (i := 50) rfl (sub_nil)))))))))))))
  refine AWp.seq ?_
  refine AWp.region ?_
  refine OpsW.pure rfl rfl (pureOp_move rfl) ?_
  refine OpsW.pure rfl rfl (pureOp_nilCheck rfl) ?_
  refine OpsW.pure rfl rfl (pureOp_fieldAddr fa144_4 rfl) ?_
  refine OpsW.load rfl rfl (loadOp_obj sc3 rfl (by repeat (first | exact List.Mem.head _ | apply List.Mem.tail)) rfl) ?_
  refine OpsW.pure rfl rfl (opN_sub (b := 1) rfl rfl (by omega)) ?_
  refine OpsW.pure rfl rfl (pureOp_assign rfl) ?_
  refine OpsW.pure rfl rfl (pureOp_assign rfl) ?_
  refine OpsW.nil ?_
  refine AWp.forget ?_ (sub_put (i := 0) rfl (sub_put (i := 1) rfl (sub_put (i := 4) rfl (sub_put (i := 5) rfl (sub_put (i := 6) rfl (sub_put (i := 7) rfl (sub_put (i := 8) rfl (sub_put (i := 9) rfl (sub_put (i := 16) rfl (sub_put (i := 27) rfl (sub_put (i := 42) rfl (sub_put (i := 50) rfl (sub_nil)))))))))))))
  refine AWp.ret ?_
  have hB : appF D fr sz tl hd bs = (D2, hd + 1, hd, 0) := by
    unfold appF; rw [if_neg hfull, hP]; dsimp only; rw [if_neg (by simp), hW]; dsimp only; rw [if_neg (by simp), hF]; dsimp only; rw [if_neg (by simp)]
  exact ⟨_, [.obj rb _, .obj b _, .sl lv 256 _, .sl wv2 257 _, .mp mb2 _], _, Sel.perm (by repeat (first | exact Sel.nil | (apply Sel.cons; (repeat (first | exact Ext.here | apply Ext.there))))), res_tmp2 rfl rfl rfl, wv2, mb2, by rw [hB]; rfl, by rw [hB]; exact hw2, by first | (rw [hB]; done) | (rw [hB]; rfl)⟩

set_option maxRecDepth 20000 in
set_option maxHeartbeats 4000000 in
theorem rdrop_c (rb b : Nat) (lv wv : Value) (mb : Nat) (D : Dk) (fr sz tl hd : Nat) (to : Nat) (m : Mem) (h : DkI D lv wv) (h0 : 0 < sz) (hs : sz ≤ 256) (hN : fr + sz ≤ D.last.length) (hle : tl ≤ hd) (hbig : hd ≤ 4000000000000) (hw0 : D.wait = []) (hto : to ≤ 4000000000000) :
    Ctr Try.prog 36 [.pointer (some ⟨rb, 0, none⟩), iV to] m [.obj rb (rgC b fr sz tl hd), .obj b [lv, wv, .map (some mb), .int .i64 D.steps, .int .i64 D.fuse, .bool D.down], .sl lv 256 (secC D.last), .sl wv 257 (wrC D.wait), .mp mb (mapC (nowL D.wait))] (fun _ r L => ∃ wv' mb', r = .tuple #[iV (dropN fr sz (min to hd - tl) D tl 0).2.2.1, iV (dropN fr sz (min to hd - tl) D tl 0).2.2.2] ∧ slOk wv' 257 (wrC (dropN fr sz (min to hd - tl) D tl 0).1.wait) ∧ L = [.obj rb (rgC b fr sz (dropN fr sz (min to hd - tl) D tl 0).2.1 hd), .obj b [lv, wv', .map (some mb'), .int .i64 (dropN fr sz (min to hd - tl) D tl 0).1.steps, .int .i64 (dropN fr sz (min to hd - tl) D tl 0).1.fuse, .bool (dropN fr sz (min to hd - tl) D tl 0).1.down], .sl lv 256 (secC (dropN fr sz (min to hd - tl) D tl 0).1.last), .sl wv' 257 (wrC (dropN fr sz (min to hd - tl) D tl 0).1.wait), .mp mb' (mapC (nowL (dropN fr sz (min to hd - tl) D tl 0).1.wait))]) := by
  have hlen := h.ok.len
  have hlC := secC_length h.ok.sec
  obtain ⟨R, hR⟩ : ∃ R, R = dropN fr sz (min to hd - tl) D tl 0 := ⟨_, rfl⟩
  rw [← hR]
  refine Ctr.intro Try.func36 rfl Try.ntmps36 (by simp) fun w0 => ?_
  refine AWp.forget ?_ (sub_put (i := 0) rfl (sub_put (i := 1) rfl (sub_nil)))
  refine AWp.seq ?_
  refine AWp.region ?_
  refine OpsW.pure rfl rfl (pureOp_assign rfl) ?_
  refine OpsW.pure rfl rfl (pureOp_assign rfl) ?_
  refine OpsW.nil ?_
  refine AWp.forget ?_ (sub_put (i := 0) rfl (sub_put (i := 1) rfl (sub_put (i := 4) rfl (sub_put (i := 5) rfl (sub_nil)))))
  refine AWp.seq ?_
  refine AWp.region ?_
  refine OpsW.pure rfl rfl (pureOp_assign rfl) ?_
  refine OpsW.nil ?_
  refine AWp.forget ?_ (sub_put (i := 0) rfl (sub_put (i := 1) rfl (sub_put (i := 4) rfl (sub_put (i := 5) rfl (sub_put (i := 6) rfl (sub_nil))))))
  refine AWp.seq ?_
  refine AWp.block ?_
  refine AWp.forget ?_ (sub_put (i := 0) rfl (sub_put (i := 1) rfl (sub_put (i := 6) rfl (sub_nil))))
  refine AWp.keep (L' := [.obj rb _, .obj b _, .sl lv 256 _, .sl wv 257 _, .mp mb _]) (by repeat (first | exact Sel.nil | (apply Sel.cons; (repeat (first | exact Ext.here | apply Ext.there))))) ?_
  refine AWp.loop (fun N m' T' L' => ∃ (t1 n : Nat) (E : Dk) (wv1 : Value) (mb1 : Nat), N = min to hd - t1 ∧ tl ≤ t1 ∧ t1 ≤ max tl (min to hd) ∧ n ≤ t1 ∧ DkI E lv wv1 ∧ E.wait = [] ∧ E.last.length = D.last.length ∧ R = dropN fr sz (min to hd - t1) E t1 n ∧ m' = m ∧ T' = put (put (put (tnil) 6 (iV n)) 1 (iV to)) 0 (.pointer (some ⟨rb, 0, none⟩)) ∧ L' = [.obj rb (rgC b fr sz t1 hd), .obj b [lv, wv1, .map (some mb1), .int .i64 E.steps, .int .i64 E.fuse, .bool E.down], .sl lv 256 (secC E.last), .sl wv1 257 (wrC E.wait), .mp mb1 (mapC (nowL E.wait))]) _ (⟨tl, 0, D, wv, mb, rfl, Nat.le_refl _, by omega, Nat.zero_le _, h, hw0, rfl, hR, rfl, rfl, rfl⟩) ?_
  rintro _ m _ _ ⟨t1, n, E, wv1, mb1, rfl, ht1, ht2, hnt, hE, hEw, hEl, hRE, rfl, rfl, rfl⟩
  have hfew : E.wait.length < 1000000 := by rw [hEw]; decide
  have hinE : fr + sz ≤ E.last.length := by rw [hEl]; exact hN
  refine AWp.seq ?_
  refine AWp.seq ?_
  refine AWp.lend (Sel.perm (L' := []) (by repeat (first | exact Sel.nil | (apply Sel.cons; (repeat (first | exact Ext.here | apply Ext.there)))))) (fun w1 => ?_)
  refine AWp.draw [(0, .pure), (1, .pure), (2, .pure), (3, .ro), (4, .pure), (5, .pure), (6, .pure), (7, .pure), (8, .ro), (9, .pure), (10, .pure)] rfl (by decide +kernel) (fun _ _ _ p h => ⟨h.1, AWp.perm h.2 (p.symm.append_right _)⟩) ?_
  refine ⟨_, _, rfl, OpStep.pure rfl rfl (pureOp_move rfl), ?_⟩
  rintro _ _ ⟨rfl, rfl⟩ -
  refine ⟨_, _, rfl, OpStep.pure rfl rfl (pureOp_nilCheck rfl), ?_⟩
  rintro _ _ ⟨rfl, rfl⟩ -
  refine ⟨_, _, rfl, OpStep.pure rfl rfl (pureOp_fieldAddr fa144_3 rfl), ?_⟩
  rintro _ _ ⟨rfl, rfl⟩ -
  refine ⟨_, _, rfl, OpStep.ro rfl rfl (roObj sc3 rfl (by repeat (first | exact List.Mem.head _ | apply List.Mem.tail)) rfl), ?_⟩
  rintro _ _ ⟨rfl, rfl⟩ -
  refine ⟨_, _, rfl, OpStep.pure rfl rfl (pureOp_move rfl), ?_⟩
  rintro _ _ ⟨rfl, rfl⟩ -
  refine ⟨_, _, rfl, OpStep.pure rfl rfl (pureOp_move rfl), ?_⟩
  rintro _ _ ⟨rfl, rfl⟩ -
  refine ⟨_, _, rfl, OpStep.pure rfl rfl (pureOp_nilCheck rfl), ?_⟩
  rintro _ _ ⟨rfl, rfl⟩ -
  refine ⟨_, _, rfl, OpStep.pure rfl rfl (pureOp_fieldAddr fa144_4 rfl), ?_⟩
  rintro _ _ ⟨rfl, rfl⟩ -
  refine ⟨_, _, rfl, OpStep.ro rfl rfl (roObj sc3 rfl (by repeat (first | exact List.Mem.head _ | apply List.Mem.tail)) rfl), ?_⟩
  rintro _ _ ⟨rfl, rfl⟩ -
  refine ⟨_, _, rfl, OpStep.pure rfl rfl (opN_min rfl rfl), ?_⟩
  rintro _ _ ⟨rfl, rfl⟩ -
  refine ⟨_, _, rfl, OpStep.pure rfl rfl (opN_lss rfl rfl), ?_⟩
  rintro _ _ ⟨rfl, rfl⟩ -
  refine ⟨rfl, ?_⟩
  refine AWp.keep (L' := [.obj rb _, .obj b _, .sl lv 256 _, .sl wv1 257 _, .mp mb1 _]) (by repeat (first | exact Sel.nil | (apply Sel.cons; (repeat (first | exact Ext.here | apply Ext.there))))) ?_
  refine AWp.forget ?_ (sub_put (i := 0) rfl (sub_put (i := 1) rfl (sub_put (i := 6) rfl (sub_put (i := 19) rfl (sub_nil)))))
  refine AWp.condP rfl (fun ht19 => ?_) (fun ht19 => ?_)
  refine AWp.skip ?_
  refine AWp.block ?_
  refine AWp.seq ?_
  refine AWp.seq ?_
  refine AWp.lend (Sel.perm (L' := [.obj b _, .sl lv 256 _, .sl wv1 257 _, .mp mb1 _]) (by repeat (first | exact Sel.nil | (apply Sel.cons; (repeat (first | exact Ext.here | apply Ext.there)))))) (fun w1 => ?_)
  refine AWp.draw [(0, .pure), (1, .pure), (2, .pure), (3, .ro), (4, .pure), (5, .pure), (6, .pure), (7, .pure), (8, .ro), (10, .pure), (9, .call), (11, .wr), (12, .pure)] rfl (by decide +kernel) (fun _ _ _ p h => ⟨h.1, AWp.perm h.2 (p.symm.append_right _)⟩) ?_
  refine ⟨_, _, rfl, OpStep.pure rfl rfl (pureOp_move rfl), ?_⟩
  rintro _ _ ⟨rfl, rfl⟩ -
  refine ⟨_, _, rfl, OpStep.pure rfl rfl (pureOp_nilCheck rfl), ?_⟩
  rintro _ _ ⟨rfl, rfl⟩ -
  refine ⟨_, _, rfl, OpStep.pure rfl rfl (pureOp_fieldAddr fa144_0 rfl), ?_⟩
  rintro _ _ ⟨rfl, rfl⟩ -
  refine ⟨_, _, rfl, OpStep.ro rfl rfl (roObj sc48 rfl (by repeat (first | exact List.Mem.head _ | apply List.Mem.tail)) rfl), ?_⟩
  rintro _ _ ⟨rfl, rfl⟩ -
  refine ⟨_, _, rfl, OpStep.pure rfl rfl (pureOp_move rfl), ?_⟩
  rintro _ _ ⟨rfl, rfl⟩ -
  refine ⟨_, _, rfl, OpStep.pure rfl rfl (pureOp_move rfl), ?_⟩
  rintro _ _ ⟨rfl, rfl⟩ -
  refine ⟨_, _, rfl, OpStep.pure rfl rfl (pureOp_nilCheck rfl), ?_⟩
  rintro _ _ ⟨rfl, rfl⟩ -
  refine ⟨_, _, rfl, OpStep.pure rfl rfl (pureOp_fieldAddr fa144_3 rfl), ?_⟩
  rintro _ _ ⟨rfl, rfl⟩ -
  refine ⟨_, _, rfl, OpStep.ro rfl rfl (roObj sc3 rfl (by repeat (first | exact List.Mem.head _ | apply List.Mem.tail)) rfl), ?_⟩
  rintro _ _ ⟨rfl, rfl⟩ -
  refine ⟨_, _, rfl, OpStep.pure rfl rfl (opBuildArr0 arr24 zt24), ?_⟩
  rintro _ _ ⟨rfl, rfl⟩ -
  rw [← zero256_map]
  refine ⟨_, _, rfl, OpStep.call rfl rfl (callOp Try.call91 rfl) (rat_c rb b fr sz t1 hd t1 _ (RgM.of (by repeat (first | exact List.Mem.head _ | apply List.Mem.tail))).ro h0 (by omega) (by omega) (by omega)), ?_⟩
  rintro _ _ ⟨_, _, ⟨rfl, rfl⟩, rfl, rfl⟩ -
  refine ⟨_, _, rfl, OpStep.callW rfl rfl (callOp Try.call22 rfl) (Sel.perm (L' := [.obj b _, .sl lv 256 _, .sl wv1 257 _, .mp mb1 _]) (by repeat (first | exact Sel.nil | (apply Sel.cons; (repeat (first | exact Ext.here | apply Ext.there)))))) (dwrite_c b lv wv1 mb1 E ((fr + t1 % sz : Nat) : Int) zero256 _ hE List.length_replicate hfew), ?_⟩
  rintro _ _ ⟨_, _, ⟨wv2, rfl, hw2, rfl⟩, rfl, rfl⟩ -
  obtain ⟨E1, e1, hW⟩ : ∃ E1 e1, writeF E ((fr + t1 % sz : Nat) : Int) zero256 = (E1, e1) := ⟨_, _, rfl⟩
  have hla := writeF_last E ((fr + t1 % sz : Nat) : Int) zero256
  have ok1 := writeF_ok hE.ok (i := ((fr + t1 % sz : Nat) : Int)) (s := zero256) List.length_replicate hfew
  rw [hW] at hla ok1 hw2 ⊢
  dsimp only at hla ok1 hw2 ⊢
  have hI2 : DkI E1 lv wv2 := ⟨by rw [hla]; exact hE.hl, hw2, ok1⟩
  obtain ⟨q, hq⟩ : ∃ q, min to hd - t1 = q + 1 := ⟨min to hd - t1 - 1, by omega⟩
  rw [hq, dropN, hW] at hRE
  dsimp only at hRE
  refine ⟨_, _, rfl, OpStep.pure rfl rfl (pureOp_assign rfl), ?_⟩
  rintro _ _ ⟨rfl, rfl⟩ -
  refine ⟨rfl, ?_⟩
  refine AWp.keep (L' := [.obj rb _, .obj b _, .sl lv 256 _, .sl wv2 257 _, .mp mb1 _]) (by repeat (first | exact Sel.nil | (apply Sel.cons; (repeat (first | exact Ext.here | apply Ext.there))))) ?_
  refine AWp.forget ?_ (sub_put (i := 0) rfl (sub_put (i := 1) rfl (sub_put (i := 6) rfl (sub_put (i := 7) rfl (sub_put (i := 19) rfl (sub_nil))))))
  refine AWp.seq ?_
  refine AWp.region ?_
  refine OpsW.pure rfl rfl (pureOp_move rfl) ?_
  refine OpsW.pure rfl rfl (opN_neq (b := 0) rfl rfl) ?_
  refine OpsW.nil ?_
  refine AWp.forget ?_ (sub_put (i := 0) rfl (sub_put (i := 1) rfl (sub_put (i := 6) rfl (sub_put (i := 7) rfl (sub_put (i := 19) rfl (sub_put (i := 33) rfl (sub_nil)))))))
  refine AWp.condP rfl (fun ht33 => ?_) (fun ht33 => ?_)
  · skip
    refine AWp.seq ?_
    refine AWp.region ?_
    refine OpsW.pure rfl rfl (pureOp_move rfl) ?_
    refine OpsW.pure rfl rfl (pureOp_move rfl) ?_
    refine OpsW.pure rfl rfl (pureOp_assign rfl) ?_
    refine OpsW.pure rfl rfl (pureOp_assign rfl) ?_
    refine OpsW.nil ?_
    refine AWp.forget ?_ (sub_put (i := 0) rfl (sub_put (i := 1) rfl (sub_put (i := 4) rfl (sub_put (i := 5) rfl (sub_put (i := 6) rfl (sub_put (i := 7) rfl (sub_put (i := 19) rfl (sub_put (i := 33) rfl (sub_nil)))))))))
    refine AWp.ret ?_
    rw [if_pos ht33] at hRE
    subst hRE
    exact ⟨_, [.obj rb _, .obj b _, .sl lv 256 _, .sl wv2 257 _, .mp mb1 _], _, Sel.perm (by repeat (first | exact Sel.nil | (apply Sel.cons; (repeat (first | exact Ext.here | apply Ext.there))))), res_tmp2 rfl rfl rfl, wv2, mb1, rfl, hw2, rfl⟩
  refine AWp.skip ?_
  refine AWp.seq ?_
  refine AWp.seq ?_
  obtain rfl : e1 = 0 := Decidable.of_not_not ht33
  rw [if_neg (by simp)] at hRE
  refine AWp.region ?_
  refine OpsW.pure rfl rfl (pureOp_move rfl) ?_
  refine OpsW.pure rfl rfl (pureOp_nilCheck rfl) ?_
  refine OpsW.pure rfl rfl (pureOp_fieldAddr fa144_0 rfl) ?_
  refine OpsW.load rfl rfl (loadOp_obj sc48 rfl (by repeat (first | exact List.Mem.head _ | apply List.Mem.tail)) rfl) ?_
  refine OpsW.callA rfl rfl (callOp Try.call23 rfl) (Sel.perm (L' := [.obj b _, .sl lv 256 _, .sl wv2 257 _, .mp mb1 _]) (by repeat (first | exact Sel.nil | (apply Sel.cons; (repeat (first | exact Ext.here | apply Ext.there)))))) (dflush_c b lv wv2 mb1 E1 _ hI2) ?_
  rintro _ _ ⟨wv3, mb3, rfl, hw3, rfl⟩
  obtain ⟨E2, e2, hF⟩ : ∃ E2 e2, flushF E1 = (E2, e2) := ⟨_, _, rfl⟩
  have hfw := @flushF_wait E1
  have hfl := flushF_len E1
  have ok2 := flushF_ok ok1
  rw [hF] at hw3 hfw hfl ok2 hRE ⊢
  dsimp only at hw3 hfw hfl ok2 hRE ⊢
  refine OpsW.pure rfl rfl (pureOp_assign rfl) ?_
  refine OpsW.nil ?_
  refine AWp.forget ?_ (sub_put (i := 0) rfl (sub_put (i := 1) rfl (sub_put (i := 6) rfl (sub_put (i := 7) rfl (sub_put (i := 8) rfl (sub_put (i := 19) rfl (sub_put (i := 33) rfl (sub_nil))))))))
  refine AWp.seq ?_
  refine AWp.region ?_
  refine OpsW.pure rfl rfl (pureOp_move rfl) ?_
  refine OpsW.pure rfl rfl (opN_neq (b := 0) rfl rfl) ?_
  refine OpsW.nil ?_
  refine AWp.forget ?_ (sub_put (i := 0) rfl (sub_put (i := 1) rfl (sub_put (i := 6) rfl (sub_put (i := 7) rfl (sub_put (i := 8) rfl (sub_put (i := 19) rfl (sub_put (i := 33) rfl (sub_put (i := 42) rfl (sub_nil)))))))))
  refine AWp.condP rfl (fun ht42 => ?_) (fun ht42 => ?_)
  · skip
    refine AWp.seq ?_
    refine AWp.region ?_
    refine OpsW.pure rfl rfl (pureOp_move rfl) ?_
    refine OpsW.pure rfl rfl (pureOp_move rfl) ?_
    refine OpsW.pure rfl rfl (pureOp_assign rfl) ?_
    refine OpsW.pure rfl rfl (pureOp_assign rfl) ?_
    refine OpsW.nil ?_
    refine AWp.forget ?_ (sub_put (i := 0) rfl (sub_put (i := 1) rfl (sub_put (i := 4) rfl (sub_put (i := 5) rfl (sub_put (i := 6) rfl (sub_put (i := 7) rfl (sub_put (i := 8) rfl (sub_put (i := 19) rfl (sub_put (i := 33) rfl (sub_put (i := 42) rfl (sub_nil)))))))))))
    refine AWp.ret ?_
    rw [if_pos ht42] at hRE
    subst hRE
    exact ⟨_, [.obj rb _, .obj b _, .sl lv 256 _, .sl wv3 257 _, .mp mb3 _], _, Sel.perm (by repeat (first | exact Sel.nil | (apply Sel.cons; (repeat (first | exact Ext.here | apply Ext.there))))), res_tmp2 rfl rfl rfl, wv3, mb3, rfl, hw3, rfl⟩
  refine AWp.skip ?_
  refine AWp.seq ?_
  obtain rfl : e2 = 0 := Decidable.of_not_not ht42
  rw [if_neg (by simp)] at hRE
  have hl3 : E2.last.length = D.last.length := by rw [hfl, hla]; exact hEl
  have hI3 : DkI E2 lv wv3 := ⟨slOk_same h.hl (by rw [secC_length ok2.sec, hl3, hlC]), hw3, ok2⟩
  have hw3b := hfw rfl
  have hRE3 : R = dropN fr sz (min to hd - (t1 + 1)) E2 (t1 + 1) (n + 1) := by rw [show min to hd - (t1 + 1) = q by omega]; exact hRE
  refine AWp.region ?_
  refine OpsW.pure rfl rfl (pureOp_move rfl) ?_
  refine OpsW.pure rfl rfl (pureOp_nilCheck rfl) ?_
  refine OpsW.pure rfl rfl (pureOp_fieldAddr fa144_3 rfl) ?_
  refine OpsW.load rfl rfl (loadOp_obj sc3 rfl (by repeat (first | exact List.Mem.head _ | apply List.Mem.tail)) rfl) ?_
  refine OpsW.pure rfl rfl (opN_add (b := 1) rfl rfl (by omega)) ?_
  refine OpsW.pure rfl rfl (pureOp_nilCheck rfl) ?_
  refine OpsW.pure rfl rfl (pureOp_fieldAddr fa144_3 rfl) ?_
  refine OpsW.upd rfl rfl (by repeat (first | exact Pos.here | apply Pos.there)) (lop_store1 Try.sizeOf3 rfl rfl (by first | rfl | assumption | exact one_sl (by assumption)) (rg_lt (by decide))) ?_
  rintro _ _ ⟨rfl, rfl⟩
  refine OpsW.nil ?_
  refine AWp.forget ?_ (sub_put (i := 0) rfl (sub_put (i := 1) rfl (sub_put (i := 6) rfl (sub_put (i := 7) rfl (sub_put (i := 8) rfl (sub_put (i := 19) rfl (sub_put (i := 33) rfl (sub_put (i := 42) rfl (sub_nil)))))))))
  refine AWp.region ?_
  refine OpsW.pure rfl rfl (pureOp_move rfl) ?_
  refine OpsW.pure rfl rfl (opN_add (b := 1) rfl rfl (by omega)) ?_
  refine OpsW.pure rfl rfl (pureOp_assign rfl) ?_
  refine OpsW.forget ?_ (sub_put (i := 0) rfl (sub_put (i := 1) rfl (sub_put (i := 6) rfl (sub_nil))))
  refine OpsW.keep (L' := [.obj rb _, .obj b _, .sl lv 256 _, .sl wv3 257 _, .mp mb3 _]) (by repeat (first | exact Sel.nil | (apply Sel.cons; (repeat (first | exact Ext.here | apply Ext.there))))) ?_
  refine OpsW.nil ?_
  exact ⟨_, by omega, t1 + 1, n + 1, E2, wv3, mb3, rfl, by omega, by omega, by omega, hI3, hw3b, hl3, hRE3, rfl, rfl, rfl⟩
  refine AWp.exit (exit_here ?_)
  refine AWp.seq ?_
  refine AWp.region ?_
  refine OpsW.pure rfl rfl (pureOp_move rfl) ?_
  refine OpsW.pure rfl rfl (pureOp_assign rfl) ?_
  refine OpsW.pure rfl rfl (pureOp_assign rfl) ?_
  refine OpsW.nil ?_
  refine AWp.forget ?_ (sub_put (i := 0) rfl (sub_put (i := 1) rfl (sub_put (i := 4) rfl (sub_put (i := 5) rfl (sub_put (i := 6) rfl (sub_put (i := 19) rfl (sub_nil)))))))
  refine AWp.ret ?_
  rw [show min to hd - t1 = 0 by omega] at hRE
  subst hRE
  exact ⟨_, [.obj rb _, .obj b _, .sl lv 256 _, .sl wv1 257 _, .mp mb1 _], _, Sel.perm (by repeat (first | exact Sel.nil | (apply Sel.cons; (repeat (first | exact Ext.here | apply Ext.there))))), res_tmp2 rfl rfl rfl, wv1, mb1, rfl, hE.hw, rfl⟩

end Go.Proofs.Ytpnipajadjeifaa.Sep
