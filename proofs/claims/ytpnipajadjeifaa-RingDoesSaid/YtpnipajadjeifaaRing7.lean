/- The walk of same. -/
import Derived.Test.YtpnipajadjeifaaRing6
import Derived.Test.YtpnipajadjeifaaRingE
import Derived.Test.YtpnipajadjeifaaProg
namespace Go.Proofs.Ytpnipajadjeifaa.Sep
open Go Go.RowKit
set_option linter.unusedVariables false
set_option linter.unusedSimpArgs false



set_option maxRecDepth 20000 in
set_option maxHeartbeats 8000000 in
theorem same36_c (rb b : Nat) (lv wv : Value) (mb : Nat) (D : Dk) (fr sz tl hd : Nat) (ms mt : Nat) (mv : Value) (mvs : List Value) (ml : List (List UInt8)) (m : Mem) (hr : RgM m rb b fr sz tl hd) (h : DkI D lv wv) (hu : Up D) (hw0 : D.wait = []) (h0 : 0 < sz) (hs : sz ≤ 256) (hN : fr + sz ≤ D.last.length) (hle : tl ≤ hd) (hbig : hd ≤ 4000000000000) (hall : ∀ n : Nat, tl ≤ n → n < hd → (readR D.last fr sz tl hd (n : Int)).2 = 0) (hm : Rd m mv 1 mvs) (hmp : Parts m ml mvs) (hmt : mt ≤ 4000000000000) (hml : ml.length ≤ 4000000000000) :
    Ctr Try.prog 40 [.pointer (some ⟨rb, 0, none⟩), .agg (mC ms mt mv).toArray] m [.obj b [lv, wv, .map (some mb), .int .i64 D.steps, .int .i64 D.fuse, .bool D.down], .sl lv 256 (secC D.last), .sl wv 257 (wrC D.wait), .mp mb (mapC (nowL D.wait))] (fun _ r L => r = .bool (sameR D.last fr sz tl hd mt ml) ∧ L = [.obj b [lv, wv, .map (some mb), .int .i64 D.steps, .int .i64 D.fuse, .bool D.down], .sl lv 256 (secC D.last), .sl wv 257 (wrC D.wait), .mp mb (mapC (nowL D.wait))]) := by
  have hlen := h.ok.len
  have ho := hm.1
  refine Ctr.intro Try.func40 rfl Try.ntmps40 (by simp) fun w0 => ?_
  refine AWp.forget ?_ (sub_put (i := 0) rfl (sub_put (i := 1) rfl (sub_nil)))
  refine AWp.seq ?_
  refine AWp.region ?_
  refine OpsW.alloc rfl rfl (allocOp_boxAgg rfl) ?_
  rintro _ _ ⟨b3, rfl, rfl⟩
  refine OpsW.pure rfl rfl (pureOp_assign rfl) ?_
  refine OpsW.nil ?_
  refine AWp.forget ?_ (sub_put (i := 0) rfl (sub_put (i := 1) rfl (sub_put (i := 3) rfl (sub_put (i := 4) rfl (sub_nil)))))
  refine AWp.seq ?_
  refine AWp.keep (L' := [.obj b3 _, .obj b _, .sl lv 256 _, .sl wv 257 _, .mp mb _]) (by repeat (first | exact Sel.nil | (apply Sel.cons; (repeat (first | exact Ext.here | apply Ext.there))))) ?_
  refine AWp.freeze (fun m1 hm1 hat => ?_)
  have hr1 := hr.mono hm1
  have hm1r := hm.mono hm1
  have hmp1 := hmp.mono hm1
  refine AWp.region ?_
  refine OpsW.pure rfl rfl (pureOp_move rfl) ?_
  refine OpsW.callA rfl rfl (callOp Try.call88 rfl) (Sel.perm (L' := [.obj b _, .sl lv 256 _, .sl wv 257 _, .mp mb _]) (by repeat (first | exact Sel.nil | (apply Sel.cons; (repeat (first | exact Ext.here | apply Ext.there)))))) (rall_c rb b lv wv mb D fr sz tl hd _ hr1.ro h hu hw0 h0 hs hN hle hbig hall) ?_
  rintro _ _ ⟨v, vs, μ, rfl, hv, hparts, rfl⟩
  have hvl := hparts.len
  rw [allL_length] at hvl
  refine OpsW.pure rfl rfl (pureOp_move rfl) ?_
  refine OpsW.pure rfl rfl (pureOp_extract (v := v) rfl rfl) ?_
  refine OpsW.pure rfl rfl (pureOp_extract (v := iV 0) rfl rfl) ?_
  refine OpsW.pure rfl rfl (pureOp_assign rfl) ?_
  refine OpsW.pure rfl rfl (pureOp_assign rfl) ?_
  refine OpsW.nil ?_
  refine AWp.forget ?_ (sub_put (i := 0) rfl (sub_put (i := 1) rfl (sub_put (i := 3) rfl (sub_put (i := 4) rfl (sub_put (i := 5) rfl (sub_put (i := 6) rfl (sub_nil)))))))
  refine AWp.seq ?_
  refine AWp.seq ?_
  refine AWp.joinW (fun m' T' L' => ∃ bb : Bool, (bb = true ↔ ¬ (hd - tl = ml.length ∧ tl = mt ∧ cleanB D.last fr sz hd (tl + sz - hd) = true)) ∧ m' = m1 ∧ T' = put (put (put (put (tnil) 59 (.bool bb)) 5 (v)) 3 (.pointer (some ⟨b3, 0, none⟩))) 0 (.pointer (some ⟨rb, 0, none⟩)) ∧ L' = [.sl v 1 vs, .fz μ, .obj b [lv, wv, .map (some mb), .int .i64 D.steps, .int .i64 D.fuse, .bool D.down], .sl lv 256 (secC D.last), .sl wv 257 (wrC D.wait), .mp mb (mapC (nowL D.wait))]) ?_ ?_
  · skip
    refine AWp.draw [(0, .pure), (1, .pure), (2, .pure), (3, .pure), (4, .pure), (5, .pure), (6, .ro), (7, .pure), (8, .pure), (9, .pure), (10, .pure), (11, .pure), (13, .pure), (14, .ro), (12, .call), (15, .pure), (16, .pure), (17, .pure), (18, .pure), (20, .pure), (21, .ro), (22, .pure), (23, .ro), (24, .pure), (25, .pure), (19, .call), (26, .pure), (27, .pure), (28, .pure), (29, .pure), (31, .pure), (32, .ro), (33, .pure), (30, .call), (34, .pure), (35, .pure), (36, .pure), (37, .pure), (38, .wr), (39, .pure), (40, .pure)] rfl (by decide +kernel) Weak.perm ?_
    refine ⟨_, _, rfl, OpStep.pure rfl rfl (pureOp_move rfl), ?_⟩
    rintro _ _ ⟨rfl, rfl⟩ -
    refine ⟨_, _, rfl, OpStep.pure rfl rfl (opN_neq (b := 0) rfl rfl), ?_⟩
    rintro _ _ ⟨rfl, rfl⟩ -
    refine chain_knowB (d := 20) (b := false) (by show some (Value.bool (decide _)) = _; rw [decide_eq_false (fun h => h rfl)]) ?_
    refine ⟨_, _, rfl, OpStep.pure rfl rfl (pureOp_move rfl), ?_⟩
    rintro _ _ ⟨rfl, rfl⟩ -
    refine ⟨_, _, rfl, OpStep.pure rfl rfl (pureOp_move rfl), ?_⟩
    rintro _ _ ⟨rfl, rfl⟩ -
    refine ⟨_, _, rfl, OpStep.pure rfl rfl (opN_len1 (hd - tl) Try.underlying68 rfl (by assumption) hvl), ?_⟩
    rintro _ _ ⟨rfl, rfl⟩ -
    refine ⟨_, _, rfl, OpStep.pure rfl rfl (pureOp_fieldAddr fa70_2 rfl), ?_⟩
    rintro _ _ ⟨rfl, rfl⟩ -
    refine ⟨_, _, rfl, OpStep.ro rfl rfl (loadOp_scal sc68 rfl (.inl (hat _ _ ⟨2, rfl, rfl⟩))), ?_⟩
    rintro _ _ ⟨rfl, rfl⟩ -
    refine ⟨_, _, rfl, OpStep.pure rfl rfl (opN_len1 ml.length Try.underlying68 rfl (by assumption) hmp.len), ?_⟩
    rintro _ _ ⟨rfl, rfl⟩ -
    refine ⟨_, _, rfl, OpStep.pure rfl rfl (opN_neq rfl rfl), ?_⟩
    rintro _ _ ⟨rfl, rfl⟩ -
    refine chain_splitP (d := 27) rfl (fun h27 => ?_) (fun h27 => ?_)
    · skip
      refine ⟨_, _, rfl, OpStep.pure rfl rfl (pureOp_pick_false rfl rfl), ?_⟩
      rintro _ _ ⟨rfl, rfl⟩ -
      refine ⟨_, _, rfl, OpStep.pure rfl rfl (pureOp_move rfl), ?_⟩
      rintro _ _ ⟨rfl, rfl⟩ -
      refine ⟨_, _, rfl, OpStep.skip rfl rfl, ?_⟩
      rintro _ _ ⟨rfl, rfl⟩ -
      refine ⟨_, _, rfl, OpStep.skip rfl rfl, ?_⟩
      rintro _ _ ⟨rfl, rfl⟩ -
      refine ⟨_, _, rfl, OpStep.skip rfl rfl, ?_⟩
      rintro _ _ ⟨rfl, rfl⟩ -
      refine ⟨_, _, rfl, OpStep.skip rfl rfl, ?_⟩
      rintro _ _ ⟨rfl, rfl⟩ -
      refine ⟨_, _, rfl, OpStep.skip rfl rfl, ?_⟩
      rintro _ _ ⟨rfl, rfl⟩ -
      refine ⟨_, _, rfl, OpStep.pure rfl rfl (pureOp_pick_true rfl rfl), ?_⟩
      rintro _ _ ⟨rfl, rfl⟩ -
      refine ⟨_, _, rfl, OpStep.pure rfl rfl (pureOp_move rfl), ?_⟩
      rintro _ _ ⟨rfl, rfl⟩ -
      refine ⟨_, _, rfl, OpStep.skip rfl rfl, ?_⟩
      rintro _ _ ⟨rfl, rfl⟩ -
      refine ⟨_, _, rfl, OpStep.skip rfl rfl, ?_⟩
      rintro _ _ ⟨rfl, rfl⟩ -
      refine ⟨_, _, rfl, OpStep.skip rfl rfl, ?_⟩
      rintro _ _ ⟨rfl, rfl⟩ -
      refine ⟨_, _, rfl, OpStep.skip rfl rfl, ?_⟩
      rintro _ _ ⟨rfl, rfl⟩ -
      refine ⟨_, _, rfl, OpStep.skip rfl rfl, ?_⟩
      rintro _ _ ⟨rfl, rfl⟩ -
      refine ⟨_, _, rfl, OpStep.skip rfl rfl, ?_⟩
      rintro _ _ ⟨rfl, rfl⟩ -
      refine ⟨_, _, rfl, OpStep.skip rfl rfl, ?_⟩
      rintro _ _ ⟨rfl, rfl⟩ -
      refine ⟨_, _, rfl, OpStep.skip rfl rfl, ?_⟩
      rintro _ _ ⟨rfl, rfl⟩ -
      refine ⟨_, _, rfl, OpStep.skip rfl rfl, ?_⟩
      rintro _ _ ⟨rfl, rfl⟩ -
      refine ⟨_, _, rfl, OpStep.pure rfl rfl (pureOp_pick_true rfl rfl), ?_⟩
      rintro _ _ ⟨rfl, rfl⟩ -
      refine ⟨_, _, rfl, OpStep.pure rfl rfl (pureOp_move rfl), ?_⟩
      rintro _ _ ⟨rfl, rfl⟩ -
      refine ⟨_, _, rfl, OpStep.skip rfl rfl, ?_⟩
      rintro _ _ ⟨rfl, rfl⟩ -
      refine ⟨_, _, rfl, OpStep.skip rfl rfl, ?_⟩
      rintro _ _ ⟨rfl, rfl⟩ -
      refine ⟨_, _, rfl, OpStep.skip rfl rfl, ?_⟩
      rintro _ _ ⟨rfl, rfl⟩ -
      refine ⟨_, _, rfl, OpStep.skip rfl rfl, ?_⟩
      rintro _ _ ⟨rfl, rfl⟩ -
      refine ⟨_, _, rfl, OpStep.skip rfl rfl, ?_⟩
      rintro _ _ ⟨rfl, rfl⟩ -
      refine ⟨_, _, rfl, OpStep.skip rfl rfl, ?_⟩
      rintro _ _ ⟨rfl, rfl⟩ -
      refine ⟨_, _, rfl, OpStep.pure rfl rfl (pureOp_pick_true rfl rfl), ?_⟩
      rintro _ _ ⟨rfl, rfl⟩ -
      refine ⟨_, _, rfl, OpStep.pure rfl rfl (pureOp_move rfl), ?_⟩
      rintro _ _ ⟨rfl, rfl⟩ -
      refine ⟨_, _, rfl, OpStep.skip rfl rfl, ?_⟩
      rintro _ _ ⟨rfl, rfl⟩ -
      refine ⟨_, _, rfl, OpStep.skip rfl rfl, ?_⟩
      rintro _ _ ⟨rfl, rfl⟩ -
      refine ⟨_, _, rfl, OpStep.skip rfl rfl, ?_⟩
      rintro _ _ ⟨rfl, rfl⟩ -
      refine ⟨_, _, rfl, OpStep.pure rfl rfl (pureOp_pick_true rfl rfl), ?_⟩
      rintro _ _ ⟨rfl, rfl⟩ -
      refine ⟨_, [.sl v 1 vs, .fz μ, .obj b _, .sl lv 256 _, .sl wv 257 _, .mp mb _], _, sub_put (i := 0) rfl (sub_put (i := 3) rfl (sub_put (i := 5) rfl (sub_put (i := 59) rfl (sub_nil)))), Sel.perm (by repeat (first | exact Sel.nil | (apply Sel.cons; (repeat (first | exact Ext.here | apply Ext.there))))), ?_⟩
      exact ⟨_, (by first | exact ⟨fun _ h => h27 h.1, fun _ => rfl⟩ | exact ⟨fun _ h => h34 h.2.1, fun _ => rfl⟩ | exact smC (Decidable.of_not_not h27) (Decidable.of_not_not h34)), rfl, rfl, rfl⟩
    · skip
      refine ⟨_, _, rfl, OpStep.pure rfl rfl (pureOp_pick_false rfl rfl), ?_⟩
      rintro _ _ ⟨rfl, rfl⟩ -
      refine ⟨_, _, rfl, OpStep.pure rfl rfl (pureOp_move rfl), ?_⟩
      rintro _ _ ⟨rfl, rfl⟩ -
      refine ⟨_, _, rfl, OpStep.pure rfl rfl (pureOp_move rfl), ?_⟩
      rintro _ _ ⟨rfl, rfl⟩ -
      refine ⟨_, _, rfl, OpStep.pure rfl rfl (pureOp_fieldAddr fa70_1 rfl), ?_⟩
      rintro _ _ ⟨rfl, rfl⟩ -
      refine ⟨_, _, rfl, OpStep.ro rfl rfl (loadOp_scal sc3 rfl (.inl (hat _ _ ⟨1, rfl, rfl⟩))), ?_⟩
      rintro _ _ ⟨rfl, rfl⟩ -
      refine ⟨_, _, rfl, OpStep.call rfl rfl (callOp Try.call44 rfl) (rfirst_c rb b fr sz tl hd _ hr1.ro), ?_⟩
      rintro _ _ ⟨_, _, ⟨rfl, rfl⟩, rfl, rfl⟩ -
      refine ⟨_, _, rfl, OpStep.pure rfl rfl (opN_neq rfl rfl), ?_⟩
      rintro _ _ ⟨rfl, rfl⟩ -
      refine chain_splitP (d := 34) rfl (fun h34 => ?_) (fun h34 => ?_)
      · skip
        refine ⟨_, _, rfl, OpStep.pure rfl rfl (pureOp_pick_false rfl rfl), ?_⟩
        rintro _ _ ⟨rfl, rfl⟩ -
        refine ⟨_, _, rfl, OpStep.pure rfl rfl (pureOp_move rfl), ?_⟩
        rintro _ _ ⟨rfl, rfl⟩ -
        refine ⟨_, _, rfl, OpStep.skip rfl rfl, ?_⟩
        rintro _ _ ⟨rfl, rfl⟩ -
        refine ⟨_, _, rfl, OpStep.skip rfl rfl, ?_⟩
        rintro _ _ ⟨rfl, rfl⟩ -
        refine ⟨_, _, rfl, OpStep.skip rfl rfl, ?_⟩
        rintro _ _ ⟨rfl, rfl⟩ -
        refine ⟨_, _, rfl, OpStep.skip rfl rfl, ?_⟩
        rintro _ _ ⟨rfl, rfl⟩ -
        refine ⟨_, _, rfl, OpStep.skip rfl rfl, ?_⟩
        rintro _ _ ⟨rfl, rfl⟩ -
        refine ⟨_, _, rfl, OpStep.skip rfl rfl, ?_⟩
        rintro _ _ ⟨rfl, rfl⟩ -
        refine ⟨_, _, rfl, OpStep.skip rfl rfl, ?_⟩
        rintro _ _ ⟨rfl, rfl⟩ -
        refine ⟨_, _, rfl, OpStep.skip rfl rfl, ?_⟩
        rintro _ _ ⟨rfl, rfl⟩ -
        refine ⟨_, _, rfl, OpStep.skip rfl rfl, ?_⟩
        rintro _ _ ⟨rfl, rfl⟩ -
        refine ⟨_, _, rfl, OpStep.pure rfl rfl (pureOp_pick_true rfl rfl), ?_⟩
        rintro _ _ ⟨rfl, rfl⟩ -
        refine ⟨_, _, rfl, OpStep.pure rfl rfl (pureOp_move rfl), ?_⟩
        rintro _ _ ⟨rfl, rfl⟩ -
        refine ⟨_, _, rfl, OpStep.skip rfl rfl, ?_⟩
        rintro _ _ ⟨rfl, rfl⟩ -
        refine ⟨_, _, rfl, OpStep.skip rfl rfl, ?_⟩
        rintro _ _ ⟨rfl, rfl⟩ -
        refine ⟨_, _, rfl, OpStep.skip rfl rfl, ?_⟩
        rintro _ _ ⟨rfl, rfl⟩ -
        refine ⟨_, _, rfl, OpStep.skip rfl rfl, ?_⟩
        rintro _ _ ⟨rfl, rfl⟩ -
        refine ⟨_, _, rfl, OpStep.skip rfl rfl, ?_⟩
        rintro _ _ ⟨rfl, rfl⟩ -
        refine ⟨_, _, rfl, OpStep.skip rfl rfl, ?_⟩
        rintro _ _ ⟨rfl, rfl⟩ -
        refine ⟨_, _, rfl, OpStep.pure rfl rfl (pureOp_pick_true rfl rfl), ?_⟩
        rintro _ _ ⟨rfl, rfl⟩ -
        refine ⟨_, _, rfl, OpStep.pure rfl rfl (pureOp_move rfl), ?_⟩
        rintro _ _ ⟨rfl, rfl⟩ -
        refine ⟨_, _, rfl, OpStep.skip rfl rfl, ?_⟩
        rintro _ _ ⟨rfl, rfl⟩ -
        refine ⟨_, _, rfl, OpStep.skip rfl rfl, ?_⟩
        rintro _ _ ⟨rfl, rfl⟩ -
        refine ⟨_, _, rfl, OpStep.skip rfl rfl, ?_⟩
        rintro _ _ ⟨rfl, rfl⟩ -
        refine ⟨_, _, rfl, OpStep.pure rfl rfl (pureOp_pick_true rfl rfl), ?_⟩
        rintro _ _ ⟨rfl, rfl⟩ -
        refine ⟨_, [.sl v 1 vs, .fz μ, .obj b _, .sl lv 256 _, .sl wv 257 _, .mp mb _], _, sub_put (i := 0) rfl (sub_put (i := 3) rfl (sub_put (i := 5) rfl (sub_put (i := 59) rfl (sub_nil)))), Sel.perm (by repeat (first | exact Sel.nil | (apply Sel.cons; (repeat (first | exact Ext.here | apply Ext.there))))), ?_⟩
        exact ⟨_, (by first | exact ⟨fun _ h => h27 h.1, fun _ => rfl⟩ | exact ⟨fun _ h => h34 h.2.1, fun _ => rfl⟩ | exact smC (Decidable.of_not_not h27) (Decidable.of_not_not h34)), rfl, rfl, rfl⟩
      · skip
        refine ⟨_, _, rfl, OpStep.pure rfl rfl (pureOp_pick_false rfl rfl), ?_⟩
        rintro _ _ ⟨rfl, rfl⟩ -
        refine ⟨_, _, rfl, OpStep.pure rfl rfl (pureOp_move rfl), ?_⟩
        rintro _ _ ⟨rfl, rfl⟩ -
        refine ⟨_, _, rfl, OpStep.pure rfl rfl (pureOp_move rfl), ?_⟩
        rintro _ _ ⟨rfl, rfl⟩ -
        refine ⟨_, _, rfl, OpStep.pure rfl rfl (pureOp_fieldAddr fa70_1 rfl), ?_⟩
        rintro _ _ ⟨rfl, rfl⟩ -
        refine ⟨_, _, rfl, OpStep.ro rfl rfl (loadOp_scal sc3 rfl (.inl (hat _ _ ⟨1, rfl, rfl⟩))), ?_⟩
        rintro _ _ ⟨rfl, rfl⟩ -
        refine ⟨_, _, rfl, OpStep.pure rfl rfl (pureOp_fieldAddr fa70_2 rfl), ?_⟩
        rintro _ _ ⟨rfl, rfl⟩ -
        refine ⟨_, _, rfl, OpStep.ro rfl rfl (loadOp_scal sc68 rfl (.inl (hat _ _ ⟨2, rfl, rfl⟩))), ?_⟩
        rintro _ _ ⟨rfl, rfl⟩ -
        refine ⟨_, _, rfl, OpStep.pure rfl rfl (opN_len1 ml.length Try.underlying68 rfl (by assumption) hmp.len), ?_⟩
        rintro _ _ ⟨rfl, rfl⟩ -
        refine ⟨_, _, rfl, OpStep.pure rfl rfl (opN_add rfl rfl (by omega)), ?_⟩
        rintro _ _ ⟨rfl, rfl⟩ -
        refine ⟨_, _, rfl, OpStep.call rfl rfl (callOp Try.call42 rfl) (rnext_c rb b fr sz tl hd _ hr1.ro), ?_⟩
        rintro _ _ ⟨_, _, ⟨rfl, rfl⟩, rfl, rfl⟩ -
        refine ⟨_, _, rfl, OpStep.pure rfl rfl (opN_neq rfl rfl), ?_⟩
        rintro _ _ ⟨rfl, rfl⟩ -
        refine chain_knowB (d := 45) (b := false) (by show some (Value.bool (decide _)) = _; rw [decide_eq_false (fun h => h (by omega))]) ?_
        refine ⟨_, _, rfl, OpStep.pure rfl rfl (pureOp_pick_false rfl rfl), ?_⟩
        rintro _ _ ⟨rfl, rfl⟩ -
        refine ⟨_, _, rfl, OpStep.pure rfl rfl (pureOp_move rfl), ?_⟩
        rintro _ _ ⟨rfl, rfl⟩ -
        refine ⟨_, _, rfl, OpStep.pure rfl rfl (pureOp_move rfl), ?_⟩
        rintro _ _ ⟨rfl, rfl⟩ -
        refine ⟨_, _, rfl, OpStep.pure rfl rfl (pureOp_fieldAddr fa70_2 rfl), ?_⟩
        rintro _ _ ⟨rfl, rfl⟩ -
        refine ⟨_, _, rfl, OpStep.ro rfl rfl (loadOp_scal sc68 rfl (.inl (hat _ _ ⟨2, rfl, rfl⟩))), ?_⟩
        rintro _ _ ⟨rfl, rfl⟩ -
        refine ⟨_, _, rfl, OpStep.pure rfl rfl (opN_len1 ml.length Try.underlying68 rfl (by assumption) hmp.len), ?_⟩
        rintro _ _ ⟨rfl, rfl⟩ -
        refine ⟨_, _, rfl, OpStep.call rfl rfl (callOp Try.call43 rfl) (rlen_c rb b fr sz tl hd _ hr1.ro hle hbig), ?_⟩
        rintro _ _ ⟨_, _, ⟨rfl, rfl⟩, rfl, rfl⟩ -
        refine ⟨_, _, rfl, OpStep.pure rfl rfl (opN_neq rfl rfl), ?_⟩
        rintro _ _ ⟨rfl, rfl⟩ -
        refine chain_knowB (d := 53) (b := false) (by show some (Value.bool (decide _)) = _; rw [decide_eq_false (fun h => h (Decidable.of_not_not h27))]) ?_
        refine ⟨_, _, rfl, OpStep.pure rfl rfl (pureOp_pick_false rfl rfl), ?_⟩
        rintro _ _ ⟨rfl, rfl⟩ -
        refine ⟨_, _, rfl, OpStep.pure rfl rfl (pureOp_move rfl), ?_⟩
        rintro _ _ ⟨rfl, rfl⟩ -
        refine ⟨_, _, rfl, OpStep.pure rfl rfl (pureOp_move rfl), ?_⟩
        rintro _ _ ⟨rfl, rfl⟩ -
        refine ⟨_, _, rfl, OpStep.callW rfl rfl (callOp Try.call46 rfl) (Sel.perm (L' := [.obj b _, .sl lv 256 _, .sl wv 257 _, .mp mb _]) (by repeat (first | exact Sel.nil | (apply Sel.cons; (repeat (first | exact Ext.here | apply Ext.there)))))) (rclean_c rb b lv wv mb D fr sz tl hd _ hr1.ro h hu hw0 h0 hs hN hle hbig), ?_⟩
        rintro _ _ ⟨_, _, ⟨rfl, rfl⟩, rfl, rfl⟩ -
        refine ⟨_, _, rfl, OpStep.pure rfl rfl (pureOp_not rfl), ?_⟩
        rintro _ _ ⟨rfl, rfl⟩ -
        refine ⟨_, _, rfl, OpStep.pure rfl rfl (pureOp_pick_false rfl rfl), ?_⟩
        rintro _ _ ⟨rfl, rfl⟩ -
        refine ⟨_, [.sl v 1 vs, .fz μ, .obj b _, .sl lv 256 _, .sl wv 257 _, .mp mb _], _, sub_put (i := 0) rfl (sub_put (i := 3) rfl (sub_put (i := 5) rfl (sub_put (i := 59) rfl (sub_nil)))), Sel.perm (by repeat (first | exact Sel.nil | (apply Sel.cons; (repeat (first | exact Ext.here | apply Ext.there))))), ?_⟩
        exact ⟨_, (by first | exact ⟨fun _ h => h27 h.1, fun _ => rfl⟩ | exact ⟨fun _ h => h34 h.2.1, fun _ => rfl⟩ | exact smC (Decidable.of_not_not h27) (Decidable.of_not_not h34)), rfl, rfl, rfl⟩
  rintro m _ _ ⟨bb, hbb, rfl, rfl, rfl⟩
  refine AWp.cond rfl (fun ht59 => ?_) (fun ht59 => ?_)
  · skip
    refine AWp.seq ?_
    refine AWp.region ?_
    refine OpsW.pure rfl rfl (pureOp_assign rfl) ?_
    refine OpsW.nil ?_
    refine AWp.forget ?_ (sub_put (i := 0) rfl (sub_put (i := 3) rfl (sub_put (i := 4) rfl (sub_put (i := 5) rfl (sub_put (i := 59) rfl (sub_nil))))))
    refine AWp.ret ?_
    exact ⟨_, [.obj b _, .sl lv 256 _, .sl wv 257 _, .mp mb _], _, Sel.perm (by repeat (first | exact Sel.nil | (apply Sel.cons; (repeat (first | exact Ext.here | apply Ext.there))))), res_tmp rfl rfl, by rw [sm_head (hbb.1 ht59)], rfl⟩
  refine AWp.skip ?_
  refine AWp.seq ?_
  refine AWp.seq ?_
  have hsm : hd - tl = ml.length ∧ tl = mt ∧ cleanB D.last fr sz hd (tl + sz - hd) = true := Decidable.byContradiction fun h => by rw [hbb.2 h] at ht59; cases ht59
  obtain ⟨hsm1, rfl, hsm3⟩ := hsm
  refine AWp.region ?_
  refine OpsW.pure rfl rfl (pureOp_assign rfl) ?_
  refine OpsW.nil ?_
  refine AWp.forget ?_ (sub_put (i := 0) rfl (sub_put (i := 3) rfl (sub_put (i := 5) rfl (sub_put (i := 7) rfl (sub_put (i := 59) rfl (sub_nil))))))
  refine AWp.block ?_
  refine AWp.forget ?_ (sub_put (i := 0) rfl (sub_put (i := 3) rfl (sub_put (i := 5) rfl (sub_put (i := 7) rfl (sub_nil)))))
  refine AWp.keep (L' := [.sl v 1 vs, .fz μ, .obj b _, .sl lv 256 _, .sl wv 257 _, .mp mb _]) (by repeat (first | exact Sel.nil | (apply Sel.cons; (repeat (first | exact Ext.here | apply Ext.there))))) ?_
  refine AWp.loop (fun N m' T' L' => ∃ i : Nat, N = ml.length - i ∧ i ≤ ml.length ∧ (∀ j, j < i → (allL D.last fr sz tl hd (hd - tl)).getD j [] = ml.getD j []) ∧ m' = m ∧ T' = put (put (put (put (tnil) 7 (iV i)) 5 (v)) 3 (.pointer (some ⟨b3, 0, none⟩))) 0 (.pointer (some ⟨rb, 0, none⟩)) ∧ L' = [.sl v 1 vs, .fz μ, .obj b [lv, wv, .map (some mb), .int .i64 D.steps, .int .i64 D.fuse, .bool D.down], .sl lv 256 (secC D.last), .sl wv 257 (wrC D.wait), .mp mb (mapC (nowL D.wait))]) _ (⟨0, rfl, Nat.zero_le _, fun j hj => absurd hj (Nat.not_lt_zero _), rfl, rfl, rfl⟩) ?_
  rintro _ m _ _ ⟨i, rfl, hi, hjs, rfl, rfl, rfl⟩
  refine AWp.seq ?_
  refine AWp.seq ?_
  refine AWp.region ?_
  refine OpsW.pure rfl rfl (pureOp_move rfl) ?_
  refine OpsW.pure rfl rfl (pureOp_move rfl) ?_
  refine OpsW.pure rfl rfl (opN_len1 (hd - tl) Try.underlying68 rfl (by assumption) hvl) ?_
  refine OpsW.pure rfl rfl (opN_lss rfl rfl) ?_
  refine OpsW.nil ?_
  refine AWp.forget ?_ (sub_put (i := 0) rfl (sub_put (i := 3) rfl (sub_put (i := 5) rfl (sub_put (i := 7) rfl (sub_put (i := 63) rfl (sub_nil))))))
  refine AWp.condP rfl (fun ht63 => ?_) (fun ht63 => ?_)
  refine AWp.skip ?_
  refine AWp.seq ?_
  refine AWp.block ?_
  refine AWp.seq ?_
  refine AWp.region ?_
  refine OpsW.pure rfl rfl (pureOp_move rfl) ?_
  refine OpsW.pure rfl rfl (pureOp_fieldAddr fa70_1 rfl) ?_
  refine OpsW.load rfl rfl (loadOp_scal sc3 rfl (.inl (hat _ _ ⟨1, rfl, rfl⟩))) ?_
  refine OpsW.pure rfl rfl (pureOp_move rfl) ?_
  refine OpsW.pure rfl rfl (opN_add rfl rfl (by omega)) ?_
  refine OpsW.callA rfl rfl (callOp Try.call45 rfl) (Sel.perm (L' := [.obj b _, .sl lv 256 _, .sl wv 257 _, .mp mb _]) (by repeat (first | exact Sel.nil | (apply Sel.cons; (repeat (first | exact Ext.here | apply Ext.there)))))) (rread_c rb b lv wv mb D fr sz tl hd ((tl + i : Nat) : Int) _ hr1.ro h hu hw0 h0 hs hN hle hbig) ?_
  rintro _ _ ⟨v2, rfl, hv2, rfl⟩
  rw [hall (tl + i) (by omega) (by omega)]
  have hAi : (allL D.last fr sz tl hd (hd - tl)).getD i [] = (readR D.last fr sz tl hd ((tl + i : Nat) : Int)).1 := allL_get (by omega)
  obtain ⟨bs, hbs⟩ : ∃ bs, bs = (readR D.last fr sz tl hd ((tl + i : Nat) : Int)).1 := ⟨_, rfl⟩
  rw [← hbs] at hv2 hAi ⊢
  have hpi := hparts.part i (by rw [allL_length]; omega)
  rw [hAi] at hpi
  have hmi := hmp1.part i (by omega)
  refine OpsW.pure rfl rfl (pureOp_move rfl) ?_
  refine OpsW.pure rfl rfl (pureOp_extract (v := v2) rfl rfl) ?_
  refine OpsW.pure rfl rfl (pureOp_extract (v := iV 0) rfl rfl) ?_
  refine OpsW.pure rfl rfl (pureOp_assign rfl) ?_
  refine OpsW.pure rfl rfl (pureOp_assign rfl) ?_
  refine OpsW.nil ?_
  refine AWp.forget ?_ (sub_put (i := 0) rfl (sub_put (i := 3) rfl (sub_put (i := 5) rfl (sub_put (i := 7) rfl (sub_put (i := 8) rfl (sub_put (i := 9) rfl (sub_put (i := 63) rfl (sub_nil))))))))
  refine AWp.seq ?_
  refine AWp.joinW (fun m' T' L' => ∃ cc : Bool, (cc = true ↔ ¬ bs = ml.getD i []) ∧ m' = m ∧ T' = put (put (put (put (put (tnil) 99 (.bool cc)) 7 (iV i)) 5 (v)) 3 (.pointer (some ⟨b3, 0, none⟩))) 0 (.pointer (some ⟨rb, 0, none⟩)) ∧ L' = [.sl v 1 vs, .fz μ, .obj b [lv, wv, .map (some mb), .int .i64 D.steps, .int .i64 D.fuse, .bool D.down], .sl lv 256 (secC D.last), .sl wv 257 (wrC D.wait), .mp mb (mapC (nowL D.wait))]) ?_ ?_
  · skip
    refine AWp.draw [(0, .pure), (1, .pure), (2, .pure), (3, .load), (4, .pure), (5, .ro), (6, .pure), (7, .pure), (8, .load), (9, .call), (10, .pure), (11, .pure), (12, .pure), (13, .pure), (14, .pure), (15, .pure), (16, .pure), (17, .pure), (18, .ro), (19, .pure), (20, .pure), (21, .load), (22, .call), (23, .pure), (24, .pure)] rfl (by decide +kernel) Weak.perm ?_
    refine ⟨_, _, rfl, OpStep.pure rfl rfl (pureOp_move rfl), ?_⟩
    rintro _ _ ⟨rfl, rfl⟩ -
    refine ⟨_, _, rfl, OpStep.pure rfl rfl (pureOp_move rfl), ?_⟩
    rintro _ _ ⟨rfl, rfl⟩ -
    refine ⟨_, _, rfl, OpStep.pure rfl rfl (opN_indexSl1 Try.underlying68 Try.sizeOf46 rfl (by assumption) rfl (by omega)), ?_⟩
    rintro _ _ ⟨rfl, rfl⟩ -
    refine ⟨_, _, rfl, OpStep.load rfl rfl (loadOp_elem (u := vs.getD i undef) sc46 rfl (by first | exact Rd.ro (by assumption) | exact Rd.of_sl (by repeat (first | exact List.Mem.head _ | apply List.Mem.tail)) (by assumption)) (get_D (by omega))), ?_⟩
    rintro _ _ ⟨rfl, rfl⟩ -
    refine ⟨_, _, rfl, OpStep.pure rfl rfl (pureOp_fieldAddr fa70_2 rfl), ?_⟩
    rintro _ _ ⟨rfl, rfl⟩ -
    refine ⟨_, _, rfl, OpStep.ro rfl rfl (loadOp_scal sc68 rfl (.inl (hat _ _ ⟨2, rfl, rfl⟩))), ?_⟩
    rintro _ _ ⟨rfl, rfl⟩ -
    refine ⟨_, _, rfl, OpStep.pure rfl rfl (pureOp_move rfl), ?_⟩
    rintro _ _ ⟨rfl, rfl⟩ -
    refine ⟨_, _, rfl, OpStep.pure rfl rfl (opN_indexSl1 Try.underlying68 Try.sizeOf46 rfl (by assumption) rfl (by rw [hmp1.len]; omega)), ?_⟩
    rintro _ _ ⟨rfl, rfl⟩ -
    refine ⟨_, _, rfl, OpStep.load rfl rfl (loadOp_elem (u := mvs.getD i undef) sc46 rfl (by first | exact Rd.ro (by assumption) | exact Rd.of_sl (by repeat (first | exact List.Mem.head _ | apply List.Mem.tail)) (by assumption)) (get_D (by rw [hmp1.len]; omega))), ?_⟩
    rintro _ _ ⟨rfl, rfl⟩ -
    refine ⟨_, _, rfl, OpStep.call rfl rfl (callOp Try.call33 rfl) (same01_c (vs.getD i undef) (mvs.getD i undef) bs (ml.getD i []) _ (hpi.fz (by repeat (first | exact List.Mem.head _ | apply List.Mem.tail))) hmi.ro), ?_⟩
    rintro _ _ ⟨_, _, ⟨rfl, rfl⟩, rfl, rfl⟩ -
    refine ⟨_, _, rfl, OpStep.pure rfl rfl (pureOp_notP rfl), ?_⟩
    rintro _ _ ⟨rfl, rfl⟩ -
    refine chain_splitP (d := 85) rfl (fun h85 => ?_) (fun h85 => ?_)
    · skip
      refine ⟨_, _, rfl, OpStep.pure rfl rfl (pureOp_move rfl), ?_⟩
      rintro _ _ ⟨rfl, rfl⟩ -
      refine ⟨_, _, rfl, OpStep.skip rfl rfl, ?_⟩
      rintro _ _ ⟨rfl, rfl⟩ -
      refine ⟨_, _, rfl, OpStep.skip rfl rfl, ?_⟩
      rintro _ _ ⟨rfl, rfl⟩ -
      refine ⟨_, _, rfl, OpStep.pure rfl rfl (pureOp_pick_true rfl rfl), ?_⟩
      rintro _ _ ⟨rfl, rfl⟩ -
      refine ⟨_, _, rfl, OpStep.pure rfl rfl (pureOp_move rfl), ?_⟩
      rintro _ _ ⟨rfl, rfl⟩ -
      refine ⟨_, _, rfl, OpStep.skip rfl rfl, ?_⟩
      rintro _ _ ⟨rfl, rfl⟩ -
      refine ⟨_, _, rfl, OpStep.skip rfl rfl, ?_⟩
      rintro _ _ ⟨rfl, rfl⟩ -
      refine ⟨_, _, rfl, OpStep.skip rfl rfl, ?_⟩
      rintro _ _ ⟨rfl, rfl⟩ -
      refine ⟨_, _, rfl, OpStep.skip rfl rfl, ?_⟩
      rintro _ _ ⟨rfl, rfl⟩ -
      refine ⟨_, _, rfl, OpStep.skip rfl rfl, ?_⟩
      rintro _ _ ⟨rfl, rfl⟩ -
      refine ⟨_, _, rfl, OpStep.skip rfl rfl, ?_⟩
      rintro _ _ ⟨rfl, rfl⟩ -
      refine ⟨_, _, rfl, OpStep.skip rfl rfl, ?_⟩
      rintro _ _ ⟨rfl, rfl⟩ -
      refine ⟨_, _, rfl, OpStep.skip rfl rfl, ?_⟩
      rintro _ _ ⟨rfl, rfl⟩ -
      refine ⟨_, _, rfl, OpStep.pure rfl rfl (pureOp_pick_true rfl rfl), ?_⟩
      rintro _ _ ⟨rfl, rfl⟩ -
      refine ⟨_, [.sl v 1 vs, .fz μ, .obj b _, .sl lv 256 _, .sl wv 257 _, .mp mb _], _, sub_put (i := 0) rfl (sub_put (i := 3) rfl (sub_put (i := 5) rfl (sub_put (i := 7) rfl (sub_put (i := 99) rfl (sub_nil))))), Sel.perm (by repeat (first | exact Sel.nil | (apply Sel.cons; (repeat (first | exact Ext.here | apply Ext.there))))), ?_⟩
      exact ⟨_, (by first | exact ⟨fun _ => h85, fun _ => rfl⟩ | exact ⟨fun h => (by cases h), fun h => absurd h h85⟩), rfl, rfl, rfl⟩
    · skip
      refine ⟨_, _, rfl, OpStep.pure rfl rfl (pureOp_move rfl), ?_⟩
      rintro _ _ ⟨rfl, rfl⟩ -
      refine ⟨_, _, rfl, OpStep.pure rfl rfl (pureOp_move rfl), ?_⟩
      rintro _ _ ⟨rfl, rfl⟩ -
      refine ⟨_, _, rfl, OpStep.pure rfl rfl (opN_neq (b := 0) rfl rfl), ?_⟩
      rintro _ _ ⟨rfl, rfl⟩ -
      refine chain_knowB (d := 88) (b := false) (by show some (Value.bool (decide _)) = _; rw [decide_eq_false (fun h => h rfl)]) ?_
      refine ⟨_, _, rfl, OpStep.pure rfl rfl (pureOp_pick_false rfl rfl), ?_⟩
      rintro _ _ ⟨rfl, rfl⟩ -
      refine ⟨_, _, rfl, OpStep.pure rfl rfl (pureOp_move rfl), ?_⟩
      rintro _ _ ⟨rfl, rfl⟩ -
      refine ⟨_, _, rfl, OpStep.pure rfl rfl (pureOp_move rfl), ?_⟩
      rintro _ _ ⟨rfl, rfl⟩ -
      refine ⟨_, _, rfl, OpStep.pure rfl rfl (pureOp_fieldAddr fa70_2 rfl), ?_⟩
      rintro _ _ ⟨rfl, rfl⟩ -
      refine ⟨_, _, rfl, OpStep.ro rfl rfl (loadOp_scal sc68 rfl (.inl (hat _ _ ⟨2, rfl, rfl⟩))), ?_⟩
      rintro _ _ ⟨rfl, rfl⟩ -
      refine ⟨_, _, rfl, OpStep.pure rfl rfl (pureOp_move rfl), ?_⟩
      rintro _ _ ⟨rfl, rfl⟩ -
      refine ⟨_, _, rfl, OpStep.pure rfl rfl (opN_indexSl1 Try.underlying68 Try.sizeOf46 rfl (by assumption) rfl (by rw [hmp1.len]; omega)), ?_⟩
      rintro _ _ ⟨rfl, rfl⟩ -
      refine ⟨_, _, rfl, OpStep.load rfl rfl (loadOp_elem (u := mvs.getD i undef) sc46 rfl (by first | exact Rd.ro (by assumption) | exact Rd.of_sl (by repeat (first | exact List.Mem.head _ | apply List.Mem.tail)) (by assumption)) (get_D (by rw [hmp1.len]; omega))), ?_⟩
      rintro _ _ ⟨rfl, rfl⟩ -
      refine ⟨_, _, rfl, OpStep.call rfl rfl (callOp Try.call33 rfl) (same01_c v2 (mvs.getD i undef) bs (ml.getD i []) _ (Rd.of_sl (by repeat (first | exact List.Mem.head _ | apply List.Mem.tail)) hv2) hmi.ro), ?_⟩
      rintro _ _ ⟨_, _, ⟨rfl, rfl⟩, rfl, rfl⟩ -
      refine ⟨_, _, rfl, OpStep.pure rfl rfl (pureOp_notP rfl), ?_⟩
      rintro _ _ ⟨rfl, rfl⟩ -
      refine chain_knowB (d := 98) (b := false) (by show some (Value.bool (decide _)) = _; rw [decide_eq_false (fun h => h (Decidable.of_not_not h85))]) ?_
      refine ⟨_, _, rfl, OpStep.pure rfl rfl (pureOp_pick_false rfl rfl), ?_⟩
      rintro _ _ ⟨rfl, rfl⟩ -
      refine ⟨_, [.sl v 1 vs, .fz μ, .obj b _, .sl lv 256 _, .sl wv 257 _, .mp mb _], _, sub_put (i := 0) rfl (sub_put (i := 3) rfl (sub_put (i := 5) rfl (sub_put (i := 7) rfl (sub_put (i := 99) rfl (sub_nil))))), Sel.perm (by repeat (first | exact Sel.nil | (apply Sel.cons; (repeat (first | exact Ext.here | apply Ext.there))))), ?_⟩
      exact ⟨_, (by first | exact ⟨fun _ => h85, fun _ => rfl⟩ | exact ⟨fun h => (by cases h), fun h => absurd h h85⟩), rfl, rfl, rfl⟩
  rintro m _ _ ⟨cc, hcc, rfl, rfl, rfl⟩
  refine AWp.cond rfl (fun ht99 => ?_) (fun ht99 => ?_)
  · skip
    refine AWp.seq ?_
    refine AWp.region ?_
    refine OpsW.pure rfl rfl (pureOp_assign rfl) ?_
    refine OpsW.nil ?_
    refine AWp.forget ?_ (sub_put (i := 0) rfl (sub_put (i := 3) rfl (sub_put (i := 4) rfl (sub_put (i := 5) rfl (sub_put (i := 7) rfl (sub_put (i := 99) rfl (sub_nil)))))))
    refine AWp.ret ?_
    exact ⟨_, [.obj b _, .sl lv 256 _, .sl wv 257 _, .mp mb _], _, Sel.perm (by repeat (first | exact Sel.nil | (apply Sel.cons; (repeat (first | exact Ext.here | apply Ext.there))))), res_tmp rfl rfl, by rw [sm_part (i := i) (by rw [hAi]; exact hcc.1 ht99)], rfl⟩
  refine AWp.skip ?_
  have hjs2 : ∀ j, j < i + 1 → (allL D.last fr sz tl hd (hd - tl)).getD j [] = ml.getD j [] := fun j hj => by
    rcases Nat.lt_or_ge j i with h9 | h9
    · exact hjs j h9
    · obtain rfl : j = i := by omega
      rw [hAi]
      exact Decidable.byContradiction fun h8 => by rw [hcc.2 h8] at ht99; cases ht99
  refine AWp.region ?_
  refine OpsW.pure rfl rfl (pureOp_move rfl) ?_
  refine OpsW.pure rfl rfl (opN_add (b := 1) rfl rfl (by omega)) ?_
  refine OpsW.pure rfl rfl (pureOp_assign rfl) ?_
  refine OpsW.forget ?_ (sub_put (i := 0) rfl (sub_put (i := 3) rfl (sub_put (i := 5) rfl (sub_put (i := 7) rfl (sub_nil)))))
  refine OpsW.keep (L' := [.sl v 1 vs, .fz μ, .obj b _, .sl lv 256 _, .sl wv 257 _, .mp mb _]) (by repeat (first | exact Sel.nil | (apply Sel.cons; (repeat (first | exact Ext.here | apply Ext.there))))) ?_
  refine OpsW.nil ?_
  exact ⟨_, by omega, i + 1, rfl, by omega, hjs2, rfl, rfl, rfl⟩
  obtain rfl : i = ml.length := by omega
  refine AWp.exit (exit_here ?_)
  refine AWp.seq ?_
  refine AWp.region ?_
  refine OpsW.pure rfl rfl (pureOp_move rfl) ?_
  refine OpsW.pure rfl rfl (pureOp_fieldAddr fa70_1 rfl) ?_
  refine OpsW.load rfl rfl (loadOp_scal sc3 rfl (.inl (hat _ _ ⟨1, rfl, rfl⟩))) ?_
  refine OpsW.pure rfl rfl (pureOp_subI rfl rfl (by omega)) ?_
  refine OpsW.callA rfl rfl (callOp Try.call45 rfl) (Sel.perm (L' := [.obj b _, .sl lv 256 _, .sl wv 257 _, .mp mb _]) (by repeat (first | exact Sel.nil | (apply Sel.cons; (repeat (first | exact Ext.here | apply Ext.there)))))) (rread_c rb b lv wv mb D fr sz tl hd ((tl : Int) - 1) _ hr1.ro h hu hw0 h0 hs hN hle hbig) ?_
  rintro _ _ ⟨v3, rfl, hv3, rfl⟩
  rw [read_low (n := (tl : Int) - 1) (by omega)] at hv3 ⊢
  refine OpsW.pure rfl rfl (pureOp_move rfl) ?_
  refine OpsW.pure rfl rfl (pureOp_extract (v := v3) rfl rfl) ?_
  refine OpsW.pure rfl rfl (pureOp_extract (v := iV 8) rfl rfl) ?_
  refine OpsW.pure rfl rfl (pureOp_assign rfl) ?_
  refine OpsW.pure rfl rfl (pureOp_assign rfl) ?_
  refine OpsW.nil ?_
  refine AWp.forget ?_ (sub_put (i := 0) rfl (sub_put (i := 3) rfl (sub_put (i := 5) rfl (sub_put (i := 7) rfl (sub_put (i := 11) rfl (sub_put (i := 63) rfl (sub_nil)))))))
  refine AWp.seq ?_
  refine AWp.region ?_
  refine OpsW.pure rfl rfl (pureOp_move rfl) ?_
  refine OpsW.pure rfl rfl (pureOp_fieldAddr fa70_1 rfl) ?_
  refine OpsW.load rfl rfl (loadOp_scal sc3 rfl (.inl (hat _ _ ⟨1, rfl, rfl⟩))) ?_
  refine OpsW.pure rfl rfl (pureOp_fieldAddr fa70_2 rfl) ?_
  refine OpsW.load rfl rfl (loadOp_scal sc68 rfl (.inl (hat _ _ ⟨2, rfl, rfl⟩))) ?_
  refine OpsW.pure rfl rfl (opN_len1 ml.length Try.underlying68 rfl (by assumption) hmp.len) ?_
  refine OpsW.pure rfl rfl (opN_add rfl rfl (by omega)) ?_
  refine OpsW.callA rfl rfl (callOp Try.call45 rfl) (Sel.perm (L' := [.obj b _, .sl lv 256 _, .sl wv 257 _, .mp mb _]) (by repeat (first | exact Sel.nil | (apply Sel.cons; (repeat (first | exact Ext.here | apply Ext.there)))))) (rread_c rb b lv wv mb D fr sz tl hd ((tl + ml.length : Nat) : Int) _ hr1.ro h hu hw0 h0 hs hN hle hbig) ?_
  rintro _ _ ⟨v4, rfl, hv4, rfl⟩
  rw [read_high (n := ((tl + ml.length : Nat) : Int)) (by omega)] at hv4 ⊢
  refine OpsW.pure rfl rfl (pureOp_move rfl) ?_
  refine OpsW.pure rfl rfl (pureOp_extract (v := v4) rfl rfl) ?_
  refine OpsW.pure rfl rfl (pureOp_extract (v := iV 8) rfl rfl) ?_
  refine OpsW.pure rfl rfl (pureOp_assign rfl) ?_
  refine OpsW.pure rfl rfl (pureOp_assign rfl) ?_
  refine OpsW.nil ?_
  refine AWp.forget ?_ (sub_put (i := 0) rfl (sub_put (i := 3) rfl (sub_put (i := 5) rfl (sub_put (i := 7) rfl (sub_put (i := 11) rfl (sub_put (i := 13) rfl (sub_put (i := 63) rfl (sub_nil))))))))
  refine AWp.seq ?_
  refine AWp.region ?_
  refine OpsW.pure rfl rfl (pureOp_move rfl) ?_
  refine OpsW.pure rfl rfl (opN_eql (b := 8) rfl rfl) ?_
  refine OpsW.knowB (d := 120) (b := true) (by show some (Value.bool (decide _)) = _; rw [decide_eq_true (rfl)]) ?_
  refine OpsW.pure rfl rfl (pureOp_move rfl) ?_
  refine OpsW.pure rfl rfl (pureOp_move rfl) ?_
  refine OpsW.pure rfl rfl (opN_eql (b := 8) rfl rfl) ?_
  refine OpsW.knowB (d := 123) (b := true) (by show some (Value.bool (decide _)) = _; rw [decide_eq_true (rfl)]) ?_
  refine OpsW.pure rfl rfl (pureOp_pick_true rfl rfl) ?_
  refine OpsW.pure rfl rfl (pureOp_assign rfl) ?_
  refine OpsW.nil ?_
  refine AWp.forget ?_ (sub_put (i := 0) rfl (sub_put (i := 3) rfl (sub_put (i := 4) rfl (sub_put (i := 5) rfl (sub_put (i := 7) rfl (sub_put (i := 11) rfl (sub_put (i := 13) rfl (sub_put (i := 63) rfl (sub_nil)))))))))
  refine AWp.ret ?_
  exact ⟨_, [.obj b _, .sl lv 256 _, .sl wv 257 _, .mp mb _], _, Sel.perm (by repeat (first | exact Sel.nil | (apply Sel.cons; (repeat (first | exact Ext.here | apply Ext.there))))), res_tmp rfl rfl, by rw [sm_ok ⟨hsm1, rfl, hsm3⟩ hjs], rfl⟩

end Go.Proofs.Ytpnipajadjeifaa.Sep
