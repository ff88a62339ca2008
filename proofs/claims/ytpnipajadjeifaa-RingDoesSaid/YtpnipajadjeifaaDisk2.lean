/- The walks of the package disk, the second part. -/
import Derived.Test.YtpnipajadjeifaaDisk1
import Derived.Test.YtpnipajadjeifaaProg
namespace Go.Proofs.Ytpnipajadjeifaa.Sep
open Go Go.RowKit
set_option linter.unusedVariables false
set_option linter.unusedSimpArgs false
theorem fa134_1 : FieldAt Try.prog 134 1 1 := by
  intro b o w
  simp [Instr.fieldAt, Try.runUnderlying134, fieldPlace, Instr.sureAddr, Try.sizeOf132, add_mk]
theorem sc132 : Scal Try.prog 132 := ⟨Try.isAgg132, Try.sizeOf132⟩
set_option maxRecDepth 100000 in
theorem slt132 : SlT Try.prog 132 137 257 264 ([.int .i64 0] ++ List.replicate 256 (.int .u8 0)) := ⟨Try.underlying132, ⟨_, _, (by kernel_rfl : Try.prog.info? 137 = some Try.t137), rfl, rfl, rfl, rfl, rfl⟩⟩
theorem ni132 : NotInt Try.prog 132 := ⟨_, Try.underlying132, fun k h => by cases h⟩
set_option maxRecDepth 100000 in
theorem zt137 : ZeroT Try.prog 137 ([.int .i64 0] ++ List.replicate 256 (.int .u8 0)) := ⟨_, Try.zeroValue137, rfl⟩
theorem fa137_0 : FieldAt Try.prog 137 0 0 := by
  intro b o w
  simp [Instr.fieldAt, Try.runUnderlying137, fieldPlace, Instr.sureAddr, Try.sizeOf3, add_mk]
theorem fa137_1 : FieldAt Try.prog 137 1 1 := by
  intro b o w
  simp [Instr.fieldAt, Try.runUnderlying137, fieldPlace, Instr.sureAddr, Try.sizeOf24, add_mk]
theorem ag137 : AggT Try.prog 137 257 := ⟨Try.isAgg137, Try.sizeOf137⟩
theorem sc47 : Scal Try.prog 47 := ⟨Try.isAgg47, Try.sizeOf47⟩

theorem st137 : StructT Try.prog 137 [(0, 1), (1, 256)] ([.int .i64 0] ++ List.replicate 256 (.int .u8 0)) := ⟨_, _, Try.runUnderlying137, Try.zeroValue137, by kernel_rfl, by intro w; simp [Try.sizeOf3, Try.sizeOf24]⟩
set_option maxRecDepth 20000 in
set_option maxHeartbeats 4000000 in
theorem dwrite_c (b : Nat) (lv wv : Value) (mb : Nat) (D : Dk) (i : Int) (s : List UInt8) (m : Mem) (h : DkI D lv wv) (hs : s.length = 256) (hf : D.wait.length < 1000000) :
    Ctr Try.prog 22 [.pointer (some ⟨b, 0, none⟩), .int .i64 i, .agg (s.map bV).toArray] m [.obj b [lv, wv, .map (some mb), .int .i64 D.steps, .int .i64 D.fuse, .bool D.down], .sl lv 256 (secC D.last), .sl wv 257 (wrC D.wait), .mp mb (mapC (nowL D.wait))] (fun _ r L => ∃ wv', r = iV (writeF D i s).2 ∧ slOk wv' 257 (wrC (writeF D i s).1.wait) ∧ L = [.obj b [lv, wv', .map (some mb), .int .i64 (writeF D i s).1.steps, .int .i64 (writeF D i s).1.fuse, .bool (writeF D i s).1.down], .sl lv 256 (secC (writeF D i s).1.last), .sl wv' 257 (wrC (writeF D i s).1.wait), .mp mb (mapC (nowL (writeF D i s).1.wait))]) := by
  obtain ⟨hl, hw, ok⟩ := h
  have hlC := secC_length ok.sec
  have hwC := wrC_length ok.wait
  have hsm : (s.map bV).length = 256 := by rw [List.length_map]; exact hs
  refine Ctr.intro Try.func22 rfl Try.ntmps22 (by simp) fun w0 => ?_
  refine AWp.forget ?_ (sub_put (i := 0) rfl (sub_put (i := 1) rfl (sub_put (i := 2) rfl (sub_nil))))
  refine AWp.seq ?_
  refine AWp.region ?_
  refine OpsW.alloc rfl rfl (allocOp_boxAgg rfl) ?_
  rintro _ _ ⟨b5, rfl, rfl⟩
  refine OpsW.pure rfl rfl (pureOp_assign rfl) ?_
  refine OpsW.nil ?_
  refine AWp.forget ?_ (sub_put (i := 0) rfl (sub_put (i := 1) rfl (sub_put (i := 2) rfl (sub_put (i := 5) rfl (sub_put (i := 6) rfl (sub_nil))))))
  refine AWp.seq ?_
  refine AWp.seq ?_
  refine AWp.region ?_
  refine OpsW.pure rfl rfl (pureOp_move rfl) ?_
  refine OpsW.pure rfl rfl (pureOp_move rfl) ?_
  refine OpsW.callA rfl rfl (callOp Try.call82 rfl) (Sel.perm (L' := [.obj b _, .sl lv 256 _, .sl wv 257 _, .mp mb _]) (by repeat (first | exact Sel.nil | (apply Sel.cons; (repeat (first | exact Ext.here | apply Ext.there)))))) (dinside_c b lv wv mb D i _ ⟨hl, hw, ok⟩) ?_
  rintro _ _ ⟨rfl, rfl⟩
  refine OpsW.pure rfl rfl (pureOp_notP rfl) ?_
  refine OpsW.nil ?_
  refine AWp.forget ?_ (sub_put (i := 0) rfl (sub_put (i := 1) rfl (sub_put (i := 2) rfl (sub_put (i := 5) rfl (sub_put (i := 6) rfl (sub_put (i := 11) rfl (sub_nil)))))))
  refine AWp.condP rfl (fun ht11 => ?_) (fun ht11 => ?_)
  · skip
    refine AWp.seq ?_
    refine AWp.region ?_
    refine OpsW.pure rfl rfl (pureOp_assign rfl) ?_
    refine OpsW.nil ?_
    refine AWp.forget ?_ (sub_put (i := 0) rfl (sub_put (i := 1) rfl (sub_put (i := 2) rfl (sub_put (i := 5) rfl (sub_put (i := 6) rfl (sub_put (i := 11) rfl (sub_nil)))))))
    refine AWp.ret ?_
    have hn : ¬ inF D i := ht11
    exact ⟨_, [.obj b _, .sl lv 256 _, .sl wv 257 _, .mp mb _], _, Sel.perm (by repeat (first | exact Sel.nil | (apply Sel.cons; (repeat (first | exact Ext.here | apply Ext.there))))), res_tmp rfl rfl, wv, by rw [writeF, if_neg hn]; rfl, by rw [writeF, if_neg hn]; exact hw, by rw [writeF, if_neg hn]⟩
  refine AWp.skip ?_
  refine AWp.seq ?_
  refine AWp.seq ?_
  refine AWp.region ?_
  refine OpsW.pure rfl rfl (pureOp_move rfl) ?_
  refine OpsW.callA rfl rfl (callOp Try.call83 rfl) (Sel.perm (L' := [.obj b _, .sl lv 256 _, .sl wv 257 _, .mp mb _]) (by repeat (first | exact Sel.nil | (apply Sel.cons; (repeat (first | exact Ext.here | apply Ext.there)))))) (dstep_c b lv wv mb D _ ⟨hl, hw, ok⟩) ?_
  rintro _ _ ⟨rfl, rfl⟩
  obtain ⟨D1, c, hS⟩ : ∃ D1 c, stepF D = (D1, c) := ⟨_, _, rfl⟩
  have ok1 := stepF_ok ok
  have hla := stepF_last D
  have hwa := stepF_wait D
  rw [hS] at ok1 hla hwa ⊢
  simp only at ok1 hla hwa ⊢
  refine OpsW.pure rfl rfl (pureOp_assign rfl) ?_
  refine OpsW.nil ?_
  refine AWp.forget ?_ (sub_put (i := 0) rfl (sub_put (i := 1) rfl (sub_put (i := 2) rfl (sub_put (i := 5) rfl (sub_put (i := 6) rfl (sub_put (i := 7) rfl (sub_put (i := 11) rfl (sub_nil))))))))
  refine AWp.seq ?_
  refine AWp.region ?_
  refine OpsW.pure rfl rfl (pureOp_move rfl) ?_
  refine OpsW.pure rfl rfl (opN_neq (b := 0) rfl rfl) ?_
  refine OpsW.nil ?_
  refine AWp.forget ?_ (sub_put (i := 0) rfl (sub_put (i := 1) rfl (sub_put (i := 2) rfl (sub_put (i := 5) rfl (sub_put (i := 6) rfl (sub_put (i := 7) rfl (sub_put (i := 11) rfl (sub_put (i := 15) rfl (sub_nil)))))))))
  refine AWp.condP rfl (fun ht15 => ?_) (fun ht15 => ?_)
  · skip
    refine AWp.seq ?_
    refine AWp.region ?_
    refine OpsW.pure rfl rfl (pureOp_move rfl) ?_
    refine OpsW.pure rfl rfl (pureOp_assign rfl) ?_
    refine OpsW.nil ?_
    refine AWp.forget ?_ (sub_put (i := 0) rfl (sub_put (i := 1) rfl (sub_put (i := 2) rfl (sub_put (i := 5) rfl (sub_put (i := 6) rfl (sub_put (i := 7) rfl (sub_put (i := 11) rfl (sub_put (i := 15) rfl (sub_nil)))))))))
    refine AWp.ret ?_
    have hin : inF D i := Decidable.of_not_not ht11
    have hwf : writeF D i s = (D1, c) := by rw [writeF, if_pos hin, hS, if_neg ht15]
    exact ⟨_, [.obj b _, .sl lv 256 _, .sl wv 257 _, .mp mb _], _, Sel.perm (by repeat (first | exact Sel.nil | (apply Sel.cons; (repeat (first | exact Ext.here | apply Ext.there))))), res_tmp rfl rfl, wv, by rw [hwf], by rw [hwf]; show slOk wv 257 (wrC D1.wait); rw [hwa]; exact hw, by rw [hwf]⟩
  refine AWp.skip ?_
  refine AWp.seq ?_
  have hin : inF D i := Decidable.of_not_not ht11
  obtain ⟨j, rfl⟩ : ∃ q : Nat, i = (q : Int) := ⟨i.toNat, by unfold inF at hin; omega⟩
  obtain rfl : c = 0 := Decidable.of_not_not ht15
  have hw1 : slOk wv 257 (wrC D1.wait) := by rw [hwa]; exact hw
  have hwC1 : (wrC D1.wait).length = D1.wait.length * 257 := wrC_length ok1.wait
  have hfew : D1.wait.length < 1000000 := by rw [hwa]; exact hf
  refine AWp.draw [(0, .pure), (1, .pure), (2, .pure), (3, .pure), (4, .load), (5, .pure), (6, .load), (7, .pure), (8, .alloc), (9, .wr), (10, .pure), (11, .pure), (12, .wr)] rfl (by decide +kernel) (fun _ _ _ p h => AWp.perm h p.symm) ?_
  refine ⟨_, _, rfl, OpStep.pure rfl rfl (pureOp_move rfl), ?_⟩
  rintro _ _ ⟨rfl, rfl⟩ -
  refine ⟨_, _, rfl, OpStep.pure rfl rfl (pureOp_move rfl), ?_⟩
  rintro _ _ ⟨rfl, rfl⟩ -
  refine ⟨_, _, rfl, OpStep.pure rfl rfl (pureOp_nilCheck rfl), ?_⟩
  rintro _ _ ⟨rfl, rfl⟩ -
  refine ⟨_, _, rfl, OpStep.pure rfl rfl (pureOp_fieldAddr fa134_1 rfl), ?_⟩
  rintro _ _ ⟨rfl, rfl⟩ -
  refine ⟨_, _, rfl, OpStep.load rfl rfl (loadOp_obj sc132 rfl (by repeat (first | exact List.Mem.head _ | apply List.Mem.tail)) rfl), ?_⟩
  rintro _ _ ⟨rfl, rfl⟩ -
  refine ⟨_, _, rfl, OpStep.pure rfl rfl (pureOp_move rfl), ?_⟩
  rintro _ _ ⟨rfl, rfl⟩ -
  refine ⟨_, _, rfl, OpStep.load rfl rfl (loadAll rfl (by repeat (first | exact List.Mem.head _ | apply List.Mem.tail)) hsm ag24), ?_⟩
  rintro _ _ ⟨rfl, rfl⟩ -
  refine ⟨_, _, rfl, OpStep.pure rfl rfl (opBuildStruct st137 rfl (wr_fill hs)), ?_⟩
  rintro _ _ ⟨rfl, rfl⟩ -
  refine ⟨_, _, rfl, allocStep_buildSlice rfl rfl slt132 rfl rfl (fun v hv => by rw [List.mem_singleton.1 hv]; simp [Value.cells, hs]) (by decide), ?_⟩
  rintro _ _ ⟨v25, _, ⟨hv25, hn25, rfl⟩, rfl, rfl⟩ -
  rw [flat_agg] at hv25 ⊢
  refine ⟨_, _, rfl, OpStep.wr rfl rfl (toWp (by repeat (first | exact Pos.here | apply Pos.there)) (lop_append (k := D1.wait.length) slt132 ni132 rfl rfl hwC1 (src_rd (n := 1) (by first | exact Rd.ro (by assumption) | exact Rd.of_sl (by repeat (first | exact List.Mem.head _ | apply List.Mem.tail)) (by assumption)) (by simp [hs]) (by decide)) (by omega) (one_wr _ _) (by decide) (by decide))), ?_⟩
  rintro _ _ ⟨v26, ⟨_, ⟨hv26, rfl⟩, rfl⟩, rfl⟩ -
  rw [wrC_snoc] at hv26 ⊢
  refine ⟨_, _, rfl, OpStep.pure rfl rfl (pureOp_nilCheck rfl), ?_⟩
  rintro _ _ ⟨rfl, rfl⟩ -
  refine ⟨_, _, rfl, OpStep.pure rfl rfl (pureOp_fieldAddr fa134_1 rfl), ?_⟩
  rintro _ _ ⟨rfl, rfl⟩ -
  refine ⟨_, _, rfl, OpStep.wr rfl rfl (toWp (by repeat (first | exact Pos.here | apply Pos.there)) (lop_store1 Try.sizeOf132 rfl rfl (one_sl hv26) (by first | rfl | assumption | (rw [List.length_map]; assumption) | (simp [*]; done) | (simp [*]; omega) | omega))), ?_⟩
  rintro _ _ ⟨_, ⟨_, ⟨rfl, rfl⟩, rfl⟩, rfl⟩ -
  refine AWp.forget ?_ (sub_put (i := 0) rfl (sub_put (i := 1) rfl (sub_put (i := 2) rfl (sub_put (i := 5) rfl (sub_put (i := 6) rfl (sub_put (i := 7) rfl (sub_put (i := 11) rfl (sub_put (i := 15) rfl (sub_nil)))))))))
  refine AWp.seq ?_
  refine AWp.draw [(0, .pure), (1, .pure), (2, .pure), (3, .load), (4, .pure), (5, .load), (6, .wr)] rfl (by decide +kernel) (fun _ _ _ p h => AWp.perm h p.symm) ?_
  refine ⟨_, _, rfl, OpStep.pure rfl rfl (pureOp_move rfl), ?_⟩
  rintro _ _ ⟨rfl, rfl⟩ -
  refine ⟨_, _, rfl, OpStep.pure rfl rfl (pureOp_nilCheck rfl), ?_⟩
  rintro _ _ ⟨rfl, rfl⟩ -
  refine ⟨_, _, rfl, OpStep.pure rfl rfl (pureOp_fieldAddr fa134_2 rfl), ?_⟩
  rintro _ _ ⟨rfl, rfl⟩ -
  refine ⟨_, _, rfl, OpStep.load rfl rfl (loadOp_obj sc131 rfl (by repeat (first | exact List.Mem.head _ | apply List.Mem.tail)) rfl), ?_⟩
  rintro _ _ ⟨rfl, rfl⟩ -
  refine ⟨_, _, rfl, OpStep.pure rfl rfl (pureOp_move rfl), ?_⟩
  rintro _ _ ⟨rfl, rfl⟩ -
  refine ⟨_, _, rfl, OpStep.load rfl rfl (loadAll rfl (by repeat (first | exact List.Mem.head _ | apply List.Mem.tail)) hsm ag24), ?_⟩
  rintro _ _ ⟨rfl, rfl⟩ -
  refine ⟨_, _, rfl, OpStep.wr rfl rfl (toWp (by repeat (first | exact Pos.here | apply Pos.there)) (lop_mapUpdate Try.underlying131 Try.underlying3 rfl rfl rfl)), ?_⟩
  rintro _ _ ⟨_, ⟨_, ⟨rfl, rfl⟩, rfl⟩, rfl⟩ -
  refine AWp.forget ?_ (sub_put (i := 0) rfl (sub_put (i := 1) rfl (sub_put (i := 2) rfl (sub_put (i := 5) rfl (sub_put (i := 6) rfl (sub_put (i := 7) rfl (sub_put (i := 11) rfl (sub_put (i := 15) rfl (sub_nil)))))))))
  refine AWp.seq ?_
  refine AWp.region ?_
  refine OpsW.pure rfl rfl (pureOp_assign rfl) ?_
  refine OpsW.nil ?_
  refine AWp.forget ?_ (sub_put (i := 0) rfl (sub_put (i := 1) rfl (sub_put (i := 2) rfl (sub_put (i := 5) rfl (sub_put (i := 6) rfl (sub_put (i := 7) rfl (sub_put (i := 11) rfl (sub_put (i := 15) rfl (sub_nil)))))))))
  refine AWp.ret ?_
  have hwf : writeF D (j : Int) s = ({ D1 with wait := D1.wait ++ [(j, s)] }, 0) := by rw [writeF, if_pos hin, hS, if_pos rfl]; rfl
  exact ⟨_, [.obj b _, .sl lv 256 _, .sl v26 257 _, .mp mb _], _, Sel.perm (by repeat (first | exact Sel.nil | (apply Sel.cons; (repeat (first | exact Ext.here | apply Ext.there))))), res_tmp rfl rfl, v26, by rw [hwf]; rfl, by rw [hwf]; exact hv26, by rw [hwf, nowL_snoc]; rfl⟩

set_option maxRecDepth 20000 in
set_option maxHeartbeats 4000000 in
theorem dsettle_c (b : Nat) (lv wv : Value) (mb : Nat) (D : Dk) (fk : FuncId) (cap : List Value) (kf : Nat → Bool) (m : Mem) (h : DkI D lv wv) (hcf : ∀ args w, (callFunc fk args).run Try.prog w = .ok (.enter fk args) w) (hk : ∀ i, i < D.wait.length → Ctr Try.prog fk (iV i :: cap) m [] (fun _ r L => r = .bool (kf i) ∧ L = [])) :
    Ctr Try.prog 84 [.pointer (some ⟨b, 0, none⟩), .func (.func fk) #[] cap.toArray] m [.obj b [lv, wv, .map (some mb), .int .i64 D.steps, .int .i64 D.fuse, .bool D.down], .sl lv 256 (secC D.last), .sl wv 257 (wrC D.wait), .mp mb (mapC (nowL D.wait))] (fun _ r L => ∃ mb', r = iV (cntK kf D.wait.length) ∧ L = [.obj b [lv, (.slice none 0 0), .map (some mb'), .int .i64 (settleF D kf).steps, .int .i64 (settleF D kf).fuse, .bool (settleF D kf).down], .sl lv 256 (secC (settleF D kf).last), .sl (.slice none 0 0) 257 (wrC (settleF D kf).wait), .mp mb' (mapC (nowL (settleF D kf).wait))]) := by
  obtain ⟨hl, hw, ok⟩ := h
  have hlC := secC_length ok.sec
  have hwC := wrC_length ok.wait
  have hfew := ok.few
  refine Ctr.intro Try.func84 rfl Try.ntmps84 (by simp) fun w0 => ?_
  refine AWp.forget ?_ (sub_put (i := 0) rfl (sub_put (i := 1) rfl (sub_nil)))
  refine AWp.seq ?_
  refine AWp.region ?_
  refine OpsW.pure rfl rfl (pureOp_assign rfl) ?_
  refine OpsW.nil ?_
  refine AWp.forget ?_ (sub_put (i := 0) rfl (sub_put (i := 1) rfl (sub_put (i := 4) rfl (sub_nil))))
  refine AWp.seq ?_
  refine AWp.region ?_
  refine OpsW.pure rfl rfl (pureOp_assign rfl) ?_
  refine OpsW.nil ?_
  refine AWp.forget ?_ (sub_put (i := 0) rfl (sub_put (i := 1) rfl (sub_put (i := 4) rfl (sub_put (i := 5) rfl (sub_nil)))))
  refine AWp.seq ?_
  refine AWp.seq ?_
  refine AWp.region ?_
  refine OpsW.pure rfl rfl (pureOp_move rfl) ?_
  refine OpsW.pure rfl rfl (pureOp_nilCheck rfl) ?_
  refine OpsW.pure rfl rfl (pureOp_fieldAddr fa134_1 rfl) ?_
  refine OpsW.load rfl rfl (loadOp_obj (u := wv) sc132 rfl (by repeat (first | exact List.Mem.head _ | apply List.Mem.tail)) rfl) ?_
  refine OpsW.pure rfl rfl (pureOp_len (n := D.wait.length) Try.underlying132 rfl (by assumption) hwC (by decide)) ?_
  refine OpsW.pure rfl rfl (pureOp_move rfl) ?_
  refine OpsW.nil ?_
  refine AWp.forget ?_ (sub_put (i := 0) rfl (sub_put (i := 1) rfl (sub_put (i := 4) rfl (sub_put (i := 5) rfl (sub_put (i := 11) rfl (sub_put (i := 12) rfl (sub_put (i := 13) rfl (sub_nil))))))))
  refine AWp.block ?_
  refine AWp.forget ?_ (sub_put (i := 0) rfl (sub_put (i := 1) rfl (sub_put (i := 11) rfl (sub_put (i := 12) rfl (sub_put (i := 13) rfl (sub_put (i := 5) rfl (sub_nil)))))))
  refine AWp.loop (fun N m' T' L' => ∃ k : Nat, N = D.wait.length - k ∧ k ≤ D.wait.length ∧ m' = m ∧ T' = put (put (put (put (put (put (tnil) 5 (iV (cntK kf k))) 13 (iV k)) 12 (iV D.wait.length)) 11 (wv)) 1 (.func (.func fk) #[] cap.toArray)) 0 (.pointer (some ⟨b, 0, none⟩)) ∧ L' = [.obj b [lv, wv, .map (some mb), .int .i64 D.steps, .int .i64 D.fuse, .bool D.down], .sl lv 256 (secC (setK kf D.wait D.last k)), .sl wv 257 (wrC D.wait), .mp mb (mapC (nowL D.wait))]) _ (⟨0, rfl, Nat.zero_le _, rfl, rfl, rfl⟩) ?_
  rintro _ m _ _ ⟨k, rfl, hkl, rfl, rfl, rfl⟩
  refine AWp.seq ?_
  refine AWp.region ?_
  refine OpsW.pure rfl rfl (opN_lss rfl rfl) ?_
  refine OpsW.nil ?_
  refine AWp.forget ?_ (sub_put (i := 0) rfl (sub_put (i := 1) rfl (sub_put (i := 5) rfl (sub_put (i := 11) rfl (sub_put (i := 12) rfl (sub_put (i := 13) rfl (sub_put (i := 14) rfl (sub_nil))))))))
  refine AWp.seq ?_
  refine AWp.condP rfl (fun ht14 => ?_) (fun ht14 => ?_)
  refine AWp.skip ?_
  refine AWp.seq ?_
  refine AWp.joinW (fun m' T' L' => m' = m ∧ T' = put (put (put (put (put (put (tnil) 5 (iV (cntK kf (k + 1)))) 13 (iV k)) 12 (iV D.wait.length)) 11 (wv)) 1 (.func (.func fk) #[] cap.toArray)) 0 (.pointer (some ⟨b, 0, none⟩)) ∧ L' = [.obj b [lv, wv, .map (some mb), .int .i64 D.steps, .int .i64 D.fuse, .bool D.down], .sl lv 256 (secC (setK kf D.wait D.last (k + 1))), .sl wv 257 (wrC D.wait), .mp mb (mapC (nowL D.wait))]) ?_ ?_
  · skip
    refine AWp.block ?_
    refine AWp.seq ?_
    obtain ⟨hw1, hw2⟩ := ok.wait.getD (show k < D.wait.length by omega)
    have okK := setK_ok (kf := kf) ok.sec ok.wait k hkl
    have hKl := setK_length kf D.wait D.last k
    have hlK : slOk lv 256 (secC (setK kf D.wait D.last k)) := slOk_same hl (by rw [hlC, secC_length okK, hKl])
    have hKC := secC_length okK
    have hws : ((D.wait.getD k (0, [])).2.map bV).length = 256 := by rw [List.length_map]; exact hw2
    have hck := cntK_le kf k
    refine AWp.region ?_
    refine OpsW.pure rfl rfl (pureOp_move rfl) ?_
    refine OpsW.pure rfl rfl (opN_indexSl (n := D.wait.length) Try.underlying132 Try.sizeOf137 rfl (by assumption) hwC (by decide) rfl (by omega)) ?_
    refine OpsW.load rfl rfl (loadWr (i := k) (ws := D.wait) ag137 rfl (Rd.of_sl (by repeat (first | exact List.Mem.head _ | apply List.Mem.tail)) hw) ok.wait (by omega)) ?_
    refine OpsW.alloc rfl rfl (allocOp_alloc zt137) ?_
    rintro _ _ ⟨b7, rfl, rfl⟩
    refine OpsW.pure rfl rfl (pureOp_assign rfl) ?_
    refine OpsW.upd rfl rfl (by repeat (first | exact Pos.here | apply Pos.there)) (lop_storeAllN 257 Try.sizeOf137 rfl rfl (by simp) (by rw [List.length_cons, hws]) (one_wr _ _)) ?_
    rintro _ _ ⟨rfl, rfl⟩
    refine OpsW.nil ?_
    refine AWp.forget ?_ (sub_put (i := 0) rfl (sub_put (i := 1) rfl (sub_put (i := 5) rfl (sub_put (i := 6) rfl (sub_put (i := 7) rfl (sub_put (i := 11) rfl (sub_put (i := 12) rfl (sub_put (i := 13) rfl (sub_put (i := 14) rfl (sub_nil))))))))))
    refine AWp.seq ?_
    refine AWp.region ?_
    refine OpsW.pure rfl rfl (pureOp_move rfl) ?_
    refine OpsW.pure rfl rfl (pureOp_move rfl) ?_
    refine OpsW.callA rfl rfl (callOp_val hcf rfl rfl) permNone ((hk k (by omega)).more (fun _ _ h => .inl h)) ?_
    rintro _ _ ⟨rfl, rfl⟩
    refine OpsW.nil ?_
    refine AWp.forget ?_ (sub_put (i := 0) rfl (sub_put (i := 1) rfl (sub_put (i := 5) rfl (sub_put (i := 6) rfl (sub_put (i := 7) rfl (sub_put (i := 11) rfl (sub_put (i := 12) rfl (sub_put (i := 13) rfl (sub_put (i := 14) rfl (sub_put (i := 20) rfl (sub_nil)))))))))))
    refine AWp.cond rfl (fun ht20 => ?_) (fun ht20 => ?_)
    · skip
      refine AWp.seq ?_
      refine AWp.draw [(0, .pure), (1, .pure), (2, .pure), (3, .load), (4, .pure), (5, .load), (6, .pure), (7, .load), (8, .pure), (9, .wr)] rfl (by decide +kernel) (fun _ _ _ p h => AWp.perm h p.symm) ?_
      refine ⟨_, _, rfl, OpStep.pure rfl rfl (pureOp_move rfl), ?_⟩
      rintro _ _ ⟨rfl, rfl⟩ -
      refine ⟨_, _, rfl, OpStep.pure rfl rfl (pureOp_nilCheck rfl), ?_⟩
      rintro _ _ ⟨rfl, rfl⟩ -
      refine ⟨_, _, rfl, OpStep.pure rfl rfl (pureOp_fieldAddr fa134_0 rfl), ?_⟩
      rintro _ _ ⟨rfl, rfl⟩ -
      refine ⟨_, _, rfl, OpStep.load rfl rfl (loadOp_obj (u := lv) sc109 rfl (by repeat (first | exact List.Mem.head _ | apply List.Mem.tail)) rfl), ?_⟩
      rintro _ _ ⟨rfl, rfl⟩ -
      refine ⟨_, _, rfl, OpStep.pure rfl rfl (pureOp_fieldAddr fa137_0 rfl), ?_⟩
      rintro _ _ ⟨rfl, rfl⟩ -
      refine ⟨_, _, rfl, OpStep.load rfl rfl (loadOp_obj sc3 rfl (by repeat (first | exact List.Mem.head _ | apply List.Mem.tail)) rfl), ?_⟩
      rintro _ _ ⟨rfl, rfl⟩ -
      refine ⟨_, _, rfl, OpStep.pure rfl rfl (pureOp_fieldAddr fa137_1 rfl), ?_⟩
      rintro _ _ ⟨rfl, rfl⟩ -
      refine ⟨_, _, rfl, OpStep.load rfl rfl (loadOp_objAgg ag24 rfl (by repeat (first | exact List.Mem.head _ | apply List.Mem.tail)) (by rw [List.length_cons, hws]; decide)), ?_⟩
      rintro _ _ ⟨rfl, rfl⟩ -
      rw [wr_tail hws]
      refine ⟨_, _, rfl, OpStep.pure rfl rfl (opN_indexSl (n := D.last.length) Try.underlying109 Try.sizeOf24 rfl (by assumption) (by rw [hKC, hKl]) (by decide) rfl (by omega)), ?_⟩
      rintro _ _ ⟨rfl, rfl⟩ -
      refine ⟨_, _, rfl, OpStep.wr rfl rfl (toWp (by repeat (first | exact Pos.here | apply Pos.there)) (lop_storeSec Try.sizeOf24 rfl rfl okK (by rw [hKl]; exact hw1) hw2 (by decide))), ?_⟩
      rintro _ _ ⟨_, ⟨_, ⟨rfl, rfl⟩, rfl⟩, rfl⟩ -
      refine AWp.forget ?_ (sub_put (i := 0) rfl (sub_put (i := 1) rfl (sub_put (i := 5) rfl (sub_put (i := 6) rfl (sub_put (i := 7) rfl (sub_put (i := 11) rfl (sub_put (i := 12) rfl (sub_put (i := 13) rfl (sub_put (i := 14) rfl (sub_put (i := 20) rfl (sub_nil)))))))))))
      refine AWp.region ?_
      refine OpsW.pure rfl rfl (pureOp_move rfl) ?_
      refine OpsW.pure rfl rfl (opN_add (b := 1) rfl rfl (by omega)) ?_
      refine OpsW.pure rfl rfl (pureOp_assign rfl) ?_
      refine OpsW.nil ?_
      refine ⟨_, [.obj b _, .sl lv 256 _, .sl wv 257 _, .mp mb (mapC (nowL D.wait))], _, sub_put (i := 0) rfl (sub_put (i := 1) rfl (sub_put (i := 11) rfl (sub_put (i := 12) rfl (sub_put (i := 13) rfl (sub_put (i := 5) rfl (sub_nil)))))), Sel.perm (by repeat (first | exact Sel.nil | (apply Sel.cons; (repeat (first | exact Ext.here | apply Ext.there))))), ?_⟩
      exact ⟨rfl, by rw [cntK, if_pos ht20], by rw [setK, if_pos ht20]⟩
    · skip
      refine AWp.skip ?_
      refine ⟨_, [.obj b _, .sl lv 256 _, .sl wv 257 _, .mp mb (mapC (nowL D.wait))], _, sub_put (i := 0) rfl (sub_put (i := 1) rfl (sub_put (i := 11) rfl (sub_put (i := 12) rfl (sub_put (i := 13) rfl (sub_put (i := 5) rfl (sub_nil)))))), Sel.perm (by repeat (first | exact Sel.nil | (apply Sel.cons; (repeat (first | exact Ext.here | apply Ext.there))))), ?_⟩
      exact ⟨rfl, by rw [cntK, if_neg (by rw [ht20]; decide)], by rw [setK, if_neg (by rw [ht20]; decide)]⟩
  rintro m _ _ ⟨rfl, rfl, rfl⟩
  refine AWp.region ?_
  refine OpsW.pure rfl rfl (opN_add (b := 1) rfl rfl (by omega)) ?_
  refine OpsW.pure rfl rfl (pureOp_move rfl) ?_
  refine OpsW.forget ?_ (sub_put (i := 0) rfl (sub_put (i := 1) rfl (sub_put (i := 11) rfl (sub_put (i := 12) rfl (sub_put (i := 13) rfl (sub_put (i := 5) rfl (sub_nil)))))))
  refine OpsW.keep (L' := [.obj b _, .sl lv 256 _, .sl wv 257 _, .mp mb (mapC (nowL D.wait))]) (by repeat (first | exact Sel.nil | (apply Sel.cons; (repeat (first | exact Ext.here | apply Ext.there))))) ?_
  refine OpsW.nil ?_
  exact ⟨_, by omega, k + 1, rfl, by omega, rfl, rfl, rfl⟩
  obtain rfl : k = D.wait.length := by omega
  refine AWp.exit (exit_here ?_)
  refine AWp.seq ?_
  refine AWp.nilChunk 257 ?_
  refine AWp.region ?_
  refine OpsW.pure rfl rfl (pureOp_move rfl) ?_
  refine OpsW.pure rfl rfl (pureOp_move rfl) ?_
  refine OpsW.w rfl rfl (allocOp_makeMap) ?_
  rintro _ _ ⟨b35, rfl, rfl⟩
  refine OpsW.pure rfl rfl (pureOp_nilCheck rfl) ?_
  refine OpsW.pure rfl rfl (pureOp_fieldAddr fa134_1 rfl) ?_
  refine OpsW.upd rfl rfl (by repeat (first | exact Pos.here | apply Pos.there)) (lop_store1 Try.sizeOf132 rfl rfl (by first | rfl | assumption | exact one_sl (by assumption)) (by first | rfl | assumption | (rw [List.length_map]; assumption) | (simp [*]; done) | (simp [*]; omega) | omega)) ?_
  rintro _ _ ⟨rfl, rfl⟩
  refine OpsW.pure rfl rfl (pureOp_nilCheck rfl) ?_
  refine OpsW.pure rfl rfl (pureOp_fieldAddr fa134_2 rfl) ?_
  refine OpsW.upd rfl rfl (by repeat (first | exact Pos.here | apply Pos.there)) (lop_store1 Try.sizeOf131 rfl rfl (by first | rfl | assumption | exact one_sl (by assumption)) (by first | rfl | assumption | (rw [List.length_map]; assumption) | (simp [*]; done) | (simp [*]; omega) | omega)) ?_
  rintro _ _ ⟨rfl, rfl⟩
  refine OpsW.nil ?_
  refine AWp.forget ?_ (sub_put (i := 0) rfl (sub_put (i := 1) rfl (sub_put (i := 5) rfl (sub_put (i := 11) rfl (sub_put (i := 12) rfl (sub_put (i := 13) rfl (sub_put (i := 14) rfl (sub_nil))))))))
  refine AWp.seq ?_
  refine AWp.region ?_
  refine OpsW.pure rfl rfl (pureOp_move rfl) ?_
  refine OpsW.pure rfl rfl (pureOp_assign rfl) ?_
  refine OpsW.nil ?_
  refine AWp.forget ?_ (sub_put (i := 0) rfl (sub_put (i := 1) rfl (sub_put (i := 4) rfl (sub_put (i := 5) rfl (sub_put (i := 11) rfl (sub_put (i := 12) rfl (sub_put (i := 13) rfl (sub_put (i := 14) rfl (sub_nil)))))))))
  refine AWp.ret ?_
  exact ⟨_, [.obj b _, .sl lv 256 _, .sl (.slice none 0 0) 257 _, .mp b35 _], _, Sel.perm (by repeat (first | exact Sel.nil | (apply Sel.cons; (repeat (first | exact Ext.here | apply Ext.there))))), res_tmp rfl rfl, b35, rfl, rfl⟩

set_option maxRecDepth 20000 in
set_option maxHeartbeats 1000000 in
theorem dflush1_c (i : Nat) (m : Mem) :
    Ctr Try.prog 85 [iV i] m [] (fun _ r L => r = .bool true ∧ L = []) := by
  refine Ctr.intro Try.func85 rfl Try.ntmps85 (by simp) fun w0 => ?_
  refine AWp.forget ?_ (sub_put (i := 0) rfl (sub_nil))
  refine AWp.seq ?_
  refine AWp.region ?_
  refine OpsW.pure rfl rfl (pureOp_assign rfl) ?_
  refine OpsW.nil ?_
  refine AWp.forget ?_ (sub_put (i := 2) rfl (sub_nil))
  refine AWp.seq ?_
  refine AWp.region ?_
  refine OpsW.pure rfl rfl (pureOp_assign rfl) ?_
  refine OpsW.nil ?_
  refine AWp.forget ?_ (sub_put (i := 2) rfl (sub_nil))
  refine AWp.ret ?_
  exact ⟨_, [], _, permNone, res_tmp rfl rfl, rfl, rfl⟩

set_option maxRecDepth 20000 in
set_option maxHeartbeats 1000000 in
theorem dcrash1_c (i bk : Nat) (kv : Value) (kl : List Bool) (m : Mem) (hb : m ⟨bk, 0, none⟩ kv) (hv : Rd m kv 1 (kl.map Value.bool)) :
    Ctr Try.prog 86 [iV i, .pointer (some ⟨bk, 0, none⟩)] m [] (fun _ r L => r = .bool (keepF kl i) ∧ L = []) := by
  have ho := hv.1
  refine Ctr.intro Try.func86 rfl Try.ntmps86 (by simp) fun w0 => ?_
  refine AWp.forget ?_ (sub_put (i := 0) rfl (sub_put (i := 1) rfl (sub_nil)))
  refine AWp.seq ?_
  refine AWp.region ?_
  refine OpsW.pure rfl rfl (pureOp_assign rfl) ?_
  refine OpsW.nil ?_
  refine AWp.forget ?_ (sub_put (i := 0) rfl (sub_put (i := 1) rfl (sub_put (i := 3) rfl (sub_nil))))
  refine AWp.seq ?_
  refine AWp.joinW (fun m' T' L' => ∃ bb : Bool, bb = keepF kl i ∧ m' = m ∧ T' = put (tnil) 3 (.bool bb) ∧ L' = []) ?_ ?_
  · skip
    refine AWp.region ?_
    refine OpsW.pure rfl rfl (pureOp_move rfl) ?_
    refine OpsW.load rfl rfl (loadOp_scal sc47 rfl (.inl hb)) ?_
    refine OpsW.pure rfl rfl (opN_len1 _ Try.underlying47 rfl (by assumption) (by simp; rfl)) ?_
    refine OpsW.pure rfl rfl (opN_lss rfl rfl) ?_
    refine OpsW.splitP (d := 7) rfl (fun h7 => ?_) (fun h7 => ?_)
    · skip
      refine OpsW.pure rfl rfl (pureOp_move rfl) ?_
      refine OpsW.load rfl rfl (loadOp_scal sc47 rfl (.inl hb)) ?_
      refine OpsW.pure rfl rfl (pureOp_move rfl) ?_
      refine OpsW.pure rfl rfl (opN_indexSl1 Try.underlying47 Try.sizeOf4 rfl (by assumption) rfl (by simp; omega)) ?_
      refine OpsW.load rfl rfl (loadOp_elem (u := .bool (kl.getD i false)) sc4 rfl (by first | exact Rd.ro (by assumption) | exact Rd.of_sl (by repeat (first | exact List.Mem.head _ | apply List.Mem.tail)) (by assumption)) (get_map (f := Value.bool) (by omega))) ?_
      refine OpsW.pure rfl rfl (pureOp_pick_true rfl rfl) ?_
      refine OpsW.pure rfl rfl (pureOp_assign rfl) ?_
      refine OpsW.nil ?_
      refine ⟨_, [], _, sub_put (i := 3) rfl (sub_nil), Sel.perm (by repeat (first | exact Sel.nil | (apply Sel.cons; (repeat (first | exact Ext.here | apply Ext.there))))), ?_⟩
      exact ⟨_, (by unfold keepF; first | rw [decide_eq_true h7, Bool.true_and] | rw [decide_eq_false h7, Bool.false_and]), rfl, rfl, rfl⟩
    · skip
      refine OpsW.pure rfl rfl (pureOp_move rfl) ?_
      refine OpsW.skipG rfl rfl ?_
      refine OpsW.skipG rfl rfl ?_
      refine OpsW.skipG rfl rfl ?_
      refine OpsW.skipG rfl rfl ?_
      refine OpsW.pure rfl rfl (pureOp_pick_false rfl rfl) ?_
      refine OpsW.pure rfl rfl (pureOp_assign rfl) ?_
      refine OpsW.nil ?_
      refine ⟨_, [], _, sub_put (i := 3) rfl (sub_nil), Sel.perm (by repeat (first | exact Sel.nil | (apply Sel.cons; (repeat (first | exact Ext.here | apply Ext.there))))), ?_⟩
      exact ⟨_, (by unfold keepF; first | rw [decide_eq_true h7, Bool.true_and] | rw [decide_eq_false h7, Bool.false_and]), rfl, rfl, rfl⟩
  rintro m _ _ ⟨bb, hbb, rfl, rfl, rfl⟩
  refine AWp.ret ?_
  exact ⟨_, [], _, permNone, res_tmp rfl rfl, by rw [hbb], rfl⟩

set_option maxRecDepth 20000 in
set_option maxHeartbeats 1000000 in
theorem dflush_c (b : Nat) (lv wv : Value) (mb : Nat) (D : Dk) (m : Mem) (h : DkI D lv wv) :
    Ctr Try.prog 23 [.pointer (some ⟨b, 0, none⟩)] m [.obj b [lv, wv, .map (some mb), .int .i64 D.steps, .int .i64 D.fuse, .bool D.down], .sl lv 256 (secC D.last), .sl wv 257 (wrC D.wait), .mp mb (mapC (nowL D.wait))] (fun _ r L => ∃ wv' mb', r = iV (flushF D).2 ∧ slOk wv' 257 (wrC (flushF D).1.wait) ∧ L = [.obj b [lv, wv', .map (some mb'), .int .i64 (flushF D).1.steps, .int .i64 (flushF D).1.fuse, .bool (flushF D).1.down], .sl lv 256 (secC (flushF D).1.last), .sl wv' 257 (wrC (flushF D).1.wait), .mp mb' (mapC (nowL (flushF D).1.wait))]) := by
  obtain ⟨hl, hw, ok⟩ := h
  have hlC := secC_length ok.sec
  have hwC := wrC_length ok.wait
  refine Ctr.intro Try.func23 rfl Try.ntmps23 (by simp) fun w0 => ?_
  refine AWp.forget ?_ (sub_put (i := 0) rfl (sub_nil))
  refine AWp.seq ?_
  refine AWp.region ?_
  refine OpsW.pure rfl rfl (pureOp_assign rfl) ?_
  refine OpsW.nil ?_
  refine AWp.forget ?_ (sub_put (i := 0) rfl (sub_put (i := 2) rfl (sub_nil)))
  refine AWp.seq ?_
  refine AWp.seq ?_
  refine AWp.region ?_
  refine OpsW.pure rfl rfl (pureOp_move rfl) ?_
  refine OpsW.callA rfl rfl (callOp Try.call83 rfl) (Sel.perm (L' := [.obj b _, .sl lv 256 _, .sl wv 257 _, .mp mb _]) (by repeat (first | exact Sel.nil | (apply Sel.cons; (repeat (first | exact Ext.here | apply Ext.there)))))) (dstep_c b lv wv mb D _ ⟨hl, hw, ok⟩) ?_
  rintro _ _ ⟨rfl, rfl⟩
  obtain ⟨D1, c, hS⟩ : ∃ D1 c, stepF D = (D1, c) := ⟨_, _, rfl⟩
  have ok1 := stepF_ok ok
  have hla := stepF_last D
  have hwa := stepF_wait D
  rw [hS] at ok1 hla hwa ⊢
  simp only at ok1 hla hwa ⊢
  refine OpsW.pure rfl rfl (pureOp_assign rfl) ?_
  refine OpsW.nil ?_
  refine AWp.forget ?_ (sub_put (i := 0) rfl (sub_put (i := 2) rfl (sub_put (i := 3) rfl (sub_nil))))
  refine AWp.seq ?_
  refine AWp.region ?_
  refine OpsW.pure rfl rfl (pureOp_move rfl) ?_
  refine OpsW.pure rfl rfl (opN_neq (b := 0) rfl rfl) ?_
  refine OpsW.nil ?_
  refine AWp.forget ?_ (sub_put (i := 0) rfl (sub_put (i := 2) rfl (sub_put (i := 3) rfl (sub_put (i := 7) rfl (sub_nil)))))
  refine AWp.condP rfl (fun ht7 => ?_) (fun ht7 => ?_)
  · skip
    refine AWp.seq ?_
    refine AWp.region ?_
    refine OpsW.pure rfl rfl (pureOp_move rfl) ?_
    refine OpsW.pure rfl rfl (pureOp_assign rfl) ?_
    refine OpsW.nil ?_
    refine AWp.forget ?_ (sub_put (i := 0) rfl (sub_put (i := 2) rfl (sub_put (i := 3) rfl (sub_put (i := 7) rfl (sub_nil)))))
    refine AWp.ret ?_
    have hff : flushF D = (D1, c) := by rw [flushF, hS, if_neg ht7]
    exact ⟨_, [.obj b _, .sl lv 256 _, .sl wv 257 _, .mp mb _], _, Sel.perm (by repeat (first | exact Sel.nil | (apply Sel.cons; (repeat (first | exact Ext.here | apply Ext.there))))), res_tmp rfl rfl, wv, mb, by rw [hff], by rw [hff]; show slOk wv 257 (wrC D1.wait); rw [hwa]; exact hw, by rw [hff]⟩
  refine AWp.skip ?_
  refine AWp.seq ?_
  obtain rfl : c = 0 := Decidable.of_not_not ht7
  have hI : DkI D1 lv wv := ⟨by rw [hla]; exact hl, by rw [hwa]; exact hw, ok1⟩
  refine AWp.region ?_
  refine OpsW.pure rfl rfl (pureOp_move rfl) ?_
  refine OpsW.callA rfl rfl (callOp Try.call84 rfl) (Sel.perm (L' := [.obj b _, .sl lv 256 _, .sl wv 257 _, .mp mb _]) (by repeat (first | exact Sel.nil | (apply Sel.cons; (repeat (first | exact Ext.here | apply Ext.there)))))) (dsettle_c b lv wv mb D1 85 [] (fun _ => true) _ hI Try.call85 (fun i _ => dflush1_c i _)) ?_
  rintro _ _ ⟨mb2, rfl, rfl⟩
  refine OpsW.nil ?_
  refine AWp.forget ?_ (sub_put (i := 0) rfl (sub_put (i := 2) rfl (sub_put (i := 3) rfl (sub_put (i := 7) rfl (sub_nil)))))
  refine AWp.seq ?_
  refine AWp.region ?_
  refine OpsW.pure rfl rfl (pureOp_assign rfl) ?_
  refine OpsW.nil ?_
  refine AWp.forget ?_ (sub_put (i := 0) rfl (sub_put (i := 2) rfl (sub_put (i := 3) rfl (sub_put (i := 7) rfl (sub_nil)))))
  refine AWp.ret ?_
  have hff : flushF D = (settleF D1 (fun _ => true), 0) := by rw [flushF, hS, if_pos rfl]
  exact ⟨_, [.obj b _, .sl lv 256 _, .sl (.slice none 0 0) 257 _, .mp mb2 _], _, Sel.perm (by repeat (first | exact Sel.nil | (apply Sel.cons; (repeat (first | exact Ext.here | apply Ext.there))))), res_tmp rfl rfl, _, mb2, by rw [hff]; rfl, by rw [hff]; exact .inl ⟨rfl, rfl⟩, by rw [hff]⟩

set_option maxRecDepth 20000 in
set_option maxHeartbeats 1000000 in
theorem dcrash_c (b : Nat) (lv wv : Value) (mb : Nat) (D : Dk) (kv : Value) (kl : List Bool) (m : Mem) (h : DkI D lv wv) (hk : Rd m kv 1 (kl.map Value.bool)) :
    Ctr Try.prog 26 [.pointer (some ⟨b, 0, none⟩), kv] m [.obj b [lv, wv, .map (some mb), .int .i64 D.steps, .int .i64 D.fuse, .bool D.down], .sl lv 256 (secC D.last), .sl wv 257 (wrC D.wait), .mp mb (mapC (nowL D.wait))] (fun _ r L => ∃ mb' c, r = iV c ∧ L = [.obj b [lv, (.slice none 0 0), .map (some mb'), .int .i64 (crashF D (keepF kl)).steps, .int .i64 (crashF D (keepF kl)).fuse, .bool (crashF D (keepF kl)).down], .sl lv 256 (secC (crashF D (keepF kl)).last), .sl (.slice none 0 0) 257 (wrC (crashF D (keepF kl)).wait), .mp mb' (mapC (nowL (crashF D (keepF kl)).wait))]) := by
  obtain ⟨hl, hw, ok⟩ := h
  have hlC := secC_length ok.sec
  have hwC := wrC_length ok.wait
  refine Ctr.intro Try.func26 rfl Try.ntmps26 (by simp) fun w0 => ?_
  refine AWp.forget ?_ (sub_put (i := 0) rfl (sub_put (i := 1) rfl (sub_nil)))
  refine AWp.seq ?_
  refine AWp.region ?_
  refine OpsW.alloc rfl rfl (allocOp_box rfl) ?_
  rintro _ _ ⟨b3, rfl, rfl⟩
  rw [one_cells (one_sl hk.1)]
  refine OpsW.pure rfl rfl (pureOp_assign rfl) ?_
  refine OpsW.nil ?_
  refine AWp.forget ?_ (sub_put (i := 0) rfl (sub_put (i := 1) rfl (sub_put (i := 3) rfl (sub_put (i := 4) rfl (sub_nil)))))
  refine AWp.seq ?_
  refine AWp.region ?_
  refine OpsW.pure rfl rfl (pureOp_move rfl) ?_
  refine OpsW.pure rfl rfl (pureOp_move rfl) ?_
  refine OpsW.pure rfl rfl (pureOp_nilCheck rfl) ?_
  refine OpsW.pure rfl rfl (pureOp_fieldAddr fa134_5 rfl) ?_
  refine OpsW.upd rfl rfl (by repeat (first | exact Pos.here | apply Pos.there)) (lop_store1 Try.sizeOf4 rfl rfl (by first | rfl | assumption | exact one_sl (by assumption)) (by first | rfl | assumption | (rw [List.length_map]; assumption) | (simp [*]; done) | (simp [*]; omega) | omega)) ?_
  rintro _ _ ⟨rfl, rfl⟩
  refine OpsW.pure rfl rfl (pureOp_nilCheck rfl) ?_
  refine OpsW.pure rfl rfl (pureOp_fieldAddr fa134_4 rfl) ?_
  refine OpsW.upd rfl rfl (by repeat (first | exact Pos.here | apply Pos.there)) (lop_store1 Try.sizeOf3 rfl rfl (by first | rfl | assumption | exact one_sl (by assumption)) (by first | rfl | assumption | (rw [List.length_map]; assumption) | (simp [*]; done) | (simp [*]; omega) | omega)) ?_
  rintro _ _ ⟨rfl, rfl⟩
  refine OpsW.nil ?_
  refine AWp.forget ?_ (sub_put (i := 0) rfl (sub_put (i := 1) rfl (sub_put (i := 3) rfl (sub_put (i := 4) rfl (sub_nil)))))
  refine AWp.seq ?_
  refine AWp.keep (L' := [.obj b3 _, .obj b _, .sl lv 256 _, .sl wv 257 _, .mp mb _]) (by repeat (first | exact Sel.nil | (apply Sel.cons; (repeat (first | exact Ext.here | apply Ext.there))))) ?_
  refine AWp.freeze (fun m1 hm1 hat => ?_)
  have hI : DkI { D with down := false, fuse := -1 } lv wv := ⟨hl, hw, ⟨ok.sec, ok.len, ok.wait, ok.few, show (-1 : Int) ≤ 1000000 by decide⟩⟩
  have hb3 : m1 ⟨b3, 0, none⟩ kv := hat _ _ ⟨0, rfl, rfl⟩
  have hk1 := hk.mono hm1
  refine AWp.region ?_
  refine OpsW.pure rfl rfl (pureOp_move rfl) ?_
  refine OpsW.pure rfl rfl (pureOp_makeFuncC rfl) ?_
  refine OpsW.callA rfl rfl (callOp Try.call84 rfl) (Sel.perm (L' := [.obj b _, .sl lv 256 _, .sl wv 257 _, .mp mb _]) (by repeat (first | exact Sel.nil | (apply Sel.cons; (repeat (first | exact Ext.here | apply Ext.there)))))) (dsettle_c b lv wv mb { D with down := false, fuse := -1 } 86 [.pointer (some ⟨b3, 0, none⟩)] (keepF kl) _ hI Try.call86 (fun i _ => dcrash1_c i b3 kv kl _ (.inl hb3) hk1.ro)) ?_
  rintro _ _ ⟨mb2, rfl, rfl⟩
  refine OpsW.pure rfl rfl (pureOp_assign rfl) ?_
  refine OpsW.nil ?_
  refine AWp.forget ?_ (sub_put (i := 0) rfl (sub_put (i := 1) rfl (sub_put (i := 3) rfl (sub_put (i := 4) rfl (sub_nil)))))
  refine AWp.ret ?_
  exact ⟨_, [.obj b _, .sl lv 256 _, .sl (.slice none 0 0) 257 _, .mp mb2 _], _, Sel.perm (by repeat (first | exact Sel.nil | (apply Sel.cons; (repeat (first | exact Ext.here | apply Ext.there))))), res_tmp rfl rfl, mb2, _, rfl, rfl⟩

set_option maxRecDepth 20000 in
set_option maxHeartbeats 1000000 in
theorem dfuse_c (b : Nat) (lv wv : Value) (mb : Nat) (D : Dk) (n : Int) (m : Mem) :
    Ctr Try.prog 24 [.pointer (some ⟨b, 0, none⟩), .int .i64 n] m [.obj b [lv, wv, .map (some mb), .int .i64 D.steps, .int .i64 D.fuse, .bool D.down], .sl lv 256 (secC D.last), .sl wv 257 (wrC D.wait), .mp mb (mapC (nowL D.wait))] (fun _ r L => r = .tuple #[] ∧ L = [.obj b [lv, wv, .map (some mb), .int .i64 (fuseF D n).steps, .int .i64 (fuseF D n).fuse, .bool (fuseF D n).down], .sl lv 256 (secC (fuseF D n).last), .sl wv 257 (wrC (fuseF D n).wait), .mp mb (mapC (nowL (fuseF D n).wait))]) := by
  refine Ctr.intro Try.func24 rfl Try.ntmps24 (by simp) fun w0 => ?_
  refine AWp.forget ?_ (sub_put (i := 0) rfl (sub_put (i := 1) rfl (sub_nil)))
  refine AWp.region ?_
  refine OpsW.pure rfl rfl (pureOp_move rfl) ?_
  refine OpsW.pure rfl rfl (pureOp_move rfl) ?_
  refine OpsW.pure rfl rfl (opZ_max rfl rfl) ?_
  refine OpsW.pure rfl rfl (pureOp_nilCheck rfl) ?_
  refine OpsW.pure rfl rfl (pureOp_fieldAddr fa134_4 rfl) ?_
  refine OpsW.upd rfl rfl (by repeat (first | exact Pos.here | apply Pos.there)) (lop_store1 Try.sizeOf3 rfl rfl (by first | rfl | assumption | exact one_sl (by assumption)) (by first | rfl | assumption | (rw [List.length_map]; assumption) | (simp [*]; done) | (simp [*]; omega) | omega)) ?_
  rintro _ _ ⟨rfl, rfl⟩
  refine OpsW.nil ?_
  exact ⟨_, [.obj b _, .sl lv 256 _, .sl wv 257 _, .mp mb _], _, Sel.perm (by repeat (first | exact Sel.nil | (apply Sel.cons; (repeat (first | exact Ext.here | apply Ext.there))))), res_none rfl, rfl, rfl⟩

set_option maxRecDepth 20000 in
set_option maxHeartbeats 1000000 in
theorem dwaits_c (b : Nat) (lv wv : Value) (mb : Nat) (D : Dk) (m : Mem) (h : DkI D lv wv) :
    Ctr Try.prog 81 [.pointer (some ⟨b, 0, none⟩)] m [.obj b [lv, wv, .map (some mb), .int .i64 D.steps, .int .i64 D.fuse, .bool D.down], .sl lv 256 (secC D.last), .sl wv 257 (wrC D.wait), .mp mb (mapC (nowL D.wait))] (fun _ r L => r = iV D.wait.length ∧ L = [.obj b [lv, wv, .map (some mb), .int .i64 D.steps, .int .i64 D.fuse, .bool D.down], .sl lv 256 (secC D.last), .sl wv 257 (wrC D.wait), .mp mb (mapC (nowL D.wait))]) := by
  obtain ⟨hl, hw, ok⟩ := h
  have hlC := secC_length ok.sec
  have hwC := wrC_length ok.wait
  refine Ctr.intro Try.func81 rfl Try.ntmps81 (by simp) fun w0 => ?_
  refine AWp.forget ?_ (sub_put (i := 0) rfl (sub_nil))
  refine AWp.seq ?_
  refine AWp.region ?_
  refine OpsW.pure rfl rfl (pureOp_assign rfl) ?_
  refine OpsW.nil ?_
  refine AWp.forget ?_ (sub_put (i := 0) rfl (sub_put (i := 2) rfl (sub_nil)))
  refine AWp.seq ?_
  refine AWp.region ?_
  refine OpsW.pure rfl rfl (pureOp_move rfl) ?_
  refine OpsW.pure rfl rfl (pureOp_nilCheck rfl) ?_
  refine OpsW.pure rfl rfl (pureOp_fieldAddr fa134_1 rfl) ?_
  refine OpsW.load rfl rfl (loadOp_obj (u := wv) sc132 rfl (by repeat (first | exact List.Mem.head _ | apply List.Mem.tail)) rfl) ?_
  refine OpsW.pure rfl rfl (pureOp_len (n := D.wait.length) Try.underlying132 rfl (by assumption) hwC (by decide)) ?_
  refine OpsW.pure rfl rfl (pureOp_assign rfl) ?_
  refine OpsW.nil ?_
  refine AWp.forget ?_ (sub_put (i := 0) rfl (sub_put (i := 2) rfl (sub_nil)))
  refine AWp.ret ?_
  exact ⟨_, [.obj b _, .sl lv 256 _, .sl wv 257 _, .mp mb _], _, Sel.perm (by repeat (first | exact Sel.nil | (apply Sel.cons; (repeat (first | exact Ext.here | apply Ext.there))))), res_tmp rfl rfl, rfl, rfl⟩

set_option maxRecDepth 20000 in
set_option maxHeartbeats 1000000 in
theorem dsize_c (b : Nat) (lv wv : Value) (mb : Nat) (D : Dk) (m : Mem) (h : DkI D lv wv) :
    Ctr Try.prog 90 [.pointer (some ⟨b, 0, none⟩)] m [.obj b [lv, wv, .map (some mb), .int .i64 D.steps, .int .i64 D.fuse, .bool D.down], .sl lv 256 (secC D.last), .sl wv 257 (wrC D.wait), .mp mb (mapC (nowL D.wait))] (fun _ r L => r = iV D.last.length ∧ L = [.obj b [lv, wv, .map (some mb), .int .i64 D.steps, .int .i64 D.fuse, .bool D.down], .sl lv 256 (secC D.last), .sl wv 257 (wrC D.wait), .mp mb (mapC (nowL D.wait))]) := by
  obtain ⟨hl, hw, ok⟩ := h
  have hlC := secC_length ok.sec
  have hwC := wrC_length ok.wait
  refine Ctr.intro Try.func90 rfl Try.ntmps90 (by simp) fun w0 => ?_
  refine AWp.forget ?_ (sub_put (i := 0) rfl (sub_nil))
  refine AWp.seq ?_
  refine AWp.region ?_
  refine OpsW.pure rfl rfl (pureOp_assign rfl) ?_
  refine OpsW.nil ?_
  refine AWp.forget ?_ (sub_put (i := 0) rfl (sub_put (i := 2) rfl (sub_nil)))
  refine AWp.seq ?_
  refine AWp.region ?_
  refine OpsW.pure rfl rfl (pureOp_move rfl) ?_
  refine OpsW.pure rfl rfl (pureOp_nilCheck rfl) ?_
  refine OpsW.pure rfl rfl (pureOp_fieldAddr fa134_0 rfl) ?_
  refine OpsW.load rfl rfl (loadOp_obj (u := lv) sc109 rfl (by repeat (first | exact List.Mem.head _ | apply List.Mem.tail)) rfl) ?_
  refine OpsW.pure rfl rfl (pureOp_len (n := D.last.length) Try.underlying109 rfl (by assumption) hlC (by decide)) ?_
  refine OpsW.pure rfl rfl (pureOp_assign rfl) ?_
  refine OpsW.nil ?_
  refine AWp.forget ?_ (sub_put (i := 0) rfl (sub_put (i := 2) rfl (sub_nil)))
  refine AWp.ret ?_
  exact ⟨_, [.obj b _, .sl lv 256 _, .sl wv 257 _, .mp mb _], _, Sel.perm (by repeat (first | exact Sel.nil | (apply Sel.cons; (repeat (first | exact Ext.here | apply Ext.there))))), res_tmp rfl rfl, rfl, rfl⟩

set_option maxRecDepth 20000 in
set_option maxHeartbeats 1000000 in
theorem ddown_c (b : Nat) (lv wv : Value) (mb : Nat) (D : Dk) (m : Mem) :
    Ctr Try.prog 47 [.pointer (some ⟨b, 0, none⟩)] m [.obj b [lv, wv, .map (some mb), .int .i64 D.steps, .int .i64 D.fuse, .bool D.down], .sl lv 256 (secC D.last), .sl wv 257 (wrC D.wait), .mp mb (mapC (nowL D.wait))] (fun _ r L => r = .bool D.down ∧ L = [.obj b [lv, wv, .map (some mb), .int .i64 D.steps, .int .i64 D.fuse, .bool D.down], .sl lv 256 (secC D.last), .sl wv 257 (wrC D.wait), .mp mb (mapC (nowL D.wait))]) := by
  refine Ctr.intro Try.func47 rfl Try.ntmps47 (by simp) fun w0 => ?_
  refine AWp.forget ?_ (sub_put (i := 0) rfl (sub_nil))
  refine AWp.seq ?_
  refine AWp.region ?_
  refine OpsW.pure rfl rfl (pureOp_assign rfl) ?_
  refine OpsW.nil ?_
  refine AWp.forget ?_ (sub_put (i := 0) rfl (sub_put (i := 2) rfl (sub_nil)))
  refine AWp.seq ?_
  refine AWp.region ?_
  refine OpsW.pure rfl rfl (pureOp_move rfl) ?_
  refine OpsW.pure rfl rfl (pureOp_nilCheck rfl) ?_
  refine OpsW.pure rfl rfl (pureOp_fieldAddr fa134_5 rfl) ?_
  refine OpsW.load rfl rfl (loadOp_obj sc4 rfl (by repeat (first | exact List.Mem.head _ | apply List.Mem.tail)) rfl) ?_
  refine OpsW.pure rfl rfl (pureOp_assign rfl) ?_
  refine OpsW.nil ?_
  refine AWp.forget ?_ (sub_put (i := 0) rfl (sub_put (i := 2) rfl (sub_nil)))
  refine AWp.ret ?_
  exact ⟨_, [.obj b _, .sl lv 256 _, .sl wv 257 _, .mp mb _], _, Sel.perm (by repeat (first | exact Sel.nil | (apply Sel.cons; (repeat (first | exact Ext.here | apply Ext.there))))), res_tmp rfl rfl, rfl, rfl⟩

set_option maxRecDepth 20000 in
set_option maxHeartbeats 1000000 in
theorem dsteps_c (b : Nat) (lv wv : Value) (mb : Nat) (D : Dk) (m : Mem) :
    Ctr Try.prog 60 [.pointer (some ⟨b, 0, none⟩)] m [.obj b [lv, wv, .map (some mb), .int .i64 D.steps, .int .i64 D.fuse, .bool D.down], .sl lv 256 (secC D.last), .sl wv 257 (wrC D.wait), .mp mb (mapC (nowL D.wait))] (fun _ r L => r = .int .i64 D.steps ∧ L = [.obj b [lv, wv, .map (some mb), .int .i64 D.steps, .int .i64 D.fuse, .bool D.down], .sl lv 256 (secC D.last), .sl wv 257 (wrC D.wait), .mp mb (mapC (nowL D.wait))]) := by
  refine Ctr.intro Try.func60 rfl Try.ntmps60 (by simp) fun w0 => ?_
  refine AWp.forget ?_ (sub_put (i := 0) rfl (sub_nil))
  refine AWp.seq ?_
  refine AWp.region ?_
  refine OpsW.pure rfl rfl (pureOp_assign rfl) ?_
  refine OpsW.nil ?_
  refine AWp.forget ?_ (sub_put (i := 0) rfl (sub_put (i := 2) rfl (sub_nil)))
  refine AWp.seq ?_
  refine AWp.region ?_
  refine OpsW.pure rfl rfl (pureOp_move rfl) ?_
  refine OpsW.pure rfl rfl (pureOp_nilCheck rfl) ?_
  refine OpsW.pure rfl rfl (pureOp_fieldAddr fa134_3 rfl) ?_
  refine OpsW.load rfl rfl (loadOp_obj sc3 rfl (by repeat (first | exact List.Mem.head _ | apply List.Mem.tail)) rfl) ?_
  refine OpsW.pure rfl rfl (pureOp_assign rfl) ?_
  refine OpsW.nil ?_
  refine AWp.forget ?_ (sub_put (i := 0) rfl (sub_put (i := 2) rfl (sub_nil)))
  refine AWp.ret ?_
  exact ⟨_, [.obj b _, .sl lv 256 _, .sl wv 257 _, .mp mb _], _, Sel.perm (by repeat (first | exact Sel.nil | (apply Sel.cons; (repeat (first | exact Ext.here | apply Ext.there))))), res_tmp rfl rfl, rfl, rfl⟩

end Go.Proofs.Ytpnipajadjeifaa.Sep
