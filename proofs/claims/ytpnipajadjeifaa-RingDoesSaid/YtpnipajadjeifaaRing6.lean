/- The walks of the reference 36 for Append, Drop, and of light. -/
import Derived.Test.YtpnipajadjeifaaRing5
import Derived.Test.YtpnipajadjeifaaRingD
import Derived.Test.YtpnipajadjeifaaProg
namespace Go.Proofs.Ytpnipajadjeifaa.Sep
open Go Go.RowKit
set_option linter.unusedVariables false
set_option linter.unusedSimpArgs false
theorem zt70 : ZeroT Try.prog 70 ([.int .i64 0, .int .i64 0, .slice none 0 0]) := ⟨_, Try.zeroValue70, rfl⟩
theorem fa70_2 : FieldAt Try.prog 70 2 2 := by
  intro b o w
  simp [Instr.fieldAt, Try.runUnderlying70, fieldPlace, Instr.sureAddr, Try.sizeOf68, add_mk]
theorem fa70_0 : FieldAt Try.prog 70 0 0 := by
  intro b o w
  simp [Instr.fieldAt, Try.runUnderlying70, fieldPlace, Instr.sureAddr, Try.sizeOf3, add_mk]
theorem fa70_1 : FieldAt Try.prog 70 1 1 := by
  intro b o w
  simp [Instr.fieldAt, Try.runUnderlying70, fieldPlace, Instr.sureAddr, Try.sizeOf3, add_mk]
theorem st70 : StructT Try.prog 70 [(0, 1), (1, 1), (2, 1)] ([.int .i64 0, .int .i64 0, .slice none 0 0]) := ⟨_, _, Try.runUnderlying70, Try.zeroValue70, rfl, by intro w; simp [Try.sizeOf3, Try.sizeOf68]⟩
theorem sc68 : Scal Try.prog 68 := ⟨Try.isAgg68, Try.sizeOf68⟩
theorem ag70 : AggT Try.prog 70 3 := ⟨Try.isAgg70, Try.sizeOf70⟩
theorem fa72_1 : FieldAt Try.prog 72 1 1 := by
  intro b o w
  simp [Instr.fieldAt, Try.runUnderlying72, fieldPlace, Instr.sureAddr, Try.sizeOf46, add_mk]


set_option maxRecDepth 20000 in
set_option maxHeartbeats 4000000 in
theorem rapp36_c (ms mt : Nat) (mv : Value) (mvs : List Value) (ml : List (List UInt8)) (bv : Value) (bs : List UInt8) (m : Mem) (hm : Rd m mv 1 mvs) (hmp : Parts m ml mvs) (hmt : mt ≤ 4000000000000) (hml : ml.length ≤ 4000000000000) (hb : Rd m bv 1 (bs.map bV)) (hbl : bs.length ≤ 1099511627776) :
    Ctr Try.prog 39 [.agg [iV ms, iV mt, mv].toArray, bv] m [] (fun _ r L => ∃ v' n' μ2, r = .tuple #[.agg (mC ms mt v').toArray, iV n', iV (c36 ms mt ml bs)] ∧ ((c36 ms mt ml bs ≠ 0 ∧ v' = mv ∧ n' = 0) ∨ (c36 ms mt ml bs = 0 ∧ n' = mt + ml.length ∧ Rd μ2 v' 1 (mvs ++ [bv]))) ∧ L = [.fz μ2]) := by
  have ho := hm.1
  have hob := hb.1
  have hon := one_sl ho
  have hbn := one_sl hob
  refine Ctr.intro Try.func39 rfl Try.ntmps39 (by simp) fun w0 => ?_
  refine AWp.forget ?_ (sub_put (i := 0) rfl (sub_put (i := 1) rfl (sub_nil)))
  refine AWp.seq ?_
  refine AWp.region ?_
  refine OpsW.alloc rfl rfl (allocOp_boxAgg rfl) ?_
  rintro _ _ ⟨b2, rfl, rfl⟩
  refine OpsW.alloc rfl rfl (allocOp_alloc zt70) ?_
  rintro _ _ ⟨b4, rfl, rfl⟩
  refine OpsW.pure rfl rfl (pureOp_assign rfl) ?_
  refine OpsW.pure rfl rfl (pureOp_assign rfl) ?_
  refine OpsW.nil ?_
  refine AWp.forget ?_ (sub_put (i := 0) rfl (sub_put (i := 1) rfl (sub_put (i := 2) rfl (sub_put (i := 4) rfl (sub_put (i := 5) rfl (sub_put (i := 6) rfl (sub_nil)))))))
  refine AWp.seq ?_
  refine AWp.seq ?_
  refine AWp.keep (L' := [.obj b2 _, .obj b4 _]) (by repeat (first | exact Sel.nil | (apply Sel.cons; (repeat (first | exact Ext.here | apply Ext.there))))) ?_
  refine AWp.freeze (fun m1 hm1 hat => ?_)
  have hm1r := hm.mono hm1
  have hmp1 := hmp.mono hm1
  have hb1 := hb.mono hm1
  refine AWp.region ?_
  refine OpsW.pure rfl rfl (pureOp_fieldAddr fa70_2 rfl) ?_
  refine OpsW.load rfl rfl (loadOp_scal sc68 rfl (.inl (hat _ _ ⟨2, rfl, rfl⟩))) ?_
  refine OpsW.pure rfl rfl (opN_len1 ml.length Try.underlying68 rfl (by assumption) hmp.len) ?_
  refine OpsW.pure rfl rfl (pureOp_fieldAddr fa70_0 rfl) ?_
  refine OpsW.load rfl rfl (loadOp_scal sc3 rfl (.inl (hat _ _ ⟨0, rfl, rfl⟩))) ?_
  refine OpsW.pure rfl rfl (opN_geq rfl rfl) ?_
  refine OpsW.nil ?_
  refine AWp.forget ?_ (sub_put (i := 0) rfl (sub_put (i := 1) rfl (sub_put (i := 2) rfl (sub_put (i := 4) rfl (sub_put (i := 5) rfl (sub_put (i := 6) rfl (sub_put (i := 16) rfl (sub_nil))))))))
  refine AWp.condP rfl (fun ht16 => ?_) (fun ht16 => ?_)
  · skip
    refine AWp.seq ?_
    refine AWp.fz0 ?_
    refine AWp.region ?_
    refine OpsW.load rfl rfl (loadOp_agg (cs := [iV ms, iV mt, mv]) ag70 rfl (fun j u hj => by rw [add_mk]; exact .inl (hat _ _ ⟨_, rfl, by rw [Nat.zero_add]; exact hj⟩))) ?_
    refine OpsW.upd rfl rfl (by repeat (first | exact Pos.here | apply Pos.there)) (lop_storeAllN 3 Try.sizeOf70 rfl rfl (by first | rfl | assumption | (rw [List.length_map]; assumption) | (simp [*]; done) | (simp [*]; omega) | omega) (by rfl) (by intro u hu; simp at hu; rcases hu with rfl | rfl | rfl <;> first | rfl | exact hon)) ?_
    rintro _ _ ⟨rfl, rfl⟩
    refine OpsW.pure rfl rfl (pureOp_assign rfl) ?_
    refine OpsW.pure rfl rfl (pureOp_assign rfl) ?_
    refine OpsW.nil ?_
    refine AWp.forget ?_ (sub_put (i := 0) rfl (sub_put (i := 1) rfl (sub_put (i := 2) rfl (sub_put (i := 4) rfl (sub_put (i := 5) rfl (sub_put (i := 6) rfl (sub_put (i := 16) rfl (sub_nil))))))))
    refine AWp.ret ?_
    have hc : c36 ms mt ml bs = 6 := if_pos ht16
    exact ⟨_, [.fz _], _, Sel.perm (by repeat (first | exact Sel.nil | (apply Sel.cons; (repeat (first | exact Ext.here | apply Ext.there))))), res_cell_tmp2 rfl rfl (by repeat (first | exact List.Mem.head _ | apply List.Mem.tail)) (by rfl) ag70 rfl rfl, mv, 0, _, by rw [hc]; rfl, .inl ⟨by rw [hc]; decide, rfl, rfl⟩, rfl⟩
  refine AWp.skip ?_
  refine AWp.seq ?_
  refine AWp.region ?_
  refine OpsW.pure rfl rfl (pureOp_fieldAddr fa70_1 rfl) ?_
  refine OpsW.load rfl rfl (loadOp_scal sc3 rfl (.inl (hat _ _ ⟨1, rfl, rfl⟩))) ?_
  refine OpsW.pure rfl rfl (pureOp_fieldAddr fa70_2 rfl) ?_
  refine OpsW.load rfl rfl (loadOp_scal sc68 rfl (.inl (hat _ _ ⟨2, rfl, rfl⟩))) ?_
  refine OpsW.pure rfl rfl (opN_len1 ml.length Try.underlying68 rfl (by assumption) hmp.len) ?_
  refine OpsW.pure rfl rfl (opN_add rfl rfl (by omega)) ?_
  refine OpsW.pure rfl rfl (pureOp_assign rfl) ?_
  refine OpsW.nil ?_
  refine AWp.forget ?_ (sub_put (i := 0) rfl (sub_put (i := 1) rfl (sub_put (i := 2) rfl (sub_put (i := 4) rfl (sub_put (i := 5) rfl (sub_put (i := 6) rfl (sub_put (i := 7) rfl (sub_put (i := 16) rfl (sub_nil)))))))))
  refine AWp.seq ?_
  refine AWp.seq ?_
  refine AWp.region ?_
  refine OpsW.pure rfl rfl (pureOp_move rfl) ?_
  refine OpsW.pure rfl rfl (pureOp_move rfl) ?_
  refine OpsW.callA rfl rfl (callOp Try.call30 rfl) permNone (rput36_c ((mt + ml.length : Nat) : Int) bv bs _ hb1.ro hbl) ?_
  rintro _ _ ⟨rfl, rfl⟩
  obtain ⟨s, e, hP⟩ : ∃ s e, putR ((mt + ml.length : Nat) : Int) bs = (s, e) := ⟨_, _, rfl⟩
  have hsl := putR_length ((mt + ml.length : Nat) : Int) bs
  rw [hP] at hsl ⊢
  dsimp only at hsl ⊢
  have hsm : (s.map bV).length = 256 := by rw [List.length_map]; exact hsl
  refine OpsW.pure rfl rfl (pureOp_move rfl) ?_
  refine OpsW.pure rfl rfl (pureOp_extract rfl rfl) ?_
  refine OpsW.pure rfl rfl (pureOp_extract rfl rfl) ?_
  refine OpsW.alloc rfl rfl (allocOp_alloc zt24) ?_
  rintro _ _ ⟨b8, rfl, rfl⟩
  refine OpsW.upd rfl rfl (by repeat (first | exact Pos.here | apply Pos.there)) (lop_storeAllN 256 Try.sizeOf24 rfl rfl List.length_replicate hsm (by first | exact one_map (fun _ => rfl) _ | exact one_rfl rfl | exact one_sup _ | (simp [one, *]; done))) ?_
  rintro _ _ ⟨rfl, rfl⟩
  refine OpsW.pure rfl rfl (pureOp_assign rfl) ?_
  refine OpsW.nil ?_
  refine AWp.forget ?_ (sub_put (i := 0) rfl (sub_put (i := 1) rfl (sub_put (i := 2) rfl (sub_put (i := 4) rfl (sub_put (i := 5) rfl (sub_put (i := 6) rfl (sub_put (i := 7) rfl (sub_put (i := 9) rfl (sub_put (i := 16) rfl (sub_nil))))))))))
  refine AWp.seq ?_
  refine AWp.region ?_
  refine OpsW.pure rfl rfl (pureOp_move rfl) ?_
  refine OpsW.pure rfl rfl (opN_neq (b := 0) rfl rfl) ?_
  refine OpsW.nil ?_
  refine AWp.forget ?_ (sub_put (i := 0) rfl (sub_put (i := 1) rfl (sub_put (i := 2) rfl (sub_put (i := 4) rfl (sub_put (i := 5) rfl (sub_put (i := 6) rfl (sub_put (i := 7) rfl (sub_put (i := 9) rfl (sub_put (i := 16) rfl (sub_put (i := 31) rfl (sub_nil)))))))))))
  refine AWp.condP rfl (fun ht31 => ?_) (fun ht31 => ?_)
  · skip
    refine AWp.seq ?_
    refine AWp.fz0 ?_
    refine AWp.region ?_
    refine OpsW.load rfl rfl (loadOp_agg (cs := [iV ms, iV mt, mv]) ag70 rfl (fun j u hj => by rw [add_mk]; exact .inl (hat _ _ ⟨_, rfl, by rw [Nat.zero_add]; exact hj⟩))) ?_
    refine OpsW.pure rfl rfl (pureOp_move rfl) ?_
    refine OpsW.upd rfl rfl (by repeat (first | exact Pos.here | apply Pos.there)) (lop_storeAllN 3 Try.sizeOf70 rfl rfl (by first | rfl | assumption | (rw [List.length_map]; assumption) | (simp [*]; done) | (simp [*]; omega) | omega) (by rfl) (by intro u hu; simp at hu; rcases hu with rfl | rfl | rfl <;> first | rfl | exact hon)) ?_
    rintro _ _ ⟨rfl, rfl⟩
    refine OpsW.pure rfl rfl (pureOp_assign rfl) ?_
    refine OpsW.pure rfl rfl (pureOp_assign rfl) ?_
    refine OpsW.nil ?_
    refine AWp.forget ?_ (sub_put (i := 0) rfl (sub_put (i := 1) rfl (sub_put (i := 2) rfl (sub_put (i := 4) rfl (sub_put (i := 5) rfl (sub_put (i := 6) rfl (sub_put (i := 7) rfl (sub_put (i := 9) rfl (sub_put (i := 16) rfl (sub_put (i := 31) rfl (sub_nil)))))))))))
    refine AWp.ret ?_
    have hc : c36 ms mt ml bs = e := by rw [c36, if_neg ht16, hP]
    exact ⟨_, [.fz _], _, Sel.perm (by repeat (first | exact Sel.nil | (apply Sel.cons; (repeat (first | exact Ext.here | apply Ext.there))))), res_cell_tmp2 rfl rfl (by repeat (first | exact List.Mem.head _ | apply List.Mem.tail)) (by rfl) ag70 rfl rfl, mv, 0, _, by rw [hc]; rfl, .inl ⟨by rw [hc]; exact ht31, rfl, rfl⟩, rfl⟩
  refine AWp.skip ?_
  refine AWp.seq ?_
  obtain rfl : e = 0 := Decidable.of_not_not ht31
  have hroom : ¬ ms ≤ ml.length := ht16
  refine AWp.region ?_
  refine OpsW.pure rfl rfl (pureOp_fieldAddr fa70_0 rfl) ?_
  refine OpsW.load rfl rfl (loadOp_scal sc3 rfl (.inl (hat _ _ ⟨0, rfl, rfl⟩))) ?_
  refine OpsW.pure rfl rfl (pureOp_fieldAddr fa70_1 rfl) ?_
  refine OpsW.load rfl rfl (loadOp_scal sc3 rfl (.inl (hat _ _ ⟨1, rfl, rfl⟩))) ?_
  refine OpsW.pure rfl rfl (opBuildStruct st70 rfl (.cons rfl (by first | rfl | (simp [Value.cells, *]; done)) (by first | exact Nat.le_of_ble_eq_true rfl | (simp [segs_length, *]; done)) (.cons rfl (by first | rfl | (simp [Value.cells, *]; done)) (by first | exact Nat.le_of_ble_eq_true rfl | (simp [segs_length, *]; done)) (.nil)))) ?_
  refine OpsW.alloc rfl rfl (allocOp_alloc zt70) ?_
  rintro _ _ ⟨b10, rfl, rfl⟩
  refine OpsW.upd rfl rfl (by repeat (first | exact Pos.here | apply Pos.there)) (lop_storeAllN 3 Try.sizeOf70 rfl rfl (by first | rfl | assumption | (rw [List.length_map]; assumption) | (simp [*]; done) | (simp [*]; omega) | omega) (by rfl) (by first | exact one_map (fun _ => rfl) _ | exact one_rfl rfl | exact one_sup _ | (simp [one, *]; done))) ?_
  rintro _ _ ⟨rfl, rfl⟩
  refine OpsW.nil ?_
  refine AWp.forget ?_ (sub_put (i := 0) rfl (sub_put (i := 1) rfl (sub_put (i := 2) rfl (sub_put (i := 4) rfl (sub_put (i := 5) rfl (sub_put (i := 6) rfl (sub_put (i := 7) rfl (sub_put (i := 9) rfl (sub_put (i := 10) rfl (sub_put (i := 16) rfl (sub_put (i := 31) rfl (sub_nil))))))))))))
  refine AWp.seq ?_
  refine AWp.keep (L' := [.obj b10 [iV ms, iV mt, .slice none 0 0], .obj b4 _]) (by repeat (first | exact Sel.nil | (apply Sel.cons; (repeat (first | exact Ext.here | apply Ext.there))))) ?_
  refine AWp.nilChunk 1 ?_
  refine AWp.region ?_
  refine OpsW.pure rfl rfl (pureOp_fieldAddr fa70_2 rfl) ?_
  refine OpsW.load rfl rfl (loadOp_obj sc68 rfl (by repeat (first | exact List.Mem.head _ | apply List.Mem.tail)) rfl) ?_
  refine OpsW.pure rfl rfl (pureOp_fieldAddr fa70_2 rfl) ?_
  refine OpsW.load rfl rfl (loadOp_scal sc68 rfl (.inl (hat _ _ ⟨2, rfl, rfl⟩))) ?_
  refine OpsW.upd rfl rfl (by repeat (first | exact Pos.here | apply Pos.there)) (lop_append (k := 0) slt68 ni68 rfl rfl (by rfl) (src_rd (n := ml.length) (by first | exact Rd.ro (by assumption) | exact Rd.of_sl (by repeat (first | exact List.Mem.head _ | apply List.Mem.tail)) (by assumption)) (by rw [hmp1.len, Nat.mul_one]) (by decide)) (by omega) hmp1.one (by decide) (by decide)) ?_
  rintro v43 _ ⟨hv43, rfl⟩
  rw [List.nil_append] at hv43 ⊢
  refine OpsW.pure rfl rfl (pureOp_fieldAddr fa70_2 rfl) ?_
  refine OpsW.upd rfl rfl (by repeat (first | exact Pos.here | apply Pos.there)) (lop_store1 Try.sizeOf68 rfl rfl (by first | rfl | assumption | exact one_sl (by assumption)) (by first | rfl | assumption | (rw [List.length_map]; assumption) | (simp [*]; done) | (simp [*]; omega) | omega)) ?_
  rintro _ _ ⟨rfl, rfl⟩
  refine OpsW.nil ?_
  refine AWp.forget ?_ (sub_put (i := 0) rfl (sub_put (i := 1) rfl (sub_put (i := 2) rfl (sub_put (i := 4) rfl (sub_put (i := 5) rfl (sub_put (i := 6) rfl (sub_put (i := 7) rfl (sub_put (i := 9) rfl (sub_put (i := 10) rfl (sub_put (i := 16) rfl (sub_put (i := 31) rfl (sub_nil))))))))))))
  refine AWp.seq ?_
  refine AWp.region ?_
  refine OpsW.pure rfl rfl (pureOp_fieldAddr fa70_2 rfl) ?_
  refine OpsW.load rfl rfl (loadOp_obj sc68 rfl (by repeat (first | exact List.Mem.head _ | apply List.Mem.tail)) rfl) ?_
  refine OpsW.pure rfl rfl (pureOp_move rfl) ?_
  refine OpsW.alloc rfl rfl (allocOp_buildSlice slt68 rfl rfl (fun u hu => by rw [List.mem_singleton.1 hu]; exact size_sl hob) (by decide)) ?_
  rintro v48 _ ⟨hv48, hn48, rfl⟩
  rw [show List.flatMap (fun x : Value => x.cells.toList) [bv] = [bv] from by simp [cells_sl hob]] at hv48 ⊢
  refine OpsW.upd rfl rfl (by repeat (first | exact Pos.here | apply Pos.there)) (lop_append (k := ml.length) slt68 ni68 rfl rfl (by rw [hmp1.len, Nat.mul_one]) (src_rd (n := 1) (by first | exact Rd.ro (by assumption) | exact Rd.of_sl (by repeat (first | exact List.Mem.head _ | apply List.Mem.tail)) (by assumption)) rfl (by decide)) (by omega) (by intro u hu; rw [List.mem_singleton.1 hu]; exact hbn) (by decide) (by decide)) ?_
  rintro v49 _ ⟨hv49, rfl⟩
  refine OpsW.pure rfl rfl (pureOp_fieldAddr fa70_2 rfl) ?_
  refine OpsW.upd rfl rfl (by repeat (first | exact Pos.here | apply Pos.there)) (lop_store1 Try.sizeOf68 rfl rfl (by first | rfl | assumption | exact one_sl (by assumption)) (by first | rfl | assumption | (rw [List.length_map]; assumption) | (simp [*]; done) | (simp [*]; omega) | omega)) ?_
  rintro _ _ ⟨rfl, rfl⟩
  refine OpsW.nil ?_
  refine AWp.forget ?_ (sub_put (i := 0) rfl (sub_put (i := 1) rfl (sub_put (i := 2) rfl (sub_put (i := 4) rfl (sub_put (i := 5) rfl (sub_put (i := 6) rfl (sub_put (i := 7) rfl (sub_put (i := 9) rfl (sub_put (i := 10) rfl (sub_put (i := 16) rfl (sub_put (i := 31) rfl (sub_nil))))))))))))
  refine AWp.seq ?_
  refine AWp.fz0 ?_
  refine AWp.keep (L' := [.sl v49 1 _, .fz _, .obj b10 _, .obj b4 _]) (by repeat (first | exact Sel.nil | (apply Sel.cons; (repeat (first | exact Ext.here | apply Ext.there))))) ?_
  refine AWp.gather ?_
  have hr49 : Rd (fun z u => False ∨ (Chunk.sl v49 1 (mvs ++ [bv])).at z u) v49 1 (mvs ++ [bv]) := Rd.of_at hv49 fun z u h => .inr h
  refine AWp.region ?_
  refine OpsW.load rfl rfl (loadAll rfl (by repeat (first | exact List.Mem.head _ | apply List.Mem.tail)) (by first | rfl | assumption | (rw [List.length_map]; assumption) | (simp [*]; done) | (simp [*]; omega) | omega) ag70) ?_
  refine OpsW.pure rfl rfl (pureOp_move rfl) ?_
  refine OpsW.upd rfl rfl (by repeat (first | exact Pos.here | apply Pos.there)) (lop_storeAllN 3 Try.sizeOf70 rfl rfl (by first | rfl | assumption | (rw [List.length_map]; assumption) | (simp [*]; done) | (simp [*]; omega) | omega) (by rfl) (by intro u hu; simp at hu; rcases hu with rfl | rfl | rfl <;> first | rfl | exact one_sl hv49)) ?_
  rintro _ _ ⟨rfl, rfl⟩
  refine OpsW.pure rfl rfl (pureOp_assign rfl) ?_
  refine OpsW.pure rfl rfl (pureOp_assign rfl) ?_
  refine OpsW.nil ?_
  refine AWp.forget ?_ (sub_put (i := 0) rfl (sub_put (i := 1) rfl (sub_put (i := 2) rfl (sub_put (i := 4) rfl (sub_put (i := 5) rfl (sub_put (i := 6) rfl (sub_put (i := 7) rfl (sub_put (i := 9) rfl (sub_put (i := 10) rfl (sub_put (i := 16) rfl (sub_put (i := 31) rfl (sub_nil))))))))))))
  refine AWp.ret ?_
  have hc : c36 ms mt ml bs = 0 := by rw [c36, if_neg hroom, hP]
  exact ⟨_, [.fz _], _, Sel.perm (by repeat (first | exact Sel.nil | (apply Sel.cons; (repeat (first | exact Ext.here | apply Ext.there))))), res_cell_tmp2 rfl rfl (by repeat (first | exact List.Mem.head _ | apply List.Mem.tail)) (by rfl) ag70 rfl rfl, v49, mt + ml.length, _, by rw [hc]; rfl, .inr ⟨hc, rfl, hr49⟩, rfl⟩

set_option maxRecDepth 20000 in
set_option maxHeartbeats 4000000 in
theorem rdrop36_c (ms mt : Nat) (mv : Value) (mvs : List Value) (ml : List (List UInt8)) (to : Nat) (m : Mem) (hm : Rd m mv 1 mvs) (hmp : Parts m ml mvs) (hmt : mt ≤ 4000000000000) (hml : ml.length ≤ 4000000000000) (hto : to ≤ 4000000000000) :
    Ctr Try.prog 37 [.agg [iV ms, iV mt, mv].toArray, iV to] m [] (fun _ r L => ∃ v', r = .tuple #[.agg (mC ms (mt + q36 mt ml to) v').toArray, iV (q36 mt ml to)] ∧ Rd m v' 1 (mvs.drop (q36 mt ml to)) ∧ L = []) := by
  have ho := hm.1
  have hon := one_sl ho
  refine Ctr.intro Try.func37 rfl Try.ntmps37 (by simp) fun w0 => ?_
  refine AWp.forget ?_ (sub_put (i := 0) rfl (sub_put (i := 1) rfl (sub_nil)))
  refine AWp.seq ?_
  refine AWp.region ?_
  refine OpsW.alloc rfl rfl (allocOp_boxAgg rfl) ?_
  rintro _ _ ⟨b2, rfl, rfl⟩
  refine OpsW.alloc rfl rfl (allocOp_alloc zt70) ?_
  rintro _ _ ⟨b4, rfl, rfl⟩
  refine OpsW.pure rfl rfl (pureOp_assign rfl) ?_
  refine OpsW.nil ?_
  refine AWp.forget ?_ (sub_put (i := 0) rfl (sub_put (i := 1) rfl (sub_put (i := 2) rfl (sub_put (i := 4) rfl (sub_put (i := 5) rfl (sub_nil))))))
  refine AWp.seq ?_
  refine AWp.region ?_
  refine OpsW.load rfl rfl (loadAll rfl (by repeat (first | exact List.Mem.head _ | apply List.Mem.tail)) (by rfl) ag70) ?_
  refine OpsW.alloc rfl rfl (allocOp_alloc zt70) ?_
  rintro _ _ ⟨b6, rfl, rfl⟩
  refine OpsW.upd rfl rfl (by repeat (first | exact Pos.here | apply Pos.there)) (lop_storeAllN 3 Try.sizeOf70 rfl rfl (by first | rfl | assumption | (rw [List.length_map]; assumption) | (simp [*]; done) | (simp [*]; omega) | omega) (by rfl) (by intro u hu; simp at hu; rcases hu with rfl | rfl | rfl <;> first | rfl | exact hon)) ?_
  rintro _ _ ⟨rfl, rfl⟩
  refine OpsW.nil ?_
  refine AWp.forget ?_ (sub_put (i := 0) rfl (sub_put (i := 1) rfl (sub_put (i := 2) rfl (sub_put (i := 4) rfl (sub_put (i := 5) rfl (sub_put (i := 6) rfl (sub_nil)))))))
  refine AWp.seq ?_
  refine AWp.region ?_
  refine OpsW.pure rfl rfl (pureOp_assign rfl) ?_
  refine OpsW.nil ?_
  refine AWp.forget ?_ (sub_put (i := 0) rfl (sub_put (i := 1) rfl (sub_put (i := 2) rfl (sub_put (i := 4) rfl (sub_put (i := 5) rfl (sub_put (i := 6) rfl (sub_put (i := 7) rfl (sub_nil))))))))
  refine AWp.seq ?_
  refine AWp.block ?_
  refine AWp.forget ?_ (sub_put (i := 1) rfl (sub_put (i := 4) rfl (sub_put (i := 6) rfl (sub_put (i := 7) rfl (sub_nil)))))
  refine AWp.keep (L' := [.obj b6 _, .obj b4 _]) (by repeat (first | exact Sel.nil | (apply Sel.cons; (repeat (first | exact Ext.here | apply Ext.there))))) ?_
  obtain ⟨q, hq⟩ : ∃ q, q = q36 mt ml to := ⟨_, rfl⟩
  have hq2 := hq
  unfold q36 at hq2
  rw [← hq]
  refine AWp.loop (fun N m' T' L' => ∃ (k : Nat) (vv : Value), N = q36 mt ml to - k ∧ k ≤ q36 mt ml to ∧ Rd m vv 1 (mvs.drop k) ∧ m' = m ∧ T' = put (put (put (put (tnil) 7 (iV k)) 6 (.pointer (some ⟨b6, 0, none⟩))) 4 (.pointer (some ⟨b4, 0, none⟩))) 1 (iV to) ∧ L' = [.obj b6 [iV ms, iV (mt + k), vv], .obj b4 [iV 0, iV 0, .slice none 0 0]]) _ (⟨0, mv, rfl, Nat.zero_le _, hm, rfl, rfl, rfl⟩) ?_
  rintro _ m _ _ ⟨k, vv, rfl, hk, hvv, rfl, rfl, rfl⟩
  have hov := hvv.1
  have hvn := one_sl hov
  have hdl : (mvs.drop k).length = ml.length - k := by rw [List.length_drop, hmp.len]
  refine AWp.seq ?_
  refine AWp.seq ?_
  refine AWp.joinW (fun m' T' L' => ∃ bb : Bool, (bb = true ↔ k < q) ∧ m' = m ∧ T' = put (put (put (put (put (tnil) 18 (.bool bb)) 7 (iV k)) 6 (.pointer (some ⟨b6, 0, none⟩))) 4 (.pointer (some ⟨b4, 0, none⟩))) 1 (iV to) ∧ L' = [.obj b6 [iV ms, iV (mt + k), vv], .obj b4 [iV 0, iV 0, .slice none 0 0]]) ?_ ?_
  · skip
    refine AWp.region ?_
    refine OpsW.pure rfl rfl (pureOp_fieldAddr fa70_2 rfl) ?_
    refine OpsW.load rfl rfl (loadOp_obj sc68 rfl (by repeat (first | exact List.Mem.head _ | apply List.Mem.tail)) rfl) ?_
    refine OpsW.pure rfl rfl (opN_len1 (ml.length - k) Try.underlying68 rfl (by assumption) hdl) ?_
    refine OpsW.pure rfl rfl (opN_gtr (b := 0) rfl rfl) ?_
    refine OpsW.splitP (d := 12) rfl (fun h12 => ?_) (fun h12 => ?_)
    · skip
      refine OpsW.pure rfl rfl (pureOp_move rfl) ?_
      refine OpsW.pure rfl rfl (pureOp_fieldAddr fa70_1 rfl) ?_
      refine OpsW.load rfl rfl (loadOp_obj sc3 rfl (by repeat (first | exact List.Mem.head _ | apply List.Mem.tail)) rfl) ?_
      refine OpsW.pure rfl rfl (pureOp_move rfl) ?_
      refine OpsW.pure rfl rfl (opN_lss rfl rfl) ?_
      refine OpsW.pure rfl rfl (pureOp_pick_true rfl rfl) ?_
      refine OpsW.nil ?_
      refine ⟨_, [.obj b6 _, .obj b4 _], _, sub_put (i := 1) rfl (sub_put (i := 4) rfl (sub_put (i := 6) rfl (sub_put (i := 7) rfl (sub_put (i := 18) rfl (sub_nil))))), Sel.perm (by repeat (first | exact Sel.nil | (apply Sel.cons; (repeat (first | exact Ext.here | apply Ext.there))))), ?_⟩
      exact ⟨_, (by constructor <;> intro h <;> first | (cases h; done) | (have := of_decide_eq_true h; omega) | (apply decide_eq_true; omega) | (exfalso; omega)), rfl, rfl, rfl⟩
    · skip
      refine OpsW.pure rfl rfl (pureOp_move rfl) ?_
      refine OpsW.skipG rfl rfl ?_
      refine OpsW.skipG rfl rfl ?_
      refine OpsW.skipG rfl rfl ?_
      refine OpsW.skipG rfl rfl ?_
      refine OpsW.pure rfl rfl (pureOp_pick_false rfl rfl) ?_
      refine OpsW.nil ?_
      refine ⟨_, [.obj b6 _, .obj b4 _], _, sub_put (i := 1) rfl (sub_put (i := 4) rfl (sub_put (i := 6) rfl (sub_put (i := 7) rfl (sub_put (i := 18) rfl (sub_nil))))), Sel.perm (by repeat (first | exact Sel.nil | (apply Sel.cons; (repeat (first | exact Ext.here | apply Ext.there))))), ?_⟩
      exact ⟨_, (by constructor <;> intro h <;> first | (cases h; done) | (have := of_decide_eq_true h; omega) | (apply decide_eq_true; omega) | (exfalso; omega)), rfl, rfl, rfl⟩
  rintro m _ _ ⟨bb, hbb, rfl, rfl, rfl⟩
  refine AWp.cond rfl (fun ht18 => ?_) (fun ht18 => ?_)
  refine AWp.skip ?_
  refine AWp.block ?_
  refine AWp.seq ?_
  have hkq : k < q := hbb.1 ht18
  have hcut := slc_drop hvv hdl (by omega)
  rw [List.drop_drop] at hcut
  refine AWp.region ?_
  refine OpsW.pure rfl rfl (pureOp_fieldAddr fa70_2 rfl) ?_
  refine OpsW.load rfl rfl (loadOp_obj sc68 rfl (by repeat (first | exact List.Mem.head _ | apply List.Mem.tail)) rfl) ?_
  refine OpsW.pure rfl rfl (pureOp_slice (n := (ml.length - k)) (1) ((ml.length - k)) Try.underlying68 Try.sizeOf46 rfl (by assumption) (by rw [hdl, Nat.mul_one]) (by decide) (.inr ⟨_, _, _, rfl, rfl, rfl⟩) (.inl ⟨rfl, rfl⟩) (by omega) (by omega)) ?_
  refine OpsW.pure rfl rfl (pureOp_fieldAddr fa70_2 rfl) ?_
  refine OpsW.upd rfl rfl (by repeat (first | exact Pos.here | apply Pos.there)) (lop_store1 Try.sizeOf68 rfl rfl (one_sl hcut.1) (by show 2 < 3; decide)) ?_
  rintro _ _ ⟨rfl, rfl⟩
  refine OpsW.nil ?_
  refine AWp.forget ?_ (sub_put (i := 1) rfl (sub_put (i := 4) rfl (sub_put (i := 6) rfl (sub_put (i := 7) rfl (sub_put (i := 18) rfl (sub_nil))))))
  refine AWp.seq ?_
  refine AWp.region ?_
  refine OpsW.pure rfl rfl (pureOp_fieldAddr fa70_1 rfl) ?_
  refine OpsW.load rfl rfl (loadOp_obj sc3 rfl (by repeat (first | exact List.Mem.head _ | apply List.Mem.tail)) rfl) ?_
  refine OpsW.pure rfl rfl (opN_add (b := 1) rfl rfl (by omega)) ?_
  refine OpsW.pure rfl rfl (pureOp_fieldAddr fa70_1 rfl) ?_
  refine OpsW.upd rfl rfl (by repeat (first | exact Pos.here | apply Pos.there)) (lop_store1 Try.sizeOf3 rfl rfl (by first | rfl | assumption | exact one_sl (by assumption)) (by first | rfl | assumption | (rw [List.length_map]; assumption) | (simp [*]; done) | (simp [*]; omega) | omega)) ?_
  rintro _ _ ⟨rfl, rfl⟩
  refine OpsW.nil ?_
  refine AWp.forget ?_ (sub_put (i := 1) rfl (sub_put (i := 4) rfl (sub_put (i := 6) rfl (sub_put (i := 7) rfl (sub_put (i := 18) rfl (sub_nil))))))
  refine AWp.region ?_
  refine OpsW.pure rfl rfl (pureOp_move rfl) ?_
  refine OpsW.pure rfl rfl (opN_add (b := 1) rfl rfl (by omega)) ?_
  refine OpsW.pure rfl rfl (pureOp_assign rfl) ?_
  refine OpsW.forget ?_ (sub_put (i := 1) rfl (sub_put (i := 4) rfl (sub_put (i := 6) rfl (sub_put (i := 7) rfl (sub_nil)))))
  refine OpsW.keep (L' := [.obj b6 _, .obj b4 _]) (by repeat (first | exact Sel.nil | (apply Sel.cons; (repeat (first | exact Ext.here | apply Ext.there))))) ?_
  refine OpsW.nil ?_
  exact ⟨_, by omega, k + 1, slc vv 1 (ml.length - k) 1, rfl, by omega, hcut, rfl, rfl, rfl⟩
  refine AWp.exit (exit_here ?_)
  refine AWp.seq ?_
  have hkq : k = q := by
    have h9 : ¬ k < q := fun h => by rw [hbb.2 h] at ht18; cases ht18
    omega
  subst hkq
  refine AWp.region ?_
  refine OpsW.load rfl rfl (loadAll rfl (by repeat (first | exact List.Mem.head _ | apply List.Mem.tail)) (by rfl) ag70) ?_
  refine OpsW.pure rfl rfl (pureOp_move rfl) ?_
  refine OpsW.upd rfl rfl (by repeat (first | exact Pos.here | apply Pos.there)) (lop_storeAllN 3 Try.sizeOf70 rfl rfl (by first | rfl | assumption | (rw [List.length_map]; assumption) | (simp [*]; done) | (simp [*]; omega) | omega) (by rfl) (by intro u hu; simp at hu; rcases hu with rfl | rfl | rfl <;> first | rfl | exact hvn)) ?_
  rintro _ _ ⟨rfl, rfl⟩
  refine OpsW.pure rfl rfl (pureOp_assign rfl) ?_
  refine OpsW.nil ?_
  refine AWp.forget ?_ (sub_put (i := 1) rfl (sub_put (i := 4) rfl (sub_put (i := 5) rfl (sub_put (i := 6) rfl (sub_put (i := 7) rfl (sub_put (i := 18) rfl (sub_nil)))))))
  refine AWp.ret ?_
  exact ⟨_, [], _, permNone, resCellTmp rfl rfl (by repeat (first | exact List.Mem.head _ | apply List.Mem.tail)) (by rfl) ag70 rfl, vv, rfl, hvv, rfl⟩

set_option maxRecDepth 20000 in
set_option maxHeartbeats 2000000 in
theorem light36_c (v : Value) (l : List Act36) (m : Mem) (hl : ActsOk m v l) :
    Ctr Try.prog 34 [v] m [] (fun _ r L => r = .bool (lightB l) ∧ L = []) := by
  have ho := hl.rd.1
  have hrd := hl.rd
  refine Ctr.intro Try.func34 rfl Try.ntmps34 (by simp) fun w0 => ?_
  refine AWp.forget ?_ (sub_put (i := 0) rfl (sub_nil))
  refine AWp.seq ?_
  refine AWp.region ?_
  refine OpsW.pure rfl rfl (pureOp_assign rfl) ?_
  refine OpsW.nil ?_
  refine AWp.forget ?_ (sub_put (i := 0) rfl (sub_put (i := 2) rfl (sub_nil)))
  refine AWp.seq ?_
  refine AWp.seq ?_
  refine AWp.region ?_
  refine OpsW.pure rfl rfl (pureOp_move rfl) ?_
  refine OpsW.pure rfl rfl (pureOp_len (n := l.length) Try.underlying63 rfl (by assumption) (actsC_length l) (by decide)) ?_
  refine OpsW.pure rfl rfl (opN_gtr (b := 60) rfl rfl) ?_
  refine OpsW.nil ?_
  refine AWp.forget ?_ (sub_put (i := 0) rfl (sub_put (i := 2) rfl (sub_put (i := 6) rfl (sub_nil))))
  refine AWp.condP rfl (fun ht6 => ?_) (fun ht6 => ?_)
  · skip
    refine AWp.seq ?_
    refine AWp.region ?_
    refine OpsW.pure rfl rfl (pureOp_assign rfl) ?_
    refine OpsW.nil ?_
    refine AWp.forget ?_ (sub_put (i := 0) rfl (sub_put (i := 2) rfl (sub_put (i := 6) rfl (sub_nil))))
    refine AWp.ret ?_
    exact ⟨_, [], _, permNone, res_tmp rfl rfl, by rw [light_far ht6], rfl⟩
  refine AWp.skip ?_
  refine AWp.seq ?_
  refine AWp.seq ?_
  refine AWp.region ?_
  refine OpsW.pure rfl rfl (pureOp_assign rfl) ?_
  refine OpsW.nil ?_
  refine AWp.forget ?_ (sub_put (i := 0) rfl (sub_put (i := 2) rfl (sub_put (i := 3) rfl (sub_put (i := 6) rfl (sub_nil)))))
  refine AWp.block ?_
  refine AWp.forget ?_ (sub_put (i := 0) rfl (sub_put (i := 3) rfl (sub_nil)))
  refine AWp.loop (fun N m' T' L' => ∃ i : Nat, N = l.length - i ∧ i ≤ l.length ∧ (∀ j, j < i → (l.getD j act0).b.length ≤ 300) ∧ m' = m ∧ T' = put (put (tnil) 3 (iV i)) 0 (v) ∧ L' = []) _ (⟨0, rfl, Nat.zero_le _, fun j hj => absurd hj (Nat.not_lt_zero _), rfl, rfl, rfl⟩) ?_
  rintro _ m _ _ ⟨i, rfl, hi, hall, rfl, rfl, rfl⟩
  refine AWp.seq ?_
  refine AWp.seq ?_
  refine AWp.region ?_
  refine OpsW.pure rfl rfl (pureOp_move rfl) ?_
  refine OpsW.pure rfl rfl (pureOp_move rfl) ?_
  refine OpsW.pure rfl rfl (pureOp_len (n := l.length) Try.underlying63 rfl (by assumption) (actsC_length l) (by decide)) ?_
  refine OpsW.pure rfl rfl (opN_lss rfl rfl) ?_
  refine OpsW.nil ?_
  refine AWp.forget ?_ (sub_put (i := 0) rfl (sub_put (i := 3) rfl (sub_put (i := 10) rfl (sub_nil))))
  refine AWp.condP rfl (fun ht10 => ?_) (fun ht10 => ?_)
  refine AWp.skip ?_
  refine AWp.seq ?_
  refine AWp.block ?_
  refine AWp.seq ?_
  have hbv := (hl.part _ (getD_mem (show i < l.length by omega))).1
  refine AWp.region ?_
  refine OpsW.pure rfl rfl (pureOp_move rfl) ?_
  refine OpsW.pure rfl rfl (pureOp_move rfl) ?_
  refine OpsW.pure rfl rfl (opN_indexSl (n := l.length) Try.underlying63 Try.sizeOf72 rfl (by assumption) (actsC_length l) (by decide) rfl (by omega)) ?_
  refine OpsW.pure rfl rfl (pureOp_fieldElem fa72_1 rfl ho (by rw [actsC_length]; omega)) ?_
  refine OpsW.load rfl rfl (loadOp_elem (u := (l.getD i act0).bv) sc46 rfl (by first | exact Rd.ro (by assumption) | exact Rd.of_sl (by repeat (first | exact List.Mem.head _ | apply List.Mem.tail)) (by assumption)) ((actsC_get l i 1 (by omega) (by decide)).trans rfl)) ?_
  refine OpsW.pure rfl rfl (opN_len1 (l.getD i act0).b.length Try.underlying46 rfl (by assumption) (List.length_map ..)) ?_
  refine OpsW.pure rfl rfl (opN_gtr (b := 300) rfl rfl) ?_
  refine OpsW.nil ?_
  refine AWp.forget ?_ (sub_put (i := 0) rfl (sub_put (i := 3) rfl (sub_put (i := 10) rfl (sub_put (i := 19) rfl (sub_nil)))))
  refine AWp.condP rfl (fun ht19 => ?_) (fun ht19 => ?_)
  · skip
    refine AWp.seq ?_
    refine AWp.region ?_
    refine OpsW.pure rfl rfl (pureOp_assign rfl) ?_
    refine OpsW.nil ?_
    refine AWp.forget ?_ (sub_put (i := 0) rfl (sub_put (i := 2) rfl (sub_put (i := 3) rfl (sub_put (i := 10) rfl (sub_put (i := 19) rfl (sub_nil))))))
    refine AWp.ret ?_
    exact ⟨_, [], _, permNone, res_tmp rfl rfl, by rw [light_long (by omega) ht19], rfl⟩
  refine AWp.skip ?_
  have hall2 : ∀ j, j < i + 1 → (l.getD j act0).b.length ≤ 300 := fun j hj => by
    rcases Nat.lt_or_ge j i with h | h
    · exact hall j h
    · obtain rfl : j = i := by omega
      exact Nat.le_of_not_lt ht19
  refine AWp.region ?_
  refine OpsW.pure rfl rfl (pureOp_move rfl) ?_
  refine OpsW.pure rfl rfl (opN_add (b := 1) rfl rfl (by omega)) ?_
  refine OpsW.pure rfl rfl (pureOp_assign rfl) ?_
  refine OpsW.forget ?_ (sub_put (i := 0) rfl (sub_put (i := 3) rfl (sub_nil)))
  refine OpsW.keep (L' := []) (by repeat (first | exact Sel.nil | (apply Sel.cons; (repeat (first | exact Ext.here | apply Ext.there))))) ?_
  refine OpsW.nil ?_
  exact ⟨_, by omega, i + 1, rfl, by omega, hall2, rfl, rfl, rfl⟩
  obtain rfl : i = l.length := by omega
  refine AWp.exit (exit_here ?_)
  refine AWp.seq ?_
  refine AWp.region ?_
  refine OpsW.pure rfl rfl (pureOp_assign rfl) ?_
  refine OpsW.nil ?_
  refine AWp.forget ?_ (sub_put (i := 0) rfl (sub_put (i := 2) rfl (sub_put (i := 3) rfl (sub_put (i := 10) rfl (sub_nil)))))
  refine AWp.ret ?_
  exact ⟨_, [], _, permNone, res_tmp rfl rfl, by rw [light_ok ht6 hall], rfl⟩

end Go.Proofs.Ytpnipajadjeifaa.Sep
