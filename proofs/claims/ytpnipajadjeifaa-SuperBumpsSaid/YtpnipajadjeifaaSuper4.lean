/- The walk of super.Bump. -/
import Derived.Test.YtpnipajadjeifaaSuper3
import Derived.Test.YtpnipajadjeifaaProg
namespace Go.Proofs.Ytpnipajadjeifaa.Sep
open Go Go.RowKit
set_option linter.unusedVariables false
set_option linter.unusedSimpArgs false



set_option maxRecDepth 20000 in
set_option maxHeartbeats 400000 in
theorem sbump_c (b : Nat) (lv wv : Value) (mb : Nat) (D : Dk) (m : Mem) (h : DkI D lv wv) (hf : D.wait.length < 1000000) :
    Ctr Try.prog 25 [.pointer (some ⟨b, 0, none⟩)] m [.obj b [lv, wv, .map (some mb), .int .i64 D.steps, .int .i64 D.fuse, .bool D.down], .sl lv 256 (secC D.last), .sl wv 257 (wrC D.wait), .mp mb (mapC (nowL D.wait))] (fun _ r L => ∃ wv' mb', r = .tuple #[.agg (bumpF D).2.1.toArray, iV (bumpF D).2.2] ∧ slOk wv' 257 (wrC (bumpF D).1.wait) ∧ L = [.obj b [lv, wv', .map (some mb'), .int .i64 (bumpF D).1.steps, .int .i64 (bumpF D).1.fuse, .bool (bumpF D).1.down], .sl lv 256 (secC (bumpF D).1.last), .sl wv' 257 (wrC (bumpF D).1.wait), .mp mb' (mapC (nowL (bumpF D).1.wait))]) := by
  refine Ctr.intro Try.func25 rfl Try.ntmps25 (by simp) fun w0 => ?_
  refine AWp.forget ?_ (sub_put (i := 0) rfl (sub_nil))
  refine AWp.seq ?_
  refine AWp.region ?_
  refine OpsW.alloc rfl rfl (allocOp_alloc zt29) ?_
  rintro _ _ ⟨b2, rfl, rfl⟩
  refine OpsW.pure rfl rfl (pureOp_assign rfl) ?_
  refine OpsW.nil ?_
  refine AWp.forget ?_ (sub_put (i := 0) rfl (sub_put (i := 2) rfl (sub_put (i := 3) rfl (sub_nil))))
  refine AWp.seq ?_
  refine AWp.region ?_
  refine OpsW.pure rfl rfl (pureOp_move rfl) ?_
  refine OpsW.callA rfl rfl (callOp Try.call27 rfl) (Sel.perm (L' := [.obj b _, .sl lv 256 _, .sl wv 257 _, .mp mb _]) (by repeat (first | exact Sel.nil | (apply Sel.cons; (repeat (first | exact Ext.here | apply Ext.there)))))) (sread_c b lv wv mb D _ h) ?_
  rintro _ _ ⟨rfl, rfl⟩
  obtain ⟨z, at1, c, hR⟩ : ∃ z a c, readZ D = (z, a, c) := ⟨_, _, _, rfl⟩
  have ha1 := readZ_at D
  have hgd := @readZ_good D
  have hcz := supC_length z
  rw [hR] at ha1 hgd ⊢
  dsimp only at ha1 hgd ⊢
  refine OpsW.pure rfl rfl (pureOp_move rfl) ?_
  refine OpsW.pure rfl rfl (pureOp_extract rfl rfl) ?_
  refine OpsW.pure rfl rfl (pureOp_extract rfl rfl) ?_
  refine OpsW.pure rfl rfl (pureOp_extract rfl rfl) ?_
  refine OpsW.alloc rfl rfl (allocOp_alloc zt29) ?_
  rintro _ _ ⟨b4, rfl, rfl⟩
  refine OpsW.upd rfl rfl (by repeat (first | exact Pos.here | apply Pos.there)) (lop_storeAllN 5 Try.sizeOf29 rfl rfl (by first | rfl | assumption | (rw [List.length_map]; assumption) | (simp [*]; done) | (simp [*]; omega) | omega) (by first | rfl | assumption | (rw [List.length_map]; assumption) | (simp [*]; done) | (simp [*]; omega) | omega) (by first | exact one_map (fun _ => rfl) _ | exact one_rfl rfl | exact one_sup _ | (simp [one, *]; done))) ?_
  rintro _ _ ⟨rfl, rfl⟩
  refine OpsW.pure rfl rfl (pureOp_assign rfl) ?_
  refine OpsW.pure rfl rfl (pureOp_assign rfl) ?_
  refine OpsW.nil ?_
  refine AWp.forget ?_ (sub_put (i := 0) rfl (sub_put (i := 2) rfl (sub_put (i := 3) rfl (sub_put (i := 4) rfl (sub_put (i := 5) rfl (sub_put (i := 6) rfl (sub_nil)))))))
  refine AWp.seq ?_
  refine AWp.seq ?_
  refine AWp.region ?_
  refine OpsW.pure rfl rfl (pureOp_move rfl) ?_
  refine OpsW.pure rfl rfl (opN_neq (b := 0) rfl rfl) ?_
  refine OpsW.nil ?_
  refine AWp.forget ?_ (sub_put (i := 0) rfl (sub_put (i := 2) rfl (sub_put (i := 3) rfl (sub_put (i := 4) rfl (sub_put (i := 5) rfl (sub_put (i := 6) rfl (sub_put (i := 17) rfl (sub_nil))))))))
  refine AWp.condP rfl (fun ht17 => ?_) (fun ht17 => ?_)
  · skip
    refine AWp.seq ?_
    refine AWp.region ?_
    refine OpsW.pure rfl rfl (opBuildStruct st29 rfl (.nil)) ?_
    refine OpsW.pure rfl rfl (pureOp_move rfl) ?_
    refine OpsW.upd rfl rfl (by repeat (first | exact Pos.here | apply Pos.there)) (lop_storeAllN 5 Try.sizeOf29 rfl rfl (by first | rfl | assumption | (rw [List.length_map]; assumption) | (simp [*]; done) | (simp [*]; omega) | omega) (by first | rfl | assumption | (rw [List.length_map]; assumption) | (simp [*]; done) | (simp [*]; omega) | omega) (by first | exact one_map (fun _ => rfl) _ | exact one_rfl rfl | exact one_sup _ | (simp [one, *]; done))) ?_
    rintro _ _ ⟨rfl, rfl⟩
    refine OpsW.pure rfl rfl (pureOp_assign rfl) ?_
    refine OpsW.nil ?_
    refine AWp.forget ?_ (sub_put (i := 0) rfl (sub_put (i := 2) rfl (sub_put (i := 3) rfl (sub_put (i := 4) rfl (sub_put (i := 5) rfl (sub_put (i := 6) rfl (sub_put (i := 17) rfl (sub_nil))))))))
    refine AWp.ret ?_
    have hB : bumpF D = (D, Z5, c) := by
      unfold bumpF; rw [hR]; dsimp only
      rw [if_pos ht17]
    exact ⟨_, [.obj b _, .sl lv 256 _, .sl wv 257 _, .mp mb _], _, Sel.perm (by repeat (first | exact Sel.nil | (apply Sel.cons; (repeat (first | exact Ext.here | apply Ext.there))))), resCellTmp rfl rfl (by repeat (first | exact List.Mem.head _ | apply List.Mem.tail)) (by rfl) ag29 rfl, wv, mb, by rw [hB]; rfl, by rw [hB]; exact h.hw, by rw [hB]⟩
  refine AWp.skip ?_
  refine AWp.seq ?_
  have hc0 : c = 0 := Decidable.of_not_not ht17
  obtain rfl := hc0
  have hg := hgd rfl
  have hn := hg.2.2
  rw [supC_of hg]
  refine AWp.region ?_
  refine OpsW.pure rfl rfl (pureOp_fieldAddr fa29_1 rfl) ?_
  refine OpsW.load rfl rfl (loadOp_obj sc3 rfl (by repeat (first | exact List.Mem.head _ | apply List.Mem.tail)) rfl) ?_
  refine OpsW.pure rfl rfl (opN_add (b := 1) rfl rfl (by omega)) ?_
  refine OpsW.pure rfl rfl (pureOp_fieldAddr fa29_1 rfl) ?_
  refine OpsW.upd rfl rfl (by repeat (first | exact Pos.here | apply Pos.there)) (lop_store1 Try.sizeOf3 rfl rfl (by first | rfl | assumption | exact one_sl (by assumption)) (by first | rfl | assumption | (rw [List.length_map]; assumption) | (simp [*]; done) | (simp [*]; omega) | omega)) ?_
  rintro _ _ ⟨rfl, rfl⟩
  refine OpsW.nil ?_
  refine AWp.forget ?_ (sub_put (i := 0) rfl (sub_put (i := 2) rfl (sub_put (i := 3) rfl (sub_put (i := 4) rfl (sub_put (i := 5) rfl (sub_put (i := 6) rfl (sub_put (i := 17) rfl (sub_nil))))))))
  refine AWp.seq ?_
  refine AWp.region ?_
  refine OpsW.load rfl rfl (loadAll rfl (by repeat (first | exact List.Mem.head _ | apply List.Mem.tail)) (by first | rfl | assumption | (rw [List.length_map]; assumption) | (simp [*]; done) | (simp [*]; omega) | omega) ag29) ?_
  refine OpsW.callA rfl rfl (callOp Try.call14 rfl) permNone (sput_c (gN z 8 2) (gN z 10 2) (gN z 12 2) (gN z 14 2) (gN z 16 8 + 1 : Nat) _) ?_
  rintro _ _ ⟨rfl, rfl⟩
  obtain ⟨y, e, hY⟩ : ∃ y e, nextS z = (y, e) := ⟨_, _, rfl⟩
  have hyl := nextS_len z
  rw [show putS (gN z 8 2) (gN z 10 2) (gN z 12 2) (gN z 14 2) (gN z 16 8 + 1 : Nat) = nextS z from rfl]
  rw [hY] at hyl ⊢
  dsimp only at hyl ⊢
  have hym : (y.map bV).length = 256 := by rw [List.length_map]; exact hyl
  refine OpsW.pure rfl rfl (pureOp_move rfl) ?_
  refine OpsW.pure rfl rfl (pureOp_extract rfl rfl) ?_
  refine OpsW.pure rfl rfl (pureOp_extract rfl rfl) ?_
  refine OpsW.alloc rfl rfl (allocOp_alloc zt24) ?_
  rintro _ _ ⟨b7, rfl, rfl⟩
  refine OpsW.upd rfl rfl (by repeat (first | exact Pos.here | apply Pos.there)) (lop_storeAllN 256 Try.sizeOf24 rfl rfl (by first | rfl | assumption | (rw [List.length_map]; assumption) | (simp [*]; done) | (simp [*]; omega) | omega) (by first | rfl | assumption | (rw [List.length_map]; assumption) | (simp [*]; done) | (simp [*]; omega) | omega) (by first | exact one_map (fun _ => rfl) _ | exact one_rfl rfl | exact one_sup _ | (simp [one, *]; done))) ?_
  rintro _ _ ⟨rfl, rfl⟩
  refine OpsW.pure rfl rfl (pureOp_assign rfl) ?_
  refine OpsW.nil ?_
  refine AWp.forget ?_ (sub_put (i := 0) rfl (sub_put (i := 2) rfl (sub_put (i := 3) rfl (sub_put (i := 4) rfl (sub_put (i := 5) rfl (sub_put (i := 6) rfl (sub_put (i := 7) rfl (sub_put (i := 17) rfl (sub_nil)))))))))
  refine AWp.seq ?_
  refine AWp.seq ?_
  refine AWp.region ?_
  refine OpsW.pure rfl rfl (pureOp_move rfl) ?_
  refine OpsW.pure rfl rfl (opN_neq (b := 0) rfl rfl) ?_
  refine OpsW.nil ?_
  refine AWp.forget ?_ (sub_put (i := 0) rfl (sub_put (i := 2) rfl (sub_put (i := 3) rfl (sub_put (i := 4) rfl (sub_put (i := 5) rfl (sub_put (i := 6) rfl (sub_put (i := 7) rfl (sub_put (i := 17) rfl (sub_put (i := 30) rfl (sub_nil))))))))))
  refine AWp.condP rfl (fun ht30 => ?_) (fun ht30 => ?_)
  · skip
    refine AWp.seq ?_
    refine AWp.region ?_
    refine OpsW.pure rfl rfl (opBuildStruct st29 rfl (.nil)) ?_
    refine OpsW.pure rfl rfl (pureOp_move rfl) ?_
    refine OpsW.upd rfl rfl (by repeat (first | exact Pos.here | apply Pos.there)) (lop_storeAllN 5 Try.sizeOf29 rfl rfl (by first | rfl | assumption | (rw [List.length_map]; assumption) | (simp [*]; done) | (simp [*]; omega) | omega) (by first | rfl | assumption | (rw [List.length_map]; assumption) | (simp [*]; done) | (simp [*]; omega) | omega) (by first | exact one_map (fun _ => rfl) _ | exact one_rfl rfl | exact one_sup _ | (simp [one, *]; done))) ?_
    rintro _ _ ⟨rfl, rfl⟩
    refine OpsW.pure rfl rfl (pureOp_assign rfl) ?_
    refine OpsW.nil ?_
    refine AWp.forget ?_ (sub_put (i := 0) rfl (sub_put (i := 2) rfl (sub_put (i := 3) rfl (sub_put (i := 4) rfl (sub_put (i := 5) rfl (sub_put (i := 6) rfl (sub_put (i := 7) rfl (sub_put (i := 17) rfl (sub_put (i := 30) rfl (sub_nil))))))))))
    refine AWp.ret ?_
    have hB : bumpF D = (D, Z5, e) := by
      unfold bumpF; rw [hR]; dsimp only
      rw [if_neg (by simp), hY]; dsimp only; rw [if_pos ht30]
    exact ⟨_, [.obj b _, .sl lv 256 _, .sl wv 257 _, .mp mb _], _, Sel.perm (by repeat (first | exact Sel.nil | (apply Sel.cons; (repeat (first | exact Ext.here | apply Ext.there))))), resCellTmp rfl rfl (by repeat (first | exact List.Mem.head _ | apply List.Mem.tail)) (by rfl) ag29 rfl, wv, mb, by rw [hB]; rfl, by rw [hB]; exact h.hw, by rw [hB]⟩
  refine AWp.skip ?_
  refine AWp.seq ?_
  refine AWp.seq ?_
  obtain rfl : e = 0 := Decidable.of_not_not ht30
  refine AWp.region ?_
  refine OpsW.pure rfl rfl (pureOp_move rfl) ?_
  refine OpsW.pure rfl rfl (pureOp_move rfl) ?_
  refine OpsW.pure rfl rfl (opN_sub (a := 1) rfl rfl (by omega)) ?_
  refine OpsW.load rfl rfl (loadAll rfl (by repeat (first | exact List.Mem.head _ | apply List.Mem.tail)) hym ag24) ?_
  refine OpsW.callA rfl rfl (callOp Try.call22 rfl) (Sel.perm (L' := [.obj b _, .sl lv 256 _, .sl wv 257 _, .mp mb _]) (by repeat (first | exact Sel.nil | (apply Sel.cons; (repeat (first | exact Ext.here | apply Ext.there)))))) (dwrite_c b lv wv mb D ((1 - at1 : Nat) : Int) y _ h hyl hf) ?_
  rintro _ _ ⟨wv1, rfl, hw1, rfl⟩
  obtain ⟨D1, e1, hW⟩ : ∃ D1 e1, writeF D ((1 - at1 : Nat) : Int) y = (D1, e1) := ⟨_, _, rfl⟩
  have hla := writeF_last D ((1 - at1 : Nat) : Int) y
  have ok1 := writeF_ok h.ok (i := ((1 - at1 : Nat) : Int)) hyl hf
  rw [hW] at hla ok1 hw1 ⊢
  dsimp only at hla ok1 hw1 ⊢
  have hI1 : DkI D1 lv wv1 := ⟨by rw [hla]; exact h.hl, hw1, ok1⟩
  refine OpsW.pure rfl rfl (pureOp_assign rfl) ?_
  refine OpsW.nil ?_
  refine AWp.forget ?_ (sub_put (i := 0) rfl (sub_put (i := 2) rfl (sub_put (i := 3) rfl (sub_put (i := 4) rfl (sub_put (i := 5) rfl (sub_put (i := 6) rfl (sub_put (i := 7) rfl (sub_put (i := 8) rfl (sub_put (i := 17) rfl (sub_put (i := 30) rfl (sub_nil)))))))))))
  refine AWp.seq ?_
  refine AWp.region ?_
  refine OpsW.pure rfl rfl (pureOp_move rfl) ?_
  refine OpsW.pure rfl rfl (opN_neq (b := 0) rfl rfl) ?_
  refine OpsW.nil ?_
  refine AWp.forget ?_ (sub_put (i := 0) rfl (sub_put (i := 2) rfl (sub_put (i := 3) rfl (sub_put (i := 4) rfl (sub_put (i := 5) rfl (sub_put (i := 6) rfl (sub_put (i := 7) rfl (sub_put (i := 8) rfl (sub_put (i := 17) rfl (sub_put (i := 30) rfl (sub_put (i := 39) rfl (sub_nil))))))))))))
  refine AWp.condP rfl (fun ht39 => ?_) (fun ht39 => ?_)
  · skip
    refine AWp.seq ?_
    refine AWp.region ?_
    refine OpsW.pure rfl rfl (opBuildStruct st29 rfl (.nil)) ?_
    refine OpsW.pure rfl rfl (pureOp_move rfl) ?_
    refine OpsW.upd rfl rfl (by repeat (first | exact Pos.here | apply Pos.there)) (lop_storeAllN 5 Try.sizeOf29 rfl rfl (by first | rfl | assumption | (rw [List.length_map]; assumption) | (simp [*]; done) | (simp [*]; omega) | omega) (by first | rfl | assumption | (rw [List.length_map]; assumption) | (simp [*]; done) | (simp [*]; omega) | omega) (by first | exact one_map (fun _ => rfl) _ | exact one_rfl rfl | exact one_sup _ | (simp [one, *]; done))) ?_
    rintro _ _ ⟨rfl, rfl⟩
    refine OpsW.pure rfl rfl (pureOp_assign rfl) ?_
    refine OpsW.nil ?_
    refine AWp.forget ?_ (sub_put (i := 0) rfl (sub_put (i := 2) rfl (sub_put (i := 3) rfl (sub_put (i := 4) rfl (sub_put (i := 5) rfl (sub_put (i := 6) rfl (sub_put (i := 7) rfl (sub_put (i := 8) rfl (sub_put (i := 17) rfl (sub_put (i := 30) rfl (sub_put (i := 39) rfl (sub_nil))))))))))))
    refine AWp.ret ?_
    have hB : bumpF D = (D1, Z5, e1) := by
      unfold bumpF; rw [hR]; dsimp only
      rw [if_neg (by simp), hY]; dsimp only; rw [if_neg (by simp), hW]; dsimp only; rw [if_pos ht39]
    exact ⟨_, [.obj b _, .sl lv 256 _, .sl wv1 257 _, .mp mb _], _, Sel.perm (by repeat (first | exact Sel.nil | (apply Sel.cons; (repeat (first | exact Ext.here | apply Ext.there))))), resCellTmp rfl rfl (by repeat (first | exact List.Mem.head _ | apply List.Mem.tail)) (by rfl) ag29 rfl, wv1, mb, by rw [hB]; rfl, by rw [hB]; exact hw1, by rw [hB]⟩
  refine AWp.skip ?_
  refine AWp.seq ?_
  refine AWp.seq ?_
  obtain rfl : e1 = 0 := Decidable.of_not_not ht39
  refine AWp.region ?_
  refine OpsW.pure rfl rfl (pureOp_move rfl) ?_
  refine OpsW.callA rfl rfl (callOp Try.call23 rfl) (Sel.perm (L' := [.obj b _, .sl lv 256 _, .sl wv1 257 _, .mp mb _]) (by repeat (first | exact Sel.nil | (apply Sel.cons; (repeat (first | exact Ext.here | apply Ext.there)))))) (dflush_c b lv wv1 mb D1 _ hI1) ?_
  rintro _ _ ⟨wv2, mb2, rfl, hw2, rfl⟩
  obtain ⟨D2, e2, hF⟩ : ∃ D2 e2, flushF D1 = (D2, e2) := ⟨_, _, rfl⟩
  rw [hF] at hw2 ⊢
  dsimp only at hw2 ⊢
  refine OpsW.pure rfl rfl (pureOp_assign rfl) ?_
  refine OpsW.nil ?_
  refine AWp.forget ?_ (sub_put (i := 0) rfl (sub_put (i := 2) rfl (sub_put (i := 3) rfl (sub_put (i := 4) rfl (sub_put (i := 5) rfl (sub_put (i := 6) rfl (sub_put (i := 7) rfl (sub_put (i := 8) rfl (sub_put (i := 9) rfl (sub_put (i := 17) rfl (sub_put (i := 30) rfl (sub_put (i := 39) rfl (sub_nil)))))))))))))
  refine AWp.seq ?_
  refine AWp.region ?_
  refine OpsW.pure rfl rfl (pureOp_move rfl) ?_
  refine OpsW.pure rfl rfl (opN_neq (b := 0) rfl rfl) ?_
  refine OpsW.nil ?_
  refine AWp.forget ?_ (sub_put (i := 0) rfl (sub_put (i := 2) rfl (sub_put (i := 3) rfl (sub_put (i := 4) rfl (sub_put (i := 5) rfl (sub_put (i := 6) rfl (sub_put (i := 7) rfl (sub_put (i := 8) rfl (sub_put (i := 9) rfl (sub_put (i := 17) rfl (sub_put (i := 30) rfl (sub_put (i := 39) rfl (sub_put (i := 45) rfl (sub_nil))))))))))))))
  refine AWp.condP rfl (fun ht45 => ?_) (fun ht45 => ?_)
  · skip
    refine AWp.seq ?_
    refine AWp.region ?_
    refine OpsW.pure rfl rfl (opBuildStruct st29 rfl (.nil)) ?_
    refine OpsW.pure rfl rfl (pureOp_move rfl) ?_
    refine OpsW.upd rfl rfl (by repeat (first | exact Pos.here | apply Pos.there)) (lop_storeAllN 5 Try.sizeOf29 rfl rfl (by first | rfl | assumption | (rw [List.length_map]; assumption) | (simp [*]; done) | (simp [*]; omega) | omega) (by first | rfl | assumption | (rw [List.length_map]; assumption) | (simp [*]; done) | (simp [*]; omega) | omega) (by first | exact one_map (fun _ => rfl) _ | exact one_rfl rfl | exact one_sup _ | (simp [one, *]; done))) ?_
    rintro _ _ ⟨rfl, rfl⟩
    refine OpsW.pure rfl rfl (pureOp_assign rfl) ?_
    refine OpsW.nil ?_
    refine AWp.forget ?_ (sub_put (i := 0) rfl (sub_put (i := 2) rfl (sub_put (i := 3) rfl (sub_put (i := 4) rfl (sub_put (i := 5) rfl (sub_put (i := 6) rfl (sub_put (i := 7) rfl (sub_put (i := 8) rfl (sub_put (i := 9) rfl (sub_put (i := 17) rfl (sub_put (i := 30) rfl (sub_put (i := 39) rfl (sub_put (i := 45) rfl (sub_nil))))))))))))))
    refine AWp.ret ?_
    have hB : bumpF D = (D2, Z5, e2) := by
      unfold bumpF; rw [hR]; dsimp only
      rw [if_neg (by simp), hY]; dsimp only; rw [if_neg (by simp), hW]; dsimp only; rw [if_neg (by simp), hF]; dsimp only; rw [if_pos ht45]
    exact ⟨_, [.obj b _, .sl lv 256 _, .sl wv2 257 _, .mp mb2 _], _, Sel.perm (by repeat (first | exact Sel.nil | (apply Sel.cons; (repeat (first | exact Ext.here | apply Ext.there))))), resCellTmp rfl rfl (by repeat (first | exact List.Mem.head _ | apply List.Mem.tail)) (by rfl) ag29 rfl, wv2, mb2, by rw [hB]; rfl, by rw [hB]; exact hw2, by rw [hB]⟩
  refine AWp.skip ?_
  refine AWp.seq ?_
  obtain rfl : e2 = 0 := Decidable.of_not_not ht45
  refine AWp.region ?_
  refine OpsW.load rfl rfl (loadAll rfl (by repeat (first | exact List.Mem.head _ | apply List.Mem.tail)) (by first | rfl | assumption | (rw [List.length_map]; assumption) | (simp [*]; done) | (simp [*]; omega) | omega) ag29) ?_
  refine OpsW.upd rfl rfl (by repeat (first | exact Pos.here | apply Pos.there)) (lop_storeAllN 5 Try.sizeOf29 rfl rfl (by first | rfl | assumption | (rw [List.length_map]; assumption) | (simp [*]; done) | (simp [*]; omega) | omega) (by first | rfl | assumption | (rw [List.length_map]; assumption) | (simp [*]; done) | (simp [*]; omega) | omega) (by first | exact one_map (fun _ => rfl) _ | exact one_rfl rfl | exact one_sup _ | (simp [one, *]; done))) ?_
  rintro _ _ ⟨rfl, rfl⟩
  refine OpsW.pure rfl rfl (pureOp_assign rfl) ?_
  refine OpsW.nil ?_
  refine AWp.forget ?_ (sub_put (i := 0) rfl (sub_put (i := 2) rfl (sub_put (i := 3) rfl (sub_put (i := 4) rfl (sub_put (i := 5) rfl (sub_put (i := 6) rfl (sub_put (i := 7) rfl (sub_put (i := 8) rfl (sub_put (i := 9) rfl (sub_put (i := 17) rfl (sub_put (i := 30) rfl (sub_put (i := 39) rfl (sub_put (i := 45) rfl (sub_nil))))))))))))))
  refine AWp.ret ?_
  have hB : bumpF D = (D2, nextC z, 0) := by
    unfold bumpF; rw [hR]; dsimp only
    rw [if_neg (by simp), hY]; dsimp only; rw [if_neg (by simp), hW]; dsimp only; rw [if_neg (by simp), hF]; dsimp only; rw [if_neg (by simp)]
  exact ⟨_, [.obj b _, .sl lv 256 _, .sl wv2 257 _, .mp mb2 _], _, Sel.perm (by repeat (first | exact Sel.nil | (apply Sel.cons; (repeat (first | exact Ext.here | apply Ext.there))))), resCellTmp rfl rfl (by repeat (first | exact List.Mem.head _ | apply List.Mem.tail)) (by rfl) ag29 rfl, wv2, mb2, by rw [hB]; rfl, by rw [hB]; exact hw2, by rw [hB]⟩

set_option maxRecDepth 20000 in
set_option maxHeartbeats 1000000 in
theorem sbumpnil_c  (m : Mem) :
    Ctr Try.prog 25 [.pointer none] m [] (fun _ r L => r = .tuple #[.agg Z5.toArray, iV 1] ∧ L = []) := by
  refine Ctr.intro Try.func25 rfl Try.ntmps25 (by simp) fun w0 => ?_
  refine AWp.forget ?_ (sub_put (i := 0) rfl (sub_nil))
  refine AWp.seq ?_
  refine AWp.region ?_
  refine OpsW.alloc rfl rfl (allocOp_alloc zt29) ?_
  rintro _ _ ⟨b2, rfl, rfl⟩
  refine OpsW.pure rfl rfl (pureOp_assign rfl) ?_
  refine OpsW.nil ?_
  refine AWp.forget ?_ (sub_put (i := 0) rfl (sub_put (i := 2) rfl (sub_put (i := 3) rfl (sub_nil))))
  refine AWp.seq ?_
  refine AWp.region ?_
  refine OpsW.pure rfl rfl (pureOp_move rfl) ?_
  refine OpsW.callA rfl rfl (callOp Try.call27 rfl) permNone (sreadnil_c _) ?_
  rintro _ _ ⟨rfl, rfl⟩
  refine OpsW.pure rfl rfl (pureOp_move rfl) ?_
  refine OpsW.pure rfl rfl (pureOp_extract rfl rfl) ?_
  refine OpsW.pure rfl rfl (pureOp_extract rfl rfl) ?_
  refine OpsW.pure rfl rfl (pureOp_extract rfl rfl) ?_
  refine OpsW.alloc rfl rfl (allocOp_alloc zt29) ?_
  rintro _ _ ⟨b4, rfl, rfl⟩
  refine OpsW.upd rfl rfl (by repeat (first | exact Pos.here | apply Pos.there)) (lop_storeAllN 5 Try.sizeOf29 rfl rfl (by first | rfl | assumption | (rw [List.length_map]; assumption) | (simp [*]; done) | (simp [*]; omega) | omega) (by first | rfl | assumption | (rw [List.length_map]; assumption) | (simp [*]; done) | (simp [*]; omega) | omega) (by first | exact one_map (fun _ => rfl) _ | exact one_rfl rfl | exact one_sup _ | (simp [one, *]; done))) ?_
  rintro _ _ ⟨rfl, rfl⟩
  refine OpsW.pure rfl rfl (pureOp_assign rfl) ?_
  refine OpsW.pure rfl rfl (pureOp_assign rfl) ?_
  refine OpsW.nil ?_
  refine AWp.forget ?_ (sub_put (i := 0) rfl (sub_put (i := 2) rfl (sub_put (i := 3) rfl (sub_put (i := 4) rfl (sub_put (i := 5) rfl (sub_put (i := 6) rfl (sub_nil)))))))
  refine AWp.seq ?_
  refine AWp.seq ?_
  refine AWp.region ?_
  refine OpsW.pure rfl rfl (pureOp_move rfl) ?_
  refine OpsW.pure rfl rfl (opN_neq (b := 0) rfl rfl) ?_
  refine OpsW.nil ?_
  refine AWp.forget ?_ (sub_put (i := 0) rfl (sub_put (i := 2) rfl (sub_put (i := 3) rfl (sub_put (i := 4) rfl (sub_put (i := 5) rfl (sub_put (i := 6) rfl (sub_put (i := 17) rfl (sub_nil))))))))
  refine AWp.cond_true rfl ?_
  refine AWp.seq ?_
  refine AWp.region ?_
  refine OpsW.pure rfl rfl (opBuildStruct st29 rfl (.nil)) ?_
  refine OpsW.pure rfl rfl (pureOp_move rfl) ?_
  refine OpsW.upd rfl rfl (by repeat (first | exact Pos.here | apply Pos.there)) (lop_storeAllN 5 Try.sizeOf29 rfl rfl (by first | rfl | assumption | (rw [List.length_map]; assumption) | (simp [*]; done) | (simp [*]; omega) | omega) (by first | rfl | assumption | (rw [List.length_map]; assumption) | (simp [*]; done) | (simp [*]; omega) | omega) (by first | exact one_map (fun _ => rfl) _ | exact one_rfl rfl | exact one_sup _ | (simp [one, *]; done))) ?_
  rintro _ _ ⟨rfl, rfl⟩
  refine OpsW.pure rfl rfl (pureOp_assign rfl) ?_
  refine OpsW.nil ?_
  refine AWp.forget ?_ (sub_put (i := 0) rfl (sub_put (i := 2) rfl (sub_put (i := 3) rfl (sub_put (i := 4) rfl (sub_put (i := 5) rfl (sub_put (i := 6) rfl (sub_put (i := 17) rfl (sub_nil))))))))
  refine AWp.ret ?_
  exact ⟨_, [], _, permNone, resCellTmp rfl rfl (by repeat (first | exact List.Mem.head _ | apply List.Mem.tail)) (by rfl) ag29 rfl, rfl, rfl⟩

end Go.Proofs.Ytpnipajadjeifaa.Sep
