/- Texts: bytes as a string, strings compared; an element's field. -/
import Derived.Test.YtpnipajadjeifaaSepX
import Derived.Laws.BytesString
import Derived.Laws.Strings
namespace Go.Proofs.Ytpnipajadjeifaa.Sep
open Go Go.RowKit
set_option linter.unusedVariables false
set_option linter.unusedSimpArgs false
@[reducible] def sV (d : List UInt8) : Value := .string ⟨d.toArray⟩
section
variable {P : Program} {T : Tm} {m : Mem} {L : List Chunk} {dst : Option Tmp} {type : TypeId} {pos : String} {after : Array Edge} {guard : Option (Nat × Bool)}
theorem push_all : ∀ (d : List UInt8) (s : ByteArray), (d.map fun b => (b.toNat : Int)).foldl (fun r n => r.push (UInt8.ofNat n.toNat)) s = ⟨(s.data.toList ++ d).toArray⟩
  | [], s => by simp
  | b :: d, s => by
    rw [List.map_cons, List.foldl_cons, push_all d]
    have e : UInt8.ofNat ((b.toNat : Int)).toNat = b := by apply UInt8.toNat_inj.1; simp
    rw [e]
    show ByteArray.mk ((s.data.push b).toList ++ d).toArray = _
    simp
theorem loadOp_toString {src ds e : TypeId} {x : Operand} {v : Value} {d : List UInt8} (hs : P.underlying src = some (.slice e)) (he : P.underlying e = some (.int .u8)) (hd : P.underlying ds = some .string)
    (hx : ev T x = some v) (hr : Rd (memOf m L) v 1 (d.map bV)) : LoadOp P ⟨dst, .convert src ds x, type, pos, after, guard⟩ m T L (sV d) := by
  intro ρ hρ w s
  have hx := hρ x (by simp [Op.operands]) _ hx
  rcases hr.1 with ⟨rfl, hn⟩ | ⟨b, off, len, cap, rfl, hl, _⟩ | ⟨a, cap, rfl, hn⟩
  · obtain rfl : d = [] := by simpa using hn
    simp only [execOp, hx, Sem.run_bind, run_convert_bytes_string w src ds e none 0 0 hs he hd]
    simp [Conv.bytesToString, Sem.run_pure]
    rfl
  · rw [List.length_map, Nat.mul_one] at hl
    have hc := run_loadCells_list (P := P) w ⟨b, off, none⟩ (d.map bV) fun j u hj => by rw [add_mk]; exact s.read (hr.2 _ _ _ _ rfl j u hj)
    rw [List.length_map, hl] at hc
    have e1 : d.map bV = (d.map fun b => (b.toNat : Int)).map (Value.int .u8) := by simp
    rw [e1] at hc
    have := run_bytesToString w ⟨b, off, none⟩ len cap _ hc
    rw [push_all] at this
    simp only [execOp, hx, Sem.run_bind, run_convert_bytes_string w src ds e _ _ _ hs he hd, this, Result.andThen_ok, Sem.run_pure]
    simp
  · obtain rfl : d = [] := by simpa using hn
    have := run_bytesToString (P := P) w a 0 cap [] rfl
    simp only [execOp, hx, Sem.run_bind, run_convert_bytes_string w src ds e _ _ _ hs he hd, this, Result.andThen_ok, Sem.run_pure]
    rfl
theorem str_beq (a b : List UInt8) : ((⟨a.toArray⟩ : ByteArray).toList == (⟨b.toArray⟩ : ByteArray).toList) = decide (a = b) := by
  rw [ByteArray.toList_eq, ByteArray.toList_eq]
  rw [Bool.eq_iff_iff]; simp
theorem opS_eql {x y : Operand} {a b : List UInt8} {t t' : TypeId} (hx : ev T x = some (sV a)) (hy : ev T y = some (sV b)) :
    PureOp P ⟨dst, .binOp .eql t x y t', type, pos, after, guard⟩ T (.bool (decide (a = b))) := by
  intro ρ hρ w
  have hx := hρ x (by simp [Op.operands]) _ hx
  have hy := hρ y (by simp [Op.operands]) _ hy
  simp only [execOp, hx, hy, eqGuard, sV, binOp_string_eql, str_beq, bind, Sem.bind, pure, Sem.run]
  rfl
theorem opS_neq {x y : Operand} {a b : List UInt8} {t t' : TypeId} (hx : ev T x = some (sV a)) (hy : ev T y = some (sV b)) :
    PureOp P ⟨dst, .binOp .neq t x y t', type, pos, after, guard⟩ T (.bool (decide (a ≠ b))) := by
  intro ρ hρ w
  have hx := hρ x (by simp [Op.operands]) _ hx
  have hy := hρ y (by simp [Op.operands]) _ hy
  simp only [execOp, hx, hy, eqGuard, sV, binOp_string_neq, str_beq, bind, Sem.bind, pure, Sem.run]
  rw [show decide (a ≠ b) = !decide (a = b) by simp]
  rfl
/-- The field of a slice's element: its address. -/
theorem pureOp_fieldElem {s : TypeId} {x : Operand} {v : Value} {k sz i off : Nat} {cs : List Value} (hf : FieldAt P s i off) (hx : ev T x = some (elemP v k)) (ho : slOk v sz cs) (hk : k < cs.length) :
    PureOp P ⟨dst, .fieldAddr s x i, type, pos, after, guard⟩ T (elemP v (k + off)) := by
  rcases ho with ⟨rfl, rfl⟩ | ⟨b, o, len, cap, rfl, _, _⟩ | ⟨a, cap, rfl, rfl⟩
  · simp at hk
  · have h1 := pureOp_fieldAddr (P := P) (dst := dst) (type := type) (pos := pos) (after := after) (guard := guard) (b := b) (o := o + k) hf (by rw [hx, elemP, add_mk])
    rw [elemP, add_mk, ← Nat.add_assoc]
    exact h1
  · simp at hk
end
/-! what is laid down to be read alone -/
section
variable {G : Ctx} {P : Program} {arr : Array Oper} {Q : Post} {m : Mem} {T : Tm} {L : List Chunk} {os : List Oper}
theorem fz_none {w : World} (h : SatH m L w) : SatH m (.fz (fun _ _ => False) :: L) w :=
  ⟨h.mem, fun c hc => by
    rcases List.mem_cons.1 hc with rfl | hc
    · exact fun _ _ h => h.elim
    · exact h.chunks c hc, List.pairwise_cons.2 ⟨fun d _ k ⟨_, _, h, _⟩ => h.elim, h.apart⟩, fun c hc a u ha hk => by
    rcases List.mem_cons.1 hc with rfl | hc
    · obtain ⟨_, _, h, _⟩ := hk; exact h
    · exact h.off c hc a u ha hk⟩
theorem fz_gather {w : World} {c : Chunk} {μ : Mem} (h : SatH m (c :: .fz μ :: L) w) : SatH m (.fz (fun a u => μ a u ∨ c.at a u) :: L) w := by
  obtain ⟨h1, h2⟩ := List.pairwise_cons.1 h.apart
  obtain ⟨h3, h4⟩ := List.pairwise_cons.1 h2
  have hm1 : Chunk.fz μ ∈ c :: .fz μ :: L := List.mem_cons_of_mem _ (List.mem_cons_self ..)
  refine ⟨h.mem, fun d hd => ?_, List.pairwise_cons.2 ⟨fun d hd k hk hk' => ?_, h4⟩, fun d hd a u ha hk => ?_⟩
  · rcases List.mem_cons.1 hd with rfl | hd
    · rintro a u (ha | ha)
      · exact h.chunks _ hm1 a u ha
      · exact Chunk.holds_at (h.chunks c (List.mem_cons_self ..)) ha
    · exact h.chunks d (List.mem_cons_of_mem _ (List.mem_cons_of_mem _ hd))
  · obtain ⟨a, u, ha | ha, rfl⟩ := hk
    · exact h3 d hd _ ⟨a, u, ha, rfl⟩ hk'
    · exact h1 d (List.mem_cons_of_mem _ hd) _ (Chunk.at_has ha) hk'
  · rcases List.mem_cons.1 hd with rfl | hd
    · obtain ⟨b, v, hb | hb, e⟩ := hk
      · exact h.off _ hm1 a u ha ⟨b, v, hb, e⟩
      · exact h.off c (List.mem_cons_self ..) a u ha (e ▸ Chunk.at_has hb)
    · exact h.off d (List.mem_cons_of_mem _ (List.mem_cons_of_mem _ hd)) a u ha hk
theorem fz_any {c : Chunk} {μ : Mem} : ∀ k, hasAny (.fz (fun a u => μ a u ∨ c.at a u) :: L) k → hasAny (c :: .fz μ :: L) k := by
  rintro k ⟨d, hd, hk⟩
  rcases List.mem_cons.1 hd with rfl | hd
  · obtain ⟨a, u, ha | ha, rfl⟩ := hk
    · exact ⟨.fz μ, List.mem_cons_of_mem _ (List.mem_cons_self ..), a, u, ha, rfl⟩
    · exact ⟨c, List.mem_cons_self .., Chunk.at_has ha⟩
  · exact ⟨d, List.mem_cons_of_mem _ (List.mem_cons_of_mem _ hd), hk⟩
theorem fz_nothing : ∀ k, hasAny (.fz (fun _ _ => False) :: L) k → hasAny L k := by
  rintro k ⟨d, hd, hk⟩
  rcases List.mem_cons.1 hd with rfl | hd
  · obtain ⟨_, _, h, _⟩ := hk; exact h.elim
  · exact ⟨d, hd, hk⟩
theorem AWp.chunks {y : Code} {L' : List Chunk} (h : AWp G P y Q m T L') (e : ∀ w, SatH m L w → SatH m L' w) (hs : ∀ k, hasAny L' k → hasAny L k) : AWp G P y Q m T L :=
  fun a w s => h a w ⟨s.kn, e w s.heap, s.fr, fun k hk => s.own k (hs k hk), s.ext, s.new⟩
theorem AWp.fz0 {y : Code} (h : AWp G P y Q m T (.fz (fun _ _ => False) :: L)) : AWp G P y Q m T L := h.chunks (fun _ => fz_none) fz_nothing
theorem AWp.gather {y : Code} {c : Chunk} {μ : Mem} (h : AWp G P y Q m T (.fz (fun a u => μ a u ∨ c.at a u) :: L)) : AWp G P y Q m T (c :: .fz μ :: L) := h.chunks (fun _ => fz_gather) fz_any
theorem OpsW.fz0 (h : OpsW G P arr Q os m T (.fz (fun _ _ => False) :: L)) : OpsW G P arr Q os m T L := h.chunks (fun _ => fz_none) fz_nothing
theorem OpsW.gather {c : Chunk} {μ : Mem} (h : OpsW G P arr Q os m T (.fz (fun a u => μ a u ∨ c.at a u) :: L)) : OpsW G P arr Q os m T (c :: .fz μ :: L) := h.chunks (fun _ => fz_gather) fz_any
theorem Rd.fz {μ : Mem} {v : Value} {sz : Nat} {cs : List Value} (h : Rd μ v sz cs) (hm : Chunk.fz μ ∈ L) : Rd (memOf m L) v sz cs := h.mono fun _ _ ha => .inr ⟨_, hm, ha⟩
end
end Go.Proofs.Ytpnipajadjeifaa.Sep
