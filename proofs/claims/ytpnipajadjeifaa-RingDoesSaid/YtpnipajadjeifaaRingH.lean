/- For the walks over rings: what stays of a disk; plain Lean. -/
import Derived.Test.YtpnipajadjeifaaRingG
namespace Go.Proofs.Ytpnipajadjeifaa.Sep
open Go Go.RowKit
set_option linter.unusedVariables false
set_option linter.unusedSimpArgs false
theorem DkI.to {D E : Dk} {lv wv wv' : Value} (h : DkI D lv wv) (ok : E.Ok) (hl : E.last.length = D.last.length) (hw : slOk wv' 257 (wrC E.wait)) : DkI E lv wv' :=
  ⟨slOk_same h.hl (by rw [secC_length ok.sec, secC_length h.ok.sec, hl]), hw, ok⟩
theorem appF_len (D : Dk) (fr sz tl hd : Nat) (b : List UInt8) : (appF D fr sz tl hd b).1.last.length = D.last.length := by
  unfold appF
  split
  · rfl
  · split
    · rfl
    · split
      · rw [writeF_last]
      · split
        · rw [flushF_len, writeF_last]
        · rw [flushF_len, writeF_last]
theorem dropN_len (fr sz : Nat) : ∀ (k : Nat) (D : Dk) (tl n : Nat), (dropN fr sz k D tl n).1.last.length = D.last.length
  | 0, _, _, _ => rfl
  | k + 1, D, tl, n => by
    rw [dropN]
    split
    · rw [writeF_last]
    · split
      · rw [flushF_len, writeF_last]
      · rw [dropN_len fr sz k, flushF_len, writeF_last]
theorem RI.opened {D E : Dk} {fr sz tl hd : Nat} {ml : List (List UInt8)} (h : RI D fr sz tl hd ml) (hU : Up E) (hw : E.wait = []) (hl : E.last = wrote (zs fr sz hd (tl + sz - hd)) D.last) : RI E fr sz tl hd ml := by
  have h1 := h.s.len
  have h2 := h.s.full
  exact ⟨hU, hw, by rw [hl]; exact h.s.scrubbed _ (by omega)⟩
end Go.Proofs.Ytpnipajadjeifaa.Sep
