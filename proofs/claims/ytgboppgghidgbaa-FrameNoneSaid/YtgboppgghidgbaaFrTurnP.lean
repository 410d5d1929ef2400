/- One byte turned: it is no frame. -/
import Derived.Test.YtgboppgghidgbaaFrPlain2
namespace Go.Proofs.Ytgboppgghidgbaa.My
open Go.RowKit Go.Proofs.YtgboppgghidgbaaW.PrintWords Go.Proofs.Ytgboppgghidgbaa
set_option linter.unusedSimpArgs false
set_option linter.unusedVariables false
theorem decT_bad (s : ByteArray) (h : ¬ DecOk s) : decT s = (0, 0, 0, 0, 0, 0, 0, false, ⟨#[]⟩, 210) := by
  unfold decT; rw [if_neg h]
theorem fN_prefix (s m : ByteArray) (p n : Nat) (h : p + n ≤ s.size) : fN (s ++ m) p n = fN s p n := by
  unfold fN
  rw [natsOf_append, List.drop_append_of_le_length (by rw [natsOf_len]; omega), List.take_append_of_le_length (by rw [List.length_drop, natsOf_len]; omega)]
theorem fN_front (s : ByteArray) (q p n : Nat) (h : p + n ≤ q) : fN (s.extract 0 q) p n = fN s p n := by
  unfold fN
  rw [natsOf_extract, List.drop_zero, Nat.sub_zero, List.drop_take, List.take_take]
  congr 2
  omega
/-- More behind a frame is no frame. -/
theorem more_bad (s m : ByteArray) (h : HeadOk s) (hm : 0 < m.size) : ¬ DecOk (s ++ m) := by
  intro hd
  have h1 := hd.1.2.2.1
  have h2 := h.2.2.1
  have h3 := h.1.1
  rw [fN_prefix s m 2 2 (by omega), ByteArray.size_append] at h1
  omega
/-- A frame cut off is no frame. -/
theorem cut_bad (s : ByteArray) (h : HeadOk s) : ¬ DecOk (s.extract 0 (s.size - 1)) := by
  intro hd
  have h1 := hd.1.2.2.1
  have h2 := h.2.2.1
  have h3 := h.1.1
  rw [fN_front s _ 2 2 (by omega), ByteArray.size_extract] at h1
  omega
/-- One byte turned is no frame. -/
theorem turned_bad (s z : ByteArray) (a b c d e t g : Nat) (h : Bool) (bd : ByteArray) (hs : natsOf s = encN a b c d e t g h bd) (k v : Nat) (hk : k < s.size) (hz : natsOf z = (natsOf s).set k v) (hv : ∀ y, (natsOf s)[k]? = some y → v ≠ y) : ¬ DecOk z := by
  intro hd
  have hr := refields z hd.1 hd.2.1 hd.2.2.1
  rw [hz, hs] at hr
  have hkl : k < (encN a b c d e t g h bd).length := by rw [← hs, natsOf_len]; exact hk
  have hp : ∀ x ∈ preN a b c d e t g h bd, x < 256 := by
    intro x hx
    have h1 := natsOf_lt s
    rw [hs] at h1
    exact h1 x (List.mem_append_left _ hx)
  have hq : ∀ x ∈ preN (fN z 8 1) (fN z 9 1) (fN z 10 1) (fN z 11 2) (fN z 13 4) (fN z 17 8) (fN z 25 4) (fN z 29 1 == 1) (z.extract 30 (z.size - 4)), x < 256 := by
    intro x hx
    have h1 := natsOf_lt z
    rw [hz, hs, hr] at h1
    exact h1 x (List.mem_append_left _ hx)
  have := turned_tf _ _ k v hp hq hkl hr
  rw [hs] at hv
  exact hv _ (List.getElem?_eq_getElem hkl) this.symm
end Go.Proofs.Ytgboppgghidgbaa.My
