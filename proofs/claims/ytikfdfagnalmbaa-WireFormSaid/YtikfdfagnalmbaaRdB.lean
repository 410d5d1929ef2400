/- Reader.Byte, Reader.Fixed where the bytes are there. -/
import Derived.Test.YtikfdfagnalmbaaRdH
namespace Go.Proofs.Ytikfdfagnalmbaa.My
open Go.RowKit Go.Proofs.YtikfdfagnalmbaaW.PrintWords Go.Proofs.YtikfdfagnalmbaaW.PrintLast Go.Proofs.Ytikfdfagnalmbaa
set_option linter.unusedSimpArgs false
set_option linter.unusedVariables false
set_option maxRecDepth 100000
set_option maxHeartbeats 2000000
theorem RByte_ok {w : World} {g : Nat} {s : ByteArray} {p : Nat} (h : RS w g s p 0) (hp : p + 1 ≤ s.size) (hs : s.size ≤ 140737488351232) : Calls Try.prog 34 #[.pointer (some ⟨g, 0, none⟩)] w fun r w' => r = .returned (.int .u8 ((hiN (natsOf (s.extract p (p + 1))) : Nat) % 256 : Int)) ∧ RS w' g s (p + 1) 0 ∧ Alone w w' g := by
  have hx : (s.extract p (p + 1)).size ≤ 8 := by rw [ByteArray.size_extract]; omega
  go_enter Try.func34, Try.ntmps34
  go_wp2_with fail
  refine (take_ok h 1 hp hs).mono ?_
  rintro e w1 ⟨rfl, h1, h2⟩
  go_wp2_with fail
  refine (high_calls _ _ hx).mono ?_
  rintro e w2 ⟨rfl, rfl⟩
  go_wp2_with fail
  go_ret
  exact ⟨rfl, h1, h2⟩
theorem RFixed_ok {w : World} {g : Nat} {s : ByteArray} {p n : Nat} (h : RS w g s p 0) (hn1 : 1 ≤ n) (hn8 : n ≤ 8) (hp : p + n ≤ s.size) (hs : s.size ≤ 140737488351232) : Calls Try.prog 36 #[.pointer (some ⟨g, 0, none⟩), .int .i64 n] w fun r w' => r = .returned (.int .u64 ((hiN (natsOf (s.extract p (p + n))) : Nat) : Int)) ∧ RS w' g s (p + n) 0 ∧ Alone w w' g := by
  have hx : (s.extract p (p + n)).size ≤ 8 := by rw [ByteArray.size_extract]; omega
  go_enter Try.func36, Try.ntmps36
  go_wp2_with fail
  refine (take_ok h n hp hs).mono ?_
  rintro e w1 ⟨rfl, h1, h2⟩
  go_wp2_with fail
  refine (high_calls _ _ hx).mono ?_
  rintro e w2 ⟨rfl, rfl⟩
  go_wp2_with fail
  go_ret
  exact ⟨rfl, h1, h2⟩
end Go.Proofs.Ytikfdfagnalmbaa.My
