/- Reader.Fail; Reader.Uint where an error was noted. -/
import Derived.Test.YtikfdfagnalmbaaRd
namespace Go.Proofs.Ytikfdfagnalmbaa.My
open Go.RowKit Go.Proofs.YtikfdfagnalmbaaW.PrintWords Go.Proofs.YtikfdfagnalmbaaW.PrintLast Go.Proofs.Ytikfdfagnalmbaa
set_option linter.unusedSimpArgs false
set_option linter.unusedVariables false
set_option maxRecDepth 100000
set_option maxHeartbeats 2000000
theorem RFail_kept {w : World} {g : Nat} {s : ByteArray} {p : Nat} {e : Int} (h : RS w g s p e) (he : (e == 0) = false) (n : Int) : Calls Try.prog 33 #[.pointer (some ⟨g, 0, none⟩), .int .i64 n] w fun r w' => r = .returned (.tuple #[]) ∧ w = w' := by
  obtain ⟨h0, h1, h2, _, _⟩ := h.cells
  go_enter Try.func33, Try.ntmps33
  go_wp2_with fail
  go_end0
  exact ⟨rfl, rfl⟩
theorem RFail_new {w : World} {g : Nat} {s : ByteArray} {p : Nat} (h : RS w g s p 0) (n : Int) : Calls Try.prog 33 #[.pointer (some ⟨g, 0, none⟩), .int .i64 n] w fun r w' => r = .returned (.tuple #[]) ∧ RS w' g s p n ∧ Alone w w' g := by
  obtain ⟨h0, h1, h2, f1, f2⟩ := h.cells
  have HR := Aside0.mk h
  clear h
  go_enter Try.func33, Try.ntmps33
  go_wp2_with fail
  go_end0
  exact ⟨rfl, blk_set HR.out 2 (.int .i64 n), Alone_set w 0 g 2 _⟩
end Go.Proofs.Ytikfdfagnalmbaa.My
