/- Reader.At. -/
import Derived.Test.YtikfdfagnalmbaaRd
namespace Go.Proofs.Ytikfdfagnalmbaa.My
open Go.RowKit Go.Proofs.YtikfdfagnalmbaaW.PrintWords Go.Proofs.YtikfdfagnalmbaaW.PrintLast Go.Proofs.Ytikfdfagnalmbaa
set_option linter.unusedSimpArgs false
set_option linter.unusedVariables false
set_option maxRecDepth 100000
set_option maxHeartbeats 2000000
theorem At_calls {w : World} {g : Nat} {s : ByteArray} {p : Nat} {e : Int} (h : RS w g s p e) : Calls Try.prog 25 #[.pointer (some ⟨g, 0, none⟩)] w fun r w' => r = .returned (.int .i64 p) ∧ w = w' := by
  obtain ⟨h0, h1, h2, _, _⟩ := h.cells
  go_enter Try.func25, Try.ntmps25
  go_wp2_with fail
  go_ret
  exact ⟨rfl, rfl⟩
end Go.Proofs.Ytikfdfagnalmbaa.My
