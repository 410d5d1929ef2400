/- Writer.Text, Writer.Fixed of what does not fit, Writer.Small. -/
import Derived.Test.YtdjjpgdhnoibkaaWrU
import Derived.Test.YtdjjpgdhnoibkaaWrR
namespace Go.Proofs.Ytdjjpgdhnoibkaa.My
open Go.RowKit Go.Proofs.YtdjjpgdhnoibkaaW.PrintWords Go.Proofs.YtdjjpgdhnoibkaaW.PrintLast Go.Proofs.YtdjjpgdhnoibkaaW.PrintMore Go.Proofs.Ytdjjpgdhnoibkaa
set_option linter.unusedSimpArgs false
set_option linter.unusedVariables false
set_option maxRecDepth 100000
set_option maxHeartbeats 4000000
theorem uv_len : ∀ k v, (uv k v).length ≤ k + 1
  | 0, v => by simp [uv]
  | k + 1, v => by
    rw [uv]
    split
    · simp
    · have := uv_len k (v / 128); simp; omega
end Go.Proofs.Ytdjjpgdhnoibkaa.My
