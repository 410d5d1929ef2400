/- Writer.Fixed of what fits, Len, Told, NewWriter. -/
import Derived.Test.YtdjjpgdhnoibkaaWr
import Derived.Test.YtdjjpgdhnoibkaaBe
namespace Go.Proofs.Ytdjjpgdhnoibkaa.My
open Go.RowKit Go.Proofs.YtdjjpgdhnoibkaaW.PrintWords Go.Proofs.YtdjjpgdhnoibkaaW.PrintLast Go.Proofs.YtdjjpgdhnoibkaaW.PrintMore Go.Proofs.Ytdjjpgdhnoibkaa
set_option linter.unusedSimpArgs false
set_option linter.unusedVariables false
set_option maxRecDepth 100000
set_option maxHeartbeats 4000000
theorem Moved.drew {a b : World} {g : Nat} {u v : Value} (h : Moved a b g u v) : Moved a b.drew g u v := h
end Go.Proofs.Ytdjjpgdhnoibkaa.My
