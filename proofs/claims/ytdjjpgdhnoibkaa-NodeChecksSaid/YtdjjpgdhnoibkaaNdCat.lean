/- slices.Clone and slices.Concat, by hand. -/
import Derived.Test.YtdjjpgdhnoibkaaNdEnc
import Derived.Lib.SliceRun
namespace Go.Proofs.Ytdjjpgdhnoibkaa.My
open Go.RowKit Go.Proofs.YtdjjpgdhnoibkaaW.PrintWords Go.Proofs.YtdjjpgdhnoibkaaW.PrintLast Go.Proofs.YtdjjpgdhnoibkaaW.PrintMore Go.Proofs.Ytdjjpgdhnoibkaa Go.Proofs.Ytdjjpgdhnoibkaa.PZ
set_option linter.unusedSimpArgs false
set_option linter.unusedVariables false
set_option maxRecDepth 100000
set_option maxHeartbeats 1600000
attribute [local go_sem high] conv_rune str_leq str_gtr
theorem cis0 : (Try.prog.info? 9).isSome = true := by kernel_rfl
theorem ciu0 : (Try.prog.info? 45).isSome = true := by kernel_rfl
theorem cic0 : (Try.prog.info? 66).isSome = true := by kernel_rfl
end Go.Proofs.Ytdjjpgdhnoibkaa.My
