-- written by wip/mp.py of this claim's author, over the print of this machine
import Derived.Test.YtdjjpgdhnoibkaaPZx0
import Derived.Test.YtdjjpgdhnoibkaaPZx3
namespace Go.Proofs.Ytdjjpgdhnoibkaa.PZ
open Go.Proofs.Ytdjjpgdhnoibkaa.My
attribute [local go_sem high] conv_rune str_leq str_gtr
open Go.RowKit Go.Proofs.YtdjjpgdhnoibkaaW.PrintWords Go.Proofs.YtdjjpgdhnoibkaaW.PrintLast Go.Proofs.YtdjjpgdhnoibkaaW.PrintMore
attribute [local go_sem] max2_int min2_int max_two min_two max_three min_three max_four min_four   -- for this text's walks alone
set_option linter.unusedVariables false
set_option linter.unusedSimpArgs false

/-! ### concordref08_Kid: function 19 -/
end Go.Proofs.Ytdjjpgdhnoibkaa.PZ
