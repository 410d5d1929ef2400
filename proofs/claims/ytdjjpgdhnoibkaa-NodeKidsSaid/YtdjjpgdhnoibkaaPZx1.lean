-- written by wip/mp.py of this claim's author, over the print of this machine
import Derived.Test.YtdjjpgdhnoibkaaSq
import Derived.Test.YtdjjpgdhnoibkaaPZx0
namespace Go.Proofs.Ytdjjpgdhnoibkaa.PZ
open Go.Proofs.Ytdjjpgdhnoibkaa.My
attribute [local go_sem high] conv_rune str_leq str_gtr
open Go.RowKit Go.Proofs.YtdjjpgdhnoibkaaW.PrintWords Go.Proofs.YtdjjpgdhnoibkaaW.PrintLast Go.Proofs.YtdjjpgdhnoibkaaW.PrintMore
attribute [local go_sem] max2_int min2_int max_two min_two max_three min_three max_four min_four   -- for this text's walks alone
set_option linter.unusedVariables false
set_option linter.unusedSimpArgs false

theorem eqA66 (d : Nat) (w : World) (x0 y0 : ByteArray) (x1 y1 : ByteArray) :
    (Op.equalIn (d + 2) 66 (.agg #[.string x0, .string x1]) (.agg #[.string y0, .string y1])).run Try.prog w = .ok (x0.toList == y0.toList && (x1.toList == y1.toList)) w := by
  refine eqA_of Try.underlying66 (by kernel_rfl) ?_
  refine eqf_cons (by rfl) (by go_simp; rfl) (by go_simp; rfl) (by go_simp) ?_
  exact eqf_last (by rfl) (by go_simp; rfl) (by go_simp; rfl) (by go_simp)
end Go.Proofs.Ytdjjpgdhnoibkaa.PZ
