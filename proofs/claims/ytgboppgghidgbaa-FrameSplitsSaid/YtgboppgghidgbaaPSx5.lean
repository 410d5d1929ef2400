-- written by wip/mp.py of this claim's author, over the print of this machine
import Derived.Test.YtgboppgghidgbaaPSx0
namespace Go.Proofs.Ytgboppgghidgbaa.PS
open Go.Proofs.Ytgboppgghidgbaa.My
open Go.RowKit Go.Proofs.YtgboppgghidgbaaW.PrintWords Go.Proofs.YtgboppgghidgbaaW.PrintLast Go.Proofs.YtgboppgghidgbaaW.PrintMore
attribute [local go_sem] max2_int min2_int max_two min_two max_three min_three max_four min_four   -- for this text's walks alone
set_option linter.unusedVariables false
set_option linter.unusedSimpArgs false

/-! ### concordlaw21_times: function 20 -/
def concordlaw21_times.f (a0 : Int) : Option (Int) := if (Int.tmod a0 21) < 0 then (some (wrap64 ((Int.tmod a0 21) + 21))) else (some (Int.tmod a0 21))
set_option maxHeartbeats 8000000 in
set_option maxRecDepth 100000 in
theorem concordlaw21_times.calls (a0 : Int) (r : Int) (w : World) (h : concordlaw21_times.f a0 = some r) :
    Calls Try.prog 20 #[.int .i64 a0] w fun e w' => e = .returned (.int .i64 r) ∧ Drawn0 w w' := by
  have H : (if (Int.tmod a0 21) < 0 then (some (wrap64 ((Int.tmod a0 21) + 21))) else (some (Int.tmod a0 21))) = some r := h
  clear h
  by_cases c2 : (Int.tmod a0 21) < 0
  · rw [if_pos c2] at H
    have c2b0 : decide ((Int.tmod a0 21) < 0) = true := decide_eq_true c2
    clear c2
    obtain rfl := Option.some.inj H
    go_enter Try.func20, Try.ntmps20
    go_wp2
    go_ret
    exact ⟨by first | rfl | (simp; done) | (simp [*]; done), by repeat (first | exact Drawn0.refl _ | apply Drawn0.step)⟩
  · rw [if_neg c2] at H
    have c2b0 : decide ((Int.tmod a0 21) < 0) = false := decide_eq_false c2
    clear c2
    obtain rfl := Option.some.inj H
    go_enter Try.func20, Try.ntmps20
    go_wp2
    go_ret
    exact ⟨by first | rfl | (simp; done) | (simp [*]; done), by repeat (first | exact Drawn0.refl _ | apply Drawn0.step)⟩

-- NOT PRINTED: function 7 (concordlaw21_FrameSplits)

end Go.Proofs.Ytgboppgghidgbaa.PS
