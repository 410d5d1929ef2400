/- fit: a frame brought within what it may be. -/
import Derived.Test.YtgboppgghidgbaaFrMay
namespace Go.Proofs.Ytgboppgghidgbaa.My
open Go.RowKit Go.Proofs.YtgboppgghidgbaaW.PrintWords Go.Proofs.YtgboppgghidgbaaW.PrintLast Go.Proofs.YtgboppgghidgbaaW.PrintMore Go.Proofs.Ytgboppgghidgbaa
set_option linter.unusedSimpArgs false
set_option linter.unusedVariables false
set_option maxRecDepth 100000
set_option maxHeartbeats 1600000
theorem low_calls (a : Nat) (w : World) (ha : a < 256) : Calls Try.prog 47 #[.int .u8 a] w fun r w' => r = .returned (.int .u8 ((a % 5 + 1 : Nat) : Int)) ∧ w = w' := by
  have h1 : Int.tmod (a : Int) 5 = ((a % 5 : Nat) : Int) := by rw [Int.tmod_eq_emod_of_nonneg (by omega)]; omega
  go_enter Try.func47, Try.ntmps47
  go_wp2_with fail
  go_ret
  exact ⟨rfl, rfl⟩
/-- A frame brought within what it may be. -/
def fitV (a b c d e t g : Nat) (h : Bool) (s : ByteArray) : Value := .agg #[.int .u8 ((a : Int) % 5 + 1), .int .u8 (if ((b : Int) % 5 + 1 == (a : Int) % 5 + 1) = true then ((a : Int) + 1) % 5 + 1 else (b : Int) % 5 + 1), .int .u8 (if h = true then (if ((b : Int) % 5 + 1 == (a : Int) % 5 + 1) = true then ((a : Int) + 1) % 5 + 1 else (b : Int) % 5 + 1) else (a : Int) % 5 + 1), .int .u16 (if (d : Int) < 1 then 1 else d), .int .u32 (if (e : Int) < 1 then 1 else e), .int .u64 t, .int .u32 (if (g : Int) < 1 then 1 else g), .bool h, .string (if 8158 < (s.size : Int) then s.extract 0 8158 else s)]
theorem fit_walk (a b c d e t g : Nat) (h : Bool) (s : ByteArray) (w : World) (ha : a < 256) (hb : b < 256) : Calls Try.prog 16 #[.agg #[.int .u8 a, .int .u8 b, .int .u8 c, .int .u16 d, .int .u32 e, .int .u64 t, .int .u32 g, .bool h, .string s]] w fun r w' => r = .returned (fitV a b c d e t g h s) ∧ Below w.heap.size w w' := by
  go_enter Try.func16, Try.ntmps16
  go_wp2_with fail
  refine (low_calls a _ ha).mono ?_
  rintro e_ w1 ⟨rfl, rfl⟩
  go_wp2_with fail
  refine (low_calls b _ hb).mono ?_
  rintro e_ w1 ⟨rfl, rfl⟩
  go_wp2_with fail
  all_goals refine bodyPost_ret (v := fitV a b c d e t g _ s) (by simp [results, Try.results16, go_sem, fitV, *] <;> (repeat' apply And.intro) <;> intros <;> first | omega | (exfalso; omega)) rfl ⟨rfl, ?_⟩
  all_goals repeat (first | (with_reducible exact Below.refl _ _) | (with_reducible apply below_alloc) | (with_reducible refine below_set ?_ (Nat.le_refl _)) | (with_reducible refine below_set ?_ (Nat.le_succ _)))
end Go.Proofs.Ytgboppgghidgbaa.My
