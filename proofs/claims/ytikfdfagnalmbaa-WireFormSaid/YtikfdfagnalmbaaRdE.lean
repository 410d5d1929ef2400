/- Reader.End, Reader.Fail of a Reader in memory. -/
import Derived.Test.YtikfdfagnalmbaaRd
namespace Go.Proofs.Ytikfdfagnalmbaa.My
open Go.RowKit Go.Proofs.YtikfdfagnalmbaaW.PrintWords Go.Proofs.YtikfdfagnalmbaaW.PrintLast Go.Proofs.Ytikfdfagnalmbaa
set_option linter.unusedSimpArgs false
set_option linter.unusedVariables false
set_option maxRecDepth 100000
set_option maxHeartbeats 2000000
theorem End_err {w : World} {g : Nat} {s : ByteArray} {p : Nat} {e : Int} (h : RS w g s p e) (he : (e == 0) = false) : Calls Try.prog 28 #[.pointer (some ⟨g, 0, none⟩)] w fun r w' => r = .returned (.int .i64 e) ∧ ∃ m, w' = w.drewN m := by
  obtain ⟨h0, h1, h2, _, _⟩ := h.cells
  have HR := Aside0.mk h
  clear h
  go_enter Try.func28, Try.ntmps28
  go_wp2_with fail
  go_quiet (fail)
  go_wp2_with (first | (go_at_call 27; refine (Err_calls (blk_drewN HR.out _)).mono ?_; rintro e w1 ⟨rfl, rfl⟩))
  go_ret
  exact ⟨rfl, _, rfl⟩
theorem End_rest {w : World} {g : Nat} {s : ByteArray} {p : Nat} (h : RS w g s p 0) (hp : p < s.size) : Calls Try.prog 28 #[.pointer (some ⟨g, 0, none⟩)] w fun r w' => r = .returned (.int .i64 12) ∧ ∃ m, w' = w.drewN m := by
  obtain ⟨h0, h1, h2, _, _⟩ := h.cells
  have hd : decide ((p : Int) < (s.size : Int)) = true := decide_eq_true (by omega)
  clear h
  go_enter Try.func28, Try.ntmps28
  go_wp2_with fail
  go_quiet (fail)
  go_wp2_with fail
  go_ret
  exact ⟨rfl, _, rfl⟩
theorem End_done {w : World} {g : Nat} {s : ByteArray} {p : Nat} (h : RS w g s p 0) (hp : s.size ≤ p) : Calls Try.prog 28 #[.pointer (some ⟨g, 0, none⟩)] w fun r w' => r = .returned (.int .i64 0) ∧ ∃ m, w' = w.drewN m := by
  obtain ⟨h0, h1, h2, _, _⟩ := h.cells
  have hd : decide ((p : Int) < (s.size : Int)) = false := decide_eq_false (by omega)
  have HR := Aside0.mk h
  clear h
  go_enter Try.func28, Try.ntmps28
  go_wp2_with fail
  go_quiet (fail)
  go_wp2_with (first | (go_at_call 27; refine (Err_calls (blk_drewN HR.out _)).mono ?_; rintro e w1 ⟨rfl, rfl⟩))
  go_ret
  exact ⟨rfl, _, rfl⟩
end Go.Proofs.Ytikfdfagnalmbaa.My
