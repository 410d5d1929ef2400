/- Of no writer and no reader: each call's answer; the law's walk. -/
import Derived.Test.YtikfdfagnalmbaaWWords
import Derived.Test.YtikfdfagnalmbaaProg
import Derived.Test.YtikfdfagnalmbaaWLast
namespace Go.Proofs.Ytikfdfagnalmbaa.My
open Go.RowKit Go.Proofs.YtikfdfagnalmbaaW.PrintWords Go.Proofs.YtikfdfagnalmbaaW.PrintLast Go.Proofs.Ytikfdfagnalmbaa
set_option maxRecDepth 100000
set_option maxHeartbeats 1000000
theorem wByte (n : Int) (w : World) : Calls Try.prog 59 #[.pointer none, .int .u8 n] w fun e w' => e = .returned (.tuple #[]) ∧ w = w' := by
  go_enter Try.func59, Try.ntmps59
  go_wp2_with fail
  go_end0
  exact ⟨rfl, rfl⟩
theorem wSmall (n : Int) (w : World) : Calls Try.prog 60 #[.pointer none, .int .i16 n] w fun e w' => e = .returned (.tuple #[]) ∧ w = w' := by
  go_enter Try.func60, Try.ntmps60
  go_wp2_with fail
  go_end0
  exact ⟨rfl, rfl⟩
theorem wFixed (v n : Int) (w : World) : Calls Try.prog 32 #[.pointer none, .int .u64 v, .int .i64 n] w fun e w' => e = .returned (.int .i64 2) ∧ w = w' := by
  go_enter Try.func32, Try.ntmps32
  go_wp2_with fail
  go_ret
  exact ⟨rfl, rfl⟩
theorem wUint (n : Int) (w : World) : Calls Try.prog 61 #[.pointer none, .int .u64 n] w fun e w' => e = .returned (.tuple #[]) ∧ w = w' := by
  go_enter Try.func61, Try.ntmps61
  go_wp2_with fail
  refine bodyPost_ret (results_none rfl _ _ _) rfl ?_
  exact ⟨rfl, rfl⟩
theorem wInt (w : World) : Calls Try.prog 62 #[.pointer none, .int .i64 0] w fun e w' => e = .returned (.tuple #[]) ∧ w = w' := by
  go_enter Try.func62, Try.ntmps62
  go_wp2_with (first | (go_at_call 61; refine (wUint _ _).mono ?_; rintro e w1 ⟨rfl, rfl⟩))
  go_end0
  exact ⟨rfl, rfl⟩
theorem wRaw (s : ByteArray) (w : World) : Calls Try.prog 65 #[.pointer none, .string s] w fun e w' => e = .returned (.tuple #[]) ∧ w = w' := by
  go_enter Try.func65, Try.ntmps65
  go_wp2_with fail
  go_end0
  exact ⟨rfl, rfl⟩
theorem wText (s : ByteArray) (w : World) : Calls Try.prog 64 #[.pointer none, .string s] w fun e w' => e = .returned (.tuple #[]) ∧ w = w' := by
  go_enter Try.func64, Try.ntmps64
  go_wp2_with (first | (go_at_call 61; refine (wUint _ _).mono ?_; rintro e w1 ⟨rfl, rfl⟩) | (go_at_call 65; refine (wRaw _ _).mono ?_; rintro e w1 ⟨rfl, rfl⟩))
  go_end0
  exact ⟨rfl, rfl⟩
theorem wLen (w : World) : Calls Try.prog 22 #[.pointer none] w fun e w' => e = .returned (.int .i64 0) ∧ w = w' := by
  go_enter Try.func22, Try.ntmps22
  go_wp2_with fail
  go_ret
  exact ⟨rfl, rfl⟩
theorem wTold (w : World) : Calls Try.prog 23 #[.pointer none] w fun e w' => e = .returned (.string ⟨#[]⟩) ∧ w = w' := by
  go_enter Try.func23, Try.ntmps23
  go_wp2_with fail
  go_ret
  exact ⟨rfl, rfl⟩
theorem rFail (n : Int) (w : World) : Calls Try.prog 33 #[.pointer none, .int .i64 n] w fun e w' => e = .returned (.tuple #[]) ∧ w = w' := by
  go_enter Try.func33, Try.ntmps33
  go_wp2_with fail
  go_end0
  exact ⟨rfl, rfl⟩
theorem rTake (n : Int) (w : World) : Calls Try.prog 75 #[.pointer none, .int .i64 n] w fun e w' => e = .returned (.tuple #[.string ⟨#[]⟩, .bool false]) ∧ w = w' := by
  go_enter Try.func75, Try.ntmps75
  go_wp2_with fail
  go_ret2
  exact ⟨rfl, rfl⟩
theorem high0 (w : World) : Calls Try.prog 76 #[.string ⟨#[]⟩] w fun e w' => e = .returned (.int .u64 0) ∧ w = w' := by
  go_enter Try.func76, Try.ntmps76
  go_wp2_with fail
  go_loop [3, 7] (fun v i => v = .int .u64 0 ∧ i = .int .i64 0) (fun _ _ => 0)
  case atStart => exact ⟨rfl, rfl⟩
  case round =>
    obtain ⟨rfl, rfl⟩ := hrel
    go_wp2_with fail
    go_ret
    exact ⟨rfl, rfl⟩
theorem frombits0 (W : World) : (callFunc 57 #[.int .u64 0]).run Try.prog W = .ok (.value (.float .f64 0)) W := by
  rw [run_callFunc_extern Try.func57 (by kernel_rfl) (by kernel_rfl) (by kernel_rfl) (e := Extern.MathFloatBits.float64frombits) (by kernel_rfl)]; rfl
theorem bits0 (W : World) : (callFunc 77 #[.float .f64 0]).run Try.prog W = .ok (.value (.int .u64 0)) W := by
  rw [run_callFunc_extern Try.func77 (by kernel_rfl) (by kernel_rfl) (by kernel_rfl) (e := Extern.MathFloatBits.float64bits) (by kernel_rfl)]; rfl
theorem fneq (W : World) : (binOp .neq 67 (.float .f64 0) (.float .f64 0)).run Try.prog W = .ok (.bool false) W := by kernel_rfl
theorem isNaN0 (w : World) : Calls Try.prog 78 #[.float .f64 0] w fun e w' => e = .returned (.bool false) ∧ w = w' := by
  have h := fneq
  go_enter Try.func78, Try.ntmps78
  go_wp2_with fail
  go_ret
  exact ⟨rfl, rfl⟩
theorem same0 (w : World) : Calls Try.prog 39 #[.float .f64 0, .float .f64 0] w fun e w' => e = .returned (.bool true) ∧ w = w' := by
  have h := fneq
  have h2 := bits0
  go_enter Try.func39, Try.ntmps39
  go_wp2_with fail
  go_ret
  exact ⟨rfl, rfl⟩
theorem wFloat (w : World) : Calls Try.prog 63 #[.pointer none, .float .f64 0] w fun e w' => e = .returned (.tuple #[]) ∧ w = w' := by
  have h2 := bits0
  go_enter Try.func63, Try.ntmps63
  go_wp2_with (first | (go_at_call 78; refine (isNaN0 _).mono ?_; rintro e w1 ⟨rfl, rfl⟩) | (go_at_call 32; refine (wFixed _ _ _).mono ?_; rintro e w1 ⟨rfl, rfl⟩))
  go_end0
  exact ⟨rfl, rfl⟩
theorem rFloat (w : World) : Calls Try.prog 40 #[.pointer none] w fun e w' => e = .returned (.float .f64 0) ∧ w = w' := by
  go_enter Try.func40, Try.ntmps40
  go_wp2_with (first | (go_at_call 75; refine (rTake _ _).mono ?_; rintro e w1 ⟨rfl, rfl⟩))
  go_ret
  exact ⟨rfl, rfl⟩
theorem rByte (w : World) : Calls Try.prog 34 #[.pointer none] w fun e w' => e = .returned (.int .u8 0) ∧ w = w' := by
  go_enter Try.func34, Try.ntmps34
  go_wp2_with (first | (go_at_call 75; refine (rTake _ _).mono ?_; rintro e w1 ⟨rfl, rfl⟩) | (go_at_call 76; refine (high0 _).mono ?_; rintro e w1 ⟨rfl, rfl⟩))
  go_ret
  exact ⟨rfl, rfl⟩
theorem rSmall (w : World) : Calls Try.prog 35 #[.pointer none] w fun e w' => e = .returned (.int .i16 0) ∧ w = w' := by
  go_enter Try.func35, Try.ntmps35
  go_wp2_with (first | (go_at_call 75; refine (rTake _ _).mono ?_; rintro e w1 ⟨rfl, rfl⟩) | (go_at_call 76; refine (high0 _).mono ?_; rintro e w1 ⟨rfl, rfl⟩))
  go_ret
  exact ⟨rfl, rfl⟩
theorem rFixed (w : World) : Calls Try.prog 36 #[.pointer none, .int .i64 9] w fun e w' => e = .returned (.int .u64 0) ∧ w = w' := by
  go_enter Try.func36, Try.ntmps36
  go_wp2_with (first | (go_at_call 75; refine (rTake _ _).mono ?_; rintro e w1 ⟨rfl, rfl⟩) | (go_at_call 76; refine (high0 _).mono ?_; rintro e w1 ⟨rfl, rfl⟩) | (go_at_call 33; refine (rFail _ _).mono ?_; rintro e w1 ⟨rfl, rfl⟩))
  go_ret
  exact ⟨rfl, rfl⟩
theorem rUint (n : Int) (w : World) : Calls Try.prog 37 #[.pointer none, .int .u64 n] w fun e w' => e = .returned (.int .u64 0) ∧ w = w' := by
  go_enter Try.func37, Try.ntmps37
  go_wp2_with fail
  go_ret
  exact ⟨rfl, rfl⟩
theorem rInt (w : World) : Calls Try.prog 38 #[.pointer none] w fun e w' => e = .returned (.int .i64 0) ∧ w = w' := by
  go_enter Try.func38, Try.ntmps38
  go_wp2_with (first | (go_at_call 37; refine (rUint _ _).mono ?_; rintro e w1 ⟨rfl, rfl⟩))
  go_ret
  exact ⟨by kernel_rfl, rfl⟩
theorem rText (w : World) : Calls Try.prog 41 #[.pointer none, .int .i64 (-1)] w fun e w' => e = .returned (.string ⟨#[]⟩) ∧ w = w' := by
  go_enter Try.func41, Try.ntmps41
  go_wp2_with fail
  go_ret
  exact ⟨rfl, rfl⟩
theorem rRaw (w : World) : Calls Try.prog 42 #[.pointer none, .int .i64 (-1)] w fun e w' => e = .returned (.string ⟨#[]⟩) ∧ w = w' := by
  go_enter Try.func42, Try.ntmps42
  go_wp2_with (first | (go_at_call 75; refine (rTake _ _).mono ?_; rintro e w1 ⟨rfl, rfl⟩) | (go_at_call 33; refine (rFail _ _).mono ?_; rintro e w1 ⟨rfl, rfl⟩))
  go_ret
  exact ⟨rfl, rfl⟩
theorem rAt (w : World) : Calls Try.prog 25 #[.pointer none] w fun e w' => e = .returned (.int .i64 0) ∧ w = w' := by
  go_enter Try.func25, Try.ntmps25
  go_wp2_with fail
  go_ret
  exact ⟨rfl, rfl⟩
theorem rLeft (w : World) : Calls Try.prog 26 #[.pointer none] w fun e w' => e = .returned (.int .i64 0) ∧ w = w' := by
  go_enter Try.func26, Try.ntmps26
  go_wp2_with fail
  go_ret
  exact ⟨rfl, rfl⟩
theorem rErr (w : World) : Calls Try.prog 27 #[.pointer none] w fun e w' => e = .returned (.int .i64 2) ∧ w = w' := by
  go_enter Try.func27, Try.ntmps27
  go_wp2_with fail
  go_ret
  exact ⟨rfl, rfl⟩
theorem rEnd (w : World) : Calls Try.prog 28 #[.pointer none] w fun e w' => e = .returned (.int .i64 2) ∧ Below w.heap.size w w' := by
  go_enter Try.func28, Try.ntmps28
  go_wp2_with (first | (go_at_call 27; refine (rErr _).mono ?_; rintro e w1 ⟨rfl, rfl⟩))
  go_quiet (fail)
  go_wp2_with (first | (go_at_call 27; refine (rErr _).mono ?_; rintro e w1 ⟨rfl, rfl⟩))
  go_ret
  exact ⟨rfl, pw_below_drewN (Below.refl _ _) _⟩
theorem put0 (w : World) : Calls Try.prog 21 #[.pointer none, .agg #[.int .i64 0, .int .i64 0, .int .i64 9, .int .u64 0, .string ⟨#[120]⟩]] w fun e w' => e = .returned (.int .i64 0) ∧ Below w.heap.size w w' := by
  have h := frombits0
  go_enter Try.func21, Try.ntmps21
  go_wp2_with (first | (go_at_call 59; refine (wByte _ _).mono ?_; rintro e w1 ⟨rfl, rfl⟩) | (go_at_call 60; refine (wSmall _ _).mono ?_; rintro e w1 ⟨rfl, rfl⟩) | (go_at_call 32; refine (wFixed _ _ _).mono ?_; rintro e w1 ⟨rfl, rfl⟩) | (go_at_call 61; refine (wUint _ _).mono ?_; rintro e w1 ⟨rfl, rfl⟩) | (go_at_call 62; refine (wInt _).mono ?_; rintro e w1 ⟨rfl, rfl⟩) | (go_at_call 63; refine (wFloat _).mono ?_; rintro e w1 ⟨rfl, rfl⟩) | (go_at_call 64; refine (wText _ _).mono ?_; rintro e w1 ⟨rfl, rfl⟩) | (go_at_call 65; refine (wRaw _ _).mono ?_; rintro e w1 ⟨rfl, rfl⟩))
  go_ret
  exact ⟨rfl, (Below.refl _ _).alloc (Nat.le_refl _) _⟩
theorem put1 (w : World) : Calls Try.prog 21 #[.pointer none, .agg #[.int .i64 0, .int .i64 1, .int .i64 9, .int .u64 0, .string ⟨#[120]⟩]] w fun e w' => e = .returned (.int .i64 0) ∧ Below w.heap.size w w' := by
  have h := frombits0
  go_enter Try.func21, Try.ntmps21
  go_wp2_with (first | (go_at_call 59; refine (wByte _ _).mono ?_; rintro e w1 ⟨rfl, rfl⟩) | (go_at_call 60; refine (wSmall _ _).mono ?_; rintro e w1 ⟨rfl, rfl⟩) | (go_at_call 32; refine (wFixed _ _ _).mono ?_; rintro e w1 ⟨rfl, rfl⟩) | (go_at_call 61; refine (wUint _ _).mono ?_; rintro e w1 ⟨rfl, rfl⟩) | (go_at_call 62; refine (wInt _).mono ?_; rintro e w1 ⟨rfl, rfl⟩) | (go_at_call 63; refine (wFloat _).mono ?_; rintro e w1 ⟨rfl, rfl⟩) | (go_at_call 64; refine (wText _ _).mono ?_; rintro e w1 ⟨rfl, rfl⟩) | (go_at_call 65; refine (wRaw _ _).mono ?_; rintro e w1 ⟨rfl, rfl⟩))
  go_ret
  exact ⟨rfl, (Below.refl _ _).alloc (Nat.le_refl _) _⟩
theorem put2 (w : World) : Calls Try.prog 21 #[.pointer none, .agg #[.int .i64 0, .int .i64 2, .int .i64 9, .int .u64 0, .string ⟨#[120]⟩]] w fun e w' => e = .returned (.int .i64 2) ∧ Below w.heap.size w w' := by
  have h := frombits0
  go_enter Try.func21, Try.ntmps21
  go_wp2_with (first | (go_at_call 59; refine (wByte _ _).mono ?_; rintro e w1 ⟨rfl, rfl⟩) | (go_at_call 60; refine (wSmall _ _).mono ?_; rintro e w1 ⟨rfl, rfl⟩) | (go_at_call 32; refine (wFixed _ _ _).mono ?_; rintro e w1 ⟨rfl, rfl⟩) | (go_at_call 61; refine (wUint _ _).mono ?_; rintro e w1 ⟨rfl, rfl⟩) | (go_at_call 62; refine (wInt _).mono ?_; rintro e w1 ⟨rfl, rfl⟩) | (go_at_call 63; refine (wFloat _).mono ?_; rintro e w1 ⟨rfl, rfl⟩) | (go_at_call 64; refine (wText _ _).mono ?_; rintro e w1 ⟨rfl, rfl⟩) | (go_at_call 65; refine (wRaw _ _).mono ?_; rintro e w1 ⟨rfl, rfl⟩))
  go_ret
  exact ⟨rfl, (Below.refl _ _).alloc (Nat.le_refl _) _⟩
theorem put3 (w : World) : Calls Try.prog 21 #[.pointer none, .agg #[.int .i64 0, .int .i64 3, .int .i64 9, .int .u64 0, .string ⟨#[120]⟩]] w fun e w' => e = .returned (.int .i64 0) ∧ Below w.heap.size w w' := by
  have h := frombits0
  go_enter Try.func21, Try.ntmps21
  go_wp2_with (first | (go_at_call 59; refine (wByte _ _).mono ?_; rintro e w1 ⟨rfl, rfl⟩) | (go_at_call 60; refine (wSmall _ _).mono ?_; rintro e w1 ⟨rfl, rfl⟩) | (go_at_call 32; refine (wFixed _ _ _).mono ?_; rintro e w1 ⟨rfl, rfl⟩) | (go_at_call 61; refine (wUint _ _).mono ?_; rintro e w1 ⟨rfl, rfl⟩) | (go_at_call 62; refine (wInt _).mono ?_; rintro e w1 ⟨rfl, rfl⟩) | (go_at_call 63; refine (wFloat _).mono ?_; rintro e w1 ⟨rfl, rfl⟩) | (go_at_call 64; refine (wText _ _).mono ?_; rintro e w1 ⟨rfl, rfl⟩) | (go_at_call 65; refine (wRaw _ _).mono ?_; rintro e w1 ⟨rfl, rfl⟩))
  go_ret
  exact ⟨rfl, (Below.refl _ _).alloc (Nat.le_refl _) _⟩
theorem put4 (w : World) : Calls Try.prog 21 #[.pointer none, .agg #[.int .i64 0, .int .i64 4, .int .i64 9, .int .u64 0, .string ⟨#[120]⟩]] w fun e w' => e = .returned (.int .i64 0) ∧ Below w.heap.size w w' := by
  have h := frombits0
  go_enter Try.func21, Try.ntmps21
  go_wp2_with (first | (go_at_call 59; refine (wByte _ _).mono ?_; rintro e w1 ⟨rfl, rfl⟩) | (go_at_call 60; refine (wSmall _ _).mono ?_; rintro e w1 ⟨rfl, rfl⟩) | (go_at_call 32; refine (wFixed _ _ _).mono ?_; rintro e w1 ⟨rfl, rfl⟩) | (go_at_call 61; refine (wUint _ _).mono ?_; rintro e w1 ⟨rfl, rfl⟩) | (go_at_call 62; refine (wInt _).mono ?_; rintro e w1 ⟨rfl, rfl⟩) | (go_at_call 63; refine (wFloat _).mono ?_; rintro e w1 ⟨rfl, rfl⟩) | (go_at_call 64; refine (wText _ _).mono ?_; rintro e w1 ⟨rfl, rfl⟩) | (go_at_call 65; refine (wRaw _ _).mono ?_; rintro e w1 ⟨rfl, rfl⟩))
  go_ret
  exact ⟨rfl, (Below.refl _ _).alloc (Nat.le_refl _) _⟩
theorem put5 (w : World) : Calls Try.prog 21 #[.pointer none, .agg #[.int .i64 0, .int .i64 5, .int .i64 9, .int .u64 0, .string ⟨#[120]⟩]] w fun e w' => e = .returned (.int .i64 0) ∧ Below w.heap.size w w' := by
  have h := frombits0
  go_enter Try.func21, Try.ntmps21
  go_wp2_with (first | (go_at_call 59; refine (wByte _ _).mono ?_; rintro e w1 ⟨rfl, rfl⟩) | (go_at_call 60; refine (wSmall _ _).mono ?_; rintro e w1 ⟨rfl, rfl⟩) | (go_at_call 32; refine (wFixed _ _ _).mono ?_; rintro e w1 ⟨rfl, rfl⟩) | (go_at_call 61; refine (wUint _ _).mono ?_; rintro e w1 ⟨rfl, rfl⟩) | (go_at_call 62; refine (wInt _).mono ?_; rintro e w1 ⟨rfl, rfl⟩) | (go_at_call 63; refine (wFloat _).mono ?_; rintro e w1 ⟨rfl, rfl⟩) | (go_at_call 64; refine (wText _ _).mono ?_; rintro e w1 ⟨rfl, rfl⟩) | (go_at_call 65; refine (wRaw _ _).mono ?_; rintro e w1 ⟨rfl, rfl⟩))
  go_ret
  exact ⟨rfl, (Below.refl _ _).alloc (Nat.le_refl _) _⟩
theorem put6 (w : World) : Calls Try.prog 21 #[.pointer none, .agg #[.int .i64 0, .int .i64 6, .int .i64 9, .int .u64 0, .string ⟨#[120]⟩]] w fun e w' => e = .returned (.int .i64 0) ∧ Below w.heap.size w w' := by
  have h := frombits0
  go_enter Try.func21, Try.ntmps21
  go_wp2_with (first | (go_at_call 59; refine (wByte _ _).mono ?_; rintro e w1 ⟨rfl, rfl⟩) | (go_at_call 60; refine (wSmall _ _).mono ?_; rintro e w1 ⟨rfl, rfl⟩) | (go_at_call 32; refine (wFixed _ _ _).mono ?_; rintro e w1 ⟨rfl, rfl⟩) | (go_at_call 61; refine (wUint _ _).mono ?_; rintro e w1 ⟨rfl, rfl⟩) | (go_at_call 62; refine (wInt _).mono ?_; rintro e w1 ⟨rfl, rfl⟩) | (go_at_call 63; refine (wFloat _).mono ?_; rintro e w1 ⟨rfl, rfl⟩) | (go_at_call 64; refine (wText _ _).mono ?_; rintro e w1 ⟨rfl, rfl⟩) | (go_at_call 65; refine (wRaw _ _).mono ?_; rintro e w1 ⟨rfl, rfl⟩))
  go_ret
  exact ⟨rfl, (Below.refl _ _).alloc (Nat.le_refl _) _⟩
theorem put7 (w : World) : Calls Try.prog 21 #[.pointer none, .agg #[.int .i64 0, .int .i64 7, .int .i64 9, .int .u64 0, .string ⟨#[120]⟩]] w fun e w' => e = .returned (.int .i64 0) ∧ Below w.heap.size w w' := by
  have h := frombits0
  go_enter Try.func21, Try.ntmps21
  go_wp2_with (first | (go_at_call 59; refine (wByte _ _).mono ?_; rintro e w1 ⟨rfl, rfl⟩) | (go_at_call 60; refine (wSmall _ _).mono ?_; rintro e w1 ⟨rfl, rfl⟩) | (go_at_call 32; refine (wFixed _ _ _).mono ?_; rintro e w1 ⟨rfl, rfl⟩) | (go_at_call 61; refine (wUint _ _).mono ?_; rintro e w1 ⟨rfl, rfl⟩) | (go_at_call 62; refine (wInt _).mono ?_; rintro e w1 ⟨rfl, rfl⟩) | (go_at_call 63; refine (wFloat _).mono ?_; rintro e w1 ⟨rfl, rfl⟩) | (go_at_call 64; refine (wText _ _).mono ?_; rintro e w1 ⟨rfl, rfl⟩) | (go_at_call 65; refine (wRaw _ _).mono ?_; rintro e w1 ⟨rfl, rfl⟩))
  go_ret
  exact ⟨rfl, (Below.refl _ _).alloc (Nat.le_refl _) _⟩
theorem put8 (w : World) : Calls Try.prog 21 #[.pointer none, .agg #[.int .i64 0, .int .i64 8, .int .i64 9, .int .u64 0, .string ⟨#[120]⟩]] w fun e w' => e = .returned (.int .i64 0) ∧ Below w.heap.size w w' := by
  have h := frombits0
  go_enter Try.func21, Try.ntmps21
  go_wp2_with (first | (go_at_call 59; refine (wByte _ _).mono ?_; rintro e w1 ⟨rfl, rfl⟩) | (go_at_call 60; refine (wSmall _ _).mono ?_; rintro e w1 ⟨rfl, rfl⟩) | (go_at_call 32; refine (wFixed _ _ _).mono ?_; rintro e w1 ⟨rfl, rfl⟩) | (go_at_call 61; refine (wUint _ _).mono ?_; rintro e w1 ⟨rfl, rfl⟩) | (go_at_call 62; refine (wInt _).mono ?_; rintro e w1 ⟨rfl, rfl⟩) | (go_at_call 63; refine (wFloat _).mono ?_; rintro e w1 ⟨rfl, rfl⟩) | (go_at_call 64; refine (wText _ _).mono ?_; rintro e w1 ⟨rfl, rfl⟩) | (go_at_call 65; refine (wRaw _ _).mono ?_; rintro e w1 ⟨rfl, rfl⟩))
  go_ret
  exact ⟨rfl, (Below.refl _ _).alloc (Nat.le_refl _) _⟩
end Go.Proofs.Ytikfdfagnalmbaa.My
