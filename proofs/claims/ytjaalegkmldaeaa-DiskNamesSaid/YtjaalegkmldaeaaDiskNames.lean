/- Of no disk: each call's answer; the law's walk. -/
import Derived.Test.YtjaalegkmldaeaaWWords
import Derived.Test.YtjaalegkmldaeaaProg
import Derived.Test.YtjaalegkmldaeaaWLast
namespace Go.Proofs.Ytjaalegkmldaeaa.My
open Go.RowKit Go.Proofs.YtjaalegkmldaeaaW.PrintWords Go.Proofs.YtjaalegkmldaeaaW.PrintLast Go.Proofs.Ytjaalegkmldaeaa
set_option maxRecDepth 100000
set_option maxHeartbeats 1000000
theorem nilReady (n : Int) (w : World) : Calls Try.prog 34 #[.pointer none, .int .i64 n] w fun e w' => e = .returned (.int .i64 2) ∧ w = w' := by
  go_enter Try.func34, Try.ntmps34
  go_wp2_with fail
  go_ret
  exact ⟨rfl, rfl⟩
theorem nilFuse (n : Int) (w : World) : Calls Try.prog 17 #[.pointer none, .int .i64 n] w fun e w' => e = .returned (.tuple #[]) ∧ w = w' := by
  go_enter Try.func17, Try.ntmps17
  go_wp2_with fail
  go_end0
  exact ⟨rfl, rfl⟩
theorem nilPages (w : World) : Calls Try.prog 19 #[.pointer none] w fun e w' => e = .returned (.int .i64 0) ∧ w = w' := by
  go_enter Try.func19, Try.ntmps19
  go_wp2_with fail
  go_ret
  exact ⟨rfl, rfl⟩
theorem nilPending (w : World) : Calls Try.prog 20 #[.pointer none] w fun e w' => e = .returned (.int .i64 0) ∧ w = w' := by
  go_enter Try.func20, Try.ntmps20
  go_wp2_with fail
  go_ret
  exact ⟨rfl, rfl⟩
theorem nilLit (w : World) : Calls Try.prog 21 #[.pointer none] w fun e w' => e = .returned (.bool false) ∧ w = w' := by
  go_enter Try.func21, Try.ntmps21
  go_wp2_with fail
  go_ret
  exact ⟨rfl, rfl⟩
theorem nilDurable (w : World) : Calls Try.prog 16 #[.pointer none] w fun e w' => e = .returned (.slice none 0 0) ∧ w = w' := by
  go_enter Try.func16, Try.ntmps16
  go_wp2_with fail
  go_ret
  exact ⟨rfl, rfl⟩
theorem nilCrash (w : World) : Calls Try.prog 15 #[.pointer none, .agg #[.slice none 0 0, .int .i64 0, .int .i64 0]] w fun e w' => e = .returned (.tuple #[]) ∧ Below w.heap.size w w' := by
  go_enter Try.func15, Try.ntmps15
  go_wp2_with fail
  refine bodyPost_ret (results_none rfl _ _ _) rfl ?_
  exact ⟨rfl, (Below.refl _ _).alloc (Nat.le_refl _) _⟩
theorem nilRead (n : Int) (w : World) : Calls Try.prog 18 #[.pointer none, .int .i64 n] w fun e w' => e = .returned (.tuple #[.slice none 0 0, .int .i64 2]) ∧ w = w' := by
  go_enter Try.func18, Try.ntmps18
  go_wp2_with (first | (go_at_call 34; refine (nilReady _ _).mono ?_; rintro e w1 ⟨rfl, rfl⟩))
  go_ret2
  exact ⟨rfl, rfl⟩
theorem nilWrite (n : Int) (A : Option Addr) (l c : Nat) (w : World) : Calls Try.prog 13 #[.pointer none, .int .i64 n, .slice A l c] w fun e w' => e = .returned (.int .i64 2) ∧ w = w' := by
  go_enter Try.func13, Try.ntmps13
  go_wp2_with (first | (go_at_call 34; refine (nilReady _ _).mono ?_; rintro e w1 ⟨rfl, rfl⟩))
  go_ret
  exact ⟨rfl, rfl⟩
theorem nilSync (w : World) : Calls Try.prog 14 #[.pointer none] w fun e w' => e = .returned (.int .i64 2) ∧ w = w' := by
  go_enter Try.func14, Try.ntmps14
  go_wp2_with (first | (go_at_call 34; refine (nilReady _ _).mono ?_; rintro e w1 ⟨rfl, rfl⟩))
  go_ret
  exact ⟨rfl, rfl⟩
theorem info5all : (Try.prog.info? 5).map (fun i => (i.zero, i.size, i.bytes)) = some (some (.int .u8 0), 1, 1) := by kernel_rfl
theorem make1024 (W : World) : (Instr.makeSlice 34 (.int .i64 1024) (.int .i64 1024)).run Try.prog W = .ok (.slice (some ⟨W.heap.size, 0, none⟩) 1024 1024) (W.alloc (.cells (madeCells #[.int .u8 0] 1024) 5)) :=
  print_make_int (P := Try.prog) 34 5 (.int .u8 0) 1 Try.underlying34 info5all rfl (by omega) 1024 (by omega) (by decide) W
theorem DiskNames_walk (w : World) : Calls Try.prog 4 #[] w fun e w' => e = .returned (.bool true) ∧ Below w.heap.size w w' := by
  have hmk := make1024
  go_enter Try.func4, Try.ntmps4
  go_wp2_with (first | (go_at_call 17; refine (nilFuse _ _).mono ?_; rintro e w1 ⟨rfl, rfl⟩) | (go_at_call 19; refine (nilPages _).mono ?_; rintro e w1 ⟨rfl, rfl⟩) | (go_at_call 20; refine (nilPending _).mono ?_; rintro e w1 ⟨rfl, rfl⟩) | (go_at_call 21; refine (nilLit _).mono ?_; rintro e w1 ⟨rfl, rfl⟩) | (go_at_call 16; refine (nilDurable _).mono ?_; rintro e w1 ⟨rfl, rfl⟩) | (go_at_call 18; refine (nilRead _ _).mono ?_; rintro e w1 ⟨rfl, rfl⟩) | (go_at_call 13; refine (nilWrite _ _ _ _ _).mono ?_; rintro e w1 ⟨rfl, rfl⟩) | (go_at_call 14; refine (nilSync _).mono ?_; rintro e w1 ⟨rfl, rfl⟩))
  refine (nilCrash _).mono ?_
  rintro e w1 ⟨rfl, HB⟩
  go_wp2_with (first | (go_at_call 17; refine (nilFuse _ _).mono ?_; rintro e w1 ⟨rfl, rfl⟩) | (go_at_call 19; refine (nilPages _).mono ?_; rintro e w1 ⟨rfl, rfl⟩) | (go_at_call 20; refine (nilPending _).mono ?_; rintro e w1 ⟨rfl, rfl⟩) | (go_at_call 21; refine (nilLit _).mono ?_; rintro e w1 ⟨rfl, rfl⟩) | (go_at_call 16; refine (nilDurable _).mono ?_; rintro e w1 ⟨rfl, rfl⟩) | (go_at_call 18; refine (nilRead _ _).mono ?_; rintro e w1 ⟨rfl, rfl⟩) | (go_at_call 13; refine (nilWrite _ _ _ _ _).mono ?_; rintro e w1 ⟨rfl, rfl⟩) | (go_at_call 14; refine (nilSync _).mono ?_; rintro e w1 ⟨rfl, rfl⟩))
  go_ret
  exact ⟨rfl, HB.alloc (below_size HB) _⟩
end Go.Proofs.Ytjaalegkmldaeaa.My
