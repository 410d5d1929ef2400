/- The numbers; of no writer and no reader. -/
import Derived.Test.YtgcmmiihjiiemaaWWords
import Derived.Test.YtgcmmiihjiiemaaProg
import Derived.Test.YtgcmmiihjiiemaaWLast
import Derived.Test.YtgcmmiihjiiemaaPVectorNamesx1
namespace Go.Proofs.Ytgcmmiihjiiemaa.My
open Go.RowKit Go.Proofs.YtgcmmiihjiiemaaW.PrintWords Go.Proofs.YtgcmmiihjiiemaaW.PrintLast Go.Proofs.Ytgcmmiihjiiemaa.PVectorNames Go.Proofs.Ytgcmmiihjiiemaa
set_option maxRecDepth 100000
set_option maxHeartbeats 1000000
theorem nilUint (n : Int) (w : World) : Calls Try.prog 53 #[.pointer none, .int .u64 n] w fun e w' => e = .returned (.int .u64 0) ∧ w = w' := by
  go_enter Try.func53, Try.ntmps53
  go_wp2_with fail
  go_ret
  exact ⟨rfl, rfl⟩
theorem nilErr (w : World) : Calls Try.prog 33 #[.pointer none] w fun e w' => e = .returned (.int .i64 2) ∧ w = w' := by
  go_enter Try.func33, Try.ntmps33
  go_wp2_with fail
  go_ret
  exact ⟨rfl, rfl⟩
theorem nilTake (w : World) : Calls Try.prog 19 #[.pointer none] w fun e w' => e = .returned (.slice none 0 0) ∧ w = w' := by
  go_enter Try.func19, Try.ntmps19
  go_wp2_with (first | (go_at_call 53; refine (nilUint _ _).mono ?_; rintro e w1 ⟨rfl, rfl⟩))
  go_loop [8] (fun i => i = .int .u64 0) (fun _ => 0)
  case atStart => exact rfl
  case round =>
    obtain rfl := hrel
    go_wp2_with (first | (go_at_call 33; refine (nilErr _).mono ?_; rintro e w1 ⟨rfl, rfl⟩))
    go_ret
    exact ⟨rfl, rfl⟩
theorem nilPut (A : Option Addr) (n c : Nat) (w : World) : Calls Try.prog 20 #[.pointer none, .slice A n c] w fun e w' => e = .returned (.int .i64 2) ∧ w = w' := by
  go_enter Try.func20, Try.ntmps20
  go_wp2_with fail
  go_ret
  exact ⟨rfl, rfl⟩
theorem newWriter (w : World) : Calls Try.prog 21 #[] w fun e w' => e = .returned (.pointer (some ⟨w.heap.size, 0, none⟩)) ∧ w' = w.alloc (.cells #[.slice none 0 0] 76 (0, 0)) := by
  go_enter Try.func21, Try.ntmps21
  go_wp2_with fail
  go_ret
  exact ⟨rfl, rfl⟩
theorem writerLen (a : Addr) (A : Option Addr) (n c : Nat) (w : World) (h : w.cell? a = some (.slice A n c)) : Calls Try.prog 22 #[.pointer (some a)] w fun e w' => e = .returned (.int .i64 n) ∧ w = w' := by
  go_enter Try.func22, Try.ntmps22
  go_wp2_with fail
  go_ret
  exact ⟨rfl, rfl⟩
theorem dotRow (g : Nat) (w : World) (h0 : w.cell? ⟨g, 0, none⟩ = some (.int .u32 1)) (h1 : w.cell? ⟨g, 1, none⟩ = some (.int .u64 0)) : Kd.C k35 w (some ⟨g, 0, none⟩) 1 [⟨1, 0⟩] := by
  refine ⟨rfl, by omega, fun _ => ⟨_, rfl, fun j p hj => ?_⟩⟩
  cases j with
  | succ j => simp at hj
  | zero =>
    obtain rfl := Option.some.inj hj
    refine ⟨_, rfl, k35_mk w _, fun i u hi => ?_⟩
    match i, hi with
    | 0, hi => obtain rfl := Option.some.inj hi; exact h0
    | 1, hi => obtain rfl := Option.some.inj hi; exact h1
theorem validOne (g : Nat) (w : World) (h : Kd.C k35 w (some ⟨g, 0, none⟩) 1 [⟨1, 0⟩]) : Calls Try.prog 41 #[.slice (some ⟨g, 0, none⟩) 1 1] w fun e w' => e = .returned (.bool false) ∧ Below w.heap.size w w' :=
  vector_Valid.calls 2 (some ⟨g, 0, none⟩) 1 [⟨1, 0⟩] false w h (Nat.le_refl _) (by decide)
theorem badPut (a g : Nat) (w : World) (h : Kd.C k35 w (some ⟨g, 0, none⟩) 1 [⟨1, 0⟩]) : Calls Try.prog 20 #[.pointer (some ⟨a, 0, none⟩), .slice (some ⟨g, 0, none⟩) 1 1] w fun e w' => e = .returned (.int .i64 100) ∧ Below w.heap.size w w' := by
  go_enter Try.func20, Try.ntmps20
  go_wp2_with (first | (go_at_call 41; refine (validOne _ _ h).mono ?_; rintro e w1 ⟨rfl, HB⟩))
  go_ret
  exact ⟨rfl, HB⟩
theorem VectorNames_walk (w : World) : Calls Try.prog 4 #[] w fun e w' => e = .returned (.bool true) ∧ Below w.heap.size w w' := by
  go_enter Try.func4, Try.ntmps4
  go_wp2_with (first | (go_at_call 19; refine (nilTake _).mono ?_; rintro e w1 ⟨rfl, rfl⟩))
  refine (nilPut _ _ _ _).mono ?_
  rintro e w1 ⟨rfl, rfl⟩
  go_wp2_with (first | (go_at_call 21; refine (newWriter _).mono ?_; rintro e w1 ⟨rfl, rfl⟩))
  obtain ⟨W, hW⟩ : ∃ W : World, W = (((w.alloc (Obj.cells #[Value.int IntKind.u32 1, Value.int IntKind.u64 0] 35)).alloc (Obj.cells #[Value.slice none 0 0] 76)).alloc (Obj.cells #[Value.int IntKind.u32 1, Value.int IntKind.u64 0] 35)) := ⟨_, rfl⟩
  have hB0 : Below w.heap.size w W := by
    rw [hW]
    exact (((Below.refl _ _).alloc (Nat.le_refl _) _).alloc (by simp) _).alloc (by simp; omega) _
  have hc : W.cell? ⟨w.heap.size + 1, 0, none⟩ = some (.slice none 0 0) := by
    rw [hW, World.cell?_alloc_past _ _ _ (by simp), World.cell?_alloc_at _ _ _ _ (by simp)]; rfl
  have hd : Kd.C k35 W (some ⟨w.heap.size + 1 + 1, 0, none⟩) 1 [⟨1, 0⟩] := by
    refine dotRow _ _ ?_ ?_
    · rw [hW, World.cell?_alloc_at _ _ _ _ (by simp)]; rfl
    · rw [hW, World.cell?_alloc_at _ _ _ _ (by simp)]; rfl
  rw [← hW]
  refine (badPut _ _ _ hd).mono ?_
  rintro e w4 ⟨rfl, HB⟩
  have hc4 := pw_cell_below HB hc
  have hB4 : Below w.heap.size w w4 := hB0.trans (HB.mono (below_size hB0))
  clear hc hd HB hB0 hW
  go_wp2_with (first | (go_at_call 22; refine (writerLen _ _ _ _ _ hc4).mono ?_; rintro e w1 ⟨rfl, rfl⟩))
  go_ret
  exact ⟨rfl, hB4⟩
end Go.Proofs.Ytgcmmiihjiiemaa.My
