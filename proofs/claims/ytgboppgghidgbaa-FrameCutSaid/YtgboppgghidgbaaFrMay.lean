/- frame.may: may a frame be. -/
import Derived.Test.YtgboppgghidgbaaFrW4
namespace Go.Proofs.Ytgboppgghidgbaa.My
open Go.RowKit Go.Proofs.YtgboppgghidgbaaW.PrintWords Go.Proofs.YtgboppgghidgbaaW.PrintLast Go.Proofs.YtgboppgghidgbaaW.PrintMore Go.Proofs.Ytgboppgghidgbaa
set_option linter.unusedSimpArgs false
set_option linter.unusedVariables false
set_option maxRecDepth 100000
set_option maxHeartbeats 800000
/-- May a frame be. -/
def May (a b c d e g : Nat) (h : Bool) (n : Nat) : Prop := (1 ≤ a ∧ a ≤ 5) ∧ (1 ≤ b ∧ b ≤ 5) ∧ a ≠ b ∧ c = (if h = true then b else a) ∧ d ≠ 0 ∧ e ≠ 0 ∧ g ≠ 0 ∧ n ≤ 8158
instance (a b c d e g : Nat) (h : Bool) (n : Nat) : Decidable (May a b c d e g h n) := by unfold May; infer_instance
theorem may_last {a b c d e g : Nat} {h : Bool} {n : Nat} (k : g ≠ 0 ∧ n ≤ 8158 → May a b c d e g h n) : ((g : Int) != 0 && decide ((n : Int) ≤ 8158)) = decide (May a b c d e g h n) := by
  rw [Bool.eq_iff_iff]
  simp only [Bool.and_eq_true, bne_iff_ne, decide_eq_true_eq]
  constructor
  · intro z; exact k ⟨by omega, by omega⟩
  · intro z
    have := z.2.2.2.2.2.2
    omega
theorem idx0 (x y : Int) (W : World) : (Instr.index 95 (.agg #[.int .u8 x, .int .u8 y]) (.int .i64 0)).run Try.prog W = .ok (.int .u8 x) W := by kernel_rfl
theorem idx1 (x y : Int) (W : World) : (Instr.index 95 (.agg #[.int .u8 x, .int .u8 y]) (.int .i64 1)).run Try.prog W = .ok (.int .u8 y) W := by kernel_rfl
theorem may_walk (a b c d e t g : Nat) (h : Bool) (s : ByteArray) (w : World) (ha : a < 256) (hb : b < 256) : Calls Try.prog 29 #[.agg #[.int .u8 a, .int .u8 b, .int .u8 c, .int .u16 d, .int .u32 e, .int .u64 t, .int .u32 g, .bool h, .string s]] w fun r w' => r = .returned (.bool (decide (May a b c d e g h s.size))) ∧ Below w.heap.size w w' := by
  generalize hM : decide (May a b c d e g h s.size) = M
  have HM := Aside0.mk hM
  clear hM
  cases h
  all_goals
    have hab : ((a : Int) == b) = decide (a = b) := by rw [Bool.eq_iff_iff, beq_iff_eq, decide_eq_true_eq]; omega
    have hcb : ((c : Int) == b) = decide (c = b) := by rw [Bool.eq_iff_iff, beq_iff_eq, decide_eq_true_eq]; omega
    have hca : ((c : Int) == a) = decide (c = a) := by rw [Bool.eq_iff_iff, beq_iff_eq, decide_eq_true_eq]; omega
    have hd : ((d : Int) == 0) = decide (d = 0) := by rw [Bool.eq_iff_iff, beq_iff_eq, decide_eq_true_eq]; omega
    have he : ((e : Int) == 0) = decide (e = 0) := by rw [Bool.eq_iff_iff, beq_iff_eq, decide_eq_true_eq]; omega
    have hg : ((g : Int) == 0) = decide (g = 0) := by rw [Bool.eq_iff_iff, beq_iff_eq, decide_eq_true_eq]; omega
    have hi0 := idx0
    have hi1 := idx1
    go_enter Try.func29, Try.ntmps29
    go_wp2_with fail
    go_loop [17] (fun i => ∃ n : Nat, n ≤ 2 ∧ i = .int .i64 (n : Int) ∧ (1 ≤ n → 1 ≤ a ∧ a ≤ 5) ∧ (2 ≤ n → 1 ≤ b ∧ b ≤ 5)) (fun i => (2 - intOf i).toNat)
    case atStart => exact ⟨0, by omega, rfl, by omega, by omega⟩
    case round =>
      obtain ⟨n, hn, rfl, h1, h2⟩ := hrel
      obtain rfl | rfl | rfl : n = 0 ∨ n = 1 ∨ n = 2 := by omega
      · clear h1 h2
        go_wp2_with fail
        all_goals first | (go_ret; refine ⟨?_, (Below.refl _ _).alloc (Nat.le_refl _) _⟩; show Ending.returned (Value.bool false) = _; rw [← HM.out]; exact congrArg (fun x => Ending.returned (Value.bool x)) (decide_eq_false (by rintro ⟨z1, z2, z3⟩; omega)).symm) | (refine ⟨⟨1, by omega, rfl, fun _ => by omega, by omega⟩, ?_⟩; simp [intOf])
      · have h1' := h1 (by omega)
        clear h1 h2
        go_wp2_with fail
        all_goals first | (go_ret; refine ⟨?_, (Below.refl _ _).alloc (Nat.le_refl _) _⟩; show Ending.returned (Value.bool false) = _; rw [← HM.out]; exact congrArg (fun x => Ending.returned (Value.bool x)) (decide_eq_false (by rintro ⟨z1, z2, z3⟩; omega)).symm) | (refine ⟨⟨2, by omega, rfl, fun _ => by omega, fun _ => by omega⟩, ?_⟩; simp [intOf])
      · have h1' := h1 (by omega)
        have h2' := h2 (by omega)
        clear h1 h2
        go_wp2_with fail
        all_goals go_ret
        all_goals refine ⟨?_, (Below.refl _ _).alloc (Nat.le_refl _) _⟩
        all_goals rw [← HM.out]
        all_goals first | (show Ending.returned (Value.bool false) = _; exact congrArg (fun x => Ending.returned (Value.bool x)) (decide_eq_false (by rintro ⟨z1, z2, z3, z4, z5, z6, z7, z8⟩; simp only [if_true, if_false, Bool.false_eq_true] at z4; omega)).symm) | (show Ending.returned (Value.bool ((g : Int) != 0 && decide ((s.size : Int) ≤ 8158))) = _; exact congrArg (fun x => Ending.returned (Value.bool x)) (may_last (by intro z; exact ⟨h1', h2', by omega, by simp only [if_true, if_false, Bool.false_eq_true]; omega, by omega, by omega, z⟩)))
end Go.Proofs.Ytgboppgghidgbaa.My
