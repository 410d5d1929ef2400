/- The numbers of chapter 8; the least bodies: the law's walk. -/
import Derived.Test.YtdjjpgdhnoibkaaWrF
namespace Go.Proofs.Ytdjjpgdhnoibkaa.My
open Go.RowKit Go.Proofs.YtdjjpgdhnoibkaaW.PrintWords Go.Proofs.YtdjjpgdhnoibkaaW.PrintLast Go.Proofs.YtdjjpgdhnoibkaaW.PrintMore Go.Proofs.Ytdjjpgdhnoibkaa
set_option linter.unusedSimpArgs false
set_option linter.unusedVariables false
set_option maxRecDepth 100000
set_option maxHeartbeats 4000000
theorem idx7 (g : Nat) (w : World) (h : w.cell? ⟨g, 0, none⟩ = some (.int .u32 7)) : Calls Try.prog 114 #[.slice (some ⟨g, 0, none⟩) 1 1, .int .u32 0] w fun e w' => e = .returned (.int .i64 (-1)) ∧ w = w' := by
  go_enter Try.func114, Try.ntmps114
  go_wp2_with fail
  go_loop [8] (fun i => i = .int .i64 0 ∨ i = .int .i64 1) (fun i => (1 - intOf i).toNat)
  case atStart => exact .inl rfl
  case round =>
    rcases hrel with rfl | rfl
    · go_wp2_with fail
      exact ⟨.inr rfl, by simp [intOf]⟩
    · go_wp2_with fail
      go_ret
      exact ⟨rfl, rfl⟩
theorem contains7 (g : Nat) (w : World) (h : w.cell? ⟨g, 0, none⟩ = some (.int .u32 7)) : Calls Try.prog 89 #[.slice (some ⟨g, 0, none⟩) 1 1, .int .u32 0] w fun e w' => e = .returned (.bool false) ∧ w = w' := by
  go_enter Try.func89, Try.ntmps89
  go_wp2_with (first | (go_at_call 114; refine (idx7 g _ h).mono ?_; rintro e w1 ⟨rfl, rfl⟩))
  go_ret
  exact ⟨rfl, rfl⟩
theorem sizeLeaf (w : World) : Calls Try.prog 69 #[.agg #[.bool true, .slice none 0 0, .slice none 0 0, .slice none 0 0]] w fun e w' => e = .returned (.int .i64 3) ∧ Below w.heap.size w w' := by
  go_enter Try.func69, Try.ntmps69
  go_wp2_with fail
  go_loop [3, 11] (fun a i => a = .int .i64 3 ∧ i = .int .i64 0) (fun _ _ => 0)
  case atStart => exact ⟨rfl, rfl⟩
  case round =>
  obtain ⟨rfl, rfl⟩ := hrel
  go_wp2_with fail
  go_ret
  exact ⟨rfl, (Below.refl _ _).alloc (Nat.le_refl _) _⟩
theorem checkLeaf (w : World) : Calls Try.prog 32 #[.agg #[.bool true, .slice none 0 0, .slice none 0 0, .slice none 0 0]] w fun e w' => e = .returned (.int .i64 0) ∧ Below w.heap.size w w' := by
  go_enter Try.func32, Try.ntmps32
  go_wp2_with fail
  go_loop [2, 3, 4, 50] (fun a b c i => a = .int .i64 0 ∧ b = .bool true ∧ c = .string ⟨#[]⟩ ∧ i = .int .i64 0) (fun _ _ _ _ => 0)
  case atStart => exact ⟨rfl, rfl, rfl, rfl⟩
  case round =>
  obtain ⟨rfl, rfl, rfl, rfl⟩ := hrel
  go_wp2_with (first | (go_at_call 69; refine (sizeLeaf _).mono ?_; rintro e w1 ⟨rfl, hb⟩))
  go_loop [2, 3, 4, 81] (fun a b c i => a = .int .i64 0 ∧ b = .bool true ∧ c = .string ⟨#[]⟩ ∧ i = .int .i64 0) (fun _ _ _ _ => 0)
  case atStart => exact ⟨rfl, rfl, rfl, rfl⟩
  case round =>
  obtain ⟨rfl, rfl, rfl, rfl⟩ := hrel
  go_wp2_with (first | (go_at_call 69; refine (sizeLeaf _).mono ?_; rintro e w1 ⟨rfl, hb⟩))
  go_ret
  exact ⟨rfl, below_step ((Below.refl _ _).alloc (Nat.le_refl _) _) hb⟩
theorem sizeKids (g : Nat) (w : World) : Calls Try.prog 69 #[.agg #[.bool false, .slice none 0 0, .slice none 0 0, .slice (some ⟨g, 0, none⟩) 1 1]] w fun e w' => e = .returned (.int .i64 7) ∧ Below w.heap.size w w' := by
  go_enter Try.func69, Try.ntmps69
  go_wp2_with fail
  go_loop [3, 11] (fun a i => a = .int .i64 3 ∧ i = .int .i64 0) (fun _ _ => 0)
  case atStart => exact ⟨rfl, rfl⟩
  case round =>
  obtain ⟨rfl, rfl⟩ := hrel
  go_wp2_with fail
  go_loop [3, 28] (fun a i => a = .int .i64 7 ∧ i = .int .i64 0) (fun _ _ => 0)
  case atStart => exact ⟨rfl, rfl⟩
  case round =>
  obtain ⟨rfl, rfl⟩ := hrel
  go_wp2_with fail
  go_ret
  exact ⟨rfl, (Below.refl _ _).alloc (Nat.le_refl _) _⟩
theorem checkKids (g : Nat) (w : World) (h : w.cell? ⟨g, 0, none⟩ = some (.int .u32 7)) : Calls Try.prog 32 #[.agg #[.bool false, .slice none 0 0, .slice none 0 0, .slice (some ⟨g, 0, none⟩) 1 1]] w fun e w' => e = .returned (.int .i64 0) ∧ Below w.heap.size w w' := by
  go_enter Try.func32, Try.ntmps32
  go_wp2_with fail
  refine (contains7 g _ ((World.cell?_alloc_lt _ _ _ (World.block_lt_of_cell? _ _ h)).trans h)).mono ?_
  rintro e w1 ⟨rfl, rfl⟩
  go_wp2_with fail
  go_loop [2, 3, 4, 50] (fun a b c i => a = .int .i64 0 ∧ b = .bool true ∧ c = .string ⟨#[]⟩ ∧ i = .int .i64 0) (fun _ _ _ _ => 0)
  case atStart => exact ⟨rfl, rfl, rfl, rfl⟩
  case round =>
  obtain ⟨rfl, rfl, rfl, rfl⟩ := hrel
  go_wp2_with fail
  go_loop [2, 3, 4, 81] (fun a b c i => a = .int .i64 0 ∧ b = .bool true ∧ c = .string ⟨#[]⟩ ∧ i = .int .i64 0) (fun _ _ _ _ => 0)
  case atStart => exact ⟨rfl, rfl, rfl, rfl⟩
  case round =>
  obtain ⟨rfl, rfl, rfl, rfl⟩ := hrel
  go_wp2_with (first | (go_at_call 69; refine (sizeKids g _).mono ?_; rintro e w1 ⟨rfl, hb⟩))
  go_ret
  exact ⟨rfl, below_step ((Below.refl _ _).alloc (Nat.le_refl _) _) hb⟩
end Go.Proofs.Ytdjjpgdhnoibkaa.My
