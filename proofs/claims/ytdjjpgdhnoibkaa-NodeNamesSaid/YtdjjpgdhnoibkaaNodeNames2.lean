/- The least bodies: node.Encode. -/
import Derived.Test.YtdjjpgdhnoibkaaNodeNames
namespace Go.Proofs.Ytdjjpgdhnoibkaa.My
open Go.RowKit Go.Proofs.YtdjjpgdhnoibkaaW.PrintWords Go.Proofs.YtdjjpgdhnoibkaaW.PrintLast Go.Proofs.YtdjjpgdhnoibkaaW.PrintMore Go.Proofs.Ytdjjpgdhnoibkaa
set_option linter.unusedSimpArgs false
set_option linter.unusedVariables false
set_option maxRecDepth 100000
set_option maxHeartbeats 4000000
theorem encLeaf (w : World) : Calls Try.prog 30 #[.agg #[.bool true, .slice none 0 0, .slice none 0 0, .slice none 0 0]] w fun e w' => e = .returned (.tuple #[.string (⟨#[1, 0, 0]⟩), .int .i64 0]) ∧ Below w.heap.size w w' := by
  go_enter Try.func30, Try.ntmps30
  go_wp2_with fail
  generalize hW : w.alloc (.cells #[.bool true, .slice none 0 0, .slice none 0 0, .slice none 0 0] 26) = W
  have b0 : W.heap[w.heap.size]? = some (.cells #[.bool true, .slice none 0 0, .slice none 0 0, .slice none 0 0] 26 (0, 0)) := by rw [← hW]; show (w.heap.push _)[w.heap.size]? = _; rw [Array.getElem?_push_size]
  have hB : Below w.heap.size w W := by rw [← hW]; exact (Below.refl _ _).alloc (Nat.le_refl _) _
  have c0 : ∀ w' : World, Below W.heap.size W w' → w'.cell? ⟨w.heap.size, 0, none⟩ = some (.bool true) := fun w' h => pw_cell_below h ((blk_cell b0 0).trans rfl)
  have c1 : ∀ w' : World, Below W.heap.size W w' → w'.cell? ⟨w.heap.size, 1, none⟩ = some (.slice none 0 0) := fun w' h => pw_cell_below h ((blk_cell b0 1).trans rfl)
  have c2 : ∀ w' : World, Below W.heap.size W w' → w'.cell? ⟨w.heap.size, 2, none⟩ = some (.slice none 0 0) := fun w' h => pw_cell_below h ((blk_cell b0 2).trans rfl)
  have c3 : ∀ w' : World, Below W.heap.size W w' → w'.cell? ⟨w.heap.size, 3, none⟩ = some (.slice none 0 0) := fun w' h => pw_cell_below h ((blk_cell b0 3).trans rfl)
  clear hW b0
  refine (checkLeaf W).mono ?_
  rintro e w2 ⟨rfl, hb2⟩
  have d0 := c0 _ hb2
  have d1 := c1 _ hb2
  have d2 := c2 _ hb2
  have d3 := c3 _ hb2
  go_wp2_with fail
  refine (sizeLeaf w2).mono ?_
  rintro e w3 ⟨rfl, hb⟩
  have hb3 := below_step hb2 hb
  clear d0 d1 d2 d3
  have d0 := c0 _ hb3
  have d1 := c1 _ hb3
  have d2 := c2 _ hb3
  have d3 := c3 _ hb3
  go_wp2_with fail
  refine (newWriterW _).mono ?_
  rintro e w4 ⟨rfl, hw4⟩
  have hs4 : WS w4 W.heap.size w3.heap.size (.slice none 0 0) [] := by rw [hw4]; exact WS_new w3 _ (below_size hb3)
  have hb4 : Below W.heap.size W w4 := by rw [hw4]; exact hb3.alloc (below_size hb3) _
  clear hw4
  generalize w3.heap.size = g at hs4 ⊢
  clear d0 d1 d2 d3
  have d0 := c0 _ hb4
  have d1 := c1 _ hb4
  have d2 := c2 _ hb4
  have d3 := c3 _ hb4
  go_wp2_with fail
  refine (Byte_calls g _ [] 1 W w4 hb4 hs4 (by simp)).mono ?_
  rintro e w5 ⟨rfl, v5, hs5, hb5, _⟩
  clear d0 d1 d2 d3
  have d0 := c0 _ hb5
  have d1 := c1 _ hb5
  have d2 := c2 _ hb5
  have d3 := c3 _ hb5
  go_wp2_with fail
  refine (Fixed_calls g v5 [1] 2 0 W w5 hb5 hs5 (by simp) (by omega) (by omega) (by decide)).mono ?_
  rintro e w6 ⟨rfl, v6, hs6, hb6, _⟩
  clear d0 d1 d2 d3
  have d0 := c0 _ hb6
  have d1 := c1 _ hb6
  have d2 := c2 _ hb6
  have d3 := c3 _ hb6
  go_wp2_with fail
  go_loop [36] (fun i => i = .int .i64 0) (fun _ => 0)
  case atStart => exact rfl
  case round =>
  obtain rfl := hrel
  go_wp2_with fail
  refine (Told_calls g v6 _ _ _ hs6).mono ?_
  rintro e w7 ⟨rfl, rfl⟩
  go_wp2_with fail
  go_ret2
  exact ⟨rfl, hB.trans (hb6.mono (below_size hB))⟩
theorem encKids (q : Nat) (w : World) (h : w.cell? ⟨q, 0, none⟩ = some (.int .u32 7)) : Calls Try.prog 30 #[.agg #[.bool false, .slice none 0 0, .slice none 0 0, .slice (some ⟨q, 0, none⟩) 1 1]] w fun e w' => e = .returned (.tuple #[.string (⟨#[2, 0, 0, 0, 0, 0, 7]⟩), .int .i64 0]) ∧ Below w.heap.size w w' := by
  go_enter Try.func30, Try.ntmps30
  go_wp2_with fail
  generalize hW : w.alloc (.cells #[.bool false, .slice none 0 0, .slice none 0 0, .slice (some ⟨q, 0, none⟩) 1 1] 26) = W
  have b0 : W.heap[w.heap.size]? = some (.cells #[.bool false, .slice none 0 0, .slice none 0 0, .slice (some ⟨q, 0, none⟩) 1 1] 26 (0, 0)) := by rw [← hW]; show (w.heap.push _)[w.heap.size]? = _; rw [Array.getElem?_push_size]
  have hB : Below w.heap.size w W := by rw [← hW]; exact (Below.refl _ _).alloc (Nat.le_refl _) _
  have c0 : ∀ w' : World, Below W.heap.size W w' → w'.cell? ⟨w.heap.size, 0, none⟩ = some (.bool false) := fun w' h => pw_cell_below h ((blk_cell b0 0).trans rfl)
  have c1 : ∀ w' : World, Below W.heap.size W w' → w'.cell? ⟨w.heap.size, 1, none⟩ = some (.slice none 0 0) := fun w' h => pw_cell_below h ((blk_cell b0 1).trans rfl)
  have c2 : ∀ w' : World, Below W.heap.size W w' → w'.cell? ⟨w.heap.size, 2, none⟩ = some (.slice none 0 0) := fun w' h => pw_cell_below h ((blk_cell b0 2).trans rfl)
  have c3 : ∀ w' : World, Below W.heap.size W w' → w'.cell? ⟨w.heap.size, 3, none⟩ = some (.slice (some ⟨q, 0, none⟩) 1 1) := fun w' h => pw_cell_below h ((blk_cell b0 3).trans rfl)
  have c4 : ∀ w' : World, Below W.heap.size W w' → w'.cell? ⟨q, 0, none⟩ = some (.int .u32 7) := fun w' hh => pw_cell_below hh (pw_cell_below hB h)
  clear hW b0
  refine (checkKids q W (pw_cell_below hB h)).mono ?_
  rintro e w2 ⟨rfl, hb2⟩
  have d0 := c0 _ hb2
  have d1 := c1 _ hb2
  have d2 := c2 _ hb2
  have d3 := c3 _ hb2
  have d4 := c4 _ hb2
  go_wp2_with fail
  refine (sizeKids q w2).mono ?_
  rintro e w3 ⟨rfl, hb⟩
  have hb3 := below_step hb2 hb
  clear d0 d1 d2 d3 d4
  have d0 := c0 _ hb3
  have d1 := c1 _ hb3
  have d2 := c2 _ hb3
  have d3 := c3 _ hb3
  have d4 := c4 _ hb3
  go_wp2_with fail
  refine (newWriterW _).mono ?_
  rintro e w4 ⟨rfl, hw4⟩
  have hs4 : WS w4 W.heap.size w3.heap.size (.slice none 0 0) [] := by rw [hw4]; exact WS_new w3 _ (below_size hb3)
  have hb4 : Below W.heap.size W w4 := by rw [hw4]; exact hb3.alloc (below_size hb3) _
  clear hw4
  generalize w3.heap.size = g at hs4 ⊢
  clear d0 d1 d2 d3 d4
  have d0 := c0 _ hb4
  have d1 := c1 _ hb4
  have d2 := c2 _ hb4
  have d3 := c3 _ hb4
  have d4 := c4 _ hb4
  go_wp2_with fail
  refine (Byte_calls g _ [] 2 W w4 hb4 hs4 (by simp)).mono ?_
  rintro e w5 ⟨rfl, v5, hs5, hb5, _⟩
  clear d0 d1 d2 d3 d4
  have d0 := c0 _ hb5
  have d1 := c1 _ hb5
  have d2 := c2 _ hb5
  have d3 := c3 _ hb5
  have d4 := c4 _ hb5
  go_wp2_with fail
  refine (Fixed_calls g v5 [2] 2 0 W w5 hb5 hs5 (by simp) (by omega) (by omega) (by decide)).mono ?_
  rintro e w6 ⟨rfl, v6, hs6, hb6, _⟩
  clear d0 d1 d2 d3 d4
  have d0 := c0 _ hb6
  have d1 := c1 _ hb6
  have d2 := c2 _ hb6
  have d3 := c3 _ hb6
  have d4 := c4 _ hb6
  go_wp2_with fail
  refine (Fixed_calls g v6 ([2] ++ be 2 0) 4 7 W w6 hb6 hs6 (by simp [be]) (by omega) (by omega) (by decide)).mono ?_
  rintro e w7 ⟨rfl, v7, hs7, hb7, _⟩
  clear d0 d1 d2 d3 d4
  have d0 := c0 _ hb7
  have d1 := c1 _ hb7
  have d2 := c2 _ hb7
  have d3 := c3 _ hb7
  go_wp2_with fail
  go_loop [69] (fun i => i = .int .i64 0) (fun _ => 0)
  case atStart => exact rfl
  case round =>
  obtain rfl := hrel
  go_wp2_with fail
  refine (Told_calls g v7 _ _ _ hs7).mono ?_
  rintro e w8 ⟨rfl, rfl⟩
  go_wp2_with fail
  go_ret2
  exact ⟨rfl, hB.trans (hb7.mono (below_size hB))⟩
theorem NodeNames_walk (w : World) : Calls Try.prog 6 #[] w fun e w' => e = .returned (.bool true) ∧ Below w.heap.size w w' := by
  go_enter Try.func6, Try.ntmps6
  go_wp2_with fail
  refine (encLeaf _).mono ?_
  rintro e w2 ⟨rfl, hb2⟩
  go_wp2_with fail
  have hB2 : Below w.heap.size w (w2.alloc (Obj.cells #[Value.int IntKind.u32 7] 45)) := hb2.alloc (below_size hb2) _
  refine (encKids w2.heap.size _ (by rw [World.cell?_alloc_at _ _ _ _ rfl]; rfl)).mono ?_
  rintro e w3 ⟨rfl, hb3⟩
  go_wp2_with fail
  go_ret
  exact ⟨by first | rfl | decide, below_step hB2 hb3⟩
end Go.Proofs.Ytdjjpgdhnoibkaa.My
