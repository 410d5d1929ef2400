/- A Writer in memory: its block holds the slice of its bytes; what each method makes of it. -/
import Derived.Test.YtdjjpgdhnoibkaaWWords
import Derived.Test.YtdjjpgdhnoibkaaProg
import Derived.Test.YtdjjpgdhnoibkaaWLast
import Derived.Test.YtdjjpgdhnoibkaaWMore
namespace Go.Proofs.Ytdjjpgdhnoibkaa.My
open Go.RowKit Go.Proofs.YtdjjpgdhnoibkaaW.PrintWords Go.Proofs.YtdjjpgdhnoibkaaW.PrintLast Go.Proofs.YtdjjpgdhnoibkaaW.PrintMore Go.Proofs.Ytdjjpgdhnoibkaa
set_option linter.unusedSimpArgs false
set_option linter.unusedVariables false
theorem infoU8 : (Try.prog.info? 5).map (fun i => (i.zero, i.size, i.bytes)) = some (some (.int .u8 0), 1, 1) := by kernel_rfl
/-- The Writer at block g holds the slice v; v's row are xs, and is the call's own. -/
def WS (w : World) (base g : Nat) (v : Value) (xs : List Int) : Prop := base ≤ g ∧ w.heap[g]? = some (.cells #[v] 113 (0, 0)) ∧ Kd.R (Kd.int .u8) 5 w base (fun _ => True) v xs
/-- What else lies there stays. -/
def Moved (w w' : World) (g : Nat) (v v' : Value) : Prop := w.heap.size ≤ w'.heap.size ∧ (∀ k, k < w.heap.size → k ≠ g → some k ≠ v.ownBlock → w'.heap[k]? = w.heap[k]?) ∧ (v'.ownBlock = v.ownBlock ∨ ∃ b, v'.ownBlock = some b ∧ w.heap.size ≤ b)
theorem Moved.refl (w : World) (g : Nat) (v : Value) : Moved w w g v v := ⟨Nat.le_refl _, fun _ _ _ _ => rfl, .inl rfl⟩
theorem Moved.trans {a b c : World} {g : Nat} {u v x : Value} (h : Moved a b g u v) (k : Moved b c g v x) : Moved a c g u x := by
  refine ⟨Nat.le_trans h.1 k.1, fun i hi hg hv => ?_, ?_⟩
  · rw [k.2.1 i (Nat.lt_of_lt_of_le hi h.1) hg ?_, h.2.1 i hi hg hv]
    rcases h.2.2 with e | ⟨b', e, hb⟩
    · rw [e]; exact hv
    · rw [e]; intro hh; injection hh with hh; omega
  · rcases k.2.2 with e | ⟨b', e, hb⟩
    · rw [e]; exact h.2.2
    · exact .inr ⟨b', e, Nat.le_trans h.1 hb⟩
set_option maxRecDepth 100000 in
set_option maxHeartbeats 4000000 in
theorem Byte_calls (g : Nat) (v : Value) (xs : List Int) (n : Int) (w0 w : World) (HB0 : Below w0.heap.size w0 w) (h : WS w w0.heap.size g v xs) (hl : xs.length + 1 ≤ 140737488355328) :
    Calls Try.prog 84 #[.pointer (some ⟨g, 0, none⟩), .int .u8 n] w fun e w' => e = .returned (.tuple #[]) ∧ ∃ v', WS w' w0.heap.size g v' (xs ++ [n]) ∧ Below w0.heap.size w0 w' ∧ Moved w w' g v v' := by
  obtain ⟨hg0, hblk, hR⟩ := h
  have HB := Aside0.mk HB0
  have HO := Aside0.mk hR
  have BK := Aside0.mk hblk
  have hc0 : w.cell? ⟨g, 0, none⟩ = some v := (blk_cell hblk 0).trans rfl
  obtain ⟨A, c, ev⟩ := Kd.R_slice hR
  subst ev
  clear hblk hR HB0
  go_enter Try.func84, Try.ntmps84
  go_wp2_with (first | ((with_reducible refine gate_builtin (b := .append) (xs := #[.tmp 10, .tmp 12]) rfl ?_); (try (refine gate_guard (by rfl) ?_; dsimp only)); at_builtin; refine Kd.R_append (Kd.int .u8) (w0 := w0) w0.heap.size rfl (.tmp 10) (.tmp 12) 105 5 (.int .u8 0) 1 rfl Try.underlying105 infoU8 rfl (by decide) (by omega) (.slice A xs.length c) xs n [.int .u8 n] (fun _ => True) (fun _ => False) rfl rfl ?aP (fun _ hk => hk.elim) ?aF ?aO ?aB ?aS ?aL ?_; (case aP => exact rfl); (case aB => exact HB.out); (case aF => exact (fun _ _ => trivial)); (case aO => exact HO.out); (case aS => exact (below_size HB.out)); (case aL => omega); intro v1 w1 ho hb hg hat; obtain ⟨A1, c1, e1⟩ := Kd.R_slice ho; subst e1; have BK1 := blk_grown BK.out hg (Kd.R_ne HO.out BK.out (by decide)); have hc1 : w1.cell? ⟨g, 0, none⟩ = some (.slice A xs.length c) := (blk_cell BK1 0).trans rfl; have hf1 := blk_frozen BK1 0))
  go_end0
  rw [show xs.length + 1 = (xs ++ [n]).length from by simp]
  refine ⟨rfl, .slice A1 (xs ++ [n]).length c1, ⟨hg0, blk_set BK1 0 _, Kd.R_mono (Kd.R_far (p := ⟨g, 0, none⟩) (Kd.R_types ho BK1 (by decide)) (fun _ hk => hk.2) _) (fun _ _ => trivial)⟩, below_set hb hg0, ?_⟩
  refine ⟨?_, fun k hk hkg hkv => ?_, hat⟩
  · have : (w1.setCell ⟨g, 0, none⟩ (.slice A1 (xs ++ [n]).length c1)).heap.size = w1.heap.size := by simp [World.setCell]
    rw [this]; exact hg.size
  · rw [Below.heap_setCell _ _ _ _ hkg]; exact hg.block k hk hkv
end Go.Proofs.Ytdjjpgdhnoibkaa.My
