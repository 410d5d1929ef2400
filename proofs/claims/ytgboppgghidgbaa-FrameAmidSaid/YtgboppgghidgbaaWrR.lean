/- Writer.Raw. -/
import Derived.Test.YtgboppgghidgbaaWrF
namespace Go.Proofs.Ytgboppgghidgbaa.My
open Go.RowKit Go.Proofs.YtgboppgghidgbaaW.PrintWords Go.Proofs.YtgboppgghidgbaaW.PrintLast Go.Proofs.YtgboppgghidgbaaW.PrintMore Go.Proofs.Ytgboppgghidgbaa
set_option linter.unusedSimpArgs false
set_option linter.unusedVariables false
set_option maxRecDepth 100000
set_option maxHeartbeats 4000000
theorem Raw_calls (g : Nat) (v : Value) (xs : List Int) (s : ByteArray) (w0 w : World) (HB0 : Below w0.heap.size w0 w) (h : WS w w0.heap.size g v xs) (hl : xs.length + s.size ≤ 140737488355328) :
    Calls Try.prog 31 #[.pointer (some ⟨g, 0, none⟩), .string s] w fun e w' => e = .returned (.tuple #[]) ∧ ∃ v', WS w' w0.heap.size g v' (xs ++ bytesOf s) ∧ Below w0.heap.size w0 w' := by
  obtain ⟨hg0, hblk, hR⟩ := h
  have HB := Aside0.mk HB0
  have HO := Aside0.mk hR
  have BK := Aside0.mk hblk
  have hc0 : w.cell? ⟨g, 0, none⟩ = some v := (blk_cell hblk 0).trans rfl
  obtain ⟨A, c, ev⟩ := Kd.R_slice hR
  subst ev
  clear hblk hR HB0
  go_enter Try.func31, Try.ntmps31
  go_wp2_with (first | ((with_reducible refine gate_builtin (b := .append) (xs := #[.tmp 10, .tmp 11]) rfl ?_); (try (refine gate_guard (by rfl) ?_; dsimp only)); at_builtin; refine print_append_str (w0 := w0) w0.heap.size rfl (.tmp 10) (.tmp 11) 39 9 5 rfl Try.underlying39 Try.underlying9 infoU8 (.slice A xs.length c) xs s rfl rfl (Kd.own_of_R HO.out) HB.out (below_size HB.out) hl ?_; intro v1 w1 hown hb hg; have ho : Kd.R (Kd.int .u8) 5 w1 w0.heap.size (fun _ => True) v1 (xs ++ bytesOf s) := Kd.R_of_own hown (fun _ _ => trivial); obtain ⟨A1, c1, e1⟩ := Kd.R_slice ho; subst e1; have BK1 := blk_grown BK.out hg (Kd.R_ne HO.out BK.out (by decide)); have hc1 : w1.cell? ⟨g, 0, none⟩ = some (.slice A xs.length c) := (blk_cell BK1 0).trans rfl; have hf1 := blk_frozen BK1 0))
  go_end0
  rw [show xs.length + (bytesOf s).length = (xs ++ bytesOf s).length from by rw [List.length_append]]
  exact ⟨rfl, _, WS_step hg0 BK1 ho, below_set hb hg0⟩
end Go.Proofs.Ytgboppgghidgbaa.My
