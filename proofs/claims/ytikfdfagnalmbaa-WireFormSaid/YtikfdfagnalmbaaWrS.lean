/- Writer.Small. -/
import Derived.Test.YtikfdfagnalmbaaWrF
namespace Go.Proofs.Ytikfdfagnalmbaa.My
open Go.RowKit Go.Proofs.YtikfdfagnalmbaaW.PrintWords Go.Proofs.YtikfdfagnalmbaaW.PrintLast Go.Proofs.YtikfdfagnalmbaaW.PrintMore Go.Proofs.Ytikfdfagnalmbaa
set_option linter.unusedSimpArgs false
set_option linter.unusedVariables false
set_option maxRecDepth 100000
set_option maxHeartbeats 4000000
/-- Two bytes that were just built. -/
theorem C_two (W : World) (a b : Int) : Kd.C (Kd.int .u8) (W.alloc (.cells #[.int .u8 a, .int .u8 b] 5 (0, 0))) (some ⟨W.heap.size, 0, none⟩) 2 [a, b] := by
  have hb : (W.alloc (.cells #[.int .u8 a, .int .u8 b] 5 (0, 0))).heap[W.heap.size]? = some (.cells #[.int .u8 a, .int .u8 b] 5 (0, 0)) := by show (W.heap.push _)[W.heap.size]? = _; rw [Array.getElem?_push_size]
  refine ⟨rfl, by omega, fun _ => ⟨_, rfl, fun j p hj => ?_⟩⟩
  match j, hj with
  | 0, hj =>
    obtain rfl := Option.some.inj hj
    exact ⟨[.int .u8 a], rfl, rfl, fun i u hi => by
      cases i with
      | zero => obtain rfl := Option.some.inj hi; exact (blk_cell hb 0).trans rfl
      | succ i => simp at hi⟩
  | 1, hj =>
    obtain rfl := Option.some.inj hj
    exact ⟨[.int .u8 b], rfl, rfl, fun i u hi => by
      cases i with
      | zero => obtain rfl := Option.some.inj hi; exact (blk_cell hb 1).trans rfl
      | succ i => simp at hi⟩
theorem Small_calls (g : Nat) (v : Value) (xs : List Int) (x : Int) (w0 w : World) (HB0 : Below w0.heap.size w0 w) (h : WS w w0.heap.size g v xs) (hl : xs.length + 2 ≤ 140737488355328) :
    Calls Try.prog 60 #[.pointer (some ⟨g, 0, none⟩), .int .i16 x] w fun e w' => e = .returned (.tuple #[]) ∧ ∃ v', WS w' w0.heap.size g v' (xs ++ [(IntKind.u16.wrap x / 256 % 256), (x % 256)]) ∧ Below w0.heap.size w0 w' := by
  obtain ⟨hg0, hblk, hR⟩ := h
  have HB := Aside0.mk HB0
  have HO := Aside0.mk hR
  have BK := Aside0.mk hblk
  have hc0 : w.cell? ⟨g, 0, none⟩ = some v := (blk_cell hblk 0).trans rfl
  obtain ⟨A, c, ev⟩ := Kd.R_slice hR
  subst ev
  clear hblk hR HB0
  go_enter Try.func60, Try.ntmps60
  go_wp2_with (first | ((with_reducible refine gate_builtin (b := .append) (xs := #[.tmp 10, .tmp 17]) rfl ?_); (try (refine gate_guard (by rfl) ?_; dsimp only)); at_builtin; refine Kd.R_append_rows (Kd.int .u8) (w0 := w0) w0.heap.size rfl (.tmp 10) (.tmp 17) 54 5 (.int .u8 0) 1 rfl Try.underlying54 infoU8 rfl (by decide) (by omega) (.slice A xs.length c) xs [(IntKind.u16.wrap x / 256 % 256), (x % 256)] _ _ _ (fun _ => True) (fun _ => False) rfl rfl ?aO ?aR (fun _ _ h => h) (fun _ h => h.elim) ?aF ?aB ?aS ?aL ?_; (case aR => exact C_two w _ _); (case aB => exact HB.out.alloc (below_size HB.out) _); (case aF => exact (fun _ _ => trivial)); (case aO => exact Kd.R_alloc HO.out _); (case aS => exact below_size (HB.out.alloc (below_size HB.out) _)); (case aL => simp; omega); intro v1 w1 ho hb hg hat; obtain ⟨A1, c1, e1⟩ := Kd.R_slice ho; subst e1; have BK1 := blk_grown (blk_alloc BK.out _) hg (Kd.R_ne HO.out BK.out (by decide)); have hc1 : w1.cell? ⟨g, 0, none⟩ = some (.slice A xs.length c) := (blk_cell BK1 0).trans rfl; have hf1 := blk_frozen BK1 0))
  go_end0
  rw [show xs.length + 2 = (xs ++ [(IntKind.u16.wrap x / 256 % 256), (x % 256)]).length from by simp]
  exact ⟨rfl, _, WS_step hg0 BK1 ho, below_set hb hg0⟩
end Go.Proofs.Ytikfdfagnalmbaa.My
