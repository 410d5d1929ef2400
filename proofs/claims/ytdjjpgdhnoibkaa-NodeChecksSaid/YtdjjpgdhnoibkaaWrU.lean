/- Writer.Uint. -/
import Derived.Test.YtdjjpgdhnoibkaaWrF
namespace Go.Proofs.Ytdjjpgdhnoibkaa.My
open Go.RowKit Go.Proofs.YtdjjpgdhnoibkaaW.PrintWords Go.Proofs.YtdjjpgdhnoibkaaW.PrintLast Go.Proofs.YtdjjpgdhnoibkaaW.PrintMore Go.Proofs.Ytdjjpgdhnoibkaa
set_option linter.unusedSimpArgs false
set_option linter.unusedVariables false
set_option maxRecDepth 100000
set_option maxHeartbeats 4000000
/-- A number to the base 128. -/
def uv : Nat → Nat → List Int
  | 0, v => [(v : Int)]
  | k + 1, v => if v < 128 then [(v : Int)] else ((v % 128 + 128 : Nat) : Int) :: uv k (v / 128)
theorem or128 : ∀ b : Nat, b < 256 → b ||| 128 = b % 128 + 128 := by decide
theorem Uint_calls (g : Nat) (v : Value) (xs : List Int) (x : Nat) (w0 w : World) (HB0 : Below w0.heap.size w0 w) (h : WS w w0.heap.size g v xs) (hl : xs.length + 20 ≤ 140737488355328) (hx : x < 18446744073709551616) :
    Calls Try.prog 110 #[.pointer (some ⟨g, 0, none⟩), .int .u64 x] w fun e w' => e = .returned (.tuple #[]) ∧ ∃ v', WS w' w0.heap.size g v' (xs ++ uv 10 x) ∧ Below w0.heap.size w0 w' ∧ Moved w w' g v v' := by
  have HS := Aside0.mk h
  have HB := Aside0.mk HB0
  clear h HB0
  go_enter Try.func110, Try.ntmps110
  go_wp2_with fail
  go_loopw [1] (fun i wr => ∃ (k y : Nat) (u : Value) (ys : List Int), k ≤ 10 ∧ y < 128 ^ k ∧ i = .int .u64 (y : Int) ∧ ys.length + k ≤ xs.length + 10 ∧ Aside0 (xs ++ uv 10 x = ys ++ uv k y) ∧ Aside0 (WS wr w0.heap.size g u ys) ∧ Aside0 (Below w0.heap.size w0 wr) ∧ Aside0 (Moved w wr g v u)) (fun i _ => (intOf i).toNat)
  case atStart => exact ⟨10, x, v, xs, by omega, by omega, rfl, by omega, ⟨rfl⟩, HS, HB, ⟨Moved.refl _ _ _⟩⟩
  case round =>
    clear HS HB
    obtain ⟨k, y, u, ys, hk, hy, rfl, hyl, HE, HW, HB, HM⟩ := hrel
    have hy64 : y < 128 ^ 10 := Nat.lt_of_lt_of_le hy (Nat.pow_le_pow_right (by omega) hk)
    obtain ⟨hg0, hblk, hR⟩ := HW.out
    have HO := Aside0.mk hR
    have BK := Aside0.mk hblk
    have hc0 : wr.cell? ⟨g, 0, none⟩ = some u := (blk_cell hblk 0).trans rfl
    obtain ⟨A, c, ev⟩ := Kd.R_slice hR
    subst ev
    clear hblk hR HW
    have hyl2 : ys.length + 1 ≤ 140737488355328 := by omega
    by_cases hlt : 128 ≤ y
    · obtain ⟨k', rfl⟩ : ∃ k', k = k' + 1 := by
        cases k with
        | zero => simp at hy; omega
        | succ k' => exact ⟨k', rfl⟩
      have hy' : y / 128 < 128 ^ k' := by rw [Nat.pow_succ] at hy; omega
      have HE2 : Aside0 (uv (k' + 1) y = ((y % 128 + 128 : Nat) : Int) :: uv k' (y / 128)) := ⟨by rw [uv, if_neg (by omega)]⟩
      clear hy
      have hbyte : Aside0 (Go.bits .or .u8 ((y : Int) % 256) 128 = ((y % 128 + 128 : Nat) : Int)) := ⟨by
        have h1 := u8_or_nat (y % 256) 128 (by omega) (by omega)
        rw [or128 _ (by omega)] at h1
        rw [show ((y : Int) % 256) = ((y % 256 : Nat) : Int) from by omega]
        rw [show y % 128 + 128 = y % 256 % 128 + 128 from by omega]
        exact h1⟩
      go_wp2_with (first | ((with_reducible refine gate_builtin (b := .append) (xs := #[.tmp 12, .tmp 16]) rfl ?_); (try (refine gate_guard (by rfl) ?_; dsimp only)); at_builtin; refine Kd.R_append (Kd.int .u8) (w0 := w0) w0.heap.size rfl (.tmp 12) (.tmp 16) 105 5 (.int .u8 0) 1 rfl Try.underlying105 infoU8 rfl (by decide) (by omega) (.slice A ys.length c) ys (Go.bits .or .u8 ((y : Int) % 256) 128) [.int .u8 (Go.bits .or .u8 ((y : Int) % 256) 128)] (fun _ => True) (fun _ => False) rfl rfl ?aP (fun _ hk => hk.elim) ?aF ?aO ?aB ?aS ?aL ?_; (case aP => exact rfl); (case aB => exact HB.out); (case aF => exact (fun _ _ => trivial)); (case aO => exact HO.out); (case aS => exact (below_size HB.out)); (case aL => omega); intro v1 w1 ho hb hg hat; obtain ⟨A1, c1, e1⟩ := Kd.R_slice ho; subst e1; have BK1 := blk_grown BK.out hg (Kd.R_ne HO.out BK.out (by decide)); have hc1 : w1.cell? ⟨g, 0, none⟩ = some (.slice A ys.length c) := (blk_cell BK1 0).trans rfl; have hf1 := blk_frozen BK1 0))
      rw [hbyte.out] at ho hat
      rw [show ys.length + 1 = (ys ++ [((y % 128 + 128 : Nat) : Int)]).length from by simp]
      refine ⟨⟨k', y / 128, _, ys ++ [((y % 128 + 128 : Nat) : Int)], by omega, hy', rfl, by rw [List.length_append]; simp; omega, ⟨by rw [HE.out, HE2.out]; simp⟩, ⟨WS_step hg0 BK1 ho⟩, ⟨below_set hb hg0⟩, ⟨HM.out.trans (Moved_step hg hat)⟩⟩, ?_⟩
      simp [intOf]
      omega
    · have HE2 : Aside0 (uv k y = [(y : Int)]) := ⟨by cases k with
        | zero => rfl
        | succ k' => rw [uv, if_pos (by omega)]⟩
      clear hy
      go_wp2_with (first | ((with_reducible refine gate_builtin (b := .append) (xs := #[.tmp 26, .tmp 29]) rfl ?_); (try (refine gate_guard (by rfl) ?_; dsimp only)); at_builtin; refine Kd.R_append (Kd.int .u8) (w0 := w0) w0.heap.size rfl (.tmp 26) (.tmp 29) 105 5 (.int .u8 0) 1 rfl Try.underlying105 infoU8 rfl (by decide) (by omega) (.slice A ys.length c) ys (y : Int) [.int .u8 (y : Int)] (fun _ => True) (fun _ => False) rfl rfl ?aP (fun _ hk => hk.elim) ?aF ?aO ?aB ?aS ?aL ?_; (case aP => exact rfl); (case aB => exact HB.out); (case aF => exact (fun _ _ => trivial)); (case aO => exact HO.out); (case aS => exact (below_size HB.out)); (case aL => omega); intro v1 w1 ho hb hg hat; obtain ⟨A1, c1, e1⟩ := Kd.R_slice ho; subst e1; have BK1 := blk_grown BK.out hg (Kd.R_ne HO.out BK.out (by decide)); have hc1 : w1.cell? ⟨g, 0, none⟩ = some (.slice A ys.length c) := (blk_cell BK1 0).trans rfl; have hf1 := blk_frozen BK1 0))
      go_end0
      rw [show ys.length + 1 = (ys ++ [(y : Int)]).length from by simp]
      refine ⟨rfl, _, ?_, below_set hb hg0, HM.out.trans (Moved_step hg hat)⟩
      rw [HE.out, HE2.out]
      exact WS_step hg0 BK1 ho
end Go.Proofs.Ytdjjpgdhnoibkaa.My
