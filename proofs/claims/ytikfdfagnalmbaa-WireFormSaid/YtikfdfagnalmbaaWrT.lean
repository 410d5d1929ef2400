/- Writer.Text, Writer.Fixed of what does not fit, Writer.Small. -/
import Derived.Test.YtikfdfagnalmbaaWrU
import Derived.Test.YtikfdfagnalmbaaWrR
namespace Go.Proofs.Ytikfdfagnalmbaa.My
open Go.RowKit Go.Proofs.YtikfdfagnalmbaaW.PrintWords Go.Proofs.YtikfdfagnalmbaaW.PrintLast Go.Proofs.YtikfdfagnalmbaaW.PrintMore Go.Proofs.Ytikfdfagnalmbaa
set_option linter.unusedSimpArgs false
set_option linter.unusedVariables false
set_option maxRecDepth 100000
set_option maxHeartbeats 4000000
theorem uv_len : ∀ k v, (uv k v).length ≤ k + 1
  | 0, v => by simp [uv]
  | k + 1, v => by
    rw [uv]
    split
    · simp
    · have := uv_len k (v / 128); simp; omega
theorem Text_calls (g : Nat) (v : Value) (xs : List Int) (s : ByteArray) (w0 w : World) (HB0 : Below w0.heap.size w0 w) (h : WS w w0.heap.size g v xs) (hl : xs.length + s.size + 20 ≤ 140737488355328) :
    Calls Try.prog 64 #[.pointer (some ⟨g, 0, none⟩), .string s] w fun e w' => e = .returned (.tuple #[]) ∧ ∃ v', WS w' w0.heap.size g v' (xs ++ uv 10 s.size ++ bytesOf s) ∧ Below w0.heap.size w0 w' := by
  have hlen := uv_len 10 s.size
  have hw : IntKind.u64.wrap (s.size : Int) = s.size := by rw [IntKind.wrap_u64]; omega
  go_enter Try.func64, Try.ntmps64
  go_wp2_with fail
  refine (Uint_calls g v xs s.size w0 w HB0 h (by omega) (by omega)).mono ?_
  rintro e w1 ⟨rfl, v1, h1, hb1, _⟩
  go_wp2_with fail
  refine (Raw_calls g v1 _ s w0 w1 hb1 h1 (by rw [List.length_append]; omega)).mono ?_
  rintro e w2 ⟨rfl, v2, h2, hb2⟩
  go_wp2_with fail
  go_end0
  exact ⟨rfl, v2, h2, hb2⟩
theorem Fixed_bad (p : Addr) (x : Nat) (n : Int) (w : World) (hbad : n < 1 ∨ 8 < n ∨ (1 ≤ n ∧ n < 8 ∧ 256 ^ n.toNat ≤ x)) :
    Calls Try.prog 32 #[.pointer (some p), .int .u64 x, .int .i64 n] w fun e w' => e = .returned (.int .i64 1) ∧ w = w' := by
  rcases hbad with h | h | ⟨h1, h2, h3⟩
  · go_enter Try.func32, Try.ntmps32
    go_wp2_with fail
    go_ret
    exact ⟨rfl, rfl⟩
  · go_enter Try.func32, Try.ntmps32
    go_wp2_with fail
    go_ret
    exact ⟨rfl, rfl⟩
  · obtain ⟨m, rfl⟩ := Int.eq_ofNat_of_zero_le (show 0 ≤ n by omega)
    have hq : ((x : Int) / 2 ^ (8 * m) != 0) = true := by
      rw [bne_iff_ne]
      have e1 : (2 : Nat) ^ (8 * m) = 256 ^ m := by rw [Nat.pow_mul]
      have hp : 0 < x / 256 ^ m := Nat.div_pos (by simpa using h3) (Nat.pow_pos (by omega))
      have e2 : (x : Int) / 2 ^ (8 * m) = ((x / 2 ^ (8 * m) : Nat) : Int) := by push_cast; rfl
      rw [e2, e1]; omega
    clear h3
    go_enter Try.func32, Try.ntmps32
    go_wp2_with fail
    all_goals
      go_ret
      exact ⟨rfl, rfl⟩
end Go.Proofs.Ytikfdfagnalmbaa.My
