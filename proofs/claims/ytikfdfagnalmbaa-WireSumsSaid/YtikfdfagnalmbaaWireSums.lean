/- WireSums. -/
import Derived.Test.YtikfdfagnalmbaaJoinPlain
import Derived.Test.YtikfdfagnalmbaaRefOn
import Derived.Test.YtikfdfagnalmbaaMat3
namespace Go.Proofs.Ytikfdfagnalmbaa.My
open Go.RowKit Go.Proofs.YtikfdfagnalmbaaW.PrintWords Go.Proofs.Ytikfdfagnalmbaa Go.Proofs.Ytikfdfagnalmbaa.PJ
theorem wJoined_calls (a b : Nat) (n : Int) (w : World) (ha : a < 4294967296) (hb : b < 4294967296) (hn : n < 9223372036854775808) : Calls Try.prog 17 #[.int .u32 a, .int .u32 b, .int .i64 n] w fun r w' => r = .returned (.int .u32 ((Crc.stepN (8 * n.toNat) a ^^^ b : Nat) : Int)) ∧ Below w.heap.size w w' := by
  by_cases h0 : 0 ≤ n
  · obtain ⟨m, rfl⟩ := Int.eq_ofNat_of_zero_le h0
    have h := joined_f m a b (m + 34) (by omega) ha hb (by omega)
    exact (wire_Joined.calls _ _ _ _ _ w h).mono fun _ _ h => ⟨h.1, h.2.below⟩
  · have h := joined_neg n a b 0 (by omega) ha hb
    have e : n.toNat = 0 := by omega
    rw [e]
    exact (wire_Joined.calls _ _ _ _ _ w h).mono fun _ _ h => ⟨h.1, h.2.below⟩
set_option maxHeartbeats 1000000 in
theorem sums_nat (s : ByteArray) (hs : s.size ≤ 140737488351232) (a b : Nat) (ha : a < 4294967296) (hb : b < 4294967296) (n : Int) (hn : n < 9223372036854775808) (w : World) : Calls Try.prog 3 #[.string s, .int .u32 a, .int .u32 b, .int .i64 n] w fun e w' => e = .returned (.bool true) ∧ Below w.heap.size w w' := by
  go_enter Try.func3, Try.ntmps3
  go_wp2_with fail
  refine (Sum_calls s w (by omega)).mono ?_
  rintro e_ w1 ⟨rfl, hb1⟩
  go_wp2_with fail
  refine (refSum_calls s w1 (by omega)).mono ?_
  rintro e_ w2 ⟨rfl, rfl⟩
  go_wp2_with fail
  refine (On_calls a s w1 ha (by omega)).mono ?_
  rintro e_ w3 ⟨rfl, hb3⟩
  go_wp2_with fail
  refine (refOn_calls a s w3 ha (by omega)).mono ?_
  rintro e_ w4 ⟨rfl, rfl⟩
  go_wp2_with fail
  refine (wJoined_calls a b n w3 ha hb hn).mono ?_
  rintro e_ w5 ⟨rfl, hb5⟩
  go_wp2_with fail
  refine (joined_calls a b n w5 ha hb hn).mono ?_
  rintro e_ w6 ⟨rfl, hb6⟩
  go_wp2_with fail
  go_ret
  have h3 := below_then hb1 (below_size hb1) hb3
  have h5 := below_then h3 (below_size h3) hb5
  exact ⟨rfl, below_then h5 (below_size h5) hb6⟩
theorem WireSums_walk (w : World) (s : ByteArray) (hs : s.size ≤ 140737488351232) (a : Int) (ha : (Lit.int .u32 a).wf = true) (b : Int) (hb : (Lit.int .u32 b).wf = true) (n : Int) (hn : (Lit.int .i64 n).wf = true) : Calls Try.prog 3 #[.string s, .int .u32 a, .int .u32 b, .int .i64 n] w fun e w' => e = .returned (.bool true) ∧ Below w.heap.size w w' := by
  have a0 : 0 ≤ a ∧ a < 4294967296 := by simp only [Lit.wf, IntKind.min, IntKind.max, Bool.and_eq_true] at ha; simp [IntKind.signed, IntKind.bits] at ha; omega
  have b0 : 0 ≤ b ∧ b < 4294967296 := by simp only [Lit.wf, IntKind.min, IntKind.max, Bool.and_eq_true] at hb; simp [IntKind.signed, IntKind.bits] at hb; omega
  have n0 : n < 9223372036854775808 := by simp only [Lit.wf, IntKind.min, IntKind.max, Bool.and_eq_true] at hn; simp [IntKind.signed, IntKind.bits] at hn; omega
  obtain ⟨x, rfl⟩ := Int.eq_ofNat_of_zero_le a0.1
  obtain ⟨y, rfl⟩ := Int.eq_ofNat_of_zero_le b0.1
  exact sums_nat s hs x y (by omega) (by omega) n n0 w
end Go.Proofs.Ytikfdfagnalmbaa.My
