/- The document's check sum: what it answers is what the plain numbers say. -/
import Derived.Test.YtgboppgghidgbaaWireOn
namespace Go.Proofs.Ytgboppgghidgbaa.My
open Go.RowKit Go.Proofs.YtgboppgghidgbaaW.PrintWords Go.Proofs.Ytgboppgghidgbaa

set_option maxHeartbeats 1000000 in
theorem refStep_calls (c : Nat) (w : World) (hc : c < 4294967296) : Calls Try.prog 66 #[.int .u32 c] w fun e w' => e = .returned (.int .u32 ((Crc.step8 c : Nat) : Int)) ∧ w = w' := by
  go_enter Try.func66, Try.ntmps66
  go_wp2_with fail
  go_loop [0, 3] (fun v i => ∃ k : Nat, k ≤ 8 ∧ i = .int .i64 k ∧ v = .int .u32 ((Crc.stepN k c : Nat) : Int)) (fun _ i => 8 - (intOf i).toNat)
  case atStart => exact ⟨0, by omega, rfl, rfl⟩
  case round =>
    obtain ⟨k, hk, rfl, rfl⟩ := hrel
    by_cases hlt : k < 8
    · have hb := Crc.stepN_lt k hc
      have hn := Aside0.mk (Crc.stepN_succ' k c)
      generalize Crc.stepN k c = d at hb hn ⊢
      by_cases hp : d % 2 = 1
      · have hx : Go.bits .xor .u32 ((d : Int) / 2) 2197175160 = ((Crc.step1 d : Nat) : Int) := by
          unfold Crc.step1; rw [if_pos hp]; exact u32_xor_nat (d / 2) Crc.poly (by omega) Crc.poly_lt
        go_wp2
        go_round
        case rel => exact ⟨k + 1, by omega, by go_num, by rw [hn.out]⟩
        case measure => simp [intOf]; omega
      · have hx : Aside0 (((d : Int) / 2) = ((Crc.step1 d : Nat) : Int)) := ⟨by unfold Crc.step1; rw [if_neg hp]; omega⟩
        go_wp2
        go_round
        case rel => exact ⟨k + 1, by omega, by go_num, by rw [hn.out, ← hx.out]⟩
        case measure => simp [intOf]; omega
    · obtain rfl : k = 8 := by omega
      go_wp2
      go_ret
      exact ⟨rfl, rfl⟩

set_option maxHeartbeats 1000000 in
theorem refOn_calls (a : Nat) (s : ByteArray) (w : World) (ha : a < 4294967296) (hs : s.size ≤ 562949953421312) :
    Calls Try.prog 54 #[.int .u32 a, .string s] w fun e w' => e = .returned (.int .u32 ((Crc.sumOn a (bytesN s) : Nat) : Int)) ∧ w = w' := by
  have hmax := Aside0.mk (u32_xor_nat 4294967295 a (by omega) ha)
  go_enter Try.func54, Try.ntmps54
  go_wp2_with fail
  go_loop [5, 6] (fun c j => ∃ n : Nat, n ≤ s.size ∧ j = .int .i64 n ∧ c = .int .u32 ((Crc.run (4294967295 ^^^ a) ((bytesN s).take n) : Nat) : Int)) (fun _ j => s.size - (intOf j).toNat)
  case atStart => exact ⟨0, by omega, rfl, by rw [List.take_zero]; exact congrArg (Value.int .u32) hmax.out⟩
  case round =>
    obtain ⟨n, hn, rfl, rfl⟩ := hrel
    have hcl : Crc.run (4294967295 ^^^ a) ((bytesN s).take n) < 4294967296 := Crc.run_lt _ (Crc.xor_lt32 (by omega) ha) (fun b hb => bytesN_lt s b (List.mem_of_mem_take hb))
    by_cases hlt : n < s.size
    · have hst := bytesN_take s n hlt
      have hby : (s[n]).toNat < 256 := (s[n]).toNat_lt
      obtain ⟨c0, hc0⟩ : ∃ c0, c0 = Crc.run (4294967295 ^^^ a) ((bytesN s).take n) := ⟨_, rfl⟩
      obtain ⟨c1, hc1⟩ : ∃ c1, c1 = c0 ^^^ s[n].toNat := ⟨_, rfl⟩
      have hl0 : c0 < 4294967296 := by rw [hc0]; exact hcl
      have hl1 : c1 < 4294967296 := by rw [hc1]; exact Crc.xor_lt32 hl0 (by omega)
      have hnext : Aside0 (Crc.run (4294967295 ^^^ a) ((bytesN s).take (n + 1)) = Crc.step8 c1) := ⟨by rw [hst, Crc.run_snoc, ← hc0, ← hc1]⟩
      have x1 : bits .xor .u32 (c0 : Int) (s[n].toNat : Int) = (c1 : Int) := by rw [hc1]; exact u32_xor_nat c0 _ hl0 (by omega)
      rw [← hc0]
      clear hc0 hc1 hst hcl hmax
      go_wp2_with fail
      refine (refStep_calls c1 _ hl1).mono ?_
      rintro e w1 ⟨rfl, rfl⟩
      go_wp2_with fail
      go_round
      case rel => exact ⟨n + 1, by omega, by go_num, by rw [hnext.out]⟩
      case measure => simp [intOf]; omega
    · obtain rfl : n = s.size := by omega
      have hend := Aside0.mk (u32_xor_nat 4294967295 _ (by omega) hcl)
      have hall : (bytesN s).take s.size = bytesN s := List.take_of_length_le (by rw [bytesN_len]; exact Nat.le_refl _)
      rw [hall] at hend ⊢
      clear hall hcl
      go_wp2
      go_ret
      exact ⟨congrArg (fun z => Ending.returned (Value.int .u32 z)) hend.out, rfl⟩

theorem refSum_calls (s : ByteArray) (w : World) (hs : s.size ≤ 562949953421312) :
    Calls Try.prog 38 #[.string s] w fun e w' => e = .returned (.int .u32 ((Crc.sum (bytesN s) : Nat) : Int)) ∧ w = w' := by
  go_enter Try.func38, Try.ntmps38
  go_wp2_with fail
  refine (refOn_calls 0 s _ (by omega) hs).mono ?_
  rintro e w1 ⟨rfl, rfl⟩
  go_wp2_with fail
  go_ret
  exact ⟨rfl, rfl⟩

/-! for the printed texts -/
def sumF (s : ByteArray) : Option Int := if s.size ≤ 562949953421312 then some ((Crc.sum (bytesN s) : Nat) : Int) else none
def wire_Sum.f (a0 : ByteArray) : Option Int := sumF a0
def concordref01_Sum.f (a0 : ByteArray) : Option Int := sumF a0
theorem wire_Sum.calls (a0 : ByteArray) (r : Int) (w : World) (h : wire_Sum.f a0 = some r) : Calls Try.prog 33 #[.string a0] w fun e w' => e = .returned (.int .u32 r) ∧ Below w.heap.size w w' := by
  unfold wire_Sum.f sumF at h
  by_cases hs : a0.size ≤ 562949953421312
  · rw [if_pos hs] at h
    obtain rfl := Option.some.inj h
    exact Sum_calls a0 w hs
  · rw [if_neg hs] at h; cases h
theorem concordref01_Sum.calls (a0 : ByteArray) (r : Int) (w : World) (h : concordref01_Sum.f a0 = some r) : Calls Try.prog 38 #[.string a0] w fun e w' => e = .returned (.int .u32 r) ∧ Drawn0 w w' := by
  unfold concordref01_Sum.f sumF at h
  by_cases hs : a0.size ≤ 562949953421312
  · rw [if_pos hs] at h
    obtain rfl := Option.some.inj h
    exact (refSum_calls a0 w hs).mono fun _ _ ⟨he, hw⟩ => ⟨he, by rw [← hw]; exact Drawn0.refl _⟩
  · rw [if_neg hs] at h; cases h
end Go.Proofs.Ytgboppgghidgbaa.My
