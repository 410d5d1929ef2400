/- wire.times and wire.Joined, as printed, in plain numbers. -/
import Derived.Test.YtikfdfagnalmbaaCrcT
import Derived.Test.YtikfdfagnalmbaaPJx1
namespace Go.Proofs.Ytikfdfagnalmbaa.My
open Go.RowKit Go.Proofs.YtikfdfagnalmbaaW.PrintWords Go.Proofs.Ytikfdfagnalmbaa Go.Proofs.Ytikfdfagnalmbaa.PJ
theorem top_bit (a : Nat) (h : a < 4294967296) : Go.bits .and .u32 (a : Int) 2147483648 = 0 ↔ ¬ a / 2147483648 = 1 := by
  have e := u32_and_nat a 2147483648 h (by omega)
  have e2 : a &&& 2147483648 = (a / 2147483648 % 2) * 2147483648 := by
    rcases Nat.mod_two_eq_zero_or_one (a / 2147483648) with h2 | h2
    · rw [h2]
      apply Nat.eq_of_testBit_eq
      intro i
      rw [Nat.testBit_and, show (2147483648 : Nat) = 2 ^ 31 from rfl, Nat.testBit_two_pow]
      by_cases hi : 31 = i
      · subst hi
        have : a < 2 ^ 31 := by omega
        rw [Nat.testBit_lt_two_pow this]; simp
      · simp [hi]
    · rw [h2]
      apply Nat.eq_of_testBit_eq
      intro i
      rw [Nat.testBit_and, show (2147483648 : Nat) = 2 ^ 31 from rfl, Nat.one_mul, Nat.testBit_two_pow]
      by_cases hi : 31 = i
      · subst hi
        have : a.testBit 31 = true := by
          rw [Nat.testBit_eq_decide_div_mod_eq]
          exact decide_eq_true h2
        rw [this]; simp
      · simp [hi]
  rw [show ((2147483648 : Int)) = ((2147483648 : Nat) : Int) from rfl, e, e2]
  omega
theorem dbl_mod (m a : Nat) (hm : m + 1 ≤ 32) (h : a % 2 ^ (32 - (m + 1)) = 0) : (a * 2 % 4294967296) % 2 ^ (32 - m) = 0 := by
  obtain ⟨q, hq⟩ : ∃ q, a = 2 ^ (32 - (m + 1)) * q := ⟨a / 2 ^ (32 - (m + 1)), by have := Nat.div_add_mod a (2 ^ (32 - (m + 1))); omega⟩
  have e : 32 - m = (32 - (m + 1)) + 1 := by omega
  have hd : 2 ^ (32 - m) ∣ 4294967296 := by
    rw [show (4294967296 : Nat) = 2 ^ 32 from rfl]
    exact Nat.pow_dvd_pow 2 (by omega)
  rw [Nat.mod_mod_of_dvd _ hd, e, Nat.pow_succ, hq]
  rw [Nat.mul_assoc, Nat.mul_comm q 2, ← Nat.mul_assoc]
  exact Nat.mul_mod_right _ _
theorem times_l0 : ∀ (m a b p k : Nat), m ≤ 32 → a < 4294967296 → b < 4294967296 → p < 4294967296 → a % 2 ^ (32 - m) = 0 → m + 1 ≤ k → wire_times.l0 k (a : Int) (b : Int) (p : Int) = some ((p ^^^ Crc.U 32 a b : Nat) : Int)
  | 0, a, b, p, k, _, ha, _, _, hd, hk => by
    obtain ⟨k, rfl⟩ : ∃ j, k = j + 1 := ⟨k - 1, by omega⟩
    obtain rfl : a = 0 := by simpa [Nat.mod_eq_of_lt (show a < 2 ^ 32 from ha)] using hd
    rw [wire_times.l0, if_pos (by rfl), Crc.U_zero, Nat.xor_zero]
  | m + 1, a, b, p, k, hm, ha, hb, hp, hd, hk => by
    obtain ⟨k, rfl⟩ : ∃ j, k = j + 1 := ⟨k - 1, by omega⟩
    rw [wire_times.l0]
    by_cases h0 : a = 0
    · subst h0
      rw [if_pos (by rfl), Crc.U_zero, Nat.xor_zero]
    · rw [if_neg (by omega)]
      have e1 : ((a : Int) * 2) % 4294967296 = ((a * 2 % 4294967296 : Nat) : Int) := by omega
      rw [Crc.bits_step b hb, e1, Crc.U_round a b ha]
      have hs := Crc.step1_lt hb
      by_cases ht : a / 2147483648 = 1
      · rw [if_neg (by rw [top_bit a ha]; omega), u32_xor_nat p b hp hb, if_pos ht, times_l0 m _ _ _ k (by omega) (Nat.mod_lt _ (by omega)) hs (Crc.xor_lt32 hp hb) (dbl_mod m a hm hd) (by omega), Nat.xor_assoc]
      · rw [if_pos (by rw [top_bit a ha]; omega), if_neg ht, times_l0 m _ _ _ k (by omega) (Nat.mod_lt _ (by omega)) hs hp (dbl_mod m a hm hd) (by omega), Nat.zero_xor]
theorem times_f (k a b : Nat) (ha : a < 4294967296) (hb : b < 4294967296) (hk : 33 ≤ k) : wire_times.f k (a : Int) (b : Int) = some ((Crc.U 32 a b : Nat) : Int) := by
  have h := times_l0 32 a b 0 k (by omega) ha hb (by omega) (Nat.mod_one _) (by omega)
  rw [Nat.zero_xor] at h
  exact h
theorem i64_odd (n : Nat) (h : n < 9223372036854775808) : Go.bits .and .i64 (n : Int) 1 = ((n % 2 : Nat) : Int) := by
  have h127 : (BitVec.ofInt 64 1).toNat = 2 ^ 1 - 1 := by decide
  have key : (BitVec.ofInt 64 (n : Int) &&& BitVec.ofInt 64 1).toNat = ((n : Int) % ((2 ^ 64 : Nat) : Int)).toNat % 2 ^ 1 := by
    rw [BitVec.toNat_and, BitVec.toNat_ofInt, h127, Nat.and_two_pow_sub_one_eq_mod]
  show IntKind.i64.wrap ((BitVec.ofInt 64 (n : Int) &&& BitVec.ofInt 64 1).toNat : Nat) = _
  rw [key, IntKind.wrap_i64]
  omega
theorem joined_l0 : ∀ (n a b e k : Nat), n < 9223372036854775808 → a < 4294967296 → b < 4294967296 → n + 34 ≤ k → wire_Joined.l0 k (a : Int) (b : Int) (n : Int) ((Crc.stepN e 2147483648 : Nat) : Int) = some ((Crc.stepN (e * n) a ^^^ b : Nat) : Int) := by
  intro n
  induction n using Nat.strongRecOn with
  | _ n ih =>
    intro a b e k hn ha hb hk
    obtain ⟨k, rfl⟩ : ∃ j, k = j + 1 := ⟨k - 1, by omega⟩
    rw [wire_Joined.l0]
    by_cases h0 : n = 0
    · subst h0
      rw [if_neg (by omega), u32_xor_nat a b ha hb]
      rfl
    · have hx : Crc.stepN e 2147483648 < 4294967296 := Crc.stepN_lt e (by omega)
      have e2 : (n : Int) / 2 = ((n / 2 : Nat) : Int) := by omega
      rw [if_pos (by omega), i64_odd n hn, e2, times_f k _ _ hx hx (by omega), Crc.U_pow e _ hx, ← Crc.stepN_add]
      simp only [Option.bind_some]
      have e3 : e + e = 2 * e := by omega
      by_cases h1 : n % 2 = 1
      · have hs : Crc.stepN e a < 4294967296 := Crc.stepN_lt e ha
        rw [if_pos (by omega), times_f k _ _ hx ha (by omega), Crc.U_pow e _ ha]
        simp only [Option.bind_some]
        rw [ih (n / 2) (by omega) (Crc.stepN e a) b (e + e) k (by omega) hs hb (by omega), ← Crc.stepN_add, e3]
        have e4 : e + 2 * e * (n / 2) = e * n := by
          conv => rhs; rw [show n = 2 * (n / 2) + 1 by omega]
          rw [Nat.mul_add, Nat.mul_one, Nat.mul_comm 2 e, Nat.mul_assoc, Nat.add_comm]
        rw [e4]
      · rw [if_neg (by omega), ih (n / 2) (by omega) a b (e + e) k (by omega) ha hb (by omega), e3]
        have e4 : 2 * e * (n / 2) = e * n := by
          conv => rhs; rw [show n = 2 * (n / 2) by omega]
          rw [Nat.mul_comm 2 e, Nat.mul_assoc]
        rw [e4]
theorem rev_one : bits_Reverse32.f 256 = some ((Crc.stepN 8 2147483648 : Nat) : Int) := by decide +kernel
theorem joined_f (n a b k : Nat) (hn : n < 9223372036854775808) (ha : a < 4294967296) (hb : b < 4294967296) (hk : n + 34 ≤ k) : wire_Joined.f k (a : Int) (b : Int) (n : Int) = some ((Crc.stepN (8 * n) a ^^^ b : Nat) : Int) := by
  rw [wire_Joined.f, rev_one, Option.bind_some, joined_l0 n a b 8 k hn ha hb hk]
theorem joined_neg (n : Int) (a b k : Nat) (hn : n ≤ 0) (ha : a < 4294967296) (hb : b < 4294967296) : wire_Joined.f (k + 1) (a : Int) (b : Int) n = some ((a ^^^ b : Nat) : Int) := by
  rw [wire_Joined.f, rev_one, Option.bind_some, wire_Joined.l0, if_neg (by omega), u32_xor_nat a b ha hb]
end Go.Proofs.Ytikfdfagnalmbaa.My
