/- The check sum, more laws: the product of two registers; a row of bytes as one number. -/
import Derived.Test.YtikfdfagnalmbaaCrc2
namespace Go.Proofs.Ytikfdfagnalmbaa.Crc
theorem step1_zero : step1 0 = 0 := rfl
theorem stepN_zero : ∀ n, stepN n 0 = 0
  | 0 => rfl
  | n + 1 => by rw [stepN, step1_zero]; exact stepN_zero n
/-- The product of a register of n bits (the highest first) and another one. -/
def U : Nat → Nat → Nat → Nat
  | 0, _, _ => 0
  | n + 1, a, c => U n (a / 2) c ^^^ (if a % 2 = 1 then stepN n c else 0)
theorem U_zero : ∀ n c, U n 0 c = 0
  | 0, _ => rfl
  | n + 1, c => by rw [U, U_zero n c]; simp
theorem ite_xor (p : Prop) [Decidable p] (q : Prop) [Decidable q] (r : Prop) [Decidable r] (h : r ↔ ¬ (p ↔ q)) (x : Nat) : (if r then x else 0) = (if p then x else 0) ^^^ (if q then x else 0) := by
  by_cases hp : p <;> by_cases hq : q <;> simp [h, hp, hq]
theorem U_xor_a : ∀ n a b c, U n (a ^^^ b) c = U n a c ^^^ U n b c
  | 0, _, _, _ => by simp [U]
  | n + 1, a, b, c => by
    rw [U, U, U, xor_half, U_xor_a n, ite_xor (a % 2 = 1) (b % 2 = 1) ((a ^^^ b) % 2 = 1) (by rw [xor_mod2]; omega), xor_rot]
theorem U_xor_c : ∀ n a c d, U n a (c ^^^ d) = U n a c ^^^ U n a d
  | 0, _, _, _ => by simp [U]
  | n + 1, a, c, d => by
    rw [U, U, U, U_xor_c n, stepN_xor]
    by_cases h : a % 2 = 1
    · rw [if_pos h, if_pos h, if_pos h, xor_rot]
    · rw [if_neg h, if_neg h, if_neg h]; simp
theorem U_grow : ∀ n a c, a < 2 ^ n → U (n + 1) a c = step1 (U n a c)
  | 0, a, c, h => by
    obtain rfl : a = 0 := by simpa using h
    simp [U, step1_zero]
  | n + 1, a, c, h => by
    rw [U, U_grow n (a / 2) c (by rw [Nat.pow_succ] at h; omega)]
    conv => rhs; rw [U, step1_xor]
    congr 1
    split
    · exact stepN_succ' n c
    · rfl
theorem U_top : ∀ n a c, a < 2 ^ (n + 1) → U (n + 1) a c = (if a / 2 ^ n = 1 then c else 0) ^^^ U n (a % 2 ^ n) (step1 c)
  | 0, a, c, h => by
    have : a < 2 := by simpa using h
    simp only [U, stepN, Nat.pow_zero, Nat.div_one, Nat.xor_zero, Nat.zero_xor]
    rw [Nat.mod_eq_of_lt this]
  | n + 1, a, c, h => by
    have h2 : a / 2 < 2 ^ (n + 1) := by rw [Nat.pow_succ] at h; omega
    rw [U, U_top n (a / 2) c h2]
    conv => rhs; rw [U]
    have e1 : a / 2 / 2 ^ n = a / 2 ^ (n + 1) := by rw [Nat.div_div_eq_div_mul, Nat.pow_succ, Nat.mul_comm]
    have e2 : a % 2 ^ (n + 1) / 2 = a / 2 % 2 ^ n := by
      rw [Nat.pow_succ, Nat.mul_comm, Nat.mod_mul_right_div_self]
    have e3 : a % 2 ^ (n + 1) % 2 = a % 2 := by
      rw [Nat.pow_succ, Nat.mul_comm]; exact Nat.mod_mul_right_mod a 2 (2 ^ n)
    rw [e1, e2, e3, Nat.xor_assoc]
    rfl
theorem U_dbl (a c : Nat) : U 32 (2 * a) c = U 31 a c := by
  rw [U, show 2 * a / 2 = a by omega, if_neg (by omega : ¬ 2 * a % 2 = 1), Nat.xor_zero]
/-- One round of the loop of the product. -/
theorem U_round (a c : Nat) (h : a < 4294967296) : U 32 a c = (if a / 2147483648 = 1 then c else 0) ^^^ U 32 (a * 2 % 4294967296) (step1 c) := by
  rw [U_top 31 a c (by simpa using h), show a * 2 % 4294967296 = 2 * (a % 2147483648) by omega, U_dbl]
/-- The polynomial is the thirty-second power. -/
theorem U_poly_basis : ∀ j, j < 32 → U 32 poly (2 ^ j) = stepN 32 (2 ^ j) := by decide +kernel
theorem bits_all (f g : Nat → Nat) (hf : ∀ a b, f (a ^^^ b) = f a ^^^ f b) (hg : ∀ a b, g (a ^^^ b) = g a ^^^ g b) (n : Nat) (h : ∀ j, j < n → f (2 ^ j) = g (2 ^ j)) : ∀ k, k ≤ n → ∀ c, c < 2 ^ k → f c = g c
  | 0, _, c, hc => by
    obtain rfl : c = 0 := by simpa using hc
    have h0 := hf 0 0
    have h1 := hg 0 0
    simp at h0 h1
    rw [h0, h1]
  | k + 1, hk, c, hc => by
    by_cases hlt : c < 2 ^ k
    · exact bits_all f g hf hg n h k (by omega) c hlt
    · have e : c = 2 ^ k ^^^ (c - 2 ^ k) := by
        have h1 := Nat.two_pow_add_eq_or_of_lt (i := k) (b := c - 2 ^ k) (by rw [Nat.pow_succ] at hc; omega) 1
        have h2 : c = 2 ^ k + (c - 2 ^ k) := by omega
        have h3 : 2 ^ k &&& (c - 2 ^ k) = 0 := by
          apply Nat.eq_of_testBit_eq
          intro i
          rw [Nat.testBit_and, Nat.testBit_two_pow, Nat.zero_testBit]
          by_cases hi : k = i
          · subst hi
            rw [Nat.testBit_lt_two_pow (by rw [Nat.pow_succ] at hc; omega)]; simp
          · simp [hi]
        have h4 := Nat.two_pow_add_eq_or_of_lt (i := k) (b := c - 2 ^ k) (by rw [Nat.pow_succ] at hc; omega) 1
        rw [Nat.mul_one] at h4
        conv => lhs; rw [h2, h4]
        apply Nat.eq_of_testBit_eq
        intro i
        rw [Nat.testBit_or, Nat.testBit_xor, Nat.testBit_two_pow]
        by_cases hi : k = i
        · subst hi
          rw [Nat.testBit_lt_two_pow (by rw [Nat.pow_succ] at hc; omega)]; simp
        · simp [hi]
      rw [e, hf, hg, h k (by omega), bits_all f g hf hg n h k (by omega) (c - 2 ^ k) (by rw [Nat.pow_succ] at hc; omega)]
theorem U_poly (c : Nat) (h : c < 4294967296) : U 32 poly c = stepN 32 c :=
  bits_all (U 32 poly) (stepN 32) (U_xor_c 32 poly) (stepN_xor 32) 32 U_poly_basis 32 (Nat.le_refl _) c (by simpa using h)
theorem U_step (b c : Nat) (hb : b < 4294967296) (hc : c < 4294967296) : U 32 (step1 b) c = step1 (U 32 b c) := by
  have e1 : U 32 (b / 2) c = step1 (U 31 (b / 2) c) := U_grow 31 (b / 2) c (by simp; omega)
  have e2 : step1 (U 32 b c) = step1 (U 31 (b / 2) c) ^^^ (if b % 2 = 1 then stepN 32 c else 0) := by
    rw [U, step1_xor]
    congr 1
    split
    · exact (stepN_succ' 31 c).symm
    · rfl
  rw [e2, ← e1, step1]
  split
  · rw [U_xor_a, U_poly c hc]
  · simp
theorem U_steps : ∀ (n : Nat) (b c : Nat), b < 4294967296 → c < 4294967296 → U 32 (stepN n b) c = stepN n (U 32 b c)
  | 0, _, _, _, _ => rfl
  | n + 1, b, c, hb, hc => by
    rw [stepN_succ', stepN_succ', U_step _ _ (stepN_lt n hb) hc, U_steps n b c hb hc]
theorem U_one (c : Nat) : U 32 2147483648 c = c := by
  rw [U_round 2147483648 c (by omega), if_pos (by rfl)]
  rw [show 2147483648 * 2 % 4294967296 = 0 from rfl, U_zero, Nat.xor_zero]
/-- The product with a power. -/
theorem U_pow (n c : Nat) (hc : c < 4294967296) : U 32 (stepN n 2147483648) c = stepN n c := by
  rw [U_steps n _ c (by omega) hc, U_one]

/-! A row of bytes as one number. -/
def num : List Nat → Nat
  | [] => 0
  | x :: l => x + 256 * num l
theorem add_xor (x m k : Nat) (hx : x < 2 ^ k) : x + 2 ^ k * m = x ^^^ (2 ^ k * m) := by
  apply Nat.eq_of_testBit_eq
  intro i
  rw [Nat.testBit_xor, Nat.add_comm, Nat.testBit_two_pow_mul_add _ hx, Nat.testBit_two_pow_mul]
  by_cases h : i < k
  · rw [if_pos h]; simp [show ¬ k ≤ i by omega]
  · rw [if_neg h, Nat.testBit_lt_two_pow (Nat.lt_of_lt_of_le hx (Nat.pow_le_pow_right (by omega) (by omega)))]
    simp [show k ≤ i by omega]
theorem step8_256 (m : Nat) : step8 (256 * m) = m := by
  unfold step8
  rw [stepN_high 8 _ (by omega)]
  omega
theorem run_num : ∀ (l : List Nat) (c : Nat), (∀ x ∈ l, x < 256) → run c l = stepN (8 * l.length) (c ^^^ num l)
  | [], c, _ => by simp [run, num, stepN]
  | x :: l, c, h => by
    have hx : x < 256 := h x (by simp)
    have e : c ^^^ num (x :: l) = (c ^^^ x) ^^^ (256 * num l) := by
      have := add_xor x (num l) 8 (by simpa using hx)
      rw [num, show x + 256 * num l = x ^^^ (256 * num l) from this, Nat.xor_assoc]
    show run (step8 (c ^^^ x)) l = _
    rw [run_num l _ (fun y hy => h y (by simp [hy])), e, List.length_cons, show 8 * (l.length + 1) = 8 + 8 * l.length by omega, stepN_add]
    show _ = stepN (8 * l.length) (step8 ((c ^^^ x) ^^^ (256 * num l)))
    rw [show step8 ((c ^^^ x) ^^^ (256 * num l)) = step8 (c ^^^ x) ^^^ step8 (256 * num l) from stepN_xor 8 _ _, step8_256]
theorem num_set : ∀ (l : List Nat) (k j : Nat) (hk : k < l.length), j < 8 → (∀ x ∈ l, x < 256) → num (l.set k (l[k] ^^^ 2 ^ j)) = num l ^^^ 2 ^ (8 * k + j)
  | [], k, _, hk, _, _ => by simp at hk
  | x :: l, 0, j, _, hj, h => by
    have hx : x < 256 := h x (by simp)
    have h2 : 2 ^ j < 256 := by
      have : 2 ^ j < 2 ^ 8 := Nat.pow_lt_pow_right (by omega) hj
      simpa using this
    have h3 : x ^^^ 2 ^ j < 2 ^ 8 := Nat.xor_lt_two_pow (by simpa using hx) (by simpa using h2)
    show (x ^^^ 2 ^ j) + 256 * num l = (x + 256 * num l) ^^^ 2 ^ (8 * 0 + j)
    rw [show (x ^^^ 2 ^ j) + 256 * num l = (x ^^^ 2 ^ j) ^^^ (256 * num l) from add_xor _ _ 8 h3, show x + 256 * num l = x ^^^ (256 * num l) from add_xor x (num l) 8 (by simpa using hx)]
    rw [Nat.mul_zero, Nat.zero_add, Nat.xor_assoc, Nat.xor_comm (2 ^ j), ← Nat.xor_assoc]
  | x :: l, k + 1, j, hk, hj, h => by
    have hx : x < 256 := h x (by simp)
    have hk2 : k < l.length := by simpa using hk
    have ih := num_set l k j hk2 hj (fun y hy => h y (by simp [hy]))
    show x + 256 * num (l.set k (l[k] ^^^ 2 ^ j)) = (x + 256 * num l) ^^^ 2 ^ (8 * (k + 1) + j)
    rw [ih, show x + 256 * num l = x ^^^ (256 * num l) from add_xor x (num l) 8 (by simpa using hx), show x + 256 * (num l ^^^ 2 ^ (8 * k + j)) = x ^^^ (256 * (num l ^^^ 2 ^ (8 * k + j))) from add_xor x _ 8 (by simpa using hx)]
    rw [Nat.xor_assoc]
    congr 1
    have e : ∀ y z : Nat, 256 * (y ^^^ z) = 256 * y ^^^ 256 * z := fun y z => by
      have h2 : ∀ n : Nat, 256 * n = n <<< 8 := fun n => by rw [Nat.shiftLeft_eq]; omega
      rw [h2, h2, h2, Nat.shiftLeft_xor_distrib]
    rw [e, show 8 * (k + 1) + j = (8 * k + j) + 8 by omega, Nat.pow_add 2 (8 * k + j) 8, Nat.mul_comm (2 ^ (8 * k + j))]
/-- The sums of two rows of one length whose numbers differ by m at a bit: they are one just if m is nothing. -/
theorem sum_turned (l l' : List Nat) (m at_ : Nat) (hl : l'.length = l.length) (h : ∀ x ∈ l, x < 256) (h' : ∀ x ∈ l', x < 256) (hm : m < 4294967296) (hat : at_ ≤ 8 * l.length) (e : num l' = num l ^^^ m * 2 ^ at_) : sum l' = sum l ↔ m = 0 := by
  rw [sum_def, sum_def, run_num l _ h, run_num l' _ h', hl, e, ← Nat.xor_assoc, stepN_xor]
  obtain ⟨d, hd⟩ : ∃ d, 8 * l.length = at_ + d := ⟨_, (Nat.add_sub_cancel' hat).symm⟩
  have e2 : stepN (8 * l.length) (m * 2 ^ at_) = stepN d m := by
    rw [hd, stepN_add, stepN_high at_ _ (Nat.mul_mod_left _ _), Nat.mul_div_cancel _ (Nat.pow_pos (by omega))]
  rw [e2]
  constructor
  · intro hh
    have h1 := xor_lc hh
    generalize stepN (8 * l.length) (4294967295 ^^^ num l) = X at h1
    have h2 : stepN d m = 0 := by
      have : X ^^^ (X ^^^ stepN d m) = X ^^^ X := by rw [h1]
      rw [← Nat.xor_assoc, Nat.xor_self, Nat.zero_xor] at this
      exact this
    exact stepN_inj d hm (by omega) (h2.trans (stepN_zero d).symm)
  · rintro rfl
    rw [stepN_zero, Nat.xor_zero]
end Go.Proofs.Ytikfdfagnalmbaa.Crc
