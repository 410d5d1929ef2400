/- The check sum tells one byte from another; the sums of a page's worth of noughts, by the kernel's own reckoning. -/
import Derived.Test.YtgboppgghidgbaaCrc
namespace Go.Proofs.Ytgboppgghidgbaa.Crc

theorem xor_lc {a b c : Nat} (h : a ^^^ b = a ^^^ c) : b = c := by
  have := congrArg (fun z => a ^^^ z) h
  simpa only [← Nat.xor_assoc, Nat.xor_self, Nat.zero_xor] using this
theorem xor_rc {a b c : Nat} (h : a ^^^ c = b ^^^ c) : a = b := by rw [Nat.xor_comm a, Nat.xor_comm b] at h; exact xor_lc h
theorem step1_inj {a b : Nat} (ha : a < 4294967296) (hb : b < 4294967296) (h : step1 a = step1 b) : a = b := by
  have hp : poly.testBit 31 = true := by decide
  have low : ∀ x : Nat, x < 4294967296 → (x / 2).testBit 31 = false := fun x hx => Nat.testBit_lt_two_pow (by omega)
  unfold step1 at h
  rcases Nat.mod_two_eq_zero_or_one a with h1 | h1 <;> rcases Nat.mod_two_eq_zero_or_one b with h2 | h2
  · rw [if_neg (by omega), if_neg (by omega)] at h; omega
  · rw [if_neg (by omega), if_pos h2] at h
    have := congrArg (fun n => Nat.testBit n 31) h
    simp only [Nat.testBit_xor, hp, low a ha, low b hb] at this
    cases this
  · rw [if_pos h1, if_neg (by omega)] at h
    have := congrArg (fun n => Nat.testBit n 31) h
    simp only [Nat.testBit_xor, hp, low a ha, low b hb] at this
    cases this
  · rw [if_pos h1, if_pos h2] at h
    have := xor_rc h
    omega
theorem stepN_inj : ∀ (n : Nat) {a b : Nat}, a < 4294967296 → b < 4294967296 → stepN n a = stepN n b → a = b
  | 0, _, _, _, _, h => h
  | n + 1, _, _, ha, hb, h => step1_inj ha hb (stepN_inj n (step1_lt ha) (step1_lt hb) h)
theorem run_inj : ∀ (l : List Nat) {a b : Nat}, a < 4294967296 → b < 4294967296 → (∀ x ∈ l, x < 256) → run a l = run b l → a = b
  | [], _, _, _, _, _, h => h
  | x :: l, a, b, ha, hb, hl, h => by
    have hx : x < 4294967296 := by have := hl x (by simp); omega
    have h1 := run_inj l (a := step8 (a ^^^ x)) (b := step8 (b ^^^ x)) (step8_lt (xor_lt32 ha hx)) (step8_lt (xor_lt32 hb hx)) (fun y hy => hl y (by simp [hy])) h
    exact xor_rc (stepN_inj 8 (xor_lt32 ha hx) (xor_lt32 hb hx) h1)
theorem sum_one (l m : List Nat) (x y : Nat) (hl : ∀ z ∈ l, z < 256) (hm : ∀ z ∈ m, z < 256) (hx : x < 256) (hy : y < 256) (h : sum (l ++ x :: m) = sum (l ++ y :: m)) : x = y := by
  unfold sum sumOn at h
  have h0 := xor_lc h
  rw [run_append, run_append] at h0
  have hr : run (4294967295 ^^^ 0) l < 4294967296 := run_lt l (by decide) hl
  have h1 : step8 (run (4294967295 ^^^ 0) l ^^^ x) = step8 (run (4294967295 ^^^ 0) l ^^^ y) :=
    run_inj m (step8_lt (xor_lt32 hr (by omega))) (step8_lt (xor_lt32 hr (by omega))) hm h0
  exact xor_lc (stepN_inj 8 (xor_lt32 hr (by omega)) (xor_lt32 hr (by omega)) h1)
theorem run_zeros : ∀ (n c : Nat), run c (List.replicate n 0) = stepN (8 * n) c
  | 0, _ => rfl
  | n + 1, c => by
    rw [List.replicate_succ]
    show run (step8 (c ^^^ 0)) (List.replicate n 0) = _
    rw [run_zeros n, Nat.xor_zero, show 8 * (n + 1) = 8 + 8 * n from by omega, stepN_add]
    rfl

/-! reckoned -/
def step1b (c : Nat) : Nat := (c / 2) ^^^ (c % 2 * poly)
theorem step1b_eq (c : Nat) : step1b c = step1 c := by
  unfold step1b step1
  rcases Nat.mod_two_eq_zero_or_one c with h | h <;> simp [h]
/-- c is reckoned first. -/
def force {α : Type} (c : Nat) (k : Nat → α) : α := Nat.rec (motive := fun _ => α) (k 0) (fun n _ => k (n + 1)) c
theorem force_eq {α : Type} (c : Nat) (k : Nat → α) : force c k = k c := by cases c <;> rfl
def stepS : Nat → Nat → Nat
  | 0, c => c
  | n + 1, c => force (step1b c) (stepS n)
theorem stepS_eq : ∀ (n c : Nat), stepS n c = stepN n c
  | 0, _ => rfl
  | n + 1, c => by
    show force (step1b c) (stepS n) = stepN n (step1 c)
    rw [force_eq, step1b_eq, stepS_eq n]
set_option maxRecDepth 100000 in
theorem zero_sum : stepN (8 * 1024) 4294967295 = 4294967295 ^^^ 4004437628 := by rw [← stepS_eq]; decide +kernel
set_option maxRecDepth 100000 in
theorem k8 : stepN (8 * 1016) 1880699106 = 4294967295 ∧ stepN (8 * 8) 4294967295 = 1943489909 := by rw [← stepS_eq, ← stepS_eq]; decide +kernel
set_option maxRecDepth 100000 in
theorem k9 : stepN (8 * 1015) 41664989 = 4294967295 ∧ stepN (8 * 9) 4294967295 = 1142593372 := by rw [← stepS_eq, ← stepS_eq]; decide +kernel
set_option maxRecDepth 100000 in
theorem k10 : stepN (8 * 1014) 1828312761 = 4294967295 ∧ stepN (8 * 10) 4294967295 = 471994260 := by rw [← stepS_eq, ← stepS_eq]; decide +kernel
set_option maxRecDepth 100000 in
theorem k11 : stepN (8 * 1013) 3402322131 = 4294967295 ∧ stepN (8 * 11) 4294967295 = 1429096711 := by rw [← stepS_eq, ← stepS_eq]; decide +kernel
set_option maxRecDepth 100000 in
theorem k12 : stepN (8 * 1012) 3226065167 = 4294967295 ∧ stepN (8 * 12) 4294967295 = 3567209122 := by rw [← stepS_eq, ← stepS_eq]; decide +kernel
set_option maxRecDepth 100000 in
theorem k13 : stepN (8 * 1011) 1590916605 = 4294967295 ∧ stepN (8 * 13) 4294967295 = 1134844443 := by rw [← stepS_eq, ← stepS_eq]; decide +kernel
set_option maxRecDepth 100000 in
theorem k14 : stepN (8 * 1010) 1276702931 = 4294967295 ∧ stepN (8 * 14) 4294967295 = 2308229134 := by rw [← stepS_eq, ← stepS_eq]; decide +kernel
set_option maxRecDepth 100000 in
theorem k15 : stepN (8 * 1009) 3234794159 = 4294967295 ∧ stepN (8 * 15) 4294967295 = 2901486575 := by rw [← stepS_eq, ← stepS_eq]; decide +kernel

theorem sum_def (l : List Nat) : sum l = 4294967295 ^^^ run 4294967295 l := by unfold sum sumOn; rw [Nat.xor_zero]
theorem sum_of_run {l : List Nat} {k : Nat} (h : run 4294967295 l = 4294967295 ^^^ k) : sum l = k := by
  rw [sum_def, h, ← Nat.xor_assoc, Nat.xor_self, Nat.zero_xor]
theorem run_zeros_eq {n c r : Nat} (h : stepN (8 * n) c = r) : run c (List.replicate n 0) = r := (run_zeros n c).trans h
theorem sum_zeros : sum (List.replicate 1024 0) = 4004437628 := sum_of_run (run_zeros_eq zero_sum)
/-- A page of noughts but for one byte: no sum of nought, where the inverse of the rest is known. -/
theorem one_byte (i y p q : Nat) (hi : i < 1024) (hy : y < 256) (hp : stepN (8 * (1024 - i)) p = 4294967295) (hq : stepN (8 * i) 4294967295 = q) (hpl : p < 4294967296) (hbig : 256 ≤ q ^^^ p) :
    sum (List.replicate i 0 ++ y :: List.replicate (1023 - i) 0) ≠ 0 := by
  intro h
  unfold sum sumOn at h
  have h0 : run (4294967295 ^^^ 0) (List.replicate i 0 ++ y :: List.replicate (1023 - i) 0) = 4294967295 := by
    have := congrArg (fun z => 4294967295 ^^^ z) h
    simp only [← Nat.xor_assoc, Nat.xor_self, Nat.zero_xor, Nat.xor_zero] at this
    exact this
  rw [run_append, show 4294967295 ^^^ 0 = 4294967295 from rfl, run_zeros, hq] at h0
  have h1 : run (step8 (q ^^^ y)) (List.replicate (1023 - i) 0) = 4294967295 := h0
  rw [run_zeros] at h1
  have h2 : stepN (8 * (1024 - i)) (q ^^^ y) = 4294967295 := by
    rw [show 8 * (1024 - i) = 8 + 8 * (1023 - i) from by omega, stepN_add]; exact h1
  have hql : q < 4294967296 := by rw [← hq]; exact stepN_lt _ (by omega)
  have h3 := stepN_inj _ (xor_lt32 hql (by omega)) hpl (h2.trans hp.symm)
  have h4 : y = q ^^^ p := by rw [← h3, ← Nat.xor_assoc, Nat.xor_self, Nat.zero_xor]
  omega
theorem head_byte (i y : Nat) (h8 : 8 ≤ i) (h16 : i < 16) (hy : y < 256) : sum (List.replicate i 0 ++ y :: List.replicate (1023 - i) 0) ≠ 0 := by
  obtain rfl | rfl | rfl | rfl | rfl | rfl | rfl | rfl : i = 8 ∨ i = 9 ∨ i = 10 ∨ i = 11 ∨ i = 12 ∨ i = 13 ∨ i = 14 ∨ i = 15 := by omega
  · exact one_byte 8 y _ _ (by omega) hy k8.1 k8.2 (by omega) (by decide)
  · exact one_byte 9 y _ _ (by omega) hy k9.1 k9.2 (by omega) (by decide)
  · exact one_byte 10 y _ _ (by omega) hy k10.1 k10.2 (by omega) (by decide)
  · exact one_byte 11 y _ _ (by omega) hy k11.1 k11.2 (by omega) (by decide)
  · exact one_byte 12 y _ _ (by omega) hy k12.1 k12.2 (by omega) (by decide)
  · exact one_byte 13 y _ _ (by omega) hy k13.1 k13.2 (by omega) (by decide)
  · exact one_byte 14 y _ _ (by omega) hy k14.1 k14.2 (by omega) (by decide)
  · exact one_byte 15 y _ _ (by omega) hy k15.1 k15.2 (by omega) (by decide)
end Go.Proofs.Ytgboppgghidgbaa.Crc
