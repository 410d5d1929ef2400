/- WireRises: two writers, the order of bytes. -/
import Derived.Test.YtikfdfagnalmbaaWorks
namespace Go.Proofs.Ytikfdfagnalmbaa.My
open Go.RowKit Go.Proofs.YtikfdfagnalmbaaW.PrintWords Go.Proofs.YtikfdfagnalmbaaW.PrintLast Go.Proofs.YtikfdfagnalmbaaW.PrintMore Go.Proofs.Ytikfdfagnalmbaa
set_option linter.unusedSimpArgs false
set_option linter.unusedVariables false
set_option maxRecDepth 100000
set_option maxHeartbeats 800000
/-- Another writer, and what it holds, stay. -/
theorem WS_other {w w' : World} {base gx gy : Nat} {v v' u : Value} {xs ys : List Int} (hx : WS w base gx v xs) (hy : WS w base gy u ys) (m : Moved w w' gx v v') (hg : gy ≠ gx) (hap : ∀ k, u.ownBlock = some k → v.ownBlock ≠ some k) : WS w' base gy u ys ∧ (∀ k, u.ownBlock = some k → v'.ownBlock ≠ some k) := by
  have h1 : some gy ≠ v.ownBlock := Kd.R_ne hx.2.2 hy.2.1 (by decide)
  have h2 : some gx ≠ u.ownBlock := Kd.R_ne hy.2.2 hx.2.1 (by decide)
  refine ⟨⟨hy.1, (m.2.1 gy (blk_lt hy.2.1) hg h1).trans hy.2.1, ?_⟩, fun k hk => ?_⟩
  · exact Kd.R_reok rfl (Kd.R_step (Kd.R_tight rfl hy.2.2) (fun k ho hlt => m.2.1 k hlt (fun e => h2 (e ▸ ho)) (fun e => hap k ho.symm e.symm))) (fun _ _ => trivial)
  · rcases m.2.2 with e | ⟨b, e, hb⟩
    · rw [e]; exact hap k hk
    · rw [e]; intro hh; injection hh with hh
      have := Kd.R_lt hy.2.2 k hk
      omega
theorem none_apart {u v : Value} (h : u.ownBlock = none) : ∀ k, u.ownBlock = some k → v.ownBlock ≠ some k := fun k hk => by rw [h] at hk; cases hk
/-- A number that fits, a number that doesn't. -/
theorem Fixed_any (g : Nat) (v : Value) (xs : List Int) (n x : Nat) (w0 w : World) (HB0 : Below w0.heap.size w0 w) (h : WS w w0.heap.size g v xs) (hl : xs.length + 8 ≤ 140737488355328) (h1 : 1 ≤ n) (h8 : n ≤ 8) (hx : x < 18446744073709551616) :
    Calls Try.prog 32 #[.pointer (some ⟨g, 0, none⟩), .int .u64 x, .int .i64 n] w fun e w' => e = .returned (.int .i64 (if x < 256 ^ n then 0 else 1)) ∧ ∃ v', WS w' w0.heap.size g v' (xs ++ if x < 256 ^ n then be n x else []) ∧ Below w0.heap.size w0 w' ∧ Moved w w' g v v' := by
  by_cases hf : x < 256 ^ n
  · rw [if_pos hf, if_pos hf]
    exact Fixed_calls g v xs n x w0 w HB0 h hl h1 h8 hf
  · rw [if_neg hf, if_neg hf, List.append_nil]
    have h8' : n < 8 := by
      by_cases e : n = 8
      · subst e; exact absurd hx (by simpa using hf)
      · omega
    refine (Fixed_bad ⟨g, 0, none⟩ x n w (.inr (.inr ⟨by omega, by omega, by simpa using hf⟩))).mono ?_
    rintro e w' ⟨rfl, rfl⟩
    exact ⟨rfl, v, h, HB0, Moved.refl _ _ _⟩
theorem be_cons (n v : Nat) : be (n + 1) v = ((v / 256 ^ n % 256 : Nat) : Int) :: be n v := by
  unfold be
  rw [List.range_succ_eq_map, List.map_cons, List.map_map]
  congr 1
  apply List.map_congr_left
  intro i hi
  rw [List.mem_range] at hi
  show (((v / 256 ^ (n + 1 - 1 - (i + 1)) % 256 : Nat) : Int)) = _
  rw [show n + 1 - 1 - (i + 1) = n - 1 - i by omega]
theorem str_list (l : List Int) : (strOfNums l).toList = l.map (fun n => UInt8.ofNat n.toNat) := by
  rw [ByteArray.toList_eq]; simp [strOfNums]
theorem mod_top (a n : Nat) : a % 256 ^ (n + 1) = (a / 256 ^ n % 256) * 256 ^ n + a % 256 ^ n := by
  rw [Nat.pow_succ, Nat.mod_mul, Nat.mul_comm, Nat.add_comm]
theorem u8_lt (x y : Nat) (hx : x < 256) (hy : y < 256) : decide (UInt8.ofNat x < UInt8.ofNat y) = decide (x < y) := by
  apply decide_eq_decide.2
  rw [UInt8.lt_iff_toNat_lt]
  simp [Nat.mod_eq_of_lt hx, Nat.mod_eq_of_lt hy]
theorem u8_eq (x y : Nat) (hx : x < 256) (hy : y < 256) : (UInt8.ofNat x == UInt8.ofNat y) = decide (x = y) := by
  have h : (UInt8.ofNat x = UInt8.ofNat y) ↔ x = y := by
    constructor
    · intro h
      have := congrArg UInt8.toNat h
      simpa [Nat.mod_eq_of_lt hx, Nat.mod_eq_of_lt hy] using this
    · rintro rfl; rfl
  rw [Bool.eq_iff_iff]
  simp [h]
theorem less_be : ∀ n a b, Op.bytesLess ((be n a).map (fun n => UInt8.ofNat n.toNat)) ((be n b).map (fun n => UInt8.ofNat n.toNat)) = decide (a % 256 ^ n < b % 256 ^ n)
  | 0, a, b => by simp [be_zero, Op.bytesLess, Nat.mod_one]
  | n + 1, a, b => by
    rw [be_cons, be_cons, List.map_cons, List.map_cons, Op.bytesLess, less_be n a b, Int.toNat_natCast, Int.toNat_natCast, mod_top, mod_top]
    have hx : a / 256 ^ n % 256 < 256 := Nat.mod_lt _ (by omega)
    have hy : b / 256 ^ n % 256 < 256 := Nat.mod_lt _ (by omega)
    have ha : a % 256 ^ n < 256 ^ n := Nat.mod_lt _ (Nat.pow_pos (by omega))
    have hb : b % 256 ^ n < 256 ^ n := Nat.mod_lt _ (Nat.pow_pos (by omega))
    generalize a / 256 ^ n % 256 = x at *
    generalize b / 256 ^ n % 256 = y at *
    generalize a % 256 ^ n = p at *
    generalize b % 256 ^ n = q at *
    generalize 256 ^ n = m at *
    rw [u8_lt x y hx hy, u8_eq x y hx hy, Bool.eq_iff_iff]
    simp only [Bool.or_eq_true, Bool.and_eq_true, decide_eq_true_eq]
    constructor
    · rintro (h | ⟨rfl, h⟩)
      · have : (x + 1) * m ≤ y * m := Nat.mul_le_mul_right m h
        rw [Nat.add_mul] at this
        omega
      · omega
    · intro h
      by_cases h1 : x < y
      · exact .inl h1
      · by_cases h2 : x = y
        · subst h2; exact .inr ⟨rfl, by omega⟩
        · have : (y + 1) * m ≤ x * m := Nat.mul_le_mul_right m (by omega)
          rw [Nat.add_mul] at this
          omega
theorem same_be : ∀ n a b, ((be n a).map (fun n => UInt8.ofNat n.toNat) == (be n b).map (fun n => UInt8.ofNat n.toNat)) = decide (a % 256 ^ n = b % 256 ^ n)
  | 0, a, b => by simp [be_zero, Nat.mod_one]
  | n + 1, a, b => by
    rw [be_cons, be_cons, List.map_cons, List.map_cons, List.cons_beq_cons, same_be n a b, Int.toNat_natCast, Int.toNat_natCast, mod_top, mod_top]
    have hx : a / 256 ^ n % 256 < 256 := Nat.mod_lt _ (by omega)
    have hy : b / 256 ^ n % 256 < 256 := Nat.mod_lt _ (by omega)
    have ha : a % 256 ^ n < 256 ^ n := Nat.mod_lt _ (Nat.pow_pos (by omega))
    have hb : b % 256 ^ n < 256 ^ n := Nat.mod_lt _ (Nat.pow_pos (by omega))
    generalize a / 256 ^ n % 256 = x at *
    generalize b / 256 ^ n % 256 = y at *
    generalize a % 256 ^ n = p at *
    generalize b % 256 ^ n = q at *
    generalize 256 ^ n = m at *
    rw [u8_eq x y hx hy, Bool.eq_iff_iff]
    simp only [Bool.and_eq_true, decide_eq_true_eq]
    constructor
    · rintro ⟨rfl, rfl⟩; rfl
    · intro h
      by_cases h1 : x < y
      · have : (x + 1) * m ≤ y * m := Nat.mul_le_mul_right m h1
        rw [Nat.add_mul] at this
        omega
      · by_cases h2 : x = y
        · subst h2; exact ⟨rfl, by omega⟩
        · have : (y + 1) * m ≤ x * m := Nat.mul_le_mul_right m (by omega)
          rw [Nat.add_mul] at this
          omega
theorem be_less (n a b : Nat) (ha : a < 256 ^ n) (hb : b < 256 ^ n) : Op.bytesLess (strOfNums (be n a)).toList (strOfNums (be n b)).toList = decide ((a : Int) < b) := by
  rw [str_list, str_list, less_be, Nat.mod_eq_of_lt ha, Nat.mod_eq_of_lt hb]
  exact decide_eq_decide.2 (by omega)
theorem be_same (n a b : Nat) (ha : a < 256 ^ n) (hb : b < 256 ^ n) : ((strOfNums (be n a)).toList == (strOfNums (be n b)).toList) = ((a : Int) == b) := by
  rw [str_list, str_list, same_be, Nat.mod_eq_of_lt ha, Nat.mod_eq_of_lt hb, Bool.eq_iff_iff]
  simp only [decide_eq_true_eq, beq_iff_eq]
  omega
theorem Rises_11 (w : World) (a b n : Nat) (P : Int) (ha : a < 18446744073709551616) (hb : b < 18446744073709551616) (h1 : 1 ≤ n) (h8 : n ≤ 8) (hfa : a < 256 ^ n) (hfb : b < 256 ^ n) (hpow : (2 : Int) ^ (8 * n) = P) (hP : P = ((256 ^ n : Nat) : Int)) (hP1 : 1 ≤ P) (hP8 : n < 8 → P < 18446744073709551616) : Calls Try.prog 7 #[.int .u64 a, .int .u64 b, .int .i64 n] w fun e w' => e = .returned (.bool true) ∧ Below w.heap.size w w' := by
  go_enter Try.func7, Try.ntmps7
  go_wp2_with fail
  refine (works_calls w).mono ?_
  rintro e w0 ⟨rfl, hb0⟩
  go_wp2_with fail
  refine (newWriterW _).mono ?_
  rintro e w1 ⟨rfl, hw1⟩
  have hs1 : WS w1 w0.heap.size w0.heap.size (.slice none 0 0) [] := by rw [hw1]; exact WS_new w0 _ (Nat.le_refl _)
  have hb1 : Below w0.heap.size w0 w1 := by rw [hw1]; exact (Below.refl _ _).alloc (Nat.le_refl _) _
  clear hw1
  go_wp2_with fail
  refine (newWriterW _).mono ?_
  rintro e w2 ⟨rfl, hw2⟩
  have hs2 : WS w2 w0.heap.size w0.heap.size (.slice none 0 0) [] := by rw [hw2]; exact hs1.alloc _
  have ht2 : WS w2 w0.heap.size w1.heap.size (.slice none 0 0) [] := by rw [hw2]; exact WS_new w1 _ (below_size hb1)
  have hb2 : Below w0.heap.size w0 w2 := by rw [hw2]; exact hb1.alloc (below_size hb1) _
  have hne : w1.heap.size ≠ w0.heap.size := Nat.ne_of_gt (blk_lt hs1.2.1)
  clear hw2
  generalize w1.heap.size = y at ht2 hne
  go_wp2_with fail
  refine (Fixed_calls _ _ [] n a w0 w2 hb2 hs2 (by simp) h1 h8 hfa).mono ?_
  rintro e w3 ⟨rfl, v3, hs3, hb3, hm3⟩
  obtain ⟨ht3, hap3⟩ := WS_other hs2 ht2 hm3 hne (none_apart rfl)
  rw [List.nil_append] at hs3
  go_wp2_with fail
  refine (Fixed_calls _ _ [] n b w0 w3 hb3 ht3 (by simp) h1 h8 hfb).mono ?_
  rintro e w4 ⟨rfl, u4, ht4, hb4, hm4⟩
  obtain ⟨hs4, hap4⟩ := WS_other ht3 hs3 hm4 hne.symm (fun k hk hk' => hap3 k hk' hk)
  rw [List.nil_append] at ht4
  clear hs1 hs2 ht2 hs3 ht3 hm3 hm4 hb2 hb3 hb1
  have hbw := below_step hb0 hb4
  have H1 := be_len n a
  obtain ⟨xa, hxa⟩ : ∃ xa, xa = be n a := ⟨_, rfl⟩
  rw [← hxa] at hs4 H1
  obtain ⟨xb, hxb⟩ : ∃ xb, xb = be n b := ⟨_, rfl⟩
  rw [← hxb] at ht4
  obtain ⟨sa, hsa⟩ : ∃ sa, strOfNums xa = sa := ⟨_, rfl⟩
  obtain ⟨sb, hsb⟩ : ∃ sb, strOfNums xb = sb := ⟨_, rfl⟩
  have hlt : Op.bytesLess sa.toList sb.toList = decide ((a : Int) < b) := by rw [← hsa, ← hsb, hxa, hxb]; exact be_less n a b hfa hfb
  have heq : (sa.toList == sb.toList) = ((a : Int) == b) := by rw [← hsa, ← hsb, hxa, hxb]; exact be_same n a b hfa hfb
  have HSA := Aside0.mk hsa
  have HSB := Aside0.mk hsb
  clear hxa hxb hsa hsb
  rw [← Int.ofNat_lt, ← hP] at hfa hfb
  by_cases hn8 : n < 8
  · have hP9 := hP8 hn8
    clear hP hP8
    have da : decide ((a : Int) ≤ P - 1) = true := decide_eq_true (by omega)
    have db : decide ((b : Int) ≤ P - 1) = true := decide_eq_true (by omega)
    go_wp2_with fail
    refine (Len_calls _ _ _ _ _ hs4).mono ?_
    rintro e w5 ⟨rfl, rfl⟩
    rw [H1]
    go_wp2_with fail
    refine (Told_calls _ _ _ _ _ hs4).mono ?_
    rintro e w5 ⟨rfl, rfl⟩
    rw [HSA.out]
    go_wp2_with fail
    refine (Told_calls _ _ _ _ _ ht4).mono ?_
    rintro e w5 ⟨rfl, rfl⟩
    rw [HSB.out]
    go_wp2_with fail
    refine (Told_calls _ _ _ _ _ hs4).mono ?_
    rintro e w5 ⟨rfl, rfl⟩
    rw [HSA.out]
    go_wp2_with fail
    refine (Told_calls _ _ _ _ _ ht4).mono ?_
    rintro e w5 ⟨rfl, rfl⟩
    rw [HSB.out]
    go_wp2_with fail
    go_ret
    exact ⟨rfl, hbw⟩
  · clear hP8
    have da : decide ((a : Int) ≤ 18446744073709551615) = true := decide_eq_true (by omega)
    have db : decide ((b : Int) ≤ 18446744073709551615) = true := decide_eq_true (by omega)
    go_wp2_with fail
    refine (Len_calls _ _ _ _ _ hs4).mono ?_
    rintro e w5 ⟨rfl, rfl⟩
    rw [H1]
    go_wp2_with fail
    refine (Told_calls _ _ _ _ _ hs4).mono ?_
    rintro e w5 ⟨rfl, rfl⟩
    rw [HSA.out]
    go_wp2_with fail
    refine (Told_calls _ _ _ _ _ ht4).mono ?_
    rintro e w5 ⟨rfl, rfl⟩
    rw [HSB.out]
    go_wp2_with fail
    refine (Told_calls _ _ _ _ _ hs4).mono ?_
    rintro e w5 ⟨rfl, rfl⟩
    rw [HSA.out]
    go_wp2_with fail
    refine (Told_calls _ _ _ _ _ ht4).mono ?_
    rintro e w5 ⟨rfl, rfl⟩
    rw [HSB.out]
    go_wp2_with fail
    go_ret
    exact ⟨rfl, hbw⟩
theorem Rises_10 (w : World) (a b n : Nat) (P : Int) (ha : a < 18446744073709551616) (hb : b < 18446744073709551616) (h1 : 1 ≤ n) (h8 : n ≤ 8) (hfa : a < 256 ^ n) (hfb : 256 ^ n ≤ b) (hpow : (2 : Int) ^ (8 * n) = P) (hP : P = ((256 ^ n : Nat) : Int)) (hP1 : 1 ≤ P) (hP8 : n < 8 → P < 18446744073709551616) : Calls Try.prog 7 #[.int .u64 a, .int .u64 b, .int .i64 n] w fun e w' => e = .returned (.bool true) ∧ Below w.heap.size w w' := by
  have hn8 : n < 8 := by
    by_cases e : n = 8
    · subst e; simp at hfa hfb; omega
    · omega
  go_enter Try.func7, Try.ntmps7
  go_wp2_with fail
  refine (works_calls w).mono ?_
  rintro e w0 ⟨rfl, hb0⟩
  go_wp2_with fail
  refine (newWriterW _).mono ?_
  rintro e w1 ⟨rfl, hw1⟩
  have hs1 : WS w1 w0.heap.size w0.heap.size (.slice none 0 0) [] := by rw [hw1]; exact WS_new w0 _ (Nat.le_refl _)
  have hb1 : Below w0.heap.size w0 w1 := by rw [hw1]; exact (Below.refl _ _).alloc (Nat.le_refl _) _
  clear hw1
  go_wp2_with fail
  refine (newWriterW _).mono ?_
  rintro e w2 ⟨rfl, hw2⟩
  have hs2 : WS w2 w0.heap.size w0.heap.size (.slice none 0 0) [] := by rw [hw2]; exact hs1.alloc _
  have ht2 : WS w2 w0.heap.size w1.heap.size (.slice none 0 0) [] := by rw [hw2]; exact WS_new w1 _ (below_size hb1)
  have hb2 : Below w0.heap.size w0 w2 := by rw [hw2]; exact hb1.alloc (below_size hb1) _
  have hne : w1.heap.size ≠ w0.heap.size := Nat.ne_of_gt (blk_lt hs1.2.1)
  clear hw2
  generalize w1.heap.size = y at ht2 hne
  go_wp2_with fail
  refine (Fixed_calls _ _ [] n a w0 w2 hb2 hs2 (by simp) h1 h8 hfa).mono ?_
  rintro e w3 ⟨rfl, v3, hs3, hb3, hm3⟩
  obtain ⟨ht3, hap3⟩ := WS_other hs2 ht2 hm3 hne (none_apart rfl)
  rw [List.nil_append] at hs3
  go_wp2_with fail
  refine (Fixed_bad _ b n w3 (.inr (.inr ⟨by omega, by omega, by simpa using hfb⟩))).mono ?_
  rintro e w4 ⟨rfl, rfl⟩
  have hbw := below_step hb0 hb3
  have hP9 := hP8 hn8
  rw [← Int.ofNat_lt, ← hP] at hfa
  rw [← Int.ofNat_le, ← hP] at hfb
  clear hP hP8
  have da : decide ((a : Int) ≤ P - 1) = true := decide_eq_true (by omega)
  have db : decide ((b : Int) ≤ P - 1) = false := decide_eq_false (by omega)
  go_wp2_with fail
  go_ret
  exact ⟨rfl, hbw⟩
theorem Rises_01 (w : World) (a b n : Nat) (P : Int) (ha : a < 18446744073709551616) (hb : b < 18446744073709551616) (h1 : 1 ≤ n) (h8 : n ≤ 8) (hfa : 256 ^ n ≤ a) (hfb : b < 256 ^ n) (hpow : (2 : Int) ^ (8 * n) = P) (hP : P = ((256 ^ n : Nat) : Int)) (hP1 : 1 ≤ P) (hP8 : n < 8 → P < 18446744073709551616) : Calls Try.prog 7 #[.int .u64 a, .int .u64 b, .int .i64 n] w fun e w' => e = .returned (.bool true) ∧ Below w.heap.size w w' := by
  have hn8 : n < 8 := by
    by_cases e : n = 8
    · subst e; simp at hfa hfb; omega
    · omega
  go_enter Try.func7, Try.ntmps7
  go_wp2_with fail
  refine (works_calls w).mono ?_
  rintro e w0 ⟨rfl, hb0⟩
  go_wp2_with fail
  refine (newWriterW _).mono ?_
  rintro e w1 ⟨rfl, hw1⟩
  have hs1 : WS w1 w0.heap.size w0.heap.size (.slice none 0 0) [] := by rw [hw1]; exact WS_new w0 _ (Nat.le_refl _)
  have hb1 : Below w0.heap.size w0 w1 := by rw [hw1]; exact (Below.refl _ _).alloc (Nat.le_refl _) _
  clear hw1
  go_wp2_with fail
  refine (newWriterW _).mono ?_
  rintro e w2 ⟨rfl, hw2⟩
  have hs2 : WS w2 w0.heap.size w0.heap.size (.slice none 0 0) [] := by rw [hw2]; exact hs1.alloc _
  have ht2 : WS w2 w0.heap.size w1.heap.size (.slice none 0 0) [] := by rw [hw2]; exact WS_new w1 _ (below_size hb1)
  have hb2 : Below w0.heap.size w0 w2 := by rw [hw2]; exact hb1.alloc (below_size hb1) _
  have hne : w1.heap.size ≠ w0.heap.size := Nat.ne_of_gt (blk_lt hs1.2.1)
  clear hw2
  generalize w1.heap.size = y at ht2 hne
  go_wp2_with fail
  refine (Fixed_bad _ a n w2 (.inr (.inr ⟨by omega, by omega, by simpa using hfa⟩))).mono ?_
  rintro e w3 ⟨rfl, rfl⟩
  go_wp2_with fail
  refine (Fixed_calls _ _ [] n b w0 w2 hb2 ht2 (by simp) h1 h8 hfb).mono ?_
  rintro e w4 ⟨rfl, u4, ht4, hb4, hm4⟩
  have hbw := below_step hb0 hb4
  have hP9 := hP8 hn8
  rw [← Int.ofNat_le, ← hP] at hfa
  rw [← Int.ofNat_lt, ← hP] at hfb
  clear hP hP8
  have da : decide ((a : Int) ≤ P - 1) = false := decide_eq_false (by omega)
  have db : decide ((b : Int) ≤ P - 1) = true := decide_eq_true (by omega)
  go_wp2_with fail
  go_ret
  exact ⟨rfl, hbw⟩
theorem Rises_00 (w : World) (a b n : Nat) (P : Int) (ha : a < 18446744073709551616) (hb : b < 18446744073709551616) (h1 : 1 ≤ n) (h8 : n ≤ 8) (hfa : 256 ^ n ≤ a) (hfb : 256 ^ n ≤ b) (hpow : (2 : Int) ^ (8 * n) = P) (hP : P = ((256 ^ n : Nat) : Int)) (hP1 : 1 ≤ P) (hP8 : n < 8 → P < 18446744073709551616) : Calls Try.prog 7 #[.int .u64 a, .int .u64 b, .int .i64 n] w fun e w' => e = .returned (.bool true) ∧ Below w.heap.size w w' := by
  have hn8 : n < 8 := by
    by_cases e : n = 8
    · subst e; simp at hfa hfb; omega
    · omega
  go_enter Try.func7, Try.ntmps7
  go_wp2_with fail
  refine (works_calls w).mono ?_
  rintro e w0 ⟨rfl, hb0⟩
  go_wp2_with fail
  refine (newWriterW _).mono ?_
  rintro e w1 ⟨rfl, hw1⟩
  have hs1 : WS w1 w0.heap.size w0.heap.size (.slice none 0 0) [] := by rw [hw1]; exact WS_new w0 _ (Nat.le_refl _)
  have hb1 : Below w0.heap.size w0 w1 := by rw [hw1]; exact (Below.refl _ _).alloc (Nat.le_refl _) _
  clear hw1
  go_wp2_with fail
  refine (newWriterW _).mono ?_
  rintro e w2 ⟨rfl, hw2⟩
  have hs2 : WS w2 w0.heap.size w0.heap.size (.slice none 0 0) [] := by rw [hw2]; exact hs1.alloc _
  have ht2 : WS w2 w0.heap.size w1.heap.size (.slice none 0 0) [] := by rw [hw2]; exact WS_new w1 _ (below_size hb1)
  have hb2 : Below w0.heap.size w0 w2 := by rw [hw2]; exact hb1.alloc (below_size hb1) _
  have hne : w1.heap.size ≠ w0.heap.size := Nat.ne_of_gt (blk_lt hs1.2.1)
  clear hw2
  generalize w1.heap.size = y at ht2 hne
  go_wp2_with fail
  refine (Fixed_bad _ a n w2 (.inr (.inr ⟨by omega, by omega, by simpa using hfa⟩))).mono ?_
  rintro e w3 ⟨rfl, rfl⟩
  go_wp2_with fail
  refine (Fixed_bad _ b n w2 (.inr (.inr ⟨by omega, by omega, by simpa using hfb⟩))).mono ?_
  rintro e w4 ⟨rfl, rfl⟩
  have hbw := below_step hb0 hb2
  have hP9 := hP8 hn8
  rw [← Int.ofNat_le, ← hP] at hfa
  rw [← Int.ofNat_le, ← hP] at hfb
  clear hP hP8
  have da : decide ((a : Int) ≤ P - 1) = false := decide_eq_false (by omega)
  have db : decide ((b : Int) ≤ P - 1) = false := decide_eq_false (by omega)
  go_wp2_with fail
  go_ret
  exact ⟨rfl, hbw⟩
theorem Rises_bad (w : World) (a b : Nat) (n : Int) (ha : a < 18446744073709551616) (hb : b < 18446744073709551616) (hn : n < 1 ∨ 8 < n) : Calls Try.prog 7 #[.int .u64 a, .int .u64 b, .int .i64 n] w fun e w' => e = .returned (.bool true) ∧ Below w.heap.size w w' := by
  go_enter Try.func7, Try.ntmps7
  go_wp2_with fail
  refine (works_calls w).mono ?_
  rintro e w0 ⟨rfl, hb0⟩
  go_wp2_with fail
  refine (newWriterW _).mono ?_
  rintro e w1 ⟨rfl, hw1⟩
  have hs1 : WS w1 w0.heap.size w0.heap.size (.slice none 0 0) [] := by rw [hw1]; exact WS_new w0 _ (Nat.le_refl _)
  have hb1 : Below w0.heap.size w0 w1 := by rw [hw1]; exact (Below.refl _ _).alloc (Nat.le_refl _) _
  clear hw1
  go_wp2_with fail
  refine (newWriterW _).mono ?_
  rintro e w2 ⟨rfl, hw2⟩
  have hs2 : WS w2 w0.heap.size w0.heap.size (.slice none 0 0) [] := by rw [hw2]; exact hs1.alloc _
  have hb2 : Below w0.heap.size w0 w2 := by rw [hw2]; exact hb1.alloc (below_size hb1) _
  clear hw2
  go_wp2_with fail
  refine (Fixed_bad _ a n w2 (hn.elim .inl fun h => .inr (.inl h))).mono ?_
  rintro e w3 ⟨rfl, rfl⟩
  go_wp2_with fail
  refine (Fixed_bad _ b n w2 (hn.elim .inl fun h => .inr (.inl h))).mono ?_
  rintro e w3 ⟨rfl, rfl⟩
  rcases hn with hn | hn
  all_goals
    go_wp2_with fail
    refine (Len_calls _ _ _ _ _ hs2).mono ?_
    rintro e w3 ⟨rfl, rfl⟩
    go_wp2_with fail
    go_ret
    exact ⟨rfl, below_step hb0 hb2⟩
theorem wfU64 {n : Int} (h : (Lit.int .u64 n).wf = true) : 0 ≤ n ∧ n < 18446744073709551616 := by
  simp only [Lit.wf, IntKind.min, IntKind.max, Bool.and_eq_true, decide_eq_true_eq] at h; simp [IntKind.signed, IntKind.bits] at h; omega
theorem WireRises_walk (w : World) (a : Int) (ha : (Lit.int .u64 a).wf = true) (b : Int) (hb : (Lit.int .u64 b).wf = true) (n : Int) (hn : (Lit.int .i64 n).wf = true) : Calls Try.prog 7 #[.int .u64 a, .int .u64 b, .int .i64 n] w fun e w' => e = .returned (.bool true) ∧ Below w.heap.size w w' := by
  obtain ⟨a0, a1⟩ : 0 ≤ a ∧ a < 18446744073709551616 := wfU64 ha
  obtain ⟨b0, b1⟩ : 0 ≤ b ∧ b < 18446744073709551616 := wfU64 hb
  obtain ⟨a, rfl⟩ := Int.eq_ofNat_of_zero_le a0
  obtain ⟨b, rfl⟩ := Int.eq_ofNat_of_zero_le b0
  by_cases h : n < 1 ∨ 8 < n
  · exact Rises_bad w a b n (by omega) (by omega) h
  · obtain ⟨m, rfl⟩ := Int.eq_ofNat_of_zero_le (show 0 ≤ n by omega)
    have hpow : (2 : Int) ^ (8 * m) = ((256 ^ m : Nat) : Int) := by
      have e1 : (2 : Nat) ^ (8 * m) = 256 ^ m := by rw [Nat.pow_mul]
      rw [← e1]; push_cast; rfl
    have hP1 : (1 : Int) ≤ ((256 ^ m : Nat) : Int) := by
      have : 0 < 256 ^ m := Nat.pow_pos (by omega)
      omega
    have hP8 : m < 8 → ((256 ^ m : Nat) : Int) < 18446744073709551616 := fun h => by
      have h1 : 256 ^ m < 256 ^ 8 := Nat.pow_lt_pow_right (by omega) h
      have h2 : (256 : Nat) ^ 8 = 18446744073709551616 := by decide
      omega
    by_cases hfa : a < 256 ^ m <;> by_cases hfb : b < 256 ^ m
    · exact Rises_11 w a b m _ (by omega) (by omega) (by omega) (by omega) hfa hfb hpow rfl hP1 hP8
    · exact Rises_10 w a b m _ (by omega) (by omega) (by omega) (by omega) hfa (by omega) hpow rfl hP1 hP8
    · exact Rises_01 w a b m _ (by omega) (by omega) (by omega) (by omega) (by omega) hfb hpow rfl hP1 hP8
    · exact Rises_00 w a b m _ (by omega) (by omega) (by omega) (by omega) (by omega) (by omega) hpow rfl hP1 hP8
end Go.Proofs.Ytikfdfagnalmbaa.My
