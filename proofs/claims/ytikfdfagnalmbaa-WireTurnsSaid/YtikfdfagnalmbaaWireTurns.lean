/- WireTurns: the walk. -/
import Derived.Test.YtikfdfagnalmbaaWorks
import Derived.Test.YtikfdfagnalmbaaCrcT
import Derived.Laws.BytesArg
namespace Go.Proofs.Ytikfdfagnalmbaa.My
open Go.RowKit Go.Proofs.YtikfdfagnalmbaaW.PrintWords Go.Proofs.YtikfdfagnalmbaaW.PrintLast Go.Proofs.YtikfdfagnalmbaaW.PrintMore Go.Proofs.Ytikfdfagnalmbaa
set_option linter.unusedSimpArgs false
set_option linter.unusedVariables false
set_option maxRecDepth 100000
set_option maxHeartbeats 800000
/-- Bytes that a conversion laid: the row l, at block g. -/
def BB (w : World) (g : Nat) (l : List Nat) : Prop := ∃ C : Array Value, w.heap[g]? = some (.cells C 5 (C.size, C.size + 1)) ∧ l.length ≤ C.size ∧ ∀ k (h : k < l.length), C[k]? = some (.int .u8 (l[k] : Nat))
theorem BB.cell {w : World} {g : Nat} {l : List Nat} (h : BB w g l) (k : Nat) (hk : k < l.length) : w.cell? ⟨g, k, none⟩ = some (.int .u8 (l[k] : Nat)) := by
  obtain ⟨C, h1, h2, h3⟩ := h
  exact (cell_of_row _ _ k _ _ _ h1).trans (h3 k hk)
theorem BB.frozen {w : World} {g : Nat} {l : List Nat} (h : BB w g l) (k : Nat) (hk : k < l.length) : w.frozen? ⟨g, k, none⟩ = false := by
  obtain ⟨C, h1, h2, h3⟩ := h
  have : k < C.size := by omega
  simp only [World.frozen?, h1]
  simp
  omega
theorem BB.set {w : World} {g : Nat} {l : List Nat} (h : BB w g l) (k : Nat) (hk : k < l.length) (v : Nat) : BB (w.setCell ⟨g, k, none⟩ (.int .u8 (v : Int))) g (l.set k v) := by
  obtain ⟨C, h1, h2, h3⟩ := h
  refine ⟨C.setIfInBounds k (.int .u8 (v : Int)), by simp only [World.setCell, Array.getElem?_modify, h1]; simp, by rw [Array.size_setIfInBounds, List.length_set]; exact h2, fun j hj => ?_⟩
  rw [List.length_set] at hj
  rw [Array.getElem?_setIfInBounds, List.getElem_set]
  by_cases e : k = j
  · subst e
    rw [if_pos rfl, if_pos rfl, if_pos (by omega)]
  · rw [if_neg e, if_neg e]
    exact h3 j hj
theorem BB.drewN {w : World} {g : Nat} {l : List Nat} (h : BB w g l) (m : Nat) : BB (w.drewN m) g l := h
theorem BB_new (w : World) (s : ByteArray) (cap : Nat) : BB (w.drew.alloc (.cells (bytesRow s cap) 5 ((bytesRow s cap).size, (bytesRow s cap).size + 1))) w.heap.size (bytesN s) := by
  refine ⟨bytesRow s cap, W_push w.drew _ _ _, ?_, fun k hk => ?_⟩
  · rw [bytesN_len]; unfold bytesRow; rw [Array.size_append, Array.size_map]; exact Nat.le_add_right _ _
  · have hk2 : k < s.data.size := by rw [bytesN_len] at hk; exact hk
    unfold bytesRow
    rw [Array.getElem?_append_left (by simpa using hk2)]
    rw [Array.getElem?_map, Array.getElem?_eq_getElem hk2, Option.map_some]
    simp only [bytesN, List.getElem_map, Array.getElem_toList]
theorem BB.alone {w w' : World} {g : Nat} {l : List Nat} (h : BB w g l) (hb : Below w.heap.size w w') : BB w' g l := by
  obtain ⟨C, h1, h2, h3⟩ := h
  exact ⟨C, (hb.block g (blk_lt h1)).trans h1, h2, h3⟩
theorem tmod_bit (m i : Nat) : Int.tmod ((m : Int) / 2 ^ i) 2 = ((m / 2 ^ i % 2 : Nat) : Int) := by
  have e : ((m : Int) / 2 ^ i) = ((m / 2 ^ i : Nat) : Int) := by push_cast; rfl
  rw [e, Int.tmod_eq_emod_of_nonneg (Int.natCast_nonneg _)]
  omega
theorem bytesN_str (l : List Nat) (h : ∀ x ∈ l, x < 256) : bytesN (strOfNums (l.map Int.ofNat)) = l := by
  unfold bytesN strOfNums
  simp only [List.map_map, List.toList_toArray]
  conv => rhs; rw [← List.map_id l]
  apply List.map_congr_left
  intro x hx
  simp [Nat.mod_eq_of_lt (h x hx)]
theorem bit_off (m i : Nat) (h : m / 2 ^ i % 2 = 0) : m % 2 ^ (i + 1) = m % 2 ^ i := by
  rw [Nat.pow_succ, Nat.mod_mul, h]; simp
theorem bit_on (m i : Nat) (h : m / 2 ^ i % 2 = 1) : m % 2 ^ (i + 1) = m % 2 ^ i ^^^ 2 ^ i := by
  rw [Nat.pow_succ, Nat.mod_mul, h, Nat.mul_one]
  have := Crc.add_xor (m % 2 ^ i) 1 i (Nat.mod_lt _ (Nat.pow_pos (by omega)))
  rw [Nat.mul_one] at this
  exact this
theorem bit_on_ne (m i : Nat) (h : m / 2 ^ i % 2 = 1) : m % 2 ^ (i + 1) ≠ 0 := by
  rw [Nat.pow_succ, Nat.mod_mul, h]
  have : 0 < 2 ^ i := Nat.pow_pos (by omega)
  omega
theorem xor_shift (a b n : Nat) : (a ^^^ b) * 2 ^ n = a * 2 ^ n ^^^ b * 2 ^ n := by
  rw [← Nat.shiftLeft_eq, ← Nat.shiftLeft_eq, ← Nat.shiftLeft_eq, Nat.shiftLeft_xor_distrib]
theorem turn_num (l : List Nat) (N m i at_ k j : Nat) (hk : k < l.length) (hj : j < 8) (hl : ∀ x ∈ l, x < 256) (hkj : at_ + i = 8 * k + j) (hb : m / 2 ^ i % 2 = 1) (h : Crc.num l = N ^^^ (m % 2 ^ i) * 2 ^ at_) : Crc.num (l.set k (l[k] ^^^ 2 ^ j)) = N ^^^ (m % 2 ^ (i + 1)) * 2 ^ at_ := by
  rw [Crc.num_set l k j hk hj hl, h, bit_on m i hb, xor_shift, ← Nat.pow_add, show i + at_ = 8 * k + j by omega, Nat.xor_assoc]
theorem turn_byte (x j : Nat) (hx : x < 256) (hj : j < 8) : Go.bits .xor .u8 (x : Int) ((2 : Int) ^ j % 256) = ((x ^^^ 2 ^ j : Nat) : Int) := by
  have h2 : 2 ^ j < 256 := by
    have : 2 ^ j < 2 ^ 8 := Nat.pow_lt_pow_right (by omega) hj
    simpa using this
  have e : (2 : Int) ^ j % 256 = ((2 ^ j : Nat) : Int) := by
    rw [show (2 : Int) ^ j = ((2 ^ j : Nat) : Int) by push_cast; rfl]
    generalize 2 ^ j = q at h2
    omega
  rw [e]
  exact u8_xor_nat x (2 ^ j) hx h2
theorem turn_lt (l : List Nat) (k x : Nat) (hl : ∀ x ∈ l, x < 256) (hx : x < 256) : ∀ y ∈ l.set k x, y < 256 := by
  intro y hy
  rcases List.mem_or_eq_of_mem_set hy with h | rfl
  · exact hl y h
  · exact hx
theorem Turns_walk0 (w : World) (s : ByteArray) (hs : s.size ≤ 140737488351232) (at_ m : Nat) (a : Int) (h0 : 0 < s.size) (hm : m < 4294967296) (hm0 : m ≠ 0) (hat : at_ < 8 * s.size) (ha : Int.tmod a (8 * (s.size : Int)) = at_ ∨ Int.tmod a (8 * (s.size : Int)) + 8 * (s.size : Int) = at_ ∧ Int.tmod a (8 * (s.size : Int)) < 0) : Calls Try.prog 6 #[.string s, .int .i64 a, .int .u32 m] w fun e w' => e = .returned (.bool true) ∧ Below w.heap.size w w' := by
  have hcv := fun w => run_bytes_of_string (P := Try.prog) w 9 54 5 s Try.underlying9 Try.underlying54 Try.underlying5
  go_enter Try.func6, Try.ntmps6
  go_wp2_with fail
  refine (works_calls w).mono ?_
  rintro e w0 ⟨rfl, hb0⟩
  have hz : ((m : Int) == 0) = false := beq_eq_false_iff_ne.mpr (by omega)
  have hz2 : ((s.size : Int) == 0) = false := beq_eq_false_iff_ne.mpr (by omega)
  have hBB := BB_new w0 s (grownCap w0 s.size 0 5)
  have hbB : Below w0.heap.size w0 (w0.drew.alloc (.cells (bytesRow s (grownCap w0 s.size 0 5)) 5 ((bytesRow s (grownCap w0 s.size 0 5)).size, (bytesRow s (grownCap w0 s.size 0 5)).size + 1))) := (below_drew1 (Below.refl _ _)).alloc (Nat.le_refl _) _
  have HBB := Aside0.mk hBB
  have HbB := Aside0.mk hbB
  clear hBB hbB
  rcases ha with ha | ⟨ha, hneg⟩
  all_goals
    go_wp2_with fail
    generalize grownCap w0 s.size 0 5 = cap at HBB HbB ⊢
    go_loopw [8, 9] (fun tv iv wr => ∃ (i : Nat) (l : List Nat), i ≤ 32 ∧ at_ + i ≤ 8 * s.size ∧ l.length = s.size ∧ (∀ x ∈ l, x < 256) ∧ iv = .int .i64 (i : Int) ∧ tv = .bool (decide (m % 2 ^ i ≠ 0)) ∧ Aside0 (Crc.num l = Crc.num (bytesN s) ^^^ (m % 2 ^ i) * 2 ^ at_) ∧ Aside0 (BB wr w0.heap.size l) ∧ Aside0 (Below w0.heap.size w0 wr)) (fun _ iv _ => (32 - intOf iv).toNat)
    case atStart => exact ⟨0, bytesN s, by omega, by omega, bytesN_len s, bytesN_lt s, rfl, by simp [Nat.mod_one], ⟨by simp [Nat.mod_one]⟩, HBB, HbB⟩
    case round =>
      clear HBB HbB
      obtain ⟨i, l, hi, hai, hl, hlt, rfl, rfl, HN, HB, HW⟩ := hrel
      by_cases hgo : i < 32 ∧ at_ + i < 8 * s.size
      · obtain ⟨hi1, hi2⟩ := hgo
        by_cases hbit : m / 2 ^ i % 2 = 1
        · have hbi : ((Int.tmod ((m : Int) / 2 ^ i) 2) == 1) = true := by rw [tmod_bit, hbit]; rfl
          obtain ⟨k, j, hj, hkj⟩ : ∃ k j, j < 8 ∧ at_ + i = 8 * k + j := ⟨(at_ + i) / 8, (at_ + i) % 8, by omega, by omega⟩
          have hks : k < s.size := by omega
          obtain ⟨x, hx⟩ : ∃ x, x = l[k]'(by omega) := ⟨_, rfl⟩
          have hcell : wr.cell? ⟨w0.heap.size, k, none⟩ = some (.int .u8 (x : Int)) := by rw [hx]; exact HB.out.cell k (by omega)
          have hfr : wr.frozen? ⟨w0.heap.size, k, none⟩ = false := HB.out.frozen k (by omega)
          go_wp2_with fail
          rw [show ((at_ : Int) + i) / 8 = (k : Int) by omega]
          have hk0 : (0 : Int) ≤ (k : Int) := by omega
          have hk1 : (k : Int) < (s.size : Int) := by omega
          refine start_ (n := 14) (S := fun w' => w'.cell? ⟨w0.heap.size, k, none⟩ = some (.int .u8 (x : Int))) (ds := [13]) #[false, false, false, false, false, false, false, false, false, false, false, false, false, false] (by kernel_rfl) rfl rfl (hcell) (fun hHeld => ?_)
          refine pure_ (i := 0) (N := some 56) (v := ?_) (a' := ?_) #[true, false, false, false, false, false, false, false, false, false, false, false, false, false] rfl rfl (by kernel_rfl) (fun _ _ _ h => h) (Or.inl ⟨by rfl, ?_⟩) ?_ ?_
          rotate_left
          · intro w'
            go_simp
            with_reducible rfl
          rotate_left
          · simp only [Act.put, List.setIfInBounds_toArray, List.set_cons_zero, List.set_cons_succ, i64_w, i32_w]
            rfl
          refine pure_ (i := 1) (N := some 57) (v := ?_) (a' := ?_) #[true, true, false, false, false, false, false, false, false, false, false, false, false, false] rfl rfl (by kernel_rfl) (fun _ _ _ h => h) (Or.inl ⟨by rfl, ?_⟩) ?_ ?_
          rotate_left
          · intro w'
            go_simp
            with_reducible rfl
          rotate_left
          · simp only [Act.put, List.setIfInBounds_toArray, List.set_cons_zero, List.set_cons_succ, i64_w, i32_w]
            rfl
          refine pure_ (i := 2) (N := some 58) (v := ?_) (a' := ?_) #[true, true, true, false, false, false, false, false, false, false, false, false, false, false] rfl rfl (by kernel_rfl) (fun _ _ _ h => h) (Or.inl ⟨by rfl, ?_⟩) ?_ ?_
          rotate_left
          · intro w'
            go_simp
            with_reducible rfl
          rotate_left
          · simp only [Act.put, List.setIfInBounds_toArray, List.set_cons_zero, List.set_cons_succ, i64_w, i32_w]
            rfl
          refine pure_ (i := 3) (N := some 59) (v := ?_) (a' := ?_) #[true, true, true, true, false, false, false, false, false, false, false, false, false, false] rfl rfl (by kernel_rfl) (fun _ _ _ h => h) (Or.inl ⟨by rfl, ?_⟩) ?_ ?_
          rotate_left
          · intro w'
            go_simp
            with_reducible rfl
          rotate_left
          · simp only [Act.put, List.setIfInBounds_toArray, List.set_cons_zero, List.set_cons_succ, i64_w, i32_w]
            rfl
          refine pure_ (i := 4) (N := some 60) (v := ?_) (a' := ?_) #[true, true, true, true, true, false, false, false, false, false, false, false, false, false] rfl rfl (by kernel_rfl) (fun _ _ _ h => h) (Or.inl ⟨by rfl, ?_⟩) ?_ ?_
          rotate_left
          · intro w'
            go_simp
            with_reducible rfl
          rotate_left
          · simp only [Act.put, List.setIfInBounds_toArray, List.set_cons_zero, List.set_cons_succ, i64_w, i32_w]
            rfl
          refine take_ (i := 5) (N := some 61) (v := ?_) (a' := ?_) #[true, true, true, true, true, true, false, false, false, false, false, false, false, false] rfl rfl (by kernel_rfl) (fun _ _ _ h => h) (Or.inl ⟨by rfl, ?_⟩) hHeld ?_ ?_
          rotate_left
          · intro w' hS
            go_simp
            with_reducible rfl
          rotate_left
          · simp only [Act.put, List.setIfInBounds_toArray, List.set_cons_zero, List.set_cons_succ, i64_w, i32_w]
            rfl
          refine pure_ (i := 6) (N := some 62) (v := ?_) (a' := ?_) #[true, true, true, true, true, true, true, false, false, false, false, false, false, false] rfl rfl (by kernel_rfl) (fun _ _ _ h => h) (Or.inl ⟨by rfl, ?_⟩) ?_ ?_
          rotate_left
          · intro w'
            go_simp
            with_reducible rfl
          rotate_left
          · simp only [Act.put, List.setIfInBounds_toArray, List.set_cons_zero, List.set_cons_succ, i64_w, i32_w]
            rfl
          refine pure_ (i := 7) (N := some 63) (v := ?_) (a' := ?_) #[true, true, true, true, true, true, true, true, false, false, false, false, false, false] rfl rfl (by kernel_rfl) (fun _ _ _ h => h) (Or.inl ⟨by rfl, ?_⟩) ?_ ?_
          rotate_left
          · intro w'
            go_simp
            with_reducible rfl
          rotate_left
          · simp only [Act.put, List.setIfInBounds_toArray, List.set_cons_zero, List.set_cons_succ, i64_w, i32_w]
            rfl
          have hj8 : Int.tmod ((at_ : Int) + i) 8 = (j : Int) := by rw [Int.tmod_eq_emod_of_nonneg (by omega)]; omega
          have hw8 : wrap64 ((at_ : Int) + i) = (at_ : Int) + i := by unfold wrap64; omega
          refine pure_ (i := 8) (N := some 64) (v := ?_) (a' := ?_) #[true, true, true, true, true, true, true, true, true, false, false, false, false, false] rfl rfl (by kernel_rfl) (fun _ _ _ h => h) (Or.inl ⟨by rfl, ?_⟩) ?_ ?_
          rotate_left
          · intro w'
            go_simp
            with_reducible rfl
          rotate_left
          · simp only [Act.put, List.setIfInBounds_toArray, List.set_cons_zero, List.set_cons_succ, i64_w, i32_w, hw8, hj8]
            rfl
          refine pure_ (i := 9) (N := some 65) (v := ?_) (a' := ?_) #[true, true, true, true, true, true, true, true, true, true, false, false, false, false] rfl rfl (by kernel_rfl) (fun _ _ _ h => h) (Or.inl ⟨by rfl, ?_⟩) ?_ ?_
          rotate_left
          · intro w'
            go_simp
            with_reducible rfl
          rotate_left
          · simp only [Act.put, List.setIfInBounds_toArray, List.set_cons_zero, List.set_cons_succ, i64_w, i32_w, hw8, hj8]
            rfl
          clear hw8 hj8
          refine pure_ (i := 10) (N := some 66) (v := ?_) (a' := ?_) #[true, true, true, true, true, true, true, true, true, true, true, false, false, false] rfl rfl (by kernel_rfl) (fun _ _ _ h => h) (Or.inl ⟨by rfl, ?_⟩) ?_ ?_
          rotate_left
          · intro w'
            go_simp
            with_reducible rfl
          rotate_left
          · simp only [Act.put, List.setIfInBounds_toArray, List.set_cons_zero, List.set_cons_succ, i64_w, i32_w]
            rfl
          refine pure_ (i := 11) (N := some 67) (v := ?_) (a' := ?_) #[true, true, true, true, true, true, true, true, true, true, true, true, false, false] rfl rfl (by kernel_rfl) (fun _ _ _ h => h) (Or.inl ⟨by rfl, ?_⟩) ?_ ?_
          rotate_left
          · intro w'
            go_simp
            with_reducible rfl
          rotate_left
          · simp only [Act.put, List.setIfInBounds_toArray, List.set_cons_zero, List.set_cons_succ, i64_w, i32_w]
            rfl
          refine pure_ (i := 12) (N := some 68) (v := ?_) (a' := ?_) #[true, true, true, true, true, true, true, true, true, true, true, true, true, false] rfl rfl (by kernel_rfl) (fun _ _ _ h => h) (Or.inl ⟨by rfl, ?_⟩) ?_ ?_
          rotate_left
          · intro w'
            go_simp
            with_reducible rfl
          rotate_left
          · simp only [Act.put, List.setIfInBounds_toArray, List.set_cons_zero, List.set_cons_succ, i64_w, i32_w]
            rfl
          refine last_ (i := 13) (N := none) #[true, true, true, true, true, true, true, true, true, true, true, true, true, true] rfl rfl (by kernel_rfl) (by decide) (fun K hK => ?_)
          refine skip_ (w1 := ?_) (by rfl) rfl ?_ ?_
          rotate_left
          · go_simp
            rfl
          refine hK.out _ _ ?_
          clear hK K
          refine done_ (by kernel_rfl) ?_
          try go_wp2
          have hx8 : l[k] < 256 := hlt _ (List.getElem_mem _)
          have h2j : 2 ^ j < 2 ^ 8 := Nat.pow_lt_pow_right (by omega) hj
          have hx9 : l[k] ^^^ 2 ^ j < 256 := Nat.xor_lt_two_pow (n := 8) (by omega) h2j
          rw [turn_byte _ j hx8 hj]
          refine ⟨⟨i + 1, l.set k (l[k] ^^^ 2 ^ j), by omega, by omega, by rw [List.length_set]; exact hl, turn_lt l k _ hlt hx9, rfl, by rw [decide_eq_true (bit_on_ne m i hbit)], ⟨turn_num l _ m i at_ k j (by omega) hj hlt hkj hbit HN.out⟩, ⟨(HB.out.set k (by omega) _).drewN 1⟩, ⟨below_drew1 (below_set HW.out (Nat.le_refl _))⟩⟩, ?_⟩
          simp [intOf]
          omega
        · have hbi : ((Int.tmod ((m : Int) / 2 ^ i) 2) == 1) = false := by rw [tmod_bit]; exact beq_eq_false_iff_ne.mpr (by omega)
          go_wp2_with fail
          have e1 : m % 2 ^ (i + 1) = m % 2 ^ i := bit_off m i (by omega)
          refine ⟨⟨i + 1, l, by omega, by omega, hl, hlt, rfl, by rw [e1]; simp, ⟨by rw [e1]; exact HN.out⟩, HB, HW⟩, ?_⟩
          simp [intOf]
          omega
      · have hcv2 : (convert 54 9 (.slice (some ⟨w0.heap.size, 0, none⟩) s.size cap)).run Try.prog wr = .ok (.string (strOfNums (l.map Int.ofNat))) wr := by
          refine run_convert_bytes_arg wr 54 5 Try.underlying54 Try.underlying5 w0.heap.size 0 s.size cap (l.map Int.ofNat) (by rw [List.length_map]; exact hl) (fun q hq => ?_) 9 Try.underlying9
          have hq2 : q < l.length := by rw [hl]; exact hq
          rw [Nat.zero_add, HB.out.cell q hq2]
          simp [List.getD_eq_getElem?_getD, hq2]
        have hbN := bytesN_str l hlt
        have hsz3 : (strOfNums (l.map Int.ofNat)).size = s.size := by rw [← bytesN_len, hbN, hl]
        have hT := Crc.sum_turned (bytesN s) l (m % 2 ^ i) at_ (by rw [hl, bytesN_len]) (bytesN_lt s) hlt (Nat.lt_of_le_of_lt (Nat.mod_le _ _) hm) (by rw [bytesN_len]; omega) HN.out
        have hTe : (((Crc.sum l : Nat) : Int) == ((Crc.sum (bytesN s) : Nat) : Int)) = decide (m % 2 ^ i = 0) := by
          rw [Bool.eq_iff_iff, beq_iff_eq, decide_eq_true_eq, ← hT]; omega
        clear hT
        go_wp2_with fail
        all_goals
          refine (Sum_calls _ _ (by rw [hsz3]; omega)).mono ?_
          rintro e w2 ⟨rfl, hb2⟩
          rw [hbN]
          go_wp2_with fail
          refine (Sum_calls s _ (by omega)).mono ?_
          rintro e w3 ⟨rfl, hb3⟩
          generalize Crc.sum l = A at hTe ⊢
          generalize Crc.sum (bytesN s) = B at hTe ⊢
          go_wp2_with fail
          go_ret
          exact ⟨rfl, below_step hb0 (below_then (below_then HW.out (below_size HW.out) hb2) (below_size (below_then HW.out (below_size HW.out) hb2)) hb3)⟩
theorem Turns_none (w : World) (s : ByteArray) (m : Nat) (a : Int) (h : s.size = 0 ∨ (s.size ≠ 0 ∧ m = 0)) : Calls Try.prog 6 #[.string s, .int .i64 a, .int .u32 m] w fun e w' => e = .returned (.bool true) ∧ Below w.heap.size w w' := by
  go_enter Try.func6, Try.ntmps6
  go_wp2_with fail
  refine (works_calls w).mono ?_
  rintro e w0 ⟨rfl, hb0⟩
  rcases h with h | ⟨h, rfl⟩
  · have hz2 : ((s.size : Int) == 0) = true := by rw [h]; rfl
    go_wp2_with fail
    all_goals go_ret
    all_goals exact ⟨rfl, hb0⟩
  · have hz2 : ((s.size : Int) == 0) = false := beq_eq_false_iff_ne.mpr (by omega)
    go_wp2_with fail
    all_goals go_ret
    all_goals exact ⟨rfl, hb0⟩
theorem wfU32 {n : Int} (h : (Lit.int .u32 n).wf = true) : 0 ≤ n ∧ n < 4294967296 := by
  simp only [Lit.wf, IntKind.min, IntKind.max, Bool.and_eq_true, decide_eq_true_eq] at h; simp [IntKind.signed, IntKind.bits] at h; omega
theorem WireTurns_walk (w : World) (s : ByteArray) (hs : s.size ≤ 140737488351232) (a : Int) (ha : (Lit.int .i64 a).wf = true) (m : Int) (hm : (Lit.int .u32 m).wf = true) : Calls Try.prog 6 #[.string s, .int .i64 a, .int .u32 m] w fun e w' => e = .returned (.bool true) ∧ Below w.heap.size w w' := by
  obtain ⟨m0, m1⟩ := wfU32 hm
  obtain ⟨m, rfl⟩ := Int.eq_ofNat_of_zero_le m0
  by_cases h0 : s.size = 0
  · exact Turns_none w s m a (.inl h0)
  · by_cases hz : m = 0
    · exact Turns_none w s m a (.inr ⟨h0, hz⟩)
    · have hp : (0 : Int) < 8 * (s.size : Int) := by omega
      have h1 := Int.tmod_lt_of_pos a hp
      have h2 : -(8 * (s.size : Int)) < Int.tmod a (8 * (s.size : Int)) := by
        have h3 := Int.tmod_lt_of_pos (-a) hp
        rw [Int.neg_tmod] at h3
        omega
      by_cases hn : 0 ≤ Int.tmod a (8 * (s.size : Int))
      · exact Turns_walk0 w s hs (Int.tmod a (8 * (s.size : Int))).toNat m a (by omega) (by omega) hz (by omega) (.inl (by omega))
      · exact Turns_walk0 w s hs (Int.tmod a (8 * (s.size : Int)) + 8 * (s.size : Int)).toNat m a (by omega) (by omega) hz (by omega) (.inr ⟨by omega, by omega⟩)
end Go.Proofs.Ytikfdfagnalmbaa.My
