/- The reference's Joined. -/
import Derived.Test.YtikfdfagnalmbaaMat2
namespace Go.Proofs.Ytikfdfagnalmbaa.My
open Go.RowKit Go.Proofs.YtikfdfagnalmbaaW.PrintWords Go.Proofs.YtikfdfagnalmbaaW.PrintLast Go.Proofs.YtikfdfagnalmbaaW.PrintMore Go.Proofs.Ytikfdfagnalmbaa
set_option linter.unusedSimpArgs false
set_option linter.unusedVariables false
set_option maxRecDepth 100000
set_option maxHeartbeats 6400000
/-- What becomes of each bit behind e steps. -/
def matL (e : Nat) : List Nat := (List.range 32).map fun i => Crc.stepN e (2 ^ i)
theorem matL_len (e : Nat) : (matL e).length = 32 := by simp [matL]
theorem matL_at (e n : Nat) (h : n < (matL e).length) : (matL e)[n] = Crc.stepN e (2 ^ n) := by simp [matL]
theorem pow_lt32 (n : Nat) (h : n < 32) : 2 ^ n < 4294967296 := by
  have : 2 ^ n < 2 ^ 32 := Nat.pow_lt_pow_right (by omega) h
  simpa using this
theorem matL_lt (e : Nat) : ∀ x ∈ matL e, x < 4294967296 := by
  intro x hx
  obtain ⟨i, hi, rfl⟩ := List.mem_map.1 hx
  exact Crc.stepN_lt e (pow_lt32 i (List.mem_range.1 hi))
theorem putU_mat (e c : Nat) : ∀ n, n ≤ 32 → putU (matL e) c n = Crc.stepN e (c % 2 ^ n)
  | 0, _ => by rw [putU, Nat.pow_zero, Nat.mod_one, Crc.stepN_zero]
  | n + 1, hn => by
    have hg : (matL e).getD n 0 = Crc.stepN e (2 ^ n) := by
      rw [List.getD_eq_getElem?_getD, List.getElem?_eq_getElem (by rw [matL_len]; omega), matL_at]; rfl
    rw [putU, putU_mat e c n (by omega), hg]
    by_cases hb : c / 2 ^ n % 2 = 1
    · rw [if_pos hb, ← Crc.stepN_xor]
      congr 1
      rw [Nat.pow_succ, Nat.mod_mul, hb, Nat.mul_one]
      have := Crc.add_xor (c % 2 ^ n) 1 n (Nat.mod_lt _ (Nat.pow_pos (by omega)))
      rw [Nat.mul_one] at this
      exact this.symm
    · rw [if_neg hb, Nat.pow_succ, Nat.mod_mul, show c / 2 ^ n % 2 = 0 by omega]
      simp
theorem putU_all (e c : Nat) (hc : c < 4294967296) : putU (matL e) c 32 = Crc.stepN e c := by
  rw [putU_mat e c 32 (Nat.le_refl _), Nat.mod_eq_of_lt (by simpa using hc)]
theorem twice_mat (e : Nat) : twiceN (matL e) = matL (e + e) := by
  unfold twiceN
  conv => lhs; arg 2; rw [matL]
  rw [List.map_map, matL]
  apply List.map_congr_left
  intro i hi
  have hi2 := List.mem_range.1 hi
  show putU (matL e) (Crc.stepN e (2 ^ i)) 32 = _
  rw [putU_all e _ (Crc.stepN_lt e (pow_lt32 i hi2)), ← Crc.stepN_add]
theorem joined_calls (a b : Nat) (n : Int) (w : World) (ha : a < 4294967296) (hb : b < 4294967296) (hn : n < 9223372036854775808) : Calls Try.prog 18 #[.int .u32 a, .int .u32 b, .int .i64 n] w fun r w' => r = .returned (.int .u32 ((Crc.stepN (8 * n.toNat) a ^^^ b : Nat) : Int)) ∧ Below w.heap.size w w' := by
  go_enter Try.func18, Try.ntmps18
  go_wp2_with fail
  rw [← zero_row]
  generalize hW : w.alloc (.cells (rowA zero32) 82) = W
  have hM : MB W w.heap.size zero32 := by rw [← hW]; exact mW_push _ _ _ _
  have hB : Below w.heap.size w W := by rw [← hW]; exact (Below.refl _ _).alloc (Nat.le_refl _) _
  clear hW
  go_loopw [8] (fun iv wr => ∃ i : Nat, i ≤ 32 ∧ iv = .int .i64 (i : Int) ∧ Aside0 (MB wr w.heap.size ((matL 8).take i ++ zero32.drop i)) ∧ Aside0 (Below w.heap.size w wr)) (fun iv _ => (32 - intOf iv).toNat)
  case atStart => exact ⟨0, by omega, rfl, ⟨hM⟩, ⟨hB⟩⟩
  case round =>
    clear hM hB
    obtain ⟨i, hi, rfl, hM, hB⟩ := hrel
    by_cases h32 : i < 32
    · have hi1 : (i : Int) < 32 := by omega
      have hi0 : (0 : Int) ≤ (i : Int) := by omega
      have hpw : (2 : Int) ^ i < 4294967296 := by
        have h1 := pow_lt32 i h32
        have h2 : (2 : Int) ^ i = ((2 ^ i : Nat) : Int) := by push_cast; rfl
        omega
      have h2 : (2 : Int) ^ i = ((2 ^ i : Nat) : Int) := by push_cast; rfl
      have hp0 : (0 : Int) ≤ (2 : Int) ^ i := by rw [h2]; exact Int.natCast_nonneg _
      have H2 := Aside0.mk h2
      clear h2
      have hfz : wr.frozen? ⟨w.heap.size, i, none⟩ = false := blk_frozen hM.out i
      have hc3 : wr.cell? ⟨w.heap.size, i, none⟩ = some (.int .u32 0) := by
        have h9 := MB.cell hM.out i (by rw [mix_len _ _ i (by rw [matL_len]; rfl), matL_len]; exact h32)
        rw [h9, mix_at _ _ i (by rw [matL_len]; exact h32) (by rw [matL_len]; rfl), zero_at]; rfl
      go_wp2_with fail
      rw [H2.out]
      refine (refStep_calls (2 ^ i) wr (pow_lt32 i h32)).mono ?_
      rintro e_ w1 ⟨rfl, rfl⟩
      go_wp2_with fail
      have hTf := MB.set hM.out i (Crc.step8 (2 ^ i))
      have hAx : (matL 8)[i]'(by rw [matL_len]; exact h32) = Crc.step8 (2 ^ i) := matL_at 8 i _
      rw [← hAx, mix_set _ _ i (by rw [matL_len]; exact h32) (by rw [matL_len]; rfl), hAx] at hTf
      refine ⟨⟨i + 1, by omega, rfl, ⟨hTf⟩, ⟨below_set hB.out (Nat.le_refl _)⟩⟩, ?_⟩
      simp [intOf]
      omega
    · obtain rfl : i = 32 := by omega
      have hTl : (matL 8).take 32 ++ zero32.drop 32 = matL 8 := by
        rw [List.take_of_length_le (by rw [matL_len]; omega), show zero32.drop 32 = [] from rfl, List.append_nil]
      rw [hTl] at hM
      have HLD : Aside0 (∀ (w' : World) (l : List Nat), l.length = 32 → MB w' w.heap.size l → (Instr.loadAt 82 (.pointer (some ⟨w.heap.size, 0, none⟩))).run Try.prog w' = .ok (.agg (rowA l)) w') := ⟨fun w' l hl h => by
        simp only [Instr.loadAt, Instr.sureAddr, Sem.run_bind, Sem.run_pure, Result.andThen_ok]
        exact run_loadVar_row w' w.heap.size _ _ (rowA l) (0, 0) _ h Try.underlying82 rfl ((show _ = some 32 by kernel_rfl).trans (by rw [rowA]; simp [hl]))⟩
      have HST : Aside0 (∀ (w' : World) (l k : List Nat), l.length = 32 → k.length = 32 → MB w' w.heap.size l → (Instr.storeAt 82 (.pointer (some ⟨w.heap.size, 0, none⟩)) (.agg (rowA k))).run Try.prog w' = .ok () (w'.setRow w.heap.size (rowA k))) := ⟨fun w' l k hl hk h => by
        simp only [Instr.storeAt, Instr.sureAddr, Sem.run_bind, Sem.run_pure, Result.andThen_ok]
        exact run_storeVar_row w' w.heap.size _ _ (rowA l) (rowA k) h ((show _ = some 32 by kernel_rfl).trans (by rw [rowA]; simp [hk])) (by simp [rowA, hl, hk]) (by simp [rowA, Value.oneCell'])⟩
      go_wp2_with fail
      go_loopw [0, 2] (fun av nv w2 => ∃ (a' e : Nat) (m : Int) (l : List Nat), av = .int .u32 (a' : Int) ∧ nv = .int .i64 m ∧ a' < 4294967296 ∧ m < 9223372036854775808 ∧ Aside0 (Crc.stepN (e * m.toNat) a' = Crc.stepN (8 * n.toNat) a) ∧ Aside0 (l = matL e) ∧ Aside0 (MB w2 w.heap.size l) ∧ Aside0 (Below w.heap.size w w2)) (fun _ nv _ => (intOf nv).toNat)
      case atStart => exact ⟨a, 8, n, matL 8, rfl, rfl, ha, hn, ⟨rfl⟩, ⟨rfl⟩, hM, hB⟩
      case round =>
        clear hM hB
        obtain ⟨a', e, m, l, rfl, rfl, ha', hm, HE, HL, hM, hB⟩ := hrel
        have hll : l.length = 32 := by rw [HL.out, matL_len]
        have hlt : ∀ x ∈ l, x < 4294967296 := by rw [HL.out]; exact matL_lt e
        have hput : ∀ c, c < 4294967296 → putU l c 32 = Crc.stepN e c := by rw [HL.out]; exact putU_all e
        have HPUT := Aside0.mk hput
        have HLT := Aside0.mk hlt
        clear hput hlt
        by_cases hpos : 0 < m
        · have hm0 : 0 ≤ m := by omega
          have hld := Aside0.mk (HLD.out _ l hll hM.out)
          have htw : twiceN l = matL (e + e) := by rw [HL.out, twice_mat]
          have htl : (twiceN l).length = 32 := by rw [twiceN_len, hll]
          have HTW := Aside0.mk htw
          have HTL := Aside0.mk htl
          have e3 : e + e = 2 * e := by omega
          clear htw htl
          by_cases hodd : m % 2 = 1
          · have hbi : (Int.tmod m 2 == 1) = true := by rw [Int.tmod_eq_emod_of_nonneg hm0, beq_iff_eq]; exact hodd
            have HEN : Aside0 (Crc.stepN ((e + e) * (m / 2).toNat) (Crc.stepN e a') = Crc.stepN (8 * n.toNat) a) := ⟨by
              rw [← HE.out, ← Crc.stepN_add]
              congr 1
              conv => rhs; rw [show m.toNat = 2 * (m / 2).toNat + 1 by omega]
              rw [e3, Nat.mul_add, Nat.mul_one, Nat.mul_comm 2 e, Nat.mul_assoc, Nat.add_comm]⟩
            have hsa : Crc.stepN e a' < 4294967296 := Crc.stepN_lt e ha'
            clear e3
            go_wp2_with (first | ((with_reducible refine gate_dst (N := 25) rfl ?_); refine wpList_run (Instr.loadAt 82 (.pointer (some ⟨w.heap.size, 0, none⟩))) rfl rfl hld.out ?_))
            refine (put_calls l a' _ hll HLT.out ha').mono ?_
            rintro e_ w3 ⟨rfl, hb3⟩
            rw [HPUT.out a' ha']
            have hM3 := Aside0.mk ((hb3.block _ (blk_lt hM.out)).trans hM.out)
            have hB3 := Aside0.mk (below_then hB.out (below_size hB.out) hb3)
            have hld3 := Aside0.mk (HLD.out w3 l hll hM3.out)
            go_wp2_with (first | ((with_reducible refine gate_dst (N := 28) rfl ?_); refine wpList_run (Instr.loadAt 82 (.pointer (some ⟨w.heap.size, 0, none⟩))) rfl rfl hld3.out ?_))
            refine (twice_calls l _ hll HLT.out).mono ?_
            rintro e_ w4 ⟨rfl, hb4⟩
            have hM4 := Aside0.mk ((hb4.block _ (blk_lt hM3.out)).trans hM3.out)
            have hB4 := Aside0.mk (below_then hB3.out (below_size hB3.out) hb4)
            have hst := Aside0.mk (HST.out w4 l (twiceN l) hll HTL.out hM4.out)
            go_wp2_with (first | ((with_reducible refine gate_store (t := 82) (p := 7) (v := .tmp 29) rfl ?_); refine wpList_runU (Instr.storeAt 82 (.pointer (some ⟨w.heap.size, 0, none⟩)) (.agg (rowA (twiceN l)))) rfl rfl hst.out ?_))
            refine ⟨⟨_, _, _, _, _, _, _, _, _, _, _, _, _, _, ⟨Crc.stepN e a', e + e, m / 2, twiceN l, rfl, rfl, hsa, by omega, HEN, HTW, ⟨setRow_heap w4 w.heap.size _ _ _ _ hM4.out⟩, ⟨below_setRow hB4.out (Nat.le_refl _) _⟩⟩, rfl⟩, ?_⟩
            show (m / 2).toNat < m.toNat
            omega
          · have hbi : (Int.tmod m 2 == 1) = false := by rw [Int.tmod_eq_emod_of_nonneg hm0]; exact beq_eq_false_iff_ne.mpr hodd
            have HEN : Aside0 (Crc.stepN ((e + e) * (m / 2).toNat) a' = Crc.stepN (8 * n.toNat) a) := ⟨by
              rw [← HE.out]
              congr 1
              conv => rhs; rw [show m.toNat = 2 * (m / 2).toNat by omega]
              rw [e3, Nat.mul_comm 2 e, Nat.mul_assoc]⟩
            clear e3
            go_wp2_with (first | ((with_reducible refine gate_dst (N := 28) rfl ?_); refine wpList_run (Instr.loadAt 82 (.pointer (some ⟨w.heap.size, 0, none⟩))) rfl rfl hld.out ?_))
            refine (twice_calls l _ hll HLT.out).mono ?_
            rintro e_ w4 ⟨rfl, hb4⟩
            have hM4 := Aside0.mk ((hb4.block _ (blk_lt hM.out)).trans hM.out)
            have hB4 := Aside0.mk (below_then hB.out (below_size hB.out) hb4)
            have hst := Aside0.mk (HST.out w4 l (twiceN l) hll HTL.out hM4.out)
            go_wp2_with (first | ((with_reducible refine gate_store (t := 82) (p := 7) (v := .tmp 29) rfl ?_); refine wpList_runU (Instr.storeAt 82 (.pointer (some ⟨w.heap.size, 0, none⟩)) (.agg (rowA (twiceN l)))) rfl rfl hst.out ?_))
            refine ⟨⟨_, _, _, _, _, _, _, _, _, _, _, _, _, _, ⟨a', e + e, m / 2, twiceN l, rfl, rfl, ha', by omega, HEN, HTW, ⟨setRow_heap w4 w.heap.size _ _ _ _ hM4.out⟩, ⟨below_setRow hB4.out (Nat.le_refl _) _⟩⟩, rfl⟩, ?_⟩
            show (m / 2).toNat < m.toNat
            omega
        · have hm0 : m.toNat = 0 := by omega
          have hfin : a' = Crc.stepN (8 * n.toNat) a := by rw [← HE.out, hm0]; rfl
          have hxor := u32_xor_nat a' b ha' hb
          have HFIN := Aside0.mk hfin
          clear hfin
          go_wp2_with fail
          go_ret
          exact ⟨by rw [← HFIN.out]; rfl, hB.out⟩
end Go.Proofs.Ytikfdfagnalmbaa.My
