/- Reader.Uint. -/
import Derived.Test.YtikfdfagnalmbaaRdF
import Derived.Test.YtikfdfagnalmbaaRdH
namespace Go.Proofs.Ytikfdfagnalmbaa.My
open Go.RowKit Go.Proofs.YtikfdfagnalmbaaW.PrintWords Go.Proofs.YtikfdfagnalmbaaW.PrintLast Go.Proofs.Ytikfdfagnalmbaa
set_option linter.unusedSimpArgs false
set_option linter.unusedVariables false
set_option maxRecDepth 100000
set_option maxHeartbeats 4000000
/-- A number to the base 128 out of bytes: the error, the number, how many bytes were taken. -/
def uL (most : Nat) : Nat → Nat → Nat → List Nat → Int × Nat × Nat
  | 0, _, _, _ => (11, 0, 0)
  | _ + 1, _, _, [] => (10, 0, 0)
  | k + 1, i, v, c :: t =>
    if i = 9 ∧ 1 < c then (11, 0, 0) else
    if 128 ≤ c then uL most k (i + 1) (v + c % 128 * 128 ^ i) t else
    if (c = 0 ∧ 0 < i) ∨ most < v + c % 128 * 128 ^ i then (11, 0, 0) else (0, v + c % 128 * 128 ^ i, i + 1)
def uRead (s : ByteArray) (p most : Nat) : Int × Nat × Nat := uL most 10 0 0 ((natsOf s).drop p)
theorem RUint_err {w : World} {g : Nat} {s : ByteArray} {p : Nat} {e : Int} (h : RS w g s p e) (he : (e == 0) = false) (most : Int) : Calls Try.prog 37 #[.pointer (some ⟨g, 0, none⟩), .int .u64 most] w fun r w' => r = .returned (.int .u64 0) ∧ w = w' := by
  obtain ⟨h0, h1, h2, _, _⟩ := h.cells
  go_enter Try.func37, Try.ntmps37
  go_wp2_with fail
  go_ret
  exact ⟨rfl, rfl⟩
theorem natsOf_drop (s : ByteArray) (q : Nat) (h : q < s.size) : (natsOf s).drop q = (s[q]).toNat :: (natsOf s).drop (q + 1) := by
  have hl : q < (natsOf s).length := by rw [natsOf_len]; exact h
  rw [List.drop_eq_getElem_cons hl]
  congr 1
  simp [natsOf, ByteArray.getElem_eq_getElem_data]
theorem RS_at {w : World} {g : Nat} {s : ByteArray} {p : Nat} {e : Int} (h : RS w g s p e) (m : Nat) (E : Int) (q : Nat) (hE : E = (q : Int)) : RS ((w.drewN m).setCell ⟨g, 1, none⟩ (.int .i64 E)) g s q e := by
  subst hE
  exact blk_set (blk_drewN h m) 1 (.int .i64 (q : Int))
theorem and127 : ∀ b : Nat, b < 256 → b &&& 127 = b % 128 := by decide
theorem uL_num (n x c : Nat) (hx : x < 128 ^ n) (hn : n < 10) (h9 : ¬ (n = 9 ∧ 1 < c)) : x + c % 128 * 128 ^ n < 128 ^ (n + 1) ∧ x + c % 128 * 128 ^ n < 18446744073709551616 ∧ Aside0 (Go.bits .or .u64 (x : Int) (IntKind.u64.wrap ((c : Int) % 128 * 2 ^ (7 * n))) = ((x + c % 128 * 128 ^ n : Nat) : Int)) := by
  have h1 : c % 128 * 128 ^ n ≤ 127 * 128 ^ n := Nat.mul_le_mul_right _ (by omega)
  have h2 : x + c % 128 * 128 ^ n < 128 ^ (n + 1) := by rw [Nat.pow_succ]; omega
  have h3 : x + c % 128 * 128 ^ n < 18446744073709551616 := by
    by_cases h : n = 9
    · subst h
      have : c % 128 ≤ 1 := by omega
      have e : (128 : Nat) ^ 9 = 9223372036854775808 := by decide
      rw [e] at hx ⊢
      omega
    · have : 128 ^ (n + 1) ≤ 128 ^ 9 := Nat.pow_le_pow_right (by omega) (by omega)
      have e : (128 : Nat) ^ 9 = 9223372036854775808 := by decide
      omega
  refine ⟨h2, h3, ⟨?_⟩⟩
  have e1 : (2 : Nat) ^ (7 * n) = 128 ^ n := by rw [Nat.pow_mul]
  have e2 : ((c : Int) % 128 * 2 ^ (7 * n)) = ((c % 128 * 128 ^ n : Nat) : Int) := by rw [← e1]; push_cast; rfl
  rw [e2, IntKind.wrap_u64, Int.emod_eq_of_lt (by omega) (by omega), u64_or_nat _ _ (by omega) (by omega), Nat.or_comm, ← e1, nat_join (7 * n) _ _ (by rw [Nat.mul_mod_left]) (by rw [e1]; exact hx), Nat.add_comm]
theorem RUint_calls {w : World} {g : Nat} {s : ByteArray} {p : Nat} (h : RS w g s p 0) (hp : p ≤ s.size) (hs : s.size ≤ 140737488351232) (most : Nat) (hm : most < 18446744073709551616) : Calls Try.prog 37 #[.pointer (some ⟨g, 0, none⟩), .int .u64 most] w fun r w' => r = .returned (.int .u64 ((uRead s p most).2.1 : Nat)) ∧ RS w' g s (p + (uRead s p most).2.2) (uRead s p most).1 ∧ Alone w w' g := by
  obtain ⟨h0, h1, h2, f1, f2⟩ := h.cells
  have HR := Aside0.mk h
  clear h
  go_enter Try.func37, Try.ntmps37
  go_wp2_with fail
  go_loopw [5, 17] (fun v i wr => ∃ n x d : Nat, n ≤ 10 ∧ x < 128 ^ n ∧ p + n ≤ s.size ∧ wr = w.drewN d ∧ i = .int .i64 (n : Int) ∧ v = .int .u64 (x : Int) ∧ Aside0 (uRead s p most = uL most (10 - n) n x ((natsOf s).drop (p + n)))) (fun _ i _ => (10 - intOf i).toNat)
  case atStart => exact ⟨0, 0, 0, by omega, by omega, by omega, rfl, rfl, rfl, ⟨rfl⟩⟩
  case round =>
    obtain ⟨n, x, d, hn, hx, hpn, rfl, rfl, rfl, HE⟩ := hrel
    by_cases h10 : n < 10
    · by_cases hsz : p + n < s.size
      · have hc8 : (s[p + n]).toNat < 256 := (s[p + n]).toNat_lt
        have hE2 := Aside0.mk (natsOf_drop s (p + n) hsz)
        go_wp2_with fail
        go_quiet (fail)
        go_wp2_with fail
        have hw2 : IntKind.i64.wrap ((p : Int) + n) = (p : Int) + n := by rw [i64_w]; unfold wrap64; omega
        have hb0 : 0 ≤ (p : Int) + n := by omega
        have hb1 : (p : Int) + n < s.size := by omega
        have hb2 : ((p : Int) + n).toNat = p + n := by omega
        go_quiet (fail)
        generalize (s[p + n]).toNat = c at hc8 hE2
        clear hw2 hb0 hb1 hb2
        obtain ⟨k, hk⟩ : ∃ k, 10 - n = k + 1 := ⟨9 - n, by omega⟩
        rw [hE2.out, hk] at HE
        by_cases h9 : n = 9 ∧ 1 < c
        · have hU := Aside0.mk (HE.out.trans (by rw [uL, if_pos h9]))
          obtain ⟨rfl, h91⟩ := h9
          clear HE hE2 hx
          go_wp2_with fail
          go_ret
          rw [hU.out]
          exact ⟨rfl, blk_set (blk_drewN HR.out _) 2 (.int .i64 11), Alone_set w _ g 2 _⟩
        · obtain ⟨hnew, hnew2, hor⟩ := uL_num n x c hx h10 h9
          have h9' : ¬ (n = 9) ∨ ¬ 1 < c := Decidable.not_and_iff_or_not.1 h9
          have hU := Aside0.mk (HE.out.trans (by rw [uL, if_neg h9]))
          obtain ⟨y, hy⟩ : ∃ y, y = x + c % 128 * 128 ^ n := ⟨_, rfl⟩
          rw [← hy] at hnew hnew2 hor hU
          clear HE hE2 h9 hx hy
          have ha : Go.bits .and .u8 (c : Int) 127 = ((c % 128 : Nat) : Int) := by
            have h1 := u8_and_nat c 127 (by omega) (by omega)
            rw [and127 c hc8] at h1
            exact h1
          by_cases hc7 : 128 ≤ c
          · have hU2 := Aside0.mk (hU.out.trans (if_pos hc7))
            clear hU
            have hn8 : n < 9 := by omega
            have hkk : k = 10 - (n + 1) := by omega
            have HN := Aside0.mk hnew
            clear hnew
            go_wp2_with fail
            refine ⟨⟨n + 1, y, _, by omega, HN.out, by omega, rfl, rfl, ?_, ⟨hkk ▸ hU2.out⟩⟩, ?_⟩
            · exact congrArg (Value.int .u64) (by have h := hor.out; simpa only [Nat.mul_zero, Nat.pow_zero, Int.mul_one] using h)
            · simp [intOf]
              omega
          · have hU2 := Aside0.mk (hU.out.trans (if_neg hc7))
            clear hU hnew
            have hlo : (c : Int) % 128 = c := by omega
            by_cases hz : c = 0 ∧ 0 < n
            · have hU3 := Aside0.mk (hU2.out.trans (if_pos (.inl hz)))
              obtain ⟨rfl, hz2⟩ := hz
              clear hU2
              go_wp2_with fail
              all_goals go_ret
              all_goals rw [hU3.out]
              all_goals exact ⟨rfl, blk_set (blk_drewN HR.out _) 2 (.int .i64 11), Alone_set w _ g 2 _⟩
            · have hz' : ¬ (c = 0) ∨ ¬ 0 < n := Decidable.not_and_iff_or_not.1 hz
              clear hz
              by_cases hn0 : n = 0
              · subst hn0
                have hor2 : Go.bits .or .u64 (x : Int) (c : Int) = (y : Int) := by
                  have h := hor.out
                  rw [hlo, Nat.mul_zero, Int.pow_zero, Int.mul_one, IntKind.wrap_u64, Int.emod_eq_of_lt (by omega) (by omega)] at h
                  exact h
                have hor3 : Go.bits .or .u64 (x : Int) ((c : Int) % 128) = (y : Int) := by rw [hlo]; exact hor2
                by_cases hm2 : most < y
                · have hU3 := Aside0.mk (hU2.out.trans (if_pos (.inr hm2)))
                  clear hU2
                  go_wp2_with fail
                  all_goals go_ret
                  all_goals rw [hU3.out]
                  all_goals exact ⟨rfl, blk_set (blk_drewN HR.out _) 2 (.int .i64 11), Alone_set w _ g 2 _⟩
                · have hU3 := Aside0.mk (hU2.out.trans (if_neg (by omega)))
                  clear hU2
                  go_wp2_with fail
                  all_goals go_ret
                  all_goals rw [hU3.out]
                  all_goals exact ⟨rfl, RS_at HR.out _ _ _ (by dsimp only; omega), Alone_set w _ g 1 _⟩
              · by_cases hn9 : n = 9
                · subst hn9
                  have hor2 : Go.bits .or .u64 (x : Int) ((c : Int) % 128 * 9223372036854775808) = (y : Int) := by
                    have h := hor.out
                    rw [IntKind.wrap_u64, show ((2 : Int) ^ (7 * 9)) = 9223372036854775808 by decide, Int.emod_eq_of_lt (by omega) (by omega)] at h
                    exact h
                  have hor3 : Go.bits .or .u64 (x : Int) ((c : Int) * 9223372036854775808) = (y : Int) := by rw [← hlo]; exact hor2
                  by_cases hm2 : most < y
                  · have hU3 := Aside0.mk (hU2.out.trans (if_pos (.inr hm2)))
                    clear hU2
                    go_wp2_with fail
                    all_goals go_ret
                    all_goals rw [hU3.out]
                    all_goals exact ⟨rfl, blk_set (blk_drewN HR.out _) 2 (.int .i64 11), Alone_set w _ g 2 _⟩
                  · have hU3 := Aside0.mk (hU2.out.trans (if_neg (by omega)))
                    clear hU2
                    go_wp2_with fail
                    all_goals go_ret
                    all_goals rw [hU3.out]
                    all_goals exact ⟨rfl, RS_at HR.out _ _ _ (by dsimp only; omega), Alone_set w _ g 1 _⟩
                · have hor2 := hor.out
                  rw [hlo] at hor2
                  by_cases hm2 : most < y
                  · have hU3 := Aside0.mk (hU2.out.trans (if_pos (.inr hm2)))
                    clear hU2
                    go_wp2_with fail
                    all_goals go_ret
                    all_goals rw [hU3.out]
                    all_goals exact ⟨rfl, blk_set (blk_drewN HR.out _) 2 (.int .i64 11), Alone_set w _ g 2 _⟩
                  · have hU3 := Aside0.mk (hU2.out.trans (if_neg (by omega)))
                    clear hU2
                    go_wp2_with fail
                    all_goals go_ret
                    all_goals rw [hU3.out]
                    all_goals exact ⟨rfl, RS_at HR.out _ _ _ (by dsimp only; omega), Alone_set w _ g 1 _⟩
      · have hU := Aside0.mk (HE.out.trans (by obtain ⟨k, hk⟩ : ∃ k, 10 - n = k + 1 := ⟨9 - n, by omega⟩
                                               rw [hk, List.drop_eq_nil_of_le (by rw [natsOf_len]; omega), uL]))
        clear HE
        go_wp2_with fail
        go_quiet (fail)
        go_wp2_with fail
        go_ret
        rw [hU.out]
        exact ⟨rfl, blk_set (blk_drewN HR.out _) 2 (.int .i64 10), Alone_set w _ g 2 _⟩
    · have hU := Aside0.mk (HE.out.trans (by rw [show 10 - n = 0 by omega, uL]))
      clear HE
      go_wp2_with fail
      go_ret
      rw [hU.out]
      exact ⟨rfl, blk_set (blk_drewN HR.out _) 2 (.int .i64 11), Alone_set w _ g 2 _⟩
end Go.Proofs.Ytikfdfagnalmbaa.My
