/- The document's forms: what they are. -/
import Derived.Test.YtikfdfagnalmbaaPVx1
import Derived.Test.YtikfdfagnalmbaaItAll
namespace Go.Proofs.Ytikfdfagnalmbaa.My
open Go.RowKit Go.Proofs.YtikfdfagnalmbaaW.PrintWords Go.Proofs.YtikfdfagnalmbaaW.PrintLast Go.Proofs.YtikfdfagnalmbaaW.PrintMore Go.Proofs.Ytikfdfagnalmbaa Go.Proofs.Ytikfdfagnalmbaa.PV
set_option linter.unusedSimpArgs false
set_option linter.unusedVariables false
set_option maxRecDepth 100000
set_option maxHeartbeats 1600000
theorem fixed_l0 : ∀ (m v k : Nat) (tail : List Int), v < 18446744073709551616 → m + tail.length ≤ 100 → m + 1 ≤ k → concordref01_Fixed.l0 k (v : Int) (List.replicate m 0 ++ tail) ((m : Int) - 1) = some (strOfNums (be m v ++ tail))
  | 0, v, k, tail, hv, hl, hk => by
    obtain ⟨k, rfl⟩ : ∃ j, k = j + 1 := ⟨k - 1, by omega⟩
    rw [concordref01_Fixed.l0, if_neg (by omega)]
    rfl
  | m + 1, v, k, tail, hv, hl, hk => by
    obtain ⟨k, rfl⟩ : ∃ j, k = j + 1 := ⟨k - 1, by omega⟩
    have e1 : IntKind.u64.wrap (Int.tdiv (v : Int) 256) = ((v / 256 : Nat) : Int) := by
      rw [IntKind.wrap_u64, Int.tdiv_eq_ediv_of_nonneg (by omega)]; omega
    have e2 : Int.tmod (v : Int) 256 % 256 = ((v % 256 : Nat) : Int) := by
      rw [Int.tmod_eq_emod_of_nonneg (by omega)]; omega
    have e3 : wrap64 ((((m + 1 : Nat) : Int) - 1) - 1) = (m : Int) - 1 := by unfold wrap64; omega
    have e4 : ((((m + 1 : Nat) : Int) - 1) : Int).toNat = m := by omega
    have e5 : (List.replicate (m + 1) (0 : Int) ++ tail).set m ((v % 256 : Nat) : Int) = List.replicate m 0 ++ ((v % 256 : Nat) : Int) :: tail := by
      rw [List.replicate_succ', List.append_assoc, List.set_append_right _ _ (by simp)]
      simp
    rw [concordref01_Fixed.l0, if_pos (by omega), if_pos (by omega), if_pos (by simp; omega), e1, e2, e3, e4, e5, fixed_l0 m (v / 256) k _ (by omega) (by simp; omega) (by omega), be_succ]
    simp
theorem fixed_f (n v k : Nat) (hv : v < 18446744073709551616) (hn : n ≤ 8) (hk : 10 ≤ k) : concordref01_Fixed.f k (v : Int) (n : Int) = some (strOfNums (be n v)) := by
  have hw : wrap64 ((n : Int) - 1) = (n : Int) - 1 := by unfold wrap64; omega
  have h := fixed_l0 n v k [] hv (by simp; omega) (by omega)
  rw [List.append_nil, List.append_nil] at h
  rw [concordref01_Fixed.f, if_pos (by omega), if_pos (by omega), hw, Int.toNat_natCast, h]
theorem fits_l0 : ∀ (m v n i k : Nat), v < 18446744073709551616 → i + m = n → n ≤ 8 → m + 1 ≤ k → concordref01_Fits.l0 k (v : Int) (n : Int) (i : Int) = some (decide (v < 256 ^ m))
  | 0, v, n, i, k, hv, hi, hn, hk => by
    obtain ⟨k, rfl⟩ : ∃ j, k = j + 1 := ⟨k - 1, by omega⟩
    rw [concordref01_Fits.l0, if_neg (by omega)]
    congr 1
    rw [Bool.eq_iff_iff]
    simp
  | m + 1, v, n, i, k, hv, hi, hn, hk => by
    obtain ⟨k, rfl⟩ : ∃ j, k = j + 1 := ⟨k - 1, by omega⟩
    have e1 : IntKind.u64.wrap (Int.tdiv (v : Int) 256) = ((v / 256 : Nat) : Int) := by
      rw [IntKind.wrap_u64, Int.tdiv_eq_ediv_of_nonneg (by omega)]; omega
    have e3 : wrap64 ((i : Int) + 1) = ((i + 1 : Nat) : Int) := by unfold wrap64; omega
    rw [concordref01_Fits.l0, if_pos (by omega), e1, e3, fits_l0 m (v / 256) n (i + 1) k (by omega) (by omega) hn (by omega)]
    congr 1
    refine decide_eq_decide.2 ?_
    rw [Nat.pow_succ]
    omega
theorem fits_f (who n : Int) (v k : Nat) (t : ByteArray) (hv : v < 18446744073709551616) (hk : 12 ≤ k) : concordref01_Fits.f k (v : Int) n = some (decide (Item.mk who 2 n v t).fix) := by
  obtain ⟨k, rfl⟩ : ∃ j, k = j + 1 := ⟨k - 1, by omega⟩
  rw [concordref01_Fits.f]
  by_cases h1 : n < 1
  · rw [if_pos h1, concordref01_Fits.j0, if_pos rfl, decide_eq_false (fun h => by have h : 1 ≤ n := h.1; omega)]
  · rw [if_neg h1, concordref01_Fits.j0]
    by_cases h8 : n > 8
    · rw [decide_eq_true h8, if_pos rfl, decide_eq_false (fun h => by have h : n ≤ 8 := h.2.1; omega)]
    · obtain ⟨m, rfl⟩ := Int.eq_ofNat_of_zero_le (show 0 ≤ n by omega)
      have h := fits_l0 m v m 0 k hv (by omega) (by omega) (by omega)
      rw [decide_eq_false h8, if_neg (by decide)]
      refine h.trans (congrArg some (decide_eq_decide.2 ⟨fun h => ⟨by show (1 : Int) ≤ m; omega, by show (m : Int) ≤ 8; omega, h⟩, fun h => h.2.2⟩))
theorem small_f (v k : Nat) (hk : 10 ≤ k) : concordref01_Small.f k (IntKind.i16.wrap (v : Int)) = some (strOfNums (be 2 (v % 65536))) := by
  have e : ∀ z : Int, -32768 ≤ z → z < 32768 → wrap64 z = z := fun z h1 h2 => by unfold wrap64; omega
  rw [concordref01_Small.f, e _ (by rw [i16_wrap]; omega) (by rw [i16_wrap]; omega)]
  split
  · rename_i h
    rw [i16_wrap] at h
    rw [show IntKind.u64.wrap (wrap64 (IntKind.i16.wrap (v : Int) + 65536)) = ((v % 65536 : Nat) : Int) by rw [i16_wrap, IntKind.wrap_u64]; unfold wrap64; omega]
    have := fixed_f 2 (v % 65536) k (by omega) (by omega) hk
    rw [show ((2 : Nat) : Int) = 2 from rfl] at this
    rw [this]; rfl
  · rename_i h
    rw [i16_wrap] at h
    rw [show IntKind.u64.wrap (IntKind.i16.wrap (v : Int)) = ((v % 65536 : Nat) : Int) by rw [i16_wrap, IntKind.wrap_u64]; omega]
    have := fixed_f 2 (v % 65536) k (by omega) (by omega) hk
    rw [show ((2 : Nat) : Int) = 2 from rfl] at this
    rw [this]; rfl
theorem uint_l0 : ∀ (m v k : Nat) (B : List Int), v < 18446744073709551616 → v < 128 * 128 ^ m → B.length + m ≤ 100 → m + 2 ≤ k → concordref01_Uint.l0 k (v : Int) B = some (strOfNums (B ++ uv m v))
  | 0, v, k, B, hv, hm, hl, hk => by
    obtain ⟨k, rfl⟩ : ∃ j, k = j + 1 := ⟨k - 1, by omega⟩
    rw [concordref01_Uint.l0, if_neg (by omega), if_pos (by omega), uv, show (v : Int) % 256 = v by omega]
  | m + 1, v, k, B, hv, hm, hl, hk => by
    obtain ⟨k, rfl⟩ : ∃ j, k = j + 1 := ⟨k - 1, by omega⟩
    rw [concordref01_Uint.l0, uv]
    by_cases h : v < 128
    · rw [if_neg (by omega), if_pos (by omega), if_pos h, show (v : Int) % 256 = v by omega]
    · have e1 : IntKind.u64.wrap (Int.tdiv (v : Int) 128) = ((v / 128 : Nat) : Int) := by
        rw [IntKind.wrap_u64, Int.tdiv_eq_ediv_of_nonneg (by omega)]; omega
      have e2 : IntKind.u64.wrap (Int.tmod (v : Int) 128 + 128) % 256 = ((v % 128 + 128 : Nat) : Int) := by
        rw [IntKind.wrap_u64, Int.tmod_eq_emod_of_nonneg (by omega)]; omega
      rw [if_pos (by omega), if_pos (by omega), if_neg h, e1, e2, uint_l0 m (v / 128) k _ (by omega) (by rw [Nat.pow_succ] at hm; omega) (by simp; omega) (by omega), List.append_assoc, List.singleton_append]
theorem uint_f (v k : Nat) (hv : v < 18446744073709551616) (hk : 12 ≤ k) : concordref01_Uint.f k (v : Int) = some (strOfNums (uv 10 v)) := by
  have h := uint_l0 10 v k [] hv (by rw [show (128 : Nat) ^ 10 = 1180591620717411303424 by decide]; omega) (by simp) (by omega)
  rw [List.nil_append] at h
  exact h
theorem zig_f (v : Int) (h0 : -9223372036854775808 ≤ v) (h1 : v ≤ 9223372036854775807) : concordref01_Zig.f v = some ((zig v : Nat) : Int) := by
  unfold concordref01_Zig.f zig
  simp only [IntKind.wrap_u64]
  unfold wrap64
  split
  · congr 1
    omega
  · congr 1
    omega
theorem int_f (v : Int) (k : Nat) (h0 : -9223372036854775808 ≤ v) (h1 : v ≤ 9223372036854775807) (hk : 12 ≤ k) : concordref01_Int.f k v = some (strOfNums (uv 10 (zig v))) := by
  rw [concordref01_Int.f, zig_f v h0 h1, Option.bind_some, uint_f _ k (zig_lt v h0 h1) hk]
  rfl
theorem fixed_calls (n v : Nat) (hv : v < 18446744073709551616) (hn : n ≤ 8) (w : World) : Calls Try.prog 51 #[.int .u64 v, .int .i64 n] w fun e w' => e = .returned (.string (strOfNums (be n v))) ∧ Below w.heap.size w w' :=
  concordref01_Fixed.calls 10 _ _ _ w (fixed_f n v 10 hv hn (by omega))
theorem uint_calls (v : Nat) (hv : v < 18446744073709551616) (w : World) : Calls Try.prog 54 #[.int .u64 v] w fun e w' => e = .returned (.string (strOfNums (uv 10 v))) ∧ Below w.heap.size w w' :=
  concordref01_Uint.calls 12 _ _ w (uint_f v 12 hv (by omega))
theorem strOf_append (l m : List Int) : strOfNums (l ++ m) = strOfNums l ++ strOfNums m := by
  apply ByteArray.ext
  rw [ByteArray.data_append]
  unfold strOfNums
  simp
theorem strOf_bytes (s : ByteArray) : strOfNums (bytesOf s) = s := by
  apply natsOf_inj
  rw [natsOf_str _ (bytesOf_bounds s), bytesOf_nats]
theorem text_calls (s : ByteArray) (hs : s.size ≤ 140737488351232) (w : World) : Calls Try.prog 58 #[.string s] w fun e w' => e = .returned (.string (strOfNums (uv 10 s.size ++ bytesOf s))) ∧ Below w.heap.size w w' := by
  have hw : IntKind.u64.wrap (s.size : Int) = s.size := by rw [IntKind.wrap_u64]; omega
  have hl := uv_len 10 s.size
  have hsz : (strOfNums (uv 10 s.size)).size ≤ 11 := by show (strOfNums (uv 10 s.size)).data.size ≤ _; simp [strOfNums]; omega
  rw [strOf_append, strOf_bytes]
  have HU := Aside0.mk (uint_calls s.size (by omega) w)
  generalize strOfNums (uv 10 s.size) = z at hsz HU ⊢
  clear hl
  go_enter Try.func58, Try.ntmps58
  go_wp2_with fail
  refine HU.out.mono ?_
  rintro e_ w1 ⟨rfl, hb1⟩
  go_wp2_with fail
  go_ret
  exact ⟨rfl, hb1⟩
theorem refBits_calls (b : Nat) (w : World) : Calls Try.prog 81 #[.float .f64 b] w fun e w' => e = .returned (.int .u64 (fbits b : Nat)) ∧ w = w' := by
  have h2 := bits_run b
  unfold fbits
  by_cases ha : FloatKind.f64.format.order b b = some .eq
  · rw [if_neg (by unfold nanB; rw [ha]; decide)]
    go_enter Try.func81, Try.ntmps81
    go_wp2_with fail
    go_ret
    exact ⟨rfl, rfl⟩
  · rw [if_pos (by unfold nanB; exact bne_iff_ne.2 ha)]
    have hb2 : (FloatKind.f64.format.order b b != some Ordering.eq) = true := bne_iff_ne.2 ha
    go_enter Try.func81, Try.ntmps81
    go_wp2_with fail
    go_ret
    exact ⟨rfl, rfl⟩
theorem refFloat_calls (b : Nat) (hb : b < 18446744073709551616) (w : World) : Calls Try.prog 56 #[.float .f64 b] w fun e w' => e = .returned (.string (strOfNums (be 8 (fbits b)))) ∧ Below w.heap.size w w' := by
  go_enter Try.func56, Try.ntmps56
  go_wp2_with fail
  refine (refBits_calls b w).mono ?_
  rintro e_ w1 ⟨rfl, rfl⟩
  go_wp2_with fail
  refine (fixed_calls 8 (fbits b) (fbits_lt b hb) (by omega) w).mono ?_
  rintro e_ w1 ⟨rfl, hb1⟩
  go_wp2_with fail
  go_ret
  exact ⟨rfl, hb1⟩
end Go.Proofs.Ytikfdfagnalmbaa.My
