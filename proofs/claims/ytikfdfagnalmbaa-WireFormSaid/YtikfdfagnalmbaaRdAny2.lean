/- A Reader in memory, whatever its state: Text, Int, Float. -/
import Derived.Test.YtikfdfagnalmbaaRdAny
import Derived.Test.YtikfdfagnalmbaaWrM
import Derived.Lib.Zigzag
namespace Go.Proofs.Ytikfdfagnalmbaa.My
open Go.RowKit Go.Proofs.YtikfdfagnalmbaaW.PrintWords Go.Proofs.YtikfdfagnalmbaaW.PrintLast Go.Proofs.Ytikfdfagnalmbaa
set_option linter.unusedSimpArgs false
set_option linter.unusedVariables false
set_option maxRecDepth 100000
set_option maxHeartbeats 1600000
theorem tk_no (s : ByteArray) (p : Nat) (e n : Int) (h : (tk s p e n).2.1 = false) : (tk s p e n).1 = ⟨#[]⟩ := by
  unfold tk at h ⊢
  split
  · rename_i h0
    rw [if_pos h0] at h
    split
    · rename_i h1
      rw [if_pos h1] at h
      cases h
    · rfl
  · rfl
/-- The number with a sign that a number without one stands for. -/
def zag (n : Nat) : Int := if n % 2 = 0 then ((n / 2 : Nat) : Int) else -((n / 2 : Nat) : Int) - 1
theorem zag_bits (n : Nat) (h : n < 18446744073709551616) : bits .xor .i64 ((n : Int) / 2) (wrap64 (-wrap64 (bits .and .u64 (n : Int) 1))) = zag n := by
  rw [Lib.u64_and1 _ (by omega) (by omega)]
  unfold zag
  have hc : ∀ a b : Int, bits .xor .i64 a b = bits .xor .i64 b a := fun a b => by
    show IntKind.i64.wrap ((BitVec.ofInt 64 a ^^^ BitVec.ofInt 64 b).toNat : Int) = IntKind.i64.wrap ((BitVec.ofInt 64 b ^^^ BitVec.ofInt 64 a).toNat : Int)
    rw [BitVec.xor_comm]
  rcases Nat.mod_two_eq_zero_or_one n with h2 | h2
  · rw [if_pos h2, show ((n : Int) % 2) = 0 by omega, show wrap64 (-wrap64 0) = 0 by unfold wrap64; omega]
    show IntKind.i64.wrap ((BitVec.ofInt 64 ((n : Int) / 2) ^^^ BitVec.ofInt 64 0).toNat : Int) = _
    have h3 : (BitVec.ofInt 64 ((n : Int) / 2)).toNat = n / 2 := by
      rw [show ((n : Int) / 2) = ((n / 2 : Nat) : Int) by omega, BitVec.ofInt_natCast, BitVec.toNat_ofNat]; exact Nat.mod_eq_of_lt (by omega)
    rw [BitVec.toNat_xor, h3, show (BitVec.ofInt 64 0).toNat = 0 by decide, Nat.xor_zero, IntKind.wrap_i64]
    omega
  · rw [if_neg (by omega), show ((n : Int) % 2) = 1 by omega, show wrap64 (-wrap64 1) = -1 by unfold wrap64; omega, hc, show ((n : Int) / 2) = ((n / 2 : Nat) : Int) by omega, Lib.i64_not _ (by omega)]
theorem RText_neg {w : World} {g : Nat} {s : ByteArray} {p : Nat} {e : Int} (h : RS w g s p e) (most : Int) (hm : most < 0) : Calls Try.prog 41 #[.pointer (some ⟨g, 0, none⟩), .int .i64 most] w fun r w' => r = .returned (.string ⟨#[]⟩) ∧ RS w' g s p (fe e 1) ∧ Alone1 w w' g := by
  go_enter Try.func41, Try.ntmps41
  go_wp2_with fail
  refine (RFail_any h 1).mono ?_
  rintro e w1 ⟨rfl, h1, h2⟩
  go_wp2_with fail
  go_ret
  exact ⟨rfl, h1, h2⟩
theorem RText_any {w : World} {g : Nat} {s : ByteArray} {p : Nat} {e : Int} (h : RS w g s p e) (hp : p ≤ s.size) (hs : s.size ≤ 140737488351232) (most : Int) (hm1 : most < 9223372036854775808) : Calls Try.prog 41 #[.pointer (some ⟨g, 0, none⟩), .int .i64 most] w fun r w' => r = .returned (.string (rT s p e most).1) ∧ RS w' g s (rT s p e most).2.1 (rT s p e most).2.2 ∧ Alone1 w w' g := by
  by_cases hneg : most < 0
  · unfold rT
    rw [if_pos hneg]
    exact RText_neg h most hneg
  · obtain ⟨m, rfl⟩ := Int.eq_ofNat_of_zero_le (show 0 ≤ most by omega)
    unfold rT
    rw [if_neg hneg, Int.toNat_natCast]
    dsimp only
    obtain ⟨h0, h1, h2, f1, f2⟩ := h.cells
    have HR := Aside0.mk h
    clear h
    have hw : IntKind.u64.wrap (m : Int) = m := by rw [IntKind.wrap_u64]; omega
    have hmo := rU_most s p e m
    have hle := rU_le s p e m hp
    have HU := Aside0.mk (RUint_any HR.out hp hs m (by omega))
    generalize rU s p e m = u at hmo hle HU ⊢
    obtain ⟨n, q, f⟩ := u
    dsimp only at hmo hle HU ⊢
    have hw2 : IntKind.i64.wrap (n : Int) = n := by rw [i64_w]; unfold wrap64; omega
    have HT : Aside0 (∀ w1 : World, RS w1 g s q f → Calls Try.prog 75 #[.pointer (some ⟨g, 0, none⟩), .int .i64 n] w1 fun r w' => r = .returned (.tuple #[.string (tk s q f n).1, .bool (tk s q f n).2.1]) ∧ RS w' g s (tk s q f n).2.2.1 (tk s q f n).2.2.2 ∧ Alone1 w1 w' g) := ⟨fun w1 hr1 => take_any hr1 hle hs n (fun _ => by omega)⟩
    have hno := tk_no s q f n
    generalize tk s q f n = t at HT hno ⊢
    obtain ⟨t, b, q2, f2⟩ := t
    dsimp only at HT hno ⊢
    cases b with
    | true =>
      rw [if_pos rfl]
      go_enter Try.func41, Try.ntmps41
      go_wp2_with fail
      refine HU.out.mono ?_
      rintro e w1 ⟨rfl, hr1, ha1⟩
      go_wp2_with fail
      refine (HT.out _ hr1).mono ?_
      rintro e w2 ⟨rfl, hr2, ha2⟩
      go_wp2_with fail
      go_ret
      exact ⟨rfl, hr2, ha1.trans ha2⟩
    | false =>
      rw [if_neg (by decide)]
      obtain rfl := hno rfl
      clear hno
      go_enter Try.func41, Try.ntmps41
      go_wp2_with fail
      refine HU.out.mono ?_
      rintro e w1 ⟨rfl, hr1, ha1⟩
      go_wp2_with fail
      refine (HT.out _ hr1).mono ?_
      rintro e w2 ⟨rfl, hr2, ha2⟩
      have HR2 := Aside0.mk hr2
      obtain ⟨c0, c1, c2, z1, z2⟩ := hr2.cells
      clear hr2 h0 h1 h2 f1
      go_wp2_with fail
      go_ret
      exact ⟨rfl, blk_set HR2.out 1 (.int .i64 (p : Int)), ha1.trans (ha2.trans (Alone_set w2 0 g 1 _).one)⟩
theorem RInt_any {w : World} {g : Nat} {s : ByteArray} {p : Nat} {e : Int} (h : RS w g s p e) (hp : p ≤ s.size) (hs : s.size ≤ 140737488351232) : Calls Try.prog 38 #[.pointer (some ⟨g, 0, none⟩)] w fun r w' => r = .returned (.int .i64 (zag (rU s p e 18446744073709551615).1)) ∧ RS w' g s (rU s p e 18446744073709551615).2.1 (rU s p e 18446744073709551615).2.2 ∧ Alone1 w w' g := by
  have HU := Aside0.mk (RUint_any h hp hs 18446744073709551615 (by omega))
  have hmo := rU_most s p e 18446744073709551615
  generalize rU s p e 18446744073709551615 = u at HU hmo ⊢
  obtain ⟨n, q, f⟩ := u
  dsimp only at HU hmo ⊢
  have HZ := Aside0.mk (zag_bits n (by omega))
  generalize zag n = z at HZ ⊢
  go_enter Try.func38, Try.ntmps38
  go_wp2_with fail
  refine HU.out.mono ?_
  rintro e w1 ⟨rfl, hr1, ha1⟩
  go_wp2_with fail
  rw [HZ.out]
  go_ret
  exact ⟨rfl, hr1, ha1⟩
/-- A float is taken: its bits, the place, the error. -/
def rF (s : ByteArray) (p : Nat) (e : Int) : Nat × Nat × Int :=
  let t := tk s p e 8
  if t.2.1 = true then (if nanB (hiN (natsOf t.1)) = true ∧ hiN (natsOf t.1) ≠ 9221120237041090560 then (0, p, 4) else (hiN (natsOf t.1), t.2.2.1, t.2.2.2)) else (0, t.2.2.1, t.2.2.2)
theorem RFloat_any {w : World} {g : Nat} {s : ByteArray} {p : Nat} {e : Int} (h : RS w g s p e) (hp : p ≤ s.size) (hs : s.size ≤ 140737488351232) : Calls Try.prog 40 #[.pointer (some ⟨g, 0, none⟩)] w fun r w' => r = .returned (.float .f64 (rF s p e).1) ∧ RS w' g s (rF s p e).2.1 (rF s p e).2.2 ∧ Alone1 w w' g := by
  have HT := Aside0.mk (take_any h hp hs 8 (fun _ => by omega))
  have hx := tk_size s p e 8
  have hq : (tk s p e 8).2.1 = true → (tk s p e 8).2.2.1 = p + 8 := by
    unfold tk
    split
    · split
      · intro _; rfl
      · intro h; cases h
    · intro h; cases h
  unfold rF
  dsimp only
  generalize tk s p e 8 = t at HT hx hq ⊢
  obtain ⟨t, b, q, f⟩ := t
  dsimp only at HT hx hq ⊢
  have hx8 : t.size ≤ 8 := by omega
  clear hx
  cases b with
  | false =>
    rw [if_neg (by decide)]
    go_enter Try.func40, Try.ntmps40
    go_wp2_with fail
    refine HT.out.mono ?_
    rintro e w1 ⟨rfl, hr1, ha1⟩
    go_wp2_with fail
    go_ret
    exact ⟨rfl, hr1, ha1⟩
  | true =>
    rw [if_pos rfl]
    obtain rfl : q = p + 8 := hq rfl
    clear hq
    have HH := Aside0.mk (fun w => high_calls t w hx8)
    have hlt : hiN (natsOf t) < 18446744073709551616 := by
      have h1 := hiN_lt t t.size (Nat.le_refl _)
      rw [List.take_of_length_le (by rw [natsOf_len]; omega)] at h1
      exact Nat.lt_of_lt_of_le h1 (Nat.pow_le_pow_right (by omega : 0 < 256) hx8)
    generalize hiN (natsOf t) = n at HH hlt ⊢
    have hfb := frombits_run n
    have HN := Aside0.mk (isNaN_calls n)
    generalize nanB n = bn at HN ⊢
    by_cases hc : bn = true ∧ n ≠ 9221120237041090560
    · rw [if_pos hc]
      obtain ⟨rfl, hne⟩ := hc
      have hne' : ((n : Int) == 9221120237041090560) = false := by rw [beq_eq_false_iff_ne]; omega
      have hne2 : ((n : Int) != 9221120237041090560) = true := by rw [bne_iff_ne]; omega
      clear hne
      go_enter Try.func40, Try.ntmps40
      go_wp2_with fail
      refine HT.out.mono ?_
      rintro e w1 ⟨rfl, hr1, ha1⟩
      go_wp2_with fail
      refine (HH.out _).mono ?_
      rintro e w2 ⟨rfl, rfl⟩
      go_wp2_with fail
      refine (HN.out _).mono ?_
      rintro e w2 ⟨rfl, rfl⟩
      go_wp2_with fail
      refine (HH.out _).mono ?_
      rintro e w2 ⟨rfl, rfl⟩
      have HR2 := Aside0.mk hr1
      obtain ⟨c0, c1, c2, z1, z2⟩ := hr1.cells
      clear hr1
      go_wp2_with fail
      go_ret
      exact ⟨rfl, blk_set (blk_set HR2.out 1 (.int .i64 (p : Int))) 2 (.int .i64 4), ha1.trans ((Alone_set w1 0 g 1 _).trans (Alone_set _ 0 g 2 _)).one⟩
    · rw [if_neg hc]
      cases bn with
      | false =>
        go_enter Try.func40, Try.ntmps40
        go_wp2_with fail
        refine HT.out.mono ?_
        rintro e w1 ⟨rfl, hr1, ha1⟩
        go_wp2_with fail
        refine (HH.out _).mono ?_
        rintro e w2 ⟨rfl, rfl⟩
        go_wp2_with fail
        refine (HN.out _).mono ?_
        rintro e w2 ⟨rfl, rfl⟩
        go_wp2_with fail
        go_ret
        exact ⟨rfl, hr1, ha1⟩
      | true =>
        have hne : n = 9221120237041090560 := Decidable.byContradiction fun h => hc ⟨rfl, h⟩
        have hne' : ((n : Int) == 9221120237041090560) = true := by rw [beq_iff_eq]; omega
        have hne2 : ((n : Int) != 9221120237041090560) = false := by rw [bne_eq_false_iff_eq]; omega
        clear hc hne
        go_enter Try.func40, Try.ntmps40
        go_wp2_with fail
        refine HT.out.mono ?_
        rintro e w1 ⟨rfl, hr1, ha1⟩
        go_wp2_with fail
        refine (HH.out _).mono ?_
        rintro e w2 ⟨rfl, rfl⟩
        go_wp2_with fail
        refine (HN.out _).mono ?_
        rintro e w2 ⟨rfl, rfl⟩
        go_wp2_with fail
        refine (HH.out _).mono ?_
        rintro e w2 ⟨rfl, rfl⟩
        go_wp2_with fail
        go_ret
        exact ⟨rfl, hr1, ha1⟩
end Go.Proofs.Ytikfdfagnalmbaa.My
