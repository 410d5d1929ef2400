/- A Reader in memory, whatever its state: what each call answers, and what it leaves. -/
import Derived.Test.YtikfdfagnalmbaaRdB
import Derived.Test.YtikfdfagnalmbaaRdE
import Derived.Test.YtikfdfagnalmbaaRdF
import Derived.Test.YtikfdfagnalmbaaRdS
import Derived.Test.YtikfdfagnalmbaaRdAt
import Derived.Test.YtikfdfagnalmbaaRdRaw
namespace Go.Proofs.Ytikfdfagnalmbaa.My
open Go.RowKit Go.Proofs.YtikfdfagnalmbaaW.PrintWords Go.Proofs.YtikfdfagnalmbaaW.PrintLast Go.Proofs.Ytikfdfagnalmbaa
set_option linter.unusedSimpArgs false
set_option linter.unusedVariables false
set_option maxRecDepth 100000
set_option maxHeartbeats 1600000
/-- n bytes are taken, if they are there: the bytes, whether they were there, the place, the error. -/
def tk (s : ByteArray) (p : Nat) (e n : Int) : ByteArray × Bool × Nat × Int :=
  if e = 0 then (if n ≤ (s.size : Int) - p then (s.extract p (p + n.toNat), true, p + n.toNat, 0) else (⟨#[]⟩, false, p, 10)) else (⟨#[]⟩, false, p, e)
theorem tk_err {s : ByteArray} {p : Nat} {e : Int} (n : Int) (h : e ≠ 0) : tk s p e n = (⟨#[]⟩, false, p, e) := by unfold tk; rw [if_neg h]
theorem tk_ok {s : ByteArray} {p : Nat} (n : Nat) (h : p + n ≤ s.size) : tk s p 0 n = (s.extract p (p + n), true, p + n, 0) := by unfold tk; rw [if_pos rfl, if_pos (by omega), Int.toNat_natCast]
theorem tk_short {s : ByteArray} {p : Nat} (n : Int) (h : (s.size : Int) - p < n) : tk s p 0 n = (⟨#[]⟩, false, p, 10) := by unfold tk; rw [if_pos rfl, if_neg (by omega)]
theorem tk_le (s : ByteArray) (p : Nat) (e n : Int) (hp : p ≤ s.size) (hn : e = 0 → 0 ≤ n) : (tk s p e n).2.2.1 ≤ s.size := by
  unfold tk
  split
  · rename_i h
    have := hn h
    split
    · show p + n.toNat ≤ s.size; omega
    · exact hp
  · exact hp
theorem tk_size (s : ByteArray) (p : Nat) (e n : Int) : ((tk s p e n).1.size : Int) ≤ max n 0 := by
  unfold tk
  split
  · split
    · show ((s.extract p (p + n.toNat)).size : Int) ≤ _
      rw [ByteArray.size_extract]; omega
    · show ((⟨#[]⟩ : ByteArray).size : Int) ≤ _; rw [show (⟨#[]⟩ : ByteArray).size = 0 from rfl]; omega
  · show ((⟨#[]⟩ : ByteArray).size : Int) ≤ _; rw [show (⟨#[]⟩ : ByteArray).size = 0 from rfl]; omega
theorem Alone1.refl (w : World) (g : Nat) : Alone1 w w g := ⟨Below.refl _ _, fun _ _ _ => rfl⟩
theorem take_any {w : World} {g : Nat} {s : ByteArray} {p : Nat} {e : Int} (h : RS w g s p e) (hp : p ≤ s.size) (hs : s.size ≤ 140737488351232) (n : Int) (hn : e = 0 → 0 ≤ n) : Calls Try.prog 75 #[.pointer (some ⟨g, 0, none⟩), .int .i64 n] w fun r w' => r = .returned (.tuple #[.string (tk s p e n).1, .bool (tk s p e n).2.1]) ∧ RS w' g s (tk s p e n).2.2.1 (tk s p e n).2.2.2 ∧ Alone1 w w' g := by
  by_cases he : e = 0
  · subst he
    by_cases hl : n ≤ (s.size : Int) - p
    · obtain ⟨m, rfl⟩ := Int.eq_ofNat_of_zero_le (hn rfl)
      rw [tk_ok m (by omega)]
      exact (take_ok h m (by omega) hs).mono fun _ _ h => ⟨h.1, h.2.1, h.2.2.one⟩
    · rw [tk_short n (by omega)]
      exact (take_short h n (by omega) hp hs).mono fun _ _ h => ⟨h.1, h.2.1, h.2.2.one⟩
  · rw [tk_err n he]
    exact (take_err h (by simpa using he) n).mono fun _ _ h' => ⟨h'.1, by rw [← h'.2]; exact h, by rw [← h'.2]; exact Alone1.refl _ _⟩
theorem RByte_any {w : World} {g : Nat} {s : ByteArray} {p : Nat} {e : Int} (h : RS w g s p e) (hp : p ≤ s.size) (hs : s.size ≤ 140737488351232) : Calls Try.prog 34 #[.pointer (some ⟨g, 0, none⟩)] w fun r w' => r = .returned (.int .u8 ((hiN (natsOf (tk s p e 1).1) : Nat) % 256 : Int)) ∧ RS w' g s (tk s p e 1).2.2.1 (tk s p e 1).2.2.2 ∧ Alone1 w w' g := by
  have hx := tk_size s p e 1
  have HC := Aside0.mk (take_any h hp hs 1 (fun _ => by omega))
  generalize tk s p e 1 = t at hx HC ⊢
  obtain ⟨t, b, q, f⟩ := t
  have hx8 : t.size ≤ 8 := by have h : (t.size : Int) ≤ max 1 0 := hx; omega
  clear hx
  go_enter Try.func34, Try.ntmps34
  go_wp2_with fail
  refine HC.out.mono ?_
  rintro e w1 ⟨rfl, h1, h2⟩
  go_wp2_with fail
  refine (high_calls t _ hx8).mono ?_
  rintro e w2 ⟨rfl, rfl⟩
  go_wp2_with fail
  go_ret
  exact ⟨rfl, h1, h2⟩
theorem RRaw_any {w : World} {g : Nat} {s : ByteArray} {p : Nat} {e : Int} (h : RS w g s p e) (hp : p ≤ s.size) (hs : s.size ≤ 140737488351232) (n : Int) (hn : 0 ≤ n) : Calls Try.prog 42 #[.pointer (some ⟨g, 0, none⟩), .int .i64 n] w fun r w' => r = .returned (.string (tk s p e n).1) ∧ RS w' g s (tk s p e n).2.2.1 (tk s p e n).2.2.2 ∧ Alone1 w w' g := by
  have HC := Aside0.mk (take_any h hp hs n (fun _ => hn))
  generalize tk s p e n = t at HC ⊢
  obtain ⟨t, b, q, f⟩ := t
  go_enter Try.func42, Try.ntmps42
  go_wp2_with fail
  refine HC.out.mono ?_
  rintro e w1 ⟨rfl, h1, h2⟩
  go_wp2_with fail
  go_ret
  exact ⟨rfl, h1, h2⟩
/-- The error that stays. -/
def fe (e n : Int) : Int := if e = 0 then n else e
theorem RFail_any {w : World} {g : Nat} {s : ByteArray} {p : Nat} {e : Int} (h : RS w g s p e) (n : Int) : Calls Try.prog 33 #[.pointer (some ⟨g, 0, none⟩), .int .i64 n] w fun r w' => r = .returned (.tuple #[]) ∧ RS w' g s p (fe e n) ∧ Alone1 w w' g := by
  unfold fe
  by_cases he : e = 0
  · subst he
    rw [if_pos rfl]
    exact (RFail_new h n).mono fun _ _ h => ⟨h.1, h.2.1, h.2.2.one⟩
  · rw [if_neg he]
    exact (RFail_kept h (by simpa using he) n).mono fun _ _ h' => ⟨h'.1, by rw [← h'.2]; exact h, by rw [← h'.2]; exact Alone1.refl _ _⟩
theorem fe_one (e : Int) : fe e 1 ≠ 0 := by unfold fe; split <;> omega
theorem RRaw_neg {w : World} {g : Nat} {s : ByteArray} {p : Nat} {e : Int} (h : RS w g s p e) (hp : p ≤ s.size) (hs : s.size ≤ 140737488351232) (n : Int) (hn : n < 0) : Calls Try.prog 42 #[.pointer (some ⟨g, 0, none⟩), .int .i64 n] w fun r w' => r = .returned (.string ⟨#[]⟩) ∧ RS w' g s p (fe e 1) ∧ Alone1 w w' g := by
  have hf := fe_one e
  have HC := Aside0.mk (RFail_any h 1)
  generalize fe e 1 = f at hf HC ⊢
  go_enter Try.func42, Try.ntmps42
  go_wp2_with fail
  refine HC.out.mono ?_
  rintro e w1 ⟨rfl, h1, h2⟩
  go_wp2_with fail
  refine (take_any h1 hp hs n (fun h => absurd h hf)).mono ?_
  rw [tk_err n hf]
  rintro e w2 ⟨rfl, h3, h4⟩
  go_wp2_with fail
  go_ret
  exact ⟨rfl, h3, h2.trans h4⟩
theorem RFixed_any {w : World} {g : Nat} {s : ByteArray} {p : Nat} {e : Int} (h : RS w g s p e) (hp : p ≤ s.size) (hs : s.size ≤ 140737488351232) (n : Int) (hn1 : 1 ≤ n) (hn8 : n ≤ 8) : Calls Try.prog 36 #[.pointer (some ⟨g, 0, none⟩), .int .i64 n] w fun r w' => r = .returned (.int .u64 ((hiN (natsOf (tk s p e n).1) : Nat) : Int)) ∧ RS w' g s (tk s p e n).2.2.1 (tk s p e n).2.2.2 ∧ Alone1 w w' g := by
  have hx := tk_size s p e n
  have HC := Aside0.mk (take_any h hp hs n (fun _ => by omega))
  generalize tk s p e n = t at hx HC ⊢
  obtain ⟨t, b, q, f⟩ := t
  have hx8 : t.size ≤ 8 := by have h : (t.size : Int) ≤ max n 0 := hx; omega
  clear hx
  go_enter Try.func36, Try.ntmps36
  go_wp2_with fail
  refine HC.out.mono ?_
  rintro e w1 ⟨rfl, h1, h2⟩
  go_wp2_with fail
  refine (high_calls t _ hx8).mono ?_
  rintro e w2 ⟨rfl, rfl⟩
  go_wp2_with fail
  go_ret
  exact ⟨rfl, h1, h2⟩
theorem hiN_nil : hiN (natsOf ⟨#[]⟩) = 0 := rfl
theorem RFixed_bad {w : World} {g : Nat} {s : ByteArray} {p : Nat} {e : Int} (h : RS w g s p e) (hp : p ≤ s.size) (hs : s.size ≤ 140737488351232) (n : Int) (hn : n < 1 ∨ 8 < n) : Calls Try.prog 36 #[.pointer (some ⟨g, 0, none⟩), .int .i64 n] w fun r w' => r = .returned (.int .u64 0) ∧ RS w' g s p (fe e 1) ∧ Alone1 w w' g := by
  have hf := fe_one e
  have HC := Aside0.mk (RFail_any h 1)
  generalize fe e 1 = f at hf HC ⊢
  rcases hn with hn | hn
  all_goals
    go_enter Try.func36, Try.ntmps36
    go_wp2_with fail
    refine HC.out.mono ?_
    rintro e w1 ⟨rfl, h1, h2⟩
    go_wp2_with fail
    refine (take_any h1 hp hs n (fun h => absurd h hf)).mono ?_
    rw [tk_err n hf]
    rintro e w2 ⟨rfl, h3, h4⟩
    go_wp2_with fail
    refine (high_calls ⟨#[]⟩ _ (Nat.zero_le _)).mono ?_
    rintro e w3 ⟨rfl, rfl⟩
    go_wp2_with fail
    go_ret
    exact ⟨rfl, h3, h2.trans h4⟩
/-- Two bytes as a number of 16 bits. -/
def rSm (t : ByteArray × Bool × Nat × Int) : Int := if t.2.1 = true then small16 t.1 else 0
theorem RSmall_any {w : World} {g : Nat} {s : ByteArray} {p : Nat} {e : Int} (h : RS w g s p e) (hp : p ≤ s.size) (hs : s.size ≤ 140737488351232) : Calls Try.prog 35 #[.pointer (some ⟨g, 0, none⟩)] w fun r w' => r = .returned (.int .i16 (rSm (tk s p e 2))) ∧ RS w' g s (tk s p e 2).2.2.1 (tk s p e 2).2.2.2 ∧ Alone1 w w' g := by
  have hq : ∀ q f, tk s p e 2 = (⟨#[]⟩, false, q, f) → Calls Try.prog 35 #[.pointer (some ⟨g, 0, none⟩)] w fun r w' => r = .returned (.int .i16 (rSm (tk s p e 2))) ∧ RS w' g s (tk s p e 2).2.2.1 (tk s p e 2).2.2.2 ∧ Alone1 w w' g := by
    intro q f ht
    have HC := Aside0.mk (take_any h hp hs 2 (fun _ => by omega))
    rw [ht] at HC ⊢
    clear ht
    go_enter Try.func35, Try.ntmps35
    go_wp2_with fail
    refine HC.out.mono ?_
    rintro e w1 ⟨rfl, h1, h2⟩
    go_wp2_with fail
    go_ret
    exact ⟨rfl, h1, h2⟩
  by_cases he : e = 0
  · subst he
    by_cases hl : p + 2 ≤ s.size
    · rw [show tk s p 0 2 = _ from tk_ok 2 hl]
      exact RSmall_ok h hl hs
    · exact hq _ _ (tk_short 2 (by omega))
  · exact hq _ _ (tk_err 2 he)
/-- A number to the base 128 is taken: the number, the place, the error. -/
def rU (s : ByteArray) (p : Nat) (e : Int) (most : Nat) : Nat × Nat × Int := if e = 0 then ((uRead s p most).2.1, p + (uRead s p most).2.2, (uRead s p most).1) else (0, p, e)
theorem RUint_any {w : World} {g : Nat} {s : ByteArray} {p : Nat} {e : Int} (h : RS w g s p e) (hp : p ≤ s.size) (hs : s.size ≤ 140737488351232) (most : Nat) (hm : most < 18446744073709551616) : Calls Try.prog 37 #[.pointer (some ⟨g, 0, none⟩), .int .u64 most] w fun r w' => r = .returned (.int .u64 ((rU s p e most).1 : Nat)) ∧ RS w' g s (rU s p e most).2.1 (rU s p e most).2.2 ∧ Alone1 w w' g := by
  unfold rU
  by_cases he : e = 0
  · subst he
    rw [if_pos rfl]
    exact (RUint_calls h hp hs most hm).mono fun _ _ h => ⟨h.1, h.2.1, h.2.2.one⟩
  · rw [if_neg he]
    exact (RUint_err h (by simpa using he) most).mono fun _ _ h' => ⟨h'.1, by rw [← h'.2]; exact h, by rw [← h'.2]; exact Alone1.refl _ _⟩
theorem uL_bd (most : Nat) : ∀ (k i v : Nat) (l : List Nat), (uL most k i v l).2.2 ≤ i + l.length ∧ (uL most k i v l).2.1 ≤ most ∧ ((uL most k i v l).1 ≠ 0 → (uL most k i v l).2 = (0, 0))
  | 0, i, v, l => by simp [uL]
  | k + 1, i, v, [] => by simp [uL]
  | k + 1, i, v, c :: t => by
    rw [uL]
    split
    · simp
    · split
      · have := uL_bd most k (i + 1) (v + c % 128 * 128 ^ i) t
        exact ⟨by have := this.1; simp only [List.length_cons]; omega, this.2⟩
      · split
        · simp
        · rename_i h
          exact ⟨by simp only [List.length_cons]; omega, by simp only; omega, by simp⟩
theorem rU_le (s : ByteArray) (p : Nat) (e : Int) (most : Nat) (hp : p ≤ s.size) : (rU s p e most).2.1 ≤ s.size := by
  unfold rU
  split
  · have := (uL_bd most 10 0 0 ((natsOf s).drop p)).1
    rw [List.length_drop, natsOf_len] at this
    show p + (uRead s p most).2.2 ≤ _
    unfold uRead
    omega
  · exact hp
theorem rU_most (s : ByteArray) (p : Nat) (e : Int) (most : Nat) : (rU s p e most).1 ≤ most := by
  unfold rU
  split
  · exact (uL_bd most 10 0 0 ((natsOf s).drop p)).2.1
  · exact Nat.zero_le _
theorem rU_bad (s : ByteArray) (p : Nat) (e : Int) (most : Nat) (h : (rU s p e most).2.2 ≠ 0) : (rU s p e most).1 = 0 ∧ (rU s p e most).2.1 = p := by
  unfold rU at h ⊢
  by_cases he : e = 0
  · rw [if_pos he] at h ⊢
    have := (uL_bd most 10 0 0 ((natsOf s).drop p)).2.2 h
    unfold uRead
    rw [this]
    exact ⟨rfl, rfl⟩
  · rw [if_neg he]
    exact ⟨rfl, rfl⟩
/-- A text is taken: the text, the place, the error. -/
def rT (s : ByteArray) (p : Nat) (e most : Int) : ByteArray × Nat × Int :=
  if most < 0 then (⟨#[]⟩, p, fe e 1) else
  let u := rU s p e most.toNat
  let t := tk s u.2.1 u.2.2 u.1
  if t.2.1 = true then (t.1, t.2.2.1, t.2.2.2) else (⟨#[]⟩, p, t.2.2.2)
theorem RLeft_calls {w : World} {g : Nat} {s : ByteArray} {p : Nat} {e : Int} (h : RS w g s p e) (hp : p ≤ s.size) (hs : s.size ≤ 140737488351232) : Calls Try.prog 26 #[.pointer (some ⟨g, 0, none⟩)] w fun r w' => r = .returned (.int .i64 ((s.size : Int) - p)) ∧ ∃ m, w' = w.drewN m := by
  obtain ⟨h0, h1, h2, f1, f2⟩ := h.cells
  clear h
  go_enter Try.func26, Try.ntmps26
  go_wp2_with fail
  go_quiet (fail)
  go_wp2_with fail
  go_ret
  exact ⟨rfl, _, rfl⟩
end Go.Proofs.Ytikfdfagnalmbaa.My
