/- The document's Reader takes what the program's takes. No program in sight but the printed functions. -/
import Derived.Test.YtikfdfagnalmbaaPWireReadsx1
import Derived.Test.YtikfdfagnalmbaaPWireReadsx2
import Derived.Test.YtikfdfagnalmbaaPWireReadsx3
import Derived.Test.YtikfdfagnalmbaaItAll
namespace Go.Proofs.Ytikfdfagnalmbaa.My
open Go.RowKit Go.Proofs.YtikfdfagnalmbaaW.PrintWords Go.Proofs.YtikfdfagnalmbaaW.PrintLast Go.Proofs.YtikfdfagnalmbaaW.PrintMore Go.Proofs.Ytikfdfagnalmbaa Go.Proofs.Ytikfdfagnalmbaa.PWireReads
set_option linter.unusedSimpArgs false
set_option linter.unusedVariables false
set_option maxRecDepth 100000
set_option maxHeartbeats 1600000
theorem rfail_f (s : ByteArray) (p e n : Int) : concordref01_Reader_fail.f s p e n = some (s, p, fe e n) := by
  unfold concordref01_Reader_fail.f fe
  split <;> rfl
/-- Raw, also of less than nothing. -/
def tk' (s : ByteArray) (p : Nat) (e n : Int) : ByteArray × Bool × Nat × Int := if n < 0 then (⟨#[]⟩, false, p, fe e 1) else tk s p e n
theorem rraw_f (s : ByteArray) (p : Nat) (e n : Int) (hp : p ≤ s.size) (hs : s.size ≤ 140737488351232) (hn : n < 9223372036854775808) (k : Nat) (hk : 1 ≤ k) : concordref01_Reader_Raw.f k s p e n = some ((tk' s p e n).1, s, ((tk' s p e n).2.2.1 : Int), (tk' s p e n).2.2.2) := by
  obtain ⟨k, rfl⟩ : ∃ j, k = j + 1 := ⟨k - 1, by omega⟩
  have hw : wrap64 ((s.size : Int) - p) = (s.size : Int) - p := by unfold wrap64; omega
  unfold concordref01_Reader_Raw.f tk'
  by_cases hneg : n < 0
  · rw [if_pos hneg, if_pos hneg, rfail_f, Option.bind_some]
    dsimp only
    rw [concordref01_Reader_Raw.j0, hw, if_neg (by omega), if_neg (fe_one e)]
  · obtain ⟨m, rfl⟩ := Int.eq_ofNat_of_zero_le (show 0 ≤ n by omega)
    rw [if_neg hneg, if_neg hneg, concordref01_Reader_Raw.j0, hw, rfail_f]
    have hfe : fe e 10 ≠ 0 := by unfold fe; split <;> omega
    by_cases hl : (m : Int) > (s.size : Int) - p
    · rw [if_pos hl, Option.bind_some]
      dsimp only
      rw [if_neg hfe]
      by_cases he : e = 0
      · subst he; rw [tk_short m (by omega)]; rfl
      · rw [tk_err m he]; unfold fe; rw [if_neg he]
    · rw [if_neg hl]
      by_cases he : e = 0
      · subst he
        have hw2 : wrap64 ((p : Int) + m) = ((p + m : Nat) : Int) := by unfold wrap64; omega
        rw [if_pos rfl, hw2, if_pos (by omega), if_pos (by omega), if_pos (by omega), tk_ok m (by omega)]
        simp only [Int.toNat_natCast]
      · rw [if_neg he, tk_err m he]
theorem whole_l0 (t : ByteArray) (h8 : t.size ≤ 8) : ∀ (m i k : Nat), i + m = t.size → m + 1 ≤ k → concordref01_whole.l0 k t ((hiN ((natsOf t).take i) : Nat) : Int) (i : Int) = some ((hiN (natsOf t) : Nat) : Int)
  | 0, i, k, hi, hk => by
    obtain ⟨k, rfl⟩ : ∃ j, k = j + 1 := ⟨k - 1, by omega⟩
    rw [concordref01_whole.l0, if_neg (by omega), List.take_of_length_le (by rw [natsOf_len]; omega)]
  | m + 1, i, k, hi, hk => by
    obtain ⟨k, rfl⟩ : ∃ j, k = j + 1 := ⟨k - 1, by omega⟩
    have hlt : i < t.size := by omega
    have h1 := hiN_lt t (i + 1) (by omega)
    have h2 : 256 ^ (i + 1) ≤ 256 ^ 8 := Nat.pow_le_pow_right (by omega) (by omega)
    have h3 : (256 : Nat) ^ 8 = 18446744073709551616 := by decide
    have hts := natsOf_take t i hlt
    rw [hts, hiN_snoc] at h1
    have hb : bt t (i : Int) = ((t[i]).toNat : Int) := by
      unfold bt
      rw [dif_pos (by rw [Int.toNat_natCast]; exact hlt)]
      simp
    have e1 : wrap64 ((i : Int) + 1) = ((i + 1 : Nat) : Int) := by unfold wrap64; omega
    have e2 : IntKind.u64.wrap (IntKind.u64.wrap (256 * ((hiN ((natsOf t).take i) : Nat) : Int)) + IntKind.u64.wrap ((t[i]).toNat : Int)) = ((hiN ((natsOf t).take (i + 1)) : Nat) : Int) := by
      rw [hts, hiN_snoc, IntKind.wrap_u64, IntKind.wrap_u64, IntKind.wrap_u64]
      have := (t[i]).toNat_lt
      omega
    rw [concordref01_whole.l0, if_pos (by omega), if_pos (by omega), hb, e1, e2]
    exact whole_l0 t h8 m (i + 1) k (by omega) (by omega)
theorem whole_f (t : ByteArray) (h8 : t.size ≤ 8) (k : Nat) (hk : 10 ≤ k) : concordref01_whole.f k t = some ((hiN (natsOf t) : Nat) : Int) := by
  have := whole_l0 t h8 t.size 0 k (by omega) (by omega)
  simpa [concordref01_whole.f, hiN] using this
theorem rbyte_f (s : ByteArray) (p : Nat) (e : Int) (hp : p ≤ s.size) (hs : s.size ≤ 140737488351232) (k : Nat) (hk : 10 ≤ k) : concordref01_Reader_Byte.f k s p e = some (((hiN (natsOf (tk s p e 1).1) : Nat) : Int) % 256, s, ((tk s p e 1).2.2.1 : Int), (tk s p e 1).2.2.2) := by
  have hx := tk_size s p e 1
  rw [concordref01_Reader_Byte.f, rraw_f s p e 1 hp hs (by omega) k (by omega), Option.bind_some]
  unfold tk'
  rw [if_neg (by omega)]
  dsimp only
  rw [whole_f _ (by omega) k hk]
  rfl
theorem rfixed_f (s : ByteArray) (p : Nat) (e n : Int) (hp : p ≤ s.size) (hs : s.size ≤ 140737488351232) (h1 : 1 ≤ n) (h8 : n ≤ 8) (k : Nat) (hk : 11 ≤ k) : concordref01_Reader_Fixed.f k s p e n = some (((hiN (natsOf (tk s p e n).1) : Nat) : Int), s, ((tk s p e n).2.2.1 : Int), (tk s p e n).2.2.2) := by
  obtain ⟨k, rfl⟩ : ∃ j, k = j + 1 := ⟨k - 1, by omega⟩
  have hx := tk_size s p e n
  rw [concordref01_Reader_Fixed.f, if_neg (by omega), decide_eq_false (by omega), concordref01_Reader_Fixed.j0, if_neg (by decide), rraw_f s p e n hp hs (by omega) k (by omega), Option.bind_some]
  unfold tk'
  rw [if_neg (by omega)]
  dsimp only
  rw [whole_f _ (by omega) k (by omega)]
  rfl
theorem rfixed_bad (s : ByteArray) (p : Nat) (e n : Int) (h : n < 1 ∨ 8 < n) (k : Nat) (hk : 1 ≤ k) : concordref01_Reader_Fixed.f k s p e n = some (0, s, (p : Int), fe e 1) := by
  obtain ⟨k, rfl⟩ : ∃ j, k = j + 1 := ⟨k - 1, by omega⟩
  rw [concordref01_Reader_Fixed.f]
  by_cases h1 : n < 1
  · rw [if_pos h1, concordref01_Reader_Fixed.j0, if_pos rfl, rfail_f]; rfl
  · rw [if_neg h1, decide_eq_true (by omega), concordref01_Reader_Fixed.j0, if_pos rfl, rfail_f]; rfl
theorem rsmall_f (s : ByteArray) (p : Nat) (e : Int) (hp : p ≤ s.size) (hs : s.size ≤ 140737488351232) (k : Nat) (hk : 10 ≤ k) : concordref01_Reader_Small.f k s p e = some (rSm (tk s p e 2), s, ((tk s p e 2).2.2.1 : Int), (tk s p e 2).2.2.2) := by
  have hx := tk_size s p e 2
  rw [concordref01_Reader_Small.f, rraw_f s p e 2 hp hs (by omega) k (by omega), Option.bind_some]
  unfold tk'
  rw [if_neg (by omega)]
  dsimp only
  rw [whole_f _ (by omega) k hk, Option.bind_some]
  have hsm : ∀ z : Int, 0 ≤ z → z < 65536 → (if wrap64 z ≥ 32768 then some (IntKind.i16.wrap (wrap64 (wrap64 z - 65536)), s, ((tk s p e 2).2.2.1 : Int), (tk s p e 2).2.2.2) else some (IntKind.i16.wrap (wrap64 z), s, ((tk s p e 2).2.2.1 : Int), (tk s p e 2).2.2.2)) = some (IntKind.i16.wrap z, s, ((tk s p e 2).2.2.1 : Int), (tk s p e 2).2.2.2) := by
    intro z h0 h1
    have e1 : wrap64 z = z := by unfold wrap64; omega
    have e2 : wrap64 (z - 65536) = z - 65536 := by unfold wrap64; omega
    rw [e1, e2]
    split
    · rw [i16_wrap, i16_wrap]; congr 2; omega
    · rfl
  have hb : ((hiN (natsOf (tk s p e 2).1) : Nat) : Int) < 65536 := by
    have h1 := hiN_lt (tk s p e 2).1 (tk s p e 2).1.size (Nat.le_refl _)
    rw [List.take_of_length_le (by rw [natsOf_len]; omega)] at h1
    have h2 : 256 ^ (tk s p e 2).1.size ≤ 256 ^ 2 := Nat.pow_le_pow_right (by omega) (by omega)
    have h3 : (256 : Nat) ^ 2 = 65536 := by decide
    omega
  rw [hsm _ (by omega) hb]
  congr 2
  unfold rSm
  by_cases he : e = 0
  · subst he
    by_cases hl : p + 2 ≤ s.size
    · rw [show tk s p 0 2 = _ from tk_ok 2 hl, if_pos rfl]
      have h0 : natsOf (s.extract p (p + 2)) = seg s p 2 := by rw [natsOf_extract, Nat.add_sub_cancel_left]; rfl
      have h1 := seg_be s p 2 hl
      have h2 := fN_lt s p 2
      have h3 : (256 : Nat) ^ 2 = 65536 := by decide
      have h4 : hiN (seg s p 2) = fN s p 2 := rfl
      rw [small_back _ (fN s p 2) (by rw [h0, h1, Nat.mod_eq_of_lt (by omega)])]
      dsimp only
      rw [h0, h4]
    · rw [show tk s p 0 2 = _ from tk_short 2 (by omega), if_neg (by simp)]; rfl
  · rw [tk_err 2 he, if_neg (by simp)]; rfl
/-- The bytes of a number to the base 128 that begin here. -/
def dgL : Nat → List Nat → List Nat
  | 0, _ => []
  | _ + 1, [] => []
  | k + 1, c :: t => if c < 128 then [c] else c :: dgL k t
theorem dgL_len : ∀ (k : Nat) (l : List Nat), (dgL k l).length ≤ k ∧ (dgL k l).length ≤ l.length
  | 0, l => by simp [dgL]
  | k + 1, [] => by simp [dgL]
  | k + 1, c :: t => by
    rw [dgL]
    split
    · simp
    · have := dgL_len k t
      simp only [List.length_cons]; omega
theorem dgL_pre : ∀ (k : Nat) (l : List Nat), ∃ R, l = dgL k l ++ R
  | 0, l => ⟨l, rfl⟩
  | k + 1, [] => ⟨[], rfl⟩
  | k + 1, c :: t => by
    rw [dgL]
    split
    · exact ⟨t, rfl⟩
    · obtain ⟨R, h⟩ := dgL_pre k t
      exact ⟨R, by rw [List.cons_append, ← h]⟩
theorem bt_nat (s : ByteArray) (i : Nat) (h : i < s.size) : bt s (i : Int) = (((natsOf s).getD i 0 : Nat) : Int) := by
  unfold bt
  rw [dif_pos (by rw [Int.toNat_natCast]; exact h)]
  have hl : i < (natsOf s).length := by rw [natsOf_len]; exact h
  rw [List.getD_eq_getElem?_getD, List.getElem?_eq_getElem hl]
  simp [natsOf, ByteArray.getElem_eq_getElem_data]
theorem digits_l0 (s : ByteArray) (p : Nat) (e : Int) (hp : p ≤ s.size) (hs : s.size ≤ 140737488351232) : ∀ (m i k : Nat), i + m = 10 → p + i ≤ s.size → 2 * m + 2 ≤ k → concordref01_Reader_digits.l0 k (i : Int) s (p : Int) e = some (s.extract p (p + (i + (dgL m ((natsOf s).drop (p + i))).length)), s, (p : Int), e)
  | m, i, k, hi, hpi, hk => by
    obtain ⟨k, rfl⟩ : ∃ j, k = j + 2 := ⟨k - 2, by omega⟩
    have e1 : wrap64 ((p : Int) + i) = ((p + i : Nat) : Int) := by unfold wrap64; omega
    rw [concordref01_Reader_digits.l0]
    by_cases hend : m = 0 ∨ s.size ≤ p + i
    · have hd : dgL m ((natsOf s).drop (p + i)) = [] := by
        rcases hend with rfl | h
        · rfl
        · rw [List.drop_eq_nil_of_le (by rw [natsOf_len]; omega)]
          cases m <;> rfl
      have hfin : concordref01_Reader_digits.j1 (k + 1) (i : Int) false s (p : Int) e = some (s.extract p (p + i), s, (p : Int), e) := by
        rw [concordref01_Reader_digits.j1, if_neg (by decide), if_pos (by omega), e1, if_pos (by omega), if_pos (by omega)]
        simp only [Int.toNat_natCast]
      rw [hd]
      show _ = some (s.extract p (p + i), _)
      by_cases h10 : (i : Int) < 10
      · rw [if_pos h10, e1, decide_eq_false (by omega), hfin]
      · rw [if_neg h10, hfin]
    · obtain ⟨m, rfl⟩ : ∃ j, m = j + 1 := ⟨m - 1, by omega⟩
      have hlt : p + i < s.size := by omega
      have e2 : wrap64 ((i : Int) + 1) = ((i + 1 : Nat) : Int) := by unfold wrap64; omega
      have e3 : wrap64 ((p : Int) + ((i + 1 : Nat) : Int)) = ((p + (i + 1) : Nat) : Int) := by unfold wrap64; omega
      have e4 : wrap64 (((p + (i + 1) : Nat) : Int) - 1) = ((p + i : Nat) : Int) := by unfold wrap64; omega
      rw [if_pos (by omega), e1, decide_eq_true (by omega), concordref01_Reader_digits.j1, if_pos rfl, e2, e3, e4, if_pos (by omega), if_pos (by omega), bt_nat s _ hlt, natsOf_drop s (p + i) hlt, dgL]
      have hg : (natsOf s).getD (p + i) 0 = (s[p + i]).toNat := by
        have := congrArg (fun l => l.getD 0 0) (natsOf_drop s (p + i) hlt)
        simpa [List.getD_eq_getElem?_getD] using this
      rw [hg]
      by_cases hc : (s[p + i]).toNat < 128
      · rw [if_pos (by omega), if_pos (by omega), if_pos (by omega), if_pos (by omega), if_pos hc]
        simp only [Int.toNat_natCast]
        rfl
      · rw [if_neg (by omega), if_neg hc, digits_l0 s p e hp hs m (i + 1) k (by omega) (by omega) (by omega)]
        rw [List.length_cons, show p + (i + 1) = p + i + 1 by omega, show i + 1 + (dgL m ((natsOf s).drop (p + i + 1))).length = i + ((dgL m ((natsOf s).drop (p + i + 1))).length + 1) by omega]
/-- The number that such bytes are. -/
def valL : List Nat → Nat
  | [] => 0
  | c :: t => c % 128 + 128 * valL t
theorem valL_lt : ∀ l : List Nat, valL l < 128 ^ l.length
  | [] => by simp [valL]
  | c :: t => by
    have := valL_lt t
    rw [valL, List.length_cons, Nat.pow_succ]
    omega
theorem uL_dg (most : Nat) : ∀ (k i a : Nat) (l : List Nat), i + (k + 1) = 10 → uL most (k + 1) i a l =
    if (dgL (k + 1) l).length < k + 1 ∧ (dgL (k + 1) l = [] ∨ 128 ≤ (dgL (k + 1) l).getLastD 0) then (10, 0, 0) else
    if ((dgL (k + 1) l).length = k + 1 ∧ 1 < (dgL (k + 1) l).getLastD 0) ∨ (1 < i + (dgL (k + 1) l).length ∧ (dgL (k + 1) l).getLastD 0 = 0) then (11, 0, 0) else
    if most < valL (dgL (k + 1) l) * 128 ^ i + a then (11, 0, 0) else (0, valL (dgL (k + 1) l) * 128 ^ i + a, i + (dgL (k + 1) l).length)
  | k, i, a, [], hi => by
    rw [uL, dgL, if_pos ⟨by simp, .inl rfl⟩]
  | k, i, a, c :: t, hi => by
    rw [uL, dgL]
    by_cases hc : c < 128
    · have hA : ¬ (1 < k + 1 ∧ ([c] = [] ∨ 128 ≤ c)) := by
        rintro ⟨_, h | h⟩
        · cases h
        · omega
      rw [if_pos hc]
      simp only [List.length_singleton, List.getLastD_cons, List.getLastD_nil, valL, Nat.mul_zero, Nat.add_zero, Nat.mod_eq_of_lt hc]
      rw [if_neg hA]
      by_cases h9 : i = 9 ∧ 1 < c
      · have hB : (1 = k + 1 ∧ 1 < c) ∨ (1 < i + 1 ∧ c = 0) := .inl ⟨by omega, h9.2⟩
        rw [if_pos h9, if_pos hB]
      · rw [if_neg h9, if_neg (show ¬ 128 ≤ c by omega)]
        by_cases hz : c = 0 ∧ 0 < i
        · have hB : (1 = k + 1 ∧ 1 < c) ∨ (1 < i + 1 ∧ c = 0) := .inr ⟨by omega, hz.1⟩
          rw [if_pos hB]
          rw [if_pos (by first | exact .inl hz | exact .inr hz | (left; exact hz) | (simp only [hz.1, hz.2]; simp))]
        · have hB : ¬ ((1 = k + 1 ∧ 1 < c) ∨ (1 < i + 1 ∧ c = 0)) := by omega
          rw [if_neg hB]
          have hac : a + c * 128 ^ i = c * 128 ^ i + a := Nat.add_comm ..
          rw [hac]
          by_cases hm : most < c * 128 ^ i + a
          · rw [if_pos hm, if_pos (by first | exact .inr hm | exact .inl hm)]
          · rw [if_neg hm, if_neg (by first | exact fun h => h.elim hz hm | omega)]
    · rw [if_neg hc]
      by_cases h9 : i = 9
      · obtain rfl : k = 0 := by omega
        rw [if_pos ⟨h9, by omega⟩]
        have hd : dgL 0 t = [] := by cases t <;> rfl
        rw [hd]
        simp only [List.length_singleton, List.getLastD_cons, List.getLastD_nil]
        have hA : ¬ (1 < 0 + 1 ∧ ([c] = [] ∨ 128 ≤ c)) := by rintro ⟨h, _⟩; omega
        rw [if_neg hA, if_pos (.inl ⟨trivial, by omega⟩)]
      · obtain ⟨k, rfl⟩ : ∃ j, k = j + 1 := ⟨k - 1, by omega⟩
        rw [if_neg (fun h => h9 h.1), if_pos (show 128 ≤ c by omega), uL_dg most k (i + 1) _ t (by omega)]
        generalize dgL (k + 1) t = D
        have hv : valL (c :: D) * 128 ^ i + a = valL D * 128 ^ (i + 1) + (a + c % 128 * 128 ^ i) := by
          rw [valL, Nat.pow_succ, Nat.add_mul, Nat.mul_comm 128 (valL D), Nat.mul_assoc, Nat.mul_comm 128]
          omega
        rw [hv]
        simp only [List.length_cons]
        cases D with
        | nil =>
          rw [if_pos ⟨by simp, .inl rfl⟩, if_pos ⟨by simp, .inr (by simp; omega)⟩]
        | cons d D =>
          simp only [List.getLastD_cons, List.length_cons]
          have e1 : (D.length + 1 < k + 1 ∧ (d :: D = [] ∨ 128 ≤ D.getLastD d)) = (D.length + 1 + 1 < k + 1 + 1 ∧ (c :: d :: D = [] ∨ 128 ≤ D.getLastD d)) := by
            apply propext
            constructor
            · rintro ⟨h1, h2 | h2⟩
              · cases h2
              · exact ⟨by omega, .inr h2⟩
            · rintro ⟨h1, h2 | h2⟩
              · cases h2
              · exact ⟨by omega, .inr h2⟩
          have e2 : ((D.length + 1 = k + 1 ∧ 1 < D.getLastD d) ∨ (1 < i + 1 + (D.length + 1) ∧ D.getLastD d = 0)) = ((D.length + 1 + 1 = k + 1 + 1 ∧ 1 < D.getLastD d) ∨ (1 < i + (D.length + 1 + 1) ∧ D.getLastD d = 0)) := by
            apply propext
            omega
          have e3 : i + 1 + (D.length + 1) = i + (D.length + 1 + 1) := by omega
          simp only [e1, e2]
          simp only [e3]
theorem getD_drop (l : List Nat) (m : Nat) (h : m < l.length) : l.drop m = l.getD m 0 :: l.drop (m + 1) := by
  rw [List.drop_eq_getElem_cons h, List.getD_eq_getElem?_getD, List.getElem?_eq_getElem h]; rfl
theorem number_l0 (d : ByteArray) (most : Nat) (hl : d.size ≤ 10) (hb : valL (natsOf d) < 18446744073709551616) : ∀ (m k : Nat), m ≤ d.size → m + 1 ≤ k → concordref01_number.l0 k d (most : Int) ((valL ((natsOf d).drop m) : Nat) : Int) ((m : Int) - 1) = some (if most < valL (natsOf d) then (0, 11) else (((valL (natsOf d) : Nat) : Int), 0))
  | 0, k, hm, hk => by
    obtain ⟨k, rfl⟩ : ∃ j, k = j + 1 := ⟨k - 1, by omega⟩
    rw [concordref01_number.l0, if_neg (by omega), List.drop_zero]
    split
    · rw [if_pos (by omega)]
    · rw [if_neg (by omega)]
  | m + 1, k, hm, hk => by
    obtain ⟨k, rfl⟩ : ∃ j, k = j + 1 := ⟨k - 1, by omega⟩
    have e1 : (((m + 1 : Nat) : Int) - 1) = (m : Int) := by omega
    have e2 : wrap64 ((m : Int) - 1) = (m : Int) - 1 := by unfold wrap64; omega
    have hd := getD_drop (natsOf d) m (by rw [natsOf_len]; omega)
    have hv := valL_lt ((natsOf d).drop (m + 1))
    have hle : 128 ^ ((natsOf d).drop (m + 1)).length ≤ 128 ^ 9 := Nat.pow_le_pow_right (by omega) (by rw [List.length_drop, natsOf_len]; omega)
    have hmono : valL ((natsOf d).drop m) ≤ valL (natsOf d) := by
      have h : ∀ (j : Nat) (l : List Nat), valL (l.drop j) ≤ valL l := by
        intro j
        induction j with
        | zero => intro l; simp
        | succ j ih =>
          intro l
          cases l with
          | nil => simp
          | cons c t => rw [List.drop_succ_cons, valL]; have := ih t; omega
      exact h m _
    have e9 : (128 : Nat) ^ 9 = 9223372036854775808 := by decide
    rw [e1, concordref01_number.l0, if_pos (by omega), if_pos (by omega), if_pos (by omega), e2, bt_nat d m (by omega)]
    have hc : (natsOf d).getD m 0 < 256 := natsOf_lt d _ (by
      rw [List.getD_eq_getElem?_getD, List.getElem?_eq_getElem (by rw [natsOf_len]; omega)]
      exact List.getElem_mem _)
    rw [hd, valL] at hmono
    have e3 : IntKind.u64.wrap (IntKind.u64.wrap (128 * ((valL ((natsOf d).drop (m + 1)) : Nat) : Int)) + IntKind.u64.wrap (Int.tmod (((natsOf d).getD m 0 : Nat) : Int) 128)) = ((valL ((natsOf d).drop m) : Nat) : Int) := by
      rw [hd, valL, IntKind.wrap_u64, IntKind.wrap_u64, IntKind.wrap_u64, Int.tmod_eq_emod_of_nonneg (by omega)]
      omega
    rw [e3]
    exact number_l0 d most hl hb m k (by omega) (by omega)
theorem getLastD_at : ∀ (l : List Nat), l ≠ [] → l.getD (l.length - 1) 0 = l.getLastD 0
  | [], h => absurd rfl h
  | [x], _ => rfl
  | x :: y :: t, _ => by
    have := getLastD_at (y :: t) (by simp)
    simpa using this
theorem valL_last : ∀ (l : List Nat), l ≠ [] → valL l < 128 ^ (l.length - 1) * (l.getLastD 0 % 128 + 1)
  | [], h => absurd rfl h
  | [x], _ => by simp [valL]
  | x :: y :: t, _ => by
    have h := valL_last (y :: t) (by simp)
    rw [valL]
    have e1 : (x :: y :: t).length - 1 = ((y :: t).length - 1) + 1 := by simp
    have e2 : (x :: y :: t).getLastD 0 = (y :: t).getLastD 0 := by simp
    rw [e1, e2, Nat.pow_succ]
    generalize 128 ^ ((y :: t).length - 1) = A at *
    generalize (y :: t).getLastD 0 % 128 + 1 = B at *
    rw [show A * 128 * B = 128 * (A * B) by rw [Nat.mul_comm A 128, Nat.mul_assoc]]
    omega
/-- What the digits say. -/
def dgR (most : Nat) (D : List Nat) : Int × Nat × Nat :=
    if D.length < 10 ∧ (D = [] ∨ 128 ≤ D.getLastD 0) then (10, 0, 0) else
    if (D.length = 10 ∧ 1 < D.getLastD 0) ∨ (1 < D.length ∧ D.getLastD 0 = 0) then (11, 0, 0) else
    if most < valL D then (11, 0, 0) else (0, valL D, D.length)
theorem number_f (d : ByteArray) (most : Nat) (hl : d.size ≤ 10) (k : Nat) (hk : 14 ≤ k) : concordref01_number.f k d (most : Int) = some (((dgR most (natsOf d)).2.1 : Int), (dgR most (natsOf d)).1) := by
  obtain ⟨k, rfl⟩ : ∃ j, k = j + 1 := ⟨k - 1, by omega⟩
  have hn : (natsOf d).length = d.size := natsOf_len d
  have hw : 0 < d.size → wrap64 ((d.size : Int) - 1) = ((d.size - 1 : Nat) : Int) := by intro h; unfold wrap64; omega
  have hlast : 0 < d.size → bt d ((d.size - 1 : Nat) : Int) = (((natsOf d).getLastD 0 : Nat) : Int) := by
    intro h
    rw [bt_nat d _ (by omega), ← getLastD_at (natsOf d) (by intro h0; rw [h0] at hn; simp at hn; omega), hn]
  have hval : ¬ (d.size = 10 ∧ 1 < (natsOf d).getLastD 0) → valL (natsOf d) < 18446744073709551616 := by
    intro h
    by_cases h0 : natsOf d = []
    · rw [h0]; decide
    · have h1 := valL_last (natsOf d) h0
      rw [hn] at h1
      by_cases h10 : d.size = 10
      · rw [h10] at h1
        have h2 : (natsOf d).getLastD 0 ≤ 1 := by omega
        have h3 : (128 : Nat) ^ (10 - 1) = 9223372036854775808 := by decide
        rw [h3] at h1
        omega
      · have h2 := valL_lt (natsOf d)
        have h3 : 128 ^ (natsOf d).length ≤ 128 ^ 9 := Nat.pow_le_pow_right (by omega) (by omega)
        have h4 : (128 : Nat) ^ 9 = 9223372036854775808 := by decide
        omega
  have hj1 : ∀ b : Bool, (b = false → valL (natsOf d) < 18446744073709551616) → 0 < d.size → concordref01_number.j1 k d (most : Int) (d.size : Int) b = some (if b = true then (0, 11) else if most < valL (natsOf d) then (0, 11) else (((valL (natsOf d) : Nat) : Int), 0)) := by
    intro b hb h0
    obtain ⟨k, rfl⟩ : ∃ j, k = j + 1 := ⟨k - 1, by omega⟩
    rw [concordref01_number.j1]
    cases b with
    | true => rw [if_pos rfl, if_pos rfl]
    | false =>
      have h := number_l0 d most hl (hb rfl) d.size k (Nat.le_refl _) (by omega)
      rw [List.drop_of_length_le (by omega)] at h
      rw [if_neg (by decide), if_neg (by decide), hw h0, show ((d.size - 1 : Nat) : Int) = (d.size : Int) - 1 by omega]
      exact h
  have hrest : ∀ b0 : Bool, b0 = false → ¬ (d.size < 10 ∧ (natsOf d = [] ∨ 128 ≤ (natsOf d).getLastD 0)) → 0 < d.size → concordref01_number.j0 (k + 1) d (most : Int) (d.size : Int) b0 = some (((dgR most (natsOf d)).2.1 : Int), (dgR most (natsOf d)).1) := by
    rintro _ rfl hA h0
    rw [concordref01_number.j0, if_neg (by decide)]
    unfold dgR
    rw [hn, if_neg hA]
    have htail : ¬ (d.size = 10 ∧ 1 < (natsOf d).getLastD 0) → (if (d.size : Int) > 1 then (if 0 ≤ (wrap64 ((d.size : Int) - 1)) then (if (wrap64 ((d.size : Int) - 1)) < (d.size : Int) then (concordref01_number.j1 k d (most : Int) (d.size : Int) ((bt d (wrap64 ((d.size : Int) - 1))) == 0)) else (none)) else (none)) else (concordref01_number.j1 k d (most : Int) (d.size : Int) false)) = some (((if (d.size = 10 ∧ 1 < (natsOf d).getLastD 0) ∨ (1 < d.size ∧ (natsOf d).getLastD 0 = 0) then ((11, 0, 0) : Int × Nat × Nat) else if most < valL (natsOf d) then (11, 0, 0) else (0, valL (natsOf d), d.size)).2.1 : Int), (if (d.size = 10 ∧ 1 < (natsOf d).getLastD 0) ∨ (1 < d.size ∧ (natsOf d).getLastD 0 = 0) then ((11, 0, 0) : Int × Nat × Nat) else if most < valL (natsOf d) then (11, 0, 0) else (0, valL (natsOf d), d.size)).1) := by
      intro hB
      by_cases h1 : 1 < d.size
      · rw [if_pos (by omega), hw h0, if_pos (by omega), if_pos (by omega), hlast h0, hj1 _ (fun _ => hval hB) h0]
        by_cases hz : (natsOf d).getLastD 0 = 0
        · rw [hz, if_pos (show (((0 : Nat) : Int) == 0) = true from rfl), if_pos (.inr ⟨h1, rfl⟩)]; rfl
        · have hz2 : ¬ (((((natsOf d).getLastD 0 : Nat) : Int) == 0) = true) := by simp only [beq_iff_eq]; omega
          rw [if_neg hz2, if_neg (show ¬ ((d.size = 10 ∧ 1 < (natsOf d).getLastD 0) ∨ (1 < d.size ∧ (natsOf d).getLastD 0 = 0)) from fun h => h.elim hB (fun h => hz h.2))]
          by_cases hm : most < valL (natsOf d)
          · rw [if_pos hm, if_pos hm]; rfl
          · rw [if_neg hm, if_neg hm]
      · rw [if_neg (by omega), hj1 _ (fun _ => hval hB) h0, if_neg (by decide), if_neg (show ¬ ((d.size = 10 ∧ 1 < (natsOf d).getLastD 0) ∨ (1 < d.size ∧ (natsOf d).getLastD 0 = 0)) from fun h => h.elim hB (fun h => h1 h.1))]
        by_cases hm : most < valL (natsOf d)
        · rw [if_pos hm, if_pos hm]; rfl
        · rw [if_neg hm, if_neg hm]
    by_cases h10 : d.size = 10
    · have h9 : bt d 9 = (((natsOf d).getLastD 0 : Nat) : Int) := by
        have := hlast h0
        rw [h10] at this
        exact this
      rw [if_pos (by omega), if_pos (by omega), h9]
      by_cases hgt : 1 < (natsOf d).getLastD 0
      · rw [if_pos (by omega), hj1 true (by intro h; cases h) h0, if_pos rfl, if_pos (.inl ⟨h10, hgt⟩)]; rfl
      · rw [if_neg (by omega)]
        exact htail (fun h => hgt h.2)
    · rw [if_neg (by omega)]
      exact htail (fun h => h10 h.1)
  rw [concordref01_number.f]
  by_cases h10 : d.size < 10
  · rw [if_pos (by omega)]
    by_cases h0 : d.size = 0
    · have hnil : natsOf d = [] := List.eq_nil_of_length_eq_zero (by omega)
      rw [if_pos (by omega), concordref01_number.j0, if_pos rfl, hnil]
      unfold dgR
      rw [if_pos ⟨by simp, .inl rfl⟩]; rfl
    · rw [if_neg (by omega), hw (by omega), if_pos (by omega), if_pos (by omega), hlast (by omega)]
      by_cases h128 : 128 ≤ (natsOf d).getLastD 0
      · rw [decide_eq_true (by omega), concordref01_number.j0, if_pos rfl]
        unfold dgR
        rw [if_pos ⟨by omega, .inr h128⟩]; rfl
      · rw [show decide ((((natsOf d).getLastD 0 : Nat) : Int) ≥ 128) = false from decide_eq_false (by omega)]
        exact hrest _ rfl (by
          rintro ⟨_, h | h⟩
          · rw [h] at hn; simp at hn; omega
          · omega) (by omega)
  · rw [if_neg (by omega)]
    exact hrest false rfl (fun h => h10 h.1) (by omega)
theorem dgD_of (s : ByteArray) (p : Nat) (hp : p ≤ s.size) : natsOf (s.extract p (p + (dgL 10 ((natsOf s).drop p)).length)) = dgL 10 ((natsOf s).drop p) ∧ (dgL 10 ((natsOf s).drop p)).length ≤ 10 ∧ p + (dgL 10 ((natsOf s).drop p)).length ≤ s.size := by
  have h1 := dgL_len 10 ((natsOf s).drop p)
  rw [List.length_drop, natsOf_len] at h1
  refine ⟨?_, h1.1, by omega⟩
  rw [natsOf_extract, Nat.add_sub_cancel_left]
  obtain ⟨R, h⟩ := dgL_pre 10 ((natsOf s).drop p)
  generalize dgL 10 ((natsOf s).drop p) = D at *
  rw [h, List.take_left]
theorem uRead_dg (s : ByteArray) (p most : Nat) : uRead s p most = dgR most (dgL 10 ((natsOf s).drop p)) := by
  unfold uRead dgR
  rw [uL_dg most 9 0 0 _ rfl]
  simp only [Nat.pow_zero, Nat.mul_one, Nat.add_zero, Nat.zero_add]
theorem rU_f (s : ByteArray) (p : Nat) (e : Int) (most : Nat) (hp : p ≤ s.size) (hs : s.size ≤ 140737488351232) (k : Nat) (hk : 24 ≤ k) : concordref01_Reader_Uint.f k s p e most = some (((rU s p e most).1 : Int), s, ((rU s p e most).2.1 : Int), (rU s p e most).2.2) := by
  unfold concordref01_Reader_Uint.f rU
  by_cases he : e = 0
  · subst he
    have hd : concordref01_Reader_digits.f k s p 0 = some (s.extract p (p + (dgL 10 ((natsOf s).drop p)).length), s, (p : Int), 0) := by
      have := digits_l0 s p 0 hp hs 10 0 k (by omega) (by omega) (by omega)
      rw [Nat.add_zero, Nat.zero_add] at this
      exact this
    obtain ⟨h1, h2, h3⟩ := dgD_of s p hp
    have hsz : (s.extract p (p + (dgL 10 ((natsOf s).drop p)).length)).size = (dgL 10 ((natsOf s).drop p)).length := by
      rw [← natsOf_len, h1]
    rw [if_pos rfl, if_pos rfl, hd, Option.bind_some]
    dsimp only
    rw [number_f _ most (by omega) k (by omega), h1, Option.bind_some, uRead_dg]
    dsimp only
    rw [hsz]
    unfold dgR
    split
    · rw [if_neg (by decide), rfail_f]; rfl
    · split
      · rw [if_neg (by decide), rfail_f]; rfl
      · split
        · rw [if_neg (by decide), rfail_f]; rfl
        · rw [if_pos rfl]
          have : wrap64 ((p : Int) + ((dgL 10 ((natsOf s).drop p)).length : Int)) = ((p + (dgL 10 ((natsOf s).drop p)).length : Nat) : Int) := by unfold wrap64; omega
          rw [this]
  · rw [if_neg he, if_neg he]; rfl
theorem zag_f (n : Nat) (h : n < 18446744073709551616) : concordref01_Zag.f n = some (zag n) := by
  have e1 : Int.tmod (n : Int) 2 = ((n % 2 : Nat) : Int) := by rw [Int.tmod_eq_emod_of_nonneg (by omega)]; omega
  have e2 : Int.tdiv (n : Int) 2 = ((n / 2 : Nat) : Int) := by rw [Int.tdiv_eq_ediv_of_nonneg (by omega)]; omega
  have e3 : IntKind.u64.wrap ((n / 2 : Nat) : Int) = ((n / 2 : Nat) : Int) := by rw [IntKind.wrap_u64]; omega
  have e4 : wrap64 ((n / 2 : Nat) : Int) = ((n / 2 : Nat) : Int) := by unfold wrap64; omega
  have e5 : wrap64 (-((n / 2 : Nat) : Int)) = -((n / 2 : Nat) : Int) := by unfold wrap64; omega
  have e6 : wrap64 (-((n / 2 : Nat) : Int) - 1) = -((n / 2 : Nat) : Int) - 1 := by unfold wrap64; omega
  unfold concordref01_Zag.f zag
  rw [e1, e2, e3, e4, e5, e6]
  by_cases h0 : n % 2 = 0
  · rw [if_pos (by omega), if_pos h0]
  · rw [if_neg (by omega), if_neg h0]
theorem rInt_f (s : ByteArray) (p : Nat) (e : Int) (hp : p ≤ s.size) (hs : s.size ≤ 140737488351232) (k : Nat) (hk : 24 ≤ k) : concordref01_Reader_Int.f k s p e = some (zag (rU s p e 18446744073709551615).1, s, ((rU s p e 18446744073709551615).2.1 : Int), (rU s p e 18446744073709551615).2.2) := by
  have h := rU_f s p e 18446744073709551615 hp hs k hk
  have hm := rU_most s p e 18446744073709551615
  unfold concordref01_Reader_Int.f
  rw [show (18446744073709551615 : Int) = ((18446744073709551615 : Nat) : Int) from rfl, h, Option.bind_some]
  dsimp only
  rw [zag_f _ (by omega)]
  rfl
theorem rText_f (s : ByteArray) (p : Nat) (e most : Int) (hp : p ≤ s.size) (hs : s.size ≤ 140737488351232) (hm : most < 9223372036854775808) (k : Nat) (hk : 26 ≤ k) : concordref01_Reader_Text.f k s p e most = some ((rT s p e most).1, s, ((rT s p e most).2.1 : Int), (rT s p e most).2.2) := by
  obtain ⟨k, rfl⟩ : ∃ j, k = j + 1 := ⟨k - 1, by omega⟩
  unfold concordref01_Reader_Text.f
  have hj : ∀ (e' : Int) (m : Nat), (m : Int) = mx most 0 → m < 9223372036854775808 → concordref01_Reader_Text.j0 (k + 1) most s p e' = some ((if (tk s (rU s p e' m).2.1 (rU s p e' m).2.2 (rU s p e' m).1).2.2.2 = 0 then ((tk s (rU s p e' m).2.1 (rU s p e' m).2.2 (rU s p e' m).1).1, s, ((tk s (rU s p e' m).2.1 (rU s p e' m).2.2 (rU s p e' m).1).2.2.1 : Int), (tk s (rU s p e' m).2.1 (rU s p e' m).2.2 (rU s p e' m).1).2.2.2) else ((⟨#[]⟩ : ByteArray), s, (p : Int), (tk s (rU s p e' m).2.1 (rU s p e' m).2.2 (rU s p e' m).1).2.2.2))) := by
    intro e' m hmx hmm
    have e1 : IntKind.u64.wrap (mx most 0) = (m : Int) := by rw [← hmx, IntKind.wrap_u64]; omega
    have hle := rU_le s p e' m hp
    have hmo := rU_most s p e' m
    rw [concordref01_Reader_Text.j0, e1, rU_f s p e' m hp hs k (by omega), Option.bind_some]
    dsimp only
    have e2 : wrap64 (((rU s p e' m).1 : Nat) : Int) = (((rU s p e' m).1 : Nat) : Int) := by unfold wrap64; omega
    rw [e2, rraw_f s _ _ _ hle hs (by omega) k (by omega), Option.bind_some]
    unfold tk'
    rw [if_neg (show ¬ (((rU s p e' m).1 : Nat) : Int) < 0 by omega)]
    dsimp only
    split <;> rfl
  unfold rT
  by_cases hneg : most < 0
  · have h2 : rU s p (fe e 1) 0 = (0, p, fe e 1) := by unfold rU; rw [if_neg (fe_one e)]
    rw [if_pos hneg, if_pos hneg, rfail_f, Option.bind_some]
    dsimp only
    rw [hj (fe e 1) 0 (by unfold mx; first | rw [if_neg (by omega)]; rfl | omega) (by omega), h2]
    dsimp only
    rw [tk_err _ (fe_one e), if_neg (fe_one e)]
  · obtain ⟨m, rfl⟩ := Int.eq_ofNat_of_zero_le (show 0 ≤ most by omega)
    rw [if_neg hneg, if_neg hneg, hj e m (by unfold mx; omega) (by omega)]
    simp only [Int.toNat_natCast]
    generalize rU s p e m = u
    unfold tk
    by_cases h0 : u.2.2 = 0
    · rw [if_pos h0]
      by_cases h1 : ((u.1 : Nat) : Int) ≤ (s.size : Int) - (u.2.1 : Nat)
      · rw [if_pos h1]; simp
      · rw [if_neg h1]; simp
    · rw [if_neg h0]; simp [h0]
end Go.Proofs.Ytikfdfagnalmbaa.My
