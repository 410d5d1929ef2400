/- The document's Encode tells the same bytes. The reference's Reader in memory: Raw, Byte, Fixed where the bytes are there. The reference's Decode. The reference's Decode, as the printed text wants them. -/
import Derived.Test.YtgboppgghidgbaaFrSpAll
import Derived.Test.YtgboppgghidgbaaPGx3
import Derived.Test.YtgboppgghidgbaaRdR
namespace Go.Proofs.Ytgboppgghidgbaa.My
open Go.RowKit Go.Proofs.YtgboppgghidgbaaW.PrintWords Go.Proofs.YtgboppgghidgbaaW.PrintLast Go.Proofs.YtgboppgghidgbaaW.PrintMore Go.Proofs.Ytgboppgghidgbaa Go.Proofs.Ytgboppgghidgbaa.PG
set_option linter.unusedSimpArgs false
set_option linter.unusedVariables false
set_option maxRecDepth 100000
theorem strOf_append (l m : List Int) : strOfNums (l ++ m) = strOfNums l ++ strOfNums m := by
  apply ByteArray.ext
  rw [ByteArray.data_append]
  unfold strOfNums
  simp
theorem strOf_bytes (s : ByteArray) : strOfNums (bytesOf s) = s := by
  apply natsOf_inj
  rw [natsOf_str _ (bytesOf_bounds s), bytesOf_nats]
theorem fixed_l0 : ∀ (m v k : Nat) (tail : List Int), v < 18446744073709551616 → m + tail.length ≤ 100 → m + 1 ≤ k → concordref01_Fixed.l0 k (v : Int) (List.replicate m 0 ++ tail) ((m : Int) - 1) = some (strOfNums (be m v ++ tail))
  | 0, v, k, tail, hv, hl, hk => by
    obtain ⟨k, rfl⟩ : ∃ j, k = j + 1 := ⟨k - 1, by omega⟩
    rw [concordref01_Fixed.l0, if_neg (by omega)]
    rfl
  | m + 1, v, k, tail, hv, hl, hk => by
    obtain ⟨k, rfl⟩ : ∃ j, k = j + 1 := ⟨k - 1, by omega⟩
    have e1 : IntKind.u64.wrap (Int.tdiv (v : Int) 256) = ((v / 256 : Nat) : Int) := by
      rw [IntKind.wrap_u64, Int.tdiv_eq_ediv_of_nonneg (by omega)]; omega
    have e2 : Int.tmod (v : Int) 256 % 256 = ((v % 256 : Nat) : Int) := by
      rw [Int.tmod_eq_emod_of_nonneg (by omega)]; omega
    have e3 : wrap64 ((((m + 1 : Nat) : Int) - 1) - 1) = (m : Int) - 1 := by unfold wrap64; omega
    have e4 : ((((m + 1 : Nat) : Int) - 1) : Int).toNat = m := by omega
    have e5 : (List.replicate (m + 1) (0 : Int) ++ tail).set m ((v % 256 : Nat) : Int) = List.replicate m 0 ++ ((v % 256 : Nat) : Int) :: tail := by
      rw [List.replicate_succ', List.append_assoc, List.set_append_right _ _ (by simp)]
      simp
    rw [concordref01_Fixed.l0, if_pos (by omega), if_pos (by omega), if_pos (by simp; omega), e1, e2, e3, e4, e5, fixed_l0 m (v / 256) k _ (by omega) (by simp; omega) (by omega), be_succ]
    simp
theorem fixed_f (n v k : Nat) (hv : v < 18446744073709551616) (hn : n ≤ 8) (hk : 10 ≤ k) : concordref01_Fixed.f k (v : Int) (n : Int) = some (strOfNums (be n v)) := by
  have hw : wrap64 ((n : Int) - 1) = (n : Int) - 1 := by unfold wrap64; omega
  have h := fixed_l0 n v k [] hv (by simp; omega) (by omega)
  rw [List.append_nil, List.append_nil] at h
  rw [concordref01_Fixed.f, if_pos (by omega), if_pos (by omega), hw, Int.toNat_natCast, h]
theorem refMay_f (a b c d e t g : Nat) (h : Bool) (s : ByteArray) : concordref21_May.f a b c d e t g h s = some (decide (May a b c d e g h s.size)) := by
  unfold concordref21_May.f
  cases h
  all_goals
    simp only [if_true, if_false, Bool.false_eq_true]
    repeat' split
    all_goals first | exact congrArg some (decide_eq_false (by rintro ⟨z1, z2, z3, z4, z5, z6, z7, z8⟩; simp only [if_true, if_false, Bool.false_eq_true] at z4; omega)).symm | exact congrArg some (decide_eq_decide.2 ⟨fun z => ⟨by omega, by omega, by omega, by simp only [if_true, if_false, Bool.false_eq_true]; omega, by omega, by omega, by omega, by omega⟩, fun z => by have := z.2.2.2.2.2.2.2; omega⟩)
theorem wr_u64 (n : Nat) (h : n < 18446744073709551616) : IntKind.u64.wrap (n : Int) = (n : Int) := by rw [IntKind.wrap_u64]; omega
theorem wr_len (n : Nat) (h : n ≤ 8158) : IntKind.u64.wrap (wrap64 ((n : Int) + 34)) = ((n + 34 : Nat) : Int) := by
  have e : wrap64 ((n : Int) + 34) = ((n + 34 : Nat) : Int) := by unfold wrap64; omega
  rw [e]; exact wr_u64 _ (by omega)
set_option maxHeartbeats 2000000 in
theorem refEnc_f (a b c d e t g k : Nat) (h : Bool) (s : ByteArray) (hk : 10 ≤ k) (ha : a < 256) (hb : b < 256) (hc : c < 256) (hd : d < 65536) (he : e < 4294967296) (ht : t < 18446744073709551616) (hg : g < 4294967296) : concordref21_Encode.f k a b c d e t g h s = some (encR a b c d e t g h s) := by
  rw [concordref21_Encode.f, refMay_f, Option.bind_some]
  unfold encR
  by_cases hM : May a b c d e g h s.size
  · rw [decide_eq_true hM, if_pos rfl, if_pos hM]
    have hs : s.size ≤ 8158 := hM.2.2.2.2.2.2.2
    have w1 := wr_len s.size hs
    have wd := wr_u64 d (by omega)
    have we := wr_u64 e (by omega)
    have wg := wr_u64 g (by omega)
    have wS : ∀ z : ByteArray, IntKind.u64.wrap ((Crc.sum (bytesN z) : Nat) : Int) = ((Crc.sum (bytesN z) : Nat) : Int) := fun z => wr_u64 _ (Nat.lt_trans (sum_lt z) (by decide))
    have F : ∀ (n v : Nat), v < 18446744073709551616 → n ≤ 8 → concordref01_Fixed.f k (v : Int) (n : Int) = some (strOfNums (be n v)) := fun n v hv hn => fixed_f n v k hv hn hk
    have F2 : ∀ v : Nat, v < 18446744073709551616 → concordref01_Fixed.f k (v : Int) 2 = some (strOfNums (be 2 v)) := fun v hv => F 2 v hv (by omega)
    have F4 : ∀ v : Nat, v < 18446744073709551616 → concordref01_Fixed.f k (v : Int) 4 = some (strOfNums (be 4 v)) := fun v hv => F 4 v hv (by omega)
    have F8 : ∀ v : Nat, v < 18446744073709551616 → concordref01_Fixed.f k (v : Int) 8 = some (strOfNums (be 8 v)) := fun v hv => F 8 v hv (by omega)
    have Z : ∀ n v, (strOfNums (be n v)).size = n := fun n v => by rw [str_size, be_len]
    have Z3 : (strOfNums [(a : Int), b, c]).size = 3 := by rw [str_size]; rfl
    have S : ∀ z : ByteArray, z.size ≤ 100000 → concordref01_Sum.f z = some ((Crc.sum (bytesN z) : Nat) : Int) := fun z hz => by
      rw [concordref01_Sum.f, sumF, if_pos (by omega)]
    have zm : (⟨#[157, 227]⟩ : ByteArray).size = 2 := rfl
    have z1 : (⟨#[1]⟩ : ByteArray).size = 1 := rfl
    have z0 : (⟨#[0]⟩ : ByteArray).size = 1 := rfl
    have hq : ∀ z : ByteArray, Crc.sum (bytesN z) < 18446744073709551616 := fun z => Nat.lt_trans (sum_lt z) (by decide)
    have hm : (⟨#[157, 227]⟩ : ByteArray) = strOfNums (bytesOf markS) := (strOf_bytes markS).symm
    have h1 : (⟨#[1]⟩ : ByteArray) = strOfNums [1] := rfl
    have h0 : (⟨#[0]⟩ : ByteArray) = strOfNums [0] := rfl
    have hhead : (⟨#[157, 227]⟩ : ByteArray) ++ strOfNums (be 2 (s.size + 34)) = strOfNums (headL s.size) := by
      rw [hm, ← strOf_append]; rfl
    have hsb := strOf_bytes s
    rw [w1, F2 _ (by omega), Option.bind_some, if_pos (by rw [Z]; omega), S _ (by rw [ByteArray.size_append, zm, Z]; omega), Option.bind_some, wS, F4 _ (hq _), Option.bind_some, if_pos (by rw [ByteArray.size_append, zm, Z, Z]; omega), Option.bind_some, if_pos (by simp only [ByteArray.size_append, zm, Z, Z3]; omega)]
    rw [wd, F2 _ (by omega), Option.bind_some, if_pos (by simp only [ByteArray.size_append, zm, Z, Z3]; omega)]
    rw [we, F4 _ (by omega), Option.bind_some, if_pos (by simp only [ByteArray.size_append, zm, Z, Z3]; omega)]
    rw [F8 _ (by omega), Option.bind_some, if_pos (by simp only [ByteArray.size_append, zm, Z, Z3]; omega)]
    rw [wg, F4 _ (by omega), Option.bind_some, if_pos (by simp only [ByteArray.size_append, zm, Z, Z3]; omega)]
    cases h
    · rw [if_neg (by decide), if_pos (by simp only [ByteArray.size_append, zm, Z, Z3]; omega), if_pos (by simp only [ByteArray.size_append, zm, Z, Z3, z0]; omega)]
      rw [S _ (by simp only [ByteArray.size_append, zm, Z, Z3, z0]; omega), Option.bind_some, wS, F4 _ (hq _), Option.bind_some, if_pos (by simp only [ByteArray.size_append, zm, Z, Z3, z0]; omega)]
      have hbody : ((((((((⟨#[157, 227]⟩ : ByteArray) ++ strOfNums (be 2 (s.size + 34))) ++ strOfNums (be 4 (Crc.sum (bytesN ((⟨#[157, 227]⟩ : ByteArray) ++ strOfNums (be 2 (s.size + 34))))))) ++ strOfNums [(a : Int), b, c]) ++ strOfNums (be 2 d)) ++ strOfNums (be 4 e)) ++ strOfNums (be 8 t)) ++ strOfNums (be 4 g)) ++ (⟨#[0]⟩ : ByteArray) ++ s = strOfNums (bodyL a b c d e t g false s) := by
        rw [hhead, h0]
        conv => lhs; rw [← hsb]
        simp only [← strOf_append]
        congr 1
        simp [bodyL, headS]
        rw [hsb]
      rw [hbody, ← strOf_append]
      rfl
    · rw [if_pos rfl, if_pos (by simp only [ByteArray.size_append, zm, Z, Z3]; omega), if_pos (by simp only [ByteArray.size_append, zm, Z, Z3, z1]; omega)]
      rw [S _ (by simp only [ByteArray.size_append, zm, Z, Z3, z1]; omega), Option.bind_some, wS, F4 _ (hq _), Option.bind_some, if_pos (by simp only [ByteArray.size_append, zm, Z, Z3, z1]; omega)]
      have hbody : ((((((((⟨#[157, 227]⟩ : ByteArray) ++ strOfNums (be 2 (s.size + 34))) ++ strOfNums (be 4 (Crc.sum (bytesN ((⟨#[157, 227]⟩ : ByteArray) ++ strOfNums (be 2 (s.size + 34))))))) ++ strOfNums [(a : Int), b, c]) ++ strOfNums (be 2 d)) ++ strOfNums (be 4 e)) ++ strOfNums (be 8 t)) ++ strOfNums (be 4 g)) ++ (⟨#[1]⟩ : ByteArray) ++ s = strOfNums (bodyL a b c d e t g true s) := by
        rw [hhead, h1]
        conv => lhs; rw [← hsb]
        simp only [← strOf_append]
        congr 1
        simp [bodyL, headS]
        rw [hsb]
      rw [hbody, ← strOf_append]
      rfl
  · rw [decide_eq_false hM, if_neg (by decide), if_neg hM]
end Go.Proofs.Ytgboppgghidgbaa.My
namespace Go.Proofs.Ytgboppgghidgbaa.My
open Go.RowKit Go.Proofs.YtgboppgghidgbaaW.PrintWords Go.Proofs.YtgboppgghidgbaaW.PrintLast Go.Proofs.Ytgboppgghidgbaa
set_option linter.unusedSimpArgs false
set_option linter.unusedVariables false
set_option maxRecDepth 100000
set_option maxHeartbeats 1600000
def RfS (w : World) (g : Nat) (s : ByteArray) (p : Nat) (e : Int) : Prop := w.heap[g]? = some (.cells #[.string s, .int .i64 p, .int .i64 e] 89 (0, 0))
theorem RfS.cells {w : World} {g : Nat} {s : ByteArray} {p : Nat} {e : Int} (h : RfS w g s p e) : w.cell? ⟨g, 0, none⟩ = some (.string s) ∧ w.cell? ⟨g, 1, none⟩ = some (.int .i64 p) ∧ w.cell? ⟨g, 2, none⟩ = some (.int .i64 e) ∧ w.frozen? ⟨g, 1, none⟩ = false ∧ w.frozen? ⟨g, 2, none⟩ = false :=
  ⟨(blk_cell h 0).trans rfl, (blk_cell h 1).trans rfl, (blk_cell h 2).trans rfl, blk_frozen h 1, blk_frozen h 2⟩
theorem rfRaw_ok {w : World} {g : Nat} {s : ByteArray} {p : Nat} (h : RfS w g s p 0) (n : Nat) (hp : p + n ≤ s.size) (hs : s.size ≤ 140737488351232) : Calls Try.prog 60 #[.pointer (some ⟨g, 0, none⟩), .int .i64 n] w fun r w' => r = .returned (.string (s.extract p (p + n))) ∧ RfS w' g s (p + n) 0 ∧ Alone w w' g := by
  obtain ⟨h0, h1, h2, f1, f2⟩ := h.cells
  have HR := Aside0.mk h
  clear h
  have hw : wrap64 ((p : Int) + n) = (p : Int) + n := by unfold wrap64; omega
  have hw2 : IntKind.i64.wrap ((p : Int) + n) = (p : Int) + n := by rw [i64_w]; exact hw
  have hsl : ∀ W : World, (Instr.slice 9 (.string s) (some (.int .i64 (p : Int))) (some (.int .i64 ((p : Int) + n))) none).run Try.prog W = .ok (.string (s.extract p (p + n))) W := by
    intro W
    rw [run_slice_string W 9 s .i64 .i64 (p : Int) ((p : Int) + n) Try.underlying9 (by omega) (by omega) (by omega)]
    rw [show ((p : Int) + n).toNat = p + n by omega, Int.toNat_natCast]
  go_enter Try.func60, Try.ntmps60
  go_wp2_with fail
  go_quiet (fail)
  go_wp2_with fail
  go_quiet (fail)
  go_wp2_with fail
  go_ret
  refine ⟨rfl, ?_, Alone_set w _ g 1 _⟩
  unfold RfS
  rw [show (((p + n : Nat) : Int)) = (p : Int) + n from by omega]
  exact blk_set (blk_drewN HR.out _) 1 (.int .i64 ((p : Int) + n))
theorem whole_calls (s : ByteArray) (w : World) (h8 : s.size ≤ 8) :
    Calls Try.prog 61 #[.string s] w fun e w' => e = .returned (.int .u64 ((hiN (natsOf s) : Nat) : Int)) ∧ w = w' := by
  go_enter Try.func61, Try.ntmps61
  go_wp2_with fail
  go_loop [3, 4] (fun v i => ∃ n : Nat, n ≤ s.size ∧ i = .int .i64 n ∧ v = .int .u64 ((hiN ((natsOf s).take n) : Nat) : Int)) (fun _ i => s.size - (intOf i).toNat)
  case atStart => exact ⟨0, by omega, rfl, rfl⟩
  case round =>
    obtain ⟨n, hn, rfl, rfl⟩ := hrel
    by_cases hlt : n < s.size
    · have hby : (s[n]).toNat < 256 := (s[n]).toNat_lt
      have hv := hiN_lt s n hn
      have hp : 256 ^ n ≤ 256 ^ 7 := Nat.pow_le_pow_right (by omega) (by omega)
      have e := Aside0.mk (hiN_snoc ((natsOf s).take n) (s[n]).toNat)
      rw [← natsOf_take s n hlt] at e
      obtain ⟨v, hv0⟩ : ∃ v, v = hiN ((natsOf s).take n) := ⟨_, rfl⟩
      rw [← hv0] at hv e ⊢
      have hvb : v < 72057594037927936 := Nat.lt_of_lt_of_le hv (by simpa using hp)
      clear hv0 hv hp
      have ho : Go.bits .or .u64 ((v : Int) * 256) (s[n].toNat : Int) = ((v * 256 + s[n].toNat : Nat) : Int) := by
        have h1 := u64_or_nat (v * 256) (s[n]).toNat (by omega) (by omega)
        rw [nat_join 8 (v * 256) _ (by omega) (by omega)] at h1
        rw [show ((v : Int) * 256) = ((v * 256 : Nat) : Int) from by omega]; exact h1
      go_wp2
      go_round
      case rel => exact ⟨n + 1, by omega, by go_num, by rw [e.out]; exact congrArg (Value.int .u64) (by omega)⟩
      case measure => simp [intOf]; omega
    · obtain rfl : n = s.size := by omega
      rw [List.take_of_length_le (by rw [natsOf_len]; omega)]
      go_wp2
      go_ret
      exact ⟨rfl, rfl⟩
theorem fN_ext (s : ByteArray) (p n : Nat) : hiN (natsOf (s.extract p (p + n))) = fN s p n := by
  unfold fN
  rw [natsOf_extract, Nat.add_sub_cancel_left]
theorem rfByte_f {w : World} {g : Nat} {s : ByteArray} {p : Nat} (h : RfS w g s p 0) (hp : p + 1 ≤ s.size) (hs : s.size ≤ 140737488351232) : Calls Try.prog 45 #[.pointer (some ⟨g, 0, none⟩)] w fun r w' => r = .returned (.int .u8 (fN s p 1 : Nat)) ∧ RfS w' g s (p + 1) 0 ∧ Alone w w' g := by
  have hx : (s.extract p (p + 1)).size ≤ 8 := by rw [ByteArray.size_extract]; omega
  have hl := fN_lt s p 1
  have hw : IntKind.u8.wrap ((fN s p 1 : Nat) : Int) = ((fN s p 1 : Nat) : Int) := by rw [IntKind.wrap_u8]; omega
  go_enter Try.func45, Try.ntmps45
  go_wp2_with fail
  refine (rfRaw_ok h 1 hp hs).mono ?_
  rintro e w1 ⟨rfl, h1, h2⟩
  go_wp2_with fail
  refine (whole_calls _ _ hx).mono ?_
  rintro e w2 ⟨rfl, rfl⟩
  rw [fN_ext]
  go_wp2_with fail
  go_ret
  exact ⟨rfl, h1, h2⟩
theorem rfFixed_f {w : World} {g : Nat} {s : ByteArray} {p n : Nat} (h : RfS w g s p 0) (hn1 : 1 ≤ n) (hn8 : n ≤ 8) (hp : p + n ≤ s.size) (hs : s.size ≤ 140737488351232) : Calls Try.prog 46 #[.pointer (some ⟨g, 0, none⟩), .int .i64 n] w fun r w' => r = .returned (.int .u64 (fN s p n : Nat)) ∧ RfS w' g s (p + n) 0 ∧ Alone w w' g := by
  have hx : (s.extract p (p + n)).size ≤ 8 := by rw [ByteArray.size_extract]; omega
  go_enter Try.func46, Try.ntmps46
  go_wp2_with fail
  refine (rfRaw_ok h n hp hs).mono ?_
  rintro e w1 ⟨rfl, h1, h2⟩
  go_wp2_with fail
  refine (whole_calls _ _ hx).mono ?_
  rintro e w2 ⟨rfl, rfl⟩
  rw [fN_ext]
  go_wp2_with fail
  go_ret
  exact ⟨rfl, h1, h2⟩
end Go.Proofs.Ytgboppgghidgbaa.My
namespace Go.Proofs.Ytgboppgghidgbaa.My
open Go.RowKit Go.Proofs.YtgboppgghidgbaaW.PrintWords Go.Proofs.YtgboppgghidgbaaW.PrintLast Go.Proofs.YtgboppgghidgbaaW.PrintMore Go.Proofs.Ytgboppgghidgbaa
set_option linter.unusedSimpArgs false
set_option linter.unusedVariables false
set_option maxRecDepth 100000
set_option maxHeartbeats 6400000
/-- What the reference's Decode answers. -/
def refV (a b c d e t g x : Nat) (bd : ByteArray) (te : Int) (tz s : ByteArray) : Value := if te = 0 ∧ tz = s then .tuple #[.agg #[.int .u8 a, .int .u8 b, .int .u8 c, .int .u16 d, .int .u32 e, .int .u64 t, .int .u32 g, .bool (x == 1), .string bd], .int .i64 0] else badV
theorem RfS.far {w : World} {g : Nat} {s : ByteArray} {p : Nat} {e : Int} (h : RfS w g s p e) {a : Addr} (ha : g ≠ a.block) (u : Value) : RfS (w.setCell a u) g s p e := blk_far h ha u
theorem refDec_walk (s : ByteArray) (w : World) (hs : s.size ≤ 140737488351232) (h34 : 34 ≤ s.size) (a b c d e t g x : Nat) (ha : fN s 8 1 = a) (hb : fN s 9 1 = b) (hc : fN s 10 1 = c) (hd : fN s 11 2 = d) (he : fN s 13 4 = e) (ht : fN s 17 8 = t) (hg : fN s 25 4 = g) (hx : fN s 29 1 = x) (bd : ByteArray) (hbd : s.extract 30 (s.size - 4) = bd) (te : Int) (tz : ByteArray) (hEnc : PG.concordref21_Encode.f 12 a b c d e t g (x == 1) bd = some (tz, te)) : Calls Try.prog 15 #[.string s] w fun r w' => r = .returned (refV a b c d e t g x bd te tz s) ∧ Below w.heap.size w w' := by
  have Ba : a < 256 ^ 1 := by rw [← ha]; exact fN_lt _ _ _
  have Bb : b < 256 ^ 1 := by rw [← hb]; exact fN_lt _ _ _
  have Bc : c < 256 ^ 1 := by rw [← hc]; exact fN_lt _ _ _
  have Bd : d < 256 ^ 2 := by rw [← hd]; exact fN_lt _ _ _
  have Be : e < 256 ^ 4 := by rw [← he]; exact fN_lt _ _ _
  have Bt : t < 256 ^ 8 := by rw [← ht]; exact fN_lt _ _ _
  have Bg : g < 256 ^ 4 := by rw [← hg]; exact fN_lt _ _ _
  have Bx : x < 256 ^ 1 := by rw [← hx]; exact fN_lt _ _ _
  have wd : IntKind.u16.wrap (d : Int) = d := by rw [IntKind.wrap_u16]; omega
  have we : IntKind.u32.wrap (e : Int) = e := by rw [IntKind.wrap_u32']; omega
  have wg : IntKind.u32.wrap (g : Int) = g := by rw [IntKind.wrap_u32']; omega
  have ha' := Aside0.mk ha
  have hb' := Aside0.mk hb
  have hc' := Aside0.mk hc
  have hd' := Aside0.mk hd
  have he' := Aside0.mk he
  have ht' := Aside0.mk ht
  have hg' := Aside0.mk hg
  have hx' := Aside0.mk hx
  have hbd' := Aside0.mk hbd
  have hEnc := Aside0.mk hEnc
  clear ha hb hc hd he ht hg hx hbd
  go_enter Try.func15, Try.ntmps15
  go_wp2_with fail
  have e1 : (w.alloc (.cells #[.int .u8 0, .int .u8 0, .int .u8 0, .int .u16 0, .int .u32 0, .int .u64 0, .int .u32 0, .bool false, .string ⟨#[]⟩] 28)).heap.size = w.heap.size + 1 := by show (w.heap.push _).size = _; rw [Array.size_push]
  have hR1 : RfS ((w.alloc (.cells #[.int .u8 0, .int .u8 0, .int .u8 0, .int .u16 0, .int .u32 0, .int .u64 0, .int .u32 0, .bool false, .string ⟨#[]⟩] 28)).alloc (.cells #[.string s, .int .i64 8, .int .i64 0] 89)) (w.heap.size + 1) s 8 0 := by unfold RfS; rw [← e1]; exact W_push _ _ _ _
  have hQ1 : ((w.alloc (.cells #[.int .u8 0, .int .u8 0, .int .u8 0, .int .u16 0, .int .u32 0, .int .u64 0, .int .u32 0, .bool false, .string ⟨#[]⟩] 28)).alloc (.cells #[.string s, .int .i64 8, .int .i64 0] 89)).heap[w.heap.size]? = some (.cells #[.int .u8 0, .int .u8 0, .int .u8 0, .int .u16 0, .int .u32 0, .int .u64 0, .int .u32 0, .bool false, .string ⟨#[]⟩] 28 (0, 0)) := blk_alloc (W_push w _ _ _) _
  have hB1 : Below w.heap.size w ((w.alloc (.cells #[.int .u8 0, .int .u8 0, .int .u8 0, .int .u16 0, .int .u32 0, .int .u64 0, .int .u32 0, .bool false, .string ⟨#[]⟩] 28)).alloc (.cells #[.string s, .int .i64 8, .int .i64 0] 89)) := ((Below.refl _ _).alloc (Nat.le_refl _) _).alloc (by rw [e1]; omega) _
  have hz1 : ((w.alloc (.cells #[.int .u8 0, .int .u8 0, .int .u8 0, .int .u16 0, .int .u32 0, .int .u64 0, .int .u32 0, .bool false, .string ⟨#[]⟩] 28)).alloc (.cells #[.string s, .int .i64 8, .int .i64 0] 89)).heap.size = w.heap.size + 2 := by show ((w.alloc _).heap.push _).size = _; rw [Array.size_push, e1]
  generalize ((w.alloc (.cells #[.int .u8 0, .int .u8 0, .int .u8 0, .int .u16 0, .int .u32 0, .int .u64 0, .int .u32 0, .bool false, .string ⟨#[]⟩] 28)).alloc (.cells #[.string s, .int .i64 8, .int .i64 0] 89)) = w1 at hR1 hQ1 hB1 hz1 ⊢
  clear e1
  refine (rfByte_f hR1 (by omega) (by omega)).mono ?_
  rintro e_ w2 ⟨rfl, hR2, ha2⟩
  have hQ2 := (ha2.2.2 w.heap.size (by omega)).trans hQ1
  have hz2 := ha2.2.1.trans hz1
  have hB2 := below_alone hB1 ha2 (by omega)
  clear ha2 hR1 hQ1 hB1 hz1
  rw [ha'.out]
  go_wp2_with fail
  refine (rfByte_f hR2 (by omega) (by omega)).mono ?_
  rintro e_ w3 ⟨rfl, hR3, ha3⟩
  have hQ3 := (ha3.2.2 w.heap.size (by omega)).trans hQ2
  have hz3 := ha3.2.1.trans hz2
  have hB3 := below_alone hB2 ha3 (by omega)
  clear ha3 hR2 hQ2 hB2 hz2
  rw [hb'.out]
  go_wp2_with fail
  have hR4 : RfS (w3.alloc (.cells #[.int .u8 a, .int .u8 b, .int .u8 0, .int .u16 0, .int .u32 0, .int .u64 0, .int .u32 0, .bool false, .string ⟨#[]⟩] 28)) (w.heap.size + 1) s 10 0 := blk_alloc hR3 _
  have hQ4 : (w3.alloc (.cells #[.int .u8 a, .int .u8 b, .int .u8 0, .int .u16 0, .int .u32 0, .int .u64 0, .int .u32 0, .bool false, .string ⟨#[]⟩] 28)).heap[w.heap.size]? = some (.cells #[.int .u8 0, .int .u8 0, .int .u8 0, .int .u16 0, .int .u32 0, .int .u64 0, .int .u32 0, .bool false, .string ⟨#[]⟩] 28 (0, 0)) := blk_alloc hQ3 _
  have hB4 : Below w.heap.size w (w3.alloc (.cells #[.int .u8 a, .int .u8 b, .int .u8 0, .int .u16 0, .int .u32 0, .int .u64 0, .int .u32 0, .bool false, .string ⟨#[]⟩] 28)) := hB3.alloc (below_size hB3) _
  have hF4 : (w3.alloc (.cells #[.int .u8 a, .int .u8 b, .int .u8 0, .int .u16 0, .int .u32 0, .int .u64 0, .int .u32 0, .bool false, .string ⟨#[]⟩] 28)).heap[w.heap.size + 2]? = some (.cells #[.int .u8 a, .int .u8 b, .int .u8 0, .int .u16 0, .int .u32 0, .int .u64 0, .int .u32 0, .bool false, .string ⟨#[]⟩] 28 (0, 0)) := by rw [← hz3]; exact W_push _ _ _ _
  generalize (w3.alloc (.cells #[.int .u8 a, .int .u8 b, .int .u8 0, .int .u16 0, .int .u32 0, .int .u64 0, .int .u32 0, .bool false, .string ⟨#[]⟩] 28)) = w4 at hR4 hQ4 hB4 hF4 ⊢
  clear hR3 hQ3 hB3 hz3
  refine (rfByte_f hR4 (by omega) (by omega)).mono ?_
  rintro e_ w5 ⟨rfl, hR5, ha5⟩
  have hQ5 := (ha5.2.2 w.heap.size (by omega)).trans hQ4
  have hF5 := (ha5.2.2 (w.heap.size + 2) (by omega)).trans hF4
  have hB5 := below_alone hB4 ha5 (by omega)
  clear ha5 hR4 hQ4 hB4 hF4
  rw [hc'.out]
  have fk2 : w5.cell? ⟨w.heap.size + 2, 2, none⟩ = some (.int .u8 0) := (blk_cell hF5 2).trans rfl
  have fz2 : w5.frozen? ⟨w.heap.size + 2, 2, none⟩ = false := blk_frozen hF5 2
  go_wp2_with fail
  clear fk2 fz2
  have hR6 := (RfS.far hR5 (a := ⟨w.heap.size + 2, 2, none⟩) (by show w.heap.size + 1 ≠ w.heap.size + 2; omega) (.int .u8 c))
  have hQ6 := (blk_far hQ5 (p := ⟨w.heap.size + 2, 2, none⟩) (by show w.heap.size ≠ w.heap.size + 2; omega) (.int .u8 c))
  have hF6 : (w5.setCell ⟨w.heap.size + 2, 2, none⟩ (.int .u8 c)).heap[w.heap.size + 2]? = some (.cells #[.int .u8 a, .int .u8 b, .int .u8 c, .int .u16 0, .int .u32 0, .int .u64 0, .int .u32 0, .bool false, .string ⟨#[]⟩] 28 (0, 0)) := (blk_set hF5 2 (.int .u8 c))
  have hB6 := (below_set (g := w.heap.size + 2) (j := 2) (v := .int .u8 c) hB5 (by omega))
  generalize (w5.setCell ⟨w.heap.size + 2, 2, none⟩ (.int .u8 c)) = w6 at hR6 hQ6 hF6 hB6 ⊢
  clear hR5 hQ5 hF5 hB5
  refine (rfFixed_f (n := 2) hR6 (by omega) (by omega) (by omega) (by omega)).mono ?_
  rintro e_ w7 ⟨rfl, hR7, ha7⟩
  have hQ7 := (ha7.2.2 w.heap.size (by omega)).trans hQ6
  have hF7 := (ha7.2.2 (w.heap.size + 2) (by omega)).trans hF6
  have hB7 := below_alone hB6 ha7 (by omega)
  clear ha7 hR6 hQ6 hB6 hF6
  rw [hd'.out]
  have fk3 : w7.cell? ⟨w.heap.size + 2, 3, none⟩ = some (.int .u16 0) := (blk_cell hF7 3).trans rfl
  have fz3 : w7.frozen? ⟨w.heap.size + 2, 3, none⟩ = false := blk_frozen hF7 3
  go_wp2_with fail
  clear fk3 fz3
  have hR8 := (RfS.far hR7 (a := ⟨w.heap.size + 2, 3, none⟩) (by show w.heap.size + 1 ≠ w.heap.size + 2; omega) (.int .u16 d))
  have hQ8 := (blk_far hQ7 (p := ⟨w.heap.size + 2, 3, none⟩) (by show w.heap.size ≠ w.heap.size + 2; omega) (.int .u16 d))
  have hF8 : (w7.setCell ⟨w.heap.size + 2, 3, none⟩ (.int .u16 d)).heap[w.heap.size + 2]? = some (.cells #[.int .u8 a, .int .u8 b, .int .u8 c, .int .u16 d, .int .u32 0, .int .u64 0, .int .u32 0, .bool false, .string ⟨#[]⟩] 28 (0, 0)) := (blk_set hF7 3 (.int .u16 d))
  have hB8 := (below_set (g := w.heap.size + 2) (j := 3) (v := .int .u16 d) hB7 (by omega))
  generalize (w7.setCell ⟨w.heap.size + 2, 3, none⟩ (.int .u16 d)) = w8 at hR8 hQ8 hF8 hB8 ⊢
  clear hR7 hQ7 hF7 hB7
  refine (rfFixed_f (n := 4) hR8 (by omega) (by omega) (by omega) (by omega)).mono ?_
  rintro e_ w9 ⟨rfl, hR9, ha9⟩
  have hQ9 := (ha9.2.2 w.heap.size (by omega)).trans hQ8
  have hF9 := (ha9.2.2 (w.heap.size + 2) (by omega)).trans hF8
  have hB9 := below_alone hB8 ha9 (by omega)
  clear ha9 hR8 hQ8 hB8 hF8
  rw [he'.out]
  have fk4 : w9.cell? ⟨w.heap.size + 2, 4, none⟩ = some (.int .u32 0) := (blk_cell hF9 4).trans rfl
  have fz4 : w9.frozen? ⟨w.heap.size + 2, 4, none⟩ = false := blk_frozen hF9 4
  go_wp2_with fail
  clear fk4 fz4
  have hR10 := (RfS.far hR9 (a := ⟨w.heap.size + 2, 4, none⟩) (by show w.heap.size + 1 ≠ w.heap.size + 2; omega) (.int .u32 e))
  have hQ10 := (blk_far hQ9 (p := ⟨w.heap.size + 2, 4, none⟩) (by show w.heap.size ≠ w.heap.size + 2; omega) (.int .u32 e))
  have hF10 : (w9.setCell ⟨w.heap.size + 2, 4, none⟩ (.int .u32 e)).heap[w.heap.size + 2]? = some (.cells #[.int .u8 a, .int .u8 b, .int .u8 c, .int .u16 d, .int .u32 e, .int .u64 0, .int .u32 0, .bool false, .string ⟨#[]⟩] 28 (0, 0)) := (blk_set hF9 4 (.int .u32 e))
  have hB10 := (below_set (g := w.heap.size + 2) (j := 4) (v := .int .u32 e) hB9 (by omega))
  generalize (w9.setCell ⟨w.heap.size + 2, 4, none⟩ (.int .u32 e)) = w10 at hR10 hQ10 hF10 hB10 ⊢
  clear hR9 hQ9 hF9 hB9
  refine (rfFixed_f (n := 8) hR10 (by omega) (by omega) (by omega) (by omega)).mono ?_
  rintro e_ w11 ⟨rfl, hR11, ha11⟩
  have hQ11 := (ha11.2.2 w.heap.size (by omega)).trans hQ10
  have hF11 := (ha11.2.2 (w.heap.size + 2) (by omega)).trans hF10
  have hB11 := below_alone hB10 ha11 (by omega)
  clear ha11 hR10 hQ10 hB10 hF10
  rw [ht'.out]
  have fk5 : w11.cell? ⟨w.heap.size + 2, 5, none⟩ = some (.int .u64 0) := (blk_cell hF11 5).trans rfl
  have fz5 : w11.frozen? ⟨w.heap.size + 2, 5, none⟩ = false := blk_frozen hF11 5
  go_wp2_with fail
  clear fk5 fz5
  have hR12 := (RfS.far hR11 (a := ⟨w.heap.size + 2, 5, none⟩) (by show w.heap.size + 1 ≠ w.heap.size + 2; omega) (.int .u64 t))
  have hQ12 := (blk_far hQ11 (p := ⟨w.heap.size + 2, 5, none⟩) (by show w.heap.size ≠ w.heap.size + 2; omega) (.int .u64 t))
  have hF12 : (w11.setCell ⟨w.heap.size + 2, 5, none⟩ (.int .u64 t)).heap[w.heap.size + 2]? = some (.cells #[.int .u8 a, .int .u8 b, .int .u8 c, .int .u16 d, .int .u32 e, .int .u64 t, .int .u32 0, .bool false, .string ⟨#[]⟩] 28 (0, 0)) := (blk_set hF11 5 (.int .u64 t))
  have hB12 := (below_set (g := w.heap.size + 2) (j := 5) (v := .int .u64 t) hB11 (by omega))
  generalize (w11.setCell ⟨w.heap.size + 2, 5, none⟩ (.int .u64 t)) = w12 at hR12 hQ12 hF12 hB12 ⊢
  clear hR11 hQ11 hF11 hB11
  refine (rfFixed_f (n := 4) hR12 (by omega) (by omega) (by omega) (by omega)).mono ?_
  rintro e_ w13 ⟨rfl, hR13, ha13⟩
  have hQ13 := (ha13.2.2 w.heap.size (by omega)).trans hQ12
  have hF13 := (ha13.2.2 (w.heap.size + 2) (by omega)).trans hF12
  have hB13 := below_alone hB12 ha13 (by omega)
  clear ha13 hR12 hQ12 hB12 hF12
  rw [hg'.out]
  have fk6 : w13.cell? ⟨w.heap.size + 2, 6, none⟩ = some (.int .u32 0) := (blk_cell hF13 6).trans rfl
  have fz6 : w13.frozen? ⟨w.heap.size + 2, 6, none⟩ = false := blk_frozen hF13 6
  go_wp2_with fail
  clear fk6 fz6
  have hR14 := (RfS.far hR13 (a := ⟨w.heap.size + 2, 6, none⟩) (by show w.heap.size + 1 ≠ w.heap.size + 2; omega) (.int .u32 g))
  have hQ14 := (blk_far hQ13 (p := ⟨w.heap.size + 2, 6, none⟩) (by show w.heap.size ≠ w.heap.size + 2; omega) (.int .u32 g))
  have hF14 : (w13.setCell ⟨w.heap.size + 2, 6, none⟩ (.int .u32 g)).heap[w.heap.size + 2]? = some (.cells #[.int .u8 a, .int .u8 b, .int .u8 c, .int .u16 d, .int .u32 e, .int .u64 t, .int .u32 g, .bool false, .string ⟨#[]⟩] 28 (0, 0)) := (blk_set hF13 6 (.int .u32 g))
  have hB14 := (below_set (g := w.heap.size + 2) (j := 6) (v := .int .u32 g) hB13 (by omega))
  generalize (w13.setCell ⟨w.heap.size + 2, 6, none⟩ (.int .u32 g)) = w14 at hR14 hQ14 hF14 hB14 ⊢
  clear hR13 hQ13 hF13 hB13
  refine (rfByte_f hR14 (by omega) (by omega)).mono ?_
  rintro e_ w15 ⟨rfl, hR15, ha15⟩
  have hQ15 := (ha15.2.2 w.heap.size (by omega)).trans hQ14
  have hF15 := (ha15.2.2 (w.heap.size + 2) (by omega)).trans hF14
  have hB15 := below_alone hB14 ha15 (by omega)
  clear ha15 hR14 hQ14 hB14 hF14
  rw [hx'.out]
  have hx1 : ((x : Int) == 1) = (x == 1) := by rw [Bool.eq_iff_iff, beq_iff_eq, beq_iff_eq]; omega
  have hsl : ∀ W : World, (Instr.slice 9 (.string s) (some (.int .i64 30)) (some (.int .i64 ((s.size : Int) - 4))) none).run Try.prog W = .ok (.string bd) W := by
    intro W
    rw [run_slice_string W 9 s .i64 .i64 30 ((s.size : Int) - 4) Try.underlying9 (by omega) (by omega) (by omega)]
    rw [show ((s.size : Int) - 4).toNat = s.size - 4 by omega, ← hbd'.out]; rfl
  have fk0 : w15.cell? ⟨w.heap.size + 2, 0, none⟩ = some (.int .u8 a) := (blk_cell hF15 0).trans rfl
  have fk1 : w15.cell? ⟨w.heap.size + 2, 1, none⟩ = some (.int .u8 b) := (blk_cell hF15 1).trans rfl
  have fk2 : w15.cell? ⟨w.heap.size + 2, 2, none⟩ = some (.int .u8 c) := (blk_cell hF15 2).trans rfl
  have fk3 : w15.cell? ⟨w.heap.size + 2, 3, none⟩ = some (.int .u16 d) := (blk_cell hF15 3).trans rfl
  have fk4 : w15.cell? ⟨w.heap.size + 2, 4, none⟩ = some (.int .u32 e) := (blk_cell hF15 4).trans rfl
  have fk5 : w15.cell? ⟨w.heap.size + 2, 5, none⟩ = some (.int .u64 t) := (blk_cell hF15 5).trans rfl
  have fk6 : w15.cell? ⟨w.heap.size + 2, 6, none⟩ = some (.int .u32 g) := (blk_cell hF15 6).trans rfl
  have fk7 : w15.cell? ⟨w.heap.size + 2, 7, none⟩ = some (.bool false) := (blk_cell hF15 7).trans rfl
  have fz7 : w15.frozen? ⟨w.heap.size + 2, 7, none⟩ = false := blk_frozen hF15 7
  have fk8 : w15.cell? ⟨w.heap.size + 2, 8, none⟩ = some (.string ⟨#[]⟩) := (blk_cell hF15 8).trans rfl
  have fz8 : w15.frozen? ⟨w.heap.size + 2, 8, none⟩ = false := blk_frozen hF15 8
  go_wp2_with fail
  clear fk7 fz7 fk8 fz8 fk0 fk1 fk2 fk3 fk4 fk5 fk6
  have hR16 := (RfS.far (RfS.far hR15 (a := ⟨w.heap.size + 2, 7, none⟩) (by show w.heap.size + 1 ≠ w.heap.size + 2; omega) (.bool (x == 1))) (a := ⟨w.heap.size + 2, 8, none⟩) (by show w.heap.size + 1 ≠ w.heap.size + 2; omega) (.string bd))
  have hQ16 := (blk_far (blk_far hQ15 (p := ⟨w.heap.size + 2, 7, none⟩) (by show w.heap.size ≠ w.heap.size + 2; omega) (.bool (x == 1))) (p := ⟨w.heap.size + 2, 8, none⟩) (by show w.heap.size ≠ w.heap.size + 2; omega) (.string bd))
  have hF16 : ((w15.setCell ⟨w.heap.size + 2, 7, none⟩ (.bool (x == 1))).setCell ⟨w.heap.size + 2, 8, none⟩ (.string bd)).heap[w.heap.size + 2]? = some (.cells #[.int .u8 a, .int .u8 b, .int .u8 c, .int .u16 d, .int .u32 e, .int .u64 t, .int .u32 g, .bool (x == 1), .string bd] 28 (0, 0)) := (blk_set (blk_set hF15 7 (.bool (x == 1))) 8 (.string bd))
  have hB16 := (below_set (g := w.heap.size + 2) (j := 8) (v := .string bd) (below_set (g := w.heap.size + 2) (j := 7) (v := .bool (x == 1)) hB15 (by omega)) (by omega))
  generalize ((w15.setCell ⟨w.heap.size + 2, 7, none⟩ (.bool (x == 1))).setCell ⟨w.heap.size + 2, 8, none⟩ (.string bd)) = w16 at hR16 hQ16 hF16 hB16 ⊢
  clear hR15 hQ15 hF15 hB15
  refine (PG.concordref21_Encode.calls 12 a b c d e t g (x == 1) bd _ _ _ hEnc.out).mono ?_
  rintro e_ wE ⟨rfl, hbE⟩
  have hQE := (hbE.block _ (blk_lt hQ16)).trans hQ16
  have hFE := (hbE.block _ (blk_lt hF16)).trans hF16
  have hBE := below_then hB16 (below_size hB16) hbE
  have qk0 : wE.cell? ⟨w.heap.size, 0, none⟩ = some (.int .u8 0) := (blk_cell hQE 0).trans rfl
  have qk1 : wE.cell? ⟨w.heap.size, 1, none⟩ = some (.int .u8 0) := (blk_cell hQE 1).trans rfl
  have qk2 : wE.cell? ⟨w.heap.size, 2, none⟩ = some (.int .u8 0) := (blk_cell hQE 2).trans rfl
  have qk3 : wE.cell? ⟨w.heap.size, 3, none⟩ = some (.int .u16 0) := (blk_cell hQE 3).trans rfl
  have qk4 : wE.cell? ⟨w.heap.size, 4, none⟩ = some (.int .u32 0) := (blk_cell hQE 4).trans rfl
  have qk5 : wE.cell? ⟨w.heap.size, 5, none⟩ = some (.int .u64 0) := (blk_cell hQE 5).trans rfl
  have qk6 : wE.cell? ⟨w.heap.size, 6, none⟩ = some (.int .u32 0) := (blk_cell hQE 6).trans rfl
  have qk7 : wE.cell? ⟨w.heap.size, 7, none⟩ = some (.bool false) := (blk_cell hQE 7).trans rfl
  have qk8 : wE.cell? ⟨w.heap.size, 8, none⟩ = some (.string ⟨#[]⟩) := (blk_cell hQE 8).trans rfl
  have qz0 : wE.frozen? ⟨w.heap.size, 0, none⟩ = false := blk_frozen hQE 0
  have qz1 : wE.frozen? ⟨w.heap.size, 1, none⟩ = false := blk_frozen hQE 1
  have qz2 : wE.frozen? ⟨w.heap.size, 2, none⟩ = false := blk_frozen hQE 2
  have qz3 : wE.frozen? ⟨w.heap.size, 3, none⟩ = false := blk_frozen hQE 3
  have qz4 : wE.frozen? ⟨w.heap.size, 4, none⟩ = false := blk_frozen hQE 4
  have qz5 : wE.frozen? ⟨w.heap.size, 5, none⟩ = false := blk_frozen hQE 5
  have qz6 : wE.frozen? ⟨w.heap.size, 6, none⟩ = false := blk_frozen hQE 6
  have qz7 : wE.frozen? ⟨w.heap.size, 7, none⟩ = false := blk_frozen hQE 7
  have qz8 : wE.frozen? ⟨w.heap.size, 8, none⟩ = false := blk_frozen hQE 8
  have fk0 : wE.cell? ⟨w.heap.size + 2, 0, none⟩ = some (.int .u8 a) := (blk_cell hFE 0).trans rfl
  have fk1 : wE.cell? ⟨w.heap.size + 2, 1, none⟩ = some (.int .u8 b) := (blk_cell hFE 1).trans rfl
  have fk2 : wE.cell? ⟨w.heap.size + 2, 2, none⟩ = some (.int .u8 c) := (blk_cell hFE 2).trans rfl
  have fk3 : wE.cell? ⟨w.heap.size + 2, 3, none⟩ = some (.int .u16 d) := (blk_cell hFE 3).trans rfl
  have fk4 : wE.cell? ⟨w.heap.size + 2, 4, none⟩ = some (.int .u32 e) := (blk_cell hFE 4).trans rfl
  have fk5 : wE.cell? ⟨w.heap.size + 2, 5, none⟩ = some (.int .u64 t) := (blk_cell hFE 5).trans rfl
  have fk6 : wE.cell? ⟨w.heap.size + 2, 6, none⟩ = some (.int .u32 g) := (blk_cell hFE 6).trans rfl
  have fk7 : wE.cell? ⟨w.heap.size + 2, 7, none⟩ = some (.bool (x == 1)) := (blk_cell hFE 7).trans rfl
  have fk8 : wE.cell? ⟨w.heap.size + 2, 8, none⟩ = some (.string bd) := (blk_cell hFE 8).trans rfl
  by_cases hE0 : te = 0 ∧ tz = s
  · have c1 : (te == 0) = true := by rw [hE0.1]; rfl
    have c2 : (tz.toList == s.toList) = true := by rw [hE0.2, beq_self_eq_true]
    go_wp2_with fail
    all_goals refine bodyPost_ret (v := .tuple #[.agg #[.int .u8 a, .int .u8 b, .int .u8 c, .int .u16 d, .int .u32 e, .int .u64 t, .int .u32 g, .bool (x == 1), .string bd], .int .i64 0]) (by simp [results, Try.results15, go_sem, qk0, qk1, qk2, qk3, qk4, qk5, qk6, qk7, qk8]) rfl ⟨congrArg Ending.returned (by unfold refV; rw [if_pos hE0]), ?_⟩
    all_goals repeat (first | (with_reducible exact hBE) | refine below_set ?_ (Nat.le_refl _))
  · by_cases hE1 : te = 0
    · have c1 : (te == 0) = true := by rw [hE1]; rfl
      have c2 : (tz.toList == s.toList) = false := beq_eq_false_iff_ne.mpr (fun hh => hE0 ⟨hE1, by rw [ByteArray.toList_eq, ByteArray.toList_eq] at hh; exact ByteArray.ext (Array.toList_inj.1 hh)⟩)
      go_wp2_with fail
      all_goals refine bodyPost_ret (v := .tuple #[.agg #[.int .u8 0, .int .u8 0, .int .u8 0, .int .u16 0, .int .u32 0, .int .u64 0, .int .u32 0, .bool false, .string ⟨#[]⟩], .int .i64 210]) (by simp [results, Try.results15, go_sem, qk0, qk1, qk2, qk3, qk4, qk5, qk6, qk7, qk8]) rfl ⟨congrArg Ending.returned (by unfold refV; rw [if_neg hE0]; rfl), ?_⟩
      all_goals repeat (first | (with_reducible exact hBE) | refine below_set ?_ (Nat.le_refl _))
    · have c1 : (te == 0) = false := beq_eq_false_iff_ne.mpr hE1
      go_wp2_with fail
      all_goals refine bodyPost_ret (v := .tuple #[.agg #[.int .u8 0, .int .u8 0, .int .u8 0, .int .u16 0, .int .u32 0, .int .u64 0, .int .u32 0, .bool false, .string ⟨#[]⟩], .int .i64 210]) (by simp [results, Try.results15, go_sem, qk0, qk1, qk2, qk3, qk4, qk5, qk6, qk7, qk8]) rfl ⟨congrArg Ending.returned (by unfold refV; rw [if_neg hE0]; rfl), ?_⟩
      all_goals repeat (first | (with_reducible exact hBE) | refine below_set ?_ (Nat.le_refl _))
end Go.Proofs.Ytgboppgghidgbaa.My
namespace Go.Proofs.Ytgboppgghidgbaa.My
open Go.RowKit Go.Proofs.YtgboppgghidgbaaW.PrintWords Go.Proofs.YtgboppgghidgbaaW.PrintLast Go.Proofs.YtgboppgghidgbaaW.PrintMore Go.Proofs.Ytgboppgghidgbaa
set_option linter.unusedSimpArgs false
set_option linter.unusedVariables false
set_option maxRecDepth 100000
set_option maxHeartbeats 800000
theorem refDec_short (s : ByteArray) (w : World) (h : s.size < 34) : Calls Try.prog 15 #[.string s] w fun r w' => r = .returned badV ∧ Below w.heap.size w w' := by
  unfold badV
  go_enter Try.func15, Try.ntmps15
  go_wp2_with fail
  refine bodyPost_ret (v := .tuple #[.agg #[.int .u8 0, .int .u8 0, .int .u8 0, .int .u16 0, .int .u32 0, .int .u64 0, .int .u32 0, .bool false, .string ⟨#[]⟩], .int .i64 210]) (by simp [results, Try.results15, go_sem]) rfl ⟨rfl, ?_⟩
  repeat (first | (with_reducible exact Below.refl _ _) | (with_reducible apply below_alloc) | (with_reducible refine below_set ?_ (Nat.le_refl _)))
/-- The bytes are a frame's just if its fields tell them. -/
theorem decOk_iff (s : ByteArray) (h34 : 34 ≤ s.size) (tz : ByteArray) (te : Int) (hE : encR (fN s 8 1) (fN s 9 1) (fN s 10 1) (fN s 11 2) (fN s 13 4) (fN s 17 8) (fN s 25 4) (fN s 29 1 == 1) (s.extract 30 (s.size - 4)) = (tz, te)) : (te = 0 ∧ tz = s) ↔ DecOk s := by
  have ha := fN_lt s 8 1
  have hb := fN_lt s 9 1
  have hc := fN_lt s 10 1
  have hd := fN_lt s 11 2
  have he := fN_lt s 13 4
  have ht := fN_lt s 17 8
  have hg := fN_lt s 25 4
  unfold encR at hE
  by_cases hM : May (fN s 8 1) (fN s 9 1) (fN s 10 1) (fN s 11 2) (fN s 13 4) (fN s 25 4) (fN s 29 1 == 1) (s.extract 30 (s.size - 4)).size
  · rw [if_pos hM] at hE
    obtain ⟨rfl, rfl⟩ := Prod.mk.inj hE
    constructor
    · rintro ⟨_, hs⟩
      have hn := encF_nats (fN s 8 1) (fN s 9 1) (fN s 10 1) (fN s 11 2) (fN s 13 4) (fN s 17 8) (fN s 25 4) (fN s 29 1 == 1) (s.extract 30 (s.size - 4)) (by omega) (by omega) (by omega)
      rw [hs] at hn
      obtain ⟨_, hk, _, _, _, _, _, _, _, f8, _, f10⟩ := fields s _ _ _ _ _ _ _ _ _ hn (by omega) (by omega) (by omega) (by omega) (by omega) (by omega) (by omega) hM.2.2.2.2.2.2.2
      exact ⟨hk, by rw [f8]; split <;> omega, f10, hM⟩
    · intro hd2
      refine ⟨rfl, ?_⟩
      apply natsOf_inj
      rw [encF_nats _ _ _ _ _ _ _ _ _ (by omega) (by omega) (by omega), ← refields s hd2.1 hd2.2.1 hd2.2.2.1]
  · rw [if_neg hM] at hE
    obtain ⟨rfl, rfl⟩ := Prod.mk.inj hE
    exact ⟨fun h => by omega, fun h => absurd h.2.2.2 hM⟩
def concordref21_Decode.f (a0 : ByteArray) : Option (Int × Int × Int × Int × Int × Int × Int × Bool × ByteArray × Int) := if a0.size ≤ 140737488351232 then some (decT a0) else none
theorem concordref21_Decode.calls (a0 : ByteArray) (r1 r2 r3 r4 r5 r6 r7 : Int) (r8 : Bool) (r9 : ByteArray) (r10 : Int) (w : World) (h : concordref21_Decode.f a0 = some (r1, r2, r3, r4, r5, r6, r7, r8, r9, r10)) :
    Calls Try.prog 15 #[.string a0] w fun e w' => e = .returned (.tuple #[.agg #[.int .u8 r1, .int .u8 r2, .int .u8 r3, .int .u16 r4, .int .u32 r5, .int .u64 r6, .int .u32 r7, .bool r8, .string r9], .int .i64 r10]) ∧ Below w.heap.size w w' := by
  unfold concordref21_Decode.f at h
  by_cases hs : a0.size ≤ 140737488351232
  · rw [if_pos hs] at h
    have h' := Option.some.inj h
    by_cases h34 : a0.size < 34
    · refine (refDec_short a0 w h34).mono ?_
      rintro e w' ⟨rfl, hb⟩
      refine ⟨congrArg Ending.returned ?_, hb⟩
      have hd : ¬ DecOk a0 := fun z => by have := z.1.1.1; omega
      unfold decT at h'
      rw [if_neg hd] at h'
      simp only [Prod.mk.injEq] at h'
      obtain ⟨rfl, rfl, rfl, rfl, rfl, rfl, rfl, rfl, rfl, rfl⟩ := h'
      rfl
    · have ha := fN_lt a0 8 1
      have hb := fN_lt a0 9 1
      have hc := fN_lt a0 10 1
      have hd := fN_lt a0 11 2
      have he := fN_lt a0 13 4
      have ht := fN_lt a0 17 8
      have hg := fN_lt a0 25 4
      obtain ⟨tz, te, hE⟩ : ∃ tz te, encR (fN a0 8 1) (fN a0 9 1) (fN a0 10 1) (fN a0 11 2) (fN a0 13 4) (fN a0 17 8) (fN a0 25 4) (fN a0 29 1 == 1) (a0.extract 30 (a0.size - 4)) = (tz, te) := ⟨_, _, rfl⟩
      have hiff := decOk_iff a0 (by omega) tz te hE
      have hR := refEnc_f (fN a0 8 1) (fN a0 9 1) (fN a0 10 1) (fN a0 11 2) (fN a0 13 4) (fN a0 17 8) (fN a0 25 4) 12 (fN a0 29 1 == 1) (a0.extract 30 (a0.size - 4)) (by omega) (by omega) (by omega) (by omega) (by omega) (by omega) (by omega) (by omega)
      rw [hE] at hR
      refine (refDec_walk a0 w hs (by omega) _ _ _ _ _ _ _ _ rfl rfl rfl rfl rfl rfl rfl rfl _ rfl te tz hR).mono ?_
      rintro e w' ⟨rfl, hbl⟩
      refine ⟨congrArg Ending.returned ?_, hbl⟩
      unfold refV
      unfold decT at h'
      by_cases hok : DecOk a0
      · rw [if_pos hok] at h'
        rw [if_pos (hiff.2 hok)]
        simp only [Prod.mk.injEq] at h'
        obtain ⟨rfl, rfl, rfl, rfl, rfl, rfl, rfl, rfl, rfl, rfl⟩ := h'
        rfl
      · rw [if_neg hok] at h'
        rw [if_neg (fun z => hok (hiff.1 z))]
        simp only [Prod.mk.injEq] at h'
        obtain ⟨rfl, rfl, rfl, rfl, rfl, rfl, rfl, rfl, rfl, rfl⟩ := h'
        rfl
  · rw [if_neg hs] at h; cases h
end Go.Proofs.Ytgboppgghidgbaa.My
