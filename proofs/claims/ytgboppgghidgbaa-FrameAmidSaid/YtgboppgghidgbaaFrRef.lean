/- The document's Encode tells the same bytes; the example is alive. -/
import Derived.Test.YtgboppgghidgbaaFrPlain2
import Derived.Test.YtgboppgghidgbaaPGx3
import Derived.Test.YtgboppgghidgbaaPGx6
namespace Go.Proofs.Ytgboppgghidgbaa.My
open Go.RowKit Go.Proofs.YtgboppgghidgbaaW.PrintWords Go.Proofs.YtgboppgghidgbaaW.PrintLast Go.Proofs.YtgboppgghidgbaaW.PrintMore Go.Proofs.Ytgboppgghidgbaa Go.Proofs.Ytgboppgghidgbaa.PG
set_option linter.unusedSimpArgs false
set_option linter.unusedVariables false
set_option maxRecDepth 100000
theorem dec_enc (a b c d e t g : Nat) (h : Bool) (bd : ByteArray) (ha : a < 256) (hb : b < 256) (hc : c < 256) (hd : d < 65536) (he : e < 4294967296) (ht : t < 18446744073709551616) (hg : g < 4294967296) (hM : May a b c d e g h bd.size) :
    decT (strOfNums (encF a b c d e t g h bd)) = ((a : Int), (b : Int), (c : Int), (d : Int), (e : Int), (t : Int), (g : Int), h, bd, 0) := by
  have hn := encF_nats a b c d e t g h bd ha hb hc
  generalize strOfNums (encF a b c d e t g h bd) = s at hn
  obtain ⟨hsz, hk, f1, f2, f3, f4, f5, f6, f7, f8, f9, f10⟩ := fields s a b c d e t g h bd hn ha hb hc hd he ht hg hM.2.2.2.2.2.2.2
  have hx : (fN s 29 1 == 1) = h := by rw [f8]; cases h <;> rfl
  have hx1 : fN s 29 1 ≤ 1 := by rw [f8]; split <;> omega
  have hok : DecOk s := ⟨hk, hx1, f10, by rw [hx, f1, f2, f3, f4, f5, f7, f9]; exact hM⟩
  unfold decT
  rw [if_pos hok, hx, f1, f2, f3, f4, f5, f6, f7, f9]
theorem strOf_append (l m : List Int) : strOfNums (l ++ m) = strOfNums l ++ strOfNums m := by
  apply ByteArray.ext
  rw [ByteArray.data_append]
  unfold strOfNums
  simp
theorem strOf_bytes (s : ByteArray) : strOfNums (bytesOf s) = s := by
  apply natsOf_inj
  rw [natsOf_str _ (bytesOf_bounds s), bytesOf_nats]
theorem fixed_l0 : ∀ (m v k : Nat) (tail : List Int), v < 18446744073709551616 → m + tail.length ≤ 100 → m + 1 ≤ k → concordref01_Fixed.l0 k (v : Int) (List.replicate m 0 ++ tail) ((m : Int) - 1) = some (strOfNums (be m v ++ tail))
  | 0, v, k, tail, hv, hl, hk => by
    obtain ⟨k, rfl⟩ : ∃ j, k = j + 1 := ⟨k - 1, by omega⟩
    rw [concordref01_Fixed.l0, if_neg (by omega)]
    rfl
  | m + 1, v, k, tail, hv, hl, hk => by
    obtain ⟨k, rfl⟩ : ∃ j, k = j + 1 := ⟨k - 1, by omega⟩
    have e1 : IntKind.u64.wrap (Int.tdiv (v : Int) 256) = ((v / 256 : Nat) : Int) := by
      rw [IntKind.wrap_u64, Int.tdiv_eq_ediv_of_nonneg (by omega)]; omega
    have e2 : Int.tmod (v : Int) 256 % 256 = ((v % 256 : Nat) : Int) := by
      rw [Int.tmod_eq_emod_of_nonneg (by omega)]; omega
    have e3 : wrap64 ((((m + 1 : Nat) : Int) - 1) - 1) = (m : Int) - 1 := by unfold wrap64; omega
    have e4 : ((((m + 1 : Nat) : Int) - 1) : Int).toNat = m := by omega
    have e5 : (List.replicate (m + 1) (0 : Int) ++ tail).set m ((v % 256 : Nat) : Int) = List.replicate m 0 ++ ((v % 256 : Nat) : Int) :: tail := by
      rw [List.replicate_succ', List.append_assoc, List.set_append_right _ _ (by simp)]
      simp
    rw [concordref01_Fixed.l0, if_pos (by omega), if_pos (by omega), if_pos (by simp; omega), e1, e2, e3, e4, e5, fixed_l0 m (v / 256) k _ (by omega) (by simp; omega) (by omega), be_succ]
    simp
theorem fixed_f (n v k : Nat) (hv : v < 18446744073709551616) (hn : n ≤ 8) (hk : 10 ≤ k) : concordref01_Fixed.f k (v : Int) (n : Int) = some (strOfNums (be n v)) := by
  have hw : wrap64 ((n : Int) - 1) = (n : Int) - 1 := by unfold wrap64; omega
  have h := fixed_l0 n v k [] hv (by simp; omega) (by omega)
  rw [List.append_nil, List.append_nil] at h
  rw [concordref01_Fixed.f, if_pos (by omega), if_pos (by omega), hw, Int.toNat_natCast, h]
theorem refMay_f (a b c d e t g : Nat) (h : Bool) (s : ByteArray) : concordref21_May.f a b c d e t g h s = some (decide (May a b c d e g h s.size)) := by
  unfold concordref21_May.f
  cases h
  all_goals
    simp only [if_true, if_false, Bool.false_eq_true]
    repeat' split
    all_goals first | exact congrArg some (decide_eq_false (by rintro ⟨z1, z2, z3, z4, z5, z6, z7, z8⟩; simp only [if_true, if_false, Bool.false_eq_true] at z4; omega)).symm | exact congrArg some (decide_eq_decide.2 ⟨fun z => ⟨by omega, by omega, by omega, by simp only [if_true, if_false, Bool.false_eq_true]; omega, by omega, by omega, by omega, by omega⟩, fun z => by have := z.2.2.2.2.2.2.2; omega⟩)
theorem wr_u64 (n : Nat) (h : n < 18446744073709551616) : IntKind.u64.wrap (n : Int) = (n : Int) := by rw [IntKind.wrap_u64]; omega
theorem wr_len (n : Nat) (h : n ≤ 8158) : IntKind.u64.wrap (wrap64 ((n : Int) + 34)) = ((n + 34 : Nat) : Int) := by
  have e : wrap64 ((n : Int) + 34) = ((n + 34 : Nat) : Int) := by unfold wrap64; omega
  rw [e]; exact wr_u64 _ (by omega)
set_option maxHeartbeats 2000000 in
theorem refEnc_f (a b c d e t g k : Nat) (h : Bool) (s : ByteArray) (hk : 10 ≤ k) (ha : a < 256) (hb : b < 256) (hc : c < 256) (hd : d < 65536) (he : e < 4294967296) (ht : t < 18446744073709551616) (hg : g < 4294967296) : concordref21_Encode.f k a b c d e t g h s = some (encR a b c d e t g h s) := by
  rw [concordref21_Encode.f, refMay_f, Option.bind_some]
  unfold encR
  by_cases hM : May a b c d e g h s.size
  · rw [decide_eq_true hM, if_pos rfl, if_pos hM]
    have hs : s.size ≤ 8158 := hM.2.2.2.2.2.2.2
    have w1 := wr_len s.size hs
    have wd := wr_u64 d (by omega)
    have we := wr_u64 e (by omega)
    have wg := wr_u64 g (by omega)
    have wS : ∀ z : ByteArray, IntKind.u64.wrap ((Crc.sum (bytesN z) : Nat) : Int) = ((Crc.sum (bytesN z) : Nat) : Int) := fun z => wr_u64 _ (Nat.lt_trans (sum_lt z) (by decide))
    have F : ∀ (n v : Nat), v < 18446744073709551616 → n ≤ 8 → concordref01_Fixed.f k (v : Int) (n : Int) = some (strOfNums (be n v)) := fun n v hv hn => fixed_f n v k hv hn hk
    have F2 : ∀ v : Nat, v < 18446744073709551616 → concordref01_Fixed.f k (v : Int) 2 = some (strOfNums (be 2 v)) := fun v hv => F 2 v hv (by omega)
    have F4 : ∀ v : Nat, v < 18446744073709551616 → concordref01_Fixed.f k (v : Int) 4 = some (strOfNums (be 4 v)) := fun v hv => F 4 v hv (by omega)
    have F8 : ∀ v : Nat, v < 18446744073709551616 → concordref01_Fixed.f k (v : Int) 8 = some (strOfNums (be 8 v)) := fun v hv => F 8 v hv (by omega)
    have Z : ∀ n v, (strOfNums (be n v)).size = n := fun n v => by rw [str_size, be_len]
    have Z3 : (strOfNums [(a : Int), b, c]).size = 3 := by rw [str_size]; rfl
    have S : ∀ z : ByteArray, z.size ≤ 100000 → concordref01_Sum.f z = some ((Crc.sum (bytesN z) : Nat) : Int) := fun z hz => by
      rw [concordref01_Sum.f, sumF, if_pos (by omega)]
    have zm : (⟨#[157, 227]⟩ : ByteArray).size = 2 := rfl
    have z1 : (⟨#[1]⟩ : ByteArray).size = 1 := rfl
    have z0 : (⟨#[0]⟩ : ByteArray).size = 1 := rfl
    have hq : ∀ z : ByteArray, Crc.sum (bytesN z) < 18446744073709551616 := fun z => Nat.lt_trans (sum_lt z) (by decide)
    have hm : (⟨#[157, 227]⟩ : ByteArray) = strOfNums (bytesOf markS) := (strOf_bytes markS).symm
    have h1 : (⟨#[1]⟩ : ByteArray) = strOfNums [1] := rfl
    have h0 : (⟨#[0]⟩ : ByteArray) = strOfNums [0] := rfl
    have hhead : (⟨#[157, 227]⟩ : ByteArray) ++ strOfNums (be 2 (s.size + 34)) = strOfNums (headL s.size) := by
      rw [hm, ← strOf_append]; rfl
    have hsb := strOf_bytes s
    rw [w1, F2 _ (by omega), Option.bind_some, if_pos (by rw [Z]; omega), S _ (by rw [ByteArray.size_append, zm, Z]; omega), Option.bind_some, wS, F4 _ (hq _), Option.bind_some, if_pos (by rw [ByteArray.size_append, zm, Z, Z]; omega), Option.bind_some, if_pos (by simp only [ByteArray.size_append, zm, Z, Z3]; omega)]
    rw [wd, F2 _ (by omega), Option.bind_some, if_pos (by simp only [ByteArray.size_append, zm, Z, Z3]; omega)]
    rw [we, F4 _ (by omega), Option.bind_some, if_pos (by simp only [ByteArray.size_append, zm, Z, Z3]; omega)]
    rw [F8 _ (by omega), Option.bind_some, if_pos (by simp only [ByteArray.size_append, zm, Z, Z3]; omega)]
    rw [wg, F4 _ (by omega), Option.bind_some, if_pos (by simp only [ByteArray.size_append, zm, Z, Z3]; omega)]
    cases h
    · rw [if_neg (by decide), if_pos (by simp only [ByteArray.size_append, zm, Z, Z3]; omega), if_pos (by simp only [ByteArray.size_append, zm, Z, Z3, z0]; omega)]
      rw [S _ (by simp only [ByteArray.size_append, zm, Z, Z3, z0]; omega), Option.bind_some, wS, F4 _ (hq _), Option.bind_some, if_pos (by simp only [ByteArray.size_append, zm, Z, Z3, z0]; omega)]
      have hbody : ((((((((⟨#[157, 227]⟩ : ByteArray) ++ strOfNums (be 2 (s.size + 34))) ++ strOfNums (be 4 (Crc.sum (bytesN ((⟨#[157, 227]⟩ : ByteArray) ++ strOfNums (be 2 (s.size + 34))))))) ++ strOfNums [(a : Int), b, c]) ++ strOfNums (be 2 d)) ++ strOfNums (be 4 e)) ++ strOfNums (be 8 t)) ++ strOfNums (be 4 g)) ++ (⟨#[0]⟩ : ByteArray) ++ s = strOfNums (bodyL a b c d e t g false s) := by
        rw [hhead, h0]
        conv => lhs; rw [← hsb]
        simp only [← strOf_append]
        congr 1
        simp [bodyL, headS]
        rw [hsb]
      rw [hbody, ← strOf_append]
      rfl
    · rw [if_pos rfl, if_pos (by simp only [ByteArray.size_append, zm, Z, Z3]; omega), if_pos (by simp only [ByteArray.size_append, zm, Z, Z3, z1]; omega)]
      rw [S _ (by simp only [ByteArray.size_append, zm, Z, Z3, z1]; omega), Option.bind_some, wS, F4 _ (hq _), Option.bind_some, if_pos (by simp only [ByteArray.size_append, zm, Z, Z3, z1]; omega)]
      have hbody : ((((((((⟨#[157, 227]⟩ : ByteArray) ++ strOfNums (be 2 (s.size + 34))) ++ strOfNums (be 4 (Crc.sum (bytesN ((⟨#[157, 227]⟩ : ByteArray) ++ strOfNums (be 2 (s.size + 34))))))) ++ strOfNums [(a : Int), b, c]) ++ strOfNums (be 2 d)) ++ strOfNums (be 4 e)) ++ strOfNums (be 8 t)) ++ strOfNums (be 4 g)) ++ (⟨#[1]⟩ : ByteArray) ++ s = strOfNums (bodyL a b c d e t g true s) := by
        rw [hhead, h1]
        conv => lhs; rw [← hsb]
        simp only [← strOf_append]
        congr 1
        simp [bodyL, headS]
        rw [hsb]
      rw [hbody, ← strOf_append]
      rfl
  · rw [decide_eq_false hM, if_neg (by decide), if_neg hM]
theorem alive_f : concordlaw21_alive.f = some true := by
  have hM : May 1 2 1 1 1 1 false (⟨#[104, 105]⟩ : ByteArray).size := by decide
  have hR : Fr 1 2 1 1 1 0 1 := by decide
  have hE : frame_Encode.f 1 2 1 1 1 0 1 false (⟨#[104, 105]⟩ : ByteArray) = some (strOfNums (encF 1 2 1 1 1 0 1 false ⟨#[104, 105]⟩), 0) := by
    rw [frame_Encode.f, if_pos hR]
    show some (encR 1 2 1 1 1 0 1 false ⟨#[104, 105]⟩) = _
    rw [encR, if_pos hM]
  have hn := encF_nats 1 2 1 1 1 0 1 false ⟨#[104, 105]⟩ (by omega) (by omega) (by omega)
  have hd := dec_enc 1 2 1 1 1 0 1 false ⟨#[104, 105]⟩ (by omega) (by omega) (by omega) (by omega) (by omega) (by omega) (by omega) hM
  generalize strOfNums (encF 1 2 1 1 1 0 1 false ⟨#[104, 105]⟩) = s at hE hn hd
  have hsz : s.size = 36 := by rw [← natsOf_len, hn, encN_len]; rfl
  have hx : s.extract 0 4 = ⟨#[157, 227, 0, 36]⟩ := by
    apply natsOf_inj
    rw [natsOf_extract, hn]
    have h1 : (((encN 1 2 1 1 1 0 1 false ⟨#[104, 105]⟩).drop 0).take (4 - 0)) = [157, 227] ++ beN 2 36 := by
      unfold encN preN
      rw [List.drop_zero]
      simp only [List.append_assoc]
      rw [← List.append_assoc [157, 227]]
      exact List.take_left' (by simp [beN_len])
    rw [h1]
    decide
  have hD : frame_Decode.f s = some (1, 2, 1, 1, 1, 0, 1, false, ⟨#[104, 105]⟩, 0) := by
    rw [frame_Decode.f, if_pos (by omega), hd]; rfl
  rw [concordlaw21_alive.f, concordlaw21_one.f, Option.bind_some]
  dsimp only
  rw [hE, Option.bind_some]
  dsimp only
  rw [hD, Option.bind_some]
  dsimp only
  rw [if_pos rfl, if_pos rfl, Option.bind_some]
  dsimp only
  rw [if_pos (by decide +kernel), if_pos (by omega), if_pos (by omega), if_pos (by omega), hx]
  decide +kernel
end Go.Proofs.Ytgboppgghidgbaa.My
