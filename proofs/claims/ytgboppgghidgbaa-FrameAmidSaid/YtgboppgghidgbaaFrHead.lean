/- frame.head: the front of some bytes. -/
import Derived.Test.YtgboppgghidgbaaRdR
import Derived.Test.YtgboppgghidgbaaPFx4
import Derived.Test.YtgboppgghidgbaaFrEnc
namespace Go.Proofs.Ytgboppgghidgbaa.My
open Go.RowKit Go.Proofs.YtgboppgghidgbaaW.PrintWords Go.Proofs.YtgboppgghidgbaaW.PrintLast Go.Proofs.YtgboppgghidgbaaW.PrintMore Go.Proofs.Ytgboppgghidgbaa Go.Proofs.Ytgboppgghidgbaa.PF
set_option linter.unusedSimpArgs false
set_option linter.unusedVariables false
set_option maxRecDepth 100000
set_option maxHeartbeats 800000
/-- Is the front that of a frame which is these bytes. -/
def HeadOk (s : ByteArray) : Prop := (34 ≤ s.size ∧ s.size ≤ 8192) ∧ s.extract 0 2 = markS ∧ fN s 2 2 = s.size ∧ fN s 4 4 = Crc.sum (bytesN (s.extract 0 4))
theorem i64_join (a b : Nat) (ha : a < 256) (hb : b < 256) : Go.bits .or .i64 ((a : Int) * 256) (b : Int) = ((a * 256 + b : Nat) : Int) := by
  have h1 : ((a : Int) * 256) = ((a * 256 : Nat) : Int) := by omega
  have e : ∀ x : Nat, x < 65536 → (BitVec.ofInt 64 (x : Int)).toNat = x := fun x hx => by
    rw [BitVec.ofInt_natCast, BitVec.toNat_ofNat]; exact Nat.mod_eq_of_lt (by omega)
  rw [h1]
  show IntKind.i64.wrap ((BitVec.ofInt 64 ((a * 256 : Nat) : Int) ||| BitVec.ofInt 64 (b : Int)).toNat : Int) = _
  rw [BitVec.toNat_or, e _ (by omega), e _ (by omega), nat_join 8 (a * 256) b (by omega) (by omega), IntKind.wrap_i64]
  omega
theorem ext2 (s : ByteArray) (h : 3 < s.size) : fN s 2 2 = (s[2]).toNat * 256 + (s[3]).toNat := by
  have h1 : (natsOf s).drop 2 = (s[2]).toNat :: (s[3]).toNat :: (natsOf s).drop 4 := by
    have hl : (natsOf s).length = s.size := natsOf_len s
    rw [List.drop_eq_getElem_cons (by omega), List.drop_eq_getElem_cons (by omega)]
    simp [natsOf, ByteArray.getElem_eq_getElem_data]
  unfold fN
  rw [h1]
  simp [hiN]
theorem high_l0 (s : ByteArray) (h8 : s.size ≤ 8) : ∀ (m i k : Nat), i + m = s.size → m + 1 ≤ k → wire_high.l0 k s ((hiN ((natsOf s).take i) : Nat) : Int) (s.size : Int) (i : Int) = some ((hiN (natsOf s) : Nat) : Int)
  | 0, i, k, hi, hk => by
    obtain ⟨k, rfl⟩ : ∃ j, k = j + 1 := ⟨k - 1, by omega⟩
    rw [wire_high.l0, if_neg (by omega), List.take_of_length_le (by rw [natsOf_len]; omega)]
  | m + 1, i, k, hi, hk => by
    obtain ⟨k, rfl⟩ : ∃ j, k = j + 1 := ⟨k - 1, by omega⟩
    have hlt : i < s.size := by omega
    rw [wire_high.l0, if_pos (by omega), if_pos (by omega), if_pos (by omega)]
    have hby : (s[i]).toNat < 256 := (s[i]).toNat_lt
    have hv := hiN_lt s i (by omega)
    have hp : 256 ^ i ≤ 256 ^ 7 := Nat.pow_le_pow_right (by omega) (by omega)
    have e := hiN_snoc ((natsOf s).take i) (s[i]).toNat
    rw [← natsOf_take s i hlt] at e
    have hbt : bt s (i : Int) = ((s[i]).toNat : Int) := by
      unfold bt
      rw [Int.toNat_natCast, dif_pos hlt]
    have hw : wrap64 ((i : Int) + 1) = ((i + 1 : Nat) : Int) := by unfold wrap64; omega
    rw [hw, hbt]
    have hor : Go.bits .or .u64 (IntKind.u64.wrap (((hiN ((natsOf s).take i) : Nat) : Int) * 256)) (IntKind.u64.wrap ((s[i]).toNat : Int)) = ((hiN ((natsOf s).take (i + 1)) : Nat) : Int) := by
      rw [e]
      generalize hiN ((natsOf s).take i) = v at hv
      have hvb : v < 72057594037927936 := Nat.lt_of_lt_of_le hv (by simpa using hp)
      have h1 := u64_or_nat (v * 256) (s[i]).toNat (by omega) (by omega)
      rw [nat_join 8 (v * 256) _ (by omega) (by omega)] at h1
      rw [IntKind.wrap_u64, IntKind.wrap_u64, Int.emod_eq_of_lt (by omega) (by omega), Int.emod_eq_of_lt (by omega) (by omega)]
      rw [show ((v : Int) * 256) = ((v * 256 : Nat) : Int) from by omega]
      exact h1
    rw [hor]
    exact high_l0 s h8 m (i + 1) k (by omega) (by omega)
theorem high_f (s : ByteArray) (h8 : s.size ≤ 8) (k : Nat) (hk : 9 ≤ k) : wire_high.f k s = some ((hiN (natsOf s) : Nat) : Int) := by
  have h := high_l0 s h8 s.size 0 k (by omega) (by omega)
  rw [List.take_zero] at h
  exact h
theorem take_f (u : ByteArray) (p n : Nat) (h : p + n ≤ u.size) (hu : u.size ≤ 562949953421312) : wire_Reader_take.f u (p : Int) 0 (n : Int) = some (u.extract p (p + n), true, u, ((p + n : Nat) : Int), 0) := by
  have hw1 : wrap64 ((u.size : Int) - p) = (u.size : Int) - p := by unfold wrap64; omega
  have hw2 : wrap64 ((p : Int) + n) = ((p + n : Nat) : Int) := by unfold wrap64; omega
  rw [wire_Reader_take.f, if_pos rfl, hw1, hw2, if_neg (by omega), if_pos (by omega), if_pos (by omega), if_pos (by omega), Int.toNat_natCast, Int.toNat_natCast]
theorem fixed4_f (u : ByteArray) (h : u.size = 4) (k : Nat) (hk : 10 ≤ k) : wire_Reader_Fixed.f k u 0 0 4 = some (((hiN (natsOf u) : Nat) : Int), u, 4, 0) := by
  obtain ⟨k, rfl⟩ : ∃ j, k = j + 1 := ⟨k - 1, by omega⟩
  have hx : u.extract 0 (0 + 4) = u := by
    apply ByteArray.ext
    rw [ByteArray.data_extract]
    have : u.data.size = 4 := h
    rw [Nat.zero_add, ← this, Array.extract_size]
  have ht := take_f u 0 4 (by omega) (by omega)
  rw [hx] at ht
  have ht' : wire_Reader_take.f u 0 0 4 = some (u, true, u, 4, 0) := ht
  rw [wire_Reader_Fixed.f, if_neg (by omega), wire_Reader_Fixed.j0, if_neg (by decide), ht', Option.bind_some, high_f u (by omega) k (by omega), Option.bind_some]
theorem head_ex (s : ByteArray) (hs : s.size ≤ 562949953421312) : ∃ (n : Int) (ok : Bool), frame_head.f 12 s = some (n, ok) ∧ ((ok = true ∧ n = s.size ∧ 34 ≤ s.size) ↔ HeadOk s) := by
  have hmn : mn (s.size : Int) 2 = ((min s.size 2 : Nat) : Int) := by unfold mn; split <;> omega
  have hpre : strings_HasPrefix.f (⟨#[157, 227]⟩ : ByteArray) (s.extract 0 (min s.size 2)) = some ((markS.extract 0 (min s.size 2)).toList == (s.extract 0 (min s.size 2)).toList) := by
    have h1 : (s.extract 0 (min s.size 2)).size = min s.size 2 := by rw [ByteArray.size_extract]; omega
    have h2 : ((s.extract 0 (min s.size 2)).size : Int) ≤ ((⟨#[157, 227]⟩ : ByteArray).size : Int) := by
      show ((s.extract 0 (min s.size 2)).size : Int) ≤ 2
      omega
    rw [strings_HasPrefix.f, stringslite_HasPrefix.f, if_pos h2, if_pos (by omega), if_pos h2, Int.toNat_natCast, h1]
    rfl
  have step : frame_head.f 12 s = ((strings_HasPrefix.f (⟨#[157, 227]⟩ : ByteArray) (s.extract 0 (min s.size 2))).bind fun t141 => (if t141 = true then (if (s.size : Int) < 4 then (some (0, true)) else (if 2 < (s.size : Int) then (if 3 < (s.size : Int) then (if (Go.bits .or .i64 (wrap64 ((wrap64 (bt s 2)) * 256)) (wrap64 (bt s 3))) < 34 then (frame_head.j0 12 s (Go.bits .or .i64 (wrap64 ((wrap64 (bt s 2)) * 256)) (wrap64 (bt s 3))) true) else (frame_head.j0 12 s (Go.bits .or .i64 (wrap64 ((wrap64 (bt s 2)) * 256)) (wrap64 (bt s 3))) (decide ((Go.bits .or .i64 (wrap64 ((wrap64 (bt s 2)) * 256)) (wrap64 (bt s 3))) > 8192)))) else (none)) else (none))) else (some (0, false)))) := by
    rw [frame_head.f, hmn, if_pos (by omega), if_pos (by omega), Int.toNat_natCast]
  rw [step, hpre, Option.bind_some]
  clear step hpre hmn
  by_cases hb : (markS.extract 0 (min s.size 2)).toList == (s.extract 0 (min s.size 2)).toList
  · rw [if_pos hb]
    by_cases h4 : s.size < 4
    · rw [if_pos (by omega)]
      exact ⟨_, _, rfl, (fun h => by omega), (fun h => by have := h.1.1; omega)⟩
    · rw [if_neg (by omega), if_pos (by omega), if_pos (by omega)]
      have hmk : s.extract 0 2 = markS := by
        rw [show min s.size 2 = 2 by omega, beq_iff_eq, ByteArray.toList_eq, ByteArray.toList_eq] at hb
        exact ByteArray.ext (Array.toList_inj.1 hb.symm)
      have hb2 : (s[2]).toNat < 256 := (s[2]).toNat_lt
      have hb3 : (s[3]'(by omega)).toNat < 256 := (s[3]'(by omega)).toNat_lt
      have hx := ext2 s (by omega)
      have hv : Go.bits .or .i64 (wrap64 ((wrap64 (bt s 2)) * 256)) (wrap64 (bt s 3)) = ((fN s 2 2 : Nat) : Int) := by
        have e2 : bt s 2 = ((s[2]).toNat : Int) := by
          unfold bt
          rw [show (2 : Int).toNat = 2 from rfl, dif_pos (by omega)]
        have e3 : bt s 3 = ((s[3]'(by omega)).toNat : Int) := by
          unfold bt
          rw [show (3 : Int).toNat = 3 from rfl, dif_pos (by omega)]
        rw [e2, e3, hx]
        have w2 : wrap64 ((s[2]).toNat : Int) = (s[2]).toNat := by unfold wrap64; omega
        have w3 : wrap64 ((s[3]'(by omega)).toNat : Int) = (s[3]'(by omega)).toNat := by unfold wrap64; omega
        have w4 : wrap64 (((s[2]).toNat : Int) * 256) = ((s[2]).toNat : Int) * 256 := by unfold wrap64; omega
        rw [w2, w3, w4]
        exact i64_join _ _ hb2 hb3
      rw [hv]
      generalize fN s 2 2 = n at hx
      have hn : n < 65536 := by omega
      by_cases hlo : n < 34
      · rw [if_pos (by omega), frame_head.j0, if_pos rfl]
        exact ⟨_, _, rfl, (fun h => by omega), (fun h => by have h1 := h.1.1; have h2 := h.2.2.1; rw [ext2 s (by omega), ← hx] at h2; omega)⟩
      · rw [if_neg (by omega)]
        by_cases hhi : 8192 < n
        · rw [decide_eq_true (by omega), frame_head.j0, if_pos rfl]
          exact ⟨_, _, rfl, (fun h => by omega), (fun h => by have h1 := h.1.2; have h2 := h.2.2.1; rw [ext2 s (by omega), ← hx] at h2; omega)⟩
        · rw [decide_eq_false (by omega), frame_head.j0, if_neg (by decide)]
          by_cases h8 : s.size < 8
          · rw [if_pos (by omega)]
            exact ⟨_, _, rfl, (fun h => by omega), (fun h => by have := h.1.1; omega)⟩
          · rw [if_neg (by omega), if_pos (by omega), if_pos (by omega)]
            have h4s : (s.extract 4 8).size = 4 := by rw [ByteArray.size_extract]; omega
            have h4t : (s.extract 0 4).size ≤ 562949953421312 := by rw [ByteArray.size_extract]; omega
            rw [wire_Sum.f, sumF, if_pos h4t, Option.bind_some, if_pos (by omega), if_pos (by omega), wire_NewReader.f, Option.bind_some]
            dsimp only
            rw [fixed4_f _ h4s 11 (by omega), Option.bind_some]
            have hq := sum_lt (s.extract 0 4)
            have hwq : IntKind.u64.wrap ((Crc.sum (bytesN (s.extract 0 4)) : Nat) : Int) = ((Crc.sum (bytesN (s.extract 0 4)) : Nat) : Int) := by rw [IntKind.wrap_u64]; omega
            have h44 : hiN (natsOf (s.extract 4 8)) = fN s 4 4 := by unfold fN; rw [natsOf_extract]
            refine ⟨_, _, rfl, ?_⟩
            rw [hwq]
            dsimp only
            rw [h44, beq_iff_eq]
            have hx' : fN s 2 2 = n := by rw [ext2 s (by omega), hx]
            constructor
            · intro h
              exact ⟨⟨by omega, by omega⟩, hmk, by omega, by omega⟩
            · intro h
              have h1 := h.2.2.1
              have h2 := h.2.2.2
              exact ⟨by omega, by omega, h.1.1⟩
  · rw [if_neg hb]
    refine ⟨_, _, rfl, (fun h => by cases h.1), (fun h => ?_)⟩
    exfalso
    apply hb
    have h1 := h.1.1
    rw [show min s.size 2 = 2 by omega, h.2.1]
    decide +kernel
end Go.Proofs.Ytgboppgghidgbaa.My
