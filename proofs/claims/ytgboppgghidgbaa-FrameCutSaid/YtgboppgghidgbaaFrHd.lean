/- frame.head: the front of some bytes. frame.Decode. -/
import Derived.Test.YtgboppgghidgbaaRdR
import Derived.Test.YtgboppgghidgbaaPFx4
import Derived.Test.YtgboppgghidgbaaFrEnc
namespace Go.Proofs.Ytgboppgghidgbaa.My
open Go.RowKit Go.Proofs.YtgboppgghidgbaaW.PrintWords Go.Proofs.YtgboppgghidgbaaW.PrintLast Go.Proofs.YtgboppgghidgbaaW.PrintMore Go.Proofs.Ytgboppgghidgbaa Go.Proofs.Ytgboppgghidgbaa.PF
set_option linter.unusedSimpArgs false
set_option linter.unusedVariables false
set_option maxRecDepth 100000
set_option maxHeartbeats 800000
/-- Is the front that of a frame which is these bytes. -/
def HeadOk (s : ByteArray) : Prop := (34 ≤ s.size ∧ s.size ≤ 8192) ∧ s.extract 0 2 = markS ∧ fN s 2 2 = s.size ∧ fN s 4 4 = Crc.sum (bytesN (s.extract 0 4))
theorem i64_join (a b : Nat) (ha : a < 256) (hb : b < 256) : Go.bits .or .i64 ((a : Int) * 256) (b : Int) = ((a * 256 + b : Nat) : Int) := by
  have h1 : ((a : Int) * 256) = ((a * 256 : Nat) : Int) := by omega
  have e : ∀ x : Nat, x < 65536 → (BitVec.ofInt 64 (x : Int)).toNat = x := fun x hx => by
    rw [BitVec.ofInt_natCast, BitVec.toNat_ofNat]; exact Nat.mod_eq_of_lt (by omega)
  rw [h1]
  show IntKind.i64.wrap ((BitVec.ofInt 64 ((a * 256 : Nat) : Int) ||| BitVec.ofInt 64 (b : Int)).toNat : Int) = _
  rw [BitVec.toNat_or, e _ (by omega), e _ (by omega), nat_join 8 (a * 256) b (by omega) (by omega), IntKind.wrap_i64]
  omega
theorem ext2 (s : ByteArray) (h : 3 < s.size) : fN s 2 2 = (s[2]).toNat * 256 + (s[3]).toNat := by
  have h1 : (natsOf s).drop 2 = (s[2]).toNat :: (s[3]).toNat :: (natsOf s).drop 4 := by
    have hl : (natsOf s).length = s.size := natsOf_len s
    rw [List.drop_eq_getElem_cons (by omega), List.drop_eq_getElem_cons (by omega)]
    simp [natsOf, ByteArray.getElem_eq_getElem_data]
  unfold fN
  rw [h1]
  simp [hiN]
theorem high_l0 (s : ByteArray) (h8 : s.size ≤ 8) : ∀ (m i k : Nat), i + m = s.size → m + 1 ≤ k → wire_high.l0 k s ((hiN ((natsOf s).take i) : Nat) : Int) (s.size : Int) (i : Int) = some ((hiN (natsOf s) : Nat) : Int)
  | 0, i, k, hi, hk => by
    obtain ⟨k, rfl⟩ : ∃ j, k = j + 1 := ⟨k - 1, by omega⟩
    rw [wire_high.l0, if_neg (by omega), List.take_of_length_le (by rw [natsOf_len]; omega)]
  | m + 1, i, k, hi, hk => by
    obtain ⟨k, rfl⟩ : ∃ j, k = j + 1 := ⟨k - 1, by omega⟩
    have hlt : i < s.size := by omega
    rw [wire_high.l0, if_pos (by omega), if_pos (by omega), if_pos (by omega)]
    have hby : (s[i]).toNat < 256 := (s[i]).toNat_lt
    have hv := hiN_lt s i (by omega)
    have hp : 256 ^ i ≤ 256 ^ 7 := Nat.pow_le_pow_right (by omega) (by omega)
    have e := hiN_snoc ((natsOf s).take i) (s[i]).toNat
    rw [← natsOf_take s i hlt] at e
    have hbt : bt s (i : Int) = ((s[i]).toNat : Int) := by
      unfold bt
      rw [Int.toNat_natCast, dif_pos hlt]
    have hw : wrap64 ((i : Int) + 1) = ((i + 1 : Nat) : Int) := by unfold wrap64; omega
    rw [hw, hbt]
    have hor : Go.bits .or .u64 (IntKind.u64.wrap (((hiN ((natsOf s).take i) : Nat) : Int) * 256)) (IntKind.u64.wrap ((s[i]).toNat : Int)) = ((hiN ((natsOf s).take (i + 1)) : Nat) : Int) := by
      rw [e]
      generalize hiN ((natsOf s).take i) = v at hv
      have hvb : v < 72057594037927936 := Nat.lt_of_lt_of_le hv (by simpa using hp)
      have h1 := u64_or_nat (v * 256) (s[i]).toNat (by omega) (by omega)
      rw [nat_join 8 (v * 256) _ (by omega) (by omega)] at h1
      rw [IntKind.wrap_u64, IntKind.wrap_u64, Int.emod_eq_of_lt (by omega) (by omega), Int.emod_eq_of_lt (by omega) (by omega)]
      rw [show ((v : Int) * 256) = ((v * 256 : Nat) : Int) from by omega]
      exact h1
    rw [hor]
    exact high_l0 s h8 m (i + 1) k (by omega) (by omega)
theorem high_f (s : ByteArray) (h8 : s.size ≤ 8) (k : Nat) (hk : 9 ≤ k) : wire_high.f k s = some ((hiN (natsOf s) : Nat) : Int) := by
  have h := high_l0 s h8 s.size 0 k (by omega) (by omega)
  rw [List.take_zero] at h
  exact h
theorem take_f (u : ByteArray) (p n : Nat) (h : p + n ≤ u.size) (hu : u.size ≤ 562949953421312) : wire_Reader_take.f u (p : Int) 0 (n : Int) = some (u.extract p (p + n), true, u, ((p + n : Nat) : Int), 0) := by
  have hw1 : wrap64 ((u.size : Int) - p) = (u.size : Int) - p := by unfold wrap64; omega
  have hw2 : wrap64 ((p : Int) + n) = ((p + n : Nat) : Int) := by unfold wrap64; omega
  rw [wire_Reader_take.f, if_pos rfl, hw1, hw2, if_neg (by omega), if_pos (by omega), if_pos (by omega), if_pos (by omega), Int.toNat_natCast, Int.toNat_natCast]
theorem fixed4_f (u : ByteArray) (h : u.size = 4) (k : Nat) (hk : 10 ≤ k) : wire_Reader_Fixed.f k u 0 0 4 = some (((hiN (natsOf u) : Nat) : Int), u, 4, 0) := by
  obtain ⟨k, rfl⟩ : ∃ j, k = j + 1 := ⟨k - 1, by omega⟩
  have hx : u.extract 0 (0 + 4) = u := by
    apply ByteArray.ext
    rw [ByteArray.data_extract]
    have : u.data.size = 4 := h
    rw [Nat.zero_add, ← this, Array.extract_size]
  have ht := take_f u 0 4 (by omega) (by omega)
  rw [hx] at ht
  have ht' : wire_Reader_take.f u 0 0 4 = some (u, true, u, 4, 0) := ht
  rw [wire_Reader_Fixed.f, if_neg (by omega), wire_Reader_Fixed.j0, if_neg (by decide), ht', Option.bind_some, high_f u (by omega) k (by omega), Option.bind_some]
theorem head_ex (s : ByteArray) (hs : s.size ≤ 562949953421312) : ∃ (n : Int) (ok : Bool), frame_head.f 12 s = some (n, ok) ∧ ((ok = true ∧ n = s.size ∧ 34 ≤ s.size) ↔ HeadOk s) := by
  have hmn : mn (s.size : Int) 2 = ((min s.size 2 : Nat) : Int) := by unfold mn; split <;> omega
  have hpre : strings_HasPrefix.f (⟨#[157, 227]⟩ : ByteArray) (s.extract 0 (min s.size 2)) = some ((markS.extract 0 (min s.size 2)).toList == (s.extract 0 (min s.size 2)).toList) := by
    have h1 : (s.extract 0 (min s.size 2)).size = min s.size 2 := by rw [ByteArray.size_extract]; omega
    have h2 : ((s.extract 0 (min s.size 2)).size : Int) ≤ ((⟨#[157, 227]⟩ : ByteArray).size : Int) := by
      show ((s.extract 0 (min s.size 2)).size : Int) ≤ 2
      omega
    rw [strings_HasPrefix.f, stringslite_HasPrefix.f, if_pos h2, if_pos (by omega), if_pos h2, Int.toNat_natCast, h1]
    rfl
  have step : frame_head.f 12 s = ((strings_HasPrefix.f (⟨#[157, 227]⟩ : ByteArray) (s.extract 0 (min s.size 2))).bind fun t141 => (if t141 = true then (if (s.size : Int) < 4 then (some (0, true)) else (if 2 < (s.size : Int) then (if 3 < (s.size : Int) then (if (Go.bits .or .i64 (wrap64 ((wrap64 (bt s 2)) * 256)) (wrap64 (bt s 3))) < 34 then (frame_head.j0 12 s (Go.bits .or .i64 (wrap64 ((wrap64 (bt s 2)) * 256)) (wrap64 (bt s 3))) true) else (frame_head.j0 12 s (Go.bits .or .i64 (wrap64 ((wrap64 (bt s 2)) * 256)) (wrap64 (bt s 3))) (decide ((Go.bits .or .i64 (wrap64 ((wrap64 (bt s 2)) * 256)) (wrap64 (bt s 3))) > 8192)))) else (none)) else (none))) else (some (0, false)))) := by
    rw [frame_head.f, hmn, if_pos (by omega), if_pos (by omega), Int.toNat_natCast]
  rw [step, hpre, Option.bind_some]
  clear step hpre hmn
  by_cases hb : (markS.extract 0 (min s.size 2)).toList == (s.extract 0 (min s.size 2)).toList
  · rw [if_pos hb]
    by_cases h4 : s.size < 4
    · rw [if_pos (by omega)]
      exact ⟨_, _, rfl, (fun h => by omega), (fun h => by have := h.1.1; omega)⟩
    · rw [if_neg (by omega), if_pos (by omega), if_pos (by omega)]
      have hmk : s.extract 0 2 = markS := by
        rw [show min s.size 2 = 2 by omega, beq_iff_eq, ByteArray.toList_eq, ByteArray.toList_eq] at hb
        exact ByteArray.ext (Array.toList_inj.1 hb.symm)
      have hb2 : (s[2]).toNat < 256 := (s[2]).toNat_lt
      have hb3 : (s[3]'(by omega)).toNat < 256 := (s[3]'(by omega)).toNat_lt
      have hx := ext2 s (by omega)
      have hv : Go.bits .or .i64 (wrap64 ((wrap64 (bt s 2)) * 256)) (wrap64 (bt s 3)) = ((fN s 2 2 : Nat) : Int) := by
        have e2 : bt s 2 = ((s[2]).toNat : Int) := by
          unfold bt
          rw [show (2 : Int).toNat = 2 from rfl, dif_pos (by omega)]
        have e3 : bt s 3 = ((s[3]'(by omega)).toNat : Int) := by
          unfold bt
          rw [show (3 : Int).toNat = 3 from rfl, dif_pos (by omega)]
        rw [e2, e3, hx]
        have w2 : wrap64 ((s[2]).toNat : Int) = (s[2]).toNat := by unfold wrap64; omega
        have w3 : wrap64 ((s[3]'(by omega)).toNat : Int) = (s[3]'(by omega)).toNat := by unfold wrap64; omega
        have w4 : wrap64 (((s[2]).toNat : Int) * 256) = ((s[2]).toNat : Int) * 256 := by unfold wrap64; omega
        rw [w2, w3, w4]
        exact i64_join _ _ hb2 hb3
      rw [hv]
      generalize fN s 2 2 = n at hx
      have hn : n < 65536 := by omega
      by_cases hlo : n < 34
      · rw [if_pos (by omega), frame_head.j0, if_pos rfl]
        exact ⟨_, _, rfl, (fun h => by omega), (fun h => by have h1 := h.1.1; have h2 := h.2.2.1; rw [ext2 s (by omega), ← hx] at h2; omega)⟩
      · rw [if_neg (by omega)]
        by_cases hhi : 8192 < n
        · rw [decide_eq_true (by omega), frame_head.j0, if_pos rfl]
          exact ⟨_, _, rfl, (fun h => by omega), (fun h => by have h1 := h.1.2; have h2 := h.2.2.1; rw [ext2 s (by omega), ← hx] at h2; omega)⟩
        · rw [decide_eq_false (by omega), frame_head.j0, if_neg (by decide)]
          by_cases h8 : s.size < 8
          · rw [if_pos (by omega)]
            exact ⟨_, _, rfl, (fun h => by omega), (fun h => by have := h.1.1; omega)⟩
          · rw [if_neg (by omega), if_pos (by omega), if_pos (by omega)]
            have h4s : (s.extract 4 8).size = 4 := by rw [ByteArray.size_extract]; omega
            have h4t : (s.extract 0 4).size ≤ 562949953421312 := by rw [ByteArray.size_extract]; omega
            rw [wire_Sum.f, sumF, if_pos h4t, Option.bind_some, if_pos (by omega), if_pos (by omega), wire_NewReader.f, Option.bind_some]
            dsimp only
            rw [fixed4_f _ h4s 11 (by omega), Option.bind_some]
            have hq := sum_lt (s.extract 0 4)
            have hwq : IntKind.u64.wrap ((Crc.sum (bytesN (s.extract 0 4)) : Nat) : Int) = ((Crc.sum (bytesN (s.extract 0 4)) : Nat) : Int) := by rw [IntKind.wrap_u64]; omega
            have h44 : hiN (natsOf (s.extract 4 8)) = fN s 4 4 := by unfold fN; rw [natsOf_extract]
            refine ⟨_, _, rfl, ?_⟩
            rw [hwq]
            dsimp only
            rw [h44, beq_iff_eq]
            have hx' : fN s 2 2 = n := by rw [ext2 s (by omega), hx]
            constructor
            · intro h
              exact ⟨⟨by omega, by omega⟩, hmk, by omega, by omega⟩
            · intro h
              have h1 := h.2.2.1
              have h2 := h.2.2.2
              exact ⟨by omega, by omega, h.1.1⟩
  · rw [if_neg hb]
    refine ⟨_, _, rfl, (fun h => by cases h.1), (fun h => ?_)⟩
    exfalso
    apply hb
    have h1 := h.1.1
    rw [show min s.size 2 = 2 by omega, h.2.1]
    decide +kernel
end Go.Proofs.Ytgboppgghidgbaa.My
namespace Go.Proofs.Ytgboppgghidgbaa.My
open Go.RowKit Go.Proofs.YtgboppgghidgbaaW.PrintWords Go.Proofs.YtgboppgghidgbaaW.PrintLast Go.Proofs.YtgboppgghidgbaaW.PrintMore Go.Proofs.Ytgboppgghidgbaa
set_option linter.unusedSimpArgs false
set_option linter.unusedVariables false
set_option maxRecDepth 100000
set_option maxHeartbeats 1600000
def badV : Value := .tuple #[.agg #[.int .u8 0, .int .u8 0, .int .u8 0, .int .u16 0, .int .u32 0, .int .u64 0, .int .u32 0, .bool false, .string ⟨#[]⟩], .int .i64 210]
/-- What Decode answers of a frame's fields, its sum as told, its sum as it is. -/
def decV (a b c d e t g x y sm : Nat) (bd : ByteArray) : Value := if x ≤ 1 ∧ y = sm ∧ May a b c d e g (x == 1) bd.size then .tuple #[frV a b c d e t g (x == 1) bd, .int .i64 0] else badV
theorem decV_ok {a b c d e t g x y sm : Nat} {bd : ByteArray} (h : x ≤ 1 ∧ y = sm ∧ May a b c d e g (x == 1) bd.size) : Value.tuple #[.agg #[.int .u8 a, .int .u8 b, .int .u8 c, .int .u16 d, .int .u32 e, .int .u64 t, .int .u32 g, .bool (x == 1), .string bd], .int .i64 0] = decV a b c d e t g x y sm bd := by
  unfold decV; rw [if_pos h]; rfl
theorem decV_bad {a b c d e t g x y sm : Nat} {bd : ByteArray} (h : ¬ (x ≤ 1 ∧ y = sm ∧ May a b c d e g (x == 1) bd.size)) : Value.tuple #[.agg #[.int .u8 0, .int .u8 0, .int .u8 0, .int .u16 0, .int .u32 0, .int .u64 0, .int .u32 0, .bool false, .string ⟨#[]⟩], .int .i64 210] = decV a b c d e t g x y sm bd := by
  unfold decV; rw [if_neg h]; rfl
theorem W_push (w : World) (C : Array Value) (t : TypeId) (A : Nat × Nat) : (w.alloc (.cells C t A)).heap[w.heap.size]? = some (.cells C t A) := by show (w.heap.push _)[w.heap.size]? = _; rw [Array.getElem?_push_size]
theorem below_alone {base : Nat} {w0 w w' : World} {g : Nat} (h : Below base w0 w) (k : Alone w w' g) (hg : base ≤ g) : Below base w0 w' :=
  ⟨k.1.os.trans h.os, k.1.tape.trans h.tape, k.1.output.trans h.output, Nat.le_trans h.size k.1.size, fun i hi => (k.2.2 i (by omega)).trans (h.block i hi)⟩
theorem RByte_f {w : World} {g : Nat} {s : ByteArray} {p : Nat} (h : RS w g (s.extract 8 s.size) p 0) (hp : p + 1 ≤ s.size - 8) (h8 : 8 ≤ s.size) (hs : s.size ≤ 140737488351232) : Calls Try.prog 41 #[.pointer (some ⟨g, 0, none⟩)] w fun r w' => r = .returned (.int .u8 (fN s (8 + p) 1 : Nat)) ∧ RS w' g (s.extract 8 s.size) (p + 1) 0 ∧ Alone w w' g := by
  have hx : (s.extract 8 s.size).size = s.size - 8 := by rw [ByteArray.size_extract]; omega
  refine (RByte_ok h (by omega) (by omega)).mono ?_
  rintro r w' ⟨rfl, h1, h2⟩
  have hl := fN_lt s (8 + p) 1
  refine ⟨?_, h1, h2⟩
  rw [fN_cut s p 8 1 hp h8, Int.emod_eq_of_lt (by omega) (by omega)]
theorem RFixed_f {w : World} {g : Nat} {s : ByteArray} {p n : Nat} (h : RS w g (s.extract 8 s.size) p 0) (hn1 : 1 ≤ n) (hn8 : n ≤ 8) (hp : p + n ≤ s.size - 8) (h8 : 8 ≤ s.size) (hs : s.size ≤ 140737488351232) : Calls Try.prog 42 #[.pointer (some ⟨g, 0, none⟩), .int .i64 n] w fun r w' => r = .returned (.int .u64 (fN s (8 + p) n : Nat)) ∧ RS w' g (s.extract 8 s.size) (p + n) 0 ∧ Alone w w' g := by
  have hx : (s.extract 8 s.size).size = s.size - 8 := by rw [ByteArray.size_extract]; omega
  refine (RFixed_ok h hn1 hn8 (by omega) (by omega)).mono ?_
  rintro r w' ⟨rfl, h1, h2⟩
  exact ⟨by rw [fN_cut s p 8 n hp h8], h1, h2⟩
theorem dec_head (s : ByteArray) (w : World) (hs : s.size ≤ 562949953421312) (n : Int) (ok : Bool) (hh : PF.frame_head.f 12 s = some (n, ok)) (hbad : ¬ (ok = true ∧ n = s.size ∧ 34 ≤ s.size)) : Calls Try.prog 14 #[.string s] w fun r w' => r = .returned badV ∧ Below w.heap.size w w' := by
  unfold badV
  go_enter Try.func14, Try.ntmps14
  go_wp2_with fail
  refine (PF.frame_head.calls 12 s n ok _ hh).mono ?_
  rintro e w1 ⟨rfl, hb0⟩
  have hB := (Below.refl w.heap.size w).alloc (Nat.le_refl _) (.cells #[.int .u8 0, .int .u8 0, .int .u8 0, .int .u16 0, .int .u32 0, .int .u64 0, .int .u32 0, .bool false, .string ⟨#[]⟩] 28)
  have hb1 : Below w.heap.size w w1 := hB.trans (hb0.mono (below_size hB))
  have b1 : w1.heap[w.heap.size]? = some (.cells #[.int .u8 0, .int .u8 0, .int .u8 0, .int .u16 0, .int .u32 0, .int .u64 0, .int .u32 0, .bool false, .string ⟨#[]⟩] 28 (0, 0)) := (hb0.block _ (blk_lt (W_push w _ _ _))).trans (W_push w _ _ _)
  have qk0 : w1.cell? ⟨w.heap.size, 0, none⟩ = some (.int .u8 0) := (blk_cell b1 0).trans rfl
  have qk1 : w1.cell? ⟨w.heap.size, 1, none⟩ = some (.int .u8 0) := (blk_cell b1 1).trans rfl
  have qk2 : w1.cell? ⟨w.heap.size, 2, none⟩ = some (.int .u8 0) := (blk_cell b1 2).trans rfl
  have qk3 : w1.cell? ⟨w.heap.size, 3, none⟩ = some (.int .u16 0) := (blk_cell b1 3).trans rfl
  have qk4 : w1.cell? ⟨w.heap.size, 4, none⟩ = some (.int .u32 0) := (blk_cell b1 4).trans rfl
  have qk5 : w1.cell? ⟨w.heap.size, 5, none⟩ = some (.int .u64 0) := (blk_cell b1 5).trans rfl
  have qk6 : w1.cell? ⟨w.heap.size, 6, none⟩ = some (.int .u32 0) := (blk_cell b1 6).trans rfl
  have qk7 : w1.cell? ⟨w.heap.size, 7, none⟩ = some (.bool false) := (blk_cell b1 7).trans rfl
  have qk8 : w1.cell? ⟨w.heap.size, 8, none⟩ = some (.string ⟨#[]⟩) := (blk_cell b1 8).trans rfl
  have qz0 : w1.frozen? ⟨w.heap.size, 0, none⟩ = false := blk_frozen b1 0
  have qz1 : w1.frozen? ⟨w.heap.size, 1, none⟩ = false := blk_frozen b1 1
  have qz2 : w1.frozen? ⟨w.heap.size, 2, none⟩ = false := blk_frozen b1 2
  have qz3 : w1.frozen? ⟨w.heap.size, 3, none⟩ = false := blk_frozen b1 3
  have qz4 : w1.frozen? ⟨w.heap.size, 4, none⟩ = false := blk_frozen b1 4
  have qz5 : w1.frozen? ⟨w.heap.size, 5, none⟩ = false := blk_frozen b1 5
  have qz6 : w1.frozen? ⟨w.heap.size, 6, none⟩ = false := blk_frozen b1 6
  have qz7 : w1.frozen? ⟨w.heap.size, 7, none⟩ = false := blk_frozen b1 7
  have qz8 : w1.frozen? ⟨w.heap.size, 8, none⟩ = false := blk_frozen b1 8
  clear b1
  cases ok
  · go_wp2_with fail
    all_goals refine bodyPost_ret (v := .tuple #[.agg #[.int .u8 0, .int .u8 0, .int .u8 0, .int .u16 0, .int .u32 0, .int .u64 0, .int .u32 0, .bool false, .string ⟨#[]⟩], .int .i64 210]) (by simp [results, Try.results14, go_sem, qk0, qk1, qk2, qk3, qk4, qk5, qk6, qk7, qk8]) rfl ⟨rfl, ?_⟩
    all_goals repeat (first | (with_reducible exact hb1) | refine below_set ?_ (Nat.le_refl _))
  · by_cases hn : n = s.size
    · subst hn
      have h34 : s.size < 34 := Nat.lt_of_not_le (fun h => hbad ⟨rfl, rfl, h⟩)
      go_wp2_with fail
      all_goals refine bodyPost_ret (v := .tuple #[.agg #[.int .u8 0, .int .u8 0, .int .u8 0, .int .u16 0, .int .u32 0, .int .u64 0, .int .u32 0, .bool false, .string ⟨#[]⟩], .int .i64 210]) (by simp [results, Try.results14, go_sem, qk0, qk1, qk2, qk3, qk4, qk5, qk6, qk7, qk8]) rfl ⟨rfl, ?_⟩
      all_goals repeat (first | (with_reducible exact hb1) | refine below_set ?_ (Nat.le_refl _))
    · have hnb : (n == (s.size : Int)) = false := beq_eq_false_iff_ne.mpr hn
      go_wp2_with fail
      all_goals refine bodyPost_ret (v := .tuple #[.agg #[.int .u8 0, .int .u8 0, .int .u8 0, .int .u16 0, .int .u32 0, .int .u64 0, .int .u32 0, .bool false, .string ⟨#[]⟩], .int .i64 210]) (by simp [results, Try.results14, go_sem, qk0, qk1, qk2, qk3, qk4, qk5, qk6, qk7, qk8]) rfl ⟨rfl, ?_⟩
      all_goals repeat (first | (with_reducible exact hb1) | refine below_set ?_ (Nat.le_refl _))
theorem dec_good (s : ByteArray) (w : World) (hs : s.size ≤ 8192) (h34 : 34 ≤ s.size) (hh : PF.frame_head.f 12 s = some ((s.size : Int), true)) (a b c d e t g x y : Nat) (ha : fN s 8 1 = a) (hb : fN s 9 1 = b) (hc : fN s 10 1 = c) (hd : fN s 11 2 = d) (he : fN s 13 4 = e) (ht : fN s 17 8 = t) (hg : fN s 25 4 = g) (hx : fN s 29 1 = x) (hy : fN s (s.size - 4) 4 = y) (bd : ByteArray) (hbd : s.extract 30 (s.size - 4) = bd) (sm : Nat) (hsm : Crc.sum (bytesN (s.extract 0 (s.size - 4))) = sm) : Calls Try.prog 14 #[.string s] w fun r w' => r = .returned (decV a b c d e t g x y sm bd) ∧ Below w.heap.size w w' := by
  have hx0 : (s.extract 8 s.size).size = s.size - 8 := by rw [ByteArray.size_extract]; omega
  have hbs : bd.size = s.size - 34 := by rw [← hbd, ByteArray.size_extract]; omega
  have Ba : a < 256 ^ 1 := by rw [← ha]; exact fN_lt _ _ _
  have Bb : b < 256 ^ 1 := by rw [← hb]; exact fN_lt _ _ _
  have Bc : c < 256 ^ 1 := by rw [← hc]; exact fN_lt _ _ _
  have Bd : d < 256 ^ 2 := by rw [← hd]; exact fN_lt _ _ _
  have Be : e < 256 ^ 4 := by rw [← he]; exact fN_lt _ _ _
  have Bt : t < 256 ^ 8 := by rw [← ht]; exact fN_lt _ _ _
  have Bg : g < 256 ^ 4 := by rw [← hg]; exact fN_lt _ _ _
  have Bx : x < 256 ^ 1 := by rw [← hx]; exact fN_lt _ _ _
  have By : y < 256 ^ 4 := by rw [← hy]; exact fN_lt _ _ _
  have wd : IntKind.u16.wrap (d : Int) = d := by rw [IntKind.wrap_u16]; omega
  have we : IntKind.u32.wrap (e : Int) = e := by rw [IntKind.wrap_u32']; omega
  have wg : IntKind.u32.wrap (g : Int) = g := by rw [IntKind.wrap_u32']; omega
  have hbd2 : (s.extract 8 s.size).extract 22 (22 + (s.size - 34)) = bd := by rw [← hbd, ByteArray.extract_extract]; congr 1; omega
  have ha' := Aside0.mk ha
  have hb' := Aside0.mk hb
  have hc' := Aside0.mk hc
  have hd' := Aside0.mk hd
  have he' := Aside0.mk he
  have ht' := Aside0.mk ht
  have hg' := Aside0.mk hg
  have hx' := Aside0.mk hx
  have hy' := Aside0.mk hy
  have hbd' := Aside0.mk hbd2
  have hsm' := Aside0.mk hsm
  clear ha hb hc hd he ht hg hx hy hbd hbd2 hsm
  go_enter Try.func14, Try.ntmps14
  go_wp2_with fail
  have hB := (Below.refl w.heap.size w).alloc (Nat.le_refl _) (.cells #[.int .u8 0, .int .u8 0, .int .u8 0, .int .u16 0, .int .u32 0, .int .u64 0, .int .u32 0, .bool false, .string ⟨#[]⟩] 28)
  have b0 := W_push w #[.int .u8 0, .int .u8 0, .int .u8 0, .int .u16 0, .int .u32 0, .int .u64 0, .int .u32 0, .bool false, .string ⟨#[]⟩] 28 (0, 0)
  generalize w.alloc (.cells #[.int .u8 0, .int .u8 0, .int .u8 0, .int .u16 0, .int .u32 0, .int .u64 0, .int .u32 0, .bool false, .string ⟨#[]⟩] 28) = W at hB b0 ⊢
  refine (PF.frame_head.calls 12 s _ _ W hh).mono ?_
  rintro e_ w1 ⟨rfl, hb1⟩
  have hQ1 := (hb1.block _ (blk_lt b0)).trans b0
  have hB1 : Below w.heap.size w w1 := hB.trans (hb1.mono (below_size hB))
  have hq1 : w.heap.size < w1.heap.size := blk_lt hQ1
  clear hb1 b0 hB
  go_wp2_with fail
  refine (newReader (s.extract 8 s.size) w1).mono ?_
  rintro e_ w2 ⟨rfl, hw2⟩
  have hR2 : RS w2 w1.heap.size (s.extract 8 s.size) 0 0 := by rw [hw2]; exact W_push _ _ _ _
  have hQ2 : w2.heap[w.heap.size]? = some (.cells #[.int .u8 0, .int .u8 0, .int .u8 0, .int .u16 0, .int .u32 0, .int .u64 0, .int .u32 0, .bool false, .string ⟨#[]⟩] 28 (0, 0)) := by rw [hw2]; exact blk_alloc hQ1 _
  have hB2 : Below w.heap.size w w2 := by rw [hw2]; exact hB1.alloc (below_size hB1) _
  have hz2 : w2.heap.size = w1.heap.size + 1 := by rw [hw2]; show (w1.heap.push _).size = _; rw [Array.size_push]
  clear hw2
  go_wp2_with fail
  have hR3 : RS (w2.alloc (.cells #[.int .u8 0, .int .u8 0, .int .u8 0, .int .u16 0, .int .u32 0, .int .u64 0, .int .u32 0, .bool false, .string ⟨#[]⟩] 28)) w1.heap.size (s.extract 8 s.size) 0 0 := blk_alloc hR2 _
  have hQ3 : (w2.alloc (.cells #[.int .u8 0, .int .u8 0, .int .u8 0, .int .u16 0, .int .u32 0, .int .u64 0, .int .u32 0, .bool false, .string ⟨#[]⟩] 28)).heap[w.heap.size]? = some (.cells #[.int .u8 0, .int .u8 0, .int .u8 0, .int .u16 0, .int .u32 0, .int .u64 0, .int .u32 0, .bool false, .string ⟨#[]⟩] 28 (0, 0)) := blk_alloc hQ2 _
  have hF3 : (w2.alloc (.cells #[.int .u8 0, .int .u8 0, .int .u8 0, .int .u16 0, .int .u32 0, .int .u64 0, .int .u32 0, .bool false, .string ⟨#[]⟩] 28)).heap[w2.heap.size]? = some (.cells #[.int .u8 0, .int .u8 0, .int .u8 0, .int .u16 0, .int .u32 0, .int .u64 0, .int .u32 0, .bool false, .string ⟨#[]⟩] 28 (0, 0)) := W_push _ _ _ _
  have hB3 : Below w.heap.size w (w2.alloc (.cells #[.int .u8 0, .int .u8 0, .int .u8 0, .int .u16 0, .int .u32 0, .int .u64 0, .int .u32 0, .bool false, .string ⟨#[]⟩] 28)) := hB2.alloc (below_size hB2) _
  rw [hz2] at hF3
  generalize w2.alloc (.cells #[.int .u8 0, .int .u8 0, .int .u8 0, .int .u16 0, .int .u32 0, .int .u64 0, .int .u32 0, .bool false, .string ⟨#[]⟩] 28) = w3 at hR3 hQ3 hF3 hB3 ⊢
  generalize hrr : w1.heap.size = r at hR3 hF3 hq1 ⊢
  clear hR2 hQ2 hB2 hz2 hQ1 hB1 hrr
  refine (RByte_f hR3 (by omega) (by omega) (by omega)).mono ?_
  rintro e_ w4 ⟨rfl, hR4, ha4⟩
  have hQ4 := (ha4.2.2 w.heap.size (by omega)).trans hQ3
  have hF4 := (ha4.2.2 (r + 1) (by omega)).trans hF3
  have hB4 := below_alone hB3 ha4 (by omega)
  clear ha4 hR3 hQ3 hF3 hB3
  rw [ha'.out]
  go_wp2_with fail
  refine (RByte_f hR4 (by omega) (by omega) (by omega)).mono ?_
  rintro e_ w5 ⟨rfl, hR5, ha5⟩
  have hQ5 := (ha5.2.2 w.heap.size (by omega)).trans hQ4
  have hF5 := (ha5.2.2 (r + 1) (by omega)).trans hF4
  have hB5 := below_alone hB4 ha5 (by omega)
  clear ha5 hR4 hQ4 hF4 hB4
  rw [hb'.out]
  have fz := fun i => blk_frozen hF5 i
  have fk0 : w5.cell? ⟨r + 1, 0, none⟩ = some (.int .u8 0) := (blk_cell hF5 0).trans rfl
  have fz0 : w5.frozen? ⟨r + 1, 0, none⟩ = false := blk_frozen hF5 0
  have fk1 : w5.cell? ⟨r + 1, 1, none⟩ = some (.int .u8 0) := (blk_cell hF5 1).trans rfl
  have fz1 : w5.frozen? ⟨r + 1, 1, none⟩ = false := blk_frozen hF5 1
  clear fz
  go_wp2_with fail
  clear fk0 fz0 fk1 fz1
  have hR6 := (RS.far (RS.far hR5 (a := ⟨r + 1, 0, none⟩) (by show r ≠ r + 1; omega) (.int .u8 a)) (a := ⟨r + 1, 1, none⟩) (by show r ≠ r + 1; omega) (.int .u8 b))
  have hQ6 := (blk_far (blk_far hQ5 (p := ⟨r + 1, 0, none⟩) (by show w.heap.size ≠ r + 1; omega) (.int .u8 a)) (p := ⟨r + 1, 1, none⟩) (by show w.heap.size ≠ r + 1; omega) (.int .u8 b))
  have hF6 : ((w5.setCell ⟨r + 1, 0, none⟩ (.int .u8 a)).setCell ⟨r + 1, 1, none⟩ (.int .u8 b)).heap[r + 1]? = some (.cells #[.int .u8 a, .int .u8 b, .int .u8 0, .int .u16 0, .int .u32 0, .int .u64 0, .int .u32 0, .bool false, .string ⟨#[]⟩] 28 (0, 0)) := (blk_set (blk_set hF5 0 (.int .u8 a)) 1 (.int .u8 b))
  have hB6 := (below_set (g := r + 1) (j := 1) (v := .int .u8 b) (below_set (g := r + 1) (j := 0) (v := .int .u8 a) hB5 (by omega)) (by omega))
  generalize ((w5.setCell ⟨r + 1, 0, none⟩ (.int .u8 a)).setCell ⟨r + 1, 1, none⟩ (.int .u8 b)) = w6 at hR6 hQ6 hF6 hB6 ⊢
  clear hR5 hQ5 hF5 hB5
  refine (RByte_f hR6 (by omega) (by omega) (by omega)).mono ?_
  rintro e_ w7 ⟨rfl, hR7, ha7⟩
  have hQ7 := (ha7.2.2 w.heap.size (by omega)).trans hQ6
  have hF7 := (ha7.2.2 (r + 1) (by omega)).trans hF6
  have hB7 := below_alone hB6 ha7 (by omega)
  clear ha7 hR6 hQ6 hF6 hB6
  rw [hc'.out]
  have fz := fun i => blk_frozen hF7 i
  have fk2 : w7.cell? ⟨r + 1, 2, none⟩ = some (.int .u8 0) := (blk_cell hF7 2).trans rfl
  have fz2 : w7.frozen? ⟨r + 1, 2, none⟩ = false := blk_frozen hF7 2
  clear fz
  go_wp2_with fail
  clear fk2 fz2
  have hR8 := (RS.far hR7 (a := ⟨r + 1, 2, none⟩) (by show r ≠ r + 1; omega) (.int .u8 c))
  have hQ8 := (blk_far hQ7 (p := ⟨r + 1, 2, none⟩) (by show w.heap.size ≠ r + 1; omega) (.int .u8 c))
  have hF8 : (w7.setCell ⟨r + 1, 2, none⟩ (.int .u8 c)).heap[r + 1]? = some (.cells #[.int .u8 a, .int .u8 b, .int .u8 c, .int .u16 0, .int .u32 0, .int .u64 0, .int .u32 0, .bool false, .string ⟨#[]⟩] 28 (0, 0)) := (blk_set hF7 2 (.int .u8 c))
  have hB8 := (below_set (g := r + 1) (j := 2) (v := .int .u8 c) hB7 (by omega))
  generalize (w7.setCell ⟨r + 1, 2, none⟩ (.int .u8 c)) = w8 at hR8 hQ8 hF8 hB8 ⊢
  clear hR7 hQ7 hF7 hB7
  refine (RFixed_f (n := 2) hR8 (by omega) (by omega) (by omega) (by omega) (by omega)).mono ?_
  rintro e_ w9 ⟨rfl, hR9, ha9⟩
  have hQ9 := (ha9.2.2 w.heap.size (by omega)).trans hQ8
  have hF9 := (ha9.2.2 (r + 1) (by omega)).trans hF8
  have hB9 := below_alone hB8 ha9 (by omega)
  clear ha9 hR8 hQ8 hF8 hB8
  rw [hd'.out]
  have fz := fun i => blk_frozen hF9 i
  have fk3 : w9.cell? ⟨r + 1, 3, none⟩ = some (.int .u16 0) := (blk_cell hF9 3).trans rfl
  have fz3 : w9.frozen? ⟨r + 1, 3, none⟩ = false := blk_frozen hF9 3
  clear fz
  go_wp2_with fail
  clear fk3 fz3
  have hR10 := (RS.far hR9 (a := ⟨r + 1, 3, none⟩) (by show r ≠ r + 1; omega) (.int .u16 d))
  have hQ10 := (blk_far hQ9 (p := ⟨r + 1, 3, none⟩) (by show w.heap.size ≠ r + 1; omega) (.int .u16 d))
  have hF10 : (w9.setCell ⟨r + 1, 3, none⟩ (.int .u16 d)).heap[r + 1]? = some (.cells #[.int .u8 a, .int .u8 b, .int .u8 c, .int .u16 d, .int .u32 0, .int .u64 0, .int .u32 0, .bool false, .string ⟨#[]⟩] 28 (0, 0)) := (blk_set hF9 3 (.int .u16 d))
  have hB10 := (below_set (g := r + 1) (j := 3) (v := .int .u16 d) hB9 (by omega))
  generalize (w9.setCell ⟨r + 1, 3, none⟩ (.int .u16 d)) = w10 at hR10 hQ10 hF10 hB10 ⊢
  clear hR9 hQ9 hF9 hB9
  refine (RFixed_f (n := 4) hR10 (by omega) (by omega) (by omega) (by omega) (by omega)).mono ?_
  rintro e_ w11 ⟨rfl, hR11, ha11⟩
  have hQ11 := (ha11.2.2 w.heap.size (by omega)).trans hQ10
  have hF11 := (ha11.2.2 (r + 1) (by omega)).trans hF10
  have hB11 := below_alone hB10 ha11 (by omega)
  clear ha11 hR10 hQ10 hF10 hB10
  rw [he'.out]
  have fz := fun i => blk_frozen hF11 i
  have fk4 : w11.cell? ⟨r + 1, 4, none⟩ = some (.int .u32 0) := (blk_cell hF11 4).trans rfl
  have fz4 : w11.frozen? ⟨r + 1, 4, none⟩ = false := blk_frozen hF11 4
  clear fz
  go_wp2_with fail
  clear fk4 fz4
  have hR12 := (RS.far hR11 (a := ⟨r + 1, 4, none⟩) (by show r ≠ r + 1; omega) (.int .u32 e))
  have hQ12 := (blk_far hQ11 (p := ⟨r + 1, 4, none⟩) (by show w.heap.size ≠ r + 1; omega) (.int .u32 e))
  have hF12 : (w11.setCell ⟨r + 1, 4, none⟩ (.int .u32 e)).heap[r + 1]? = some (.cells #[.int .u8 a, .int .u8 b, .int .u8 c, .int .u16 d, .int .u32 e, .int .u64 0, .int .u32 0, .bool false, .string ⟨#[]⟩] 28 (0, 0)) := (blk_set hF11 4 (.int .u32 e))
  have hB12 := (below_set (g := r + 1) (j := 4) (v := .int .u32 e) hB11 (by omega))
  generalize (w11.setCell ⟨r + 1, 4, none⟩ (.int .u32 e)) = w12 at hR12 hQ12 hF12 hB12 ⊢
  clear hR11 hQ11 hF11 hB11
  refine (RFixed_f (n := 8) hR12 (by omega) (by omega) (by omega) (by omega) (by omega)).mono ?_
  rintro e_ w13 ⟨rfl, hR13, ha13⟩
  have hQ13 := (ha13.2.2 w.heap.size (by omega)).trans hQ12
  have hF13 := (ha13.2.2 (r + 1) (by omega)).trans hF12
  have hB13 := below_alone hB12 ha13 (by omega)
  clear ha13 hR12 hQ12 hF12 hB12
  rw [ht'.out]
  have fz := fun i => blk_frozen hF13 i
  have fk5 : w13.cell? ⟨r + 1, 5, none⟩ = some (.int .u64 0) := (blk_cell hF13 5).trans rfl
  have fz5 : w13.frozen? ⟨r + 1, 5, none⟩ = false := blk_frozen hF13 5
  clear fz
  go_wp2_with fail
  clear fk5 fz5
  have hR14 := (RS.far hR13 (a := ⟨r + 1, 5, none⟩) (by show r ≠ r + 1; omega) (.int .u64 t))
  have hQ14 := (blk_far hQ13 (p := ⟨r + 1, 5, none⟩) (by show w.heap.size ≠ r + 1; omega) (.int .u64 t))
  have hF14 : (w13.setCell ⟨r + 1, 5, none⟩ (.int .u64 t)).heap[r + 1]? = some (.cells #[.int .u8 a, .int .u8 b, .int .u8 c, .int .u16 d, .int .u32 e, .int .u64 t, .int .u32 0, .bool false, .string ⟨#[]⟩] 28 (0, 0)) := (blk_set hF13 5 (.int .u64 t))
  have hB14 := (below_set (g := r + 1) (j := 5) (v := .int .u64 t) hB13 (by omega))
  generalize (w13.setCell ⟨r + 1, 5, none⟩ (.int .u64 t)) = w14 at hR14 hQ14 hF14 hB14 ⊢
  clear hR13 hQ13 hF13 hB13
  refine (RFixed_f (n := 4) hR14 (by omega) (by omega) (by omega) (by omega) (by omega)).mono ?_
  rintro e_ w15 ⟨rfl, hR15, ha15⟩
  have hQ15 := (ha15.2.2 w.heap.size (by omega)).trans hQ14
  have hF15 := (ha15.2.2 (r + 1) (by omega)).trans hF14
  have hB15 := below_alone hB14 ha15 (by omega)
  clear ha15 hR14 hQ14 hF14 hB14
  rw [hg'.out]
  have fz := fun i => blk_frozen hF15 i
  have fk6 : w15.cell? ⟨r + 1, 6, none⟩ = some (.int .u32 0) := (blk_cell hF15 6).trans rfl
  have fz6 : w15.frozen? ⟨r + 1, 6, none⟩ = false := blk_frozen hF15 6
  clear fz
  go_wp2_with fail
  clear fk6 fz6
  have hR16 := (RS.far hR15 (a := ⟨r + 1, 6, none⟩) (by show r ≠ r + 1; omega) (.int .u32 g))
  have hQ16 := (blk_far hQ15 (p := ⟨r + 1, 6, none⟩) (by show w.heap.size ≠ r + 1; omega) (.int .u32 g))
  have hF16 : (w15.setCell ⟨r + 1, 6, none⟩ (.int .u32 g)).heap[r + 1]? = some (.cells #[.int .u8 a, .int .u8 b, .int .u8 c, .int .u16 d, .int .u32 e, .int .u64 t, .int .u32 g, .bool false, .string ⟨#[]⟩] 28 (0, 0)) := (blk_set hF15 6 (.int .u32 g))
  have hB16 := (below_set (g := r + 1) (j := 6) (v := .int .u32 g) hB15 (by omega))
  generalize (w15.setCell ⟨r + 1, 6, none⟩ (.int .u32 g)) = w16 at hR16 hQ16 hF16 hB16 ⊢
  clear hR15 hQ15 hF15 hB15
  refine (RByte_f hR16 (by omega) (by omega) (by omega)).mono ?_
  rintro e_ w17 ⟨rfl, hR17, ha17⟩
  have hQ17 := (ha17.2.2 w.heap.size (by omega)).trans hQ16
  have hF17 := (ha17.2.2 (r + 1) (by omega)).trans hF16
  have hB17 := below_alone hB16 ha17 (by omega)
  clear ha17 hR16 hQ16 hF16 hB16
  rw [hx'.out]
  have hx1 : ((x : Int) == 1) = (x == 1) := by rw [Bool.eq_iff_iff, beq_iff_eq, beq_iff_eq]; omega
  have fz := fun i => blk_frozen hF17 i
  have fk7 : w17.cell? ⟨r + 1, 7, none⟩ = some (.bool false) := (blk_cell hF17 7).trans rfl
  have fz7 : w17.frozen? ⟨r + 1, 7, none⟩ = false := blk_frozen hF17 7
  clear fz
  go_wp2_with fail
  clear fk7 fz7
  have hR18 := (RS.far hR17 (a := ⟨r + 1, 7, none⟩) (by show r ≠ r + 1; omega) (.bool (x == 1)))
  have hQ18 := (blk_far hQ17 (p := ⟨r + 1, 7, none⟩) (by show w.heap.size ≠ r + 1; omega) (.bool (x == 1)))
  have hF18 : (w17.setCell ⟨r + 1, 7, none⟩ (.bool (x == 1))).heap[r + 1]? = some (.cells #[.int .u8 a, .int .u8 b, .int .u8 c, .int .u16 d, .int .u32 e, .int .u64 t, .int .u32 g, .bool (x == 1), .string ⟨#[]⟩] 28 (0, 0)) := (blk_set hF17 7 (.bool (x == 1)))
  have hB18 := (below_set (g := r + 1) (j := 7) (v := .bool (x == 1)) hB17 (by omega))
  generalize (w17.setCell ⟨r + 1, 7, none⟩ (.bool (x == 1))) = w18 at hR18 hQ18 hF18 hB18 ⊢
  clear hR17 hQ17 hF17 hB17
  rw [show ((s.size : Int) - 34) = ((s.size - 34 : Nat) : Int) by omega]
  refine (RRaw_ok (n := s.size - 34) hR18 (by omega) (by omega)).mono ?_
  rintro e_ w19 ⟨rfl, hR19, ha19⟩
  have hQ19 := (ha19.2.2 w.heap.size (by omega)).trans hQ18
  have hF19 := (ha19.2.2 (r + 1) (by omega)).trans hF18
  have hB19 := below_alone hB18 ha19 (by omega)
  clear ha19 hR18 hQ18 hF18 hB18
  rw [hbd'.out]
  have fz := fun i => blk_frozen hF19 i
  have fk8 : w19.cell? ⟨r + 1, 8, none⟩ = some (.string ⟨#[]⟩) := (blk_cell hF19 8).trans rfl
  have fz8 : w19.frozen? ⟨r + 1, 8, none⟩ = false := blk_frozen hF19 8
  clear fz
  go_wp2_with fail
  clear fk8 fz8
  have hR20 := (RS.far hR19 (a := ⟨r + 1, 8, none⟩) (by show r ≠ r + 1; omega) (.string bd))
  have hQ20 := (blk_far hQ19 (p := ⟨r + 1, 8, none⟩) (by show w.heap.size ≠ r + 1; omega) (.string bd))
  have hF20 : (w19.setCell ⟨r + 1, 8, none⟩ (.string bd)).heap[r + 1]? = some (.cells #[.int .u8 a, .int .u8 b, .int .u8 c, .int .u16 d, .int .u32 e, .int .u64 t, .int .u32 g, .bool (x == 1), .string bd] 28 (0, 0)) := (blk_set hF19 8 (.string bd))
  have hB20 := (below_set (g := r + 1) (j := 8) (v := .string bd) hB19 (by omega))
  generalize (w19.setCell ⟨r + 1, 8, none⟩ (.string bd)) = w20 at hR20 hQ20 hF20 hB20 ⊢
  clear hR19 hQ19 hF19 hB19
  refine (RFixed_f (n := 4) hR20 (by omega) (by omega) (by omega) (by omega) (by omega)).mono ?_
  rintro e_ w21 ⟨rfl, hR21, ha21⟩
  have hQ21 := (ha21.2.2 w.heap.size (by omega)).trans hQ20
  have hF21 := (ha21.2.2 (r + 1) (by omega)).trans hF20
  have hB21 := below_alone hB20 ha21 (by omega)
  clear ha21 hR20 hQ20 hF20 hB20
  rw [show 8 + (22 + (s.size - 34)) = s.size - 4 by omega, hy'.out]
  go_wp2_with fail
  refine (End_done hR21 (by omega)).mono ?_
  rintro e_ w_ ⟨rfl, me, rfl⟩
  have qk0 : w21.cell? ⟨w.heap.size, 0, none⟩ = some (.int .u8 0) := (blk_cell hQ21 0).trans rfl
  have qk1 : w21.cell? ⟨w.heap.size, 1, none⟩ = some (.int .u8 0) := (blk_cell hQ21 1).trans rfl
  have qk2 : w21.cell? ⟨w.heap.size, 2, none⟩ = some (.int .u8 0) := (blk_cell hQ21 2).trans rfl
  have qk3 : w21.cell? ⟨w.heap.size, 3, none⟩ = some (.int .u16 0) := (blk_cell hQ21 3).trans rfl
  have qk4 : w21.cell? ⟨w.heap.size, 4, none⟩ = some (.int .u32 0) := (blk_cell hQ21 4).trans rfl
  have qk5 : w21.cell? ⟨w.heap.size, 5, none⟩ = some (.int .u64 0) := (blk_cell hQ21 5).trans rfl
  have qk6 : w21.cell? ⟨w.heap.size, 6, none⟩ = some (.int .u32 0) := (blk_cell hQ21 6).trans rfl
  have qk7 : w21.cell? ⟨w.heap.size, 7, none⟩ = some (.bool false) := (blk_cell hQ21 7).trans rfl
  have qk8 : w21.cell? ⟨w.heap.size, 8, none⟩ = some (.string ⟨#[]⟩) := (blk_cell hQ21 8).trans rfl
  have qz0 : w21.frozen? ⟨w.heap.size, 0, none⟩ = false := blk_frozen hQ21 0
  have qz1 : w21.frozen? ⟨w.heap.size, 1, none⟩ = false := blk_frozen hQ21 1
  have qz2 : w21.frozen? ⟨w.heap.size, 2, none⟩ = false := blk_frozen hQ21 2
  have qz3 : w21.frozen? ⟨w.heap.size, 3, none⟩ = false := blk_frozen hQ21 3
  have qz4 : w21.frozen? ⟨w.heap.size, 4, none⟩ = false := blk_frozen hQ21 4
  have qz5 : w21.frozen? ⟨w.heap.size, 5, none⟩ = false := blk_frozen hQ21 5
  have qz6 : w21.frozen? ⟨w.heap.size, 6, none⟩ = false := blk_frozen hQ21 6
  have qz7 : w21.frozen? ⟨w.heap.size, 7, none⟩ = false := blk_frozen hQ21 7
  have qz8 : w21.frozen? ⟨w.heap.size, 8, none⟩ = false := blk_frozen hQ21 8
  have hsm2 : sm < 4294967296 := by rw [← hsm'.out]; exact sum_lt _
  by_cases hX : x ≤ 1
  · have cX : decide (1 < (x : Int)) = false := decide_eq_false (by omega)
    have wsm : IntKind.u64.wrap (sm : Int) = sm := by rw [IntKind.wrap_u64]; omega
    go_wp2_with fail
    refine (Sum_calls _ _ (by rw [ByteArray.size_extract]; omega)).mono ?_
    rintro e_ wS ⟨rfl, hbS⟩
    rw [hsm'.out]
    have hBd := pw_below_drewN hB21 me
    have hBS := below_then hBd (below_size hBd) hbS
    have hQS := (hbS.block _ (blk_lt hQ21)).trans (blk_drewN hQ21 me)
    have hFS := (hbS.block _ (blk_lt hF21)).trans (blk_drewN hF21 me)
    clear qk0 qz0 qk1 qz1 qk2 qz2 qk3 qz3 qk4 qz4 qk5 qz5 qk6 qz6 qk7 qz7 qk8 qz8
    have qk0 : wS.cell? ⟨w.heap.size, 0, none⟩ = some (.int .u8 0) := (blk_cell hQS 0).trans rfl
    have qk1 : wS.cell? ⟨w.heap.size, 1, none⟩ = some (.int .u8 0) := (blk_cell hQS 1).trans rfl
    have qk2 : wS.cell? ⟨w.heap.size, 2, none⟩ = some (.int .u8 0) := (blk_cell hQS 2).trans rfl
    have qk3 : wS.cell? ⟨w.heap.size, 3, none⟩ = some (.int .u16 0) := (blk_cell hQS 3).trans rfl
    have qk4 : wS.cell? ⟨w.heap.size, 4, none⟩ = some (.int .u32 0) := (blk_cell hQS 4).trans rfl
    have qk5 : wS.cell? ⟨w.heap.size, 5, none⟩ = some (.int .u64 0) := (blk_cell hQS 5).trans rfl
    have qk6 : wS.cell? ⟨w.heap.size, 6, none⟩ = some (.int .u32 0) := (blk_cell hQS 6).trans rfl
    have qk7 : wS.cell? ⟨w.heap.size, 7, none⟩ = some (.bool false) := (blk_cell hQS 7).trans rfl
    have qk8 : wS.cell? ⟨w.heap.size, 8, none⟩ = some (.string ⟨#[]⟩) := (blk_cell hQS 8).trans rfl
    have qz0 : wS.frozen? ⟨w.heap.size, 0, none⟩ = false := blk_frozen hQS 0
    have qz1 : wS.frozen? ⟨w.heap.size, 1, none⟩ = false := blk_frozen hQS 1
    have qz2 : wS.frozen? ⟨w.heap.size, 2, none⟩ = false := blk_frozen hQS 2
    have qz3 : wS.frozen? ⟨w.heap.size, 3, none⟩ = false := blk_frozen hQS 3
    have qz4 : wS.frozen? ⟨w.heap.size, 4, none⟩ = false := blk_frozen hQS 4
    have qz5 : wS.frozen? ⟨w.heap.size, 5, none⟩ = false := blk_frozen hQS 5
    have qz6 : wS.frozen? ⟨w.heap.size, 6, none⟩ = false := blk_frozen hQS 6
    have qz7 : wS.frozen? ⟨w.heap.size, 7, none⟩ = false := blk_frozen hQS 7
    have qz8 : wS.frozen? ⟨w.heap.size, 8, none⟩ = false := blk_frozen hQS 8
    have fk0 : wS.cell? ⟨r + 1, 0, none⟩ = some (.int .u8 a) := (blk_cell hFS 0).trans rfl
    have fk1 : wS.cell? ⟨r + 1, 1, none⟩ = some (.int .u8 b) := (blk_cell hFS 1).trans rfl
    have fk2 : wS.cell? ⟨r + 1, 2, none⟩ = some (.int .u8 c) := (blk_cell hFS 2).trans rfl
    have fk3 : wS.cell? ⟨r + 1, 3, none⟩ = some (.int .u16 d) := (blk_cell hFS 3).trans rfl
    have fk4 : wS.cell? ⟨r + 1, 4, none⟩ = some (.int .u32 e) := (blk_cell hFS 4).trans rfl
    have fk5 : wS.cell? ⟨r + 1, 5, none⟩ = some (.int .u64 t) := (blk_cell hFS 5).trans rfl
    have fk6 : wS.cell? ⟨r + 1, 6, none⟩ = some (.int .u32 g) := (blk_cell hFS 6).trans rfl
    have fk7 : wS.cell? ⟨r + 1, 7, none⟩ = some (.bool (x == 1)) := (blk_cell hFS 7).trans rfl
    have fk8 : wS.cell? ⟨r + 1, 8, none⟩ = some (.string bd) := (blk_cell hFS 8).trans rfl
    by_cases hY : y = sm
    · have cY : ((y : Int) != sm) = false := by rw [hY]; simp
      go_wp2_with fail
      refine (may_walk a b c d e t g (x == 1) bd wS (by omega) (by omega)).mono ?_
      rintro e_ wM ⟨rfl, hbM⟩
      have hBM := below_then hBS (below_size hBS) hbM
      have hQM := (hbM.block _ (blk_lt hQS)).trans hQS
      have hFM := (hbM.block _ (blk_lt hFS)).trans hFS
      clear qk0 qz0 fk0 qk1 qz1 fk1 qk2 qz2 fk2 qk3 qz3 fk3 qk4 qz4 fk4 qk5 qz5 fk5 qk6 qz6 fk6 qk7 qz7 fk7 qk8 qz8 fk8
      have qk0 : wM.cell? ⟨w.heap.size, 0, none⟩ = some (.int .u8 0) := (blk_cell hQM 0).trans rfl
      have qk1 : wM.cell? ⟨w.heap.size, 1, none⟩ = some (.int .u8 0) := (blk_cell hQM 1).trans rfl
      have qk2 : wM.cell? ⟨w.heap.size, 2, none⟩ = some (.int .u8 0) := (blk_cell hQM 2).trans rfl
      have qk3 : wM.cell? ⟨w.heap.size, 3, none⟩ = some (.int .u16 0) := (blk_cell hQM 3).trans rfl
      have qk4 : wM.cell? ⟨w.heap.size, 4, none⟩ = some (.int .u32 0) := (blk_cell hQM 4).trans rfl
      have qk5 : wM.cell? ⟨w.heap.size, 5, none⟩ = some (.int .u64 0) := (blk_cell hQM 5).trans rfl
      have qk6 : wM.cell? ⟨w.heap.size, 6, none⟩ = some (.int .u32 0) := (blk_cell hQM 6).trans rfl
      have qk7 : wM.cell? ⟨w.heap.size, 7, none⟩ = some (.bool false) := (blk_cell hQM 7).trans rfl
      have qk8 : wM.cell? ⟨w.heap.size, 8, none⟩ = some (.string ⟨#[]⟩) := (blk_cell hQM 8).trans rfl
      have qz0 : wM.frozen? ⟨w.heap.size, 0, none⟩ = false := blk_frozen hQM 0
      have qz1 : wM.frozen? ⟨w.heap.size, 1, none⟩ = false := blk_frozen hQM 1
      have qz2 : wM.frozen? ⟨w.heap.size, 2, none⟩ = false := blk_frozen hQM 2
      have qz3 : wM.frozen? ⟨w.heap.size, 3, none⟩ = false := blk_frozen hQM 3
      have qz4 : wM.frozen? ⟨w.heap.size, 4, none⟩ = false := blk_frozen hQM 4
      have qz5 : wM.frozen? ⟨w.heap.size, 5, none⟩ = false := blk_frozen hQM 5
      have qz6 : wM.frozen? ⟨w.heap.size, 6, none⟩ = false := blk_frozen hQM 6
      have qz7 : wM.frozen? ⟨w.heap.size, 7, none⟩ = false := blk_frozen hQM 7
      have qz8 : wM.frozen? ⟨w.heap.size, 8, none⟩ = false := blk_frozen hQM 8
      have fk0 : wM.cell? ⟨r + 1, 0, none⟩ = some (.int .u8 a) := (blk_cell hFM 0).trans rfl
      have fk1 : wM.cell? ⟨r + 1, 1, none⟩ = some (.int .u8 b) := (blk_cell hFM 1).trans rfl
      have fk2 : wM.cell? ⟨r + 1, 2, none⟩ = some (.int .u8 c) := (blk_cell hFM 2).trans rfl
      have fk3 : wM.cell? ⟨r + 1, 3, none⟩ = some (.int .u16 d) := (blk_cell hFM 3).trans rfl
      have fk4 : wM.cell? ⟨r + 1, 4, none⟩ = some (.int .u32 e) := (blk_cell hFM 4).trans rfl
      have fk5 : wM.cell? ⟨r + 1, 5, none⟩ = some (.int .u64 t) := (blk_cell hFM 5).trans rfl
      have fk6 : wM.cell? ⟨r + 1, 6, none⟩ = some (.int .u32 g) := (blk_cell hFM 6).trans rfl
      have fk7 : wM.cell? ⟨r + 1, 7, none⟩ = some (.bool (x == 1)) := (blk_cell hFM 7).trans rfl
      have fk8 : wM.cell? ⟨r + 1, 8, none⟩ = some (.string bd) := (blk_cell hFM 8).trans rfl
      by_cases hM : May a b c d e g (x == 1) bd.size
      · rw [decide_eq_true hM]
        go_wp2_with fail
        all_goals refine bodyPost_ret (v := .tuple #[.agg #[.int .u8 a, .int .u8 b, .int .u8 c, .int .u16 d, .int .u32 e, .int .u64 t, .int .u32 g, .bool (x == 1), .string bd], .int .i64 0]) (by simp [results, Try.results14, go_sem, qk0, qk1, qk2, qk3, qk4, qk5, qk6, qk7, qk8]) rfl ⟨congrArg Ending.returned (decV_ok ⟨hX, hY, hM⟩), ?_⟩
        all_goals repeat (first | (with_reducible exact hBM) | (with_reducible exact pw_below_drewN hBM _) | refine below_set ?_ (Nat.le_refl _))
      · rw [decide_eq_false hM]
        go_wp2_with fail
        all_goals refine bodyPost_ret (v := .tuple #[.agg #[.int .u8 0, .int .u8 0, .int .u8 0, .int .u16 0, .int .u32 0, .int .u64 0, .int .u32 0, .bool false, .string ⟨#[]⟩], .int .i64 210]) (by simp [results, Try.results14, go_sem, qk0, qk1, qk2, qk3, qk4, qk5, qk6, qk7, qk8]) rfl ⟨congrArg Ending.returned (decV_bad (fun z => hM z.2.2)), ?_⟩
        all_goals repeat (first | (with_reducible exact hBM) | (with_reducible exact pw_below_drewN hBM _) | refine below_set ?_ (Nat.le_refl _))
    · have cY : ((y : Int) != sm) = true := by rw [bne_iff_ne]; omega
      go_wp2_with fail
      all_goals refine bodyPost_ret (v := .tuple #[.agg #[.int .u8 0, .int .u8 0, .int .u8 0, .int .u16 0, .int .u32 0, .int .u64 0, .int .u32 0, .bool false, .string ⟨#[]⟩], .int .i64 210]) (by simp [results, Try.results14, go_sem, qk0, qk1, qk2, qk3, qk4, qk5, qk6, qk7, qk8]) rfl ⟨congrArg Ending.returned (decV_bad (fun z => hY z.2.1)), ?_⟩
      all_goals repeat (first | (with_reducible exact hBS) | (with_reducible exact pw_below_drewN hBS _) | refine below_set ?_ (Nat.le_refl _))
  · have cX : decide (1 < (x : Int)) = true := decide_eq_true (by omega)
    go_wp2_with fail
    all_goals refine bodyPost_ret (v := .tuple #[.agg #[.int .u8 0, .int .u8 0, .int .u8 0, .int .u16 0, .int .u32 0, .int .u64 0, .int .u32 0, .bool false, .string ⟨#[]⟩], .int .i64 210]) (by simp [results, Try.results14, go_sem, qk0, qk1, qk2, qk3, qk4, qk5, qk6, qk7, qk8]) rfl ⟨congrArg Ending.returned (decV_bad (fun z => hX z.1)), ?_⟩
    all_goals repeat (first | (with_reducible exact hB21) | (with_reducible exact pw_below_drewN hB21 _) | refine below_set ?_ (Nat.le_refl _))
end Go.Proofs.Ytgboppgghidgbaa.My
