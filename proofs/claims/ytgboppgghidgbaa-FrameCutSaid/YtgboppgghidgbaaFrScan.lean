/- A splitter's places: what stands there. -/
import Derived.Test.YtgboppgghidgbaaFrSpAll
import Derived.Test.YtgboppgghidgbaaFrRefAll
namespace Go.Proofs.Ytgboppgghidgbaa.My
open Go.RowKit Go.Proofs.YtgboppgghidgbaaW.PrintWords Go.Proofs.YtgboppgghidgbaaW.PrintLast Go.Proofs.YtgboppgghidgbaaW.PrintMore Go.Proofs.Ytgboppgghidgbaa Go.Proofs.Ytgboppgghidgbaa.PF
set_option linter.unusedSimpArgs false
set_option linter.unusedVariables false
set_option maxRecDepth 100000
set_option maxHeartbeats 800000
def MkB (t : ByteArray) : Bool := (markS.extract 0 (min t.size 2)).toList == (t.extract 0 (min t.size 2)).toList
def sumOk (t : ByteArray) : Bool := decide (t.size < 8 ∨ Crc.sum (bytesN (t.extract 0 4)) = fN t 4 4)
/-- What 'head' answers. -/
def headV (t : ByteArray) : Int × Bool := if MkB t = true then (if t.size < 4 then (0, true) else if fN t 2 2 < 34 ∨ 8192 < fN t 2 2 then (0, false) else (((fN t 2 2 : Nat) : Int), sumOk t)) else (0, false)
theorem head_val (s : ByteArray) (hs : s.size ≤ 562949953421312) : frame_head.f 12 s = some (headV s) := by
  have hmn : mn (s.size : Int) 2 = ((min s.size 2 : Nat) : Int) := by unfold mn; split <;> omega
  have hpre : strings_HasPrefix.f (⟨#[157, 227]⟩ : ByteArray) (s.extract 0 (min s.size 2)) = some ((markS.extract 0 (min s.size 2)).toList == (s.extract 0 (min s.size 2)).toList) := by
    have h1 : (s.extract 0 (min s.size 2)).size = min s.size 2 := by rw [ByteArray.size_extract]; omega
    have h2 : ((s.extract 0 (min s.size 2)).size : Int) ≤ ((⟨#[157, 227]⟩ : ByteArray).size : Int) := by
      show ((s.extract 0 (min s.size 2)).size : Int) ≤ 2
      omega
    rw [strings_HasPrefix.f, stringslite_HasPrefix.f, if_pos h2, if_pos (by omega), if_pos h2, Int.toNat_natCast, h1]
    rfl
  have step : frame_head.f 12 s = ((strings_HasPrefix.f (⟨#[157, 227]⟩ : ByteArray) (s.extract 0 (min s.size 2))).bind fun t141 => (if t141 = true then (if (s.size : Int) < 4 then (some (0, true)) else (if 2 < (s.size : Int) then (if 3 < (s.size : Int) then (if (Go.bits .or .i64 (wrap64 ((wrap64 (bt s 2)) * 256)) (wrap64 (bt s 3))) < 34 then (frame_head.j0 12 s (Go.bits .or .i64 (wrap64 ((wrap64 (bt s 2)) * 256)) (wrap64 (bt s 3))) true) else (frame_head.j0 12 s (Go.bits .or .i64 (wrap64 ((wrap64 (bt s 2)) * 256)) (wrap64 (bt s 3))) (decide ((Go.bits .or .i64 (wrap64 ((wrap64 (bt s 2)) * 256)) (wrap64 (bt s 3))) > 8192)))) else (none)) else (none))) else (some (0, false)))) := by
    rw [frame_head.f, hmn, if_pos (by omega), if_pos (by omega), Int.toNat_natCast]
  rw [step, hpre, Option.bind_some]
  clear step hpre hmn
  unfold headV MkB
  by_cases hb : (markS.extract 0 (min s.size 2)).toList == (s.extract 0 (min s.size 2)).toList
  · rw [if_pos hb]
    by_cases h4 : s.size < 4
    · rw [if_pos (by omega)]
      rw [if_pos hb, if_pos h4]
    · rw [if_neg (by omega), if_pos (by omega), if_pos (by omega), if_pos hb, if_neg h4]
      have hmk : s.extract 0 2 = markS := by
        rw [show min s.size 2 = 2 by omega, beq_iff_eq, ByteArray.toList_eq, ByteArray.toList_eq] at hb
        exact ByteArray.ext (Array.toList_inj.1 hb.symm)
      have hb2 : (s[2]).toNat < 256 := (s[2]).toNat_lt
      have hb3 : (s[3]'(by omega)).toNat < 256 := (s[3]'(by omega)).toNat_lt
      have hx := ext2 s (by omega)
      have hv : Go.bits .or .i64 (wrap64 ((wrap64 (bt s 2)) * 256)) (wrap64 (bt s 3)) = ((fN s 2 2 : Nat) : Int) := by
        have e2 : bt s 2 = ((s[2]).toNat : Int) := by
          unfold bt
          rw [show (2 : Int).toNat = 2 from rfl, dif_pos (by omega)]
        have e3 : bt s 3 = ((s[3]'(by omega)).toNat : Int) := by
          unfold bt
          rw [show (3 : Int).toNat = 3 from rfl, dif_pos (by omega)]
        rw [e2, e3, hx]
        have w2 : wrap64 ((s[2]).toNat : Int) = (s[2]).toNat := by unfold wrap64; omega
        have w3 : wrap64 ((s[3]'(by omega)).toNat : Int) = (s[3]'(by omega)).toNat := by unfold wrap64; omega
        have w4 : wrap64 (((s[2]).toNat : Int) * 256) = ((s[2]).toNat : Int) * 256 := by unfold wrap64; omega
        rw [w2, w3, w4]
        exact i64_join _ _ hb2 hb3
      rw [hv]
      generalize fN s 2 2 = n at hx
      have hn : n < 65536 := by omega
      by_cases hlo : n < 34
      · rw [if_pos (by omega), frame_head.j0, if_pos rfl, if_pos (.inl hlo)]
      · rw [if_neg (by omega)]
        by_cases hhi : 8192 < n
        · rw [decide_eq_true (by omega), frame_head.j0, if_pos rfl, if_pos (.inr hhi)]
        · rw [decide_eq_false (by omega), frame_head.j0, if_neg (by decide), if_neg (show ¬ (n < 34 ∨ 8192 < n) by omega)]
          unfold sumOk
          by_cases h8 : s.size < 8
          · rw [if_pos (by omega), decide_eq_true (.inl h8)]
          · rw [if_neg (by omega), if_pos (by omega), if_pos (by omega)]
            have h4s : (s.extract 4 8).size = 4 := by rw [ByteArray.size_extract]; omega
            have h4t : (s.extract 0 4).size ≤ 562949953421312 := by rw [ByteArray.size_extract]; omega
            rw [wire_Sum.f, sumF, if_pos h4t, Option.bind_some, if_pos (by omega), if_pos (by omega), wire_NewReader.f, Option.bind_some]
            dsimp only
            rw [fixed4_f _ h4s 11 (by omega), Option.bind_some]
            have hq := sum_lt (s.extract 0 4)
            have hwq : IntKind.u64.wrap ((Crc.sum (bytesN (s.extract 0 4)) : Nat) : Int) = ((Crc.sum (bytesN (s.extract 0 4)) : Nat) : Int) := by rw [IntKind.wrap_u64]; omega
            have h44 : hiN (natsOf (s.extract 4 8)) = fN s 4 4 := by unfold fN; rw [natsOf_extract]
            rw [hwq]
            dsimp only
            rw [h44]
            congr 2
            rw [Bool.eq_iff_iff]
            simp only [beq_iff_eq, decide_eq_true_eq]
            omega
  · rw [if_neg hb, if_neg hb]
/-- The length that the bytes at a place tell. -/
def nOf (t : ByteArray) : Nat := fN t 2 2
/-- A frame stands here. -/
def StP (t : ByteArray) : Prop := 34 ≤ t.size ∧ nOf t ≤ t.size ∧ DecOk (t.extract 0 (nOf t))
/-- One may come here. -/
def MayP (t : ByteArray) : Prop := t.size ≠ 0 ∧ MkB t = true ∧ (t.size < 4 ∨ (34 ≤ nOf t ∧ nOf t ≤ 8192 ∧ t.size < nOf t)) ∧ sumOk t = true
theorem ext_front (t : ByteArray) (n m : Nat) (h : m ≤ n) (hn : n ≤ t.size) : (t.extract 0 n).extract 0 m = t.extract 0 m := by
  rw [ByteArray.extract_extract]
  congr 1 <;> omega
theorem fN_frnt (t : ByteArray) (n p m : Nat) (h : p + m ≤ n) : fN (t.extract 0 n) p m = fN t p m := by
  unfold fN
  rw [natsOf_extract, List.drop_zero, Nat.sub_zero, List.drop_take, List.take_take]
  congr 2
  omega
theorem MkB_of (t : ByteArray) (h2 : 2 ≤ t.size) (h : t.extract 0 2 = markS) : MkB t = true := by
  unfold MkB
  rw [show min t.size 2 = 2 by omega, h]
  decide +kernel
theorem St_head (t : ByteArray) (h : StP t) : headV t = (((nOf t : Nat) : Int), true) ∧ 34 ≤ nOf t ∧ nOf t ≤ 8192 := by
  obtain ⟨h1, h2, hd⟩ := h
  obtain ⟨⟨a1, a2⟩, a3, a4, a5⟩ := hd.1
  have hsz : (t.extract 0 (nOf t)).size = nOf t := by rw [ByteArray.size_extract]; omega
  rw [hsz] at a1 a2
  rw [ext_front t _ 2 (by omega) h2] at a3
  rw [ext_front t _ 4 (by omega) h2, fN_frnt t _ 4 4 (by omega)] at a5
  refine ⟨?_, a1, a2⟩
  have hs : sumOk t = true := by unfold sumOk; exact decide_eq_true (.inr a5.symm)
  unfold headV
  rw [if_pos (MkB_of t (by omega) a3), if_neg (by omega), if_neg (show ¬ (fN t 2 2 < 34 ∨ 8192 < fN t 2 2) by have := a1; have := a2; unfold nOf at *; omega), hs]
  rfl
theorem May_head (t : ByteArray) (h : MayP t) : (headV t).2 = true ∧ ((headV t).1 = 0 ∨ (t.size : Int) < (headV t).1) := by
  obtain ⟨h0, h1, h2, h3⟩ := h
  unfold headV
  rw [if_pos h1]
  by_cases h4 : t.size < 4
  · rw [if_pos h4]; exact ⟨rfl, .inl rfl⟩
  · rw [if_neg h4]
    rcases h2 with h2 | ⟨h5, h6, h7⟩
    · exact absurd h2 h4
    · rw [if_neg (show ¬ (fN t 2 2 < 34 ∨ 8192 < fN t 2 2) by unfold nOf at *; omega)]
      exact ⟨h3, .inr (by show (t.size : Int) < ((fN t 2 2 : Nat) : Int); unfold nOf at h7; omega)⟩
theorem cls1 (t : ByteArray) (h : (headV t).2 = false) : ¬ StP t ∧ ¬ MayP t := by
  refine ⟨fun hs => ?_, fun hm => ?_⟩
  · rw [(St_head t hs).1] at h; cases h
  · rw [(May_head t hm).1] at h; cases h
theorem cls2 (t : ByteArray) (h0 : t.size ≠ 0) (h : (headV t).2 = true) (hn : (headV t).1 = 0 ∨ (t.size : Int) < (headV t).1) : ¬ StP t ∧ MayP t := by
  refine ⟨fun hs => ?_, ?_⟩
  · have h1 := St_head t hs
    rw [h1.1] at hn
    have h2 := hs.2.1
    rcases hn with hn | hn
    · have hn : ((nOf t : Nat) : Int) = 0 := hn; omega
    · have hn : (t.size : Int) < ((nOf t : Nat) : Int) := hn; omega
  · unfold headV at h hn
    by_cases hk : MkB t = true
    · rw [if_pos hk] at h hn
      by_cases h4 : t.size < 4
      · exact ⟨h0, hk, .inl h4, by unfold sumOk; exact decide_eq_true (.inl (by omega))⟩
      · rw [if_neg h4] at h hn
        by_cases hb : fN t 2 2 < 34 ∨ 8192 < fN t 2 2
        · rw [if_pos hb] at h; cases h
        · rw [if_neg hb] at h hn
          refine ⟨h0, hk, .inr ⟨by unfold nOf; omega, by unfold nOf; omega, ?_⟩, h⟩
          unfold nOf
          rcases hn with hn | hn
          · have hn : ((fN t 2 2 : Nat) : Int) = 0 := hn; omega
          · have hn : (t.size : Int) < ((fN t 2 2 : Nat) : Int) := hn; omega
    · rw [if_neg hk] at h; cases h
theorem cls3 (t : ByteArray) (h : (headV t).2 = true) (hn : ¬ ((headV t).1 = 0 ∨ (t.size : Int) < (headV t).1)) : (headV t).1 = ((nOf t : Nat) : Int) ∧ 34 ≤ nOf t ∧ nOf t ≤ t.size ∧ nOf t ≤ 8192 ∧ ¬ MayP t ∧ (DecOk (t.extract 0 (nOf t)) → StP t) := by
  have hm : ¬ MayP t := fun hm => hn (May_head t hm).2
  unfold headV at h hn ⊢
  by_cases hk : MkB t = true
  · rw [if_pos hk] at h hn ⊢
    by_cases h4 : t.size < 4
    · rw [if_pos h4] at hn; exact absurd (.inl rfl) hn
    · rw [if_neg h4] at h hn ⊢
      by_cases hb : fN t 2 2 < 34 ∨ 8192 < fN t 2 2
      · rw [if_pos hb] at h; cases h
      · rw [if_neg hb] at h hn ⊢
        have h5 : ¬ ((t.size : Int) < ((fN t 2 2 : Nat) : Int)) := fun h6 => hn (.inr h6)
        have e : nOf t = fN t 2 2 := rfl
        exact ⟨rfl, by omega, by omega, by omega, hm, fun hd => ⟨by omega, by omega, hd⟩⟩
  · rw [if_neg hk] at h; cases h
theorem MkB_first (t : ByteArray) (h0 : 0 < t.size) (h : MkB t = true) : t[0]! = 157 := by
  unfold MkB at h
  rw [beq_iff_eq, ByteArray.toList_eq, ByteArray.toList_eq] at h
  have h1 := ByteArray.ext (Array.toList_inj.1 h)
  have h2 : (t.extract 0 (min t.size 2))[0]! = (markS.extract 0 (min t.size 2))[0]! := by rw [h1]
  have h3 : (markS.extract 0 (min t.size 2))[0]! = 157 := by
    by_cases h4 : t.size < 2
    · rw [show min t.size 2 = 1 by omega]; decide +kernel
    · rw [show min t.size 2 = 2 by omega]; decide +kernel
  rw [h3, getElem!_pos _ 0 (by rw [ByteArray.size_extract]; omega), ByteArray.getElem_extract] at h2
  rw [getElem!_pos t 0 h0]
  simpa using h2
theorem skip_first (t : ByteArray) (h0 : 0 < t.size) (h : t[0]! ≠ 157) : ¬ StP t ∧ ¬ MayP t := by
  have hk : (headV t).2 = false := by
    unfold headV
    rw [if_neg (fun hk => h (MkB_first t h0 hk))]
  exact cls1 t hk
open Classical in
/-- What is found from a place on: where, and what (2: a frame, 1: one may come, 0: nothing). -/
noncomputable def scanN (s : ByteArray) : Nat → Nat → Nat × Nat
  | 0, _ => (s.size, 0)
  | f + 1, i => if StP (s.extract i s.size) then (i, 2) else if MayP (s.extract i s.size) then (i, 1) else scanN s f (i + 1)
noncomputable def scanF (s : ByteArray) (i : Nat) : Nat × Nat := scanN s (s.size - i) i
theorem scan_end (s : ByteArray) : scanF s s.size = (s.size, 0) := by unfold scanF; rw [Nat.sub_self, scanN]
theorem scan_st (s : ByteArray) (i : Nat) (hi : i < s.size) (h : StP (s.extract i s.size)) : scanF s i = (i, 2) := by
  unfold scanF
  rw [show s.size - i = (s.size - i - 1) + 1 by omega, scanN, if_pos h]
theorem scan_may (s : ByteArray) (i : Nat) (hi : i < s.size) (h : ¬ StP (s.extract i s.size)) (h2 : MayP (s.extract i s.size)) : scanF s i = (i, 1) := by
  unfold scanF
  rw [show s.size - i = (s.size - i - 1) + 1 by omega, scanN, if_neg h, if_pos h2]
theorem scan_skip (s : ByteArray) (i : Nat) (hi : i < s.size) (h : ¬ StP (s.extract i s.size)) (h2 : ¬ MayP (s.extract i s.size)) : scanF s i = scanF s (i + 1) := by
  unfold scanF
  rw [show s.size - i = (s.size - (i + 1)) + 1 by omega, scanN, if_neg h, if_neg h2]
theorem ext_at0 (s : ByteArray) (i : Nat) (hi : i < s.size) : (s.extract i s.size)[0]! = s[i]! := by
  rw [getElem!_pos _ 0 (by rw [ByteArray.size_extract]; omega), ByteArray.getElem_extract, getElem!_pos s i hi]
  simp
theorem scan_jump (s : ByteArray) : ∀ (m i : Nat), i + m ≤ s.size → (∀ k, k < m → s[i + k]! ≠ 157) → scanF s i = scanF s (i + m)
  | 0, i, _, _ => rfl
  | m + 1, i, h, hk => by
    have h1 := skip_first (s.extract i s.size) (by rw [ByteArray.size_extract]; omega) (by rw [ext_at0 s i (by omega)]; exact hk 0 (by omega))
    rw [scan_skip s i (by omega) h1.1 h1.2, scan_jump s m (i + 1) (by omega) (fun k hkm => by have := hk (k + 1) (by omega); rw [show i + 1 + k = i + (k + 1) by omega]; exact this), show i + 1 + m = i + (m + 1) by omega]
theorem idx_cases (T : ByteArray) : (firstIdx T 157 = -1 ∧ ∀ k, k < T.size → T[k]! ≠ 157) ∨ ∃ j : Nat, j < T.size ∧ firstIdx T 157 = (j : Int) ∧ ∀ k, k < j → T[k]! ≠ 157 := by
  by_cases h : ∀ k, k < T.size → T[k]! ≠ 157
  · exact .inl ⟨firstIdx_none T 157 h, h⟩
  · right
    have hex : ∃ k, k < T.size ∧ T[k]! = 157 := by
      apply Classical.byContradiction
      intro hn
      exact h (fun k hk he => hn ⟨k, hk, he⟩)
    have hmin : ∀ n : Nat, (∃ k, k < n ∧ k < T.size ∧ T[k]! = 157) → ∃ j, j < T.size ∧ T[j]! = 157 ∧ ∀ k, k < j → T[k]! ≠ 157 := by
      intro n
      induction n with
      | zero => rintro ⟨k, hk, _⟩; omega
      | succ n ih =>
        intro hk
        by_cases h2 : ∃ k, k < n ∧ k < T.size ∧ T[k]! = 157
        · exact ih h2
        · obtain ⟨k, hk1, hk2, hk3⟩ := hk
          refine ⟨k, hk2, hk3, fun m hm he => h2 ⟨m, by omega, by omega, he⟩⟩
    obtain ⟨k, hk1, hk2⟩ := hex
    obtain ⟨j, hj1, hj2, hj3⟩ := hmin (k + 1) ⟨k, by omega, hk1, hk2⟩
    exact ⟨j, hj1, firstIdx_at T 157 j hj1 hj2 hj3, hj3⟩
theorem ext_ext (s : ByteArray) (i j : Nat) (h : i + j ≤ s.size) : (s.extract i s.size).extract j (s.extract i s.size).size = s.extract (i + j) s.size := by
  rw [ByteArray.extract_extract, ByteArray.size_extract]
  congr 1
  omega
theorem ext_at (s : ByteArray) (i k : Nat) (h : i + k < s.size) : (s.extract i s.size)[k]! = s[i + k]! := by
  rw [getElem!_pos _ k (by rw [ByteArray.size_extract]; omega), ByteArray.getElem_extract, getElem!_pos s (i + k) h]
end Go.Proofs.Ytgboppgghidgbaa.My
