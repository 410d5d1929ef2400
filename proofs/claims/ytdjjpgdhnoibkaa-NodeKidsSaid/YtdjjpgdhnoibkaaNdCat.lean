/- slices.Clone and slices.Concat, by hand. -/
import Derived.Test.YtdjjpgdhnoibkaaNdEnc
import Derived.Lib.SliceRun
namespace Go.Proofs.Ytdjjpgdhnoibkaa.My
open Go.RowKit Go.Proofs.YtdjjpgdhnoibkaaW.PrintWords Go.Proofs.YtdjjpgdhnoibkaaW.PrintLast Go.Proofs.YtdjjpgdhnoibkaaW.PrintMore Go.Proofs.Ytdjjpgdhnoibkaa Go.Proofs.Ytdjjpgdhnoibkaa.PZ
set_option linter.unusedSimpArgs false
set_option linter.unusedVariables false
set_option maxRecDepth 100000
set_option maxHeartbeats 1600000
attribute [local go_sem high] conv_rune str_leq str_gtr
theorem cis0 : (Try.prog.info? 9).isSome = true := by kernel_rfl
theorem ciu0 : (Try.prog.info? 45).isSome = true := by kernel_rfl
theorem flat_take {α : Type} (l : List (List α)) (i : Nat) : (l.take i).flatten.length ≤ l.flatten.length := by
  have h := congrArg List.length (congrArg List.flatten (List.take_append_drop i l))
  rw [List.flatten_append, List.length_append] at h
  omega
theorem slices_Grow_string_string.calls00 (w : World) :
    Calls Try.prog 107 #[.slice none 0 0, .int .i64 0] w fun e w' => ∃ v1_, e = .returned v1_ ∧ Kd.R Kd.string 9 w' w.heap.size (fun _ => True) v1_ [] ∧ Below w.heap.size w w' := by
  go_enter Try.func107, Try.ntmps107
  go_wp2_with fail
  go_ret
  exact ⟨_, rfl, Kd.R_nil _ _ _ _ _, Below.refl _ _⟩
theorem slices_Grow_string_string.calls0 (N : Nat) (w : World) (hN : N ≤ 1000000) :
    Calls Try.prog 107 #[.slice none 0 0, .int .i64 (N : Int)] w fun e w' => ∃ v1_, e = .returned v1_ ∧ Kd.R Kd.string 9 w' w.heap.size (fun _ => True) v1_ [] ∧ Below w.heap.size w w' := by
  rcases Nat.eq_zero_or_pos N with h0 | h0
  · rw [h0]
    exact slices_Grow_string_string.calls00 w
  · have d1 : decide ((N : Int) < 0) = false := decide_eq_false (by omega)
    have w1 : wrap64 ((N : Int) - 0) = (N : Int) := by unfold wrap64; omega
    have w2 : wrap64 (N : Int) = (N : Int) := by unfold wrap64; omega
    have d2 : decide ((N : Int) > 0) = true := decide_eq_true (by omega)
    have HN := Aside0.mk hN
    clear hN
    go_enter Try.func107, Try.ntmps107
    go_wp2_with (first | ((with_reducible refine gate_builtin (b := .append) (xs := #[.tmp 20, .tmp 21]) rfl ?_); (try (refine gate_guard (by rfl) ?_; dsimp only)); at_builtin; refine Kd.R_append_zeros (kx := .i64) Kd.string (w0 := w) w.heap.size rfl (.tmp 20) (.tmp 21) 23 3 9 (.string ⟨#[]⟩) 16 rfl Try.underlying23 Try.underlying3 info9 rfl (by decide) (by omega) (.slice none 0 0) ([] : List ByteArray) (⟨#[]⟩ : ByteArray) (N : Int) (fun _ => True) rfl ?a4 (by exact rfl) (fun _ _ => trivial) ?aO (by omega) ?aB ?aS ?aL ?_; (case a4 => first | exact congrArg (Value.int .i64) w2 | rfl); (case aO => exact Kd.R_nil _ _ _ _ _); (case aB => first | exact Below.refl _ _ | exact below_drew1 (Below.refl _ _)); (case aS => exact Nat.le_refl _); (case aL => have h9 := HN.out; rw [Int.toNat_natCast, List.length_nil]; omega); intro v1 wn ho hb hg hat; obtain ⟨A, c, rfl⟩ := Kd.R_slice ho; have hR2 := Kd.R_take ho (m := 0) (Nat.zero_le _); rw [List.take_zero] at hR2; have hlc : ([] ++ List.replicate (N : Int).toNat (⟨#[]⟩ : ByteArray)).length ≤ c := (Kd.R_reads' ho).2.1; clear ho hat hg; generalize ([] ++ List.replicate (N : Int).toNat (⟨#[]⟩ : ByteArray)).length = n at hlc ⊢; have ct := cut_to (P := Try.prog) 23 9 .i64 Try.underlying23 (Option.some_get (cis0)).symm A n c 0 (by decide) (by omega) hlc; have HRR := Aside0.mk hR2; have HBB := Aside0.mk hb; clear hR2 hb))
    go_ret
    exact ⟨_, rfl, HRR.out, HBB.out⟩
def slices_Concat_string_string.f (l0 : List (List ByteArray)) : Option (List ByteArray) := if l0.length ≤ 100 ∧ l0.flatten.length ≤ 1000000 then some l0.flatten else none
theorem slices_Concat_string_string.at (w : World) (A0 : Option Addr) (l0 : List (List ByteArray)) (h : Kd.C (Kd.slice 9 Kd.string) w A0 l0.length l0) (i : Nat) (hi : i < l0.length) : ∃ ad A c, A0 = some ad ∧ w.cell? (ad.add i) = some (.slice A l0[i].length c) ∧ l0[i].length ≤ c ∧ Kd.C Kd.string w A l0[i].length l0[i] := by
  obtain ⟨ad, c, e, _, hK, hc⟩ := Kd.C_get h ([] : List ByteArray) (i : Int) (by omega) (by omega)
  have hx : l0.getD (i : Int).toNat [] = l0[i] := by
    rw [Int.toNat_natCast, List.getD_eq_getElem?_getD, List.getElem?_eq_getElem hi]
    rfl
  rw [hx] at hK
  obtain ⟨A, cc, rfl, hl, hC⟩ := hK
  have h0 := hc 0 _ rfl
  rw [Int.toNat_natCast] at h0
  have e1 : i * (Kd.slice 9 Kd.string).sz + 0 = i := by show i * 1 + 0 = i; omega
  rw [e1] at h0
  exact ⟨ad, A, cc, e, h0, hl, hC⟩
theorem slices_Concat_string_string.calls (A0 : Option Addr) (c0 : Nat) (l0 : List (List ByteArray)) (r : List ByteArray) (w : World) (hr0 : Kd.C (Kd.slice 9 Kd.string) w A0 l0.length l0) (hc0 : l0.length ≤ c0) (h : slices_Concat_string_string.f l0 = some r) :
    Calls Try.prog 80 #[.slice A0 l0.length c0] w fun e w' => ∃ v1_, e = .returned v1_ ∧ Kd.R Kd.string 9 w' w.heap.size (fun _ => True) v1_ r ∧ Below w.heap.size w w' := by
  unfold slices_Concat_string_string.f at h
  split at h
  case isFalse => cases h
  rename_i hl
  obtain rfl := Option.some.inj h
  have HR := Aside0.mk hr0
  have HL := Aside0.mk hl
  clear h hl hr0
  go_enter Try.func80, Try.ntmps80
  go_wp2_with fail
  go_loopw [3, 11] (fun sv iv wr => ∃ i : Nat, iv = .int .i64 i ∧ sv = .int .i64 ((l0.take i).flatten.length : Nat) ∧ i ≤ l0.length ∧ wr = w) (fun _ iv _ => l0.length - vNat iv)
  case atStart => exact ⟨0, rfl, rfl, Nat.zero_le _, rfl⟩
  case round =>
    obtain ⟨i, rfl, rfl, hi, hw⟩ := hrel
    obtain rfl := hw.symm
    by_cases hil : i < l0.length
    · have d1 : decide ((i : Int) < (l0.length : Int)) = true := decide_eq_true (by omega)
      have m0 : (0 : Int) ≤ (i : Int) := by omega
      have m1 : (i : Int) < (l0.length : Int) := by omega
      obtain ⟨ad, A, c, rfl, hx, -, -⟩ := slices_Concat_string_string.at w A0 l0 HR.out i hil
      have hfl : (l0.take (i + 1)).flatten.length = (l0.take i).flatten.length + l0[i].length := by rw [List.take_succ_eq_append_getElem hil, List.flatten_append, List.length_append]; simp
      have hle : (l0.take (i + 1)).flatten.length ≤ l0.flatten.length := flat_take l0 (i + 1)
      rw [hfl] at hle
      generalize l0[i].length = n at hx hfl hle
      have h1m := HL.out.2
      have w1 : wrap64 (((l0.take i).flatten.length : Int) + (n : Int)) = (((l0.take i).flatten.length + n : Nat) : Int) := by unfold wrap64; omega
      generalize (l0.take i).flatten.length = s at w1 hfl hle ⊢
      obtain ⟨s2, hs2⟩ : ∃ s2, s2 = s + n := ⟨_, rfl⟩
      rw [← hs2] at w1 hfl
      have d2 : decide ((s2 : Int) < 0) = false := decide_eq_false (by omega)
      have w2 : wrap64 ((i : Int) + 1) = ((i + 1 : Nat) : Int) := w64S i (by have := HL.out.1; omega)
      have HF := Aside0.mk hfl
      clear hfl hle hs2 h1m
      go_wp2_with fail
      go_roundw
      case rel => exact ⟨i + 1, by rw [w2], by rw [w1, HF.out], hil, by trivial⟩
      case measure => rw [w2]; simp only [vNat]; omega
    · have d1 : decide ((i : Int) < (l0.length : Int)) = false := decide_eq_false (by omega)
      have ht : l0.take i = l0 := List.take_of_length_le (by omega)
      rw [ht]
      clear ht
      have hN1 := HL.out.2
      generalize hN : l0.flatten.length = N at hN1
      have HN := Aside0.mk hN
      clear hN
      go_wp2_with fail
      refine (slices_Grow_string_string.calls0 N w hN1).mono ?_
      rintro e_ w2 ⟨v1, rfl, hR1, hb1⟩
      have H1 := Aside0.mk hR1
      have HB := Aside0.mk hb1
      clear hR1 hb1
      go_wp2_with fail
      have HR2 := HR
      go_loopw [6, 27] (fun nv iv wr => ∃ i : Nat, iv = .int .i64 i ∧ i ≤ l0.length ∧ Kd.R Kd.string 9 wr w.heap.size (fun _ => True) nv (l0.take i).flatten ∧ Below w.heap.size w wr) (fun _ iv _ => l0.length - vNat iv)
      case atStart => exact ⟨0, rfl, Nat.zero_le _, H1.out, HB.out⟩
      case round =>
        obtain ⟨j, rfl, hj, hRj, hBj⟩ := hrel
        have HJ := Aside0.mk hRj
        have HBJ := Aside0.mk hBj
        clear hRj hBj
        by_cases hjl : j < l0.length
        · have e1 : decide ((j : Int) < (l0.length : Int)) = true := decide_eq_true (by omega)
          have m0 : (0 : Int) ≤ (j : Int) := by omega
          have m1 : (j : Int) < (l0.length : Int) := by omega
          obtain ⟨ad, A, c, rfl, hx, -, hC⟩ := slices_Concat_string_string.at wr A0 l0 (Kd.C_below HR.out HBJ.out) j hjl
          have hfl : (l0.take (j + 1)).flatten = (l0.take j).flatten ++ l0[j] := by rw [List.take_succ_eq_append_getElem hjl, List.flatten_append]; simp
          have hle : (l0.take (j + 1)).flatten.length ≤ l0.flatten.length := flat_take l0 (j + 1)
          rw [hfl, List.length_append] at hle
          have hle2 : (l0.take j).flatten.length + l0[j].length ≤ 1000000 := Nat.le_trans hle HL.out.2
          generalize l0[j] = x at hx hC hfl hle2
          have w3 : wrap64 ((j : Int) + 1) = ((j + 1 : Nat) : Int) := w64S j (by have := HL.out.1; omega)
          have HF := Aside0.mk hfl
          have HC := Aside0.mk hC
          have HLE := Aside0.mk hle2
          clear hfl hle hC hle2
          go_wp2_with (first | ((with_reducible refine gate_builtin (b := .append) (xs := #[.tmp 31, .tmp 32]) rfl ?_); (try (refine gate_guard (by rfl) ?_; dsimp only)); at_builtin; refine Kd.R_append_rows Kd.string (w0 := w) w.heap.size rfl (.tmp 31) (.tmp 32) 23 9 (.string ⟨#[]⟩) 16 rfl Try.underlying23 info9 rfl (by decide) (by omega) _ (l0.take j).flatten x _ _ _ (fun _ => True) (fun _ => False) rfl rfl ?aO ?aR (fun _ _ h => h) (fun _ h => h.elim) ?aF ?aB ?aS ?aL ?_; (case aR => exact HC.out); (case aB => exact HBJ.out); (case aF => exact (fun _ _ => trivial)); (case aO => exact HJ.out); (case aS => exact HBJ.out.size); (case aL => have h9 := HLE.out; omega); intro v105 w13 ho hb hg hat; rw [← HF.out] at ho; have HO := Aside0.mk ho; have HBO := Aside0.mk hb; clear ho hb hg hat))
          go_roundw
          case rel => exact ⟨j + 1, by rw [w3], hjl, HO.out, HBO.out⟩
          case measure => rw [w3]; simp only [vNat]; omega
        · have e1 : decide ((j : Int) < (l0.length : Int)) = false := decide_eq_false (by omega)
          have ht : l0.take j = l0 := List.take_of_length_le (by omega)
          go_wp2_with fail
          go_ret
          have h9 := HJ.out
          rw [ht] at h9
          exact ⟨_, rfl, h9, HBJ.out⟩
theorem slices_Grow_uint32_uint32.calls00 (w : World) :
    Calls Try.prog 108 #[.slice none 0 0, .int .i64 0] w fun e w' => ∃ v1_, e = .returned v1_ ∧ Kd.R (Kd.int .u32) 45 w' w.heap.size (fun _ => True) v1_ [] ∧ Below w.heap.size w w' := by
  go_enter Try.func108, Try.ntmps108
  go_wp2_with fail
  go_ret
  exact ⟨_, rfl, Kd.R_nil _ _ _ _ _, Below.refl _ _⟩
theorem slices_Grow_uint32_uint32.calls0 (N : Nat) (w : World) (hN : N ≤ 1000000) :
    Calls Try.prog 108 #[.slice none 0 0, .int .i64 (N : Int)] w fun e w' => ∃ v1_, e = .returned v1_ ∧ Kd.R (Kd.int .u32) 45 w' w.heap.size (fun _ => True) v1_ [] ∧ Below w.heap.size w w' := by
  rcases Nat.eq_zero_or_pos N with h0 | h0
  · rw [h0]
    exact slices_Grow_uint32_uint32.calls00 w
  · have d1 : decide ((N : Int) < 0) = false := decide_eq_false (by omega)
    have w1 : wrap64 ((N : Int) - 0) = (N : Int) := by unfold wrap64; omega
    have w2 : wrap64 (N : Int) = (N : Int) := by unfold wrap64; omega
    have d2 : decide ((N : Int) > 0) = true := decide_eq_true (by omega)
    have HN := Aside0.mk hN
    clear hN
    go_enter Try.func108, Try.ntmps108
    go_wp2_with (first | ((with_reducible refine gate_builtin (b := .append) (xs := #[.tmp 20, .tmp 21]) rfl ?_); (try (refine gate_guard (by rfl) ?_; dsimp only)); at_builtin; refine Kd.R_append_zeros (kx := .i64) (Kd.int .u32) (w0 := w) w.heap.size rfl (.tmp 20) (.tmp 21) 24 3 45 (.int .u32 0) 4 rfl Try.underlying24 Try.underlying3 info45 rfl (by decide) (by omega) (.slice none 0 0) ([] : List Int) (0 : Int) (N : Int) (fun _ => True) rfl ?a4 (by exact rfl) (fun _ _ => trivial) ?aO (by omega) ?aB ?aS ?aL ?_; (case a4 => first | exact congrArg (Value.int .i64) w2 | rfl); (case aO => exact Kd.R_nil _ _ _ _ _); (case aB => first | exact Below.refl _ _ | exact below_drew1 (Below.refl _ _)); (case aS => exact Nat.le_refl _); (case aL => have h9 := HN.out; rw [Int.toNat_natCast, List.length_nil]; omega); intro v1 wn ho hb hg hat; obtain ⟨A, c, rfl⟩ := Kd.R_slice ho; have hR2 := Kd.R_take ho (m := 0) (Nat.zero_le _); rw [List.take_zero] at hR2; have hlc : ([] ++ List.replicate (N : Int).toNat (0 : Int)).length ≤ c := (Kd.R_reads' ho).2.1; clear ho hat hg; generalize ([] ++ List.replicate (N : Int).toNat (0 : Int)).length = n at hlc ⊢; have ct := cut_to (P := Try.prog) 24 45 .i64 Try.underlying24 (Option.some_get (ciu0)).symm A n c 0 (by decide) (by omega) hlc; have HRR := Aside0.mk hR2; have HBB := Aside0.mk hb; clear hR2 hb))
    go_ret
    exact ⟨_, rfl, HRR.out, HBB.out⟩
def slices_Concat_uint32_uint32.f (l0 : List (List Int)) : Option (List Int) := if l0.length ≤ 100 ∧ l0.flatten.length ≤ 1000000 then some l0.flatten else none
theorem slices_Concat_uint32_uint32.at (w : World) (A0 : Option Addr) (l0 : List (List Int)) (h : Kd.C (Kd.slice 45 (Kd.int .u32)) w A0 l0.length l0) (i : Nat) (hi : i < l0.length) : ∃ ad A c, A0 = some ad ∧ w.cell? (ad.add i) = some (.slice A l0[i].length c) ∧ l0[i].length ≤ c ∧ Kd.C (Kd.int .u32) w A l0[i].length l0[i] := by
  obtain ⟨ad, c, e, _, hK, hc⟩ := Kd.C_get h ([] : List Int) (i : Int) (by omega) (by omega)
  have hx : l0.getD (i : Int).toNat [] = l0[i] := by
    rw [Int.toNat_natCast, List.getD_eq_getElem?_getD, List.getElem?_eq_getElem hi]
    rfl
  rw [hx] at hK
  obtain ⟨A, cc, rfl, hl, hC⟩ := hK
  have h0 := hc 0 _ rfl
  rw [Int.toNat_natCast] at h0
  have e1 : i * (Kd.slice 45 (Kd.int .u32)).sz + 0 = i := by show i * 1 + 0 = i; omega
  rw [e1] at h0
  exact ⟨ad, A, cc, e, h0, hl, hC⟩
theorem slices_Concat_uint32_uint32.calls (A0 : Option Addr) (c0 : Nat) (l0 : List (List Int)) (r : List Int) (w : World) (hr0 : Kd.C (Kd.slice 45 (Kd.int .u32)) w A0 l0.length l0) (hc0 : l0.length ≤ c0) (h : slices_Concat_uint32_uint32.f l0 = some r) :
    Calls Try.prog 81 #[.slice A0 l0.length c0] w fun e w' => ∃ v1_, e = .returned v1_ ∧ Kd.R (Kd.int .u32) 45 w' w.heap.size (fun _ => True) v1_ r ∧ Below w.heap.size w w' := by
  unfold slices_Concat_uint32_uint32.f at h
  split at h
  case isFalse => cases h
  rename_i hl
  obtain rfl := Option.some.inj h
  have HR := Aside0.mk hr0
  have HL := Aside0.mk hl
  clear h hl hr0
  go_enter Try.func81, Try.ntmps81
  go_wp2_with fail
  go_loopw [3, 11] (fun sv iv wr => ∃ i : Nat, iv = .int .i64 i ∧ sv = .int .i64 ((l0.take i).flatten.length : Nat) ∧ i ≤ l0.length ∧ wr = w) (fun _ iv _ => l0.length - vNat iv)
  case atStart => exact ⟨0, rfl, rfl, Nat.zero_le _, rfl⟩
  case round =>
    obtain ⟨i, rfl, rfl, hi, hw⟩ := hrel
    obtain rfl := hw.symm
    by_cases hil : i < l0.length
    · have d1 : decide ((i : Int) < (l0.length : Int)) = true := decide_eq_true (by omega)
      have m0 : (0 : Int) ≤ (i : Int) := by omega
      have m1 : (i : Int) < (l0.length : Int) := by omega
      obtain ⟨ad, A, c, rfl, hx, -, -⟩ := slices_Concat_uint32_uint32.at w A0 l0 HR.out i hil
      have hfl : (l0.take (i + 1)).flatten.length = (l0.take i).flatten.length + l0[i].length := by rw [List.take_succ_eq_append_getElem hil, List.flatten_append, List.length_append]; simp
      have hle : (l0.take (i + 1)).flatten.length ≤ l0.flatten.length := flat_take l0 (i + 1)
      rw [hfl] at hle
      generalize l0[i].length = n at hx hfl hle
      have h1m := HL.out.2
      have w1 : wrap64 (((l0.take i).flatten.length : Int) + (n : Int)) = (((l0.take i).flatten.length + n : Nat) : Int) := by unfold wrap64; omega
      generalize (l0.take i).flatten.length = s at w1 hfl hle ⊢
      obtain ⟨s2, hs2⟩ : ∃ s2, s2 = s + n := ⟨_, rfl⟩
      rw [← hs2] at w1 hfl
      have d2 : decide ((s2 : Int) < 0) = false := decide_eq_false (by omega)
      have w2 : wrap64 ((i : Int) + 1) = ((i + 1 : Nat) : Int) := w64S i (by have := HL.out.1; omega)
      have HF := Aside0.mk hfl
      clear hfl hle hs2 h1m
      go_wp2_with fail
      go_roundw
      case rel => exact ⟨i + 1, by rw [w2], by rw [w1, HF.out], hil, by trivial⟩
      case measure => rw [w2]; simp only [vNat]; omega
    · have d1 : decide ((i : Int) < (l0.length : Int)) = false := decide_eq_false (by omega)
      have ht : l0.take i = l0 := List.take_of_length_le (by omega)
      rw [ht]
      clear ht
      have hN1 := HL.out.2
      generalize hN : l0.flatten.length = N at hN1
      have HN := Aside0.mk hN
      clear hN
      go_wp2_with fail
      refine (slices_Grow_uint32_uint32.calls0 N w hN1).mono ?_
      rintro e_ w2 ⟨v1, rfl, hR1, hb1⟩
      have H1 := Aside0.mk hR1
      have HB := Aside0.mk hb1
      clear hR1 hb1
      go_wp2_with fail
      have HR2 := HR
      go_loopw [6, 27] (fun nv iv wr => ∃ i : Nat, iv = .int .i64 i ∧ i ≤ l0.length ∧ Kd.R (Kd.int .u32) 45 wr w.heap.size (fun _ => True) nv (l0.take i).flatten ∧ Below w.heap.size w wr) (fun _ iv _ => l0.length - vNat iv)
      case atStart => exact ⟨0, rfl, Nat.zero_le _, H1.out, HB.out⟩
      case round =>
        obtain ⟨j, rfl, hj, hRj, hBj⟩ := hrel
        have HJ := Aside0.mk hRj
        have HBJ := Aside0.mk hBj
        clear hRj hBj
        by_cases hjl : j < l0.length
        · have e1 : decide ((j : Int) < (l0.length : Int)) = true := decide_eq_true (by omega)
          have m0 : (0 : Int) ≤ (j : Int) := by omega
          have m1 : (j : Int) < (l0.length : Int) := by omega
          obtain ⟨ad, A, c, rfl, hx, -, hC⟩ := slices_Concat_uint32_uint32.at wr A0 l0 (Kd.C_below HR.out HBJ.out) j hjl
          have hfl : (l0.take (j + 1)).flatten = (l0.take j).flatten ++ l0[j] := by rw [List.take_succ_eq_append_getElem hjl, List.flatten_append]; simp
          have hle : (l0.take (j + 1)).flatten.length ≤ l0.flatten.length := flat_take l0 (j + 1)
          rw [hfl, List.length_append] at hle
          have hle2 : (l0.take j).flatten.length + l0[j].length ≤ 1000000 := Nat.le_trans hle HL.out.2
          generalize l0[j] = x at hx hC hfl hle2
          have w3 : wrap64 ((j : Int) + 1) = ((j + 1 : Nat) : Int) := w64S j (by have := HL.out.1; omega)
          have HF := Aside0.mk hfl
          have HC := Aside0.mk hC
          have HLE := Aside0.mk hle2
          clear hfl hle hC hle2
          go_wp2_with (first | ((with_reducible refine gate_builtin (b := .append) (xs := #[.tmp 31, .tmp 32]) rfl ?_); (try (refine gate_guard (by rfl) ?_; dsimp only)); at_builtin; refine Kd.R_append_rows (Kd.int .u32) (w0 := w) w.heap.size rfl (.tmp 31) (.tmp 32) 24 45 (.int .u32 0) 4 rfl Try.underlying24 info45 rfl (by decide) (by omega) _ (l0.take j).flatten x _ _ _ (fun _ => True) (fun _ => False) rfl rfl ?aO ?aR (fun _ _ h => h) (fun _ h => h.elim) ?aF ?aB ?aS ?aL ?_; (case aR => exact HC.out); (case aB => exact HBJ.out); (case aF => exact (fun _ _ => trivial)); (case aO => exact HJ.out); (case aS => exact HBJ.out.size); (case aL => have h9 := HLE.out; omega); intro v105 w13 ho hb hg hat; rw [← HF.out] at ho; have HO := Aside0.mk ho; have HBO := Aside0.mk hb; clear ho hb hg hat))
          go_roundw
          case rel => exact ⟨j + 1, by rw [w3], hjl, HO.out, HBO.out⟩
          case measure => rw [w3]; simp only [vNat]; omega
        · have e1 : decide ((j : Int) < (l0.length : Int)) = false := decide_eq_false (by omega)
          have ht : l0.take j = l0 := List.take_of_length_le (by omega)
          go_wp2_with fail
          go_ret
          have h9 := HJ.out
          rw [ht] at h9
          exact ⟨_, rfl, h9, HBJ.out⟩
end Go.Proofs.Ytdjjpgdhnoibkaa.My
