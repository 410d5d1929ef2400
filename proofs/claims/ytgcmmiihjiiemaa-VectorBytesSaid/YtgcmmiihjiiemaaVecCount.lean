/- vector.Count: a search by halves. -/
import Derived.Test.YtgcmmiihjiiemaaVecBelow
namespace Go.Proofs.Ytgcmmiihjiiemaa.My
open Go.RowKit Go.Proofs.YtgcmmiihjiiemaaW.PrintWords Go.Proofs.YtgcmmiihjiiemaaW.PrintLast Go.Proofs.YtgcmmiihjiiemaaW.PrintMore Go.Proofs.Ytgcmmiihjiiemaa Go.Proofs.Ytgcmmiihjiiemaa.PVectorMax
set_option linter.unusedSimpArgs false
set_option linter.unusedVariables false
set_option maxRecDepth 100000
set_option maxHeartbeats 1600000
def cmpR (x y : Int) : Int := if x < y then -1 else if y < x then 1 else 0
theorem isNaN_calls (x : Int) (w : World) : Calls Try.prog 68 #[.int .u32 x] w fun e w' => e = .returned (.bool false) ∧ Below w.heap.size w w' := by
  have hx : (x != x) = false := by simp
  go_enter Try.func68, Try.ntmps68
  go_wp2_with fail
  go_ret
  exact ⟨rfl, Below.refl _ _⟩
theorem cmp_calls (x y : Int) (w : World) : Calls Try.prog 65 #[.int .u32 x, .int .u32 y] w fun e w' => e = .returned (.int .i64 (cmpR x y)) ∧ Below w.heap.size w w' := by
  unfold cmpR
  by_cases hxy : x < y
  · rw [if_pos hxy]
    have h1 : decide (x < y) = true := decide_eq_true hxy
    clear hxy
    go_enter Try.func65, Try.ntmps65
    go_wp2_with fail
    refine (isNaN_calls x _).mono ?_
    rintro e_ w1 ⟨rfl, hb1⟩
    go_wp2_with fail
    refine (isNaN_calls y _).mono ?_
    rintro e_ w2 ⟨rfl, hb2⟩
    have HB := Aside0.mk (below_then hb1 (below_size hb1) hb2)
    clear hb1 hb2
    go_wp2_with fail
    go_ret
    exact ⟨rfl, HB.out⟩
  · rw [if_neg hxy]
    have h1 : decide (x < y) = false := decide_eq_false hxy
    by_cases hyx : y < x
    · rw [if_pos hyx]
      have h2 : decide (y < x) = true := decide_eq_true hyx
      clear hxy hyx
      go_enter Try.func65, Try.ntmps65
      go_wp2_with fail
      refine (isNaN_calls x _).mono ?_
      rintro e_ w1 ⟨rfl, hb1⟩
      go_wp2_with fail
      refine (isNaN_calls y _).mono ?_
      rintro e_ w2 ⟨rfl, hb2⟩
      have HB := Aside0.mk (below_then hb1 (below_size hb1) hb2)
      clear hb1 hb2
      go_wp2_with fail
      go_ret
      exact ⟨rfl, HB.out⟩
    · rw [if_neg hyx]
      have h2 : decide (y < x) = false := decide_eq_false hyx
      clear hxy hyx
      go_enter Try.func65, Try.ntmps65
      go_wp2_with fail
      refine (isNaN_calls x _).mono ?_
      rintro e_ w1 ⟨rfl, hb1⟩
      go_wp2_with fail
      refine (isNaN_calls y _).mono ?_
      rintro e_ w2 ⟨rfl, hb2⟩
      have HB := Aside0.mk (below_then hb1 (below_size hb1) hb2)
      clear hb1 hb2
      go_wp2_with fail
      go_ret
      exact ⟨rfl, HB.out⟩
theorem cnt1_calls (x : Dt) (y : Int) (w : World) : Calls Try.prog 64 #[.agg #[.int .u32 x.f0, .int .u64 x.f1], .int .u32 y] w fun e w' => e = .returned (.int .i64 (cmpR x.f0 y)) ∧ Below w.heap.size w w' := by
  go_enter Try.func64, Try.ntmps64
  go_wp2_with fail
  refine (cmp_calls x.f0 y _).mono ?_
  rintro e_ w2 ⟨rfl, hb2⟩
  have hb1 : Below w.heap.size w (w.alloc (.cells #[.int .u32 x.f0, .int .u64 x.f1] 35)) := (Below.refl w.heap.size w).alloc (Nat.le_refl _) _
  have HB := Aside0.mk (below_then hb1 (below_size hb1) hb2)
  clear hb1 hb2
  go_wp2_with fail
  go_ret
  exact ⟨rfl, HB.out⟩
def vNat : Value → Nat
  | .int _ n => n.toNat
  | _ => 0
/-- Where the search stands: below i all are less, from j on none is (of a list that rises). -/
def Sr (l : List Dt) (o : Int) (i j : Nat) : Prop := i ≤ j ∧ j ≤ l.length ∧ (Inc l → (∀ k x, l[k]? = some x → k < i → x.f0 < o) ∧ ∀ k x, l[k]? = some x → j ≤ k → o ≤ x.f0)
theorem search_calls (w : World) (A : Option Addr) (c : Nat) (l : List Dt) (hA : Kd.C kD w A l.length l) (hc : l.length ≤ c) (hl : l.length ≤ 8800000000000) (o : Int) :
    Calls Try.prog 63 #[.slice A l.length c, .int .u32 o, .func (.func 64) #[] #[]] w fun e w' => ∃ i : Nat, e = .returned (.tuple #[.int .i64 i, .bool (decide (i < l.length ∧ (rd_T35 l i).f0 = o))]) ∧ Sr l o i i ∧ Below w.heap.size w w' := by
  have HA := Aside0.mk hA
  have HJ : Aside0 (Sr l o 0 l.length) := ⟨⟨Nat.zero_le _, Nat.le_refl _, fun _ => ⟨fun k x h hk => absurd hk (Nat.not_lt_zero _), fun k x h hk => by have := (List.getElem?_eq_some_iff.1 h).1; omega⟩⟩⟩
  clear hA
  go_enter Try.func63, Try.ntmps63
  go_wp2_with fail
  go_loopw [9, 10, 11] (fun iv jv hv wr => ∃ (i j : Nat), iv = .int .i64 i ∧ jv = .int .i64 j ∧ Aside0 (Sr l o i j) ∧ Aside0 (Below w.heap.size w wr)) (fun iv jv _ _ => vNat jv - vNat iv)
  case atStart => exact ⟨0, l.length, rfl, rfl, HJ, ⟨Below.refl _ _⟩⟩
  case round =>
    clear HJ
    obtain ⟨i, j, rfl, rfl, HJ, HB⟩ := hrel
    obtain ⟨q1, q2, q3⟩ := HJ.out
    by_cases hij : i < j
    · have d1 : decide ((i : Int) < (j : Int)) = true := decide_eq_true (by omega)
      have w1 : IntKind.i64.wrap ((i : Int) + (j : Int)) = (i : Int) + (j : Int) := by rw [i64_w]; unfold wrap64; omega
      clear q3
      go_upto_region 5 with (fail)
      obtain ⟨m, hm⟩ : ∃ m : Nat, m = (i + j) / 2 := ⟨_, rfl⟩
      have em : ((i : Int) + (j : Int)) / 2 = (m : Int) := by omega
      rw [em]
      have m0 : (0 : Int) ≤ (m : Int) := by omega
      have m1 : (m : Int) < (l.length : Int) := by omega
      obtain ⟨ad, rfl, hx0, hx1⟩ := at_T35 (Kd.C_below HA.out HB.out) (m : Int) m0 m1
      have HM := Aside0.mk hm
      have HQ := Aside0.mk (And.intro q1 q2)
      have e2 : IntKind.i64.wrap ((m : Int) + 1) = ((m + 1 : Nat) : Int) := by rw [i64_w]; unfold wrap64; omega
      clear em d1 w1 hm q1 q2
      simp only [Int.toNat_natCast] at hx0 hx1
      generalize hx : rd_T35 l (m : Int) = x at hx0 hx1
      have HX := Aside0.mk hx
      clear hx
      go_wp2_with fail
      refine (cnt1_calls x o _).mono ?_
      rintro e_ w2 ⟨rfl, hb2⟩
      have HB2 := Aside0.mk (below_then HB.out (below_size HB.out) hb2)
      clear hb2 HB hx0 hx1
      have hmx : l[m]? = some x := by
        have := rd_at l m (by omega)
        rw [List.getElem?_eq_getElem (by omega), ← this, HX.out]
      have HMX := Aside0.mk hmx
      clear hmx
      by_cases hlt : x.f0 < o
      · have hc1 : decide (cmpR x.f0 o < 0) = true := by unfold cmpR; rw [if_pos hlt]; rfl
        have HL := Aside0.mk hlt
        clear hlt
        go_wp2_with fail
        go_roundw
        case rel =>
          refine ⟨m + 1, j, rfl, rfl, ⟨⟨by have := HM.out; omega, HQ.out.2, fun hI => ?_⟩⟩, HB2⟩
          obtain ⟨_, _, h3⟩ := HJ.out
          refine ⟨fun k z hz hk => ?_, (h3 hI).2⟩
          rcases Nat.lt_or_ge k m with h | h
          · have := (List.pairwise_iff_getElem.1 hI) k m (List.getElem?_eq_some_iff.1 hz).1 (by have := HQ.out; omega) h
            have a1 := (List.getElem?_eq_some_iff.1 hz).2
            have a2 := (List.getElem?_eq_some_iff.1 HMX.out).2
            rw [a1, a2] at this
            have := HL.out
            omega
          · obtain rfl : k = m := by omega
            rw [HMX.out] at hz
            obtain rfl := Option.some.inj hz
            exact HL.out
        case measure => have := HM.out; have := HQ.out; simp only [vNat]; omega
      · have hc1 : decide (cmpR x.f0 o < 0) = false := by
          unfold cmpR
          rw [if_neg hlt]
          split <;> rfl
        have HL := Aside0.mk hlt
        clear hlt
        go_wp2_with fail
        go_roundw
        case rel =>
          refine ⟨i, m, rfl, rfl, ⟨⟨by have := HM.out; omega, by have := HM.out; have := HQ.out; omega, fun hI => ?_⟩⟩, HB2⟩
          obtain ⟨_, _, h3⟩ := HJ.out
          refine ⟨(h3 hI).1, fun k z hz hk => ?_⟩
          rcases Nat.lt_or_ge m k with h | h
          · have := (List.pairwise_iff_getElem.1 hI) m k (by have := HQ.out; omega) (List.getElem?_eq_some_iff.1 hz).1 h
            have a1 := (List.getElem?_eq_some_iff.1 hz).2
            have a2 := (List.getElem?_eq_some_iff.1 HMX.out).2
            rw [a1, a2] at this
            have := HL.out
            omega
          · obtain rfl : k = m := by omega
            rw [HMX.out] at hz
            obtain rfl := Option.some.inj hz
            have := HL.out
            omega
        case measure => have := HM.out; have := HQ.out; simp only [vNat]; omega
    · obtain rfl : i = j := by omega
      have d1 : decide ((i : Int) < (i : Int)) = false := decide_eq_false (by omega)
      clear q3
      have HQ := Aside0.mk q2
      by_cases hil : i < l.length
      · have d2 : decide ((i : Int) < (l.length : Int)) = true := decide_eq_true (by omega)
        have m0 : (0 : Int) ≤ (i : Int) := by omega
        have m1 : (i : Int) < (l.length : Int) := by omega
        obtain ⟨ad, rfl, hx0, hx1⟩ := at_T35 (Kd.C_below HA.out HB.out) (i : Int) m0 m1
        simp only [Int.toNat_natCast] at hx0 hx1
        generalize hx : rd_T35 l (i : Int) = x at hx0 hx1
        have HX := Aside0.mk hx
        clear hx
        clear hij q1 q2
        go_wp2_with fail
        refine (cnt1_calls x o _).mono ?_
        rintro e_ w2 ⟨rfl, hb2⟩
        have HB2 := Aside0.mk (below_then HB.out (below_size HB.out) hb2)
        clear hb2 HB hx0 hx1
        by_cases heq : x.f0 = o
        · have c1 : (cmpR x.f0 o == 0) = true := by
            unfold cmpR
            rw [if_neg (by omega), if_neg (by omega)]
            rfl
          have HE := Aside0.mk heq
          clear heq
          go_wp2_with fail
          go_ret2
          exact ⟨i, by rw [decide_eq_true ⟨hil, by rw [HX.out]; exact HE.out⟩]; rfl, HJ.out, HB2.out⟩
        · have c1 : (cmpR x.f0 o == 0) = false := by
            unfold cmpR
            by_cases h : x.f0 < o
            · rw [if_pos h]; rfl
            · rw [if_neg h, if_pos (by omega)]; rfl
          have HE := Aside0.mk heq
          clear heq
          go_wp2_with fail
          go_ret2
          exact ⟨i, by rw [decide_eq_false (fun h => HE.out (by rw [← HX.out]; exact h.2))]; rfl, HJ.out, HB2.out⟩
      · have d2 : decide ((i : Int) < (l.length : Int)) = false := decide_eq_false (by omega)
        have HL := Aside0.mk hil
        clear hij q1 q2
        go_wp2_with fail
        go_ret2
        exact ⟨i, by rw [decide_eq_false (fun h => HL.out h.1)]; rfl, HJ.out, HB.out⟩
def ownCount (l : List Dt) (o : Int) : Int := if validB l = true then cnt l o else 0
def vector_Count.f (l0 : List S35) (a1 : Int) : Option Int := if okL l0 = true then some (ownCount l0 a1) else none
theorem cnt_rd (o : Int) : ∀ (l : List Dt) (i : Nat) (x : Dt), Inc l → l[i]? = some x → x.f0 = o → cnt l o = x.f1
  | [], i, x, _, h, _ => by simp at h
  | y :: l, 0, x, _, h, ho => by
    obtain rfl := Option.some.inj h
    rw [← ho]
    exact cnt_here _ _
  | y :: l, i + 1, x, hI, h, ho => by
    have h2 : l[i]? = some x := h
    have := (List.pairwise_cons.1 hI).1 x (List.mem_of_getElem? h2)
    rw [cnt_skip y l o (by omega)]
    exact cnt_rd o l i x (List.Pairwise.of_cons hI) h2 ho
theorem vector_Count.calls (A0 : Option Addr) (c0 : Nat) (l0 : List S35) (a1 : Int) (r : Int) (w : World) (hr0 : Kd.C k35 w A0 l0.length l0) (hc0 : l0.length ≤ c0) (h : vector_Count.f l0 a1 = some r) :
    Calls Try.prog 43 #[.slice A0 l0.length c0, .int .u32 a1] w fun e w' => e = .returned (.int .u64 r) ∧ Below w.heap.size w w' := by
  unfold vector_Count.f at h
  split at h
  case isFalse => cases h
  rename_i hok
  obtain rfl := Option.some.inj h
  clear h
  have h0 := ownValid_f l0 (by have := okL_len hok; omega) (okL_pos hok) (l0.length + 2) (by omega)
  have hlen := okL_len hok
  have HA := Aside0.mk hr0
  have hs := search_calls w A0 c0 l0 hr0 hc0 hlen a1
  generalize hR : ownCount l0 a1 = R
  have HR := Aside0.mk hR
  clear hR hok hr0
  go_enter Try.func43, Try.ntmps43
  go_wp2_with fail
  refine hs.mono ?_
  rintro e_ w1 ⟨i, rfl, hj, hb1⟩
  have HB1 := Aside0.mk hb1
  have HJ := Aside0.mk hj
  have HV := Aside0.mk h0
  clear hb1 hj hs h0
  by_cases hok : i < l0.length ∧ (rd_T35 l0 i).f0 = a1
  · have d1 : decide (i < l0.length ∧ (rd_T35 l0 i).f0 = a1) = true := decide_eq_true hok
    rw [d1]
    clear d1
    have HK := Aside0.mk hok
    have m0 : (0 : Int) ≤ (i : Int) := by omega
    have m1 : (i : Int) < (l0.length : Int) := by omega
    clear hok
    go_wp2_with fail
    refine (vector_Valid.calls _ A0 c0 l0 (validB l0) _ (Kd.C_below HA.out HB1.out) hc0 HV.out).mono ?_
    rintro e_ w2 ⟨rfl, hb2⟩
    have HB2 := Aside0.mk (below_then HB1.out (below_size HB1.out) hb2)
    clear hb2
    cases hv : validB l0 with
    | false =>
      have HVV := Aside0.mk hv
      clear hv
      go_wp2_with fail
      go_ret
      exact ⟨by rw [← HR.out]; unfold ownCount; rw [HVV.out]; rfl, HB2.out⟩
    | true =>
      have HVV := Aside0.mk hv
      clear hv
      obtain ⟨ad, rfl, hx0, hx1⟩ := at_T35 (Kd.C_below HA.out HB2.out) (i : Int) m0 m1
      simp only [Int.toNat_natCast] at hx0 hx1
      generalize hx : rd_T35 l0 (i : Int) = x at hx0 hx1
      have HX := Aside0.mk hx
      clear hx
      go_wp2_with fail
      go_ret
      have e : R = x.f1 := by
        rw [← HR.out]
        unfold ownCount
        rw [if_pos HVV.out]
        have hlt := HK.out.1
        refine cnt_rd a1 l0 i x (valid_props l0 HVV.out).2.1 ?_ (by rw [← HX.out]; exact HK.out.2)
        rw [List.getElem?_eq_getElem hlt, ← rd_at l0 i hlt, HX.out]
      exact ⟨by rw [e]; rfl, HB2.out⟩
  · have d1 : decide (i < l0.length ∧ (rd_T35 l0 i).f0 = a1) = false := decide_eq_false hok
    rw [d1]
    clear d1
    have HK := Aside0.mk hok
    clear hok
    go_wp2_with fail
    go_ret
    have e : R = 0 := by
      rw [← HR.out]
      unfold ownCount
      split
      · rename_i hv
        have hI := (valid_props l0 hv).2.1
        obtain ⟨_, _, h3⟩ := HJ.out
        obtain ⟨h4, h5⟩ := h3 hI
        refine cnt_none _ _ ?_
        rintro ⟨z, hz, ho⟩
        obtain ⟨k, hk, hkz⟩ := List.getElem_of_mem hz
        have hz2 : l0[k]? = some z := by rw [List.getElem?_eq_getElem hk, hkz]
        rcases Nat.lt_or_ge k i with h | h
        · have := h4 k z hz2 h
          omega
        · have hil : i < l0.length := by omega
          have h6 : l0[i]? = some l0[i] := List.getElem?_eq_getElem hil
          have h7 := h5 i _ h6 (Nat.le_refl _)
          have h8 : ¬ (l0[i]).f0 = a1 := fun hh => HK.out ⟨hil, by rw [rd_at l0 i hil]; exact hh⟩
          rcases Nat.lt_or_ge i k with h9 | h9
          · have := (List.pairwise_iff_getElem.1 hI) i k hil hk h9
            rw [hkz] at this
            omega
          · obtain rfl : k = i := by omega
            rw [hkz] at h8
            exact h8 ho
      · rfl
    exact ⟨by rw [e]; rfl, HB1.out⟩
end Go.Proofs.Ytgcmmiihjiiemaa.My
