/- What the two Checks answer: the same. -/
import Derived.Test.YtdjjpgdhnoibkaaPZx0
import Derived.StillTailTactics
import Derived.Test.YtdjjpgdhnoibkaaPZx5
namespace Go.Proofs.Ytdjjpgdhnoibkaa.My
open Go.RowKit Go.Proofs.YtdjjpgdhnoibkaaW.PrintWords Go.Proofs.YtdjjpgdhnoibkaaW.PrintLast Go.Proofs.YtdjjpgdhnoibkaaW.PrintMore Go.Proofs.Ytdjjpgdhnoibkaa Go.Proofs.Ytdjjpgdhnoibkaa.PZ
set_option linter.unusedSimpArgs false
set_option linter.unusedVariables false
set_option maxRecDepth 100000
set_option maxHeartbeats 1600000
attribute [local go_sem high] conv_rune str_leq str_gtr
abbrev Ce := S66
/-- Where a search by halves ends: p holds from there on, if p rises. -/
def srch (p : Nat → Bool) : Nat → Nat → Nat → Nat
  | 0, i, _ => i
  | n + 1, i, j => if i < j then (if p ((i + j) / 2) = true then srch p n i ((i + j) / 2) else srch p n ((i + j) / 2 + 1) j) else i
theorem srch_done (p : Nat → Bool) : ∀ (n i j : Nat), j ≤ i → srch p n i j = i
  | 0, i, j, h => rfl
  | n + 1, i, j, h => by rw [srch, if_neg (by omega)]
theorem srch_fuel (p : Nat → Bool) : ∀ (n m i j : Nat), j - i ≤ n → j - i ≤ m → srch p n i j = srch p m i j
  | 0, m, i, j, h1, h2 => by rw [srch_done p m i j (by omega)]; rfl
  | n + 1, 0, i, j, h1, h2 => by rw [srch_done p (n + 1) i j (by omega)]; rfl
  | n + 1, m + 1, i, j, h1, h2 => by
    rw [srch, srch]
    by_cases h : i < j
    · rw [if_pos h, if_pos h]
      by_cases hp : p ((i + j) / 2) = true
      · rw [if_pos hp, if_pos hp]; exact srch_fuel p n m i ((i + j) / 2) (by omega) (by omega)
      · rw [if_neg hp, if_neg hp]; exact srch_fuel p n m ((i + j) / 2 + 1) j (by omega) (by omega)
    · rw [if_neg h, if_neg h]
theorem srch_step (p : Nat → Bool) (i j : Nat) (h : i < j) (R : Nat) (hR : ∀ n, j - i ≤ n → srch p n i j = R) : (p ((i + j) / 2) = true → ∀ n, (i + j) / 2 - i ≤ n → srch p n i ((i + j) / 2) = R) ∧ (p ((i + j) / 2) = false → ∀ n, j - ((i + j) / 2 + 1) ≤ n → srch p n ((i + j) / 2 + 1) j = R) := by
  have h1 := hR (j - i + 1) (by omega)
  rw [srch, if_pos h] at h1
  constructor
  · intro hp n hn
    rw [if_pos hp] at h1
    rw [← h1]
    exact srch_fuel p n _ i _ hn (by omega)
  · intro hp n hn
    rw [if_neg (by rw [hp]; decide)] at h1
    rw [← h1]
    exact srch_fuel p n _ _ j hn (by omega)
def vNat : Value → Nat
  | .int _ n => n.toNat
  | _ => 0
/-- A node's and a key's boxes. -/
def NB (w : World) (g h : Nat) (b : Bool) (A : Option Addr) (n c : Nat) (B : Option Addr) (m d : Nat) (C : Option Addr) (q e : Nat) (s : ByteArray) : Prop :=
  w.heap[g]? = some (.cells #[.bool b, .slice A n c, .slice B m d, .slice C q e] 26 (0, 0)) ∧ w.heap[h]? = some (.cells #[.string s] 9 (0, 0))
theorem NB.below {w w' : World} {g h : Nat} {b : Bool} {A : Option Addr} {n c : Nat} {B : Option Addr} {m d : Nat} {C : Option Addr} {q e : Nat} {s : ByteArray} (h1 : NB w g h b A n c B m d C q e s) (hb : Below w.heap.size w w') : NB w' g h b A n c B m d C q e s := ⟨blk_below h1.1 hb, blk_below h1.2 hb⟩
theorem find1_calls (w : World) (g h : Nat) (b : Bool) (A : Option Addr) (l : List Ce) (c : Nat) (B : Option Addr) (m d : Nat) (C : Option Addr) (q e : Nat) (s : ByteArray) (hN : NB w g h b A l.length c B m d C q e s) (hA : Kd.C k66 w A l.length l) (i : Nat) (hi : i < l.length) :
    Calls Try.prog 105 #[.int .i64 i, .pointer (some ⟨g, 0, none⟩), .pointer (some ⟨h, 0, none⟩)] w fun r w' => r = .returned (.bool (!Op.bytesLess (rd_T66 l i).f0.toList s.toList)) ∧ Below w.heap.size w w' := by
  have m0 : (0 : Int) ≤ (i : Int) := by omega
  have m1 : (i : Int) < (l.length : Int) := by omega
  obtain ⟨ad, rfl, hx0, hx1⟩ := at_T66 hA (i : Int) m0 m1
  simp only [Int.toNat_natCast] at hx0 hx1
  generalize hx : rd_T66 l (i : Int) = x at hx0 hx1 ⊢
  clear hx
  have c1 : w.cell? ⟨g, 1, none⟩ = some (.slice (some ad) l.length c) := (blk_cell hN.1 1).trans rfl
  have c2 : w.cell? ⟨h, 0, none⟩ = some (.string s) := (blk_cell hN.2 0).trans rfl
  clear hN hA
  go_enter Try.func105, Try.ntmps105
  go_wp2_with fail
  go_quiet (fail)
  go_wp2_with fail
  go_ret
  exact ⟨rfl, pw_below_drewN (Below.refl _ _) _⟩
def pF (l : List Ce) (s : ByteArray) (i : Nat) : Bool := !Op.bytesLess (rd_T66 l i).f0.toList s.toList
theorem searchF (w : World) (g h : Nat) (b : Bool) (A : Option Addr) (l : List Ce) (c : Nat) (B : Option Addr) (m d : Nat) (C : Option Addr) (q e : Nat) (s : ByteArray) (hN : NB w g h b A l.length c B m d C q e s) (hA : Kd.C k66 w A l.length l) (hl : l.length ≤ 8800000000000) :
    Calls Try.prog 65 #[.int .i64 l.length, .func (.func 105) #[] #[.pointer (some ⟨g, 0, none⟩), .pointer (some ⟨h, 0, none⟩)]] w fun r w' => r = .returned (.int .i64 (srch (pF l s) l.length 0 l.length : Nat)) ∧ Below w.heap.size w w' := by
  have HA := Aside0.mk hA
  have HN := Aside0.mk hN
  clear hA hN
  obtain ⟨R, hR⟩ : ∃ R, R = srch (pF l s) l.length 0 l.length := ⟨_, rfl⟩
  have HJ : Aside0 (∀ n, l.length - 0 ≤ n → srch (pF l s) n 0 l.length = R) := ⟨fun n hn => by rw [hR]; exact srch_fuel _ _ _ _ _ hn (Nat.le_refl _)⟩
  rw [← hR]
  clear hR
  go_enter Try.func65, Try.ntmps65
  go_wp2_with fail
  go_loopw [5, 6] (fun iv jv wr => ∃ (i j : Nat), iv = .int .i64 i ∧ jv = .int .i64 j ∧ i ≤ j ∧ j ≤ l.length ∧ Aside0 (∀ n, j - i ≤ n → srch (pF l s) n i j = R) ∧ Aside0 (Below w.heap.size w wr)) (fun iv jv _ => vNat jv - vNat iv)
  case atStart => exact ⟨0, l.length, rfl, rfl, Nat.zero_le _, Nat.le_refl _, HJ, ⟨Below.refl _ _⟩⟩
  case round =>
    clear HJ
    obtain ⟨i, j, rfl, rfl, q1, q2, HJ, HB⟩ := hrel
    by_cases hij : i < j
    · have d1 : decide ((i : Int) < (j : Int)) = true := decide_eq_true (by omega)
      have w1 : IntKind.i64.wrap ((i : Int) + (j : Int)) = (i : Int) + (j : Int) := by rw [i64_w]; unfold wrap64; omega
      obtain ⟨s1, s2⟩ := srch_step (pF l s) i j hij R HJ.out
      obtain ⟨m', hm⟩ : ∃ m' : Nat, m' = (i + j) / 2 := ⟨_, rfl⟩
      have em : ((i : Int) + (j : Int)) / 2 = (m' : Int) := by omega
      have e2 : IntKind.i64.wrap ((m' : Int) + 1) = ((m' + 1 : Nat) : Int) := by rw [i64_w]; unfold wrap64; omega
      have hml : m' < l.length := by omega
      have hmi : i ≤ m' ∧ m' < j := by omega
      rw [← hm] at s1 s2
      have S1 := Aside0.mk s1
      have S2 := Aside0.mk s2
      have HM := Aside0.mk hmi
      clear s1 s2 hm hmi HJ
      go_wp2_with fail

      clear em w1 d1
      refine (find1_calls wr g h b A l c B m d C q e s (HN.out.below HB.out) (Kd.C_below HA.out HB.out) m' hml).mono ?_
      rintro e_ w2 ⟨rfl, hb2⟩
      have HB2 := Aside0.mk (below_then HB.out (below_size HB.out) hb2)
      clear hb2 HB
      have hp : (!Op.bytesLess (rd_T66 l m').f0.toList s.toList) = pF l s m' := rfl
      rw [hp]
      clear hp
      cases hp : pF l s m' with
      | true =>
        have HP := Aside0.mk (S1.out hp)
        clear hp S1 S2
        go_wp2_with fail
        go_roundw
        case rel => exact ⟨i, m', rfl, rfl, HM.out.1, by have := HM.out.2; omega, HP, HB2⟩
        case measure => have := HM.out; simp only [vNat]; omega
      | false =>
        have HP := Aside0.mk (S2.out hp)
        clear hp S1 S2
        go_wp2_with fail
        go_roundw
        case rel => exact ⟨m' + 1, j, rfl, rfl, by have := HM.out.2; omega, q2, HP, HB2⟩
        case measure => have := HM.out; simp only [vNat]; omega
    · obtain rfl : i = j := by omega
      have d1 : decide ((i : Int) < (i : Int)) = false := decide_eq_false (by omega)
      have hR : i = R := by have := HJ.out 0 (by omega); exact this
      go_wp2_with fail
      go_ret
      rw [hR]
      exact ⟨rfl, HB.out⟩
def pK (l : List ByteArray) (s : ByteArray) (i : Nat) : Bool := Op.bytesLess s.toList (rdOf ByteArray.empty l i).toList
theorem kid1_calls (w : World) (g h : Nat) (b : Bool) (A : Option Addr) (n c : Nat) (B : Option Addr) (l : List ByteArray) (d : Nat) (C : Option Addr) (q e : Nat) (s : ByteArray) (hN : NB w g h b A n c B l.length d C q e s) (hA : Kd.C Kd.string w B l.length l) (i : Nat) (hi : i < l.length) :
    Calls Try.prog 66 #[.int .i64 i, .pointer (some ⟨g, 0, none⟩), .pointer (some ⟨h, 0, none⟩)] w fun r w' => r = .returned (.bool (Op.bytesLess s.toList (rdOf ByteArray.empty l i).toList)) ∧ Below w.heap.size w w' := by
  have m0 : (0 : Int) ≤ (i : Int) := by omega
  have m1 : (i : Int) < (l.length : Int) := by omega
  obtain ⟨ad, rfl, hx0⟩ := Kd.at_string hA (i : Int) m0 m1
  simp only [Int.toNat_natCast] at hx0
  generalize hx : rdOf ByteArray.empty l (i : Int) = x at hx0 ⊢
  clear hx
  have c1 : w.cell? ⟨g, 2, none⟩ = some (.slice (some ad) l.length d) := (blk_cell hN.1 2).trans rfl
  have c2 : w.cell? ⟨h, 0, none⟩ = some (.string s) := (blk_cell hN.2 0).trans rfl
  clear hN hA
  go_enter Try.func66, Try.ntmps66
  go_wp2_with fail
  go_quiet (fail)
  go_wp2_with fail
  go_ret
  exact ⟨rfl, pw_below_drewN (Below.refl _ _) _⟩
theorem searchK (w : World) (g h : Nat) (b : Bool) (A : Option Addr) (n c : Nat) (B : Option Addr) (l : List ByteArray) (d : Nat) (C : Option Addr) (q e : Nat) (s : ByteArray) (hN : NB w g h b A n c B l.length d C q e s) (hA : Kd.C Kd.string w B l.length l) (hl : l.length ≤ 8800000000000) :
    Calls Try.prog 65 #[.int .i64 l.length, .func (.func 66) #[] #[.pointer (some ⟨g, 0, none⟩), .pointer (some ⟨h, 0, none⟩)]] w fun r w' => r = .returned (.int .i64 (srch (pK l s) l.length 0 l.length : Nat)) ∧ Below w.heap.size w w' := by
  have HA := Aside0.mk hA
  have HN := Aside0.mk hN
  clear hA hN
  obtain ⟨R, hR⟩ : ∃ R, R = srch (pK l s) l.length 0 l.length := ⟨_, rfl⟩
  have HJ : Aside0 (∀ n, l.length - 0 ≤ n → srch (pK l s) n 0 l.length = R) := ⟨fun n hn => by rw [hR]; exact srch_fuel _ _ _ _ _ hn (Nat.le_refl _)⟩
  rw [← hR]
  clear hR
  go_enter Try.func65, Try.ntmps65
  go_wp2_with fail
  go_loopw [5, 6] (fun iv jv wr => ∃ (i j : Nat), iv = .int .i64 i ∧ jv = .int .i64 j ∧ i ≤ j ∧ j ≤ l.length ∧ Aside0 (∀ n, j - i ≤ n → srch (pK l s) n i j = R) ∧ Aside0 (Below w.heap.size w wr)) (fun iv jv _ => vNat jv - vNat iv)
  case atStart => exact ⟨0, l.length, rfl, rfl, Nat.zero_le _, Nat.le_refl _, HJ, ⟨Below.refl _ _⟩⟩
  case round =>
    clear HJ
    obtain ⟨i, j, rfl, rfl, q1, q2, HJ, HB⟩ := hrel
    by_cases hij : i < j
    · have d1 : decide ((i : Int) < (j : Int)) = true := decide_eq_true (by omega)
      have w1 : IntKind.i64.wrap ((i : Int) + (j : Int)) = (i : Int) + (j : Int) := by rw [i64_w]; unfold wrap64; omega
      obtain ⟨s1, s2⟩ := srch_step (pK l s) i j hij R HJ.out
      obtain ⟨m', hm⟩ : ∃ m' : Nat, m' = (i + j) / 2 := ⟨_, rfl⟩
      have em : ((i : Int) + (j : Int)) / 2 = (m' : Int) := by omega
      have e2 : IntKind.i64.wrap ((m' : Int) + 1) = ((m' + 1 : Nat) : Int) := by rw [i64_w]; unfold wrap64; omega
      have hml : m' < l.length := by omega
      have hmi : i ≤ m' ∧ m' < j := by omega
      rw [← hm] at s1 s2
      have S1 := Aside0.mk s1
      have S2 := Aside0.mk s2
      have HM := Aside0.mk hmi
      clear s1 s2 hm hmi HJ
      go_wp2_with fail

      clear em w1 d1
      refine (kid1_calls wr g h b A n c B l d C q e s (HN.out.below HB.out) (Kd.C_below HA.out HB.out) m' hml).mono ?_
      rintro e_ w2 ⟨rfl, hb2⟩
      have HB2 := Aside0.mk (below_then HB.out (below_size HB.out) hb2)
      clear hb2 HB
      have hp : (Op.bytesLess s.toList (rdOf ByteArray.empty l m').toList) = pK l s m' := rfl
      rw [hp]
      clear hp
      cases hp : pK l s m' with
      | true =>
        have HP := Aside0.mk (S1.out hp)
        clear hp S1 S2
        go_wp2_with fail
        go_roundw
        case rel => exact ⟨i, m', rfl, rfl, HM.out.1, by have := HM.out.2; omega, HP, HB2⟩
        case measure => have := HM.out; simp only [vNat]; omega
      | false =>
        have HP := Aside0.mk (S2.out hp)
        clear hp S1 S2
        go_wp2_with fail
        go_roundw
        case rel => exact ⟨m' + 1, j, rfl, rfl, by have := HM.out.2; omega, q2, HP, HB2⟩
        case measure => have := HM.out; simp only [vNat]; omega
    · obtain rfl : i = j := by omega
      have d1 : decide ((i : Int) < (i : Int)) = false := decide_eq_false (by omega)
      have hR : i = R := by have := HJ.out 0 (by omega); exact this
      go_wp2_with fail
      go_ret
      rw [hR]
      exact ⟨rfl, HB.out⟩
end Go.Proofs.Ytdjjpgdhnoibkaa.My
namespace Go.Proofs.Ytdjjpgdhnoibkaa.My
open Go.RowKit Go.Proofs.YtdjjpgdhnoibkaaW.PrintWords Go.Proofs.YtdjjpgdhnoibkaaW.PrintLast Go.Proofs.YtdjjpgdhnoibkaaW.PrintMore Go.Proofs.Ytdjjpgdhnoibkaa Go.Proofs.Ytdjjpgdhnoibkaa.PZ
set_option linter.unusedSimpArgs false
set_option linter.unusedVariables false
set_option maxRecDepth 100000
set_option maxHeartbeats 1600000
attribute [local go_sem high] conv_rune str_leq str_gtr
def findV (l : List Ce) (s : ByteArray) : Int × Bool := ((srch (pF l s) l.length 0 l.length : Nat), decide (srch (pF l s) l.length 0 l.length < l.length) && ((rd_T66 l (srch (pF l s) l.length 0 l.length : Nat)).f0.toList == s.toList))
def node_find.f (a0_0 : Bool) (l0_1 : List S66) (l0_2 : List ByteArray) (l0_3 : List Int) (a1 : ByteArray) : Option (Int × Bool) := if l0_1.length ≤ 8800000000000 then some (findV l0_1 a1) else none
theorem node_find.calls (a0_0 : Bool) (A0_1 : Option Addr) (c0_1 : Nat) (l0_1 : List S66) (A0_2 : Option Addr) (c0_2 : Nat) (l0_2 : List ByteArray) (A0_3 : Option Addr) (c0_3 : Nat) (l0_3 : List Int) (a1 : ByteArray) (r1 : Int) (r2 : Bool) (w : World) (hr0_1 : Kd.C k66 w A0_1 l0_1.length l0_1) (hc0_1 : l0_1.length ≤ c0_1) (hr0_2 : Kd.C Kd.string w A0_2 l0_2.length l0_2) (hc0_2 : l0_2.length ≤ c0_2) (hr0_3 : Kd.C (Kd.int .u32) w A0_3 l0_3.length l0_3) (hc0_3 : l0_3.length ≤ c0_3) (h : node_find.f a0_0 l0_1 l0_2 l0_3 a1 = some (r1, r2)) :
    Calls Try.prog 64 #[.agg #[.bool a0_0, .slice A0_1 l0_1.length c0_1, .slice A0_2 l0_2.length c0_2, .slice A0_3 l0_3.length c0_3], .string a1] w fun e w' => e = .returned (.tuple #[.int .i64 r1, .bool r2]) ∧ Below w.heap.size w w' := by
  unfold node_find.f at h
  split at h
  case isFalse => cases h
  rename_i hlen
  have h := Option.some.inj h
  clear hr0_2 hr0_3 hc0_2 hc0_3
  have HR := Aside0.mk hr0_1
  clear hr0_1
  go_enter Try.func64, Try.ntmps64
  go_wp2_with fail
  have hs1 : (w.alloc (.cells #[.bool a0_0, .slice A0_1 l0_1.length c0_1, .slice A0_2 l0_2.length c0_2, .slice A0_3 l0_3.length c0_3] 26)).heap.size = w.heap.size + 1 := by show (w.heap.push _).size = _; rw [Array.size_push]
  have hN : NB ((w.alloc (.cells #[.bool a0_0, .slice A0_1 l0_1.length c0_1, .slice A0_2 l0_2.length c0_2, .slice A0_3 l0_3.length c0_3] 26)).alloc (.cells #[.string a1] 9)) w.heap.size (w.heap.size + 1) a0_0 A0_1 l0_1.length c0_1 A0_2 l0_2.length c0_2 A0_3 l0_3.length c0_3 a1 := by
    refine ⟨blk_below (blk_new w _) ((Below.refl _ _).alloc (Nat.le_refl _) _), ?_⟩
    rw [← hs1]
    exact blk_new _ _
  have hb0 : Below w.heap.size w ((w.alloc (.cells #[.bool a0_0, .slice A0_1 l0_1.length c0_1, .slice A0_2 l0_2.length c0_2, .slice A0_3 l0_3.length c0_3] 26)).alloc (.cells #[.string a1] 9)) := ((Below.refl w.heap.size w).alloc (Nat.le_refl _) _).alloc (by omega) _
  generalize (w.alloc (.cells #[.bool a0_0, .slice A0_1 l0_1.length c0_1, .slice A0_2 l0_2.length c0_2, .slice A0_3 l0_3.length c0_3] 26)).alloc (.cells #[.string a1] 9) = wn at *
  generalize w.heap.size + 1 = gh at hN ⊢
  clear hs1
  refine (searchF wn w.heap.size gh a0_0 A0_1 l0_1 c0_1 A0_2 l0_2.length c0_2 A0_3 l0_3.length c0_3 a1 hN (Kd.C_below HR.out hb0) hlen).mono ?_
  rintro e_ w2 ⟨rfl, hb2⟩
  have hN2 := hN.below hb2
  have hHR := Kd.C_below (Kd.C_below HR.out hb0) hb2
  have HB := Aside0.mk (below_then hb0 (below_size hb0) hb2)
  clear hb2 hb0 hN HR
  unfold findV at h
  generalize hR : srch (pF l0_1 a1) l0_1.length 0 l0_1.length = R at h ⊢
  clear hR
  obtain ⟨h1, h2⟩ := Prod.mk.inj h
  subst h1 h2
  clear h
  have c1 : w2.cell? ⟨w.heap.size, 1, none⟩ = some (.slice A0_1 l0_1.length c0_1) := (blk_cell hN2.1 1).trans rfl
  have c2 : w2.cell? ⟨gh, 0, none⟩ = some (.string a1) := (blk_cell hN2.2 0).trans rfl
  clear hN2
  generalize w.heap.size = gn at c1 ⊢
  by_cases hRl : R < l0_1.length
  · have d1 : decide ((R : Int) < (l0_1.length : Int)) = true := decide_eq_true (by omega)
    have m0 : (0 : Int) ≤ (R : Int) := by omega
    have m1 : (R : Int) < (l0_1.length : Int) := by omega
    obtain ⟨ad, rfl, hx0, hx1⟩ := at_T66 hHR (R : Int) m0 m1
    simp only [Int.toNat_natCast] at hx0 hx1
    generalize hx : rd_T66 l0_1 (R : Int) = x at hx0 hx1
    have HX := Aside0.mk hx
    clear hx
    clear hHR
    have HL := Aside0.mk hRl
    clear hRl
    go_wp2_with fail
    repeat (go_quiet (fail); try go_wp2_with fail)
    go_ret2
    rw [decide_eq_true HL.out, Bool.true_and, HX.out]
    exact ⟨rfl, below_then HB.out (below_size HB.out) (pw_below_drewN (Below.refl _ _) _)⟩
  · have d2 : decide (R < l0_1.length) = false := decide_eq_false hRl
    have HL := Aside0.mk hRl
    clear hRl
    go_wp2_with fail
    go_quiet (fail)
    go_wp2_with fail
    go_ret2
    rw [d2, Bool.false_and]
    exact ⟨rfl, below_then HB.out (below_size HB.out) (pw_below_drewN (Below.refl _ _) _)⟩
def kidV (l : List ByteArray) (s : ByteArray) : Int := (srch (pK l s) l.length 0 l.length : Nat)
end Go.Proofs.Ytdjjpgdhnoibkaa.My
namespace Go.Proofs.Ytdjjpgdhnoibkaa.My
open Go.RowKit Go.Proofs.YtdjjpgdhnoibkaaW.PrintWords Go.Proofs.YtdjjpgdhnoibkaaW.PrintLast Go.Proofs.YtdjjpgdhnoibkaaW.PrintMore Go.Proofs.Ytdjjpgdhnoibkaa Go.Proofs.Ytdjjpgdhnoibkaa.PZ
set_option linter.unusedSimpArgs false
set_option linter.unusedVariables false
set_option maxRecDepth 100000
set_option maxHeartbeats 800000
theorem w64N (x : Nat) (h : x < 9000000000000000000) : wrap64 (x : Int) = x := by unfold wrap64; omega
theorem w64A (p n : Nat) (h : p + n < 9000000000000000000) : wrap64 ((p : Int) + (n : Int)) = ((p + n : Nat) : Int) := by rw [← Int.natCast_add, w64N _ h]
theorem w64S (i : Nat) (h : i < 8000000000000000000) : wrap64 ((i : Int) + 1) = ((i + 1 : Nat) : Int) := w64A i 1 (by omega)
theorem w64P (i : Nat) (h : i < 9000000000000000000) (h0 : 1 ≤ i) : wrap64 ((i : Int) - 1) = ((i - 1 : Nat) : Int) := by unfold wrap64; omega
theorem rdS_at (l : List ByteArray) (i : Nat) (h : i < l.length) : rdOf ByteArray.empty l (i : Int) = l[i] := by
 unfold rdOf
 rw [Int.toNat_natCast, List.getD_eq_getElem?_getD, List.getElem?_eq_getElem h]
 rfl
theorem rdC_at (l : List Ce) (i : Nat) (h : i < l.length) : rd_T66 l (i : Int) = l[i] := by
 unfold rd_T66
 rw [Int.toNat_natCast, List.getD_eq_getElem?_getD, List.getElem?_eq_getElem h]
 rfl
theorem rdI_at (l : List Int) (i : Nat) (h : i < l.length) : rd l (i : Int) = l[i] := by
 unfold rd
 rw [Int.toNat_natCast, List.getD_eq_getElem?_getD, List.getElem?_eq_getElem h]
 rfl
/-- How many bytes a text takes. -/
def txN (s : ByteArray) : Nat := s.size + (if s.size < 128 then 1 else 2)
def clN (c : Ce) : Nat := txN c.f0 + txN c.f1
def sumC : List Ce → Nat
 | [] => 0
 | c :: t => clN c + sumC t
def sumK : List ByteArray → Nat
 | [] => 0
 | k :: t => txN k + 4 + sumK t
def lngV (b : Bool) (cs : List Ce) (ks : List ByteArray) : Nat := if b = true then 3 + sumC cs else 7 + sumK ks
def okC (c : Ce) : Bool := decide (1 ≤ c.f0.size) && decide (c.f0.size + c.f1.size ≤ 320)
def okK (k : ByteArray) : Bool := decide (1 ≤ k.size) && decide (k.size ≤ 320)
def rsB : ByteArray → List ByteArray → Bool
 | _, [] => true
 | p, x :: t => Op.bytesLess p.toList x.toList && rsB x t
def keysV (cs : List Ce) (ks : List ByteArray) : List ByteArray := cs.map (fun c => c.f0) ++ ks
def shpV (b : Bool) (cs : List Ce) (ks : List ByteArray) (kids : List Int) : Bool := if b = true then ks.isEmpty && kids.isEmpty else !(kids.any (fun x => decide (x = 0))) && (cs.isEmpty && decide (kids.length = ks.length + 1))
def chkV (b : Bool) (cs : List Ce) (ks : List ByteArray) (kids : List Int) : Int :=
 if shpV b cs ks kids = false then 80 else if (cs.all okC && ks.all okK) = false then 82 else if rsB ⟨#[]⟩ (keysV cs ks) = false then 81 else if 1992 < lngV b cs ks then 82 else 0
/-- What the walks need of a node that comes in. -/
def NdOk (cs : List Ce) (ks : List ByteArray) (kids : List Int) : Prop := (cs.length < 4398046511104 ∧ ks.length < 8796093022208 ∧ kids.length < 35184372088832) ∧ (∀ c ∈ cs, c.f0.size ≤ 140737488351232 ∧ c.f1.size ≤ 140737488351232) ∧ ∀ k ∈ ks, k.size ≤ 140737488351232
theorem text_f (s : ByteArray) (h : s.size ≤ 140737488351232) : node_text.f s = some ((txN s : Nat) : Int) := by
 unfold node_text.f txN
 have e1 : wrap64 (1 + (s.size : Int)) = ((1 + s.size : Nat) : Int) := w64A 1 s.size (by omega)
 by_cases h1 : s.size < 128
 ·rw [if_neg (by omega), if_pos h1, e1, Nat.add_comm]
 ·rw [if_pos (by omega), if_neg h1, e1, w64S _ (by omega)]
  congr 2
  omega
theorem csize_f (a b : ByteArray) (h1 : a.size ≤ 140737488351232) (h2 : b.size ≤ 140737488351232) : node_cellSize.f a b = some ((clN ⟨a, b⟩ : Nat) : Int) := by
 have l1 : txN a ≤ a.size + 2 := by unfold txN; split <;> omega
 have l2 : txN b ≤ b.size + 2 := by unfold txN; split <;> omega
 unfold node_cellSize.f
 rw [text_f a h1, Option.bind_some, text_f b h2, Option.bind_some, w64A _ _ (by omega)]
 rfl
theorem ksize_f (a : ByteArray) (h1 : a.size ≤ 140737488351232) : node_keySize.f a = some ((txN a + 4 : Nat) : Int) := by
 have l1 : txN a ≤ a.size + 2 := by unfold txN; split <;> omega
 unfold node_keySize.f
 rw [text_f a h1, Option.bind_some]
 show some (wrap64 (((txN a : Nat) : Int) + ((4 : Nat) : Int))) = _
 rw [w64A _ _ (by omega)]
theorem size_l1 (ks : List ByteArray) (hl : ks.length < 8796093022208) (hs : ∀ k ∈ ks, k.size ≤ 140737488351232) (hk : ks.all okK = true) : ∀ (n i k x : Nat), i + n = ks.length → n + 1 ≤ k → x ≤ 9000000000000000 + i * 330 → node_size.l1 k (x : Int) ks (ks.length : Int) (i : Int) = some ((x + sumK (ks.drop i) : Nat) : Int)
 | 0, i, k, x, hi, hk, hx => by
  obtain ⟨k, rfl⟩ : ∃ j, k = j + 1 := ⟨k - 1, by omega⟩
  rw [node_size.l1, if_neg (by omega), List.drop_eq_nil_of_le (by omega)]
  rfl
 | n + 1, i, k, x, hi, hk', hx => by
  obtain ⟨k, rfl⟩ : ∃ j, k = j + 1 := ⟨k - 1, by omega⟩
  have hi' : i < ks.length := by omega
  have hm := List.getElem_mem hi'
  have h1 := hs _ hm
  have h2 : okK ks[i] = true := List.all_eq_true.1 hk _ hm
  unfold okK at h2
  rw [Bool.and_eq_true, decide_eq_true_eq, decide_eq_true_eq] at h2
  have l1 : txN ks[i] ≤ ks[i].size + 2 := by unfold txN; split <;> omega
  rw [node_size.l1, if_pos (by omega), if_pos (by omega), if_pos (by omega), rdS_at ks i hi', ksize_f _ h1, Option.bind_some, w64A x _ (by omega), w64S i (by omega), size_l1 ks hl hs hk n (i + 1) k _ (by omega) (by omega) (by omega), List.drop_eq_getElem_cons hi', sumK]
  congr 2
  omega
theorem size_l0 (b : Bool) (cs : List Ce) (ks : List ByteArray) (kids : List Int) (hn : NdOk cs ks kids) (hc : cs.all okC = true) (hk : ks.all okK = true) : ∀ (n i k x : Nat), i + n = cs.length → n + ks.length + 5 ≤ k → x ≤ 3 + i * 330 → node_size.l0 k (x : Int) cs (cs.length : Int) (i : Int) b cs ks kids = some ((x + sumC (cs.drop i) + (if b = true then 0 else 4 + sumK ks) : Nat) : Int)
 | 0, i, k, x, hi, hk', hx => by
  obtain ⟨k, rfl⟩ : ∃ j, k = j + 1 := ⟨k - 1, by omega⟩
  have hcl := hn.1.1
  rw [node_size.l0, if_neg (by omega), List.drop_eq_nil_of_le (by omega)]
  cases b with
  | true => rw [if_pos rfl, if_pos rfl]; rfl
  | false =>
   rw [if_neg (by decide), if_neg (by decide)]
   have e4 : wrap64 ((x : Int) + 4) = ((x + 4 : Nat) : Int) := w64A x 4 (by omega)
   have h := size_l1 ks hn.1.2.1 hn.2.2 hk ks.length 0 k (x + 4) (by omega) (by omega) (by omega)
   rw [e4]
   refine h.trans ?_
   rw [List.drop_zero]
   congr 2
   show _ = x + 0 + _
   omega
 | n + 1, i, k, x, hi, hk', hx => by
  obtain ⟨k, rfl⟩ : ∃ j, k = j + 1 := ⟨k - 1, by omega⟩
  have hcl := hn.1.1
  have hi' : i < cs.length := by omega
  have hm := List.getElem_mem hi'
  have h1 := hn.2.1 _ hm
  have h2 : okC cs[i] = true := List.all_eq_true.1 hc _ hm
  unfold okC at h2
  rw [Bool.and_eq_true, decide_eq_true_eq, decide_eq_true_eq] at h2
  have l1 : clN cs[i] ≤ 330 := by unfold clN txN; split <;> split <;> omega
  rw [node_size.l0, if_pos (by omega), if_pos (by omega), if_pos (by omega), rdC_at cs i hi', csize_f _ _ h1.1 h1.2, Option.bind_some, w64A x _ (by show x + clN cs[i] < _; omega), w64S i (by omega)]
  have e : clN (⟨cs[i].f0, cs[i].f1⟩ : Ce) = clN cs[i] := rfl
  rw [e, size_l0 b cs ks kids hn hc hk n (i + 1) k _ (by omega) (by omega) (by omega), List.drop_eq_getElem_cons hi', sumC]
  congr 2
  omega
theorem size_f (b : Bool) (cs : List Ce) (ks : List ByteArray) (kids : List Int) (hn : NdOk cs ks kids) (hc : cs.all okC = true) (hk : ks.all okK = true) (k : Nat) (hK : cs.length + ks.length + 5 ≤ k) : node_size.f k b cs ks kids = some ((3 + sumC cs + (if b = true then 0 else 4 + sumK ks) : Nat) : Int) := by
 have h := size_l0 b cs ks kids hn hc hk cs.length 0 k 3 (by omega) (by omega) (by omega)
 rw [List.drop_zero] at h
 exact h
theorem keyed_f (s : ByteArray) : node_keyed.f s = some (okK s) := by
 unfold node_keyed.f okK
 by_cases h : 0 < s.size
 ·rw [if_pos (by omega), decide_eq_true (show 1 ≤ s.size from h), Bool.true_and]
  congr 1
  exact decide_eq_decide.2 (by omega)
 ·rw [if_neg (by omega), decide_eq_false (show ¬ 1 ≤ s.size by omega), Bool.false_and]
theorem chk_l1 (b : Bool) (cs : List Ce) (ks : List ByteArray) (kids : List Int) (hn : NdOk cs ks kids) (hc : cs.all okC = true) : ∀ (n i k : Nat) (r : Bool) (p : ByteArray), i + n = ks.length → ks.length + cs.length + n + 10 ≤ k → (ks.take i).all okK = true →
  node_Check.l1 k r p ks (ks.length : Int) (i : Int) b cs ks kids = some (if (ks.drop i).all okK = false then 82 else if (r && rsB p (ks.drop i)) = false then 81 else if 1992 < 3 + sumC cs + (if b = true then 0 else 4 + sumK ks) then 82 else 0)
 | 0, i, k, r, p, hi, hk, ht => by
  obtain ⟨k, rfl⟩ : ∃ j, k = j + 1 := ⟨k - 1, by omega⟩
  rw [List.take_of_length_le (by omega)] at ht
  rw [node_Check.l1, if_neg (by omega), List.drop_eq_nil_of_le (by omega), rsB, Bool.and_true]
  cases r with
  | false => rfl
  | true =>
   rw [if_pos rfl, size_f b cs ks kids hn hc ht k (by omega), Option.bind_some, if_neg (show ¬ ((([] : List ByteArray).all okK) = false) by decide), if_neg (show ¬ (true = false) by decide)]
   by_cases h : 1992 < 3 + sumC cs + (if b = true then 0 else 4 + sumK ks)
   ·rw [if_pos (by omega), if_pos h]
   ·rw [if_neg (by omega), if_neg h]
 | n + 1, i, k, r, p, hi, hk, ht => by
  obtain ⟨k, rfl⟩ : ∃ j, k = j + 1 := ⟨k - 1, by omega⟩
  have hi' : i < ks.length := by omega
  have hkl := hn.1.2.1
  rw [node_Check.l1, if_pos (by omega), if_pos (by omega), if_pos (by omega), rdS_at ks i hi', keyed_f, Option.bind_some, List.drop_eq_getElem_cons hi', List.all_cons]
  cases ho : okK ks[i] with
  | false => rw [if_neg (by decide), if_pos (Bool.false_and _)]
  | true =>
   have ht2 : (ks.take (i + 1)).all okK = true := by rw [List.take_succ_eq_append_getElem hi', List.all_append, ht, Bool.true_and, List.all_cons, ho]; rfl
   have e : (if r = true then node_Check.l1 k (Op.bytesLess p.toList ks[i].toList) ks[i] ks (ks.length : Int) (wrap64 ((i : Int) + 1)) b cs ks kids else node_Check.l1 k false ks[i] ks (ks.length : Int) (wrap64 ((i : Int) + 1)) b cs ks kids) = node_Check.l1 k (r && Op.bytesLess p.toList ks[i].toList) ks[i] ks (ks.length : Int) (wrap64 ((i : Int) + 1)) b cs ks kids := by cases r <;> rfl
   rw [if_pos rfl, e, w64S i (by omega), chk_l1 b cs ks kids hn hc n (i + 1) k _ ks[i] (by omega) (by omega) ht2, Bool.true_and, rsB, Bool.and_assoc]
theorem chk_l0 (b : Bool) (cs : List Ce) (ks : List ByteArray) (kids : List Int) (hn : NdOk cs ks kids) : ∀ (n i k : Nat) (r : Bool) (p : ByteArray), i + n = cs.length → 2 * ks.length + cs.length + n + 20 ≤ k → (cs.take i).all okC = true →
  node_Check.l0 k r p cs (cs.length : Int) (i : Int) b cs ks kids = some (if ((cs.drop i).all okC && ks.all okK) = false then 82 else if (r && rsB p ((cs.drop i).map (fun c => c.f0) ++ ks)) = false then 81 else if 1992 < 3 + sumC cs + (if b = true then 0 else 4 + sumK ks) then 82 else 0)
 | 0, i, k, r, p, hi, hk, ht => by
  obtain ⟨k, rfl⟩ : ∃ j, k = j + 1 := ⟨k - 1, by omega⟩
  rw [List.take_of_length_le (by omega)] at ht
  rw [node_Check.l0, if_neg (by omega), List.drop_eq_nil_of_le (by omega)]
  have h := chk_l1 b cs ks kids hn ht ks.length 0 k r p (by omega) (by omega) rfl
  rw [List.drop_zero] at h
  exact h
 | n + 1, i, k, r, p, hi, hk, ht => by
  obtain ⟨k, rfl⟩ : ∃ j, k = j + 1 := ⟨k - 1, by omega⟩
  have hi' : i < cs.length := by omega
  have hcl := hn.1.1
  have h1 := hn.2.1 _ (List.getElem_mem hi')
  have e0 : wrap64 ((cs[i].f0.size : Int) + (cs[i].f1.size : Int)) = ((cs[i].f0.size + cs[i].f1.size : Nat) : Int) := w64A _ _ (by omega)
  rw [node_Check.l0, if_pos (by omega), if_pos (by omega), if_pos (by omega), rdC_at cs i hi', e0, List.drop_eq_getElem_cons hi', List.all_cons]
  by_cases hz : cs[i].f0.size = 0
  ·have ho : okC cs[i] = false := by unfold okC; rw [decide_eq_false (by omega), Bool.false_and]
   rw [if_pos (by omega), ho, Bool.false_and, Bool.false_and, if_pos rfl]
  ·rw [if_neg (by omega)]
   by_cases hb : 320 < cs[i].f0.size + cs[i].f1.size
   ·have ho : okC cs[i] = false := by unfold okC; rw [decide_eq_false (show ¬ cs[i].f0.size + cs[i].f1.size ≤ 320 by omega), Bool.and_false]
    rw [if_pos (by omega), ho, Bool.false_and, Bool.false_and, if_pos rfl]
   ·have ho : okC cs[i] = true := by unfold okC; rw [decide_eq_true (show 1 ≤ cs[i].f0.size by omega), decide_eq_true (show cs[i].f0.size + cs[i].f1.size ≤ 320 by omega)]; rfl
    have ht2 : (cs.take (i + 1)).all okC = true := by rw [List.take_succ_eq_append_getElem hi', List.all_append, ht, Bool.true_and, List.all_cons, ho]; rfl
    have e : (if r = true then node_Check.l0 k (Op.bytesLess p.toList cs[i].f0.toList) cs[i].f0 cs (cs.length : Int) (wrap64 ((i : Int) + 1)) b cs ks kids else node_Check.l0 k false cs[i].f0 cs (cs.length : Int) (wrap64 ((i : Int) + 1)) b cs ks kids) = node_Check.l0 k (r && Op.bytesLess p.toList cs[i].f0.toList) cs[i].f0 cs (cs.length : Int) (wrap64 ((i : Int) + 1)) b cs ks kids := by cases r <;> rfl
    rw [if_neg (by omega), e, w64S i (by omega), chk_l0 b cs ks kids hn n (i + 1) k _ cs[i].f0 (by omega) (by omega) ht2, ho, Bool.true_and, List.map_cons, List.cons_append, rsB, Bool.and_assoc]
theorem index_l0 (l : List Int) (hl : l.length < 35184372088832) : ∀ (n i k : Nat), i + n = l.length → n + 1 ≤ k → ∃ x : Int, slices_Index_uint32_uint32.l0 k l 0 (l.length : Int) (i : Int) = some x ∧ decide (x ≥ 0) = (l.drop i).any (fun x => decide (x = 0))
 | 0, i, k, hi, hk => by
  obtain ⟨k, rfl⟩ : ∃ j, k = j + 1 := ⟨k - 1, by omega⟩
  exact ⟨-1, by rw [slices_Index_uint32_uint32.l0, if_neg (by omega)], by rw [List.drop_eq_nil_of_le (by omega)]; rfl⟩
 | n + 1, i, k, hi, hk => by
  obtain ⟨k, rfl⟩ : ∃ j, k = j + 1 := ⟨k - 1, by omega⟩
  have hi' : i < l.length := by omega
  rw [slices_Index_uint32_uint32.l0, if_pos (by omega), if_pos (by omega), if_pos (by omega), rdI_at l i hi', List.drop_eq_getElem_cons hi', List.any_cons]
  by_cases h : l[i] = 0
  ·exact ⟨(i : Int), by rw [if_pos h.symm], by rw [decide_eq_true h, Bool.true_or]; exact decide_eq_true (by omega)⟩
  ·obtain ⟨x, h1, h2⟩ := index_l0 l hl n (i + 1) k (by omega) (by omega)
   exact ⟨x, by rw [if_neg (fun e => h e.symm), w64S i (by omega), h1], by rw [decide_eq_false h, Bool.false_or, h2]⟩
theorem contains_f (l : List Int) (hl : l.length < 35184372088832) (k : Nat) (hk : l.length + 1 ≤ k) : slices_Contains_uint32_uint32.f k l 0 = some (l.any (fun x => decide (x = 0))) := by
 obtain ⟨x, h1, h2⟩ := index_l0 l hl l.length 0 k (by omega) hk
 unfold slices_Contains_uint32_uint32.f slices_Index_uint32_uint32.f
 have h3 : slices_Index_uint32_uint32.l0 k l 0 (l.length : Int) 0 = some x := h1
 rw [h3, Option.bind_some, h2, List.drop_zero]
theorem lng_eq (b : Bool) (cs : List Ce) (ks : List ByteArray) (h : b = true ∨ cs = []) : 3 + sumC cs + (if b = true then 0 else 4 + sumK ks) = lngV b cs ks := by
 unfold lngV
 cases b with
 | true => rfl
 | false =>
  rcases h with h | rfl
  ·cases h
  ·rw [if_neg (by decide), if_neg (by decide)]
   show 3 + 0 + _ = _
   omega
/-- The program's Check. -/
theorem ochk_f (b : Bool) (cs : List Ce) (ks : List ByteArray) (kids : List Int) (hn : NdOk cs ks kids) (k : Nat) (hk : 2 * (cs.length + ks.length) + kids.length + 60 ≤ k) : node_Check.f k b cs ks kids = some (chkV b cs ks kids) := by
 obtain ⟨⟨n1, n2, n3⟩, n4, n5⟩ := hn
 have hn : NdOk cs ks kids := ⟨⟨n1, n2, n3⟩, n4, n5⟩
 have hj : ∀ k, 2 * (cs.length + ks.length) + 50 ≤ k → (b = true ∨ cs = []) → node_Check.j0 k false b cs ks kids = some (if (cs.all okC && ks.all okK) = false then 82 else if rsB ⟨#[]⟩ (keysV cs ks) = false then 81 else if 1992 < lngV b cs ks then 82 else 0) := by
  intro k hk hb
  obtain ⟨k, rfl⟩ : ∃ j, k = j + 1 := ⟨k - 1, by omega⟩
  rw [node_Check.j0, if_neg (by decide)]
  have h := chk_l0 b cs ks kids hn cs.length 0 k true ⟨#[]⟩ (by omega) (by omega) rfl
  rw [List.drop_zero, lng_eq b cs ks hb] at h
  exact h
 have hbad : ∀ k, 1 ≤ k → node_Check.j0 k true b cs ks kids = some 80 := by
  intro k hk
  obtain ⟨k, rfl⟩ : ∃ j, k = j + 1 := ⟨k - 1, by omega⟩
  rw [node_Check.j0, if_pos rfl]
 have e1 : wrap64 ((ks.length : Int) + (kids.length : Int)) = ((ks.length + kids.length : Nat) : Int) := w64A _ _ (by omega)
 unfold node_Check.f chkV shpV
 cases b with
 | true =>
  rw [if_pos rfl, if_pos rfl, e1]
  by_cases h0 : ks.length + kids.length = 0
  ·have a1 : ks = [] := List.length_eq_zero_iff.1 (by omega)
   have a2 : kids = [] := List.length_eq_zero_iff.1 (by omega)
   rw [if_neg (by omega), hj k (by omega) (.inl rfl), a1, a2, if_neg (show ¬ ((([] : List ByteArray).isEmpty && ([] : List Int).isEmpty) = false) by decide)]
  ·have a1 : (ks.isEmpty && kids.isEmpty) = false := by
    cases ks with
    | nil =>
     cases kids with
     | nil => exact absurd rfl h0
     | cons x t => rfl
    | cons x t => rfl
   rw [if_pos (by omega), hbad k (by omega), if_pos a1]
 | false =>
  rw [if_neg (show ¬ (false = true) by decide), if_neg (show ¬ (false = true) by decide)]
  by_cases hc : cs.length = 0
  ·have a1 : cs = [] := List.length_eq_zero_iff.1 hc
   rw [if_neg (by omega), w64S _ (by omega), contains_f kids n3 k (by omega), Option.bind_some]
   by_cases hq : kids.length = ks.length + 1
   ·rw [if_pos (by omega), decide_eq_true hq]
    cases hz : kids.any (fun x => decide (x = 0)) with
    | true => rw [hbad k (by omega), if_pos (show (!true && (cs.isEmpty && true)) = false from rfl)]
    | false => rw [hj k (by omega) (.inr a1), a1, if_neg (show ¬ ((!false && (([] : List Ce).isEmpty && true)) = false) by decide)]
   ·rw [if_neg (by omega), hbad k (by omega), decide_eq_false hq, Bool.and_false, Bool.and_false, if_pos rfl]
  ·have a1 : cs.isEmpty = false := by
    cases cs with
    | nil => exact absurd rfl hc
    | cons x t => rfl
   rw [if_pos (by omega), hbad k (by omega), a1, Bool.false_and, Bool.and_false, if_pos rfl]
theorem uints_f (n : Nat) : concordref08_uints.f (n : Int) = some ((if n < 128 then 1 else 2 : Nat) : Int) := by
 unfold concordref08_uints.f
 by_cases h : n < 128
 ·rw [if_pos (by omega), if_pos h]; rfl
 ·rw [if_neg (by omega), if_neg h]; rfl
theorem long_l0 (b : Bool) (cs : List Ce) (ks : List ByteArray) (kids : List Int) (hl : cs.length < 4398046511104) (hc : cs.all okC = true) : ∀ (n i k x : Nat), i + n = cs.length → n + 1 ≤ k → x ≤ 3 + i * 330 → concordref08_Long.l0 k (x : Int) (i : Int) b cs ks kids = some ((x + sumC (cs.drop i) : Nat) : Int)
 | 0, i, k, x, hi, hk, hx => by
  obtain ⟨k, rfl⟩ : ∃ j, k = j + 1 := ⟨k - 1, by omega⟩
  rw [concordref08_Long.l0, if_neg (by omega), List.drop_eq_nil_of_le (by omega)]
  rfl
 | n + 1, i, k, x, hi, hk, hx => by
  obtain ⟨k, rfl⟩ : ∃ j, k = j + 1 := ⟨k - 1, by omega⟩
  have hi' : i < cs.length := by omega
  have h2 : okC cs[i] = true := List.all_eq_true.1 hc _ (List.getElem_mem hi')
  unfold okC at h2
  rw [Bool.and_eq_true, decide_eq_true_eq, decide_eq_true_eq] at h2
  have u1 : (if cs[i].f0.size < 128 then 1 else 2 : Nat) ≤ 2 := by split <;> omega
  have u2 : (if cs[i].f1.size < 128 then 1 else 2 : Nat) ≤ 2 := by split <;> omega
  have e : clN cs[i] = cs[i].f0.size + (if cs[i].f0.size < 128 then 1 else 2) + (cs[i].f1.size + (if cs[i].f1.size < 128 then 1 else 2)) := rfl
  rw [concordref08_Long.l0, if_pos (by omega), if_pos (by omega), rdC_at cs i hi', uints_f, Option.bind_some, uints_f, Option.bind_some]
  generalize (if cs[i].f0.size < 128 then 1 else 2 : Nat) = a at *
  generalize (if cs[i].f1.size < 128 then 1 else 2 : Nat) = d at *
  rw [w64A x a (by omega), w64A _ cs[i].f0.size (by omega), w64A _ d (by omega), w64A _ cs[i].f1.size (by omega), w64S i (by omega), long_l0 b cs ks kids hl hc n (i + 1) k _ (by omega) (by omega) (by omega), List.drop_eq_getElem_cons hi', sumC, e]
  congr 2
  omega
theorem long_l1 (b : Bool) (cs : List Ce) (ks : List ByteArray) (kids : List Int) (hl : ks.length < 8796093022208) (hc : ks.all okK = true) : ∀ (n i k x : Nat), i + n = ks.length → n + 1 ≤ k → x ≤ 7 + i * 330 → concordref08_Long.l1 k (x : Int) (i : Int) b cs ks kids = some ((x + sumK (ks.drop i) : Nat) : Int)
 | 0, i, k, x, hi, hk, hx => by
  obtain ⟨k, rfl⟩ : ∃ j, k = j + 1 := ⟨k - 1, by omega⟩
  rw [concordref08_Long.l1, if_neg (by omega), List.drop_eq_nil_of_le (by omega)]
  rfl
 | n + 1, i, k, x, hi, hk, hx => by
  obtain ⟨k, rfl⟩ : ∃ j, k = j + 1 := ⟨k - 1, by omega⟩
  have hi' : i < ks.length := by omega
  have h2 : okK ks[i] = true := List.all_eq_true.1 hc _ (List.getElem_mem hi')
  unfold okK at h2
  rw [Bool.and_eq_true, decide_eq_true_eq, decide_eq_true_eq] at h2
  have u1 : (if ks[i].size < 128 then 1 else 2 : Nat) ≤ 2 := by split <;> omega
  have e : txN ks[i] = ks[i].size + (if ks[i].size < 128 then 1 else 2) := rfl
  rw [concordref08_Long.l1, if_pos (by omega), if_pos (by omega), rdS_at ks i hi', uints_f, Option.bind_some]
  generalize (if ks[i].size < 128 then 1 else 2 : Nat) = a at *
  have e4 : ∀ z : Nat, z < 8000000000000000000 → wrap64 ((z : Int) + 4) = ((z + 4 : Nat) : Int) := fun z hz => w64A z 4 (by omega)
  rw [w64A x a (by omega), w64A _ ks[i].size (by omega), e4 _ (by omega), w64S i (by omega), long_l1 b cs ks kids hl hc n (i + 1) k _ (by omega) (by omega) (by omega), List.drop_eq_getElem_cons hi', sumK, e]
  congr 2
  omega
theorem long_f (b : Bool) (cs : List Ce) (ks : List ByteArray) (kids : List Int) (hn : NdOk cs ks kids) (hc : cs.all okC = true) (hk : ks.all okK = true) (k : Nat) (hK : cs.length + ks.length + 5 ≤ k) : concordref08_Long.f k b cs ks kids = some ((lngV b cs ks : Nat) : Int) := by
 unfold concordref08_Long.f lngV
 cases b with
 | true =>
  rw [if_pos rfl, if_pos rfl]
  have h := long_l0 true cs ks kids hn.1.1 hc cs.length 0 k 3 (by omega) (by omega) (by omega)
  rw [List.drop_zero] at h
  exact h
 | false =>
  rw [if_neg (show ¬ (false = true) by decide), if_neg (show ¬ (false = true) by decide)]
  have h := long_l1 false cs ks kids hn.1.2.1 hk ks.length 0 k 7 (by omega) (by omega) (by omega)
  rw [List.drop_zero] at h
  exact h
theorem keyMay_f (s : ByteArray) : concordref08_keyMay.f s = some (okK s) := by
 unfold concordref08_keyMay.f okK
 by_cases h : 1 ≤ s.size
 ·rw [if_pos (by omega), decide_eq_true h, Bool.true_and]
  congr 1
  exact decide_eq_decide.2 (by omega)
 ·rw [if_neg (by omega), decide_eq_false h, Bool.false_and]
theorem cellMay_f (c : Ce) (h1 : c.f0.size ≤ 140737488351232) (h2 : c.f1.size ≤ 140737488351232) : concordref08_cellMay.f c.f0 c.f1 = some (okC c) := by
 unfold concordref08_cellMay.f okC
 have e0 : wrap64 ((c.f0.size : Int) + (c.f1.size : Int)) = ((c.f0.size + c.f1.size : Nat) : Int) := w64A _ _ (by omega)
 by_cases h : 1 ≤ c.f0.size
 ·rw [if_pos (by omega), decide_eq_true h, Bool.true_and, e0]
  congr 1
  exact decide_eq_decide.2 (by omega)
 ·rw [if_neg (by omega), decide_eq_false h, Bool.false_and]
theorem small_l1 (b : Bool) (cs : List Ce) (ks : List ByteArray) (kids : List Int) (hl : ks.length < 8796093022208) : ∀ (n i k : Nat), i + n = ks.length → n + 1 ≤ k → concordref08_small.l1 k (i : Int) b cs ks kids = some ((ks.drop i).all okK)
 | 0, i, k, hi, hk => by
  obtain ⟨k, rfl⟩ : ∃ j, k = j + 1 := ⟨k - 1, by omega⟩
  rw [concordref08_small.l1, if_neg (by omega), List.drop_eq_nil_of_le (by omega)]
  rfl
 | n + 1, i, k, hi, hk => by
  obtain ⟨k, rfl⟩ : ∃ j, k = j + 1 := ⟨k - 1, by omega⟩
  have hi' : i < ks.length := by omega
  rw [concordref08_small.l1, if_pos (by omega), if_pos (by omega), rdS_at ks i hi', keyMay_f, Option.bind_some, List.drop_eq_getElem_cons hi', List.all_cons]
  cases okK ks[i] with
  | false => rfl
  | true => rw [if_pos rfl, w64S i (by omega), small_l1 b cs ks kids hl n (i + 1) k (by omega) (by omega), Bool.true_and]
theorem small_l0 (b : Bool) (cs : List Ce) (ks : List ByteArray) (kids : List Int) (hn : NdOk cs ks kids) : ∀ (n i k : Nat), i + n = cs.length → n + ks.length + 3 ≤ k → concordref08_small.l0 k (i : Int) b cs ks kids = some ((cs.drop i).all okC && ks.all okK)
 | 0, i, k, hi, hk => by
  obtain ⟨k, rfl⟩ : ∃ j, k = j + 1 := ⟨k - 1, by omega⟩
  have hcl := hn.1.1
  rw [concordref08_small.l0, if_neg (by omega), List.drop_eq_nil_of_le (by omega)]
  have h := small_l1 b cs ks kids hn.1.2.1 ks.length 0 k (by omega) (by omega)
  rw [List.drop_zero] at h
  exact h
 | n + 1, i, k, hi, hk => by
  obtain ⟨k, rfl⟩ : ∃ j, k = j + 1 := ⟨k - 1, by omega⟩
  have hcl := hn.1.1
  have hi' : i < cs.length := by omega
  have h1 := hn.2.1 _ (List.getElem_mem hi')
  rw [concordref08_small.l0, if_pos (by omega), if_pos (by omega), rdC_at cs i hi', cellMay_f _ h1.1 h1.2, Option.bind_some, List.drop_eq_getElem_cons hi', List.all_cons]
  cases okC cs[i] with
  | false => rfl
  | true => rw [if_pos rfl, w64S i (by omega), small_l0 b cs ks kids hn n (i + 1) k (by omega) (by omega), Bool.true_and]
theorem keys_l1 (b : Bool) (cs : List Ce) (ks : List ByteArray) (kids : List Int) (hl : ks.length < 8796093022208) : ∀ (n i k : Nat) (acc : List ByteArray), i + n = ks.length → n + 1 ≤ k → acc.length + n < 8796093022209 → concordref08_keys.l1 k acc (i : Int) b cs ks kids = some (acc ++ ks.drop i)
 | 0, i, k, acc, hi, hk, ha => by
  obtain ⟨k, rfl⟩ : ∃ j, k = j + 1 := ⟨k - 1, by omega⟩
  rw [concordref08_keys.l1, if_neg (by omega), List.drop_eq_nil_of_le (by omega), List.append_nil]
 | n + 1, i, k, acc, hi, hk, ha => by
  obtain ⟨k, rfl⟩ : ∃ j, k = j + 1 := ⟨k - 1, by omega⟩
  have hi' : i < ks.length := by omega
  rw [concordref08_keys.l1, if_pos (by omega), if_pos (by omega), if_pos (by omega), rdS_at ks i hi', w64S i (by omega), keys_l1 b cs ks kids hl n (i + 1) k _ (by omega) (by omega) (by rw [List.length_append, List.length_singleton]; omega), List.drop_eq_getElem_cons hi', List.append_assoc]
  rfl
theorem keys_l0 (b : Bool) (cs : List Ce) (ks : List ByteArray) (kids : List Int) (hn : NdOk cs ks kids) (hs : cs = [] ∨ ks = []) : ∀ (n i k : Nat) (acc : List ByteArray), i + n = cs.length → n + ks.length + 3 ≤ k → acc.length = i → concordref08_keys.l0 k acc (i : Int) b cs ks kids = some (acc ++ keysV (cs.drop i) ks)
 | 0, i, k, acc, hi, hk, ha => by
  obtain ⟨k, rfl⟩ : ∃ j, k = j + 1 := ⟨k - 1, by omega⟩
  have hcl := hn.1.1
  have hkl := hn.1.2.1
  have hz : cs.length = 0 ∨ ks.length = 0 := hs.imp (fun h => by rw [h]; rfl) (fun h => by rw [h]; rfl)
  rw [concordref08_keys.l0, if_neg (by omega), List.drop_eq_nil_of_le (by omega)]
  have h := keys_l1 b cs ks kids hkl ks.length 0 k acc (by omega) (by omega) (by omega)
  rw [List.drop_zero] at h
  exact h
 | n + 1, i, k, acc, hi, hk, ha => by
  obtain ⟨k, rfl⟩ : ∃ j, k = j + 1 := ⟨k - 1, by omega⟩
  have hcl := hn.1.1
  have hi' : i < cs.length := by omega
  rw [concordref08_keys.l0, if_pos (by omega), if_pos (by omega), if_pos (by omega), rdC_at cs i hi', w64S i (by omega), keys_l0 b cs ks kids hn hs n (i + 1) k _ (by omega) (by omega) (by rw [List.length_append, ha]; rfl), List.drop_eq_getElem_cons hi', List.append_assoc]
  rfl
theorem rise_l0 (l : List ByteArray) (hl : l.length < 17592186044416) : ∀ (n i k : Nat) (p : ByteArray), i + n = l.length → n + 1 ≤ k → 1 ≤ i → l[i - 1]? = some p → concordref08_rise.l0 k l (i : Int) = some (rsB p (l.drop i))
 | 0, i, k, p, hi, hk, h1, hp => by
  obtain ⟨k, rfl⟩ : ∃ j, k = j + 1 := ⟨k - 1, by omega⟩
  rw [concordref08_rise.l0, if_neg (by omega), List.drop_eq_nil_of_le (by omega), rsB]
 | n + 1, i, k, p, hi, hk, h1, hp => by
  obtain ⟨k, rfl⟩ : ∃ j, k = j + 1 := ⟨k - 1, by omega⟩
  have hi' : i < l.length := by omega
  have hp2 : l[i - 1] = p := (List.getElem?_eq_some_iff.1 hp).2
  rw [concordref08_rise.l0, if_pos (by omega), if_pos (by omega), w64P i (by omega) h1, if_pos (by omega), if_pos (by omega), rdS_at l i hi', rdS_at l (i - 1) (by omega), hp2, List.drop_eq_getElem_cons hi', rsB]
  cases hb : Op.bytesLess p.toList l[i].toList with
  | false => rfl
  | true => rw [if_pos rfl, w64S i (by omega), rise_l0 l hl n (i + 1) k l[i] (by omega) (by omega) (by omega) (by rw [Nat.add_sub_cancel, List.getElem?_eq_getElem hi']), Bool.true_and]
theorem bl_nil (s : ByteArray) (h : 1 ≤ s.size) : Op.bytesLess (⟨#[]⟩ : ByteArray).toList s.toList = true := by
 rw [ByteArray.toList_eq, ByteArray.toList_eq]
 have hl : s.data.toList.length = s.size := by rw [Array.length_toList]; rfl
 cases hd : s.data.toList with
 | nil => rw [hd] at hl; simp at hl; omega
 | cons a t => rfl
theorem rise_f (l : List ByteArray) (hl : l.length < 17592186044416) (h1 : ∀ x ∈ l, 1 ≤ x.size) (k : Nat) (hk : l.length + 2 ≤ k) : concordref08_rise.f k l = some (rsB ⟨#[]⟩ l) := by
 unfold concordref08_rise.f
 cases l with
 | nil =>
  obtain ⟨k, rfl⟩ : ∃ j, k = j + 1 := ⟨k - 1, by omega⟩
  rw [concordref08_rise.l0, if_neg (by decide)]
  rfl
 | cons x t =>
  have h := rise_l0 (x :: t) hl t.length 1 k x (by simp; omega) (by simp at hk; omega) (Nat.le_refl _) rfl
  rw [rsB, bl_nil x (h1 x List.mem_cons_self), Bool.true_and]
  exact h
theorem shaped_l0 (b : Bool) (cs : List Ce) (ks : List ByteArray) (kids : List Int) (hl : kids.length < 35184372088832) (hk2 : ks.length < 8796093022208) : ∀ (n i k : Nat), i + n = kids.length → n + 1 ≤ k → concordref08_shaped.l0 k (i : Int) b cs ks kids = some (!((kids.drop i).any (fun x => decide (x = 0))) && (cs.isEmpty && decide (kids.length = ks.length + 1)))
 | 0, i, k, hi, hk => by
  obtain ⟨k, rfl⟩ : ∃ j, k = j + 1 := ⟨k - 1, by omega⟩
  rw [concordref08_shaped.l0, if_neg (by omega), List.drop_eq_nil_of_le (by omega), w64S _ (by omega)]
  cases cs with
  | nil =>
   rw [if_pos (show ((([] : List Ce).length : Nat) : Int) = 0 from rfl)]
   congr 1
   show ((kids.length : Int) == ((ks.length + 1 : Nat) : Int)) = _
   by_cases h : kids.length = ks.length + 1
   ·rw [decide_eq_true h]; simp [h]
   ·rw [decide_eq_false h]; simp; omega
  | cons x t => rw [if_neg (by simp; omega)]; rfl
 | n + 1, i, k, hi, hk => by
  obtain ⟨k, rfl⟩ : ∃ j, k = j + 1 := ⟨k - 1, by omega⟩
  have hi' : i < kids.length := by omega
  rw [concordref08_shaped.l0, if_pos (by omega), if_pos (by omega), rdI_at kids i hi', List.drop_eq_getElem_cons hi', List.any_cons]
  by_cases h : kids[i] = 0
  ·rw [if_pos h, decide_eq_true h]; rfl
  ·rw [if_neg h, decide_eq_false h, w64S i (by omega), shaped_l0 b cs ks kids hl hk2 n (i + 1) k (by omega) (by omega), Bool.false_or]
theorem shaped_f (b : Bool) (cs : List Ce) (ks : List ByteArray) (kids : List Int) (hn : NdOk cs ks kids) (k : Nat) (hk : kids.length + 1 ≤ k) : concordref08_shaped.f k b cs ks kids = some (shpV b cs ks kids) := by
 unfold concordref08_shaped.f shpV
 cases b with
 | true =>
  rw [if_pos rfl, if_pos rfl]
  cases ks with
  | nil =>
   rw [if_pos (show ((([] : List ByteArray).length : Nat) : Int) = 0 from rfl)]
   cases kids with
   | nil => rfl
   | cons x t => congr 1
  | cons x t => rw [if_neg (by simp; omega)]; rfl
 | false =>
  rw [if_neg (show ¬ (false = true) by decide), if_neg (show ¬ (false = true) by decide)]
  have h := shaped_l0 false cs ks kids hn.1.2.2 hn.1.2.1 kids.length 0 k (by omega) hk
  rw [List.drop_zero] at h
  exact h
theorem shp_or {b : Bool} {cs : List Ce} {ks : List ByteArray} {kids : List Int} (h : shpV b cs ks kids = true) : cs = [] ∨ ks = [] := by
 unfold shpV at h
 cases b with
 | true => rw [if_pos rfl, Bool.and_eq_true] at h; exact .inr (List.isEmpty_iff.1 h.1)
 | false => rw [if_neg (by decide), Bool.and_eq_true, Bool.and_eq_true] at h; exact .inl (List.isEmpty_iff.1 h.2.1)
/-- The document's Check. -/
theorem rchk_f (b : Bool) (cs : List Ce) (ks : List ByteArray) (kids : List Int) (hn : NdOk cs ks kids) (k : Nat) (hk : 2 * (cs.length + ks.length) + kids.length + 60 ≤ k) : concordref08_Check.f k b cs ks kids = some (chkV b cs ks kids) := by
 have hcl := hn.1.1
 have hkl := hn.1.2.1
 unfold concordref08_Check.f chkV
 rw [shaped_f b cs ks kids hn k (by omega), Option.bind_some]
 cases hs : shpV b cs ks kids with
 | false => rw [if_neg (show ¬ (false = true) by decide), if_pos rfl]
 | true =>
  have ho := shp_or hs
  have hsm := small_l0 b cs ks kids hn cs.length 0 k (by omega) (by omega)
  rw [List.drop_zero] at hsm
  rw [if_pos rfl, if_neg (show ¬ (true = false) by decide)]
  unfold concordref08_small.f
  refine (congrArg (fun o => Option.bind o _) hsm).trans ?_
  rw [Option.bind_some]
  cases hsm2 : (cs.all okC && ks.all okK) with
  | false => rw [if_neg (show ¬ (false = true) by decide), if_pos rfl]
  | true =>
   obtain ⟨hc, hk2⟩ := Bool.and_eq_true_iff.1 hsm2
   have hke := keys_l0 b cs ks kids hn ho cs.length 0 k [] (by omega) (by omega) rfl
   rw [List.drop_zero, List.nil_append] at hke
   have hlen : (keysV cs ks).length = cs.length + ks.length := by unfold keysV; rw [List.length_append, List.length_map]
   have hmem : ∀ x ∈ keysV cs ks, 1 ≤ x.size := by
    intro x hx
    unfold keysV at hx
    rcases List.mem_append.1 hx with h | h
    ·obtain ⟨c, hcm, rfl⟩ := List.mem_map.1 h
     have := List.all_eq_true.1 hc c hcm
     unfold okC at this
     rw [Bool.and_eq_true, decide_eq_true_eq] at this
     exact this.1
    ·have := List.all_eq_true.1 hk2 x h
     unfold okK at this
     rw [Bool.and_eq_true, decide_eq_true_eq] at this
     exact this.1
   rw [if_pos rfl, if_neg (show ¬ (true = false) by decide)]
   unfold concordref08_keys.f
   refine (congrArg (fun o => Option.bind o _) hke).trans ?_
   rw [Option.bind_some, rise_f (keysV cs ks) (by omega) hmem k (by omega), Option.bind_some]
   cases hr : rsB ⟨#[]⟩ (keysV cs ks) with
   | false => rw [if_neg (show ¬ (false = true) by decide), if_pos rfl]
   | true =>
    rw [if_pos rfl, if_neg (show ¬ (true = false) by decide), long_f b cs ks kids hn hc hk2 k (by omega), Option.bind_some]
    by_cases h : 1992 < lngV b cs ks
    ·rw [if_pos (by omega), if_pos h]
    ·rw [if_neg (by omega), if_neg h]
end Go.Proofs.Ytdjjpgdhnoibkaa.My
