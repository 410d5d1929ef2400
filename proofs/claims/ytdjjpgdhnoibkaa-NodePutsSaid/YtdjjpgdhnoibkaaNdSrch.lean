/- sort.Search over a node's cells and over its keys. -/
import Derived.Test.YtdjjpgdhnoibkaaPZx0
import Derived.StillTailTactics
namespace Go.Proofs.Ytdjjpgdhnoibkaa.My
open Go.RowKit Go.Proofs.YtdjjpgdhnoibkaaW.PrintWords Go.Proofs.YtdjjpgdhnoibkaaW.PrintLast Go.Proofs.YtdjjpgdhnoibkaaW.PrintMore Go.Proofs.Ytdjjpgdhnoibkaa Go.Proofs.Ytdjjpgdhnoibkaa.PZ
set_option linter.unusedSimpArgs false
set_option linter.unusedVariables false
set_option maxRecDepth 100000
set_option maxHeartbeats 1600000
attribute [local go_sem high] conv_rune str_leq str_gtr
abbrev Ce := S66
/-- Where a search by halves ends: p holds from there on, if p rises. -/
def srch (p : Nat → Bool) : Nat → Nat → Nat → Nat
  | 0, i, _ => i
  | n + 1, i, j => if i < j then (if p ((i + j) / 2) = true then srch p n i ((i + j) / 2) else srch p n ((i + j) / 2 + 1) j) else i
theorem srch_done (p : Nat → Bool) : ∀ (n i j : Nat), j ≤ i → srch p n i j = i
  | 0, i, j, h => rfl
  | n + 1, i, j, h => by rw [srch, if_neg (by omega)]
theorem srch_fuel (p : Nat → Bool) : ∀ (n m i j : Nat), j - i ≤ n → j - i ≤ m → srch p n i j = srch p m i j
  | 0, m, i, j, h1, h2 => by rw [srch_done p m i j (by omega)]; rfl
  | n + 1, 0, i, j, h1, h2 => by rw [srch_done p (n + 1) i j (by omega)]; rfl
  | n + 1, m + 1, i, j, h1, h2 => by
    rw [srch, srch]
    by_cases h : i < j
    · rw [if_pos h, if_pos h]
      by_cases hp : p ((i + j) / 2) = true
      · rw [if_pos hp, if_pos hp]; exact srch_fuel p n m i ((i + j) / 2) (by omega) (by omega)
      · rw [if_neg hp, if_neg hp]; exact srch_fuel p n m ((i + j) / 2 + 1) j (by omega) (by omega)
    · rw [if_neg h, if_neg h]
theorem srch_step (p : Nat → Bool) (i j : Nat) (h : i < j) (R : Nat) (hR : ∀ n, j - i ≤ n → srch p n i j = R) : (p ((i + j) / 2) = true → ∀ n, (i + j) / 2 - i ≤ n → srch p n i ((i + j) / 2) = R) ∧ (p ((i + j) / 2) = false → ∀ n, j - ((i + j) / 2 + 1) ≤ n → srch p n ((i + j) / 2 + 1) j = R) := by
  have h1 := hR (j - i + 1) (by omega)
  rw [srch, if_pos h] at h1
  constructor
  · intro hp n hn
    rw [if_pos hp] at h1
    rw [← h1]
    exact srch_fuel p n _ i _ hn (by omega)
  · intro hp n hn
    rw [if_neg (by rw [hp]; decide)] at h1
    rw [← h1]
    exact srch_fuel p n _ _ j hn (by omega)
def vNat : Value → Nat
  | .int _ n => n.toNat
  | _ => 0
/-- A node's and a key's boxes. -/
def NB (w : World) (g h : Nat) (b : Bool) (A : Option Addr) (n c : Nat) (B : Option Addr) (m d : Nat) (C : Option Addr) (q e : Nat) (s : ByteArray) : Prop :=
  w.heap[g]? = some (.cells #[.bool b, .slice A n c, .slice B m d, .slice C q e] 26 (0, 0)) ∧ w.heap[h]? = some (.cells #[.string s] 9 (0, 0))
theorem NB.below {w w' : World} {g h : Nat} {b : Bool} {A : Option Addr} {n c : Nat} {B : Option Addr} {m d : Nat} {C : Option Addr} {q e : Nat} {s : ByteArray} (h1 : NB w g h b A n c B m d C q e s) (hb : Below w.heap.size w w') : NB w' g h b A n c B m d C q e s := ⟨blk_below h1.1 hb, blk_below h1.2 hb⟩
theorem find1_calls (w : World) (g h : Nat) (b : Bool) (A : Option Addr) (l : List Ce) (c : Nat) (B : Option Addr) (m d : Nat) (C : Option Addr) (q e : Nat) (s : ByteArray) (hN : NB w g h b A l.length c B m d C q e s) (hA : Kd.C k66 w A l.length l) (i : Nat) (hi : i < l.length) :
    Calls Try.prog 105 #[.int .i64 i, .pointer (some ⟨g, 0, none⟩), .pointer (some ⟨h, 0, none⟩)] w fun r w' => r = .returned (.bool (!Op.bytesLess (rd_T66 l i).f0.toList s.toList)) ∧ Below w.heap.size w w' := by
  have m0 : (0 : Int) ≤ (i : Int) := by omega
  have m1 : (i : Int) < (l.length : Int) := by omega
  obtain ⟨ad, rfl, hx0, hx1⟩ := at_T66 hA (i : Int) m0 m1
  simp only [Int.toNat_natCast] at hx0 hx1
  generalize hx : rd_T66 l (i : Int) = x at hx0 hx1 ⊢
  clear hx
  have c1 : w.cell? ⟨g, 1, none⟩ = some (.slice (some ad) l.length c) := (blk_cell hN.1 1).trans rfl
  have c2 : w.cell? ⟨h, 0, none⟩ = some (.string s) := (blk_cell hN.2 0).trans rfl
  clear hN hA
  go_enter Try.func105, Try.ntmps105
  go_wp2_with fail
  go_quiet (fail)
  go_wp2_with fail
  go_ret
  exact ⟨rfl, pw_below_drewN (Below.refl _ _) _⟩
def pF (l : List Ce) (s : ByteArray) (i : Nat) : Bool := !Op.bytesLess (rd_T66 l i).f0.toList s.toList
theorem searchF (w : World) (g h : Nat) (b : Bool) (A : Option Addr) (l : List Ce) (c : Nat) (B : Option Addr) (m d : Nat) (C : Option Addr) (q e : Nat) (s : ByteArray) (hN : NB w g h b A l.length c B m d C q e s) (hA : Kd.C k66 w A l.length l) (hl : l.length ≤ 8800000000000) :
    Calls Try.prog 65 #[.int .i64 l.length, .func (.func 105) #[] #[.pointer (some ⟨g, 0, none⟩), .pointer (some ⟨h, 0, none⟩)]] w fun r w' => r = .returned (.int .i64 (srch (pF l s) l.length 0 l.length : Nat)) ∧ Below w.heap.size w w' := by
  have HA := Aside0.mk hA
  have HN := Aside0.mk hN
  clear hA hN
  obtain ⟨R, hR⟩ : ∃ R, R = srch (pF l s) l.length 0 l.length := ⟨_, rfl⟩
  have HJ : Aside0 (∀ n, l.length - 0 ≤ n → srch (pF l s) n 0 l.length = R) := ⟨fun n hn => by rw [hR]; exact srch_fuel _ _ _ _ _ hn (Nat.le_refl _)⟩
  rw [← hR]
  clear hR
  go_enter Try.func65, Try.ntmps65
  go_wp2_with fail
  go_loopw [5, 6] (fun iv jv wr => ∃ (i j : Nat), iv = .int .i64 i ∧ jv = .int .i64 j ∧ i ≤ j ∧ j ≤ l.length ∧ Aside0 (∀ n, j - i ≤ n → srch (pF l s) n i j = R) ∧ Aside0 (Below w.heap.size w wr)) (fun iv jv _ => vNat jv - vNat iv)
  case atStart => exact ⟨0, l.length, rfl, rfl, Nat.zero_le _, Nat.le_refl _, HJ, ⟨Below.refl _ _⟩⟩
  case round =>
    clear HJ
    obtain ⟨i, j, rfl, rfl, q1, q2, HJ, HB⟩ := hrel
    by_cases hij : i < j
    · have d1 : decide ((i : Int) < (j : Int)) = true := decide_eq_true (by omega)
      have w1 : IntKind.i64.wrap ((i : Int) + (j : Int)) = (i : Int) + (j : Int) := by rw [i64_w]; unfold wrap64; omega
      obtain ⟨s1, s2⟩ := srch_step (pF l s) i j hij R HJ.out
      obtain ⟨m', hm⟩ : ∃ m' : Nat, m' = (i + j) / 2 := ⟨_, rfl⟩
      have em : ((i : Int) + (j : Int)) / 2 = (m' : Int) := by omega
      have e2 : IntKind.i64.wrap ((m' : Int) + 1) = ((m' + 1 : Nat) : Int) := by rw [i64_w]; unfold wrap64; omega
      have hml : m' < l.length := by omega
      have hmi : i ≤ m' ∧ m' < j := by omega
      rw [← hm] at s1 s2
      have S1 := Aside0.mk s1
      have S2 := Aside0.mk s2
      have HM := Aside0.mk hmi
      clear s1 s2 hm hmi HJ
      go_wp2_with fail

      clear em w1 d1
      refine (find1_calls wr g h b A l c B m d C q e s (HN.out.below HB.out) (Kd.C_below HA.out HB.out) m' hml).mono ?_
      rintro e_ w2 ⟨rfl, hb2⟩
      have HB2 := Aside0.mk (below_then HB.out (below_size HB.out) hb2)
      clear hb2 HB
      have hp : (!Op.bytesLess (rd_T66 l m').f0.toList s.toList) = pF l s m' := rfl
      rw [hp]
      clear hp
      cases hp : pF l s m' with
      | true =>
        have HP := Aside0.mk (S1.out hp)
        clear hp S1 S2
        go_wp2_with fail
        go_roundw
        case rel => exact ⟨i, m', rfl, rfl, HM.out.1, by have := HM.out.2; omega, HP, HB2⟩
        case measure => have := HM.out; simp only [vNat]; omega
      | false =>
        have HP := Aside0.mk (S2.out hp)
        clear hp S1 S2
        go_wp2_with fail
        go_roundw
        case rel => exact ⟨m' + 1, j, rfl, rfl, by have := HM.out.2; omega, q2, HP, HB2⟩
        case measure => have := HM.out; simp only [vNat]; omega
    · obtain rfl : i = j := by omega
      have d1 : decide ((i : Int) < (i : Int)) = false := decide_eq_false (by omega)
      have hR : i = R := by have := HJ.out 0 (by omega); exact this
      go_wp2_with fail
      go_ret
      rw [hR]
      exact ⟨rfl, HB.out⟩
end Go.Proofs.Ytdjjpgdhnoibkaa.My
