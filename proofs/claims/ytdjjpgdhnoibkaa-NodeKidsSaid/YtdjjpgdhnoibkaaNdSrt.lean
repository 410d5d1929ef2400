/- Searches and what rises. No program in sight. -/
import Derived.Test.YtdjjpgdhnoibkaaNdEnc
namespace Go.Proofs.Ytdjjpgdhnoibkaa.My
open Go.RowKit Go.Proofs.YtdjjpgdhnoibkaaW.PrintWords Go.Proofs.YtdjjpgdhnoibkaaW.PrintLast Go.Proofs.YtdjjpgdhnoibkaaW.PrintMore Go.Proofs.Ytdjjpgdhnoibkaa Go.Proofs.Ytdjjpgdhnoibkaa.PZ
set_option linter.unusedSimpArgs false
set_option linter.unusedVariables false
set_option maxRecDepth 100000
set_option maxHeartbeats 1600000
theorem bl_irr : ∀ x : List UInt8, Op.bytesLess x x = false
  | [] => rfl
  | a :: x => by
    have h : ¬ a < a := fun h => Nat.lt_irrefl _ h
    rw [Op.bytesLess, bl_irr x]
    simp [h]
theorem bl_trans : ∀ x y z : List UInt8, Op.bytesLess x y = true → Op.bytesLess y z = true → Op.bytesLess x z = true
  | x, [], z, h, _ => by cases x <;> cases h
  | x, y, [], _, h => by cases y <;> cases h
  | [], b :: y, c :: z, _, _ => rfl
  | a :: x, b :: y, c :: z, h1, h2 => by
    rw [Op.bytesLess] at h1 h2 ⊢
    simp only [Bool.or_eq_true, Bool.and_eq_true, decide_eq_true_eq, beq_iff_eq] at h1 h2 ⊢
    rcases h1 with h1 | ⟨rfl, h1⟩
    · rcases h2 with h2 | ⟨rfl, h2⟩
      · exact .inl (Nat.lt_trans h1 h2)
      · exact .inl h1
    · rcases h2 with h2 | ⟨rfl, h2⟩
      · exact .inl h2
      · exact .inr ⟨rfl, bl_trans x y z h1 h2⟩
theorem srch_spec (p : Nat → Bool) : ∀ (n i j : Nat), j - i ≤ n → i ≤ j → i ≤ srch p n i j ∧ srch p n i j ≤ j ∧ (srch p n i j < j → p (srch p n i j) = true) ∧ (i < srch p n i j → p (srch p n i j - 1) = false)
  | 0, i, j, h1, h2 => by
    rw [srch]
    exact ⟨Nat.le_refl _, h2, fun h => by omega, fun h => by omega⟩
  | n + 1, i, j, h1, h2 => by
    rw [srch]
    by_cases h : i < j
    · rw [if_pos h]
      cases hp : p ((i + j) / 2) with
      | true =>
        rw [if_pos rfl]
        obtain ⟨a1, a2, a3, a4⟩ := srch_spec p n i ((i + j) / 2) (by omega) (by omega)
        refine ⟨a1, by omega, fun hlt => ?_, a4⟩
        by_cases h3 : srch p n i ((i + j) / 2) < (i + j) / 2
        · exact a3 h3
        · rw [show srch p n i ((i + j) / 2) = (i + j) / 2 by omega, hp]
      | false =>
        rw [if_neg (by decide)]
        obtain ⟨a1, a2, a3, a4⟩ := srch_spec p n ((i + j) / 2 + 1) j (by omega) (by omega)
        refine ⟨by omega, a2, a3, fun hlt => ?_⟩
        by_cases h3 : (i + j) / 2 + 1 < srch p n ((i + j) / 2 + 1) j
        · exact a4 h3
        · rw [show srch p n ((i + j) / 2 + 1) j - 1 = (i + j) / 2 by omega, hp]
    · rw [if_neg h]
      exact ⟨Nat.le_refl _, h2, fun h => by omega, fun h => by omega⟩
theorem srch_uniq (p : Nat → Bool) (n r : Nat) (hr : r ≤ n) (h1 : ∀ i, i < r → p i = false) (h2 : ∀ i, r ≤ i → i < n → p i = true) : srch p n 0 n = r := by
  obtain ⟨a1, a2, a3, a4⟩ := srch_spec p n 0 n (by omega) (by omega)
  generalize srch p n 0 n = s at *
  rcases Nat.lt_trichotomy s r with h | h | h
  · have := a3 (by omega)
    rw [h1 s h] at this
    cases this
  · exact h
  · have := a4 (by omega)
    rw [h2 (s - 1) (by omega) (by omega)] at this
    cases this
/-- The place, if p rises. -/
theorem srch_mono (p : Nat → Bool) (n : Nat) (hp : ∀ i j, i < j → j < n → p i = true → p j = true) : srch p n 0 n ≤ n ∧ (∀ i, i < srch p n 0 n → p i = false) ∧ (∀ i, srch p n 0 n ≤ i → i < n → p i = true) := by
  obtain ⟨a1, a2, a3, a4⟩ := srch_spec p n 0 n (by omega) (by omega)
  generalize srch p n 0 n = s at *
  refine ⟨a2, fun i hi => ?_, fun i hi hn => ?_⟩
  · have h := a4 (by omega)
    by_cases h3 : i = s - 1
    · rw [h3]; exact h
    · cases h4 : p i with
      | false => rfl
      | true => rw [hp i (s - 1) (by omega) (by omega) h4] at h; cases h
  · have h := a3 (by omega)
    by_cases h3 : i = s
    · rw [h3]; exact h
    · exact hp s i (by omega) hn h
def Rise (l : List ByteArray) : Prop := l.Pairwise (fun a b => Op.bytesLess a.toList b.toList = true)
theorem rsB_iff : ∀ (l : List ByteArray) (p : ByteArray), rsB p l = true ↔ (∀ x ∈ l, Op.bytesLess p.toList x.toList = true) ∧ Rise l
  | [], p => by simp [rsB, Rise]
  | a :: l, p => by
    rw [rsB, Bool.and_eq_true, rsB_iff l a]
    unfold Rise
    rw [List.pairwise_cons]
    constructor
    · rintro ⟨h1, h2, h3⟩
      refine ⟨fun x hx => ?_, h2, h3⟩
      rcases List.mem_cons.1 hx with rfl | hx
      · exact h1
      · exact bl_trans _ _ _ h1 (h2 x hx)
    · rintro ⟨h1, h2, h3⟩
      exact ⟨h1 a (List.mem_cons_self ..), h2, h3⟩
theorem rise_at {l : List ByteArray} (h : Rise l) (i j : Nat) (hij : i < j) (hj : j < l.length) : Op.bytesLess (l[i]'(by omega)).toList (l[j]'hj).toList = true := List.pairwise_iff_getElem.1 h i j (by omega) hj hij
theorem keys_branch (ks : List ByteArray) : keysV [] ks = ks := rfl
theorem pK_at (l : List ByteArray) (s : ByteArray) (i : Nat) (hi : i < l.length) : pK l s i = Op.bytesLess s.toList (l[i]'hi).toList := by
  unfold pK
  rw [rdS_at l i hi]
/-- The kid's place of a key in keys that rise. -/
theorem kid_at (l : List ByteArray) (s : ByteArray) (h : Rise l) : srch (pK l s) l.length 0 l.length ≤ l.length ∧ (∀ i (hi : i < l.length), i < srch (pK l s) l.length 0 l.length → Op.bytesLess s.toList l[i].toList = false) ∧ (∀ i (hi : i < l.length), srch (pK l s) l.length 0 l.length ≤ i → Op.bytesLess s.toList l[i].toList = true) := by
  obtain ⟨a1, a2, a3⟩ := srch_mono (pK l s) l.length (fun i j hij hj h1 => by
    rw [pK_at l s i (by omega)] at h1
    rw [pK_at l s j hj]
    exact bl_trans _ _ _ h1 (rise_at h i j hij hj))
  exact ⟨a1, fun i hi h1 => by rw [← pK_at l s i hi]; exact a2 i h1, fun i hi h1 => by rw [← pK_at l s i hi]; exact a3 i h1 hi⟩
theorem kid_uniq (l : List ByteArray) (s : ByteArray) (r : Nat) (hr : r ≤ l.length) (h1 : ∀ i (hi : i < l.length), i < r → Op.bytesLess s.toList l[i].toList = false) (h2 : ∀ i (hi : i < l.length), r ≤ i → Op.bytesLess s.toList l[i].toList = true) : srch (pK l s) l.length 0 l.length = r :=
  srch_uniq _ _ r hr (fun i hi => by rw [pK_at l s i (by omega)]; exact h1 i (by omega) hi) (fun i hi hn => by rw [pK_at l s i hn]; exact h2 i hn hi)
end Go.Proofs.Ytdjjpgdhnoibkaa.My
