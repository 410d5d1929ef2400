/- Searches and what rises. No program in sight. -/
import Derived.Test.YtdjjpgdhnoibkaaNdEnc
namespace Go.Proofs.Ytdjjpgdhnoibkaa.My
open Go.RowKit Go.Proofs.YtdjjpgdhnoibkaaW.PrintWords Go.Proofs.YtdjjpgdhnoibkaaW.PrintLast Go.Proofs.YtdjjpgdhnoibkaaW.PrintMore Go.Proofs.Ytdjjpgdhnoibkaa Go.Proofs.Ytdjjpgdhnoibkaa.PZ
set_option linter.unusedSimpArgs false
set_option linter.unusedVariables false
set_option maxRecDepth 100000
set_option maxHeartbeats 1600000
theorem bl_irr : ∀ x : List UInt8, Op.bytesLess x x = false
  | [] => rfl
  | a :: x => by
    have h : ¬ a < a := fun h => Nat.lt_irrefl _ h
    rw [Op.bytesLess, bl_irr x]
    simp [h]
theorem bl_trans : ∀ x y z : List UInt8, Op.bytesLess x y = true → Op.bytesLess y z = true → Op.bytesLess x z = true
  | x, [], z, h, _ => by cases x <;> cases h
  | x, y, [], _, h => by cases y <;> cases h
  | [], b :: y, c :: z, _, _ => rfl
  | a :: x, b :: y, c :: z, h1, h2 => by
    rw [Op.bytesLess] at h1 h2 ⊢
    simp only [Bool.or_eq_true, Bool.and_eq_true, decide_eq_true_eq, beq_iff_eq] at h1 h2 ⊢
    rcases h1 with h1 | ⟨rfl, h1⟩
    · rcases h2 with h2 | ⟨rfl, h2⟩
      · exact .inl (Nat.lt_trans h1 h2)
      · exact .inl h1
    · rcases h2 with h2 | ⟨rfl, h2⟩
      · exact .inl h2
      · exact .inr ⟨rfl, bl_trans x y z h1 h2⟩
theorem bl_tri (x y : List UInt8) : Op.bytesLess x y = true ∨ x = y ∨ Op.bytesLess y x = true := by
  have h := bl_total x y
  cases h2 : Op.bytesLess y x with
  | true => exact .inr (.inr rfl)
  | false =>
    rw [h2, Bool.not_false, Bool.or_eq_true, beq_iff_eq] at h
    rcases h with h | h
    · exact .inl h
    · exact .inr (.inl h)
/-- x ≤ y and y < z -/
theorem bl_le_lt (x y z : List UInt8) (h1 : Op.bytesLess y x = false) (h2 : Op.bytesLess y z = true) : Op.bytesLess x z = true := by
  rcases bl_tri x y with h | rfl | h
  · exact bl_trans x y z h h2
  · exact h2
  · rw [h] at h1; cases h1
theorem srch_spec (p : Nat → Bool) : ∀ (n i j : Nat), j - i ≤ n → i ≤ j → i ≤ srch p n i j ∧ srch p n i j ≤ j ∧ (srch p n i j < j → p (srch p n i j) = true) ∧ (i < srch p n i j → p (srch p n i j - 1) = false)
  | 0, i, j, h1, h2 => by
    rw [srch]
    exact ⟨Nat.le_refl _, h2, fun h => by omega, fun h => by omega⟩
  | n + 1, i, j, h1, h2 => by
    rw [srch]
    by_cases h : i < j
    · rw [if_pos h]
      cases hp : p ((i + j) / 2) with
      | true =>
        rw [if_pos rfl]
        obtain ⟨a1, a2, a3, a4⟩ := srch_spec p n i ((i + j) / 2) (by omega) (by omega)
        refine ⟨a1, by omega, fun hlt => ?_, a4⟩
        by_cases h3 : srch p n i ((i + j) / 2) < (i + j) / 2
        · exact a3 h3
        · rw [show srch p n i ((i + j) / 2) = (i + j) / 2 by omega, hp]
      | false =>
        rw [if_neg (by decide)]
        obtain ⟨a1, a2, a3, a4⟩ := srch_spec p n ((i + j) / 2 + 1) j (by omega) (by omega)
        refine ⟨by omega, a2, a3, fun hlt => ?_⟩
        by_cases h3 : (i + j) / 2 + 1 < srch p n ((i + j) / 2 + 1) j
        · exact a4 h3
        · rw [show srch p n ((i + j) / 2 + 1) j - 1 = (i + j) / 2 by omega, hp]
    · rw [if_neg h]
      exact ⟨Nat.le_refl _, h2, fun h => by omega, fun h => by omega⟩
/-- The place, if p rises. -/
theorem srch_mono (p : Nat → Bool) (n : Nat) (hp : ∀ i j, i < j → j < n → p i = true → p j = true) : srch p n 0 n ≤ n ∧ (∀ i, i < srch p n 0 n → p i = false) ∧ (∀ i, srch p n 0 n ≤ i → i < n → p i = true) := by
  obtain ⟨a1, a2, a3, a4⟩ := srch_spec p n 0 n (by omega) (by omega)
  generalize srch p n 0 n = s at *
  refine ⟨a2, fun i hi => ?_, fun i hi hn => ?_⟩
  · have h := a4 (by omega)
    by_cases h3 : i = s - 1
    · rw [h3]; exact h
    · cases h4 : p i with
      | false => rfl
      | true => rw [hp i (s - 1) (by omega) (by omega) h4] at h; cases h
  · have h := a3 (by omega)
    by_cases h3 : i = s
    · rw [h3]; exact h
    · exact hp s i (by omega) hn h
def Rise (l : List ByteArray) : Prop := l.Pairwise (fun a b => Op.bytesLess a.toList b.toList = true)
theorem rsB_iff : ∀ (l : List ByteArray) (p : ByteArray), rsB p l = true ↔ (∀ x ∈ l, Op.bytesLess p.toList x.toList = true) ∧ Rise l
  | [], p => by simp [rsB, Rise]
  | a :: l, p => by
    rw [rsB, Bool.and_eq_true, rsB_iff l a]
    unfold Rise
    rw [List.pairwise_cons]
    constructor
    · rintro ⟨h1, h2, h3⟩
      refine ⟨fun x hx => ?_, h2, h3⟩
      rcases List.mem_cons.1 hx with rfl | hx
      · exact h1
      · exact bl_trans _ _ _ h1 (h2 x hx)
    · rintro ⟨h1, h2, h3⟩
      exact ⟨h1 a (List.mem_cons_self ..), h2, h3⟩
theorem rise_at {l : List ByteArray} (h : Rise l) (i j : Nat) (hij : i < j) (hj : j < l.length) : Op.bytesLess (l[i]'(by omega)).toList (l[j]'hj).toList = true := List.pairwise_iff_getElem.1 h i j (by omega) hj hij
theorem keys_leaf (cs : List Ce) : keysV cs [] = cs.map (fun c => c.f0) := by unfold keysV; rw [List.append_nil]
theorem pF_at (l : List Ce) (s : ByteArray) (i : Nat) (hi : i < l.length) : pF l s i = !Op.bytesLess (l[i]'hi).f0.toList s.toList := by
  unfold pF
  rw [rdC_at l i hi]
/-- The place of a key in cells that rise. -/
theorem find_at (l : List Ce) (s : ByteArray) (h : Rise (l.map (fun c => c.f0))) : srch (pF l s) l.length 0 l.length ≤ l.length ∧ (∀ i (hi : i < l.length), i < srch (pF l s) l.length 0 l.length → Op.bytesLess l[i].f0.toList s.toList = true) ∧ (∀ i (hi : i < l.length), srch (pF l s) l.length 0 l.length ≤ i → Op.bytesLess l[i].f0.toList s.toList = false) := by
  have hr : ∀ i j (hij : i < j) (hj : j < l.length), Op.bytesLess (l[i]'(by omega)).f0.toList (l[j]'hj).f0.toList = true := fun i j hij hj => by
    have h1 := rise_at h i j hij (by rw [List.length_map]; exact hj)
    rw [List.getElem_map, List.getElem_map] at h1
    exact h1
  obtain ⟨a1, a2, a3⟩ := srch_mono (pF l s) l.length (fun i j hij hj h1 => by
    rw [pF_at l s i (by omega), Bool.not_eq_true'] at h1
    rw [pF_at l s j hj, Bool.not_eq_true']
    cases h3 : Op.bytesLess (l[j]'hj).f0.toList s.toList with
    | false => rfl
    | true => rw [bl_trans _ _ _ (hr i j hij hj) h3] at h1; cases h1)
  refine ⟨a1, fun i hi h1 => ?_, fun i hi h1 => ?_⟩
  · have h4 := a2 i h1
    rw [pF_at l s i hi] at h4
    simpa using h4
  · have h4 := a3 i h1 hi
    rw [pF_at l s i hi] at h4
    simpa using h4
end Go.Proofs.Ytdjjpgdhnoibkaa.My
