/- Both Max answer the same list: it rises, and of each actor it tells the greater count. -/
import Derived.Test.YtgcmmiihjiiemaaVecP
namespace Go.Proofs.Ytgcmmiihjiiemaa.My
open Go.RowKit Go.Proofs.YtgcmmiihjiiemaaW.PrintWords Go.Proofs.YtgcmmiihjiiemaaW.PrintLast Go.Proofs.YtgcmmiihjiiemaaW.PrintMore Go.Proofs.Ytgcmmiihjiiemaa Go.Proofs.Ytgcmmiihjiiemaa.PVectorMax
set_option linter.unusedSimpArgs false
set_option linter.unusedVariables false
set_option maxRecDepth 100000
set_option maxHeartbeats 800000
def Inc (l : List Dt) : Prop := l.Pairwise (fun p q => p.f0 < q.f0)
def Has (l : List Dt) (o : Int) : Prop := ∃ z, z ∈ l ∧ z.f0 = o
theorem has_cons (x : Dt) (l : List Dt) (o : Int) : Has (x :: l) o ↔ x.f0 = o ∨ Has l o := by
  constructor
  · rintro ⟨z, hz, rfl⟩
    rcases List.mem_cons.1 hz with rfl | hz
    · exact .inl rfl
    · exact .inr ⟨z, hz, rfl⟩
  · rintro (rfl | ⟨z, hz, rfl⟩)
    · exact ⟨x, List.mem_cons_self, rfl⟩
    · exact ⟨z, List.mem_cons_of_mem _ hz, rfl⟩
theorem inc_eq (F : Int → Int) : ∀ (l m : List Dt), Inc l → Inc m → (∀ o, Has l o ↔ Has m o) → (∀ z ∈ l, z.f1 = F z.f0) → (∀ z ∈ m, z.f1 = F z.f0) → l = m
  | [], [], _, _, _, _, _ => rfl
  | [], y :: m, _, _, h, _, _ => by obtain ⟨z, hz, _⟩ := (h y.f0).2 ⟨y, List.mem_cons_self, rfl⟩; cases hz
  | x :: l, [], _, _, h, _, _ => by obtain ⟨z, hz, _⟩ := (h x.f0).1 ⟨x, List.mem_cons_self, rfl⟩; cases hz
  | x :: l, y :: m, h1, h2, h, f1, f2 => by
    obtain ⟨h1a, h1b⟩ := List.pairwise_cons.1 h1
    obtain ⟨h2a, h2b⟩ := List.pairwise_cons.1 h2
    have e : x.f0 = y.f0 := by
      have a1 := (has_cons y m x.f0).1 ((h x.f0).1 ⟨x, List.mem_cons_self, rfl⟩)
      have a2 := (has_cons x l y.f0).1 ((h y.f0).2 ⟨y, List.mem_cons_self, rfl⟩)
      rcases a1 with a1 | ⟨z, hz, hz2⟩
      · exact a1.symm
      · rcases a2 with a2 | ⟨u, hu, hu2⟩
        · exact a2
        · have b1 := h2a z hz
          have b2 := h1a u hu
          omega
    have e2 : x.f1 = y.f1 := by rw [f1 x List.mem_cons_self, f2 y List.mem_cons_self, e]
    have exy : x = y := by
      cases x; cases y
      simp only at e e2
      rw [e, e2]
    subst exy
    congr 1
    refine inc_eq F l m h1b h2b (fun o => ?_) (fun z hz => f1 z (List.mem_cons_of_mem _ hz)) (fun z hz => f2 z (List.mem_cons_of_mem _ hz))
    have hh := h o
    rw [has_cons, has_cons] at hh
    constructor
    · intro hl
      rcases hh.1 (.inr hl) with h3 | h3
      · obtain ⟨z, hz, hz2⟩ := hl
        have := h1a z hz
        omega
      · exact h3
    · intro hl
      rcases hh.2 (.inr hl) with h3 | h3
      · obtain ⟨z, hz, hz2⟩ := hl
        have := h2a z hz
        omega
      · exact h3
theorem cnt_none : ∀ (l : List Dt) (o : Int), ¬ Has l o → cnt l o = 0
  | [], _, _ => rfl
  | x :: l, o, h => by
    rw [has_cons] at h
    rw [cnt, if_neg (fun e => h (.inl e)), cnt_none l o (fun e => h (.inr e))]
theorem cnt_pos : ∀ (l : List Dt) (o : Int), (∀ x ∈ l, 1 ≤ x.f1) → Has l o → 1 ≤ cnt l o
  | [], _, _, ⟨z, hz, _⟩ => by cases hz
  | x :: l, o, hp, h => by
    rw [cnt]
    by_cases e : x.f0 = o
    · rw [if_pos e]; exact hp x List.mem_cons_self
    · rw [if_neg e]
      rw [has_cons] at h
      exact cnt_pos l o (fun z hz => hp z (List.mem_cons_of_mem _ hz)) (h.resolve_left e)
theorem cnt_skip (x : Dt) (l : List Dt) (o : Int) (h : x.f0 < o) : cnt (x :: l) o = cnt l o := by rw [cnt, if_neg (by omega)]
theorem cnt_here (x : Dt) (l : List Dt) : cnt (x :: l) x.f0 = x.f1 := by rw [cnt, if_pos rfl]
theorem inc_no (x : Dt) (l : List Dt) (h : Inc (x :: l)) (o : Int) (ho : o ≤ x.f0) : ¬ Has l o := by
  rintro ⟨z, hz, rfl⟩
  have := (List.pairwise_cons.1 h).1 z hz
  omega
theorem mx_zero (x : Int) (h : 0 ≤ x) : mx x 0 = x := by unfold mx; split <;> omega
theorem mx_zero' (x : Int) (h : 0 ≤ x) : mx 0 x = x := by unfold mx; split <;> omega
theorem walk_acc : ∀ (n : Nat) (a b st : List Dt), a.length + b.length ≤ n → walkL mxS st a b = st ++ walkL mxS [] a b
  | _, [], [], st, _ => by rw [walkL_nil, walkL_nil, List.append_nil]
  | 0, x :: a, b, st, h => by simp at h
  | 0, [], y :: b, st, h => by simp at h
  | n + 1, x :: a, [], st, h => by
    simp only [List.length_cons, List.length_nil] at h
    rw [walkL_l, walkL_l, walk_acc n a [] _ (by simp only [List.length_nil]; omega), walk_acc n a [] (mxS [] _ _) (by simp only [List.length_nil]; omega)]
    unfold mxS
    simp
  | n + 1, [], y :: b, st, h => by
    simp only [List.length_cons, List.length_nil] at h
    rw [walkL_r, walkL_r, walk_acc n [] b _ (by simp only [List.length_nil]; omega), walk_acc n [] b (mxS [] _ _) (by simp only [List.length_nil]; omega)]
    unfold mxS
    simp
  | n + 1, x :: a, y :: b, st, h => by
    simp only [List.length_cons] at h
    by_cases h1 : x.f0 < y.f0
    · rw [walkL_lt _ _ _ _ _ _ h1, walkL_lt _ _ _ _ _ _ h1, walk_acc n a (y :: b) _ (by simp only [List.length_cons]; omega), walk_acc n a (y :: b) (mxS [] _ _) (by simp only [List.length_cons]; omega)]
      unfold mxS
      simp
    · by_cases h2 : y.f0 < x.f0
      · rw [walkL_gt _ _ _ _ _ _ h2, walkL_gt _ _ _ _ _ _ h2, walk_acc n (x :: a) b _ (by simp only [List.length_cons]; omega), walk_acc n (x :: a) b (mxS [] _ _) (by simp only [List.length_cons]; omega)]
        unfold mxS
        simp
      · rw [walkL_eq _ _ _ _ _ _ h1 h2, walkL_eq _ _ _ _ _ _ h1 h2, walk_acc n a b _ (by omega), walk_acc n a b (mxS [] _ _) (by omega)]
        unfold mxS
        simp
theorem max_l (x : Dt) (a : List Dt) : maxL (x :: a) [] = x :: maxL a [] := by
  unfold maxL
  rw [walkL_l, walk_acc _ _ _ _ (Nat.le_refl _)]
  rfl
theorem max_r (y : Dt) (b : List Dt) : maxL [] (y :: b) = y :: maxL [] b := by
  unfold maxL
  rw [walkL_r, walk_acc _ _ _ _ (Nat.le_refl _)]
  rfl
theorem max_lt (x y : Dt) (a b : List Dt) (h : x.f0 < y.f0) : maxL (x :: a) (y :: b) = x :: maxL a (y :: b) := by
  unfold maxL
  rw [walkL_lt _ _ _ _ _ _ h, walk_acc _ _ _ _ (Nat.le_refl _)]
  rfl
theorem max_gt (x y : Dt) (a b : List Dt) (h : y.f0 < x.f0) : maxL (x :: a) (y :: b) = y :: maxL (x :: a) b := by
  unfold maxL
  rw [walkL_gt _ _ _ _ _ _ h, walk_acc _ _ _ _ (Nat.le_refl _)]
  rfl
theorem max_eq (x y : Dt) (a b : List Dt) (h1 : ¬ x.f0 < y.f0) (h2 : ¬ y.f0 < x.f0) : maxL (x :: a) (y :: b) = (if x.f1 < y.f1 then y else x) :: maxL a b := by
  unfold maxL
  rw [walkL_eq _ _ _ _ _ _ h1 h2, walk_acc _ _ _ _ (Nat.le_refl _)]
  rfl
theorem max_props : ∀ (n : Nat) (a b : List Dt), a.length + b.length ≤ n → Inc a → Inc b → (∀ x ∈ a, 1 ≤ x.f1) → (∀ y ∈ b, 1 ≤ y.f1) →
    Inc (maxL a b) ∧ (∀ o, Has (maxL a b) o ↔ Has a o ∨ Has b o) ∧ ∀ z ∈ maxL a b, z.f1 = mx (cnt a z.f0) (cnt b z.f0)
  | _, [], [], _, _, _, _, _ => by
    refine ⟨List.Pairwise.nil, fun o => ⟨fun h => .inl h, fun h => h.elim id id⟩, fun z hz => ?_⟩
    cases hz
  | 0, x :: a, b, h, _, _, _, _ => by simp at h
  | 0, [], y :: b, h, _, _, _, _ => by simp at h
  | n + 1, x :: a, [], h, ha, hb, pa, pb => by
    simp only [List.length_cons, List.length_nil] at h
    have hp := List.pairwise_cons.1 ha
    obtain ⟨i1, i2, i3⟩ := max_props n a [] (by simp only [List.length_nil]; omega) hp.2 hb (fun z hz => pa z (List.mem_cons_of_mem _ hz)) pb
    have lo : ∀ z ∈ maxL a [], x.f0 < z.f0 := by
      intro z hz
      rcases (i2 z.f0).1 ⟨z, hz, rfl⟩ with ⟨u, hu, hu2⟩ | ⟨u, hu, _⟩
      · have := hp.1 u hu; omega
      · cases hu
    rw [max_l]
    refine ⟨List.pairwise_cons.2 ⟨lo, i1⟩, fun o => by rw [has_cons, has_cons, i2 o]; exact or_assoc.symm, fun z hz => ?_⟩
    rcases List.mem_cons.1 hz with rfl | hz
    · rw [cnt_here]
      have := pa z List.mem_cons_self
      exact (mx_zero _ (by omega)).symm
    · rw [cnt_skip x a _ (lo z hz)]
      exact i3 z hz
  | n + 1, [], y :: b, h, ha, hb, pa, pb => by
    simp only [List.length_cons, List.length_nil] at h
    have hp := List.pairwise_cons.1 hb
    obtain ⟨i1, i2, i3⟩ := max_props n [] b (by simp only [List.length_nil]; omega) ha hp.2 pa (fun z hz => pb z (List.mem_cons_of_mem _ hz))
    have lo : ∀ z ∈ maxL [] b, y.f0 < z.f0 := by
      intro z hz
      rcases (i2 z.f0).1 ⟨z, hz, rfl⟩ with ⟨u, hu, _⟩ | ⟨u, hu, hu2⟩
      · cases hu
      · have := hp.1 u hu; omega
    rw [max_r]
    refine ⟨List.pairwise_cons.2 ⟨lo, i1⟩, fun o => by rw [has_cons, has_cons, i2 o]; exact or_left_comm, fun z hz => ?_⟩
    rcases List.mem_cons.1 hz with rfl | hz
    · rw [cnt_here]
      have := pb z List.mem_cons_self
      exact (mx_zero' _ (by omega)).symm
    · rw [cnt_skip y b _ (lo z hz)]
      exact i3 z hz
  | n + 1, x :: a, y :: b, h, ha, hb, pa, pb => by
    simp only [List.length_cons] at h
    have hpa := List.pairwise_cons.1 ha
    have hpb := List.pairwise_cons.1 hb
    have pa' : ∀ z ∈ a, 1 ≤ z.f1 := fun z hz => pa z (List.mem_cons_of_mem _ hz)
    have pb' : ∀ z ∈ b, 1 ≤ z.f1 := fun z hz => pb z (List.mem_cons_of_mem _ hz)
    have px := pa x List.mem_cons_self
    have py := pb y List.mem_cons_self
    by_cases h1 : x.f0 < y.f0
    · obtain ⟨i1, i2, i3⟩ := max_props n a (y :: b) (by simp only [List.length_cons]; omega) hpa.2 hb pa' pb
      have lo : ∀ z ∈ maxL a (y :: b), x.f0 < z.f0 := by
        intro z hz
        rcases (i2 z.f0).1 ⟨z, hz, rfl⟩ with ⟨u, hu, hu2⟩ | ⟨u, hu, hu2⟩
        · have := hpa.1 u hu; omega
        · rcases List.mem_cons.1 hu with rfl | hu
          · omega
          · have := hpb.1 u hu; omega
      have nh1 : ∀ o, o ≤ x.f0 → ¬ Has (y :: b) o := by
        intro o ho
        rw [has_cons]
        rintro (e | e)
        · omega
        · exact inc_no y b hb _ (by omega) e
      rw [max_lt _ _ _ _ h1]
      refine ⟨List.pairwise_cons.2 ⟨lo, i1⟩, fun o => by rw [has_cons, i2 o, has_cons x a]; exact or_assoc.symm, fun z hz => ?_⟩
      rcases List.mem_cons.1 hz with rfl | hz
      · rw [cnt_here, cnt_none (y :: b) z.f0 (nh1 z.f0 (Int.le_refl _))]
        exact (mx_zero _ (by omega)).symm
      · rw [cnt_skip x a _ (lo z hz)]
        exact i3 z hz
    · by_cases h2 : y.f0 < x.f0
      · obtain ⟨i1, i2, i3⟩ := max_props n (x :: a) b (by simp only [List.length_cons]; omega) ha hpb.2 pa pb'
        have lo : ∀ z ∈ maxL (x :: a) b, y.f0 < z.f0 := by
          intro z hz
          rcases (i2 z.f0).1 ⟨z, hz, rfl⟩ with ⟨u, hu, hu2⟩ | ⟨u, hu, hu2⟩
          · rcases List.mem_cons.1 hu with rfl | hu
            · omega
            · have := hpa.1 u hu; omega
          · have := hpb.1 u hu; omega
        have nh2 : ∀ o, o ≤ y.f0 → ¬ Has (x :: a) o := by
          intro o ho
          rw [has_cons]
          rintro (e | e)
          · omega
          · exact inc_no x a ha _ (by omega) e
        rw [max_gt _ _ _ _ h2]
        refine ⟨List.pairwise_cons.2 ⟨lo, i1⟩, fun o => by rw [has_cons, i2 o, has_cons y b]; exact or_left_comm, fun z hz => ?_⟩
        rcases List.mem_cons.1 hz with rfl | hz
        · rw [cnt_here, cnt_none (x :: a) z.f0 (nh2 z.f0 (Int.le_refl _))]
          exact (mx_zero' _ (by omega)).symm
        · rw [cnt_skip y b _ (lo z hz)]
          exact i3 z hz
      · have e : x.f0 = y.f0 := by omega
        obtain ⟨i1, i2, i3⟩ := max_props n a b (by omega) hpa.2 hpb.2 pa' pb'
        have lo : ∀ z ∈ maxL a b, x.f0 < z.f0 := by
          intro z hz
          rcases (i2 z.f0).1 ⟨z, hz, rfl⟩ with ⟨u, hu, hu2⟩ | ⟨u, hu, hu2⟩
          · have := hpa.1 u hu; omega
          · have := hpb.1 u hu; omega
        rw [max_eq _ _ _ _ h1 h2]
        have ek : (if x.f1 < y.f1 then y else x).f0 = x.f0 := by
          by_cases h3 : x.f1 < y.f1
          · rw [if_pos h3]; exact e.symm
          · rw [if_neg h3]
        have ev : (if x.f1 < y.f1 then y else x).f1 = mx x.f1 y.f1 := by unfold mx; split <;> rfl
        generalize (if x.f1 < y.f1 then y else x) = p at ek ev
        refine ⟨List.pairwise_cons.2 ⟨fun z hz => by rw [ek]; exact lo z hz, i1⟩, fun o => by rw [has_cons, has_cons, has_cons, i2 o, ek, ← e]; exact or_or_distrib_left, fun z hz => ?_⟩
        rcases List.mem_cons.1 hz with rfl | hz
        · rw [ek, cnt_here, e, cnt_here]
          exact ev
        · have l1 := lo z hz
          rw [cnt_skip x a _ l1, cnt_skip y b _ (by omega)]
          exact i3 z hz
-- The document's list.
def Dec (l : List Dt) : Prop := l.Pairwise (fun p q => q.f0 < p.f0)
theorem vB_props : ∀ (l : List Dt) (p : Option Int), vB p l = true → (∀ x ∈ l, 1 ≤ x.f1) ∧ Inc l ∧ ∀ q, p = some q → ∀ x ∈ l, q < x.f0
  | [], p, _ => by
    refine ⟨fun x hx => ?_, List.Pairwise.nil, fun _ _ x hx => ?_⟩
    · cases hx
    · cases hx
  | x :: l, p, h => by
    rw [vB_cons, Bool.and_eq_true, Bool.and_eq_true] at h
    obtain ⟨⟨h1, h2⟩, h3⟩ := h
    have h1 := of_decide_eq_true h1
    obtain ⟨i1, i2, i3⟩ := vB_props l (some x.f0) h3
    have i4 := i3 x.f0 rfl
    refine ⟨fun z hz => ?_, List.pairwise_cons.2 ⟨fun z hz => i4 z hz, i2⟩, ?_⟩
    · rcases List.mem_cons.1 hz with rfl | hz
      · exact h1.1
      · exact i1 z hz
    · rintro q rfl z hz
      have h2 := of_decide_eq_true h2
      rcases List.mem_cons.1 hz with rfl | hz
      · exact h2
      · have := i4 z hz; omega
theorem valid_props (v : List Dt) (h : validB v = true) : (∀ x ∈ v, 1 ≤ x.f1) ∧ Inc v ∧ v.length ≤ 64 := by
  unfold validB at h
  rw [Bool.and_eq_true] at h
  obtain ⟨h1, h2, _⟩ := vB_props v none h.1
  exact ⟨h1, h2, of_decide_eq_true h.2⟩
end Go.Proofs.Ytgcmmiihjiiemaa.My
