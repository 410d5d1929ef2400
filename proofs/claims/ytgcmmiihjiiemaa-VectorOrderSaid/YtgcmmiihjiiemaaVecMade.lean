/- What the law's own 'made' and 'same' answer. -/
import Derived.Test.YtgcmmiihjiiemaaVecTkP
import Derived.Test.YtgcmmiihjiiemaaPFy2
namespace Go.Proofs.Ytgcmmiihjiiemaa.My
open Go.RowKit Go.Proofs.YtgcmmiihjiiemaaW.PrintWords Go.Proofs.YtgcmmiihjiiemaaW.PrintLast Go.Proofs.YtgcmmiihjiiemaaW.PrintMore Go.Proofs.Ytgcmmiihjiiemaa Go.Proofs.Ytgcmmiihjiiemaa.PVectorMax Go.Proofs.Ytgcmmiihjiiemaa.PF
set_option linter.unusedSimpArgs false
set_option linter.unusedVariables false
set_option maxRecDepth 100000
set_option maxHeartbeats 1600000
instance decDot : DecidableEq Dt := fun a b => decidable_of_iff (a.f0 = b.f0 ∧ a.f1 = b.f1) ⟨fun h => by cases a; cases b; obtain ⟨h1, h2⟩ := h; dsimp only at h1 h2; rw [h1, h2], fun h => by rw [h]; exact ⟨rfl, rfl⟩⟩
theorem dsame_l0 (a b : List Dt) (he : a.length = b.length) (hl : a.length < 8900000000000) : ∀ (n i k : Nat), i + n = a.length → n + 1 ≤ k → concordlaw10_same.l0 k a b (i : Int) = some (decide (a.drop i = b.drop i))
  | 0, i, k, h, hk => by
    obtain ⟨k, rfl⟩ : ∃ j, k = j + 1 := ⟨k - 1, by omega⟩
    rw [concordlaw10_same.l0, if_neg (by omega), List.drop_eq_nil_of_le (by omega), List.drop_eq_nil_of_le (by omega)]
    rfl
  | n + 1, i, k, h, hk => by
    obtain ⟨k, rfl⟩ : ∃ j, k = j + 1 := ⟨k - 1, by omega⟩
    have h1 : i < a.length := by omega
    have h2 : i < b.length := by omega
    have ih := dsame_l0 a b he hl n (i + 1) k (by omega) (by omega)
    rw [concordlaw10_same.l0, if_pos (by omega), if_pos (by omega), if_pos (by omega), rd_at a i h1, rd_at b i h2, wr_succ i (by omega), ih, List.drop_eq_getElem_cons h1, List.drop_eq_getElem_cons h2]
    generalize a[i] = x
    generalize b[i] = y
    obtain ⟨x0, x1⟩ := x
    obtain ⟨y0, y1⟩ := y
    dsimp only
    by_cases e0 : x0 = y0
    · by_cases e1 : x1 = y1
      · subst e0 e1
        rw [if_neg (by simp)]
        simp
      · rw [if_pos (by simp [e1])]
        simp [e1]
    · rw [if_pos (by simp [e0])]
      simp [e0]
/-- 'same' tells whether two lists of dots are equal. -/
theorem dsame_f (a b : List Dt) (hl : a.length < 8900000000000) (k : Nat) (hk : a.length + 1 ≤ k) : concordlaw10_same.f k a b = some (decide (a = b)) := by
  unfold concordlaw10_same.f
  by_cases he : a.length = b.length
  · rw [if_pos (by omega)]
    exact dsame_l0 a b he hl a.length 0 k (by omega) hk
  · rw [if_neg (by omega), decide_eq_false (fun h => he (by rw [h]))]
/-- A dot put in its place; one that is there stays. -/
def insM : List Dt → Dt → List Dt
  | [], d => [d]
  | x :: v, d => if x.f0 < d.f0 then x :: insM v d else if x.f0 = d.f0 then x :: v else d :: x :: v
def dotOf (x : Dt) : Dt := ⟨x.f0, IntKind.u64.wrap (Int.tmod x.f1 1099511627776 + 1)⟩
def madeL (m : Nat) : List Dt → List Dt → List Dt
  | v, [] => v
  | v, x :: l => if v.length < m then madeL m (insM v (dotOf x)) l else v
theorem insM_len (d : Dt) : ∀ v : List Dt, (insM v d).length ≤ v.length + 1
  | [] => by simp [insM]
  | x :: v => by
    rw [insM]
    split
    · have := insM_len d v; simp only [List.length_cons]; omega
    · split <;> simp
theorem made_l2 (l : List Dt) (m i o c : Int) (F : Nat) (r : List Dt) (p s : List Dt) (hps : p.length + s.length < 1000000) (hF : ∀ K, F ≤ K → concordlaw10_made.l0 K l m (p ++ ⟨o, c⟩ :: s) (wrap64 (i + 1)) = some r) : ∀ (ra b : List Dt) (J : Dt) (K : Nat), ra.reverse ++ b = s → F + ra.length + 1 ≤ K →
    concordlaw10_made.l2 K l m (p ++ (ra.reverse ++ J :: b)) i (p.length : Int) ((p.length + ra.length : Nat) : Int) o c = some r
  | [], b, J, K, hs, hK => by
    obtain ⟨K, rfl⟩ : ∃ j, K = j + 1 := ⟨K - 1, by omega⟩
    subst hs
    have e1 : (p ++ (([] : List Dt).reverse ++ J :: b)) = p ++ J :: b := rfl
    rw [concordlaw10_made.l2, e1, if_neg (by simp), if_pos (by omega), if_pos (by rw [List.length_append, List.length_cons]; omega), Int.toNat_natCast, set_mid p b J ⟨o, c⟩ _ rfl]
    exact hF K (by simp at hK; omega)
  | z :: ra, b, J, K, hs, hK => by
    obtain ⟨K, rfl⟩ : ∃ j, K = j + 1 := ⟨K - 1, by omega⟩
    have hl : s.length = (ra.length + 1) + b.length := by rw [← hs, List.length_append, List.length_reverse, List.length_cons]
    have e0 : (p.length + (z :: ra).length : Nat) = p.length + ra.length + 1 := by rw [List.length_cons]; omega
    have e1 : wrap64 (((p.length + ra.length + 1 : Nat) : Int) - 1) = ((p.length + ra.length : Nat) : Int) := by unfold wrap64; omega
    have e2 : (p ++ ((z :: ra).reverse ++ J :: b)) = (p ++ ra.reverse) ++ z :: (J :: b) := by simp
    have e3 : (p ++ ra.reverse).length = p.length + ra.length := by simp
    have e4 : ((p ++ ra.reverse) ++ z :: (J :: b)).length = p.length + ra.length + 2 + b.length := by simp; omega
    have r1 : rd_T35 ((p ++ ra.reverse) ++ z :: (J :: b)) ((p.length + ra.length : Nat) : Int) = z := rd_mid _ _ _ _ e3.symm
    have e5 : (p ++ ra.reverse) ++ z :: (J :: b) = (p ++ ra.reverse ++ [z]) ++ J :: b := by simp
    rw [e0, concordlaw10_made.l2, e2, e1, r1, if_pos (by omega), if_pos (by omega), if_pos (by rw [e4]; omega), if_pos (by omega), if_pos (by rw [e4]; omega), Int.toNat_natCast, e5, set_mid (p ++ ra.reverse ++ [z]) b J _ _ (by rw [List.length_append, e3]; rfl)]
    have e6 : (p ++ ra.reverse ++ [z] ++ (⟨z.f0, z.f1⟩ : Dt) :: b) = p ++ (ra.reverse ++ z :: (z :: b)) := by simp
    rw [e6]
    exact made_l2 l m i o c F r p s hps hF ra (z :: b) z K (by rw [← hs]; simp) (by rw [List.length_cons] at hK; omega)
theorem made_put (l : List Dt) (m i o c : Int) (F : Nat) (r : List Dt) (p s : List Dt) (hps : p.length + s.length < 1000000) (hF : ∀ K, F ≤ K → concordlaw10_made.l0 K l m (p ++ ⟨o, c⟩ :: s) (wrap64 (i + 1)) = some r) (K : Nat) (hK : F + s.length + 2 ≤ K) :
    concordlaw10_made.j4 K l m (p ++ s) i (p.length : Int) false o c = some r := by
  obtain ⟨K, rfl⟩ : ∃ j, K = j + 1 := ⟨K - 1, by omega⟩
  have e1 : wrap64 (((p ++ s ++ [(⟨o, c⟩ : Dt)]).length : Int) - 1) = ((p.length + s.reverse.length : Nat) : Int) := by
    rw [List.length_append, List.length_append, List.length_reverse]
    unfold wrap64
    simp only [List.length_singleton]
    omega
  have e2 : p ++ s ++ [(⟨o, c⟩ : Dt)] = p ++ (s.reverse.reverse ++ (⟨o, c⟩ : Dt) :: []) := by simp
  rw [concordlaw10_made.j4, if_neg (by decide), if_pos (by rw [List.length_append]; omega), Option.bind_some, e1, e2]
  exact made_l2 l m i o c F r p s hps hF s.reverse [] ⟨o, c⟩ K (by simp) (by rw [List.length_reverse]; omega)
theorem made_l1 (l : List Dt) (m i o c : Int) (F : Nat) (r : List Dt) : ∀ (s p : List Dt) (K : Nat), p.length + s.length < 1000000 → (∀ K, F ≤ K → concordlaw10_made.l0 K l m (p ++ insM s ⟨o, c⟩) (wrap64 (i + 1)) = some r) → F + 2 * s.length + 10 ≤ K →
    concordlaw10_made.l1 K l m (p ++ s) i (p.length : Int) o c = some r
  | [], p, K, hps, hF, hK => by
    obtain ⟨K, rfl⟩ : ∃ j, K = j + 2 := ⟨K - 2, by omega⟩
    rw [concordlaw10_made.l1, if_neg (by simp), concordlaw10_made.j3, if_neg (by simp)]
    exact made_put l m i o c F r p [] hps hF K (by simp at hK ⊢; omega)
  | x :: s, p, K, hps, hF, hK => by
    obtain ⟨K, rfl⟩ : ∃ j, K = j + 1 := ⟨K - 1, by omega⟩
    rw [List.length_cons] at hps hK
    rw [insM] at hF
    have hl : (p ++ x :: s).length = p.length + s.length + 1 := by rw [List.length_append, List.length_cons]; omega
    rw [concordlaw10_made.l1, if_pos (by rw [hl]; omega), if_pos (by omega), rd_mid p s x _ rfl]
    by_cases h1 : x.f0 < o
    · have e1 : wrap64 ((p.length : Int) + 1) = ((p ++ [x]).length : Int) := by rw [wr_succ _ (by omega), List.length_append]; rfl
      have e2 : p ++ x :: s = (p ++ [x]) ++ s := by simp
      rw [if_pos h1, e1, e2]
      refine made_l1 l m i o c F r s (p ++ [x]) K (by rw [List.length_append, List.length_singleton]; omega) (fun K' hK' => ?_) (by omega)
      have := hF K' hK'
      rw [if_pos h1] at this
      rw [List.append_assoc]
      exact this
    · obtain ⟨K, rfl⟩ : ∃ j, K = j + 1 := ⟨K - 1, by omega⟩
      rw [if_neg h1, concordlaw10_made.j3, if_pos (by rw [hl]; omega), if_pos (by omega), rd_mid p s x _ rfl]
      by_cases h2 : x.f0 = o
      · obtain ⟨K, rfl⟩ : ∃ j, K = j + 1 := ⟨K - 1, by omega⟩
        rw [show (x.f0 == o) = true by simpa using h2, concordlaw10_made.j4, if_pos rfl]
        have := hF K (by omega)
        rw [if_neg h1, if_pos h2] at this
        exact this
      · rw [show (x.f0 == o) = false by simpa using h2]
        refine made_put l m i o c F r p (x :: s) (by rw [List.length_cons]; omega) (fun K' hK' => ?_) K (by rw [List.length_cons]; omega)
        have := hF K' hK'
        rw [if_neg h1, if_neg h2] at this
        exact this
def fuel (n : Nat) : Nat := n * 300 + 10
theorem fuel_succ (n : Nat) : fuel (n + 1) = fuel n + 300 := by unfold fuel; omega
theorem fuel_10 (n : Nat) : 10 ≤ fuel n := by unfold fuel; omega
theorem made_l0 (l : List Dt) (hl : l.length < 8900000000000) (m : Nat) (hm : m ≤ 128) : ∀ (n i : Nat) (v : List Dt) (K : Nat), i + n = l.length → v.length ≤ m → fuel n ≤ K → concordlaw10_made.l0 K l (m : Int) v (i : Int) = some (madeL m v (l.drop i))
  | 0, i, v, K, h, hv, hK => by
    have f1 := fuel_10 0
    obtain ⟨K, rfl⟩ : ∃ j, K = j + 2 := ⟨K - 2, by omega⟩
    rw [concordlaw10_made.l0, if_neg (by omega), concordlaw10_made.j1, if_neg (by decide), List.drop_eq_nil_of_le (by omega), madeL]
  | n + 1, i, v, K, h, hv, hK => by
    have f1 := fuel_10 n
    have f2 := fuel_succ n
    obtain ⟨K, rfl⟩ : ∃ j, K = j + 2 := ⟨K - 2, by omega⟩
    rw [concordlaw10_made.l0, if_pos (by omega), concordlaw10_made.j1, List.drop_eq_getElem_cons (show i < l.length by omega), madeL]
    by_cases h1 : v.length < m
    · rw [if_pos (decide_eq_true (by omega)), if_pos (by omega), if_pos (by omega), if_pos h1, rd_at l i (by omega)]
      have e0 : (dotOf l[i]).f0 = l[i].f0 := rfl
      have e1 : (dotOf l[i]).f1 = IntKind.u64.wrap (Int.tmod l[i].f1 1099511627776 + 1) := rfl
      rw [← e0, ← e1]
      generalize dotOf l[i] = D
      obtain ⟨D0, D1⟩ := D
      clear e0 e1
      have hx := made_l1 l m i D0 D1 (fuel n) (madeL m (insM v ⟨D0, D1⟩) (l.drop (i + 1))) v [] K (by rw [List.length_nil]; omega) (fun K' hK' => by
        rw [wr_succ i (by omega), List.nil_append]
        exact made_l0 l hl m hm n (i + 1) _ K' (by omega) (by have := insM_len ⟨D0, D1⟩ v; exact Nat.le_trans this (by omega)) hK') (by omega)
      have z0 : ((0 : Nat) : Int) = 0 := rfl
      rw [List.nil_append, List.length_nil, z0] at hx
      exact hx
    · rw [if_neg (by rw [decide_eq_false (by omega)]; decide), if_neg h1]
theorem made_f (l : List Dt) (hl : l.length < 8900000000000) (m : Nat) (hm : m ≤ 128) (k : Nat) (hk : fuel l.length ≤ k) : concordlaw10_made.f k l (m : Int) = some (madeL m [] l) := made_l0 l hl m hm l.length 0 [] k (by omega) (Nat.zero_le _) hk
/-- What is made is a vector, but for its length. -/
def Good (v : List Dt) : Prop := Inc v ∧ ∀ x ∈ v, (0 ≤ x.f0 ∧ x.f0 < 4294967296) ∧ 1 ≤ x.f1 ∧ x.f1 ≤ 1099511627776
theorem dotOf_ok (x : Dt) (h0 : 0 ≤ x.f0 ∧ x.f0 < 4294967296) (h1 : 0 ≤ x.f1) : (0 ≤ (dotOf x).f0 ∧ (dotOf x).f0 < 4294967296) ∧ 1 ≤ (dotOf x).f1 ∧ (dotOf x).f1 ≤ 1099511627776 := by
  refine ⟨h0, ?_⟩
  unfold dotOf
  dsimp only
  rw [IntKind.wrap_u64, Int.tmod_eq_emod_of_nonneg h1]
  omega
theorem insM_mem (d z : Dt) : ∀ v : List Dt, z ∈ insM v d → z = d ∨ z ∈ v
  | [], h => .inl (List.mem_singleton.1 h)
  | x :: v, h => by
    rw [insM] at h
    split at h
    · rcases List.mem_cons.1 h with h | h
      · exact .inr (h ▸ List.mem_cons_self)
      · exact (insM_mem d z v h).imp id (List.mem_cons_of_mem _)
    · split at h
      · exact .inr h
      · exact List.mem_cons.1 h
theorem insM_inc (d : Dt) : ∀ v : List Dt, Inc v → Inc (insM v d)
  | [], _ => List.pairwise_singleton _ _
  | x :: v, h => by
    obtain ⟨h1, h2⟩ := List.pairwise_cons.1 h
    rw [insM]
    split
    · rename_i hx
      refine List.pairwise_cons.2 ⟨fun z hz => ?_, insM_inc d v h2⟩
      rcases insM_mem d z v hz with rfl | hz
      · exact hx
      · exact h1 z hz
    · split
      · exact h
      · rename_i hx1 hx2
        refine List.pairwise_cons.2 ⟨fun z hz => ?_, h⟩
        rcases List.mem_cons.1 hz with rfl | hz
        · omega
        · have := h1 z hz; omega
theorem insM_has (d : Dt) (o : Int) : ∀ v : List Dt, Has (insM v d) o ↔ d.f0 = o ∨ Has v o
  | [] => by rw [insM, has_cons]
  | x :: v => by
    rw [insM]
    split
    · rw [has_cons, has_cons, insM_has d o v]
      constructor
      · rintro (h | h | h)
        · exact .inr (.inl h)
        · exact .inl h
        · exact .inr (.inr h)
      · rintro (h | h | h)
        · exact .inr (.inl h)
        · exact .inl h
        · exact .inr (.inr h)
    · split
      · rename_i hx
        rw [has_cons]
        constructor
        · exact .inr
        · rintro (h | h)
          · exact .inl (hx.trans h)
          · exact h
      · rw [has_cons]
theorem madeL_good (m : Nat) : ∀ (l v : List Dt), (∀ x ∈ l, (0 ≤ x.f0 ∧ x.f0 < 4294967296) ∧ 0 ≤ x.f1) → Good v → v.length ≤ m → Good (madeL m v l) ∧ (madeL m v l).length ≤ m
  | [], v, _, hg, hv => ⟨hg, hv⟩
  | x :: l, v, hl, hg, hv => by
    rw [madeL]
    split
    · rename_i hvm
      refine madeL_good m l _ (fun z hz => hl z (List.mem_cons_of_mem _ hz)) ⟨insM_inc _ v hg.1, fun z hz => ?_⟩ (by have := insM_len (dotOf x) v; omega)
      rcases insM_mem _ z v hz with rfl | hz
      · have := hl x List.mem_cons_self
        exact dotOf_ok x this.1 this.2
      · exact hg.2 z hz
    · exact ⟨hg, hv⟩
theorem vB_of : ∀ (l : List Dt) (p : Option Int), Inc l → (∀ x ∈ l, 1 ≤ x.f1 ∧ x.f1 ≤ 1099511627776) → (∀ q, p = some q → ∀ x ∈ l, q < x.f0) → vB p l = true
  | [], p, _, _, _ => by cases p <;> rfl
  | x :: l, p, hi, hx, hp => by
    obtain ⟨h1, h2⟩ := List.pairwise_cons.1 hi
    rw [vB_cons, Bool.and_eq_true, Bool.and_eq_true]
    refine ⟨⟨decide_eq_true (hx x List.mem_cons_self), ?_⟩, vB_of l (some x.f0) h2 (fun z hz => hx z (List.mem_cons_of_mem _ hz)) (fun q hq z hz => ?_)⟩
    · cases p with
      | none => rfl
      | some q => exact decide_eq_true (hp q rfl x List.mem_cons_self)
    · obtain rfl := Option.some.inj hq
      exact h1 z hz
theorem good_valid {v : List Dt} (h : Good v) (hl : v.length ≤ 64) : validB v = true := by
  unfold validB
  rw [vB_of v none h.1 (fun x hx => (h.2 x hx).2) (fun q hq => by cases hq), decide_eq_true hl]
  rfl
theorem good_okD {v : List Dt} (h : Good v) (hl : v.length ≤ 8800000000000) : okD v = true := by
  unfold okD
  rw [decide_eq_true hl, Bool.true_and, List.all_eq_true]
  exact fun x hx => decide_eq_true ⟨(h.2 x hx).1.1, (h.2 x hx).1.2, by have := (h.2 x hx).2.1; omega⟩
theorem okD_okL' {l : List Dt} (h : okD l = true) : okL l = true := by
  unfold okL
  rw [Bool.and_eq_true]
  exact ⟨decide_eq_true (okD_len h), List.all_eq_true.2 (fun x hx => decide_eq_true (okD_pos h x hx).2.2)⟩
theorem good_nil : Good [] := ⟨List.Pairwise.nil, fun x hx => by cases hx⟩
end Go.Proofs.Ytgcmmiihjiiemaa.My
