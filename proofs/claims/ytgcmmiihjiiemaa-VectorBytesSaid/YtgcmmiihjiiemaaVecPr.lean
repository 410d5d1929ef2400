/- What the document's own Max, Count, Valid answer. -/
import Derived.Test.YtgcmmiihjiiemaaVecP2
import Derived.Test.YtgcmmiihjiiemaaPVectorMaxx3
namespace Go.Proofs.Ytgcmmiihjiiemaa.My
open Go.RowKit Go.Proofs.YtgcmmiihjiiemaaW.PrintWords Go.Proofs.YtgcmmiihjiiemaaW.PrintLast Go.Proofs.YtgcmmiihjiiemaaW.PrintMore Go.Proofs.Ytgcmmiihjiiemaa Go.Proofs.Ytgcmmiihjiiemaa.PVectorMax
set_option linter.unusedSimpArgs false
set_option linter.unusedVariables false
set_option maxRecDepth 100000
set_option maxHeartbeats 800000
theorem refValid_l0 (v : List Dt) (hv : v.length < 9000000000000) : ∀ (n i k : Nat), i + n = v.length → n + 1 ≤ k → concordref10_Valid.l0 k v (i : Int) = some (vB (prv v i) (v.drop i))
  | 0, i, k, h, hk => by
    obtain ⟨k, rfl⟩ : ∃ j, k = j + 1 := ⟨k - 1, by omega⟩
    rw [concordref10_Valid.l0, if_neg (by omega), List.drop_of_length_le (by omega)]
    simp [vB]
  | n + 1, i, k, h, hk => by
    obtain ⟨k, rfl⟩ : ∃ j, k = j + 1 := ⟨k - 1, by omega⟩
    have hi : i < v.length := by omega
    have hd : v.drop i = v[i] :: v.drop (i + 1) := List.drop_eq_getElem_cons hi
    have ih := refValid_l0 v hv n (i + 1) k (by omega) (by omega)
    rw [prv_succ v i hi] at ih
    rw [concordref10_Valid.l0, if_pos (by omega), if_pos (by omega), rd_at v i hi, hd, vB_cons]
    generalize v[i] = x at *
    by_cases h1 : x.f1 < 1
    · rw [if_pos h1, decide_eq_false (by omega)]; rfl
    · rw [if_neg h1]
      by_cases h2 : x.f1 > 1099511627776
      · rw [if_pos h2, decide_eq_false (by omega)]; rfl
      · rw [if_neg h2, decide_eq_true (show 1 ≤ x.f1 ∧ x.f1 ≤ 1099511627776 by omega), wr_succ i (by omega), ih]
        by_cases h0 : i = 0
        · subst h0
          rw [if_neg (by omega)]
          rfl
        · rw [if_pos (by omega), wr_pred i (by omega) h0, if_pos (by omega), if_pos (by omega)]
          unfold prv
          rw [if_neg h0]
          by_cases h3 : (rd_T35 v ((i - 1 : Nat) : Int)).f0 ≥ x.f0
          · rw [if_pos h3]
            show some false = some ((true && decide _) && _)
            rw [decide_eq_false (by omega)]
            rfl
          · rw [if_neg h3]
            show some _ = some ((true && decide _) && _)
            rw [decide_eq_true (by omega)]
            rfl
theorem refValid_f (v : List Dt) (hv : v.length < 9000000000000) (k : Nat) (hk : v.length + 1 ≤ k) : concordref10_Valid.f k v = some (validB v) := by
  unfold concordref10_Valid.f validB
  by_cases h : v.length ≤ 64
  · rw [if_neg (by omega), decide_eq_true h, Bool.and_true]
    exact refValid_l0 v hv v.length 0 k (by omega) hk
  · rw [if_pos (by omega), decide_eq_false h, Bool.and_false]
theorem refCount_l0 (v : List Dt) (o : Int) (hv : v.length < 9000000000000) : ∀ (n i k : Nat), i + n = v.length → n + 1 ≤ k → concordref10_Count.l0 k v o (i : Int) = some (cnt (v.drop i) o)
  | 0, i, k, h, hk => by
    obtain ⟨k, rfl⟩ : ∃ j, k = j + 1 := ⟨k - 1, by omega⟩
    rw [concordref10_Count.l0, if_neg (by omega), List.drop_of_length_le (by omega), cnt]
  | n + 1, i, k, h, hk => by
    obtain ⟨k, rfl⟩ : ∃ j, k = j + 1 := ⟨k - 1, by omega⟩
    have hi : i < v.length := by omega
    have hd : v.drop i = v[i] :: v.drop (i + 1) := List.drop_eq_getElem_cons hi
    have ih := refCount_l0 v o hv n (i + 1) k (by omega) (by omega)
    rw [concordref10_Count.l0, if_pos (by omega), if_pos (by omega), rd_at v i hi, hd, cnt, wr_succ i (by omega), ih]
    split <;> rfl
theorem refCount_f (v : List Dt) (o : Int) (hv : v.length < 9000000000000) (k : Nat) (hk : v.length + 1 ≤ k) (h : validB v = true) : concordref10_Count.f k v o = some (cnt v o) := by
  unfold concordref10_Count.f
  rw [refValid_f v hv k hk, h, Option.bind_some, if_pos rfl]
  exact refCount_l0 v o hv v.length 0 k (by omega) hk
-- The document's Max.
def addL (a : List Dt) : List Dt → List Dt → List Dt
  | acc, [] => acc
  | acc, y :: l => if cnt a y.f0 = 0 then addL a (acc ++ [y]) l else addL a acc l
def upd (a b : List Dt) (x : Dt) : Dt := ⟨x.f0, mx (cnt a x.f0) (cnt b x.f0)⟩
def insRev : List Dt → Dt → List Dt
  | [], x => [x]
  | y :: r, x => if y.f0 > x.f0 then y :: insRev r x else x :: y :: r
theorem insRev_len (r : List Dt) (x : Dt) : (insRev r x).length = r.length + 1 := by
  induction r with
  | nil => rfl
  | cons y r ih =>
    rw [insRev]
    split
    · rw [List.length_cons, ih, List.length_cons]
    · rfl
theorem addL_len (a : List Dt) : ∀ (l acc : List Dt), (addL a acc l).length ≤ acc.length + l.length
  | [], acc => by rw [addL]; simp
  | y :: l, acc => by
    rw [addL]
    split
    · have := addL_len a l (acc ++ [y]); rw [List.length_append] at this; simp only [List.length_cons, List.length_nil] at this ⊢; omega
    · have := addL_len a l acc; simp only [List.length_cons] at this ⊢; omega
theorem refMax_l0 (a b : List Dt) (ha : a.length ≤ 64) (hb : b.length ≤ 64) (va : validB a = true) : ∀ (n i k : Nat) (acc : List Dt), i + n = b.length → n + 100 ≤ k → acc.length + n ≤ 128 → ∃ k', n + k' + 1 = k ∧ concordref10_Max.l0 k a b acc (i : Int) = concordref10_Max.l1 k' a b (addL a acc (b.drop i)) 0
  | 0, i, k, acc, h, hk, hl => by
    obtain ⟨k, rfl⟩ : ∃ j, k = j + 1 := ⟨k - 1, by omega⟩
    refine ⟨k, by omega, ?_⟩
    rw [concordref10_Max.l0, if_neg (by omega), List.drop_of_length_le (by omega), addL]
  | n + 1, i, k, acc, h, hk, hl => by
    obtain ⟨k, rfl⟩ : ∃ j, k = j + 1 := ⟨k - 1, by omega⟩
    have hi : i < b.length := by omega
    have hd : b.drop i = b[i] :: b.drop (i + 1) := List.drop_eq_getElem_cons hi
    rw [concordref10_Max.l0, if_pos (by omega), if_pos (by omega), rd_at b i hi, hd, addL, refCount_f a _ (by omega) k (by omega) va, Option.bind_some, wr_succ i (by omega)]
    by_cases h0 : cnt a (b[i]).f0 = 0
    · rw [if_pos h0, if_pos h0, if_pos (by omega)]
      obtain ⟨k', h1, h2⟩ := refMax_l0 a b ha hb va n (i + 1) k (acc ++ [b[i]]) (by omega) (by omega) (by rw [List.length_append]; show acc.length + 1 + n ≤ 128; omega)
      exact ⟨k', by omega, h2⟩
    · rw [if_neg h0, if_neg h0]
      obtain ⟨k', h1, h2⟩ := refMax_l0 a b ha hb va n (i + 1) k acc (by omega) (by omega) (by omega)
      exact ⟨k', by omega, h2⟩
theorem refMax_l2 (a b : List Dt) (i : Nat) (hi : i < 1000) : ∀ (r s : List Dt) (x : Dt) (k : Nat), r.length ≤ 1000 → r.length + 1 ≤ k → ∃ k', k ≤ k' + r.length + 1 ∧ concordref10_Max.l2 k a b (r.reverse ++ x :: s) (i : Int) (r.length : Int) = concordref10_Max.l1 k' a b ((insRev r x).reverse ++ s) (((i + 1 : Nat)) : Int)
  | [], s, x, k, _, hk => by
    obtain ⟨k, rfl⟩ : ∃ j, k = j + 1 := ⟨k - 1, by omega⟩
    refine ⟨k, by simp, ?_⟩
    rw [concordref10_Max.l2, if_neg (by simp), wr_succ i (by omega)]
    try rfl
  | y :: r, s, x, k, hr, hk => by
    obtain ⟨k, rfl⟩ : ∃ j, k = j + 1 := ⟨k - 1, by simp only [List.length_cons] at hk; omega⟩
    simp only [List.length_cons] at hr hk
    have e : (y :: r).reverse ++ x :: s = r.reverse ++ y :: x :: s := by simp
    have e2 : r.reverse ++ y :: x :: s = (r.reverse ++ [y]) ++ x :: s := by simp
    have hlen : (r.reverse ++ y :: x :: s).length = r.length + s.length + 2 := by simp; omega
    have hw : wrap64 ((((y :: r).length : Nat) : Int) - 1) = (r.length : Int) := by rw [wr_pred _ (by simp; omega) (by simp)]; simp
    have r1 : rd_T35 (r.reverse ++ y :: x :: s) (r.length : Int) = y := rd_mid _ _ _ _ (by simp)
    have r2 : rd_T35 (r.reverse ++ y :: x :: s) (((y :: r).length : Nat) : Int) = x := by rw [e2]; exact rd_mid _ _ _ _ (by simp)
    rw [concordref10_Max.l2, e, if_pos (by simp only [List.length_cons]; omega), hw, if_pos (by omega), if_pos (by rw [hlen]; omega), if_pos (by omega), if_pos (by rw [hlen]; simp; omega), r1, r2, insRev]
    by_cases h : y.f0 > x.f0
    · rw [if_pos h, if_pos h]
      have s1 : ((r.reverse ++ y :: x :: s).set ((r.length : Int)).toNat (⟨x.f0, x.f1⟩ : Dt)).set ((((y :: r).length : Nat) : Int)).toNat (⟨y.f0, y.f1⟩ : Dt) = r.reverse ++ x :: y :: s := by
        rw [Int.toNat_natCast, Int.toNat_natCast, set_mid _ _ _ _ _ (by simp)]
        have e3 : r.reverse ++ (⟨x.f0, x.f1⟩ : Dt) :: x :: s = (r.reverse ++ [x]) ++ x :: s := by simp
        rw [e3, set_mid _ _ _ _ _ (by simp)]
        simp
      rw [s1]
      obtain ⟨k', h1, h2⟩ := refMax_l2 a b i hi r (y :: s) x k (by omega) (by omega)
      refine ⟨k', by simp only [List.length_cons]; omega, ?_⟩
      rw [h2]
      congr 1
      simp
    · rw [if_neg h, if_neg h, wr_succ i (by omega)]
      refine ⟨k, by simp only [List.length_cons]; omega, ?_⟩
      congr 1
      simp
def sortR (a b : List Dt) : List Dt → List Dt → List Dt
  | E, [] => E
  | E, x :: s => sortR a b (insRev E (upd a b x)) s
theorem refMax_l1 (a b : List Dt) (ha : a.length ≤ 64) (hb : b.length ≤ 64) (va : validB a = true) (vb : validB b = true) : ∀ (s E : List Dt) (k : Nat), E.length + s.length ≤ 128 → s.length * 200 + 200 ≤ k → concordref10_Max.l1 k a b (E.reverse ++ s) (E.length : Int) = some (if 64 < (sortR a b E s).length then ([], 82) else ((sortR a b E s).reverse, 0))
  | [], E, k, hl, hk => by
    obtain ⟨k, rfl⟩ : ∃ j, k = j + 1 := ⟨k - 1, by omega⟩
    rw [concordref10_Max.l1, List.append_nil, if_neg (by simp), sortR]
    by_cases h : 64 < E.length
    · rw [if_pos (by simp; omega), if_pos h]
    · rw [if_neg (by simp; omega), if_neg h]
  | x :: s, E, k, hl, hk => by
    obtain ⟨k, rfl⟩ : ∃ j, k = j + 1 := ⟨k - 1, by omega⟩
    simp only [List.length_cons] at hl hk
    have r1 : rd_T35 (E.reverse ++ x :: s) (E.length : Int) = x := rd_mid _ _ _ _ (by simp)
    rw [concordref10_Max.l1, if_pos (by simp; omega), if_pos (by omega), r1, refCount_f a _ (by omega) k (by omega) va, Option.bind_some, refCount_f b _ (by omega) k (by omega) vb, Option.bind_some, Int.toNat_natCast, set_mid _ _ _ _ _ (by simp)]
    obtain ⟨k', h1, h2⟩ := refMax_l2 a b E.length (by omega) E s (upd a b x) k (by omega) (by omega)
    have h2' := h2
    unfold upd at h2'
    rw [h2']
    have h3 := refMax_l1 a b ha hb va vb s (insRev E (upd a b x)) k' (by rw [insRev_len]; omega) (by omega)
    rw [insRev_len] at h3
    unfold upd at h3
    rw [h3, sortR]
    rfl
theorem insRev_mem (r : List Dt) (x z : Dt) : z ∈ insRev r x ↔ z = x ∨ z ∈ r := by
  induction r with
  | nil => rw [insRev]; simp
  | cons y r ih =>
    rw [insRev]
    split
    · rw [List.mem_cons, ih, List.mem_cons]; exact or_left_comm
    · rw [List.mem_cons]
theorem insRev_dec : ∀ (r : List Dt) (x : Dt), Dec r → (∀ y ∈ r, y.f0 ≠ x.f0) → Dec (insRev r x)
  | [], x, _, _ => by rw [insRev]; exact List.pairwise_singleton _ _
  | y :: r, x, hd, hn => by
    have hp := List.pairwise_cons.1 hd
    have h0 := hn y List.mem_cons_self
    rw [insRev]
    by_cases h : y.f0 > x.f0
    · rw [if_pos h]
      refine List.pairwise_cons.2 ⟨fun z hz => ?_, insRev_dec r x hp.2 (fun z hz => hn z (List.mem_cons_of_mem _ hz))⟩
      rcases (insRev_mem r x z).1 hz with rfl | hz
      · omega
      · exact hp.1 z hz
    · rw [if_neg h]
      refine List.pairwise_cons.2 ⟨fun z hz => ?_, hd⟩
      rcases List.mem_cons.1 hz with rfl | hz
      · omega
      · have := hp.1 z hz; omega
theorem sortR_props (a b : List Dt) : ∀ (s E : List Dt), Dec E → s.Pairwise (fun p q => p.f0 ≠ q.f0) → (∀ x ∈ s, ∀ y ∈ E, y.f0 ≠ x.f0) → Dec (sortR a b E s) ∧ ∀ z, z ∈ sortR a b E s ↔ z ∈ E ∨ ∃ x ∈ s, z = upd a b x
  | [], E, hE, _, _ => by
    rw [sortR]
    refine ⟨hE, fun z => ⟨fun h => .inl h, fun h => h.elim id (fun ⟨x, hx, _⟩ => by cases hx)⟩⟩
  | x :: s, E, hE, hs, hn => by
    have hp := List.pairwise_cons.1 hs
    have hu : (upd a b x).f0 = x.f0 := rfl
    obtain ⟨h1, h2⟩ := sortR_props a b s (insRev E (upd a b x)) (insRev_dec E _ hE (fun y hy => by rw [hu]; exact hn x List.mem_cons_self y hy)) hp.2 (fun u hu2 y hy => by
      rcases (insRev_mem E _ y).1 hy with rfl | hy
      · rw [hu]; exact hp.1 u hu2
      · exact hn u (List.mem_cons_of_mem _ hu2) y hy)
    rw [sortR]
    refine ⟨h1, fun z => ?_⟩
    rw [h2 z, insRev_mem]
    constructor
    · rintro ((rfl | h) | ⟨u, hu, rfl⟩)
      · exact .inr ⟨x, List.mem_cons_self, rfl⟩
      · exact .inl h
      · exact .inr ⟨u, List.mem_cons_of_mem _ hu, rfl⟩
    · rintro (h | ⟨u, hu, rfl⟩)
      · exact .inl (.inr h)
      · rcases List.mem_cons.1 hu with rfl | hu
        · exact .inl (.inl rfl)
        · exact .inr ⟨u, hu, rfl⟩
theorem addL_eq (a : List Dt) : ∀ (l acc : List Dt), addL a acc l = acc ++ l.filter (fun y => decide (cnt a y.f0 = 0))
  | [], acc => by rw [addL]; simp
  | y :: l, acc => by
    rw [addL]
    by_cases h : cnt a y.f0 = 0
    · rw [if_pos h, addL_eq a l, List.filter_cons_of_pos (by simpa using h), List.append_assoc]; rfl
    · rw [if_neg h, addL_eq a l, List.filter_cons_of_neg (by simpa using h)]
theorem sort_max (a b : List Dt) (va : validB a = true) (vb : validB b = true) : (sortR a b [] (addL a a b)).reverse = maxL a b := by
  obtain ⟨pa, ia, la⟩ := valid_props a va
  obtain ⟨pb, ib, lb⟩ := valid_props b vb
  have hz : ∀ o, cnt a o = 0 ↔ ¬ Has a o := fun o => ⟨fun h hh => by have := cnt_pos a o pa hh; omega, cnt_none a o⟩
  have hall : ∀ z, z ∈ addL a a b ↔ z ∈ a ∨ (z ∈ b ∧ ¬ Has a z.f0) := by
    intro z
    rw [addL_eq, List.mem_append, List.mem_filter, decide_eq_true_eq, hz]
  have hpw : (addL a a b).Pairwise (fun p q => p.f0 ≠ q.f0) := by
    rw [addL_eq, List.pairwise_append]
    refine ⟨List.Pairwise.imp (fun h => Int.ne_of_lt h) ia, (List.Pairwise.imp (fun h => Int.ne_of_lt h) ib).filter _, fun p hp q hq => ?_⟩
    rw [List.mem_filter, decide_eq_true_eq, hz] at hq
    exact fun e => hq.2 ⟨p, hp, e⟩
  obtain ⟨s1, s2⟩ := sortR_props a b (addL a a b) [] List.Pairwise.nil hpw (fun _ _ y hy => by cases hy)
  obtain ⟨m1, m2, m3⟩ := max_props _ a b (Nat.le_refl _) ia ib pa pb
  refine inc_eq (fun o => mx (cnt a o) (cnt b o)) _ _ (List.pairwise_reverse.2 s1) m1 (fun o => ?_) (fun z hz2 => ?_) m3
  · rw [m2 o]
    constructor
    · rintro ⟨z, hz1, rfl⟩
      rw [List.mem_reverse, s2 z] at hz1
      rcases hz1 with h | ⟨x, hx, rfl⟩
      · cases h
      · rcases (hall x).1 hx with h | h
        · exact .inl ⟨x, h, rfl⟩
        · exact .inr ⟨x, h.1, rfl⟩
    · intro h
      by_cases h3 : Has a o
      · obtain ⟨x, hx, rfl⟩ := h3
        exact ⟨upd a b x, by rw [List.mem_reverse, s2]; exact .inr ⟨x, (hall x).2 (.inl hx), rfl⟩, rfl⟩
      · obtain ⟨x, hx, rfl⟩ := h.resolve_left h3
        exact ⟨upd a b x, by rw [List.mem_reverse, s2]; exact .inr ⟨x, (hall x).2 (.inr ⟨hx, h3⟩), rfl⟩, rfl⟩
  · rw [List.mem_reverse, s2 z] at hz2
    rcases hz2 with h | ⟨x, hx, rfl⟩
    · cases h
    · rfl
theorem refMax_f (a b : List Dt) (hla : a.length < 9000000000000) (hlb : b.length < 9000000000000) : concordref10_Max.f (a.length + b.length + 40000) a b = some (ownMax (validB a) (validB b) a b) := by
  unfold concordref10_Max.f
  rw [refValid_f a (by omega) _ (by omega), Option.bind_some]
  cases va : validB a with
  | false =>
    rw [if_neg (by decide), concordref10_Max.j0, if_pos rfl]
    rfl
  | true =>
    rw [if_pos rfl, refValid_f b (by omega) _ (by omega), Option.bind_some]
    cases vb : validB b with
    | false =>
      rw [concordref10_Max.j0, if_pos (by decide)]
      rfl
    | true =>
      obtain ⟨_, _, la⟩ := valid_props a va
      obtain ⟨_, _, lb⟩ := valid_props b vb
      rw [concordref10_Max.j0, if_neg (by decide), Option.bind_some, if_pos (by simp only [List.length_nil]; omega), List.nil_append]
      obtain ⟨k', h1, h2⟩ := refMax_l0 a b la lb va b.length 0 (a.length + b.length + 39999) a (by omega) (by omega) (by omega)
      have hal := addL_len a b a
      have h3 := refMax_l1 a b la lb va vb (addL a a b) [] k' (by simp only [List.length_nil]; omega) (by omega)
      rw [List.drop_zero] at h2
      rw [show concordref10_Max.l0 (a.length + b.length + 39999) a b a 0 = concordref10_Max.l0 (a.length + b.length + 39999) a b a ((0 : Nat) : Int) from rfl, h2]
      rw [show concordref10_Max.l1 k' a b (addL a a b) 0 = concordref10_Max.l1 k' a b ([].reverse ++ addL a a b) (([] : List Dt).length : Int) from rfl, h3]
      have h4 := sort_max a b va vb
      have h5 : (sortR a b [] (addL a a b)).length = (maxL a b).length := by rw [← h4, List.length_reverse]
      rw [h4, h5]
      rfl
end Go.Proofs.Ytgcmmiihjiiemaa.My
