/- The document's Max answers what the program's Max does: the plain law. -/
import Derived.Test.YtgcmmiihjiiemaaVecMax
import Derived.Test.YtgcmmiihjiiemaaPVectorMaxx3
namespace Go.Proofs.Ytgcmmiihjiiemaa.My
open Go.RowKit Go.Proofs.YtgcmmiihjiiemaaW.PrintWords Go.Proofs.YtgcmmiihjiiemaaW.PrintLast Go.Proofs.YtgcmmiihjiiemaaW.PrintMore Go.Proofs.Ytgcmmiihjiiemaa Go.Proofs.Ytgcmmiihjiiemaa.PVectorMax
set_option linter.unusedSimpArgs false
set_option linter.unusedVariables false
set_option maxRecDepth 100000
set_option maxHeartbeats 800000
def vB : Option Int → List Dt → Bool
  | _, [] => true
  | p, x :: l => (decide (1 ≤ x.f1 ∧ x.f1 ≤ 1099511627776) && (match p with | none => true | some q => decide (q < x.f0))) && vB (some x.f0) l
theorem vB_cons (p : Option Int) (x : Dt) (l : List Dt) : vB p (x :: l) = ((decide (1 ≤ x.f1 ∧ x.f1 ≤ 1099511627776) && (match p with | none => true | some q => decide (q < x.f0))) && vB (some x.f0) l) := by cases p <;> rfl
def validB (v : List Dt) : Bool := vB none v && decide (v.length ≤ 64)
def prv (v : List Dt) (i : Nat) : Option Int := if i = 0 then none else some (rd_T35 v ((i - 1 : Nat) : Int)).f0
theorem rd_at (v : List Dt) (i : Nat) (h : i < v.length) : rd_T35 v (i : Int) = v[i] := by
  unfold rd_T35
  rw [Int.toNat_natCast, List.getD_eq_getElem?_getD, List.getElem?_eq_getElem h]
  rfl
theorem wr_succ (i : Nat) (h : i < 9000000000000000000) : wrap64 ((i : Int) + 1) = ((i + 1 : Nat) : Int) := by unfold wrap64; omega
theorem wr_pred (i : Nat) (h : i < 9000000000000000000) (h0 : i ≠ 0) : wrap64 ((i : Int) - 1) = ((i - 1 : Nat) : Int) := by unfold wrap64; omega
theorem prv_succ (v : List Dt) (i : Nat) (h : i < v.length) : prv v (i + 1) = some (v[i]).f0 := by
  unfold prv
  rw [if_neg (by omega), Nat.add_sub_cancel, rd_at v i h]
theorem refValid_l0 (v : List Dt) (hv : v.length < 9000000000000) : ∀ (n i k : Nat), i + n = v.length → n + 1 ≤ k → concordref10_Valid.l0 k v (i : Int) = some (vB (prv v i) (v.drop i))
  | 0, i, k, h, hk => by
    obtain ⟨k, rfl⟩ : ∃ j, k = j + 1 := ⟨k - 1, by omega⟩
    rw [concordref10_Valid.l0, if_neg (by omega), List.drop_of_length_le (by omega)]
    simp [vB]
  | n + 1, i, k, h, hk => by
    obtain ⟨k, rfl⟩ : ∃ j, k = j + 1 := ⟨k - 1, by omega⟩
    have hi : i < v.length := by omega
    have hd : v.drop i = v[i] :: v.drop (i + 1) := List.drop_eq_getElem_cons hi
    have ih := refValid_l0 v hv n (i + 1) k (by omega) (by omega)
    rw [prv_succ v i hi] at ih
    rw [concordref10_Valid.l0, if_pos (by omega), if_pos (by omega), rd_at v i hi, hd, vB_cons]
    generalize v[i] = x at *
    by_cases h1 : x.f1 < 1
    · rw [if_pos h1, decide_eq_false (by omega)]; rfl
    · rw [if_neg h1]
      by_cases h2 : x.f1 > 1099511627776
      · rw [if_pos h2, decide_eq_false (by omega)]; rfl
      · rw [if_neg h2, decide_eq_true (show 1 ≤ x.f1 ∧ x.f1 ≤ 1099511627776 by omega), wr_succ i (by omega), ih]
        by_cases h0 : i = 0
        · subst h0
          rw [if_neg (by omega)]
          rfl
        · rw [if_pos (by omega), wr_pred i (by omega) h0, if_pos (by omega), if_pos (by omega)]
          unfold prv
          rw [if_neg h0]
          by_cases h3 : (rd_T35 v ((i - 1 : Nat) : Int)).f0 ≥ x.f0
          · rw [if_pos h3]
            show some false = some ((true && decide _) && _)
            rw [decide_eq_false (by omega)]
            rfl
          · rw [if_neg h3]
            show some _ = some ((true && decide _) && _)
            rw [decide_eq_true (by omega)]
            rfl
theorem refValid_f (v : List Dt) (hv : v.length < 9000000000000) (k : Nat) (hk : v.length + 1 ≤ k) : concordref10_Valid.f k v = some (validB v) := by
  unfold concordref10_Valid.f validB
  by_cases h : v.length ≤ 64
  · rw [if_neg (by omega), decide_eq_true h, Bool.and_true]
    exact refValid_l0 v hv v.length 0 k (by omega) hk
  · rw [if_pos (by omega), decide_eq_false h, Bool.and_false]
theorem ownValid_l0 (v : List Dt) (hv : v.length < 9000000000000) (hw : ∀ x ∈ v, 0 ≤ x.f1) : ∀ (n i k : Nat), i + n = v.length → n + 1 ≤ k → vector_Valid.l0 k v v (v.length : Int) (i : Int) = some (vB (prv v i) (v.drop i) && decide (v.length ≤ 64))
  | 0, i, k, h, hk => by
    obtain ⟨k, rfl⟩ : ∃ j, k = j + 1 := ⟨k - 1, by omega⟩
    have e : vB (prv v i) [] = true := by simp [vB]
    rw [vector_Valid.l0, if_neg (by omega), List.drop_of_length_le (by omega), e, Bool.true_and]
    congr 1
    exact decide_eq_decide.2 (by omega)
  | n + 1, i, k, h, hk => by
    obtain ⟨k, rfl⟩ : ∃ j, k = j + 1 := ⟨k - 1, by omega⟩
    have hi : i < v.length := by omega
    have hd : v.drop i = v[i] :: v.drop (i + 1) := List.drop_eq_getElem_cons hi
    have ih := ownValid_l0 v hv hw n (i + 1) k (by omega) (by omega)
    have hx := hw _ (List.getElem_mem hi)
    rw [prv_succ v i hi] at ih
    rw [vector_Valid.l0, if_pos (by omega), if_pos (by omega), if_pos (by omega), rd_at v i hi, hd, vB_cons]
    generalize v[i] = x at *
    by_cases h1 : x.f1 = 0
    · rw [if_pos h1, decide_eq_false (by omega)]; rfl
    · rw [if_neg h1]
      by_cases h2 : x.f1 > 1099511627776
      · rw [if_pos h2, decide_eq_false (by omega)]; rfl
      · rw [if_neg h2, decide_eq_true (show 1 ≤ x.f1 ∧ x.f1 ≤ 1099511627776 by omega), wr_succ i (by omega), ih]
        by_cases h0 : i = 0
        · subst h0
          rw [if_neg (by omega)]
          rfl
        · rw [if_pos (by omega), wr_pred i (by omega) h0, if_pos (by omega), if_pos (by omega)]
          unfold prv
          rw [if_neg h0]
          by_cases h3 : (rd_T35 v ((i - 1 : Nat) : Int)).f0 ≥ x.f0
          · rw [if_pos h3]
            show some false = some (((true && decide _) && _) && _)
            rw [decide_eq_false (show ¬ (rd_T35 v ((i - 1 : Nat) : Int)).f0 < x.f0 by omega)]
            rfl
          · rw [if_neg h3]
            show some _ = some (((true && decide _) && _) && _)
            rw [decide_eq_true (show (rd_T35 v ((i - 1 : Nat) : Int)).f0 < x.f0 by omega)]
            rfl
theorem ownValid_f (v : List Dt) (hv : v.length < 9000000000000) (hw : ∀ x ∈ v, 0 ≤ x.f1) (k : Nat) (hk : v.length + 1 ≤ k) : vector_Valid.f k v = some (validB v) := ownValid_l0 v hv hw v.length 0 k (by omega) hk
/-- An actor's count, 0 if there is none. -/
def cnt : List Dt → Int → Int
  | [], _ => 0
  | x :: l, o => if x.f0 = o then x.f1 else cnt l o
theorem refCount_l0 (v : List Dt) (o : Int) (hv : v.length < 9000000000000) : ∀ (n i k : Nat), i + n = v.length → n + 1 ≤ k → concordref10_Count.l0 k v o (i : Int) = some (cnt (v.drop i) o)
  | 0, i, k, h, hk => by
    obtain ⟨k, rfl⟩ : ∃ j, k = j + 1 := ⟨k - 1, by omega⟩
    rw [concordref10_Count.l0, if_neg (by omega), List.drop_of_length_le (by omega), cnt]
  | n + 1, i, k, h, hk => by
    obtain ⟨k, rfl⟩ : ∃ j, k = j + 1 := ⟨k - 1, by omega⟩
    have hi : i < v.length := by omega
    have hd : v.drop i = v[i] :: v.drop (i + 1) := List.drop_eq_getElem_cons hi
    have ih := refCount_l0 v o hv n (i + 1) k (by omega) (by omega)
    rw [concordref10_Count.l0, if_pos (by omega), if_pos (by omega), rd_at v i hi, hd, cnt, wr_succ i (by omega), ih]
    split <;> rfl
theorem refCount_f (v : List Dt) (o : Int) (hv : v.length < 9000000000000) (k : Nat) (hk : v.length + 1 ≤ k) (h : validB v = true) : concordref10_Count.f k v o = some (cnt v o) := by
  unfold concordref10_Count.f
  rw [refValid_f v hv k hk, h, Option.bind_some, if_pos rfl]
  exact refCount_l0 v o hv v.length 0 k (by omega) hk
-- The document's Max.
def addL (a : List Dt) : List Dt → List Dt → List Dt
  | acc, [] => acc
  | acc, y :: l => if cnt a y.f0 = 0 then addL a (acc ++ [y]) l else addL a acc l
def upd (a b : List Dt) (x : Dt) : Dt := ⟨x.f0, mx (cnt a x.f0) (cnt b x.f0)⟩
def insRev : List Dt → Dt → List Dt
  | [], x => [x]
  | y :: r, x => if y.f0 > x.f0 then y :: insRev r x else x :: y :: r
theorem insRev_len (r : List Dt) (x : Dt) : (insRev r x).length = r.length + 1 := by
  induction r with
  | nil => rfl
  | cons y r ih =>
    rw [insRev]
    split
    · rw [List.length_cons, ih, List.length_cons]
    · rfl
theorem addL_len (a : List Dt) : ∀ (l acc : List Dt), (addL a acc l).length ≤ acc.length + l.length
  | [], acc => by rw [addL]; simp
  | y :: l, acc => by
    rw [addL]
    split
    · have := addL_len a l (acc ++ [y]); rw [List.length_append] at this; simp only [List.length_cons, List.length_nil] at this ⊢; omega
    · have := addL_len a l acc; simp only [List.length_cons] at this ⊢; omega
theorem refMax_l0 (a b : List Dt) (ha : a.length ≤ 64) (hb : b.length ≤ 64) (va : validB a = true) : ∀ (n i k : Nat) (acc : List Dt), i + n = b.length → n + 100 ≤ k → acc.length + n ≤ 128 → ∃ k', n + k' + 1 = k ∧ concordref10_Max.l0 k a b acc (i : Int) = concordref10_Max.l1 k' a b (addL a acc (b.drop i)) 0
  | 0, i, k, acc, h, hk, hl => by
    obtain ⟨k, rfl⟩ : ∃ j, k = j + 1 := ⟨k - 1, by omega⟩
    refine ⟨k, by omega, ?_⟩
    rw [concordref10_Max.l0, if_neg (by omega), List.drop_of_length_le (by omega), addL]
  | n + 1, i, k, acc, h, hk, hl => by
    obtain ⟨k, rfl⟩ : ∃ j, k = j + 1 := ⟨k - 1, by omega⟩
    have hi : i < b.length := by omega
    have hd : b.drop i = b[i] :: b.drop (i + 1) := List.drop_eq_getElem_cons hi
    rw [concordref10_Max.l0, if_pos (by omega), if_pos (by omega), rd_at b i hi, hd, addL, refCount_f a _ (by omega) k (by omega) va, Option.bind_some, wr_succ i (by omega)]
    by_cases h0 : cnt a (b[i]).f0 = 0
    · rw [if_pos h0, if_pos h0, if_pos (by omega)]
      obtain ⟨k', h1, h2⟩ := refMax_l0 a b ha hb va n (i + 1) k (acc ++ [b[i]]) (by omega) (by omega) (by rw [List.length_append]; show acc.length + 1 + n ≤ 128; omega)
      exact ⟨k', by omega, h2⟩
    · rw [if_neg h0, if_neg h0]
      obtain ⟨k', h1, h2⟩ := refMax_l0 a b ha hb va n (i + 1) k acc (by omega) (by omega) (by omega)
      exact ⟨k', by omega, h2⟩
theorem rd_mid (p s : List Dt) (x : Dt) (j : Nat) (hj : j = p.length) : rd_T35 (p ++ x :: s) (j : Int) = x := by
  subst hj
  unfold rd_T35
  rw [Int.toNat_natCast, List.getD_eq_getElem?_getD, List.getElem?_append_right (Nat.le_refl _)]
  simp
theorem set_mid (p s : List Dt) (x y : Dt) (j : Nat) (hj : j = p.length) : (p ++ x :: s).set j y = p ++ y :: s := by
  subst hj
  rw [List.set_append_right _ _ (Nat.le_refl _)]
  simp
theorem refMax_l2 (a b : List Dt) (i : Nat) (hi : i < 1000) : ∀ (r s : List Dt) (x : Dt) (k : Nat), r.length ≤ 1000 → r.length + 1 ≤ k → ∃ k', k ≤ k' + r.length + 1 ∧ concordref10_Max.l2 k a b (r.reverse ++ x :: s) (i : Int) (r.length : Int) = concordref10_Max.l1 k' a b ((insRev r x).reverse ++ s) (((i + 1 : Nat)) : Int)
  | [], s, x, k, _, hk => by
    obtain ⟨k, rfl⟩ : ∃ j, k = j + 1 := ⟨k - 1, by omega⟩
    refine ⟨k, by simp, ?_⟩
    rw [concordref10_Max.l2, if_neg (by simp), wr_succ i (by omega)]
    try rfl
  | y :: r, s, x, k, hr, hk => by
    obtain ⟨k, rfl⟩ : ∃ j, k = j + 1 := ⟨k - 1, by simp only [List.length_cons] at hk; omega⟩
    simp only [List.length_cons] at hr hk
    have e : (y :: r).reverse ++ x :: s = r.reverse ++ y :: x :: s := by simp
    have e2 : r.reverse ++ y :: x :: s = (r.reverse ++ [y]) ++ x :: s := by simp
    have hlen : (r.reverse ++ y :: x :: s).length = r.length + s.length + 2 := by simp; omega
    have hw : wrap64 ((((y :: r).length : Nat) : Int) - 1) = (r.length : Int) := by rw [wr_pred _ (by simp; omega) (by simp)]; simp
    have r1 : rd_T35 (r.reverse ++ y :: x :: s) (r.length : Int) = y := rd_mid _ _ _ _ (by simp)
    have r2 : rd_T35 (r.reverse ++ y :: x :: s) (((y :: r).length : Nat) : Int) = x := by rw [e2]; exact rd_mid _ _ _ _ (by simp)
    rw [concordref10_Max.l2, e, if_pos (by simp only [List.length_cons]; omega), hw, if_pos (by omega), if_pos (by rw [hlen]; omega), if_pos (by omega), if_pos (by rw [hlen]; simp; omega), r1, r2, insRev]
    by_cases h : y.f0 > x.f0
    · rw [if_pos h, if_pos h]
      have s1 : ((r.reverse ++ y :: x :: s).set ((r.length : Int)).toNat (⟨x.f0, x.f1⟩ : Dt)).set ((((y :: r).length : Nat) : Int)).toNat (⟨y.f0, y.f1⟩ : Dt) = r.reverse ++ x :: y :: s := by
        rw [Int.toNat_natCast, Int.toNat_natCast, set_mid _ _ _ _ _ (by simp)]
        have e3 : r.reverse ++ (⟨x.f0, x.f1⟩ : Dt) :: x :: s = (r.reverse ++ [x]) ++ x :: s := by simp
        rw [e3, set_mid _ _ _ _ _ (by simp)]
        simp
      rw [s1]
      obtain ⟨k', h1, h2⟩ := refMax_l2 a b i hi r (y :: s) x k (by omega) (by omega)
      refine ⟨k', by simp only [List.length_cons]; omega, ?_⟩
      rw [h2]
      congr 1
      simp
    · rw [if_neg h, if_neg h, wr_succ i (by omega)]
      refine ⟨k, by simp only [List.length_cons]; omega, ?_⟩
      congr 1
      simp
def sortR (a b : List Dt) : List Dt → List Dt → List Dt
  | E, [] => E
  | E, x :: s => sortR a b (insRev E (upd a b x)) s
theorem refMax_l1 (a b : List Dt) (ha : a.length ≤ 64) (hb : b.length ≤ 64) (va : validB a = true) (vb : validB b = true) : ∀ (s E : List Dt) (k : Nat), E.length + s.length ≤ 128 → s.length * 200 + 200 ≤ k → concordref10_Max.l1 k a b (E.reverse ++ s) (E.length : Int) = some (if 64 < (sortR a b E s).length then ([], 82) else ((sortR a b E s).reverse, 0))
  | [], E, k, hl, hk => by
    obtain ⟨k, rfl⟩ : ∃ j, k = j + 1 := ⟨k - 1, by omega⟩
    rw [concordref10_Max.l1, List.append_nil, if_neg (by simp), sortR]
    by_cases h : 64 < E.length
    · rw [if_pos (by simp; omega), if_pos h]
    · rw [if_neg (by simp; omega), if_neg h]
  | x :: s, E, k, hl, hk => by
    obtain ⟨k, rfl⟩ : ∃ j, k = j + 1 := ⟨k - 1, by omega⟩
    simp only [List.length_cons] at hl hk
    have r1 : rd_T35 (E.reverse ++ x :: s) (E.length : Int) = x := rd_mid _ _ _ _ (by simp)
    rw [concordref10_Max.l1, if_pos (by simp; omega), if_pos (by omega), r1, refCount_f a _ (by omega) k (by omega) va, Option.bind_some, refCount_f b _ (by omega) k (by omega) vb, Option.bind_some, Int.toNat_natCast, set_mid _ _ _ _ _ (by simp)]
    obtain ⟨k', h1, h2⟩ := refMax_l2 a b E.length (by omega) E s (upd a b x) k (by omega) (by omega)
    have h2' := h2
    unfold upd at h2'
    rw [h2']
    have h3 := refMax_l1 a b ha hb va vb s (insRev E (upd a b x)) k' (by rw [insRev_len]; omega) (by omega)
    rw [insRev_len] at h3
    unfold upd at h3
    rw [h3, sortR]
    rfl
end Go.Proofs.Ytgcmmiihjiiemaa.My
