/- The document's Max answers what the program's Max does: the plain law. -/
import Derived.Test.YtgcmmiihjiiemaaVecMax
namespace Go.Proofs.Ytgcmmiihjiiemaa.My
open Go.RowKit Go.Proofs.YtgcmmiihjiiemaaW.PrintWords Go.Proofs.YtgcmmiihjiiemaaW.PrintLast Go.Proofs.YtgcmmiihjiiemaaW.PrintMore Go.Proofs.Ytgcmmiihjiiemaa Go.Proofs.Ytgcmmiihjiiemaa.PVectorMax
set_option linter.unusedSimpArgs false
set_option linter.unusedVariables false
set_option maxRecDepth 100000
set_option maxHeartbeats 800000
def vB : Option Int → List Dt → Bool
  | _, [] => true
  | p, x :: l => (decide (1 ≤ x.f1 ∧ x.f1 ≤ 1099511627776) && (match p with | none => true | some q => decide (q < x.f0))) && vB (some x.f0) l
theorem vB_cons (p : Option Int) (x : Dt) (l : List Dt) : vB p (x :: l) = ((decide (1 ≤ x.f1 ∧ x.f1 ≤ 1099511627776) && (match p with | none => true | some q => decide (q < x.f0))) && vB (some x.f0) l) := by cases p <;> rfl
def validB (v : List Dt) : Bool := vB none v && decide (v.length ≤ 64)
def prv (v : List Dt) (i : Nat) : Option Int := if i = 0 then none else some (rd_T35 v ((i - 1 : Nat) : Int)).f0
theorem rd_at (v : List Dt) (i : Nat) (h : i < v.length) : rd_T35 v (i : Int) = v[i] := by
  unfold rd_T35
  rw [Int.toNat_natCast, List.getD_eq_getElem?_getD, List.getElem?_eq_getElem h]
  rfl
theorem wr_succ (i : Nat) (h : i < 9000000000000000000) : wrap64 ((i : Int) + 1) = ((i + 1 : Nat) : Int) := by unfold wrap64; omega
theorem wr_pred (i : Nat) (h : i < 9000000000000000000) (h0 : i ≠ 0) : wrap64 ((i : Int) - 1) = ((i - 1 : Nat) : Int) := by unfold wrap64; omega
theorem prv_succ (v : List Dt) (i : Nat) (h : i < v.length) : prv v (i + 1) = some (v[i]).f0 := by
  unfold prv
  rw [if_neg (by omega), Nat.add_sub_cancel, rd_at v i h]
theorem ownValid_l0 (v : List Dt) (hv : v.length < 9000000000000) (hw : ∀ x ∈ v, 0 ≤ x.f1) : ∀ (n i k : Nat), i + n = v.length → n + 1 ≤ k → vector_Valid.l0 k v v (v.length : Int) (i : Int) = some (vB (prv v i) (v.drop i) && decide (v.length ≤ 64))
  | 0, i, k, h, hk => by
    obtain ⟨k, rfl⟩ : ∃ j, k = j + 1 := ⟨k - 1, by omega⟩
    have e : vB (prv v i) [] = true := by simp [vB]
    rw [vector_Valid.l0, if_neg (by omega), List.drop_of_length_le (by omega), e, Bool.true_and]
    congr 1
    exact decide_eq_decide.2 (by omega)
  | n + 1, i, k, h, hk => by
    obtain ⟨k, rfl⟩ : ∃ j, k = j + 1 := ⟨k - 1, by omega⟩
    have hi : i < v.length := by omega
    have hd : v.drop i = v[i] :: v.drop (i + 1) := List.drop_eq_getElem_cons hi
    have ih := ownValid_l0 v hv hw n (i + 1) k (by omega) (by omega)
    have hx := hw _ (List.getElem_mem hi)
    rw [prv_succ v i hi] at ih
    rw [vector_Valid.l0, if_pos (by omega), if_pos (by omega), if_pos (by omega), rd_at v i hi, hd, vB_cons]
    generalize v[i] = x at *
    by_cases h1 : x.f1 = 0
    · rw [if_pos h1, decide_eq_false (by omega)]; rfl
    · rw [if_neg h1]
      by_cases h2 : x.f1 > 1099511627776
      · rw [if_pos h2, decide_eq_false (by omega)]; rfl
      · rw [if_neg h2, decide_eq_true (show 1 ≤ x.f1 ∧ x.f1 ≤ 1099511627776 by omega), wr_succ i (by omega), ih]
        by_cases h0 : i = 0
        · subst h0
          rw [if_neg (by omega)]
          rfl
        · rw [if_pos (by omega), wr_pred i (by omega) h0, if_pos (by omega), if_pos (by omega)]
          unfold prv
          rw [if_neg h0]
          by_cases h3 : (rd_T35 v ((i - 1 : Nat) : Int)).f0 ≥ x.f0
          · rw [if_pos h3]
            show some false = some (((true && decide _) && _) && _)
            rw [decide_eq_false (show ¬ (rd_T35 v ((i - 1 : Nat) : Int)).f0 < x.f0 by omega)]
            rfl
          · rw [if_neg h3]
            show some _ = some (((true && decide _) && _) && _)
            rw [decide_eq_true (show (rd_T35 v ((i - 1 : Nat) : Int)).f0 < x.f0 by omega)]
            rfl
theorem ownValid_f (v : List Dt) (hv : v.length < 9000000000000) (hw : ∀ x ∈ v, 0 ≤ x.f1) (k : Nat) (hk : v.length + 1 ≤ k) : vector_Valid.f k v = some (validB v) := ownValid_l0 v hv hw v.length 0 k (by omega) hk
/-- An actor's count, 0 if there is none. -/
def cnt : List Dt → Int → Int
  | [], _ => 0
  | x :: l, o => if x.f0 = o then x.f1 else cnt l o
theorem rd_mid (p s : List Dt) (x : Dt) (j : Nat) (hj : j = p.length) : rd_T35 (p ++ x :: s) (j : Int) = x := by
  subst hj
  unfold rd_T35
  rw [Int.toNat_natCast, List.getD_eq_getElem?_getD, List.getElem?_append_right (Nat.le_refl _)]
  simp
theorem set_mid (p s : List Dt) (x y : Dt) (j : Nat) (hj : j = p.length) : (p ++ x :: s).set j y = p ++ y :: s := by
  subst hj
  rw [List.set_append_right _ _ (Nat.le_refl _)]
  simp
end Go.Proofs.Ytgcmmiihjiiemaa.My
