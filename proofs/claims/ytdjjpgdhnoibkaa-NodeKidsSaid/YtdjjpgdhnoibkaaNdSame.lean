/- Same of nodes; the node's Size. -/
import Derived.Test.YtdjjpgdhnoibkaaNdBk2
import Derived.Test.YtdjjpgdhnoibkaaPDy3
namespace Go.Proofs.Ytdjjpgdhnoibkaa.My
open Go.RowKit Go.Proofs.YtdjjpgdhnoibkaaW.PrintWords Go.Proofs.YtdjjpgdhnoibkaaW.PrintLast Go.Proofs.YtdjjpgdhnoibkaaW.PrintMore Go.Proofs.Ytdjjpgdhnoibkaa Go.Proofs.Ytdjjpgdhnoibkaa.PZ Go.Proofs.Ytdjjpgdhnoibkaa.PD
set_option linter.unusedSimpArgs false
set_option linter.unusedVariables false
set_option maxRecDepth 100000
set_option maxHeartbeats 1600000
instance decCe : DecidableEq Ce := fun a b => decidable_of_iff (a.f0 = b.f0 ∧ a.f1 = b.f1) ⟨fun h => by cases a; cases b; obtain ⟨h1, h2⟩ := h; dsimp only at h1 h2; rw [h1, h2], fun h => by rw [h]; exact ⟨rfl, rfl⟩⟩
theorem same_l2 (b b' : Bool) (cs cs' : List Ce) (ks ks' : List ByteArray) (kids kids' : List Int) (hl : kids.length = kids'.length) (hb : kids.length < 35184372088832) : ∀ (n i k : Nat), i + n = kids.length → n + 1 ≤ k → concordref08_Same.l2 k (i : Int) b cs ks kids b' cs' ks' kids' = some (decide (kids.drop i = kids'.drop i))
  | 0, i, k, hi, hk => by
    obtain ⟨k, rfl⟩ : ∃ j, k = j + 1 := ⟨k - 1, by omega⟩
    rw [concordref08_Same.l2, if_neg (by omega), List.drop_eq_nil_of_le (by omega), List.drop_eq_nil_of_le (by omega), decide_eq_true rfl]
  | n + 1, i, k, hi, hk => by
    obtain ⟨k, rfl⟩ : ∃ j, k = j + 1 := ⟨k - 1, by omega⟩
    have h1 : i < kids.length := by omega
    have h2 : i < kids'.length := by omega
    rw [concordref08_Same.l2, if_pos (by omega), if_pos (by omega), if_pos (by omega), rdI_at kids i h1, rdI_at kids' i h2, w64S i (by omega), same_l2 b b' cs cs' ks ks' kids kids' hl hb n (i + 1) k (by omega) (by omega), List.drop_eq_getElem_cons h1, List.drop_eq_getElem_cons h2]
    by_cases h : kids[i] = kids'[i]
    · rw [if_pos h, h]
      congr 1
      exact decide_eq_decide.2 ⟨fun h => by rw [h], fun h => (List.cons.inj h).2⟩
    · rw [if_neg h]
      congr 1
      exact (decide_eq_false fun h' => h (List.cons.inj h').1).symm
theorem str_eq {a b : ByteArray} (h : a.toList = b.toList) : a = b := by
  rw [Go.ByteArray.toList_eq, Go.ByteArray.toList_eq] at h
  exact ByteArray.ext (Array.toList_inj.1 h)
theorem same_l1 (b b' : Bool) (cs cs' : List Ce) (ks ks' : List ByteArray) (kids kids' : List Int) (hl : kids.length = kids'.length) (hb : kids.length < 35184372088832) (hl1 : ks.length = ks'.length) (hb1 : ks.length < 8796093022208) : ∀ (n i k : Nat), i + n = ks.length → n + kids.length + 5 ≤ k → concordref08_Same.l1 k (i : Int) b cs ks kids b' cs' ks' kids' = some (decide (ks.drop i = ks'.drop i ∧ kids = kids'))
  | 0, i, k, hi, hk => by
    obtain ⟨k, rfl⟩ : ∃ j, k = j + 1 := ⟨k - 1, by omega⟩
    have h := same_l2 b b' cs cs' ks ks' kids kids' hl hb kids.length 0 k (by omega) (by omega)
    rw [List.drop_zero, List.drop_zero] at h
    rw [concordref08_Same.l1, if_neg (by omega), List.drop_eq_nil_of_le (by omega), List.drop_eq_nil_of_le (by omega)]
    refine h.trans ?_
    congr 1
    exact decide_eq_decide.2 ⟨fun h => ⟨rfl, h⟩, fun h => h.2⟩
  | n + 1, i, k, hi, hk => by
    obtain ⟨k, rfl⟩ : ∃ j, k = j + 1 := ⟨k - 1, by omega⟩
    have h1 : i < ks.length := by omega
    have h2 : i < ks'.length := by omega
    rw [concordref08_Same.l1, if_pos (by omega), if_pos (by omega), if_pos (by omega), rdS_at ks i h1, rdS_at ks' i h2, w64S i (by omega), same_l1 b b' cs cs' ks ks' kids kids' hl hb hl1 hb1 n (i + 1) k (by omega) (by omega), List.drop_eq_getElem_cons h1, List.drop_eq_getElem_cons h2]
    by_cases h : ks[i].toList = ks'[i].toList
    · rw [if_pos h, str_eq h]
      congr 1
      exact decide_eq_decide.2 ⟨fun h => ⟨by rw [h.1], h.2⟩, fun h => ⟨(List.cons.inj h.1).2, h.2⟩⟩
    · rw [if_neg h]
      congr 1
      exact (decide_eq_false fun h' => h (by rw [(List.cons.inj h'.1).1])).symm
theorem same_l0 (b b' : Bool) (cs cs' : List Ce) (ks ks' : List ByteArray) (kids kids' : List Int) (hl : kids.length = kids'.length) (hb : kids.length < 35184372088832) (hl1 : ks.length = ks'.length) (hb1 : ks.length < 8796093022208) (hl0 : cs.length = cs'.length) (hb0 : cs.length < 4398046511104) : ∀ (n i k : Nat), i + n = cs.length → n + ks.length + kids.length + 15 ≤ k → concordref08_Same.l0 k (i : Int) b cs ks kids b' cs' ks' kids' = some (decide (cs.drop i = cs'.drop i ∧ ks = ks' ∧ kids = kids'))
  | 0, i, k, hi, hk => by
    obtain ⟨k, rfl⟩ : ∃ j, k = j + 1 := ⟨k - 1, by omega⟩
    have h := same_l1 b b' cs cs' ks ks' kids kids' hl hb hl1 hb1 ks.length 0 k (by omega) (by omega)
    rw [List.drop_zero, List.drop_zero] at h
    rw [concordref08_Same.l0, if_neg (by omega), List.drop_eq_nil_of_le (by omega), List.drop_eq_nil_of_le (by omega)]
    refine h.trans ?_
    congr 1
    exact decide_eq_decide.2 ⟨fun h => ⟨rfl, h⟩, fun h => h.2⟩
  | n + 1, i, k, hi, hk => by
    obtain ⟨k, rfl⟩ : ∃ j, k = j + 1 := ⟨k - 1, by omega⟩
    have h1 : i < cs.length := by omega
    have h2 : i < cs'.length := by omega
    rw [concordref08_Same.l0, if_pos (by omega), if_pos (by omega), if_pos (by omega), rdC_at cs i h1, rdC_at cs' i h2, w64S i (by omega), same_l0 b b' cs cs' ks ks' kids kids' hl hb hl1 hb1 hl0 hb0 n (i + 1) k (by omega) (by omega), List.drop_eq_getElem_cons h1, List.drop_eq_getElem_cons h2]
    generalize cs[i] = x
    generalize cs'[i] = y
    obtain ⟨x0, x1⟩ := x
    obtain ⟨y0, y1⟩ := y
    dsimp only
    by_cases h3 : x0.toList = y0.toList
    · by_cases h4 : x1.toList = y1.toList
      · rw [if_neg (by rw [h3, h4]; simp), str_eq h3, str_eq h4]
        congr 1
        exact decide_eq_decide.2 ⟨fun h => ⟨by rw [h.1], h.2⟩, fun h => ⟨(List.cons.inj h.1).2, h.2⟩⟩
      · rw [if_pos (by simp [h4])]
        congr 1
        refine (decide_eq_false fun h' => h4 ?_).symm
        have h5 := (List.cons.inj h'.1).1
        injection h5 with h6 h7
        rw [h7]
    · rw [if_pos (by simp [h3])]
      congr 1
      refine (decide_eq_false fun h' => h3 ?_).symm
      have h5 := (List.cons.inj h'.1).1
      injection h5 with h6 h7
      rw [h6]
theorem same_j0 (b b' : Bool) (cs cs' : List Ce) (ks ks' : List ByteArray) (kids kids' : List Int) (hl : kids.length = kids'.length) (hb : kids.length < 35184372088832) (hl1 : ks.length = ks'.length) (hb1 : ks.length < 8796093022208) (hl0 : cs.length = cs'.length) (hb0 : cs.length < 4398046511104) (k : Nat) (hk : cs.length + ks.length + kids.length + 20 ≤ k) : concordref08_Same.j0 k false b cs ks kids b' cs' ks' kids' = some (decide (cs = cs' ∧ ks = ks' ∧ kids = kids')) := by
  obtain ⟨k, rfl⟩ : ∃ j, k = j + 1 := ⟨k - 1, by omega⟩
  have h := same_l0 b b' cs cs' ks ks' kids kids' hl hb hl1 hb1 hl0 hb0 cs.length 0 k (by omega) (by omega)
  rw [List.drop_zero, List.drop_zero] at h
  rw [concordref08_Same.j0, if_neg (by decide)]
  exact h
theorem same_bad (b b' : Bool) (cs cs' : List Ce) (ks ks' : List ByteArray) (kids kids' : List Int) (k : Nat) (hk : 1 ≤ k) : concordref08_Same.j0 k true b cs ks kids b' cs' ks' kids' = some false := by
  obtain ⟨k, rfl⟩ : ∃ j, k = j + 1 := ⟨k - 1, by omega⟩
  rw [concordref08_Same.j0, if_pos rfl]
/-- Same answers whether they are one. -/
theorem same_f (b b' : Bool) (cs cs' : List Ce) (ks ks' : List ByteArray) (kids kids' : List Int) (hb : kids.length < 35184372088832) (hb1 : ks.length < 8796093022208) (hb0 : cs.length < 4398046511104) (k : Nat) (hk : cs.length + ks.length + kids.length + 20 ≤ k) : concordref08_Same.f k b cs ks kids b' cs' ks' kids' = some (decide (b = b' ∧ cs = cs' ∧ ks = ks' ∧ kids = kids')) := by
  unfold concordref08_Same.f
  by_cases h1 : b = b'
  · subst h1
    rw [if_neg (by simp)]
    by_cases h2 : cs.length = cs'.length
    · rw [if_pos (by rw [h2])]
      by_cases h3 : ks.length = ks'.length
      · rw [if_pos (by rw [h3])]
        by_cases h4 : kids.length = kids'.length
        · have e : ((kids.length : Int) != (kids'.length : Int)) = false := by rw [h4]; simp
          rw [e, same_j0 b b cs cs' ks ks' kids kids' h4 hb h3 hb1 h2 hb0 k hk]
          congr 1
          exact decide_eq_decide.2 ⟨fun h => ⟨rfl, h⟩, fun h => h.2⟩
        · have e : ((kids.length : Int) != (kids'.length : Int)) = true := by
            rw [bne_iff_ne]
            omega
          rw [e, same_bad _ _ _ _ _ _ _ _ k (by omega)]
          congr 1
          exact (decide_eq_false fun h => h4 (by rw [h.2.2.2])).symm
      · rw [if_neg (by omega), same_bad _ _ _ _ _ _ _ _ k (by omega)]
        congr 1
        exact (decide_eq_false fun h => h3 (by rw [h.2.2.1])).symm
    · rw [if_neg (by omega), same_bad _ _ _ _ _ _ _ _ k (by omega)]
      congr 1
      exact (decide_eq_false fun h => h2 (by rw [h.2.1])).symm
  · rw [if_pos (by simpa using h1), same_bad _ _ _ _ _ _ _ _ k (by omega)]
    congr 1
    exact (decide_eq_false fun h => h1 h.1).symm
theorem nd_of_chk {b : Bool} {cs : List Ce} {ks : List ByteArray} {kids : List Int} (h : chkV b cs ks kids = 0) : (cs.length ≤ 2000 ∧ ks.length ≤ 2000 ∧ kids.length ≤ 2001) ∧ NdOk cs ks kids := by
  obtain ⟨f1, f2, f3, f4, f5⟩ := chk_facts h
  have h1 := cs_len cs
  have h2 := ks_len ks
  have hl : cs.length ≤ 2000 ∧ ks.length ≤ 2000 ∧ kids.length ≤ 2001 := by
    cases b with
    | true =>
      obtain ⟨rfl, rfl⟩ := shp_leaf f1
      unfold lngV at f5
      rw [if_pos rfl] at f5
      exact ⟨by omega, by simp, by simp⟩
    | false =>
      obtain ⟨rfl, hk⟩ := shp_branch f1
      unfold lngV at f5
      rw [if_neg (by decide)] at f5
      exact ⟨by simp, by omega, by omega⟩
  exact ⟨hl, ⟨by omega, by omega, by omega⟩, fun c hc => by have := okC_sz (List.all_eq_true.1 f2 c hc); omega, fun k hk => by have := okK_sz (List.all_eq_true.1 f3 k hk); omega⟩
theorem ndB_of {cs : List Ce} {ks : List ByteArray} {kids : List Int} (h : NdOk cs ks kids) (hk : ∀ x ∈ kids, 0 ≤ x ∧ x < 4294967296) : ndB cs ks kids = true := by
  unfold ndB
  simp only [Bool.and_eq_true, decide_eq_true_eq, List.all_eq_true]
  exact ⟨⟨⟨h.1.1, h.1.2.1⟩, h.1.2.2⟩, h.2.1, h.2.2, hk⟩
end Go.Proofs.Ytdjjpgdhnoibkaa.My
