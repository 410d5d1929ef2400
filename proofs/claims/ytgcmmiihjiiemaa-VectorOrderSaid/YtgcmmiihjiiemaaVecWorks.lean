/- 'works' is true; what Below and Compare answer. -/
import Derived.Test.YtgcmmiihjiiemaaVecBack
namespace Go.Proofs.Ytgcmmiihjiiemaa.My
open Go.RowKit Go.Proofs.YtgcmmiihjiiemaaW.PrintWords Go.Proofs.YtgcmmiihjiiemaaW.PrintLast Go.Proofs.YtgcmmiihjiiemaaW.PrintMore Go.Proofs.Ytgcmmiihjiiemaa Go.Proofs.Ytgcmmiihjiiemaa.PVectorMax Go.Proofs.Ytgcmmiihjiiemaa.PF
set_option linter.unusedSimpArgs false
set_option linter.unusedVariables false
set_option maxRecDepth 100000
set_option maxHeartbeats 1600000
theorem vbel_f {a b : List Dt} (ha : okD a = true) (hb : okD b = true) : vector_Below.f a b = some (ownBelow a b) := by unfold vector_Below.f; rw [okD_okL' ha, okD_okL' hb]; rfl
theorem vmax_f {a b : List Dt} (ha : okD a = true) (hb : okD b = true) : vector_Max.f a b = some (ownMax (validB a) (validB b) a b) := by unfold vector_Max.f; rw [okD_okL' ha, okD_okL' hb]; rfl
def cmpV (a b : List Dt) : Int := if (ownBelow a b && ownBelow b a) = true then 0 else if ownBelow a b = true then -1 else if ownBelow b a = true then 1 else 2
theorem vcmp_f {a b : List Dt} (ha : okD a = true) (hb : okD b = true) (k : Nat) (hk : 1 ≤ k) : vector_Compare.f k a b = some (cmpV a b) := by
  unfold vector_Compare.f cmpV
  rw [vbel_f ha hb, vbel_f hb ha, Option.bind_some, Option.bind_some]
  obtain ⟨k, rfl⟩ : ∃ j, k = j + 1 := ⟨k - 1, by omega⟩
  cases ownBelow a b <;> cases ownBelow b a <;> simp [vector_Compare.j0]
theorem vvalid_f {l : List Dt} (h : okD l = true) (k : Nat) (hk : l.length + 1 ≤ k) : vector_Valid.f k l = some (validB l) := ownValid_f l (by have := okD_len h; omega) (fun x hx => (okD_pos h x hx).2.2) k hk
def wA : List Dt := [⟨1, 2⟩, ⟨3, 1⟩]
def wB : List Dt := [⟨1, 1⟩, ⟨2, 300⟩]
def wM : List Dt := [⟨1, 2⟩, ⟨2, 300⟩, ⟨3, 1⟩]
theorem wM_max : maxL wA wB = wM := by
  unfold wA wB
  rw [max_eq _ _ _ _ (by decide) (by decide), if_neg (by decide), max_gt _ _ _ _ (by decide), max_l]
  rfl
theorem works_f (k : Nat) (hk : 300 ≤ k) : concordlaw10_works.f k = some true := by
  have oA : okD wA = true := by decide
  have oB : okD wB = true := by decide
  have oM : okD wM = true := by decide
  have vA : validB wA = true := by decide
  have vB' : validB wB = true := by decide
  have vM : validB wM = true := by decide
  have hmax : vector_Max.f wA wB = some (wM, 0) := by
    rw [vmax_f oA oB, vA, vB']
    unfold ownMax
    rw [wM_max, if_pos (by decide), if_neg (by decide)]
  have henc : vector_Encode.f wM = some (strOfNums (encL wM), 0) := by rw [venc_f oM, ownEnc_ok vM]
  have hsz : (strOfNums (encL wM)).size ≤ 140737488351232 := by rw [strOf_size]; decide
  have hdec : vector_Decode.f k (strOfNums (encL wM)) = some (wM, 0) := by rw [vDec_f _ (Nat.le_trans hsz (by decide)) k (by omega), dec_enc vM oM]
  have hs : concordlaw10_same.f k wM wM = some true := by rw [dsame_f wM wM (by decide) k (by have : wM.length = 3 := rfl; omega), decide_eq_true rfl]
  have hc1 : vector_Compare.f k wA wM = some (-1) := by rw [vcmp_f oA oM k (by omega)]; decide
  have hc2 : vector_Compare.f k wA wB = some 2 := by rw [vcmp_f oA oB k (by omega)]; decide
  have hb : (strOfNums (encL wM)).toList = ([3, 1, 2, 2, 172, 2, 3, 1] : List UInt8) := by rw [ByteArray.toList_eq]; decide
  unfold concordlaw10_works.f
  simp only [Option.bind_some]
  show ((vector_Max.f wA wB).bind _) = _
  rw [hmax, Option.bind_some]
  dsimp only
  rw [henc, Option.bind_some]
  dsimp only
  rw [hdec, Option.bind_some]
  dsimp only
  rw [if_pos rfl, if_pos rfl, if_pos rfl]
  show ((concordlaw10_same.f k wM wM).bind _) = _
  rw [hs, Option.bind_some, if_pos rfl, Option.bind_some, if_pos rfl, if_pos hb]
  show ((vector_Compare.f k wA wM).bind _) = _
  rw [hc1, Option.bind_some, if_pos rfl]
  show ((vector_Compare.f k wA wB).bind _) = _
  rw [hc2, Option.bind_some]
  rfl
/-- What is made of any dots. -/
theorem made_ok (l : List Dt) (hl : ∀ x ∈ l, (0 ≤ x.f0 ∧ x.f0 < 4294967296) ∧ 0 ≤ x.f1) (m : Nat) (hm : m ≤ 64) : Good (madeL m [] l) ∧ (madeL m [] l).length ≤ 64 ∧ okD (madeL m [] l) = true ∧ validB (madeL m [] l) = true := by
  obtain ⟨h1, h2⟩ := madeL_good m l [] hl good_nil (Nat.zero_le _)
  exact ⟨h1, by omega, good_okD h1 (by omega), good_valid h1 (by omega)⟩
end Go.Proofs.Ytgcmmiihjiiemaa.My
