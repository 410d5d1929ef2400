/- What Encode tells, Decode reads; what Decode reads, Encode tells again. -/
import Derived.Test.YtgcmmiihjiiemaaVecMade
namespace Go.Proofs.Ytgcmmiihjiiemaa.My
open Go.RowKit Go.Proofs.YtgcmmiihjiiemaaW.PrintWords Go.Proofs.YtgcmmiihjiiemaaW.PrintLast Go.Proofs.YtgcmmiihjiiemaaW.PrintMore Go.Proofs.Ytgcmmiihjiiemaa Go.Proofs.Ytgcmmiihjiiemaa.PVectorMax Go.Proofs.Ytgcmmiihjiiemaa.PF
set_option linter.unusedSimpArgs false
set_option linter.unusedVariables false
set_option maxRecDepth 100000
set_option maxHeartbeats 1600000
theorem natsOf_str (l : List Int) (h : ∀ x ∈ l, 0 ≤ x ∧ x < 256) : natsOf (strOfNums l) = l.map Int.toNat := by
  unfold natsOf strOfNums
  simp only [List.map_map, List.toList_toArray]
  apply List.map_congr_left
  intro x hx
  have := h x hx
  simp
  omega
def encN (l : List Dt) : List Nat := (encD l).map Int.toNat
theorem encN_cons (x : Dt) (l : List Dt) : encN (x :: l) = uvN 10 x.f0.toNat ++ (uvN 10 x.f1.toNat ++ encN l) := by
  unfold encN uvN
  rw [encD, List.map_append, List.map_append]
def Fits (l : List Dt) : Prop := ∀ x ∈ l, (0 ≤ x.f0 ∧ x.f0 ≤ 4294967295) ∧ 0 ≤ x.f1 ∧ x.f1 ≤ 1099511627776
theorem encD_bounds : ∀ l : List Dt, Fits l → ∀ z ∈ encD l, 0 ≤ z ∧ z < 256
  | [], _, z, hz => by cases hz
  | x :: l, h, z, hz => by
    have hx := h x List.mem_cons_self
    have e : (128 : Nat) * 128 ^ 10 = 151115727451828646838272 := by decide
    rw [encD] at hz
    rcases List.mem_append.1 hz with hz | hz
    · exact uv_bounds 10 x.f0.toNat (by rw [e]; omega) z hz
    · rcases List.mem_append.1 hz with hz | hz
      · exact uv_bounds 10 x.f1.toNat (by rw [e]; omega) z hz
      · exact encD_bounds l (fun y hy => h y (List.mem_cons_of_mem _ hy)) z hz
theorem tkO_enc (s : ByteArray) (R : List Nat) : ∀ (l : List Dt) (P : List Nat) (L : List Dt), Fits l → natsOf s = P ++ (encN l ++ R) → tkO s l.length P.length L = (L ++ l, P.length + (encN l).length, 0)
  | [], P, L, _, _ => by
    rw [show ([] : List Dt).length = 0 from rfl, tkO, List.append_nil]
    rfl
  | x :: l, P, L, hf, h => by
    have hx := hf x List.mem_cons_self
    rw [encN_cons] at h
    have h1 : natsOf s = P ++ (uvN 10 x.f0.toNat ++ (uvN 10 x.f1.toNat ++ (encN l ++ R))) := by rw [h]; simp
    have h2 : natsOf s = (P ++ uvN 10 x.f0.toNat) ++ (uvN 10 x.f1.toNat ++ (encN l ++ R)) := by rw [h]; simp
    have h3 : natsOf s = ((P ++ uvN 10 x.f0.toNat) ++ uvN 10 x.f1.toNat) ++ (encN l ++ R) := by rw [h]; simp
    have r1 := rU_ok (most := 4294967295) h1 (by omega) (by omega)
    have r2 := rU_ok (most := 1099511627776) h2 (by omega) (by omega)
    have e1 : (P ++ uvN 10 x.f0.toNat).length = P.length + (uvN 10 x.f0.toNat).length := List.length_append
    have e2 : ((P ++ uvN 10 x.f0.toNat) ++ uvN 10 x.f1.toNat).length = (P ++ uvN 10 x.f0.toNat).length + (uvN 10 x.f1.toNat).length := List.length_append
    have ih := tkO_enc s R l _ (L ++ [x]) (fun y hy => hf y (List.mem_cons_of_mem _ hy)) h3
    have ex : (⟨((x.f0.toNat : Nat) : Int), ((x.f1.toNat : Nat) : Int)⟩ : Dt) = x := by
      rw [Int.toNat_of_nonneg hx.1.1, Int.toNat_of_nonneg hx.2.1]
    rw [List.length_cons, tkO, r1]
    dsimp only
    rw [← e1, r2]
    dsimp only
    rw [if_pos rfl, ← e2, ex, ih, e2, e1, encN_cons, List.length_append, List.length_append, List.append_assoc]
    congr 2
    omega
theorem strOf_size (B : List Int) : (strOfNums B).size = B.length := by
  have h : (natsOf (strOfNums B)).length = (strOfNums B).size := natsOf_len _
  rw [← h]
  unfold natsOf strOfNums
  simp
theorem fits_of {v : List Dt} (hv : validB v = true) (ho : okD v = true) : Fits v := by
  intro x hx
  have h1 := okD_pos ho x hx
  have h2 := (valid_props v hv).1 x hx
  have h3 := vB_max v none (by unfold validB at hv; exact (Bool.and_eq_true_iff.1 hv).1) x hx
  exact ⟨⟨h1.1, by omega⟩, h1.2.2, h3⟩
/-- There and back. -/
theorem dec_enc {v : List Dt} (hv : validB v = true) (ho : okD v = true) : decV (strOfNums (encL v)) = (v, 0) := by
  have hl := (valid_props v hv).2.2
  have hf := fits_of hv ho
  have e : (128 : Nat) * 128 ^ 10 = 151115727451828646838272 := by decide
  have hb : ∀ z ∈ encL v, 0 ≤ z ∧ z < 256 := by
    intro z hz
    unfold encL at hz
    rcases List.mem_append.1 hz with hz | hz
    · exact uv_bounds 10 v.length (by rw [e]; omega) z hz
    · exact encD_bounds v hf z hz
  have hn : natsOf (strOfNums (encL v)) = [] ++ (uvN 10 v.length ++ (encN v ++ [])) := by
    rw [natsOf_str _ hb]
    unfold encL uvN encN
    simp
  have hn2 : natsOf (strOfNums (encL v)) = (uvN 10 v.length) ++ (encN v ++ []) := hn
  have r1 := rU_ok (most := 64) hn hl (by omega)
  have r2 := tkO_enc (strOfNums (encL v)) [] v (uvN 10 v.length) [] hf hn2
  have hsz : (strOfNums (encL v)).size = (uvN 10 v.length).length + (encN v).length := by
    have h := congrArg List.length hn2
    rw [natsOf_len, List.length_append, List.append_nil] at h
    exact h
  have ht : tkT (strOfNums (encL v)) 0 0 = (v, (uvN 10 v.length).length + (encN v).length, 0) := by
    unfold tkT
    rw [show (0 : Nat) = ([] : List Nat).length from rfl, r1]
    dsimp only
    rw [if_pos rfl, List.length_nil, Nat.zero_add, r2, List.nil_append]
  have hk : takeV (strOfNums (encL v)) 0 0 = (v, (uvN 10 v.length).length + (encN v).length, 0) := by
    rw [takeV_end, ht]
    unfold tkEnd
    dsimp only
    rw [if_pos rfl, if_pos hv]
  have hE : endE (strOfNums (encL v)) ((uvN 10 v.length).length + (encN v).length) 0 = 0 := by
    unfold endE
    rw [if_pos rfl, if_neg (by omega)]
  unfold decV
  rw [hk]
  dsimp only
  rw [hE, if_pos rfl]
theorem venc_f {l : List Dt} (h : okD l = true) : vector_Encode.f l = some (ownEnc l) := by unfold vector_Encode.f; rw [if_pos h]
theorem ownEnc_ok {l : List Dt} (h : validB l = true) : ownEnc l = (strOfNums (encL l), 0) := by unfold ownEnc; rw [if_pos h]
end Go.Proofs.Ytgcmmiihjiiemaa.My
