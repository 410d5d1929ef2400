/- What Encode tells, Decode reads; what Decode reads, Encode tells again. -/
import Derived.Test.YtgcmmiihjiiemaaVecMade
namespace Go.Proofs.Ytgcmmiihjiiemaa.My
open Go.RowKit Go.Proofs.YtgcmmiihjiiemaaW.PrintWords Go.Proofs.YtgcmmiihjiiemaaW.PrintLast Go.Proofs.YtgcmmiihjiiemaaW.PrintMore Go.Proofs.Ytgcmmiihjiiemaa Go.Proofs.Ytgcmmiihjiiemaa.PVectorMax Go.Proofs.Ytgcmmiihjiiemaa.PF
set_option linter.unusedSimpArgs false
set_option linter.unusedVariables false
set_option maxRecDepth 100000
set_option maxHeartbeats 1600000
theorem natsOf_inj {s t : ByteArray} (h : natsOf s = natsOf t) : s = t := by
  apply ByteArray.ext
  apply Array.toList_inj.1
  unfold natsOf at h
  exact (List.map_inj_right (fun x y hxy => UInt8.toNat_inj.1 hxy)).1 h
theorem natsOf_str (l : List Int) (h : ∀ x ∈ l, 0 ≤ x ∧ x < 256) : natsOf (strOfNums l) = l.map Int.toNat := by
  unfold natsOf strOfNums
  simp only [List.map_map, List.toList_toArray]
  apply List.map_congr_left
  intro x hx
  have := h x hx
  simp
  omega
def encN (l : List Dt) : List Nat := (encD l).map Int.toNat
theorem encN_cons (x : Dt) (l : List Dt) : encN (x :: l) = uvN 10 x.f0.toNat ++ (uvN 10 x.f1.toNat ++ encN l) := by
  unfold encN uvN
  rw [encD, List.map_append, List.map_append]
def Fits (l : List Dt) : Prop := ∀ x ∈ l, (0 ≤ x.f0 ∧ x.f0 ≤ 4294967295) ∧ 0 ≤ x.f1 ∧ x.f1 ≤ 1099511627776
theorem encD_bounds : ∀ l : List Dt, Fits l → ∀ z ∈ encD l, 0 ≤ z ∧ z < 256
  | [], _, z, hz => by cases hz
  | x :: l, h, z, hz => by
    have hx := h x List.mem_cons_self
    have e : (128 : Nat) * 128 ^ 10 = 151115727451828646838272 := by decide
    rw [encD] at hz
    rcases List.mem_append.1 hz with hz | hz
    · exact uv_bounds 10 x.f0.toNat (by rw [e]; omega) z hz
    · rcases List.mem_append.1 hz with hz | hz
      · exact uv_bounds 10 x.f1.toNat (by rw [e]; omega) z hz
      · exact encD_bounds l (fun y hy => h y (List.mem_cons_of_mem _ hy)) z hz
theorem tkO_enc (s : ByteArray) (R : List Nat) : ∀ (l : List Dt) (P : List Nat) (L : List Dt), Fits l → natsOf s = P ++ (encN l ++ R) → tkO s l.length P.length L = (L ++ l, P.length + (encN l).length, 0)
  | [], P, L, _, _ => by
    rw [show ([] : List Dt).length = 0 from rfl, tkO, List.append_nil]
    rfl
  | x :: l, P, L, hf, h => by
    have hx := hf x List.mem_cons_self
    rw [encN_cons] at h
    have h1 : natsOf s = P ++ (uvN 10 x.f0.toNat ++ (uvN 10 x.f1.toNat ++ (encN l ++ R))) := by rw [h]; simp
    have h2 : natsOf s = (P ++ uvN 10 x.f0.toNat) ++ (uvN 10 x.f1.toNat ++ (encN l ++ R)) := by rw [h]; simp
    have h3 : natsOf s = ((P ++ uvN 10 x.f0.toNat) ++ uvN 10 x.f1.toNat) ++ (encN l ++ R) := by rw [h]; simp
    have r1 := rU_ok (most := 4294967295) h1 (by omega) (by omega)
    have r2 := rU_ok (most := 1099511627776) h2 (by omega) (by omega)
    have e1 : (P ++ uvN 10 x.f0.toNat).length = P.length + (uvN 10 x.f0.toNat).length := List.length_append
    have e2 : ((P ++ uvN 10 x.f0.toNat) ++ uvN 10 x.f1.toNat).length = (P ++ uvN 10 x.f0.toNat).length + (uvN 10 x.f1.toNat).length := List.length_append
    have ih := tkO_enc s R l _ (L ++ [x]) (fun y hy => hf y (List.mem_cons_of_mem _ hy)) h3
    have ex : (⟨((x.f0.toNat : Nat) : Int), ((x.f1.toNat : Nat) : Int)⟩ : Dt) = x := by
      rw [Int.toNat_of_nonneg hx.1.1, Int.toNat_of_nonneg hx.2.1]
    rw [List.length_cons, tkO, r1]
    dsimp only
    rw [← e1, r2]
    dsimp only
    rw [if_pos rfl, ← e2, ex, ih, e2, e1, encN_cons, List.length_append, List.length_append, List.append_assoc]
    congr 2
    omega
theorem strOf_size (B : List Int) : (strOfNums B).size = B.length := by
  have h : (natsOf (strOfNums B)).length = (strOfNums B).size := natsOf_len _
  rw [← h]
  unfold natsOf strOfNums
  simp
theorem fits_of {v : List Dt} (hv : validB v = true) (ho : okD v = true) : Fits v := by
  intro x hx
  have h1 := okD_pos ho x hx
  have h2 := (valid_props v hv).1 x hx
  have h3 := vB_max v none (by unfold validB at hv; exact (Bool.and_eq_true_iff.1 hv).1) x hx
  exact ⟨⟨h1.1, by omega⟩, h1.2.2, h3⟩
/-- There and back. -/
theorem dec_enc {v : List Dt} (hv : validB v = true) (ho : okD v = true) : decV (strOfNums (encL v)) = (v, 0) := by
  have hl := (valid_props v hv).2.2
  have hf := fits_of hv ho
  have e : (128 : Nat) * 128 ^ 10 = 151115727451828646838272 := by decide
  have hb : ∀ z ∈ encL v, 0 ≤ z ∧ z < 256 := by
    intro z hz
    unfold encL at hz
    rcases List.mem_append.1 hz with hz | hz
    · exact uv_bounds 10 v.length (by rw [e]; omega) z hz
    · exact encD_bounds v hf z hz
  have hn : natsOf (strOfNums (encL v)) = [] ++ (uvN 10 v.length ++ (encN v ++ [])) := by
    rw [natsOf_str _ hb]
    unfold encL uvN encN
    simp
  have hn2 : natsOf (strOfNums (encL v)) = (uvN 10 v.length) ++ (encN v ++ []) := hn
  have r1 := rU_ok (most := 64) hn hl (by omega)
  have r2 := tkO_enc (strOfNums (encL v)) [] v (uvN 10 v.length) [] hf hn2
  have hsz : (strOfNums (encL v)).size = (uvN 10 v.length).length + (encN v).length := by
    have h := congrArg List.length hn2
    rw [natsOf_len, List.length_append, List.append_nil] at h
    exact h
  have ht : tkT (strOfNums (encL v)) 0 0 = (v, (uvN 10 v.length).length + (encN v).length, 0) := by
    unfold tkT
    rw [show (0 : Nat) = ([] : List Nat).length from rfl, r1]
    dsimp only
    rw [if_pos rfl, List.length_nil, Nat.zero_add, r2, List.nil_append]
  have hk : takeV (strOfNums (encL v)) 0 0 = (v, (uvN 10 v.length).length + (encN v).length, 0) := by
    rw [takeV_end, ht]
    unfold tkEnd
    dsimp only
    rw [if_pos rfl, if_pos hv]
  have hE : endE (strOfNums (encL v)) ((uvN 10 v.length).length + (encN v).length) 0 = 0 := by
    unfold endE
    rw [if_pos rfl, if_neg (by omega)]
  unfold decV
  rw [hk]
  dsimp only
  rw [hE, if_pos rfl]
theorem seg_app (s : ByteArray) (a b c : Nat) (h1 : a ≤ b) (h2 : b ≤ c) : seg s a (b - a) ++ seg s b (c - b) = seg s a (c - a) := by
  unfold seg
  rw [show c - a = (b - a) + (c - b) by omega, List.take_add, List.drop_drop]
  congr 3
  omega
theorem tkO_back (s : ByteArray) : ∀ (n q : Nat) (L W : List Dt) (p : Nat), q ≤ s.size → tkO s n q L = (W, p, 0) → ∃ l : List Dt, W = L ++ l ∧ l.length = n ∧ encN l = seg s q (p - q) ∧ q ≤ p ∧ p ≤ s.size ∧ Fits l
  | 0, q, L, W, p, hq, h => by
    rw [tkO] at h
    obtain ⟨h1, h⟩ := Prod.mk.inj h
    obtain ⟨h2, _⟩ := Prod.mk.inj h
    subst h1 h2
    refine ⟨[], (List.append_nil _).symm, rfl, ?_, Nat.le_refl _, hq, fun x hx => by cases hx⟩
    rw [Nat.sub_self]
    rfl
  | n + 1, q, L, W, p, hq, h => by
    have q1 := rU_le s q 0 4294967295 hq
    have m1 := rU_most s q 0 4294967295
    have b1 := rU_back s q 4294967295 hq
    rw [tkO] at h
    generalize rU s q 0 4294967295 = A at *
    obtain ⟨na, qa, ea⟩ := A
    dsimp only at q1 m1 b1 h
    by_cases hea : ea = 0
    · subst hea
      obtain ⟨b1, c1⟩ := b1 rfl
      have q2 := rU_le s qa 0 1099511627776 q1
      have m2 := rU_most s qa 0 1099511627776
      have b2 := rU_back s qa 1099511627776 q1
      generalize rU s qa 0 1099511627776 = C at *
      obtain ⟨nc, qc, ec⟩ := C
      dsimp only at q2 m2 b2 h
      by_cases hec : ec = 0
      · subst hec
        obtain ⟨b2, c2⟩ := b2 rfl
        rw [if_pos rfl] at h
        obtain ⟨l, h1, h2, h3, h4, h5, h6⟩ := tkO_back s n qc _ W p q2 h
        refine ⟨⟨(na : Int), (nc : Int)⟩ :: l, by rw [h1, List.append_assoc]; rfl, by rw [List.length_cons, h2], ?_, by omega, h5, fun x hx => ?_⟩
        · rw [encN_cons, h3]
          dsimp only
          rw [Int.toNat_natCast, Int.toNat_natCast, b1, b2, seg_app s qa qc p c2 h4, seg_app s q qa p c1 (by omega)]
        · rcases List.mem_cons.1 hx with rfl | hx
          · exact ⟨⟨Int.natCast_nonneg _, by dsimp only; omega⟩, Int.natCast_nonneg _, by dsimp only; omega⟩
          · exact h6 x hx
      · rw [if_neg hec] at h
        obtain ⟨_, h⟩ := Prod.mk.inj h
        obtain ⟨_, h⟩ := Prod.mk.inj h
        exact absurd h hec
    · rw [rU_err s qa 1099511627776 hea] at h
      dsimp only at h
      rw [if_neg hea] at h
      obtain ⟨_, h⟩ := Prod.mk.inj h
      obtain ⟨_, h⟩ := Prod.mk.inj h
      exact absurd h hea
theorem fits_okD {v : List Dt} (h : Fits v) (hl : v.length ≤ 64) : okD v = true := by
  unfold okD
  rw [decide_eq_true (by omega), Bool.true_and, List.all_eq_true]
  exact fun x hx => decide_eq_true ⟨(h x hx).1.1, by have := (h x hx).1.2; omega, (h x hx).2.1⟩
/-- And back again: bytes that were read are told again. -/
theorem enc_dec {s : ByteArray} {w : List Dt} (h : decV s = (w, 0)) : validB w = true ∧ okD w = true ∧ strOfNums (encL w) = s := by
  unfold decV at h
  split at h
  case isFalse =>
    obtain ⟨_, h⟩ := Prod.mk.inj h
    exact absurd h (by decide)
  rename_i he
  obtain ⟨h, _⟩ := Prod.mk.inj h
  have hle : (takeV s 0 0).2.2 = 0 ∧ s.size ≤ (takeV s 0 0).2.1 := by
    unfold endE at he
    split at he
    · rename_i h0
      split at he
      · exact absurd he (by decide)
      · exact ⟨h0, by omega⟩
    · rename_i h0
      exact absurd he h0
  obtain ⟨he1, he2⟩ := hle
  clear he
  rw [takeV_end] at h he1 he2
  unfold tkEnd at h he1 he2
  by_cases h0 : (tkT s 0 0).2.2 = 0
  · rw [if_pos h0] at h he1 he2
    by_cases h1 : validB (tkT s 0 0).1 = true
    · rw [if_pos h1] at h he1 he2
      rw [h] at h1
      have hv := h1
      clear h1 he1
      have hl := (valid_props w hv).2.2
      have ht : tkT s 0 0 = (w, (tkT s 0 0).2.1, 0) := Prod.ext h (Prod.ext rfl h0)
      generalize (tkT s 0 0).2.1 = p at ht he2
      clear h h0
      have q1 := rU_le s 0 0 64 (Nat.zero_le _)
      have b1 := rU_back s 0 64 (Nat.zero_le _)
      unfold tkT at ht
      generalize rU s 0 0 64 = A at *
      obtain ⟨N, q, e⟩ := A
      dsimp only at q1 b1 ht
      by_cases hee : e = 0
      · subst hee
        obtain ⟨b1, c1⟩ := b1 rfl
        rw [if_pos rfl] at ht
        obtain ⟨l, h1, h2, h3, h4, h5, h6⟩ := tkO_back s N q [] w p q1 ht
        rw [List.nil_append] at h1
        subst h1 h2
        have ho := fits_okD h6 hl
        refine ⟨hv, ho, natsOf_inj ?_⟩
        have e : (128 : Nat) * 128 ^ 10 = 151115727451828646838272 := by decide
        rw [natsOf_str _ (fun z hz => by
          unfold encL at hz
          rcases List.mem_append.1 hz with hz | hz
          · exact uv_bounds 10 _ (by rw [e]; omega) z hz
          · exact encD_bounds _ h6 z hz)]
        have e2 : (encL w).map Int.toNat = uvN 10 w.length ++ encN w := by
          unfold encL uvN encN
          rw [List.map_append]
        rw [e2, b1, h3, Nat.sub_zero]
        have hp : p = s.size := by omega
        have h7 := seg_app s 0 q p (Nat.zero_le _) h4
        rw [Nat.sub_zero, Nat.sub_zero] at h7
        rw [h7, hp]
        unfold seg
        rw [List.drop_zero, List.take_of_length_le (by rw [natsOf_len]; omega)]
      · rw [if_neg hee] at ht
        obtain ⟨_, h⟩ := Prod.mk.inj ht
        obtain ⟨_, h⟩ := Prod.mk.inj h
        exact absurd h hee
    · rw [if_neg h1] at he1
      exact absurd he1 (show ¬ ((100 : Int) = 0) by decide)
  · rw [if_neg h0] at he1
    exact absurd he1 h0
theorem dec_no {s : ByteArray} (h : (decV s).2 ≠ 0) : decV s = ([], 100) := by
  unfold decV at h ⊢
  split at h
  · exact absurd rfl h
  · rename_i h2
    rw [if_neg h2]
theorem venc_f {l : List Dt} (h : okD l = true) : vector_Encode.f l = some (ownEnc l) := by unfold vector_Encode.f; rw [if_pos h]
theorem ownEnc_ok {l : List Dt} (h : validB l = true) : ownEnc l = (strOfNums (encL l), 0) := by unfold ownEnc; rw [if_pos h]
end Go.Proofs.Ytgcmmiihjiiemaa.My
