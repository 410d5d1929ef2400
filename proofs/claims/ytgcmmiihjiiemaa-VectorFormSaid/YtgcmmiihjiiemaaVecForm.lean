/- VectorForm. -/
import Derived.Test.YtgcmmiihjiiemaaVecWorks
import Derived.Test.YtgcmmiihjiiemaaPFy3
import Derived.Test.YtgcmmiihjiiemaaVecDots
namespace Go.Proofs.Ytgcmmiihjiiemaa.My
open Go.RowKit Go.Proofs.YtgcmmiihjiiemaaW.PrintWords Go.Proofs.YtgcmmiihjiiemaaW.PrintLast Go.Proofs.YtgcmmiihjiiemaaW.PrintMore Go.Proofs.Ytgcmmiihjiiemaa Go.Proofs.Ytgcmmiihjiiemaa.PVectorMax Go.Proofs.Ytgcmmiihjiiemaa.PF
set_option linter.unusedSimpArgs false
set_option linter.unusedVariables false
set_option maxRecDepth 100000
set_option maxHeartbeats 1600000
theorem vform_f (l : List Dt) (hl : ∀ x ∈ l, (0 ≤ x.f0 ∧ x.f0 < 4294967296) ∧ 0 ≤ x.f1) (hll : l.length < 8800000000000) (s : ByteArray) (hs : s.size ≤ 140737488351232) (k : Nat) (hk : fuel l.length + 400 ≤ k) : concordlaw10_VectorForm.f k l s = some true := by
  obtain ⟨hg, hm, ho, hv⟩ := made_ok l hl 64 (Nat.le_refl _)
  have hmade : concordlaw10_made.f k l 64 = some (madeL 64 [] l) := made_f l (by omega) 64 (by omega) k (by omega)
  generalize madeL 64 [] l = v at *
  have hsz : (strOfNums (encL v)).size ≤ 140737488351232 := by
    rw [strOf_size]
    unfold encL
    have h1 := uv_len 10 v.length
    have h2 := encD_len v
    rw [List.length_append]
    omega
  unfold concordlaw10_VectorForm.f
  rw [works_f k (by omega), Option.bind_some, if_pos rfl, hmade, Option.bind_some, venc_f ho, ownEnc_ok hv, Option.bind_some]
  dsimp only
  rw [vDec_f _ hsz k (by omega), dec_enc hv ho, Option.bind_some]
  dsimp only
  rw [if_pos rfl, if_pos rfl, dsame_f v v (by omega) k (by omega), decide_eq_true rfl, Option.bind_some]
  obtain ⟨k, rfl⟩ : ∃ j, k = j + 1 := ⟨k - 1, by omega⟩
  rw [concordlaw10_VectorForm.j0, if_neg (by decide), vDec_f s hs k (by omega), Option.bind_some]
  by_cases h0 : (decV s).2 = 0
  · have h1 : decV s = ((decV s).1, 0) := Prod.ext rfl h0
    generalize (decV s).1 = W at h1
    obtain ⟨e1, e2, e3⟩ := enc_dec h1
    have hwl := (valid_props W e1).2.2
    rw [h1]
    dsimp only
    rw [if_pos rfl, venc_f e2, ownEnc_ok e1, Option.bind_some]
    dsimp only
    rw [if_pos rfl, e3, if_pos rfl, vvalid_f e2 k (by omega), Option.bind_some, e1]
  · rw [dec_no h0]
    dsimp only
    rw [if_neg (by decide), if_pos rfl]
    rfl
theorem VectorForm_walk (w : World) (A : Option Addr) (c : Nat) (a : List Dt) (hc : a.length ≤ c) (hA : Kd.C kD w A a.length a) (wa : ∀ x ∈ a, DotOk x) (la : a.length * 16 ≤ 140737488351232) (s : ByteArray) (hs : s.size ≤ 140737488351232) :
    Calls Try.prog 8 #[.slice A a.length c, .string s] w fun e w' => e = .returned (.bool true) ∧ Below w.heap.size w w' := by
  refine (concordlaw10_VectorForm.calls _ A c a s true w hA hc (vform_f a (fun x hx => ⟨(wa x hx).1, (wa x hx).2.1⟩) (by omega) s hs _ (Nat.le_refl _))).mono ?_
  rintro e w' ⟨rfl, h⟩
  exact ⟨rfl, h⟩
end Go.Proofs.Ytgcmmiihjiiemaa.My
