/- vector.Max as the print asks it. -/
import Derived.Test.YtgcmmiihjiiemaaVecMax
import Derived.Test.YtgcmmiihjiiemaaVecPut
namespace Go.Proofs.Ytgcmmiihjiiemaa.My
open Go.RowKit Go.Proofs.YtgcmmiihjiiemaaW.PrintWords Go.Proofs.YtgcmmiihjiiemaaW.PrintLast Go.Proofs.YtgcmmiihjiiemaaW.PrintMore Go.Proofs.Ytgcmmiihjiiemaa Go.Proofs.Ytgcmmiihjiiemaa.PVectorMax
set_option linter.unusedSimpArgs false
set_option linter.unusedVariables false
def vector_Max.f (l0 l1 : List S35) : Option (List S35 × Int) := if (okL l0 && okL l1) = true then some (ownMax (validB l0) (validB l1) l0 l1) else none
theorem vector_Max.calls (A0 : Option Addr) (c0 : Nat) (l0 : List S35) (A1 : Option Addr) (c1 : Nat) (l1 : List S35) (r1 : List S35) (r2 : Int) (w : World) (hr0 : Kd.C k35 w A0 l0.length l0) (hc0 : l0.length ≤ c0) (hr1 : Kd.C k35 w A1 l1.length l1) (hc1 : l1.length ≤ c1) (h : vector_Max.f l0 l1 = some (r1, r2)) :
    Calls Try.prog 13 #[.slice A0 l0.length c0, .slice A1 l1.length c1] w fun e w' => ∃ v0_ : Value, e = .returned (.tuple #[v0_, .int .i64 r2]) ∧ Kd.R k35 35 w' w.heap.size (fun _ => True) v0_ r1 ∧ Below w.heap.size w w' := by
  unfold vector_Max.f at h
  split at h
  case isFalse => cases h
  rename_i hok
  have h := Option.some.inj h
  obtain ⟨ok0, ok1⟩ := Bool.and_eq_true_iff.1 hok
  refine (vmax_calls w A0 c0 l0 hr0 hc0 A1 c1 l1 hr1 hc1 (l0.length + l1.length + 2) (validB l0) (validB l1) (ownValid_f l0 (by have := okL_len ok0; omega) (okL_pos ok0) _ (by omega)) (ownValid_f l1 (by have := okL_len ok1; omega) (okL_pos ok1) _ (by omega)) (fun h1 h2 => ?_)).mono ?_
  · have h3 := (valid_props l0 h1).2.2
    have h4 := (valid_props l1 h2).2.2
    omega
  · rintro e w' ⟨v, rfl, h1, h2⟩
    rw [h] at h1 ⊢
    exact ⟨v, rfl, h1, h2⟩
end Go.Proofs.Ytgcmmiihjiiemaa.My
