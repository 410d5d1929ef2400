/- VectorSteps. -/
import Derived.Test.YtgcmmiihjiiemaaVecOrd
import Derived.Test.YtgcmmiihjiiemaaPFy7
import Derived.Test.YtgcmmiihjiiemaaVecDots
namespace Go.Proofs.Ytgcmmiihjiiemaa.My
open Go.RowKit Go.Proofs.YtgcmmiihjiiemaaW.PrintWords Go.Proofs.YtgcmmiihjiiemaaW.PrintLast Go.Proofs.YtgcmmiihjiiemaaW.PrintMore Go.Proofs.Ytgcmmiihjiiemaa Go.Proofs.Ytgcmmiihjiiemaa.PVectorMax Go.Proofs.Ytgcmmiihjiiemaa.PF
set_option linter.unusedSimpArgs false
set_option linter.unusedVariables false
set_option maxRecDepth 100000
set_option maxHeartbeats 1600000
theorem vcov_v {v : List Dt} {m : Nat} (hv : Vec v m) (hm : m ≤ 64) (o n : Int) : vector_Covers.f v o n = some (decide (1 ≤ n ∧ n ≤ cnt v o)) := by
  unfold vector_Covers.f
  by_cases hn : n > 0
  · rw [if_pos hn, hv.count hm, Option.bind_some]
    congr 1
    exact decide_eq_decide.2 (by omega)
  · rw [if_neg hn, decide_eq_false (by omega)]
theorem vsteps_j0 (v : List Dt) (hv : Vec v 63) (o : Int) (ho : 0 ≤ o ∧ o < 4294967296) (hc : cnt v o ≠ 1099511627776) (k : Nat) (hk : 2000 ≤ k) : concordlaw10_VectorSteps.j0 k o v false o (cnt v o + 1) = some true := by
  obtain ⟨k, rfl⟩ : ∃ j, k = j + 1 := ⟨k - 1, by omega⟩
  have hr := cnt_range hv.good o
  have hd : Vec [(⟨o, cnt v o + 1⟩ : Dt)] 1 := by
    refine ⟨⟨List.pairwise_singleton _ _, fun x hx => ?_⟩, Nat.le_refl _⟩
    rw [List.mem_singleton.1 hx]
    refine ⟨ho, ?_⟩
    dsimp only
    omega
  have hcd : ∀ q, cnt [(⟨o, cnt v o + 1⟩ : Dt)] q = if o = q then cnt v o + 1 else 0 := fun q => rfl
  have hm := hv.max hd
  have hcm : ∀ q, cnt (maxL v [(⟨o, cnt v o + 1⟩ : Dt)]) q = max (cnt v q) (if o = q then cnt v o + 1 else 0) := fun q => by rw [cnt_max hv.good hd.good, hcd]
  have hco : cnt (maxL v [(⟨o, cnt v o + 1⟩ : Dt)]) o = cnt v o + 1 := by rw [hcm, if_pos rfl]; omega
  have hb1 : belB v (maxL v [(⟨o, cnt v o + 1⟩ : Dt)]) = true := belB_true hv.good hm.good (fun q => by rw [hcm]; omega)
  have hb2 : belB (maxL v [(⟨o, cnt v o + 1⟩ : Dt)]) v = false := by
    cases h : belB (maxL v [(⟨o, cnt v o + 1⟩ : Dt)]) v with
    | false => rfl
    | true =>
      have h2 := (belB_iff hm.good hv.good).1 h o
      rw [hco] at h2
      omega
  have hcmp : vector_Compare.f k v (maxL v [(⟨o, cnt v o + 1⟩ : Dt)]) = some (-1) := by
    rw [vcmp_f (hv.ok (by omega)) (hm.ok (by omega)) k (by omega)]
    unfold cmpV ownBelow
    rw [hv.valid (by omega), hm.valid (by omega), hb1, hb2]
    rfl
  rw [concordlaw10_VectorSteps.j0, if_neg (by decide), hv.max_ok hd (by omega), Option.bind_some]
  dsimp only
  generalize maxL v [(⟨o, cnt v o + 1⟩ : Dt)] = M at *
  rw [if_pos rfl, vcov_v hm (by omega), Option.bind_some, hco, decide_eq_true (by omega), if_pos rfl, hcmp, Option.bind_some, if_pos rfl, hm.count (by omega), Option.bind_some, hco, if_pos rfl]
  by_cases h1 : cnt v o + 1 = 1
  · rw [if_pos h1]
  · have e : IntKind.u64.wrap (cnt v o + 1 - 1) = cnt v o := by rw [IntKind.wrap_u64]; omega
    rw [if_neg h1, e, vcov_v hv (by omega), Option.bind_some, decide_eq_true (by omega)]
theorem vsteps_f (l : List Dt) (hl : ∀ x ∈ l, (0 ≤ x.f0 ∧ x.f0 < 4294967296) ∧ 0 ≤ x.f1) (hll : l.length < 8800000000000) (o : Int) (ho : 0 ≤ o ∧ o < 4294967296) (k : Nat) (hk : fuel l.length + 3000 ≤ k) : concordlaw10_VectorSteps.f k l o = some true := by
  have hv := made_vec l hl 63
  have hmade : concordlaw10_made.f k l 63 = some (madeL 63 [] l) := made_f l (by omega) 63 (by omega) k (by omega)
  generalize madeL 63 [] l = v at *
  have hr := cnt_range hv.good o
  have e : IntKind.u64.wrap (cnt v o + 1) = cnt v o + 1 := by rw [IntKind.wrap_u64]; omega
  have hnext : vector_Next.f k v o = some (if cnt v o = 1099511627776 then (0, 0, 101) else (o, cnt v o + 1, 0)) := by
    unfold vector_Next.f
    rw [hv.validf (by omega) k (by omega), Option.bind_some, if_pos rfl, hv.count (by omega), Option.bind_some, e]
    by_cases h : cnt v o = 1099511627776
    · rw [if_pos (by omega), if_pos h]
    · rw [if_neg (by omega), if_neg h]
  unfold concordlaw10_VectorSteps.f
  rw [works_f k (by omega), Option.bind_some, if_pos rfl, hmade, Option.bind_some, hnext, Option.bind_some, hv.count (by omega), Option.bind_some]
  by_cases h : cnt v o = 1099511627776
  · rw [if_pos h, if_pos h]
    rfl
  · rw [if_neg h, if_neg h]
    dsimp only
    rw [if_pos rfl, if_pos rfl, Option.bind_some, if_pos e.symm, vcov_v hv (by omega), Option.bind_some, decide_eq_false (by omega)]
    exact vsteps_j0 v hv o ho h k (by omega)
theorem VectorSteps_walk (w : World) (A : Option Addr) (c : Nat) (a : List Dt) (hc : a.length ≤ c) (hA : Kd.C kD w A a.length a) (wa : ∀ x ∈ a, DotOk x) (la : a.length * 16 ≤ 140737488351232) (o : Int) (ho : (Lit.int .u32 o).wf = true) :
    Calls Try.prog 10 #[.slice A a.length c, .int .u32 o] w fun e w' => e = .returned (.bool true) ∧ Below w.heap.size w w' := by
  have ho2 : 0 ≤ o ∧ o < 4294967296 := by
    simp [Lit.wf, IntKind.min, IntKind.max, IntKind.signed, IntKind.bits] at ho
    omega
  refine (concordlaw10_VectorSteps.calls _ A c a o true w hA hc (vsteps_f a (fun x hx => ⟨(wa x hx).1, (wa x hx).2.1⟩) (by omega) o ho2 _ (Nat.le_refl _))).mono ?_
  rintro e w' ⟨rfl, h⟩
  exact ⟨rfl, h⟩
end Go.Proofs.Ytgcmmiihjiiemaa.My
