/- VectorOrder. -/
import Derived.Test.YtgcmmiihjiiemaaVecOrd
import Derived.Test.YtgcmmiihjiiemaaPFy4
import Derived.Test.YtgcmmiihjiiemaaVecDots
namespace Go.Proofs.Ytgcmmiihjiiemaa.My
open Go.RowKit Go.Proofs.YtgcmmiihjiiemaaW.PrintWords Go.Proofs.YtgcmmiihjiiemaaW.PrintLast Go.Proofs.YtgcmmiihjiiemaaW.PrintMore Go.Proofs.Ytgcmmiihjiiemaa Go.Proofs.Ytgcmmiihjiiemaa.PVectorMax Go.Proofs.Ytgcmmiihjiiemaa.PF
set_option linter.unusedSimpArgs false
set_option linter.unusedVariables false
set_option maxRecDepth 100000
set_option maxHeartbeats 1600000
theorem vorder_j0 (k : Nat) (a b c m : List Dt) (ac bc : Bool) (h1 : vector_Below.f a c = some ac) (h2 : vector_Below.f b c = some bc) (h3 : vector_Below.f m c = some (ac && bc)) : concordlaw10_VectorOrder.j0 (k + 1) a b c m false = concordlaw10_VectorOrder.j1 k a b c m false := by
  rw [concordlaw10_VectorOrder.j0, if_neg (by decide)]
  simp only [h1, h2, h3, Option.bind_some]
  cases ac <;> cases bc <;> rfl
theorem vorder_j1 (k : Nat) (a b c m : List Dt) (ab ba ac bc : Bool) (h1 : vector_Below.f a c = some ac) (h2 : vector_Below.f b c = some bc) (h3 : vector_Below.f a b = some ab) (h4 : vector_Below.f b a = some ba) (h5 : concordlaw10_same.f k a b = some (ab && ba)) (h6 : concordlaw10_same.f k m b = some ab) (ht : ab = true → bc = true → ac = true) : concordlaw10_VectorOrder.j1 (k + 1) a b c m false = concordlaw10_VectorOrder.j2 k a b c m false := by
  rw [concordlaw10_VectorOrder.j1, if_neg (by decide)]
  simp only [h1, h2, h3, h4, h5, h6, Option.bind_some]
  cases ab <;> cases bc <;> cases ac <;> cases ba <;> first | rfl | exact absurd (ht rfl rfl) (by decide)
theorem max_assoc' {a b c : List Dt} (ha : Good a) (hb : Good b) (hc : Good c) : maxL a (maxL b c) = maxL (maxL a b) c :=
  good_ext (good_max ha (good_max hb hc)) (good_max (good_max ha hb) hc) (fun o => by rw [cnt_max ha (good_max hb hc), cnt_max hb hc, cnt_max (good_max ha hb) hc, cnt_max ha hb]; omega)
theorem vorder_j2 (k : Nat) (hk : 2000 ≤ k) (a b c : List Dt) (ha : Vec a 21) (hb : Vec b 21) (hc : Vec c 21) : concordlaw10_VectorOrder.j2 (k + 1) a b c (maxL a b) false = some true := by
  have hm := ha.max hb
  have hq := hb.max hc
  have hp := hm.max hc
  have e1 : maxL a (maxL b c) = maxL (maxL a b) c := max_assoc' ha.good hb.good hc.good
  have e2 : maxL a a = a := good_ext (good_max ha.good ha.good) ha.good (fun o => by rw [cnt_max ha.good ha.good]; omega)
  have e3 : maxL [] a = a := good_ext (good_max good_nil ha.good) ha.good (fun o => by
    rw [cnt_max good_nil ha.good]
    have := (cnt_range ha.good o).1
    show max 0 _ = _
    omega)
  rw [concordlaw10_VectorOrder.j2, if_neg (by decide), hm.max_ok hc (by omega), Option.bind_some, hb.max_ok hc (by omega), Option.bind_some]
  dsimp only
  rw [ha.max_ok hq (by omega), Option.bind_some, ha.max_ok ha (by omega), Option.bind_some, Vec.nil.max_ok ha (by omega), Option.bind_some]
  dsimp only
  rw [if_pos rfl, if_pos rfl, if_pos rfl, e1, hp.same (by omega) k (by omega), decide_eq_true rfl, Option.bind_some, if_pos rfl, e2, ha.same (by omega) k (by omega), decide_eq_true rfl, Option.bind_some, if_pos rfl, e3, ha.same (by omega) k (by omega), decide_eq_true rfl, Option.bind_some]
theorem vorder_f (l1 l2 l3 : List Dt) (h1 : ∀ x ∈ l1, (0 ≤ x.f0 ∧ x.f0 < 4294967296) ∧ 0 ≤ x.f1) (h2 : ∀ x ∈ l2, (0 ≤ x.f0 ∧ x.f0 < 4294967296) ∧ 0 ≤ x.f1) (h3 : ∀ x ∈ l3, (0 ≤ x.f0 ∧ x.f0 < 4294967296) ∧ 0 ≤ x.f1) (hl1 : l1.length < 8800000000000) (hl2 : l2.length < 8800000000000) (hl3 : l3.length < 8800000000000) (k : Nat) (hk : fuel l1.length + fuel l2.length + fuel l3.length + 100000 ≤ k) : concordlaw10_VectorOrder.f k l1 l2 l3 = some true := by
  have ha := made_vec l1 h1 21
  have hb := made_vec l2 h2 21
  have hc := made_vec l3 h3 21
  have ma : concordlaw10_made.f k l1 21 = some (madeL 21 [] l1) := made_f l1 (by omega) 21 (by omega) k (by omega)
  have mb : concordlaw10_made.f k l2 21 = some (madeL 21 [] l2) := made_f l2 (by omega) 21 (by omega) k (by omega)
  have mc : concordlaw10_made.f k l3 21 = some (madeL 21 [] l3) := made_f l3 (by omega) 21 (by omega) k (by omega)
  generalize madeL 21 [] l1 = a at *
  generalize madeL 21 [] l2 = b at *
  generalize madeL 21 [] l3 = c at *
  have hm := ha.max hb
  have hn : maxL b a = maxL a b := good_ext (good_max hb.good ha.good) hm.good (fun o => by rw [cnt_max hb.good ha.good, cnt_max ha.good hb.good]; omega)
  have b1 : belB a (maxL a b) = true := belB_true ha.good hm.good (fun o => by rw [cnt_max ha.good hb.good]; omega)
  have b2 : belB b (maxL a b) = true := belB_true hb.good hm.good (fun o => by rw [cnt_max ha.good hb.good]; omega)
  have b3 : belB a a = true := belB_true ha.good ha.good (fun o => Int.le_refl _)
  have b4 : belB (maxL a b) c = (belB a c && belB b c) := by
    apply Bool.eq_iff_iff.2
    rw [Bool.and_eq_true, belB_iff hm.good hc.good, belB_iff ha.good hc.good, belB_iff hb.good hc.good]
    constructor
    · intro h
      exact ⟨fun o => by have := h o; rw [cnt_max ha.good hb.good] at this; omega, fun o => by have := h o; rw [cnt_max ha.good hb.good] at this; omega⟩
    · rintro ⟨h1, h2⟩ o
      have := h1 o
      have := h2 o
      rw [cnt_max ha.good hb.good]
      omega
  have b5 : decide (a = b) = (belB a b && belB b a) := by
    apply Bool.eq_iff_iff.2
    rw [Bool.and_eq_true, belB_iff ha.good hb.good, belB_iff hb.good ha.good, decide_eq_true_eq]
    constructor
    · rintro rfl
      exact ⟨fun o => Int.le_refl _, fun o => Int.le_refl _⟩
    · rintro ⟨h1, h2⟩
      exact good_ext ha.good hb.good (fun o => Int.le_antisymm (h1 o) (h2 o))
  have b6 : decide (maxL a b = b) = belB a b := by
    apply Bool.eq_iff_iff.2
    rw [decide_eq_true_eq, belB_iff ha.good hb.good]
    constructor
    · intro h o
      have := cnt_max ha.good hb.good o
      rw [h] at this
      omega
    · intro h
      exact good_ext hm.good hb.good (fun o => by have := h o; rw [cnt_max ha.good hb.good]; omega)
  have b7 : belB a b = true → belB b c = true → belB a c = true := by
    intro h1 h2
    rw [belB_iff ha.good hb.good] at h1
    rw [belB_iff hb.good hc.good] at h2
    rw [belB_iff ha.good hc.good]
    exact fun o => Int.le_trans (h1 o) (h2 o)
  obtain ⟨k, rfl⟩ : ∃ j, k = j + 3 := ⟨k - 3, by omega⟩
  unfold concordlaw10_VectorOrder.f
  rw [works_f _ (by omega), Option.bind_some, if_pos rfl, ma, Option.bind_some, mb, Option.bind_some, mc, Option.bind_some, ha.max_ok hb (by omega), Option.bind_some, hb.max_ok ha (by omega), Option.bind_some]
  dsimp only
  rw [if_pos rfl, if_pos rfl, hn, hm.same (by omega) _ (by omega), decide_eq_true rfl, Option.bind_some, if_pos rfl, hm.validf (by omega) _ (by omega), Option.bind_some, if_pos rfl, ha.below hm (by omega) (by omega), b1, Option.bind_some, if_pos rfl, hb.below hm (by omega) (by omega), b2, Option.bind_some, if_pos rfl, ha.below ha (by omega) (by omega), b3, Option.bind_some]
  show concordlaw10_VectorOrder.j0 (k + 3) a b c (maxL a b) false = _
  rw [vorder_j0 (k + 2) a b c (maxL a b) (belB a c) (belB b c) (ha.below hc (by omega) (by omega)) (hb.below hc (by omega) (by omega)) (by rw [hm.below hc (by omega) (by omega), b4]),
    vorder_j1 (k + 1) a b c (maxL a b) (belB a b) (belB b a) (belB a c) (belB b c) (ha.below hc (by omega) (by omega)) (hb.below hc (by omega) (by omega)) (ha.below hb (by omega) (by omega)) (hb.below ha (by omega) (by omega)) (by rw [ha.same (by omega) _ (by omega), b5]) (by rw [hm.same (by omega) _ (by omega), b6]) b7]
  exact vorder_j2 k (by omega) a b c ha hb hc
theorem VectorOrder_walk (w : World) (A : Option Addr) (ca : Nat) (a : List Dt) (hca : a.length ≤ ca) (hA : Kd.C kD w A a.length a) (wa : ∀ x ∈ a, DotOk x) (la : a.length * 16 ≤ 140737488351232) (B : Option Addr) (cb : Nat) (b : List Dt) (hcb : b.length ≤ cb) (hB : Kd.C kD w B b.length b) (wb : ∀ x ∈ b, DotOk x) (lb : b.length * 16 ≤ 140737488351232) (C : Option Addr) (cc : Nat) (c : List Dt) (hcc : c.length ≤ cc) (hC : Kd.C kD w C c.length c) (wc : ∀ x ∈ c, DotOk x) (lc : c.length * 16 ≤ 140737488351232) :
    Calls Try.prog 7 #[.slice A a.length ca, .slice B b.length cb, .slice C c.length cc] w fun e w' => e = .returned (.bool true) ∧ Below w.heap.size w w' := by
  refine (concordlaw10_VectorOrder.calls _ A ca a B cb b C cc c true w hA hca hB hcb hC hcc (vorder_f a b c (fun x hx => ⟨(wa x hx).1, (wa x hx).2.1⟩) (fun x hx => ⟨(wb x hx).1, (wb x hx).2.1⟩) (fun x hx => ⟨(wc x hx).1, (wc x hx).2.1⟩) (by omega) (by omega) (by omega) _ (Nat.le_refl _))).mono ?_
  rintro e w' ⟨rfl, h⟩
  exact ⟨rfl, h⟩
end Go.Proofs.Ytgcmmiihjiiemaa.My
