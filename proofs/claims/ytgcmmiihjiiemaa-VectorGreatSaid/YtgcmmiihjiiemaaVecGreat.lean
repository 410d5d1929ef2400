/- VectorGreat. -/
import Derived.Test.YtgcmmiihjiiemaaVecOrd
import Derived.Test.YtgcmmiihjiiemaaPFy5
import Derived.Test.YtgcmmiihjiiemaaVecDots
namespace Go.Proofs.Ytgcmmiihjiiemaa.My
open Go.RowKit Go.Proofs.YtgcmmiihjiiemaaW.PrintWords Go.Proofs.YtgcmmiihjiiemaaW.PrintLast Go.Proofs.YtgcmmiihjiiemaaW.PrintMore Go.Proofs.Ytgcmmiihjiiemaa Go.Proofs.Ytgcmmiihjiiemaa.PVectorMax Go.Proofs.Ytgcmmiihjiiemaa.PF
set_option linter.unusedSimpArgs false
set_option linter.unusedVariables false
set_option maxRecDepth 100000
set_option maxHeartbeats 1600000
theorem madeL_has (m : Nat) (o : Int) : ∀ (l v : List Dt), v.length + l.length ≤ m → (Has (madeL m v l) o ↔ Has v o ∨ Has l o)
  | [], v, _ => by
    rw [madeL]
    constructor
    · exact .inl
    · rintro (h | ⟨z, hz, _⟩)
      · exact h
      · cases hz
  | x :: l, v, h => by
    rw [List.length_cons] at h
    have h1 := insM_len (dotOf x) v
    rw [madeL, if_pos (by omega), madeL_has m o l _ (by omega), insM_has, has_cons]
    show (x.f0 = o ∨ Has v o) ∨ Has l o ↔ _
    constructor
    · rintro ((h | h) | h)
      · exact .inr (.inl h)
      · exact .inl h
      · exact .inr (.inr h)
    · rintro (h | h | h)
      · exact .inl (.inr h)
      · exact .inl (.inl h)
      · exact .inr h
theorem has_app (a b : List Dt) (o : Int) : Has (a ++ b) o ↔ Has a o ∨ Has b o := by
  constructor
  · rintro ⟨z, hz, e⟩
    rcases List.mem_append.1 hz with h | h
    · exact .inl ⟨z, h, e⟩
    · exact .inr ⟨z, h, e⟩
  · rintro (⟨z, h, e⟩ | ⟨z, h, e⟩)
    · exact ⟨z, List.mem_append_left _ h, e⟩
    · exact ⟨z, List.mem_append_right _ h, e⟩
def bare (x : Dt) : Dt := ⟨x.f0, 0⟩
theorem has_bare (l : List Dt) (o : Int) : Has (l.map bare) o ↔ Has l o := by
  constructor
  · rintro ⟨z, hz, e⟩
    obtain ⟨y, hy, rfl⟩ := List.mem_map.1 hz
    exact ⟨y, hy, e⟩
  · rintro ⟨z, hz, e⟩
    exact ⟨bare z, List.mem_map_of_mem hz, e⟩
theorem inc_bare {l : List Dt} (h : Inc l) : Inc (l.map bare) := List.pairwise_map.2 h
theorem inc_len {l m : List Dt} (hl : Inc l) (hm : Inc m) (h : ∀ o, Has l o ↔ Has m o) : l.length = m.length := by
  have e := inc_eq (fun _ => 0) (l.map bare) (m.map bare) (inc_bare hl) (inc_bare hm) (fun o => by rw [has_bare, has_bare, h]) (fun z hz => by obtain ⟨y, _, rfl⟩ := List.mem_map.1 hz; rfl) (fun z hz => by obtain ⟨y, _, rfl⟩ := List.mem_map.1 hz; rfl)
  have := congrArg List.length e
  rwa [List.length_map, List.length_map] at this
theorem max_assoc {a b c : List Dt} (ha : Good a) (hb : Good b) (hc : Good c) : maxL a (maxL b c) = maxL (maxL a b) c :=
  good_ext (good_max ha (good_max hb hc)) (good_max (good_max ha hb) hc) (fun o => by rw [cnt_max ha (good_max hb hc), cnt_max hb hc, cnt_max (good_max ha hb) hc, cnt_max ha hb]; omega)
theorem vgreat_j2 (a b c u : List Dt) (ha : Vec a 64) (hb : Vec b 64) (hc : Vec c 64) (hM : Vec (maxL a b) 64) (hlen : (maxL a b).length = u.length) (hp : (maxL (maxL a b) c).length ≤ 64) (k : Nat) (hk : 1500 ≤ k) :
    concordlaw10_VectorGreat.j2 k a u (maxL a b) (maxL (maxL a b) c) (if 64 < (maxL b c).length then (([] : List Dt), (82 : Int)) else (maxL b c, 0)).1 ((if 64 < (maxL b c).length then (([] : List Dt), (82 : Int)) else (maxL b c, 0)).2 != 0) = some true := by
  obtain ⟨k, rfl⟩ : ∃ j, k = j + 1 := ⟨k - 1, by omega⟩
  have hl : ((maxL a b).length : Int) = (u.length : Int) := by rw [hlen]
  rw [concordlaw10_VectorGreat.j2]
  by_cases hq : 64 < (maxL b c).length
  · rw [if_pos hq, if_pos (by decide), hl]
    simp
  · have hQ : Vec (maxL b c) 64 := Vec.mk (good_max hb.good hc.good) (by omega)
    rw [if_neg hq]
    dsimp only
    rw [if_neg (show ¬ (((0 : Int) != 0) = true) by decide), ha.maxf hQ (by omega) (by omega), Option.bind_some, max_assoc ha.good hb.good hc.good, if_neg (show ¬ (64 < (maxL (maxL a b) c).length) by omega)]
    dsimp only
    have hP : Vec (maxL (maxL a b) c) 64 := Vec.mk (good_max hM.good hc.good) hp
    rw [if_pos hl, if_pos rfl, hP.same (by omega) k (by omega), decide_eq_true rfl]
    rfl
theorem vgreat_l0 (a b c u : List Dt) (ha : Vec a 64) (hb : Vec b 64) (hc : Vec c 64) (hM : Vec (maxL a b) 64) (hlen : (maxL a b).length = u.length) (hu : ∀ o, Has u o ↔ Has (maxL a b) o) : ∀ (n i k : Nat), i + n = u.length → n + 2000 ≤ k →
    concordlaw10_VectorGreat.l0 k a b c u (maxL a b) (i : Int) = some true
  | 0, i, k, h, hk => by
    obtain ⟨k, rfl⟩ : ∃ j, k = j + 1 := ⟨k - 1, by omega⟩
    rw [concordlaw10_VectorGreat.l0, if_neg (by omega), hM.maxf hc (by omega) (by omega), Option.bind_some, hb.maxf hc (by omega) (by omega), Option.bind_some]
    by_cases hp : 64 < (maxL (maxL a b) c).length
    · obtain ⟨k, rfl⟩ : ∃ j, k = j + 1 := ⟨k - 1, by omega⟩
      have hl : ((maxL a b).length : Int) = (u.length : Int) := by rw [hlen]
      rw [if_pos hp]
      dsimp only
      rw [if_neg (by decide), concordlaw10_VectorGreat.j2, if_pos rfl, hl]
      simp
    · rw [if_neg hp]
      dsimp only
      rw [if_pos rfl]
      exact vgreat_j2 a b c u ha hb hc hM hlen (by omega) k (by omega)
  | n + 1, i, k, h, hk => by
    obtain ⟨k, rfl⟩ : ∃ j, k = j + 1 := ⟨k - 1, by omega⟩
    have hi : i < u.length := by omega
    have hul : u.length ≤ 64 := by rw [← hlen]; exact hM.len
    have h1 : 1 ≤ cnt (maxL a b) (u[i]).f0 := (cnt_has hM.good _).1 ((hu _).1 ⟨u[i], List.getElem_mem hi, rfl⟩)
    have h2 := cnt_max ha.good hb.good (u[i]).f0
    rw [concordlaw10_VectorGreat.l0, if_pos (by omega), if_pos (by omega), rd_at u i hi, hM.count (by omega), Option.bind_some, ha.count (by omega), Option.bind_some, hb.count (by omega), Option.bind_some, mx_eq, if_pos h2, if_neg (by omega), wr_succ i (by omega)]
    exact vgreat_l0 a b c u ha hb hc hM hlen hu n (i + 1) k (by omega) (by omega)
theorem vgreat_f (l1 l2 l3 : List Dt) (h1 : ∀ x ∈ l1, (0 ≤ x.f0 ∧ x.f0 < 4294967296) ∧ 0 ≤ x.f1) (h2 : ∀ x ∈ l2, (0 ≤ x.f0 ∧ x.f0 < 4294967296) ∧ 0 ≤ x.f1) (h3 : ∀ x ∈ l3, (0 ≤ x.f0 ∧ x.f0 < 4294967296) ∧ 0 ≤ x.f1) (hl1 : l1.length < 8800000000000) (hl2 : l2.length < 8800000000000) (hl3 : l3.length < 8800000000000) (k : Nat) (hk : fuel l1.length + fuel l2.length + fuel l3.length + 100000 ≤ k) : concordlaw10_VectorGreat.f k l1 l2 l3 = some true := by
  have ha := made_vec l1 h1 64
  have hb := made_vec l2 h2 64
  have hc := made_vec l3 h3 64
  have ma : concordlaw10_made.f k l1 64 = some (madeL 64 [] l1) := made_f l1 (by omega) 64 (by omega) k (by omega)
  have mb : concordlaw10_made.f k l2 64 = some (madeL 64 [] l2) := made_f l2 (by omega) 64 (by omega) k (by omega)
  have mc : concordlaw10_made.f k l3 64 = some (madeL 64 [] l3) := made_f l3 (by omega) 64 (by omega) k (by omega)
  generalize madeL 64 [] l1 = a at *
  generalize madeL 64 [] l2 = b at *
  generalize madeL 64 [] l3 = c at *
  have hal := ha.len
  have hbl := hb.len
  have hab : ∀ x ∈ a ++ b, (0 ≤ x.f0 ∧ x.f0 < 4294967296) ∧ 0 ≤ x.f1 := by
    intro x hx
    rcases List.mem_append.1 hx with h | h
    · have := ha.good.2 x h; exact ⟨this.1, by omega⟩
    · have := hb.good.2 x h; exact ⟨this.1, by omega⟩
  have hlab : (a ++ b).length = a.length + b.length := List.length_append
  have hu := made_vec (a ++ b) hab 128
  have hf : fuel (a ++ b).length ≤ 60000 := by unfold fuel; omega
  have mu : concordlaw10_made.f k (a ++ b) 128 = some (madeL 128 [] (a ++ b)) := made_f (a ++ b) (by omega) 128 (by omega) k (by omega)
  have hh : ∀ o, Has (madeL 128 [] (a ++ b)) o ↔ Has (maxL a b) o := by
    intro o
    rw [madeL_has 128 o (a ++ b) [] (by rw [List.length_nil]; omega), has_app, maxL_has ha.good hb.good]
    constructor
    · rintro (⟨z, hz, _⟩ | h)
      · cases hz
      · exact h
    · exact .inr
  generalize madeL 128 [] (a ++ b) = u at *
  have hMg := good_max ha.good hb.good
  have hlen : (maxL a b).length = u.length := inc_len hMg.1 hu.good.1 (fun o => (hh o).symm)
  unfold concordlaw10_VectorGreat.f
  rw [works_f k (by omega), Option.bind_some, if_pos rfl, ma, Option.bind_some, mb, Option.bind_some, mc, Option.bind_some, if_pos (by rw [List.length_nil]; omega), List.nil_append, Option.bind_some, if_pos (by omega), mu, Option.bind_some, ha.maxf hb (by omega) (by omega), Option.bind_some]
  by_cases hM : 64 < (maxL a b).length
  · obtain ⟨k, rfl⟩ : ∃ j, k = j + 1 := ⟨k - 1, by omega⟩
    rw [if_pos hM]
    dsimp only
    rw [decide_eq_false (show ¬ ((u.length : Int) ≤ 64) by omega), if_neg (by decide), if_neg (by decide), if_pos rfl, concordlaw10_VectorGreat.j0, if_neg (by decide), if_neg (by decide)]
  · obtain ⟨k, rfl⟩ : ∃ j, k = j + 1 := ⟨k - 1, by omega⟩
    rw [if_neg hM]
    dsimp only
    rw [decide_eq_true (show (u.length : Int) ≤ 64 by omega), if_neg (by decide), if_pos rfl, concordlaw10_VectorGreat.j0, if_neg (by decide), if_pos rfl]
    exact vgreat_l0 a b c u ha hb hc (Vec.mk hMg (by omega)) hlen hh u.length 0 k (by omega) (by omega)
theorem VectorGreat_walk (w : World) (A : Option Addr) (ca : Nat) (a : List Dt) (hca : a.length ≤ ca) (hA : Kd.C kD w A a.length a) (wa : ∀ x ∈ a, DotOk x) (la : a.length * 16 ≤ 140737488351232) (B : Option Addr) (cb : Nat) (b : List Dt) (hcb : b.length ≤ cb) (hB : Kd.C kD w B b.length b) (wb : ∀ x ∈ b, DotOk x) (lb : b.length * 16 ≤ 140737488351232) (C : Option Addr) (cc : Nat) (c : List Dt) (hcc : c.length ≤ cc) (hC : Kd.C kD w C c.length c) (wc : ∀ x ∈ c, DotOk x) (lc : c.length * 16 ≤ 140737488351232) :
    Calls Try.prog 9 #[.slice A a.length ca, .slice B b.length cb, .slice C c.length cc] w fun e w' => e = .returned (.bool true) ∧ Below w.heap.size w w' := by
  refine (concordlaw10_VectorGreat.calls _ A ca a B cb b C cc c true w hA hca hB hcb hC hcc (vgreat_f a b c (fun x hx => ⟨(wa x hx).1, (wa x hx).2.1⟩) (fun x hx => ⟨(wb x hx).1, (wb x hx).2.1⟩) (fun x hx => ⟨(wc x hx).1, (wc x hx).2.1⟩) (by omega) (by omega) (by omega) _ (Nat.le_refl _))).mono ?_
  rintro e w' ⟨rfl, h⟩
  exact ⟨rfl, h⟩
end Go.Proofs.Ytgcmmiihjiiemaa.My
