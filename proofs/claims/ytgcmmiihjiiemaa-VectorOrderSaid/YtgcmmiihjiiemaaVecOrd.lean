/- Vectors by their counts: Below is an order of them, Max the least above two. -/
import Derived.Test.YtgcmmiihjiiemaaVecWorks
namespace Go.Proofs.Ytgcmmiihjiiemaa.My
open Go.RowKit Go.Proofs.YtgcmmiihjiiemaaW.PrintWords Go.Proofs.YtgcmmiihjiiemaaW.PrintLast Go.Proofs.YtgcmmiihjiiemaaW.PrintMore Go.Proofs.Ytgcmmiihjiiemaa Go.Proofs.Ytgcmmiihjiiemaa.PVectorMax Go.Proofs.Ytgcmmiihjiiemaa.PF
set_option linter.unusedSimpArgs false
set_option linter.unusedVariables false
set_option maxRecDepth 100000
set_option maxHeartbeats 1600000
theorem Good.one {v : List Dt} (h : Good v) : ∀ x ∈ v, 1 ≤ x.f1 := fun x hx => (h.2 x hx).2.1
theorem cnt_mem : ∀ (v : List Dt) (x : Dt), Inc v → x ∈ v → cnt v x.f0 = x.f1
  | [], x, _, h => by cases h
  | y :: v, x, hi, h => by
    obtain ⟨h1, h2⟩ := List.pairwise_cons.1 hi
    rcases List.mem_cons.1 h with rfl | h
    · exact cnt_here _ _
    · have := h1 x h
      rw [cnt_skip y v x.f0 this]
      exact cnt_mem v x h2 h
theorem cnt_has {v : List Dt} (h : Good v) (o : Int) : Has v o ↔ 1 ≤ cnt v o := by
  refine ⟨cnt_pos v o h.one, fun hc => ?_⟩
  by_cases hh : Has v o
  · exact hh
  · rw [cnt_none v o hh] at hc
    omega
theorem cnt_range {v : List Dt} (h : Good v) (o : Int) : 0 ≤ cnt v o ∧ cnt v o ≤ 1099511627776 := by
  by_cases hh : Has v o
  · obtain ⟨z, hz, rfl⟩ := hh
    rw [cnt_mem v z h.1 hz]
    have := (h.2 z hz).2
    omega
  · rw [cnt_none v o hh]
    omega
theorem good_ext {a b : List Dt} (ha : Good a) (hb : Good b) (h : ∀ o, cnt a o = cnt b o) : a = b :=
  inc_eq (cnt a) a b ha.1 hb.1 (fun o => by rw [cnt_has ha, cnt_has hb, h]) (fun z hz => (cnt_mem a z ha.1 hz).symm) (fun z hz => by rw [h]; exact (cnt_mem b z hb.1 hz).symm)
theorem belB_iff {a b : List Dt} (ha : Good a) (hb : Good b) : belB a b = true ↔ ∀ o, cnt a o ≤ cnt b o := by
  unfold belB
  rw [List.all_eq_true]
  constructor
  · intro h o
    by_cases hh : Has a o
    · obtain ⟨z, hz, rfl⟩ := hh
      rw [cnt_mem a z ha.1 hz]
      exact of_decide_eq_true (h z hz)
    · rw [cnt_none a o hh]
      exact (cnt_range hb o).1
  · intro h x hx
    have := h x.f0
    rw [cnt_mem a x ha.1 hx] at this
    exact decide_eq_true this
theorem maxL_has {a b : List Dt} (ha : Good a) (hb : Good b) (o : Int) : Has (maxL a b) o ↔ Has a o ∨ Has b o := (max_props _ a b (Nat.le_refl _) ha.1 hb.1 ha.one hb.one).2.1 o
theorem mx_eq (x y : Int) : mx x y = max x y := by
  unfold mx
  split <;> omega
theorem cnt_max {a b : List Dt} (ha : Good a) (hb : Good b) (o : Int) : cnt (maxL a b) o = max (cnt a o) (cnt b o) := by
  obtain ⟨h1, h2, h3⟩ := max_props _ a b (Nat.le_refl _) ha.1 hb.1 ha.one hb.one
  by_cases hh : Has (maxL a b) o
  · obtain ⟨z, hz, rfl⟩ := hh
    rw [cnt_mem _ z h1 hz, h3 z hz, mx_eq]
  · have hn := hh
    rw [h2] at hn
    rw [cnt_none _ o hh, cnt_none a o (fun h => hn (.inl h)), cnt_none b o (fun h => hn (.inr h))]
    rfl
theorem good_max {a b : List Dt} (ha : Good a) (hb : Good b) : Good (maxL a b) := by
  obtain ⟨h1, h2, h3⟩ := max_props _ a b (Nat.le_refl _) ha.1 hb.1 ha.one hb.one
  refine ⟨h1, fun x hx => ?_⟩
  have hh : Has a x.f0 ∨ Has b x.f0 := (h2 x.f0).1 ⟨x, hx, rfl⟩
  have h4 := h3 x hx
  rw [mx_eq] at h4
  have ra := cnt_range ha x.f0
  have rb := cnt_range hb x.f0
  have hf : 0 ≤ x.f0 ∧ x.f0 < 4294967296 := by
    rcases hh with ⟨z, hz, e⟩ | ⟨z, hz, e⟩
    · rw [← e]; exact (ha.2 z hz).1
    · rw [← e]; exact (hb.2 z hz).1
  have hp : 1 ≤ x.f1 := by
    rw [h4]
    rcases hh with h | h
    · have := (cnt_has ha x.f0).1 h; omega
    · have := (cnt_has hb x.f0).1 h; omega
  exact ⟨hf, hp, by omega⟩
theorem walk_len : ∀ (n : Nat) (a b : List Dt), a.length + b.length ≤ n → (maxL a b).length ≤ a.length + b.length
  | _, [], [], _ => by show (0 : Nat) ≤ _; exact Nat.zero_le _
  | 0, x :: a, b, h => by simp at h
  | 0, [], y :: b, h => by simp at h
  | n + 1, x :: a, [], h => by
    rw [max_l]
    have := walk_len n a [] (by simp only [List.length_cons] at h ⊢; omega)
    simp only [List.length_cons] at this ⊢
    omega
  | n + 1, [], y :: b, h => by
    rw [max_r]
    have := walk_len n [] b (by simp only [List.length_cons] at h ⊢; omega)
    simp only [List.length_cons] at this ⊢
    omega
  | n + 1, x :: a, y :: b, h => by
    simp only [List.length_cons] at h
    by_cases h1 : x.f0 < y.f0
    · rw [max_lt _ _ _ _ h1]
      have := walk_len n a (y :: b) (by simp only [List.length_cons]; omega)
      simp only [List.length_cons] at this ⊢
      omega
    · by_cases h2 : y.f0 < x.f0
      · rw [max_gt _ _ _ _ h2]
        have := walk_len n (x :: a) b (by simp only [List.length_cons]; omega)
        simp only [List.length_cons] at this ⊢
        omega
      · rw [max_eq _ _ _ _ h1 h2]
        have := walk_len n a b (by omega)
        simp only [List.length_cons]
        omega
theorem maxL_len (a b : List Dt) : (maxL a b).length ≤ a.length + b.length := walk_len _ a b (Nat.le_refl _)
/-- A vector of at most m dots. -/
def Vec (v : List Dt) (m : Nat) : Prop := Good v ∧ v.length ≤ m
theorem Vec.mk {v : List Dt} {m : Nat} (h : Good v) (hl : v.length ≤ m) : Vec v m := ⟨h, hl⟩
theorem Vec.good {v : List Dt} {m : Nat} (h : Vec v m) : Good v := h.1
theorem Vec.len {v : List Dt} {m : Nat} (h : Vec v m) : v.length ≤ m := h.2
theorem Vec.valid {v : List Dt} {m : Nat} (h : Vec v m) (hm : m ≤ 64) : validB v = true := good_valid h.good (Nat.le_trans h.len hm)
theorem Vec.ok {v : List Dt} {m : Nat} (h : Vec v m) (hm : m ≤ 1000) : okD v = true := good_okD h.good (by have := h.len; omega)
theorem Vec.max {a b : List Dt} {m n : Nat} (ha : Vec a m) (hb : Vec b n) : Vec (maxL a b) (m + n) := ⟨good_max ha.good hb.good, by have := maxL_len a b; have := ha.len; have := hb.len; omega⟩
theorem Vec.mono {v : List Dt} {m n : Nat} (h : Vec v m) (hm : m ≤ n) : Vec v n := ⟨h.good, Nat.le_trans h.len hm⟩
theorem Vec.below {a b : List Dt} {m n : Nat} (ha : Vec a m) (hb : Vec b n) (hm : m ≤ 64) (hn : n ≤ 64) : vector_Below.f a b = some (belB a b) := by
  rw [vbel_f (ha.ok (by omega)) (hb.ok (by omega))]
  unfold ownBelow
  rw [ha.valid hm, hb.valid hn]
  rfl
theorem Vec.count {a : List Dt} {m : Nat} (ha : Vec a m) (hm : m ≤ 64) (o : Int) : vector_Count.f a o = some (cnt a o) := by
  unfold vector_Count.f ownCount
  rw [if_pos (okD_okL' (ha.ok (by omega))), if_pos (ha.valid hm)]
theorem Vec.maxf {a b : List Dt} {m n : Nat} (ha : Vec a m) (hb : Vec b n) (hm : m ≤ 64) (hn : n ≤ 64) : vector_Max.f a b = some (if 64 < (maxL a b).length then ([], 82) else (maxL a b, 0)) := by
  rw [vmax_f (ha.ok (by omega)) (hb.ok (by omega)), ha.valid hm, hb.valid hn]
  rfl
theorem Vec.max_ok {a b : List Dt} {m n : Nat} (ha : Vec a m) (hb : Vec b n) (hmn : m + n ≤ 64) : vector_Max.f a b = some (maxL a b, 0) := by
  rw [ha.maxf hb (by omega) (by omega), if_neg (by have := (ha.max hb).len; omega)]
theorem Vec.same {a b : List Dt} {m : Nat} (ha : Vec a m) (hm : m ≤ 1000) (k : Nat) (hk : 1002 ≤ k) : concordlaw10_same.f k a b = some (decide (a = b)) := dsame_f a b (by have := ha.len; omega) k (by have := ha.len; omega)
theorem Vec.validf {a : List Dt} {m : Nat} (ha : Vec a m) (hm : m ≤ 64) (k : Nat) (hk : 100 ≤ k) : vector_Valid.f k a = some true := by rw [vvalid_f (ha.ok (by omega)) k (by have := ha.len; omega), ha.valid hm]
theorem Vec.nil : Vec [] 0 := ⟨good_nil, Nat.le_refl _⟩
theorem made_vec (l : List Dt) (hl : ∀ x ∈ l, (0 ≤ x.f0 ∧ x.f0 < 4294967296) ∧ 0 ≤ x.f1) (m : Nat) : Vec (madeL m [] l) m := by
  obtain ⟨h1, h2⟩ := madeL_good m l [] hl good_nil (Nat.zero_le _)
  exact ⟨h1, h2⟩
theorem belB_true {a b : List Dt} (ha : Good a) (hb : Good b) (h : ∀ o, cnt a o ≤ cnt b o) : belB a b = true := (belB_iff ha hb).2 h
end Go.Proofs.Ytgcmmiihjiiemaa.My
