/- vector.Below: what it computes. -/
import Derived.Test.YtgcmmiihjiiemaaVecWalkB
import Derived.Test.YtgcmmiihjiiemaaVecBel
import Derived.Test.YtgcmmiihjiiemaaVecP2
namespace Go.Proofs.Ytgcmmiihjiiemaa.My
open Go.RowKit Go.Proofs.YtgcmmiihjiiemaaW.PrintWords Go.Proofs.YtgcmmiihjiiemaaW.PrintLast Go.Proofs.YtgcmmiihjiiemaaW.PrintMore Go.Proofs.Ytgcmmiihjiiemaa Go.Proofs.Ytgcmmiihjiiemaa.PVectorMax
set_option linter.unusedSimpArgs false
set_option linter.unusedVariables false
set_option maxRecDepth 100000
set_option maxHeartbeats 3200000
def bS (v : Bool) : Option Dt → Option Dt → Bool
  | some x, none => false
  | none, _ => v
  | some x, some y => if y.f1 < x.f1 then false else v
def belB (a b : List Dt) : Bool := a.all (fun x => decide (x.f1 ≤ cnt b x.f0))
theorem all_mem (p q : Dt → Bool) : ∀ (l : List Dt), (∀ z ∈ l, p z = q z) → l.all p = l.all q
  | [], _ => rfl
  | x :: l, h => by rw [List.all_cons, List.all_cons, h x List.mem_cons_self, all_mem p q l (fun z hz => h z (List.mem_cons_of_mem _ hz))]
theorem bel_walk : ∀ (n : Nat) (v : Bool) (a b : List Dt), a.length + b.length ≤ n → Inc a → Inc b → (∀ x ∈ a, 1 ≤ x.f1) → (∀ y ∈ b, 1 ≤ y.f1) → walkL bS v a b = (v && belB a b)
  | n, v, [], [], _, _, _, _, _ => by rw [walkL_nil]; simp [belB]
  | 0, v, x :: a, b, h, _, _, _, _ => by simp at h
  | 0, v, [], y :: b, h, _, _, _, _ => by simp at h
  | n + 1, v, x :: a, [], h, ha, hb, pa, pb => by
    have h1 := pa x List.mem_cons_self
    rw [walkL_l, bel_walk n _ a [] (by simp at h ⊢; omega) (List.Pairwise.of_cons ha) hb (fun z hz => pa z (List.mem_cons_of_mem _ hz)) pb]
    have e : decide (x.f1 ≤ cnt [] x.f0) = false := decide_eq_false (by show ¬ x.f1 ≤ 0; omega)
    simp only [bS, belB, List.all_cons, e, Bool.false_and, Bool.and_false]
  | n + 1, v, [], y :: b, h, ha, hb, pa, pb => by
    rw [walkL_r, bel_walk n _ [] b (by simp at h ⊢; omega) ha (List.Pairwise.of_cons hb) pa (fun z hz => pb z (List.mem_cons_of_mem _ hz))]
    rfl
  | n + 1, v, x :: a, y :: b, h, ha, hb, pa, pb => by
    have h1 := pa x List.mem_cons_self
    have ha2 := List.Pairwise.of_cons ha
    have hb2 := List.Pairwise.of_cons hb
    have pa2 : ∀ z ∈ a, 1 ≤ z.f1 := fun z hz => pa z (List.mem_cons_of_mem _ hz)
    have pb2 : ∀ z ∈ b, 1 ≤ z.f1 := fun z hz => pb z (List.mem_cons_of_mem _ hz)
    have la : ∀ z ∈ a, x.f0 < z.f0 := (List.pairwise_cons.1 ha).1
    by_cases hxy : x.f0 < y.f0
    · rw [walkL_lt _ _ x y a b hxy, bel_walk n _ a (y :: b) (by simp at h ⊢; omega) ha2 hb pa2 pb]
      have e0 : cnt (y :: b) x.f0 = 0 := cnt_none _ _ (inc_no y b hb x.f0 (by omega) |> fun h2 h3 => by
        rcases (has_cons y b x.f0).1 h3 with h4 | h4
        · omega
        · exact h2 h4)
      have e : decide (x.f1 ≤ cnt (y :: b) x.f0) = false := decide_eq_false (by rw [e0]; omega)
      simp only [bS, belB, List.all_cons, e, Bool.false_and, Bool.and_false]
    · by_cases hyx : y.f0 < x.f0
      · rw [walkL_gt _ _ x y a b hyx, bel_walk n _ (x :: a) b (by simp at h ⊢; omega) ha hb2 pa pb2]
        show (v && belB (x :: a) b) = (v && belB (x :: a) (y :: b))
        congr 1
        unfold belB
        apply all_mem
        intro z hz
        have hz2 : y.f0 < z.f0 := by
          rcases List.mem_cons.1 hz with rfl | hz
          · exact hyx
          · have := la z hz; omega
        rw [cnt_skip y b z.f0 hz2]
      · have he : x.f0 = y.f0 := by omega
        rw [walkL_eq _ _ x y a b hxy hyx, bel_walk n _ a b (by simp at h ⊢; omega) ha2 hb2 pa2 pb2]
        have e0 : cnt (y :: b) x.f0 = y.f1 := by rw [he]; exact cnt_here y b
        have e1 : belB a (y :: b) = belB a b := by
          unfold belB
          apply all_mem
          intro z hz
          have := la z hz
          rw [cnt_skip y b z.f0 (by omega)]
        have e2 : belB (x :: a) (y :: b) = (decide (x.f1 ≤ y.f1) && belB a b) := by
          show (decide (x.f1 ≤ cnt (y :: b) x.f0) && belB a (y :: b)) = _
          rw [e0, e1]
        rw [e2]
        show ((if y.f1 < x.f1 then false else v) && belB a b) = _
        by_cases hc : y.f1 < x.f1
        · rw [if_pos hc, decide_eq_false (by omega)]
          simp
        · rw [if_neg hc, decide_eq_true (by omega)]
          simp
def okL (l : List Dt) : Bool := decide (l.length ≤ 8800000000000) && l.all (fun x => decide (0 ≤ x.f1))
theorem okL_len {l : List Dt} (h : okL l = true) : l.length ≤ 8800000000000 := of_decide_eq_true (Bool.and_eq_true_iff.1 h).1
theorem okL_pos {l : List Dt} (h : okL l = true) : ∀ x ∈ l, 0 ≤ x.f1 := fun x hx => of_decide_eq_true (List.all_eq_true.1 (Bool.and_eq_true_iff.1 h).2 x hx)
def ownBelow (a b : List Dt) : Bool := validB a && validB b && belB a b
def vector_Below.f (l0 l1 : List S35) : Option Bool := if (okL l0 && okL l1) = true then some (ownBelow l0 l1) else none
def BlI (w0 : World) (g : Nat) (W : World) (v : Bool) (_ : Nat) : Prop := BS W w0.heap.size g v ∧ Below w0.heap.size w0 W
theorem BlI.below {w0 : World} {g : Nat} {W W' : World} {v : Bool} {n : Nat} (h : BlI w0 g W v n) (hb : Below W.heap.size W W') : BlI w0 g W' v n := ⟨⟨h.1.1, blk_below h.1.2 hb⟩, below_then h.2 (below_size h.2) hb⟩
theorem walkbelow (w0 w : World) (g : Nat) (A : Option Addr) (c : Nat) (a : List Dt) (hA : Kd.C kD w0 A a.length a) (hc : a.length ≤ c) (B : Option Addr) (d : Nat) (b : List Dt) (hB : Kd.C kD w0 B b.length b) (hd : b.length ≤ d) (hI : BlI w0 g w true (a.length + b.length)) :
    Calls Try.prog 50 #[.slice A a.length c, .slice B b.length d, .func (.func 51) #[] #[], .func (.func 62) #[] #[.pointer (some ⟨g, 0, none⟩)]] w fun e w' => e = .returned (.tuple #[]) ∧ BlI w0 g w' (walkL bS true a b) 0 := by
  refine walkbelow_calls (BlI w0 g) bS w0 (.pointer (some ⟨g, 0, none⟩)) (fun W st n h => h.2) (fun W W' st n h hb => h.below hb) (fun W st n h => h) ?_ ?_ ?_ w true A c a hA hc B d b hB hd hI
  · rintro W st n x bx ox ⟨h1, h2⟩ hx hbx
    exact blA g st h2 h1 bx ox x hx hbx
  · rintro W st n y by_ oy ⟨h1, h2⟩ hy hby
    exact blB g st h2 h1 by_ oy y hy hby
  · rintro W st n x bx ox y by_ oy ⟨h1, h2⟩ hx hbx hy hby
    show Calls _ _ _ _ fun e W' => e = .returned (.tuple #[]) ∧ BlI w0 g W' (if y.f1 < x.f1 then false else st) n
    by_cases h : y.f1 < x.f1
    · rw [if_pos h]
      exact blC g st h2 h1 bx ox x hx hbx by_ oy y hy hby h
    · rw [if_neg h]
      exact blD g st h2 h1 bx ox x hx hbx by_ oy y hy hby h
theorem vector_Below.calls (A0 : Option Addr) (c0 : Nat) (l0 : List S35) (A1 : Option Addr) (c1 : Nat) (l1 : List S35) (r : Bool) (w : World) (hr0 : Kd.C k35 w A0 l0.length l0) (hc0 : l0.length ≤ c0) (hr1 : Kd.C k35 w A1 l1.length l1) (hc1 : l1.length ≤ c1) (h : vector_Below.f l0 l1 = some r) :
    Calls Try.prog 42 #[.slice A0 l0.length c0, .slice A1 l1.length c1] w fun e w' => e = .returned (.bool r) ∧ Below w.heap.size w w' := by
  unfold vector_Below.f at h
  split at h
  case isFalse => cases h
  rename_i hok
  obtain rfl := Option.some.inj h
  clear h
  obtain ⟨ok0, ok1⟩ := Bool.and_eq_true_iff.1 hok
  have h0 := ownValid_f l0 (by have := okL_len ok0; omega) (okL_pos ok0) (l0.length + l1.length + 2) (by omega)
  have h1 := ownValid_f l1 (by have := okL_len ok1; omega) (okL_pos ok1) (l0.length + l1.length + 2) (by omega)
  unfold ownBelow
  cases va : validB l0 with
  | false =>
    rw [va] at h0
    go_enter Try.func42, Try.ntmps42
    go_wp2_with fail
    refine (vector_Valid.calls _ A0 c0 l0 false _ (Kd.C_below hr0 (Below.refl _ _)) hc0 h0).mono ?_
    rintro e_ w1 ⟨rfl, hb1⟩
    clear h0 h1 hok ok0 ok1 hr0 hr1
    have HB1 := Aside0.mk hb1
    clear hb1
    go_wp2_with fail
    go_ret
    exact ⟨rfl, HB1.out.alloc (below_size HB1.out) _⟩
  | true =>
    rw [va] at h0
    cases vb : validB l1 with
    | false =>
      rw [vb] at h1
      go_enter Try.func42, Try.ntmps42
      go_wp2_with fail
      refine (vector_Valid.calls _ A0 c0 l0 true _ hr0 hc0 h0).mono ?_
      rintro e_ w1 ⟨rfl, hb1⟩
      go_wp2_with fail
      refine (vector_Valid.calls _ A1 c1 l1 false _ (Kd.C_below hr1 hb1) hc1 h1).mono ?_
      rintro e_ w2 ⟨rfl, hb2⟩
      have HB1 := Aside0.mk (below_then hb1 (below_size hb1) hb2)
      clear h0 h1 hok ok0 ok1 hr0 hr1 hb1 hb2
      go_wp2_with fail
      go_ret
      exact ⟨rfl, HB1.out.alloc (below_size HB1.out) _⟩
    | true =>
      rw [vb] at h1
      have hw : walkL bS true l0 l1 = belB l0 l1 := by
        have p0 := valid_props l0 va
        have p1 := valid_props l1 vb
        rw [bel_walk _ true l0 l1 (Nat.le_refl _) p0.2.1 p1.2.1 p0.1 p1.1, Bool.true_and]
      show Calls _ _ _ _ fun e w' => e = .returned (.bool (belB l0 l1)) ∧ _
      rw [← hw]
      clear hw
      generalize hM : walkL bS true l0 l1 = M
      have HM := Aside0.mk hM
      clear hM
      have HA := Aside0.mk hr0
      have HB := Aside0.mk hr1
      go_enter Try.func42, Try.ntmps42
      go_wp2_with fail
      refine (vector_Valid.calls _ A0 c0 l0 true _ hr0 hc0 h0).mono ?_
      rintro e_ w1 ⟨rfl, hb1⟩
      go_wp2_with fail
      refine (vector_Valid.calls _ A1 c1 l1 true _ (Kd.C_below hr1 hb1) hc1 h1).mono ?_
      rintro e_ w2 ⟨rfl, hb2⟩
      have hb := below_then hb1 (below_size hb1) hb2
      clear h0 h1 hok ok0 ok1 hr0 hr1 hb1 hb2
      go_wp2_with fail
      have HI : Aside0 (BlI w w2.heap.size (w2.alloc (.cells #[.bool true] 4)) true (l0.length + l1.length)) := ⟨⟨below_size hb, by show (w2.heap.push _)[w2.heap.size]? = _; rw [Array.getElem?_push_size]⟩, hb.alloc (below_size hb) _⟩
      clear hb
      generalize w2.alloc (.cells #[.bool true] 4) = w3 at HI ⊢
      generalize w2.heap.size = g at HI ⊢
      refine (walkbelow w w3 g A0 c0 l0 HA.out hc0 A1 c1 l1 HB.out hc1 HI.out).mono ?_
      rintro e_ w4 ⟨rfl, ⟨hg, hblk⟩, hb4⟩
      rw [HM.out] at hblk
      have q0 : w4.cell? ⟨g, 0, none⟩ = some (.bool M) := (blk_cell hblk 0).trans rfl
      have HB4 := Aside0.mk hb4
      clear hblk hb4 HI
      go_wp2_with fail
      go_ret
      exact ⟨rfl, HB4.out⟩
end Go.Proofs.Ytgcmmiihjiiemaa.My
