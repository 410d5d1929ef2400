-- written by wip/mp.py of this claim's author, over the print of this machine
import Derived.Test.YtgcmmiihjiiemaaSq
import Derived.Test.YtgcmmiihjiiemaaPVectorMaxx0
import Derived.Test.YtgcmmiihjiiemaaPVectorMaxx1
import Derived.Test.YtgcmmiihjiiemaaPVectorMaxx2
import Derived.Test.YtgcmmiihjiiemaaVecMxF
import Derived.Test.YtgcmmiihjiiemaaPFy1
namespace Go.Proofs.Ytgcmmiihjiiemaa.PF
open Go.Proofs.Ytgcmmiihjiiemaa.PVectorMax
open Go.Proofs.Ytgcmmiihjiiemaa.My
open Go.RowKit Go.Proofs.YtgcmmiihjiiemaaW.PrintWords Go.Proofs.YtgcmmiihjiiemaaW.PrintLast Go.Proofs.YtgcmmiihjiiemaaW.PrintMore
attribute [local go_sem] max2_int min2_int max_two min_two max_three min_three max_four min_four   -- for this text's walks alone
set_option linter.unusedVariables false
set_option linter.unusedSimpArgs false
attribute [local go_sem high] eqA35
/-! ### concordlaw10_same: function 40 -/
def concordlaw10_same.l0 : Nat → List (S35) → List (S35) → Int → Option (Bool)
 | 0, _, _, _ => none
 | k + 1, x0, x1, x5 => if x5 < (x0.length : Int) then (if 0 ≤ x5 then (if x5 < (x1.length : Int) then (if (!(((rd_T35 x0 x5).f0) == ((rd_T35 x1 x5).f0)) || (!(((rd_T35 x0 x5).f1) == ((rd_T35 x1 x5).f1)))) = true then (some false) else (concordlaw10_same.l0 k x0 x1 (wrap64 (x5 + 1)))) else (none)) else (none)) else (some true)
def concordlaw10_same.f (k : Nat) (l0 : List (S35)) (l1 : List (S35)) : Option (Bool) := if (l0.length : Int) = (l1.length : Int) then (concordlaw10_same.l0 k l0 l1 0) else (some false)
theorem concordlaw10_same.mono_l : ∀ k, (∀ y0 y1 y2, LeO (concordlaw10_same.l0 k y0 y1 y2) (concordlaw10_same.l0 (k + 1) y0 y1 y2))
 | 0 => fun _ _ _ r h => by simp [concordlaw10_same.l0] at h
 | k + 1 => by
  have ih0 := concordlaw10_same.mono_l k
  ·intro y0 y1 y2
   unfold concordlaw10_same.l0
   repeat' first
   | (with_reducible exact ih0 _ _ _)
   | (with_reducible exact LeO.refl _)
   | (with_reducible exact LeO.none _)
   | (with_reducible refine LeO.ite ?_ ?_)
   | (with_reducible refine LeO.bind ?_ (fun _ => ?_))
   | exact ih0 _ _ _
   | exact LeO.none _
   | refine LeO.ite ?_ ?_
   | refine LeO.bind ?_ (fun _ => ?_)
theorem concordlaw10_same.mono : ∀ a0 a1 k, LeO (concordlaw10_same.f k a0 a1) (concordlaw10_same.f (k + 1) a0 a1) := by
 intro a0 a1 k
 have ih0 := concordlaw10_same.mono_l k
 unfold concordlaw10_same.f
 repeat' first
   | (with_reducible exact ih0 _ _ _)
   | (with_reducible exact LeO.refl _)
   | (with_reducible exact LeO.none _)
   | (with_reducible refine LeO.ite ?_ ?_)
   | (with_reducible refine LeO.bind ?_ (fun _ => ?_))
   | exact ih0 _ _ _
   | exact LeO.none _
   | refine LeO.ite ?_ ?_
   | refine LeO.bind ?_ (fun _ => ?_)
set_option maxHeartbeats 8000000 in
set_option maxRecDepth 100000 in
theorem concordlaw10_same.calls (k : Nat) (A0 : Option Addr) (c0 : Nat) (l0 : List (S35)) (A1 : Option Addr) (c1 : Nat) (l1 : List (S35)) (r : Bool) (w : World) (hr0 : Kd.C k35 w A0 l0.length l0) (hc0 : l0.length ≤ c0) (hr1 : Kd.C k35 w A1 l1.length l1) (hc1 : l1.length ≤ c1) (h : concordlaw10_same.f k l0 l1 = some r) :
  Calls Try.prog 40 #[.slice A0 l0.length c0, .slice A1 l1.length c1] w fun e w' => e = .returned (.bool r) ∧ Drawn0 w w' := by
 have hu35 := Try.underlying35
 have HR0 := Aside0.mk hr0
 have HC0 := Aside0.mk hc0
 clear hr0 hc0
 have HR1 := Aside0.mk hr1
 have HC1 := Aside0.mk hc1
 clear hr1 hc1
 have H : (if (l0.length : Int) = (l1.length : Int) then (concordlaw10_same.l0 k l0 l1 0) else (some false)) = some r := h
 clear h
 by_cases c3 : (l0.length : Int) = (l1.length : Int)
 ·rw [if_pos c3] at H
  have c3b0 : ((l0.length : Int) == (l1.length : Int)) = true := beq_iff_eq.mpr c3
  have c3b1 : ((l0.length : Int) != (l1.length : Int)) = false := bne_eq_false_iff_eq.mpr c3
  have c3b2 : (l0.length == l1.length) = true := by first | simpa using c3 | (simp at c3 ⊢; omega)
  clear c3
  have H' := Aside0.mk H
  clear H
  go_enter Try.func40, Try.ntmps40
  go_wp2
  repeat (go_quiet (fail); try go_wp2)
  go_loopg [5] k (fun kq v5 w' => ∃ (x5_1 : Int), v5 = .int .i64 x5_1 ∧ Aside0 (concordlaw10_same.l0 kq l0 l1 x5_1 = some r) ∧ Aside0 (kq ≤ k) ∧ Drawn0 w w')
  case atStart => exact ⟨(0), (by first | rfl | (simp; done) | (simp [*]; done)), H', ⟨Nat.le_refl _⟩, by repeat (first | exact Drawn0.refl _ | apply Drawn0.step)⟩
  case round =>
   clear H'
   try clear c1
   try clear p2
   try clear c3
   try clear c3b0
   try clear c3b1
   try clear c3b2
   obtain ⟨x5_1, rfl, HA, HK1, ⟨m1, rfl⟩⟩ := hrel
   cases gk with
   | zero => exact absurd HA.out (by simp [concordlaw10_same.l0])
   | succ k1 =>
    have H := HA.out
    clear HA
    simp only [concordlaw10_same.l0] at H
    by_cases c4 : x5_1 < (l0.length : Int)
    ·rw [if_pos c4] at H
     have c4b0 : decide (x5_1 < (l0.length : Int)) = true := decide_eq_true c4
     clear c4
     by_cases c5 : 0 ≤ x5_1
     ·rw [if_pos c5] at H
      have c5b0 : decide (0 ≤ x5_1) = true := decide_eq_true c5
      clear c5
      by_cases c6 : x5_1 < (l1.length : Int)
      ·rw [if_pos c6] at H
       have c6b0 : decide (x5_1 < (l1.length : Int)) = true := decide_eq_true c6
       clear c6
       by_cases c7 : (!(((rd_T35 l0 x5_1).f0) == ((rd_T35 l1 x5_1).f0)) || (!(((rd_T35 l0 x5_1).f1) == ((rd_T35 l1 x5_1).f1)))) = true
       ·rw [if_pos c7] at H
        have c7b0 : (!(((rd_T35 l0 x5_1).f0) == ((rd_T35 l1 x5_1).f0)) || (!(((rd_T35 l0 x5_1).f1) == ((rd_T35 l1 x5_1).f1)))) = true := c7
        clear c7
        obtain rfl := Option.some.inj H
        have p165 : 0 ≤ (x5_1 : Int) := of_decide_eq_true (by first | (with_reducible assumption) | assumption)
        have q165 : x5_1 < (l0.length : Int) := of_decide_eq_true (by first | (with_reducible assumption) | assumption)
        obtain ⟨ad165, e165, hx165_0, hx165_1⟩ := at_T35 HR0.out x5_1 p165 q165
        cases e165
        replace p165 := eq_true p165
        replace q165 := eq_true q165
        have p166 : 0 ≤ (x5_1 : Int) := of_decide_eq_true (by first | (with_reducible assumption) | assumption)
        have q166 : x5_1 < (l1.length : Int) := of_decide_eq_true (by first | (with_reducible assumption) | assumption)
        obtain ⟨ad166, e166, hx166_0, hx166_1⟩ := at_T35 HR1.out x5_1 p166 q166
        cases e166
        replace p166 := eq_true p166
        replace q166 := eq_true q166
        go_wp2
        repeat (go_quiet (fail); try go_wp2)
        go_ret
        exact ⟨by first | rfl | (simp; done) | (simp [*]; done), by repeat (first | exact Drawn0.refl _ | apply Drawn0.step)⟩
       ·rw [if_neg c7] at H
        have c7b0 : (!(((rd_T35 l0 x5_1).f0) == ((rd_T35 l1 x5_1).f0)) || (!(((rd_T35 l0 x5_1).f1) == ((rd_T35 l1 x5_1).f1)))) = false := by simpa using c7
        clear c7
        have H' := Aside0.mk H
        clear H
        have p165 : 0 ≤ (x5_1 : Int) := of_decide_eq_true (by first | (with_reducible assumption) | assumption)
        have q165 : x5_1 < (l0.length : Int) := of_decide_eq_true (by first | (with_reducible assumption) | assumption)
        obtain ⟨ad165, e165, hx165_0, hx165_1⟩ := at_T35 HR0.out x5_1 p165 q165
        cases e165
        replace p165 := eq_true p165
        replace q165 := eq_true q165
        have p166 : 0 ≤ (x5_1 : Int) := of_decide_eq_true (by first | (with_reducible assumption) | assumption)
        have q166 : x5_1 < (l1.length : Int) := of_decide_eq_true (by first | (with_reducible assumption) | assumption)
        obtain ⟨ad166, e166, hx166_0, hx166_1⟩ := at_T35 HR1.out x5_1 p166 q166
        cases e166
        replace p166 := eq_true p166
        replace q166 := eq_true q166
        go_wp2
        repeat (go_quiet (fail); try go_wp2)
        go_roundg k1
        case measure => have := HK1.out; omega
        case rel => exact ⟨(wrap64 (x5_1 + 1)), (by first | rfl | (simp; done) | (simp [*]; done)), H', ⟨by have := HK1.out; omega⟩, by repeat (first | exact Drawn0.refl _ | apply Drawn0.step)⟩
      ·rw [if_neg c6] at H
       exact absurd H (by simp)
     ·rw [if_neg c5] at H
      exact absurd H (by simp)
    ·rw [if_neg c4] at H
     have c4b0 : decide (x5_1 < (l0.length : Int)) = false := decide_eq_false c4
     clear c4
     obtain rfl := Option.some.inj H
     go_wp2
     repeat (go_quiet (fail); try go_wp2)
     go_ret
     exact ⟨by first | rfl | (simp; done) | (simp [*]; done), by repeat (first | exact Drawn0.refl _ | apply Drawn0.step)⟩
 ·rw [if_neg c3] at H
  have c3b0 : ((l0.length : Int) == (l1.length : Int)) = false := beq_eq_false_iff_ne.mpr c3
  have c3b1 : ((l0.length : Int) != (l1.length : Int)) = true := bne_iff_ne.mpr c3
  have c3b2 : (l0.length == l1.length) = false := by first | simpa using c3 | (simp at c3 ⊢; omega)
  obtain rfl := Option.some.inj H
  go_enter Try.func40, Try.ntmps40
  go_wp2
  repeat (go_quiet (fail); try go_wp2)
  go_ret
  exact ⟨by first | rfl | (simp; done) | (simp [*]; done), by repeat (first | exact Drawn0.refl _ | apply Drawn0.step)⟩

-- by hand: function 42 (vector_Below)
/-! ### vector_Compare: function 46 -/
def vector_Compare.j0 : Nat → Bool → Bool → Bool → Option (Int)
 | 0, _, _, _ => none
 | k + 1, x5, x6, x13 => if x13 = true then (some 0) else (if x5 = true then (some (-1)) else (if x6 = true then (some 1) else (some 2)))
def vector_Compare.f (k : Nat) (l0 : List (S35)) (l1 : List (S35)) : Option (Int) := (vector_Below.f l0 l1).bind fun t167 => ((vector_Below.f l1 l0).bind fun t168 => (if t167 = true then (vector_Compare.j0 k t167 t168 t168) else (vector_Compare.j0 k t167 t168 false)))
theorem vector_Compare.mono_l : ∀ k, (∀ y0 y1 y2, LeO (vector_Compare.j0 k y0 y1 y2) (vector_Compare.j0 (k + 1) y0 y1 y2))
 | 0 => fun _ _ _ r h => by simp [vector_Compare.j0] at h
 | k + 1 => by
  have ih0 := vector_Compare.mono_l k
  ·intro y0 y1 y2
   unfold vector_Compare.j0
   repeat' first
   | (with_reducible exact ih0 _ _ _)
   | (with_reducible exact LeO.refl _)
   | (with_reducible exact LeO.none _)
   | (with_reducible refine LeO.ite ?_ ?_)
   | (with_reducible refine LeO.bind ?_ (fun _ => ?_))
   | exact ih0 _ _ _
   | exact LeO.none _
   | refine LeO.ite ?_ ?_
   | refine LeO.bind ?_ (fun _ => ?_)
theorem vector_Compare.mono : ∀ a0 a1 k, LeO (vector_Compare.f k a0 a1) (vector_Compare.f (k + 1) a0 a1) := by
 intro a0 a1 k
 have ih0 := vector_Compare.mono_l k
 unfold vector_Compare.f
 repeat' first
   | (with_reducible exact ih0 _ _ _)
   | (with_reducible exact LeO.refl _)
   | (with_reducible exact LeO.none _)
   | (with_reducible refine LeO.ite ?_ ?_)
   | (with_reducible refine LeO.bind ?_ (fun _ => ?_))
   | exact ih0 _ _ _
   | exact LeO.none _
   | refine LeO.ite ?_ ?_
   | refine LeO.bind ?_ (fun _ => ?_)
set_option maxHeartbeats 8000000 in
set_option maxRecDepth 100000 in
theorem vector_Compare.calls (k : Nat) (A0 : Option Addr) (c0 : Nat) (l0 : List (S35)) (A1 : Option Addr) (c1 : Nat) (l1 : List (S35)) (r : Int) (w : World) (hr0 : Kd.C k35 w A0 l0.length l0) (hc0 : l0.length ≤ c0) (hr1 : Kd.C k35 w A1 l1.length l1) (hc1 : l1.length ≤ c1) (h : vector_Compare.f k l0 l1 = some r) :
  Calls Try.prog 46 #[.slice A0 l0.length c0, .slice A1 l1.length c1] w fun e w' => e = .returned (.int .i8 r) ∧ Below w.heap.size w w' := by
 have HR0 := Aside0.mk hr0
 have HC0 := Aside0.mk hc0
 clear hr0 hc0
 have HR1 := Aside0.mk hr1
 have HC1 := Aside0.mk hc1
 clear hr1 hc1
 have HB := Aside0.mk (Below.refl w.heap.size w)
 have H : ((vector_Below.f l0 l1).bind fun t167 => ((vector_Below.f l1 l0).bind fun t168 => (if t167 = true then (vector_Compare.j0 k t167 t168 t168) else (vector_Compare.j0 k t167 t168 false)))) = some r := h
 clear h
 replace H := Option.bind_eq_some_iff.mp H
 obtain ⟨t167, A30, H⟩ := H
 replace H : ((vector_Below.f l1 l0).bind fun t168 => (if t167 = true then (vector_Compare.j0 k t167 t168 t168) else (vector_Compare.j0 k t167 t168 false))) = some r := H
 have A3 := Aside0.mk A30
 clear A30
 replace H := Option.bind_eq_some_iff.mp H
 obtain ⟨t168, A40, H⟩ := H
 replace H : (if t167 = true then (vector_Compare.j0 k t167 t168 t168) else (vector_Compare.j0 k t167 t168 false)) = some r := H
 have A4 := Aside0.mk A40
 clear A40
 have HC5 := Aside0.mk H
 clear H
 go_enter Try.func46, Try.ntmps46
 go_upto_region 2 with (first | ((with_reducible refine gate_callee (f := 42) rfl ?_); refine goesL_ (some 9) rfl rfl Try.func42 (by kernel_rfl) rfl #[.slice A0 l0.length c0, .slice A1 l1.length c1] rfl (by (try simp only [List.map_toArray, List.map_cons, List.map_nil]); first | done | rfl | (simp only [List.length_drop, List.length_take]; rfl)) ?_; (with_reducible refine (vector_Below.calls _ _ l0 _ _ l1 t167 _ ?side1 ?side2 ?side3 ?side4 A3.out).mono ?_); (case side1 => repeat (first | exact HR0.out | (with_reducible refine Kd.C_alloc ?_ _) | (with_reducible refine Kd.C_drewN ?_ _) | (with_reducible refine Kd.C_drew ?_))); (case side2 => exact HC0.out); (case side3 => repeat (first | exact HR1.out | (with_reducible refine Kd.C_alloc ?_ _) | (with_reducible refine Kd.C_drewN ?_ _) | (with_reducible refine Kd.C_drew ?_))); (case side4 => exact HC1.out); rintro e w6 ⟨rfl, hb⟩; refine ⟨_, rfl, ?_⟩; have n0_ := sSt HB hb; clear HB; have HB := n0_; clear n0_; (try clear hb); (try clear hb2); (try clear hk); (try clear hi)) | ((with_reducible refine gate_callee (f := 42) rfl ?_); refine goesL_ (some 12) rfl rfl Try.func42 (by kernel_rfl) rfl #[.slice A1 l1.length c1, .slice A0 l0.length c0] rfl (by (try simp only [List.map_toArray, List.map_cons, List.map_nil]); first | done | rfl | (simp only [List.length_drop, List.length_take]; rfl)) ?_; (with_reducible refine (vector_Below.calls _ _ l1 _ _ l0 t168 _ ?side1 ?side2 ?side3 ?side4 A4.out).mono ?_); (case side1 => repeat (first | exact (Kd.C_below HR1.out HB.out) | (with_reducible refine Kd.C_alloc ?_ _) | (with_reducible refine Kd.C_drewN ?_ _) | (with_reducible refine Kd.C_drew ?_))); (case side2 => exact HC1.out); (case side3 => repeat (first | exact (Kd.C_below HR0.out HB.out) | (with_reducible refine Kd.C_alloc ?_ _) | (with_reducible refine Kd.C_drewN ?_ _) | (with_reducible refine Kd.C_drew ?_))); (case side4 => exact HC0.out); rintro e w7 ⟨rfl, hb⟩; refine ⟨_, rfl, ?_⟩; have n0_ := sSt HB hb; clear HB; have HB := n0_; clear n0_; (try clear hb); (try clear hb2); (try clear hk); (try clear hi)))
 (try simp only [Act.put, List.setIfInBounds_toArray, List.set_cons_zero, List.set_cons_succ])
 go_cut [13] (fun v13 wc => ∃ (kq : Nat) (x13_4 : Bool), v13 = .bool x13_4 ∧ Aside0 (vector_Compare.j0 kq t167 t168 x13_4 = some r) ∧ Aside0 (kq ≤ k) ∧ Aside0 (Below w.heap.size w wc))
 case first =>
  have H := HC5.out
  clear HC5
  by_cases c8 : t167 = true
  ·subst c8
   have H1 : (vector_Compare.j0 k true t168 t168) = some r := by rw [if_pos rfl] at H; exact H
   clear H
   have H := H1
   clear H1
   have H' := Aside0.mk H
   clear H
   go_wp2
   go_meet
   case rel => exact ⟨_, (t168), (by first | rfl | (simp; done) | (simp [*]; done)), H', ⟨by first | omega | exact Nat.le_refl _⟩, ⟨by repeat (first | (with_reducible first | exact HB.out | apply below_alloc | apply pw_below_drewN | apply below_drew1) | exact HB.out)⟩⟩
  ·replace c8 := Bool.eq_false_iff.mpr c8
   subst c8
   have H1 : (vector_Compare.j0 k false t168 false) = some r := by rw [if_neg (show ¬ (false = true) by decide)] at H; exact H
   clear H
   have H := H1
   clear H1
   have H' := Aside0.mk H
   clear H
   go_wp2
   go_meet
   case rel => exact ⟨_, (false), (by first | rfl | (simp; done) | (simp [*]; done)), H', ⟨by first | omega | exact Nat.le_refl _⟩, ⟨by repeat (first | (with_reducible first | exact HB.out | apply below_alloc | apply pw_below_drewN | apply below_drew1) | exact HB.out)⟩⟩
 case rest =>
  clear HC5
  try clear c1
  try clear p2
  try clear c4
  try clear c8
  obtain ⟨kq, x13_4, rfl, HA, HJ4, HB⟩ := hcut
  cases kq with
  | zero => exact absurd HA.out (by simp [vector_Compare.j0])
  | succ kj4 =>
   have H := HA.out
   clear HA
   simp only [vector_Compare.j0] at H
   by_cases c9 : x13_4 = true
   ·subst c9
    have H1 : (some 0) = some r := by rw [if_pos rfl] at H; exact H
    clear H
    have H := H1
    clear H1
    obtain rfl := Option.some.inj H
    go_wp2
    go_ret
    exact ⟨by first | rfl | (simp [errW_none, errW_some] <;> rfl) | (simp [*, errW_none, errW_some] <;> rfl), by repeat (first | (with_reducible first | exact HB.out | apply below_alloc | apply pw_below_drewN | apply below_drew1) | exact HB.out)⟩
   ·replace c9 := Bool.eq_false_iff.mpr c9
    subst c9
    have H1 : (if t167 = true then (some (-1)) else (if t168 = true then (some 1) else (some 2))) = some r := by rw [if_neg (show ¬ (false = true) by decide)] at H; exact H
    clear H
    have H := H1
    clear H1
    by_cases c10 : t167 = true
    ·subst c10
     have H1 : (some (-1)) = some r := by rw [if_pos rfl] at H; exact H
     clear H
     have H := H1
     clear H1
     obtain rfl := Option.some.inj H
     go_wp2
     go_ret
     exact ⟨by first | rfl | (simp [errW_none, errW_some] <;> rfl) | (simp [*, errW_none, errW_some] <;> rfl), by repeat (first | (with_reducible first | exact HB.out | apply below_alloc | apply pw_below_drewN | apply below_drew1) | exact HB.out)⟩
    ·replace c10 := Bool.eq_false_iff.mpr c10
     subst c10
     have H1 : (if t168 = true then (some 1) else (some 2)) = some r := by rw [if_neg (show ¬ (false = true) by decide)] at H; exact H
     clear H
     have H := H1
     clear H1
     by_cases c11 : t168 = true
     ·subst c11
      have H1 : (some 1) = some r := by rw [if_pos rfl] at H; exact H
      clear H
      have H := H1
      clear H1
      obtain rfl := Option.some.inj H
      go_wp2
      go_ret
      exact ⟨by first | rfl | (simp [errW_none, errW_some] <;> rfl) | (simp [*, errW_none, errW_some] <;> rfl), by repeat (first | (with_reducible first | exact HB.out | apply below_alloc | apply pw_below_drewN | apply below_drew1) | exact HB.out)⟩
     ·replace c11 := Bool.eq_false_iff.mpr c11
      subst c11
      have H1 : (some 2) = some r := by rw [if_neg (show ¬ (false = true) by decide)] at H; exact H
      clear H
      have H := H1
      clear H1
      obtain rfl := Option.some.inj H
      go_wp2
      go_ret
      exact ⟨by first | rfl | (simp [errW_none, errW_some] <;> rfl) | (simp [*, errW_none, errW_some] <;> rfl), by repeat (first | (with_reducible first | exact HB.out | apply below_alloc | apply pw_below_drewN | apply below_drew1) | exact HB.out)⟩
/-! ### concordlaw10_works: function 38 -/
def concordlaw10_works.f (k : Nat)  : Option (Bool) := (some (([(⟨1, 2⟩ : S35), (⟨3, 1⟩ : S35)] : List (S35)) : List (S35))).bind fun y169 => ((some (([(⟨1, 1⟩ : S35), (⟨2, 300⟩ : S35)] : List (S35)) : List (S35))).bind fun y172 => ((vector_Max.f y169 y172).bind fun bt175 => ((vector_Encode.f bt175.1).bind fun bt179 => ((vector_Decode.f k bt179.1).bind fun bt181 => (if bt175.2 = 0 then (if bt179.2 = 0 then (if bt181.2 = 0 then ((concordlaw10_same.f k bt175.1 (([(⟨1, 2⟩ : S35), (⟨2, 300⟩ : S35), (⟨3, 1⟩ : S35)] : List (S35)))).bind fun t188 => (if t188 = true then ((concordlaw10_same.f k bt181.1 bt175.1).bind fun t189 => (if t189 = true then (if bt179.1.toList = ([3, 1, 2, 2, 172, 2, 3, 1] : List UInt8) then ((vector_Compare.f k y169 bt175.1).bind fun t190 => (if t190 = (-1) then ((vector_Compare.f k y169 y172).bind fun t191 => (some (t191 == 2))) else (some false))) else (some false)) else (some false))) else (some false))) else (some false)) else (some false)) else (some false))))))
theorem concordlaw10_works.mono : ∀ k, LeO (concordlaw10_works.f k ) (concordlaw10_works.f (k + 1) ) := by
 intro  k
 unfold concordlaw10_works.f
 repeat' first
   | (with_reducible exact concordlaw10_same.mono _ _ _)
   | (with_reducible exact vector_Compare.mono _ _ _)
   | (with_reducible exact vector_Decode.mono _ _)
   | (with_reducible exact LeO.refl _)
   | (with_reducible exact LeO.none _)
   | (with_reducible refine LeO.ite ?_ ?_)
   | (with_reducible refine LeO.bind ?_ (fun _ => ?_))
   | exact concordlaw10_same.mono _ _ _
   | exact vector_Compare.mono _ _ _
   | exact vector_Decode.mono _ _
   | exact LeO.none _
   | refine LeO.ite ?_ ?_
   | refine LeO.bind ?_ (fun _ => ?_)
set_option maxHeartbeats 8000000 in
set_option maxRecDepth 100000 in
theorem concordlaw10_works.calls (k : Nat)  (r : Bool) (w : World) (h : concordlaw10_works.f k  = some r) :
  Calls Try.prog 38 #[] w fun e w' => e = .returned (.bool r) ∧ Below w.heap.size w w' := by
 have hu35 := Try.underlying35
 have HB := Aside0.mk (Below.refl w.heap.size w)
 have H : ((some (([(⟨1, 2⟩ : S35), (⟨3, 1⟩ : S35)] : List (S35)) : List (S35))).bind fun y169 => ((some (([(⟨1, 1⟩ : S35), (⟨2, 300⟩ : S35)] : List (S35)) : List (S35))).bind fun y172 => ((vector_Max.f y169 y172).bind fun bt175 => ((vector_Encode.f bt175.1).bind fun bt179 => ((vector_Decode.f k bt179.1).bind fun bt181 => (if bt175.2 = 0 then (if bt179.2 = 0 then (if bt181.2 = 0 then ((concordlaw10_same.f k bt175.1 (([(⟨1, 2⟩ : S35), (⟨2, 300⟩ : S35), (⟨3, 1⟩ : S35)] : List (S35)))).bind fun t188 => (if t188 = true then ((concordlaw10_same.f k bt181.1 bt175.1).bind fun t189 => (if t189 = true then (if bt179.1.toList = ([3, 1, 2, 2, 172, 2, 3, 1] : List UInt8) then ((vector_Compare.f k y169 bt175.1).bind fun t190 => (if t190 = (-1) then ((vector_Compare.f k y169 y172).bind fun t191 => (some (t191 == 2))) else (some false))) else (some false)) else (some false))) else (some false))) else (some false)) else (some false)) else (some false))))))) = some r := h
 clear h
 obtain ⟨y169, hy169⟩ : ∃ y_ : List (S35), y_ = (([(⟨1, 2⟩ : S35), (⟨3, 1⟩ : S35)] : List (S35))) := ⟨_, rfl⟩
 replace H : ((some (([(⟨1, 1⟩ : S35), (⟨2, 300⟩ : S35)] : List (S35)) : List (S35))).bind fun y172 => ((vector_Max.f y169 y172).bind fun bt175 => ((vector_Encode.f bt175.1).bind fun bt179 => ((vector_Decode.f k bt179.1).bind fun bt181 => (if bt175.2 = 0 then (if bt179.2 = 0 then (if bt181.2 = 0 then ((concordlaw10_same.f k bt175.1 (([(⟨1, 2⟩ : S35), (⟨2, 300⟩ : S35), (⟨3, 1⟩ : S35)] : List (S35)))).bind fun t188 => (if t188 = true then ((concordlaw10_same.f k bt181.1 bt175.1).bind fun t189 => (if t189 = true then (if bt179.1.toList = ([3, 1, 2, 2, 172, 2, 3, 1] : List UInt8) then ((vector_Compare.f k y169 bt175.1).bind fun t190 => (if t190 = (-1) then ((vector_Compare.f k y169 y172).bind fun t191 => (some (t191 == 2))) else (some false))) else (some false)) else (some false))) else (some false))) else (some false)) else (some false)) else (some false)))))) = some r := by first | (rw [hy169]; with_reducible exact H) | (have H2_ := (Option.bind_some _ _).symm.trans H; rw [hy169]; with_reducible exact H2_) | (have H2_ := (Option.bind_some _ _).symm.trans H; with_reducible exact H2_) | with_reducible exact H | (rw [hy169]; exact H) | exact H
 have Ny169 := Aside0.mk hy169
 clear hy169
 obtain ⟨y172, hy172⟩ : ∃ y_ : List (S35), y_ = (([(⟨1, 1⟩ : S35), (⟨2, 300⟩ : S35)] : List (S35))) := ⟨_, rfl⟩
 replace H : ((vector_Max.f y169 y172).bind fun bt175 => ((vector_Encode.f bt175.1).bind fun bt179 => ((vector_Decode.f k bt179.1).bind fun bt181 => (if bt175.2 = 0 then (if bt179.2 = 0 then (if bt181.2 = 0 then ((concordlaw10_same.f k bt175.1 (([(⟨1, 2⟩ : S35), (⟨2, 300⟩ : S35), (⟨3, 1⟩ : S35)] : List (S35)))).bind fun t188 => (if t188 = true then ((concordlaw10_same.f k bt181.1 bt175.1).bind fun t189 => (if t189 = true then (if bt179.1.toList = ([3, 1, 2, 2, 172, 2, 3, 1] : List UInt8) then ((vector_Compare.f k y169 bt175.1).bind fun t190 => (if t190 = (-1) then ((vector_Compare.f k y169 y172).bind fun t191 => (some (t191 == 2))) else (some false))) else (some false)) else (some false))) else (some false))) else (some false)) else (some false)) else (some false))))) = some r := by first | (rw [hy172]; with_reducible exact H) | (have H2_ := (Option.bind_some _ _).symm.trans H; rw [hy172]; with_reducible exact H2_) | (have H2_ := (Option.bind_some _ _).symm.trans H; with_reducible exact H2_) | with_reducible exact H | (rw [hy172]; exact H) | exact H
 have Ny172 := Aside0.mk hy172
 clear hy172
 replace H := Option.bind_eq_some_iff.mp H
 obtain ⟨⟨t175, t176⟩, A10, H⟩ := H
 replace H : ((vector_Encode.f t175).bind fun bt179 => ((vector_Decode.f k bt179.1).bind fun bt181 => (if t176 = 0 then (if bt179.2 = 0 then (if bt181.2 = 0 then ((concordlaw10_same.f k t175 (([(⟨1, 2⟩ : S35), (⟨2, 300⟩ : S35), (⟨3, 1⟩ : S35)] : List (S35)))).bind fun t188 => (if t188 = true then ((concordlaw10_same.f k bt181.1 t175).bind fun t189 => (if t189 = true then (if bt179.1.toList = ([3, 1, 2, 2, 172, 2, 3, 1] : List UInt8) then ((vector_Compare.f k y169 t175).bind fun t190 => (if t190 = (-1) then ((vector_Compare.f k y169 y172).bind fun t191 => (some (t191 == 2))) else (some false))) else (some false)) else (some false))) else (some false))) else (some false)) else (some false)) else (some false)))) = some r := H
 have A1 := Aside0.mk A10
 clear A10
 replace H := Option.bind_eq_some_iff.mp H
 obtain ⟨⟨t179, t180⟩, A20, H⟩ := H
 replace H : ((vector_Decode.f k t179).bind fun bt181 => (if t176 = 0 then (if t180 = 0 then (if bt181.2 = 0 then ((concordlaw10_same.f k t175 (([(⟨1, 2⟩ : S35), (⟨2, 300⟩ : S35), (⟨3, 1⟩ : S35)] : List (S35)))).bind fun t188 => (if t188 = true then ((concordlaw10_same.f k bt181.1 t175).bind fun t189 => (if t189 = true then (if t179.toList = ([3, 1, 2, 2, 172, 2, 3, 1] : List UInt8) then ((vector_Compare.f k y169 t175).bind fun t190 => (if t190 = (-1) then ((vector_Compare.f k y169 y172).bind fun t191 => (some (t191 == 2))) else (some false))) else (some false)) else (some false))) else (some false))) else (some false)) else (some false)) else (some false))) = some r := H
 have A2 := Aside0.mk A20
 clear A20
 replace H := Option.bind_eq_some_iff.mp H
 obtain ⟨⟨t181, t182⟩, A30, H⟩ := H
 replace H : (if t176 = 0 then (if t180 = 0 then (if t182 = 0 then ((concordlaw10_same.f k t175 (([(⟨1, 2⟩ : S35), (⟨2, 300⟩ : S35), (⟨3, 1⟩ : S35)] : List (S35)))).bind fun t188 => (if t188 = true then ((concordlaw10_same.f k t181 t175).bind fun t189 => (if t189 = true then (if t179.toList = ([3, 1, 2, 2, 172, 2, 3, 1] : List UInt8) then ((vector_Compare.f k y169 t175).bind fun t190 => (if t190 = (-1) then ((vector_Compare.f k y169 y172).bind fun t191 => (some (t191 == 2))) else (some false))) else (some false)) else (some false))) else (some false))) else (some false)) else (some false)) else (some false)) = some r := H
 have A3 := Aside0.mk A30
 clear A30
 by_cases c4 : t176 = 0
 ·rw [if_pos c4] at H
  have c4b0 : (t176 == 0) = true := beq_iff_eq.mpr c4
  have c4b1 : (t176 != 0) = false := bne_eq_false_iff_eq.mpr c4
  clear c4
  by_cases c5 : t180 = 0
  ·rw [if_pos c5] at H
   have c5b0 : (t180 == 0) = true := beq_iff_eq.mpr c5
   have c5b1 : (t180 != 0) = false := bne_eq_false_iff_eq.mpr c5
   clear c5
   by_cases c6 : t182 = 0
   ·rw [if_pos c6] at H
    have c6b0 : (t182 == 0) = true := beq_iff_eq.mpr c6
    have c6b1 : (t182 != 0) = false := bne_eq_false_iff_eq.mpr c6
    clear c6
    obtain ⟨y185, hy185⟩ : ∃ y_ : List (S35), y_ = (([(⟨1, 2⟩ : S35), (⟨2, 300⟩ : S35), (⟨3, 1⟩ : S35)] : List (S35))) := ⟨_, rfl⟩
    replace H : ((concordlaw10_same.f k t175 y185).bind fun t188 => (if t188 = true then ((concordlaw10_same.f k t181 t175).bind fun t189 => (if t189 = true then (if t179.toList = ([3, 1, 2, 2, 172, 2, 3, 1] : List UInt8) then ((vector_Compare.f k y169 t175).bind fun t190 => (if t190 = (-1) then ((vector_Compare.f k y169 y172).bind fun t191 => (some (t191 == 2))) else (some false))) else (some false)) else (some false))) else (some false))) = some r := by first | (rw [hy185]; with_reducible exact H) | (have H2_ := (Option.bind_some _ _).symm.trans H; rw [hy185]; with_reducible exact H2_) | (have H2_ := (Option.bind_some _ _).symm.trans H; with_reducible exact H2_) | with_reducible exact H | (rw [hy185]; exact H) | exact H
    have Ny185 := Aside0.mk hy185
    clear hy185
    replace H := Option.bind_eq_some_iff.mp H
    obtain ⟨t188, A70, H⟩ := H
    replace H : (if t188 = true then ((concordlaw10_same.f k t181 t175).bind fun t189 => (if t189 = true then (if t179.toList = ([3, 1, 2, 2, 172, 2, 3, 1] : List UInt8) then ((vector_Compare.f k y169 t175).bind fun t190 => (if t190 = (-1) then ((vector_Compare.f k y169 y172).bind fun t191 => (some (t191 == 2))) else (some false))) else (some false)) else (some false))) else (some false)) = some r := H
    have A7 := Aside0.mk A70
    clear A70
    by_cases c8 : t188 = true
    ·subst c8
     have H1 : ((concordlaw10_same.f k t181 t175).bind fun t189 => (if t189 = true then (if t179.toList = ([3, 1, 2, 2, 172, 2, 3, 1] : List UInt8) then ((vector_Compare.f k y169 t175).bind fun t190 => (if t190 = (-1) then ((vector_Compare.f k y169 y172).bind fun t191 => (some (t191 == 2))) else (some false))) else (some false)) else (some false))) = some r := by rw [if_pos rfl] at H; exact H
     clear H
     have H := H1
     clear H1
     replace H := Option.bind_eq_some_iff.mp H
     obtain ⟨t189, A90, H⟩ := H
     replace H : (if t189 = true then (if t179.toList = ([3, 1, 2, 2, 172, 2, 3, 1] : List UInt8) then ((vector_Compare.f k y169 t175).bind fun t190 => (if t190 = (-1) then ((vector_Compare.f k y169 y172).bind fun t191 => (some (t191 == 2))) else (some false))) else (some false)) else (some false)) = some r := H
     have A9 := Aside0.mk A90
     clear A90
     by_cases c10 : t189 = true
     ·subst c10
      have H1 : (if t179.toList = ([3, 1, 2, 2, 172, 2, 3, 1] : List UInt8) then ((vector_Compare.f k y169 t175).bind fun t190 => (if t190 = (-1) then ((vector_Compare.f k y169 y172).bind fun t191 => (some (t191 == 2))) else (some false))) else (some false)) = some r := by rw [if_pos rfl] at H; exact H
      clear H
      have H := H1
      clear H1
      by_cases c11 : t179.toList = ([3, 1, 2, 2, 172, 2, 3, 1] : List UInt8)
      ·rw [if_pos c11] at H
       have c11b0 : (t179.toList == ([3, 1, 2, 2, 172, 2, 3, 1] : List UInt8)) = true := beq_iff_eq.mpr c11
       have c11b1 : (t179.toList != ([3, 1, 2, 2, 172, 2, 3, 1] : List UInt8)) = false := bne_eq_false_iff_eq.mpr c11
       clear c11
       replace H := Option.bind_eq_some_iff.mp H
       obtain ⟨t190, A120, H⟩ := H
       replace H : (if t190 = (-1) then ((vector_Compare.f k y169 y172).bind fun t191 => (some (t191 == 2))) else (some false)) = some r := H
       have A12 := Aside0.mk A120
       clear A120
       by_cases c13 : t190 = (-1)
       ·rw [if_pos c13] at H
        have c13b0 : (t190 == (-1)) = true := beq_iff_eq.mpr c13
        have c13b1 : (t190 != (-1)) = false := bne_eq_false_iff_eq.mpr c13
        clear c13
        replace H := Option.bind_eq_some_iff.mp H
        obtain ⟨t191, A140, H⟩ := H
        replace H : (some (t191 == 2)) = some r := H
        have A14 := Aside0.mk A140
        clear A140
        obtain rfl := Option.some.inj H
        go_enter Try.func38, Try.ntmps38
        go_wp2_with (first | ((with_reducible refine gate_dst (N := 11) rfl ?_); (try (refine gate_guard (by rfl) ?_; dsimp only)); refine Kd.R_lit k35 _ 35 ?hg (N := 11) ?hd (xs := ([(⟨1, 2⟩ : S35), (⟨3, 1⟩ : S35)] : List (S35))) (inner := [.int .u32 1, .int .u64 2, .int .u32 3, .int .u64 1]) (ok := fun _ => True) (okp := fun _ => True) ?hr ?hp (fun _ hk => hk) trivial (Below.refl _ _) (Nat.le_refl _) (by simp) ?_; (case hd => rfl); (case hg => rfl); (case hr => first | (go_simp; done) | (go_simp; rfl)); (case hp => exact (Reps.c2 (show Kd.M k35 _ _ _ (⟨1, 2⟩ : S35) [.int .u32 1, .int .u64 2] from (k35_mkM _ _ _ (⟨1, 2⟩ : S35) )) (Reps.c2 (show Kd.M k35 _ _ _ (⟨3, 1⟩ : S35) [.int .u32 3, .int .u64 1] from (k35_mkM _ _ _ (⟨3, 1⟩ : S35) )) (Reps.none _ _)))); intro v170 w15 ho16 hb hg_ hnew_; clear hg_ hnew_; (first | rw [← Ny169.out] at ho16 | (simp only [Int.reduceToNat] at ho16; rw [← Ny169.out] at ho16)); have n0_ := Aside0.mk (Kd.R_lower ho16 (sSz HB)); have n1_ := sSt HB hb; clear HB; have HO171 := n0_; have HB := n1_; clear n0_ n1_; clear hb ho16) | ((with_reducible refine gate_dst (N := 14) rfl ?_); (try (refine gate_guard (by rfl) ?_; dsimp only)); refine Kd.R_lit k35 _ 35 ?hg (N := 14) ?hd (xs := ([(⟨1, 1⟩ : S35), (⟨2, 300⟩ : S35)] : List (S35))) (inner := [.int .u32 1, .int .u64 1, .int .u32 2, .int .u64 300]) (ok := fun _ => True) (okp := fun _ => True) ?hr ?hp (fun _ hk => hk) trivial (Below.refl _ _) (Nat.le_refl _) (by simp) ?_; (case hd => rfl); (case hg => rfl); (case hr => first | (go_simp; done) | (go_simp; rfl)); (case hp => exact (Reps.c2 (show Kd.M k35 _ _ _ (⟨1, 1⟩ : S35) [.int .u32 1, .int .u64 1] from (k35_mkM _ _ _ (⟨1, 1⟩ : S35) )) (Reps.c2 (show Kd.M k35 _ _ _ (⟨2, 300⟩ : S35) [.int .u32 2, .int .u64 300] from (k35_mkM _ _ _ (⟨2, 300⟩ : S35) )) (Reps.none _ _)))); intro v173 w17 ho18 hb hg_ hnew_; clear hg_ hnew_; (first | rw [← Ny172.out] at ho18 | (simp only [Int.reduceToNat] at ho18; rw [← Ny172.out] at ho18)); have n0_ := sEl HO171 (Kd.R_base ho18) hb; have n1_ := Aside0.mk (Kd.R_lower (Kd.R_new' ho18 (sLt HO171)) (sSz HB)); have n2_ := sSt HB hb; clear HO171; clear HB; have HO171 := n0_; have HO174 := n1_; have HB := n2_; clear n0_ n1_ n2_; clear hb ho18; obtain ⟨Ao19, co19, eo19⟩ := Kd.R_slice HO171.out; subst eo19; obtain ⟨Ao20, co20, eo20⟩ := Kd.R_slice HO174.out; subst eo20) | ((with_reducible refine gate_callee (f := 13) rfl ?_); refine goesL_ (some 18) rfl rfl Try.func13 (by kernel_rfl) rfl #[.slice Ao19 y169.length co19, .slice Ao20 y172.length co20] rfl (by (try simp only [List.map_toArray, List.map_cons, List.map_nil]); first | done | rfl | (simp only [List.length_drop, List.length_take]; rfl)) ?_; (with_reducible refine (vector_Max.calls _ _ y169 _ _ y172 t175 t176 _ ?side1 ?side2 ?side3 ?side4 A1.out).mono ?_); (case side1 => exact sC HO171); (case side2 => exact sN HO171); (case side3 => exact sC HO174); (case side4 => exact sN HO174); rintro e w21 ⟨v177, rfl, ho0, hb⟩; refine ⟨_, rfl, ?_⟩; have n0_ := sEl HO171 (Kd.R_base ho0) hb; have n1_ := sEl HO174 (Kd.R_base ho0) hb; have n2_ := Aside0.mk (Kd.R_lower (Kd.R_new' (Kd.R_new' ho0 (sLt HO171)) (sLt HO174)) (sSz HB)); have n3_ := sSt HB hb; clear HO171; clear HO174; clear HB; have HO171 := n0_; have HO174 := n1_; have HO178 := n2_; have HB := n3_; clear n0_ n1_ n2_ n3_; (try clear hb); (try clear hb2); (try clear hk); (try clear hi); (try clear ho0); obtain ⟨Ao22, co22, eo22⟩ := Kd.R_slice HO178.out; subst eo22) | ((with_reducible refine gate_callee (f := 24) rfl ?_); refine goesL_ (some 23) rfl rfl Try.func24 (by kernel_rfl) rfl #[.slice Ao22 t175.length co22] rfl (by (try simp only [List.map_toArray, List.map_cons, List.map_nil]); first | done | rfl | (simp only [List.length_drop, List.length_take]; rfl)) ?_; (with_reducible refine (vector_Encode.calls _ _ t175 t179 t180 _ ?side1 ?side2 A2.out).mono ?_); (case side1 => exact sC HO178); (case side2 => exact sN HO178); rintro e w23 ⟨rfl, hb⟩; refine ⟨_, rfl, ?_⟩; have n0_ := sBe HO171 hb; have n1_ := sBe HO174 hb; have n2_ := sBe HO178 hb; have n3_ := sSt HB hb; clear HO171; clear HO174; clear HO178; clear HB; have HO171 := n0_; have HO174 := n1_; have HO178 := n2_; have HB := n3_; clear n0_ n1_ n2_ n3_; (try clear hb); (try clear hb2); (try clear hk); (try clear hi)) | ((with_reducible refine gate_callee (f := 28) rfl ?_); refine goesL_ (some 28) rfl rfl Try.func28 (by kernel_rfl) rfl #[.string t179] rfl (by (try simp only [List.map_toArray, List.map_cons, List.map_nil]); first | done | rfl | (simp only [List.length_drop, List.length_take]; rfl)) ?_; (with_reducible refine (vector_Decode.calls k t179 t181 t182 _ A3.out).mono ?_); rintro e w24 ⟨v183, rfl, ho0, hb⟩; refine ⟨_, rfl, ?_⟩; have n0_ := sEl HO171 (Kd.R_base ho0) hb; have n1_ := sEl HO174 (Kd.R_base ho0) hb; have n2_ := sEl HO178 (Kd.R_base ho0) hb; have n3_ := Aside0.mk (Kd.R_lower (Kd.R_new' (Kd.R_new' (Kd.R_new' ho0 (sLt HO171)) (sLt HO174)) (sLt HO178)) (sSz HB)); have n4_ := sSt HB hb; clear HO171; clear HO174; clear HO178; clear HB; have HO171 := n0_; have HO174 := n1_; have HO178 := n2_; have HO184 := n3_; have HB := n4_; clear n0_ n1_ n2_ n3_ n4_; (try clear hb); (try clear hb2); (try clear hk); (try clear hi); (try clear ho0)) | ((with_reducible refine gate_dst (N := 46) rfl ?_); (try (refine gate_guard (by rfl) ?_; dsimp only)); refine Kd.R_lit k35 _ 35 ?hg (N := 46) ?hd (xs := ([(⟨1, 2⟩ : S35), (⟨2, 300⟩ : S35), (⟨3, 1⟩ : S35)] : List (S35))) (inner := [.int .u32 1, .int .u64 2, .int .u32 2, .int .u64 300, .int .u32 3, .int .u64 1]) (ok := fun _ => True) (okp := fun _ => True) ?hr ?hp (fun _ hk => hk) trivial (Below.refl _ _) (Nat.le_refl _) (by simp) ?_; (case hd => rfl); (case hg => rfl); (case hr => first | (go_simp; done) | (go_simp; rfl)); (case hp => exact (Reps.c2 (show Kd.M k35 _ _ _ (⟨1, 2⟩ : S35) [.int .u32 1, .int .u64 2] from (k35_mkM _ _ _ (⟨1, 2⟩ : S35) )) (Reps.c2 (show Kd.M k35 _ _ _ (⟨2, 300⟩ : S35) [.int .u32 2, .int .u64 300] from (k35_mkM _ _ _ (⟨2, 300⟩ : S35) )) (Reps.c2 (show Kd.M k35 _ _ _ (⟨3, 1⟩ : S35) [.int .u32 3, .int .u64 1] from (k35_mkM _ _ _ (⟨3, 1⟩ : S35) )) (Reps.none _ _))))); intro v186 w25 ho26 hb hg_ hnew_; clear hg_ hnew_; (first | rw [← Ny185.out] at ho26 | (simp only [Int.reduceToNat] at ho26; rw [← Ny185.out] at ho26)); have n0_ := sEl HO171 (Kd.R_base ho26) hb; have n1_ := sEl HO174 (Kd.R_base ho26) hb; have n2_ := sEl HO178 (Kd.R_base ho26) hb; have n3_ := sEl HO184 (Kd.R_base ho26) hb; have n4_ := Aside0.mk (Kd.R_lower (Kd.R_new' (Kd.R_new' (Kd.R_new' (Kd.R_new' ho26 (sLt HO171)) (sLt HO174)) (sLt HO178)) (sLt HO184)) (sSz HB)); have n5_ := sSt HB hb; clear HO171; clear HO174; clear HO178; clear HO184; clear HB; have HO171 := n0_; have HO174 := n1_; have HO178 := n2_; have HO184 := n3_; have HO187 := n4_; have HB := n5_; clear n0_ n1_ n2_ n3_ n4_ n5_; clear hb ho26; obtain ⟨Ao27, co27, eo27⟩ := Kd.R_slice HO187.out; subst eo27) | (go_at_call 40; (with_reducible refine (concordlaw10_same.calls k _ _ t175 _ _ y185 true _ ?side1 ?side2 ?side3 ?side4 A7.out).mono ?_); (case side1 => exact sC HO178); (case side2 => exact sN HO178); (case side3 => exact sC HO187); (case side4 => exact sN HO187); rintro e w' ⟨rfl, ⟨nd, rfl⟩⟩; obtain ⟨Ao28, co28, eo28⟩ := Kd.R_slice HO184.out; subst eo28) | (go_at_call 40; (with_reducible refine (concordlaw10_same.calls k _ _ t181 _ _ t175 true _ ?side1 ?side2 ?side3 ?side4 A9.out).mono ?_); (case side1 => exact sC HO184); (case side2 => exact sN HO184); (case side3 => exact sC HO178); (case side4 => exact sN HO178); rintro e w' ⟨rfl, ⟨nd, rfl⟩⟩) | (go_at_call 46; (with_reducible refine (vector_Compare.calls k _ _ y169 _ _ t175 t190 _ ?side1 ?side2 ?side3 ?side4 A12.out).mono ?_); (case side1 => exact sC HO171); (case side2 => exact sN HO171); (case side3 => exact sC HO178); (case side4 => exact sN HO178); rintro e w29 ⟨rfl, hb⟩; have n0_ := sBe HO171 hb; have n1_ := sBe HO174 hb; have n2_ := sBe HO178 hb; have n3_ := sBe HO184 hb; have n4_ := sBe HO187 hb; have n5_ := sSt HB hb; clear HO171; clear HO174; clear HO178; clear HO184; clear HO187; clear HB; have HO171 := n0_; have HO174 := n1_; have HO178 := n2_; have HO184 := n3_; have HO187 := n4_; have HB := n5_; clear n0_ n1_ n2_ n3_ n4_ n5_; (try clear hb); (try clear hb2); (try clear hk); (try clear hi)) | (go_at_call 46; (with_reducible refine (vector_Compare.calls k _ _ y169 _ _ y172 t191 _ ?side1 ?side2 ?side3 ?side4 A14.out).mono ?_); (case side1 => exact sC HO171); (case side2 => exact sN HO171); (case side3 => exact sC HO174); (case side4 => exact sN HO174); rintro e w30 ⟨rfl, hb⟩; have n0_ := sBe HO171 hb; have n1_ := sBe HO174 hb; have n2_ := sBe HO178 hb; have n3_ := sBe HO184 hb; have n4_ := sBe HO187 hb; have n5_ := sSt HB hb; clear HO171; clear HO174; clear HO178; clear HO184; clear HO187; clear HB; have HO171 := n0_; have HO174 := n1_; have HO178 := n2_; have HO184 := n3_; have HO187 := n4_; have HB := n5_; clear n0_ n1_ n2_ n3_ n4_ n5_; (try clear hb); (try clear hb2); (try clear hk); (try clear hi)))
        go_ret
        exact ⟨by first | rfl | (simp [errW_none, errW_some] <;> rfl) | (simp [*, errW_none, errW_some] <;> rfl), by repeat (first | (with_reducible first | exact HB.out | apply below_alloc | apply pw_below_drewN | apply below_drew1) | exact HB.out)⟩
       ·rw [if_neg c13] at H
        have c13b0 : (t190 == (-1)) = false := beq_eq_false_iff_ne.mpr c13
        have c13b1 : (t190 != (-1)) = true := bne_iff_ne.mpr c13
        obtain rfl := Option.some.inj H
        go_enter Try.func38, Try.ntmps38
        go_wp2_with (first | ((with_reducible refine gate_dst (N := 11) rfl ?_); (try (refine gate_guard (by rfl) ?_; dsimp only)); refine Kd.R_lit k35 _ 35 ?hg (N := 11) ?hd (xs := ([(⟨1, 2⟩ : S35), (⟨3, 1⟩ : S35)] : List (S35))) (inner := [.int .u32 1, .int .u64 2, .int .u32 3, .int .u64 1]) (ok := fun _ => True) (okp := fun _ => True) ?hr ?hp (fun _ hk => hk) trivial (Below.refl _ _) (Nat.le_refl _) (by simp) ?_; (case hd => rfl); (case hg => rfl); (case hr => first | (go_simp; done) | (go_simp; rfl)); (case hp => exact (Reps.c2 (show Kd.M k35 _ _ _ (⟨1, 2⟩ : S35) [.int .u32 1, .int .u64 2] from (k35_mkM _ _ _ (⟨1, 2⟩ : S35) )) (Reps.c2 (show Kd.M k35 _ _ _ (⟨3, 1⟩ : S35) [.int .u32 3, .int .u64 1] from (k35_mkM _ _ _ (⟨3, 1⟩ : S35) )) (Reps.none _ _)))); intro v170 w31 ho32 hb hg_ hnew_; clear hg_ hnew_; (first | rw [← Ny169.out] at ho32 | (simp only [Int.reduceToNat] at ho32; rw [← Ny169.out] at ho32)); have n0_ := Aside0.mk (Kd.R_lower ho32 (sSz HB)); have n1_ := sSt HB hb; clear HB; have HO171 := n0_; have HB := n1_; clear n0_ n1_; clear hb ho32) | ((with_reducible refine gate_dst (N := 14) rfl ?_); (try (refine gate_guard (by rfl) ?_; dsimp only)); refine Kd.R_lit k35 _ 35 ?hg (N := 14) ?hd (xs := ([(⟨1, 1⟩ : S35), (⟨2, 300⟩ : S35)] : List (S35))) (inner := [.int .u32 1, .int .u64 1, .int .u32 2, .int .u64 300]) (ok := fun _ => True) (okp := fun _ => True) ?hr ?hp (fun _ hk => hk) trivial (Below.refl _ _) (Nat.le_refl _) (by simp) ?_; (case hd => rfl); (case hg => rfl); (case hr => first | (go_simp; done) | (go_simp; rfl)); (case hp => exact (Reps.c2 (show Kd.M k35 _ _ _ (⟨1, 1⟩ : S35) [.int .u32 1, .int .u64 1] from (k35_mkM _ _ _ (⟨1, 1⟩ : S35) )) (Reps.c2 (show Kd.M k35 _ _ _ (⟨2, 300⟩ : S35) [.int .u32 2, .int .u64 300] from (k35_mkM _ _ _ (⟨2, 300⟩ : S35) )) (Reps.none _ _)))); intro v173 w33 ho34 hb hg_ hnew_; clear hg_ hnew_; (first | rw [← Ny172.out] at ho34 | (simp only [Int.reduceToNat] at ho34; rw [← Ny172.out] at ho34)); have n0_ := sEl HO171 (Kd.R_base ho34) hb; have n1_ := Aside0.mk (Kd.R_lower (Kd.R_new' ho34 (sLt HO171)) (sSz HB)); have n2_ := sSt HB hb; clear HO171; clear HB; have HO171 := n0_; have HO174 := n1_; have HB := n2_; clear n0_ n1_ n2_; clear hb ho34; obtain ⟨Ao35, co35, eo35⟩ := Kd.R_slice HO171.out; subst eo35; obtain ⟨Ao36, co36, eo36⟩ := Kd.R_slice HO174.out; subst eo36) | ((with_reducible refine gate_callee (f := 13) rfl ?_); refine goesL_ (some 18) rfl rfl Try.func13 (by kernel_rfl) rfl #[.slice Ao35 y169.length co35, .slice Ao36 y172.length co36] rfl (by (try simp only [List.map_toArray, List.map_cons, List.map_nil]); first | done | rfl | (simp only [List.length_drop, List.length_take]; rfl)) ?_; (with_reducible refine (vector_Max.calls _ _ y169 _ _ y172 t175 t176 _ ?side1 ?side2 ?side3 ?side4 A1.out).mono ?_); (case side1 => exact sC HO171); (case side2 => exact sN HO171); (case side3 => exact sC HO174); (case side4 => exact sN HO174); rintro e w37 ⟨v177, rfl, ho0, hb⟩; refine ⟨_, rfl, ?_⟩; have n0_ := sEl HO171 (Kd.R_base ho0) hb; have n1_ := sEl HO174 (Kd.R_base ho0) hb; have n2_ := Aside0.mk (Kd.R_lower (Kd.R_new' (Kd.R_new' ho0 (sLt HO171)) (sLt HO174)) (sSz HB)); have n3_ := sSt HB hb; clear HO171; clear HO174; clear HB; have HO171 := n0_; have HO174 := n1_; have HO178 := n2_; have HB := n3_; clear n0_ n1_ n2_ n3_; (try clear hb); (try clear hb2); (try clear hk); (try clear hi); (try clear ho0); obtain ⟨Ao38, co38, eo38⟩ := Kd.R_slice HO178.out; subst eo38) | ((with_reducible refine gate_callee (f := 24) rfl ?_); refine goesL_ (some 23) rfl rfl Try.func24 (by kernel_rfl) rfl #[.slice Ao38 t175.length co38] rfl (by (try simp only [List.map_toArray, List.map_cons, List.map_nil]); first | done | rfl | (simp only [List.length_drop, List.length_take]; rfl)) ?_; (with_reducible refine (vector_Encode.calls _ _ t175 t179 t180 _ ?side1 ?side2 A2.out).mono ?_); (case side1 => exact sC HO178); (case side2 => exact sN HO178); rintro e w39 ⟨rfl, hb⟩; refine ⟨_, rfl, ?_⟩; have n0_ := sBe HO171 hb; have n1_ := sBe HO174 hb; have n2_ := sBe HO178 hb; have n3_ := sSt HB hb; clear HO171; clear HO174; clear HO178; clear HB; have HO171 := n0_; have HO174 := n1_; have HO178 := n2_; have HB := n3_; clear n0_ n1_ n2_ n3_; (try clear hb); (try clear hb2); (try clear hk); (try clear hi)) | ((with_reducible refine gate_callee (f := 28) rfl ?_); refine goesL_ (some 28) rfl rfl Try.func28 (by kernel_rfl) rfl #[.string t179] rfl (by (try simp only [List.map_toArray, List.map_cons, List.map_nil]); first | done | rfl | (simp only [List.length_drop, List.length_take]; rfl)) ?_; (with_reducible refine (vector_Decode.calls k t179 t181 t182 _ A3.out).mono ?_); rintro e w40 ⟨v183, rfl, ho0, hb⟩; refine ⟨_, rfl, ?_⟩; have n0_ := sEl HO171 (Kd.R_base ho0) hb; have n1_ := sEl HO174 (Kd.R_base ho0) hb; have n2_ := sEl HO178 (Kd.R_base ho0) hb; have n3_ := Aside0.mk (Kd.R_lower (Kd.R_new' (Kd.R_new' (Kd.R_new' ho0 (sLt HO171)) (sLt HO174)) (sLt HO178)) (sSz HB)); have n4_ := sSt HB hb; clear HO171; clear HO174; clear HO178; clear HB; have HO171 := n0_; have HO174 := n1_; have HO178 := n2_; have HO184 := n3_; have HB := n4_; clear n0_ n1_ n2_ n3_ n4_; (try clear hb); (try clear hb2); (try clear hk); (try clear hi); (try clear ho0)) | ((with_reducible refine gate_dst (N := 46) rfl ?_); (try (refine gate_guard (by rfl) ?_; dsimp only)); refine Kd.R_lit k35 _ 35 ?hg (N := 46) ?hd (xs := ([(⟨1, 2⟩ : S35), (⟨2, 300⟩ : S35), (⟨3, 1⟩ : S35)] : List (S35))) (inner := [.int .u32 1, .int .u64 2, .int .u32 2, .int .u64 300, .int .u32 3, .int .u64 1]) (ok := fun _ => True) (okp := fun _ => True) ?hr ?hp (fun _ hk => hk) trivial (Below.refl _ _) (Nat.le_refl _) (by simp) ?_; (case hd => rfl); (case hg => rfl); (case hr => first | (go_simp; done) | (go_simp; rfl)); (case hp => exact (Reps.c2 (show Kd.M k35 _ _ _ (⟨1, 2⟩ : S35) [.int .u32 1, .int .u64 2] from (k35_mkM _ _ _ (⟨1, 2⟩ : S35) )) (Reps.c2 (show Kd.M k35 _ _ _ (⟨2, 300⟩ : S35) [.int .u32 2, .int .u64 300] from (k35_mkM _ _ _ (⟨2, 300⟩ : S35) )) (Reps.c2 (show Kd.M k35 _ _ _ (⟨3, 1⟩ : S35) [.int .u32 3, .int .u64 1] from (k35_mkM _ _ _ (⟨3, 1⟩ : S35) )) (Reps.none _ _))))); intro v186 w41 ho42 hb hg_ hnew_; clear hg_ hnew_; (first | rw [← Ny185.out] at ho42 | (simp only [Int.reduceToNat] at ho42; rw [← Ny185.out] at ho42)); have n0_ := sEl HO171 (Kd.R_base ho42) hb; have n1_ := sEl HO174 (Kd.R_base ho42) hb; have n2_ := sEl HO178 (Kd.R_base ho42) hb; have n3_ := sEl HO184 (Kd.R_base ho42) hb; have n4_ := Aside0.mk (Kd.R_lower (Kd.R_new' (Kd.R_new' (Kd.R_new' (Kd.R_new' ho42 (sLt HO171)) (sLt HO174)) (sLt HO178)) (sLt HO184)) (sSz HB)); have n5_ := sSt HB hb; clear HO171; clear HO174; clear HO178; clear HO184; clear HB; have HO171 := n0_; have HO174 := n1_; have HO178 := n2_; have HO184 := n3_; have HO187 := n4_; have HB := n5_; clear n0_ n1_ n2_ n3_ n4_ n5_; clear hb ho42; obtain ⟨Ao43, co43, eo43⟩ := Kd.R_slice HO187.out; subst eo43) | (go_at_call 40; (with_reducible refine (concordlaw10_same.calls k _ _ t175 _ _ y185 true _ ?side1 ?side2 ?side3 ?side4 A7.out).mono ?_); (case side1 => exact sC HO178); (case side2 => exact sN HO178); (case side3 => exact sC HO187); (case side4 => exact sN HO187); rintro e w' ⟨rfl, ⟨nd, rfl⟩⟩; obtain ⟨Ao44, co44, eo44⟩ := Kd.R_slice HO184.out; subst eo44) | (go_at_call 40; (with_reducible refine (concordlaw10_same.calls k _ _ t181 _ _ t175 true _ ?side1 ?side2 ?side3 ?side4 A9.out).mono ?_); (case side1 => exact sC HO184); (case side2 => exact sN HO184); (case side3 => exact sC HO178); (case side4 => exact sN HO178); rintro e w' ⟨rfl, ⟨nd, rfl⟩⟩) | (go_at_call 46; (with_reducible refine (vector_Compare.calls k _ _ y169 _ _ t175 t190 _ ?side1 ?side2 ?side3 ?side4 A12.out).mono ?_); (case side1 => exact sC HO171); (case side2 => exact sN HO171); (case side3 => exact sC HO178); (case side4 => exact sN HO178); rintro e w45 ⟨rfl, hb⟩; have n0_ := sBe HO171 hb; have n1_ := sBe HO174 hb; have n2_ := sBe HO178 hb; have n3_ := sBe HO184 hb; have n4_ := sBe HO187 hb; have n5_ := sSt HB hb; clear HO171; clear HO174; clear HO178; clear HO184; clear HO187; clear HB; have HO171 := n0_; have HO174 := n1_; have HO178 := n2_; have HO184 := n3_; have HO187 := n4_; have HB := n5_; clear n0_ n1_ n2_ n3_ n4_ n5_; (try clear hb); (try clear hb2); (try clear hk); (try clear hi)))
        go_ret
        exact ⟨by first | rfl | (simp [errW_none, errW_some] <;> rfl) | (simp [*, errW_none, errW_some] <;> rfl), by repeat (first | (with_reducible first | exact HB.out | apply below_alloc | apply pw_below_drewN | apply below_drew1) | exact HB.out)⟩
      ·rw [if_neg c11] at H
       have c11b0 : (t179.toList == ([3, 1, 2, 2, 172, 2, 3, 1] : List UInt8)) = false := beq_eq_false_iff_ne.mpr c11
       have c11b1 : (t179.toList != ([3, 1, 2, 2, 172, 2, 3, 1] : List UInt8)) = true := bne_iff_ne.mpr c11
       obtain rfl := Option.some.inj H
       go_enter Try.func38, Try.ntmps38
       go_wp2_with (first | ((with_reducible refine gate_dst (N := 11) rfl ?_); (try (refine gate_guard (by rfl) ?_; dsimp only)); refine Kd.R_lit k35 _ 35 ?hg (N := 11) ?hd (xs := ([(⟨1, 2⟩ : S35), (⟨3, 1⟩ : S35)] : List (S35))) (inner := [.int .u32 1, .int .u64 2, .int .u32 3, .int .u64 1]) (ok := fun _ => True) (okp := fun _ => True) ?hr ?hp (fun _ hk => hk) trivial (Below.refl _ _) (Nat.le_refl _) (by simp) ?_; (case hd => rfl); (case hg => rfl); (case hr => first | (go_simp; done) | (go_simp; rfl)); (case hp => exact (Reps.c2 (show Kd.M k35 _ _ _ (⟨1, 2⟩ : S35) [.int .u32 1, .int .u64 2] from (k35_mkM _ _ _ (⟨1, 2⟩ : S35) )) (Reps.c2 (show Kd.M k35 _ _ _ (⟨3, 1⟩ : S35) [.int .u32 3, .int .u64 1] from (k35_mkM _ _ _ (⟨3, 1⟩ : S35) )) (Reps.none _ _)))); intro v170 w46 ho47 hb hg_ hnew_; clear hg_ hnew_; (first | rw [← Ny169.out] at ho47 | (simp only [Int.reduceToNat] at ho47; rw [← Ny169.out] at ho47)); have n0_ := Aside0.mk (Kd.R_lower ho47 (sSz HB)); have n1_ := sSt HB hb; clear HB; have HO171 := n0_; have HB := n1_; clear n0_ n1_; clear hb ho47) | ((with_reducible refine gate_dst (N := 14) rfl ?_); (try (refine gate_guard (by rfl) ?_; dsimp only)); refine Kd.R_lit k35 _ 35 ?hg (N := 14) ?hd (xs := ([(⟨1, 1⟩ : S35), (⟨2, 300⟩ : S35)] : List (S35))) (inner := [.int .u32 1, .int .u64 1, .int .u32 2, .int .u64 300]) (ok := fun _ => True) (okp := fun _ => True) ?hr ?hp (fun _ hk => hk) trivial (Below.refl _ _) (Nat.le_refl _) (by simp) ?_; (case hd => rfl); (case hg => rfl); (case hr => first | (go_simp; done) | (go_simp; rfl)); (case hp => exact (Reps.c2 (show Kd.M k35 _ _ _ (⟨1, 1⟩ : S35) [.int .u32 1, .int .u64 1] from (k35_mkM _ _ _ (⟨1, 1⟩ : S35) )) (Reps.c2 (show Kd.M k35 _ _ _ (⟨2, 300⟩ : S35) [.int .u32 2, .int .u64 300] from (k35_mkM _ _ _ (⟨2, 300⟩ : S35) )) (Reps.none _ _)))); intro v173 w48 ho49 hb hg_ hnew_; clear hg_ hnew_; (first | rw [← Ny172.out] at ho49 | (simp only [Int.reduceToNat] at ho49; rw [← Ny172.out] at ho49)); have n0_ := sEl HO171 (Kd.R_base ho49) hb; have n1_ := Aside0.mk (Kd.R_lower (Kd.R_new' ho49 (sLt HO171)) (sSz HB)); have n2_ := sSt HB hb; clear HO171; clear HB; have HO171 := n0_; have HO174 := n1_; have HB := n2_; clear n0_ n1_ n2_; clear hb ho49; obtain ⟨Ao50, co50, eo50⟩ := Kd.R_slice HO171.out; subst eo50; obtain ⟨Ao51, co51, eo51⟩ := Kd.R_slice HO174.out; subst eo51) | ((with_reducible refine gate_callee (f := 13) rfl ?_); refine goesL_ (some 18) rfl rfl Try.func13 (by kernel_rfl) rfl #[.slice Ao50 y169.length co50, .slice Ao51 y172.length co51] rfl (by (try simp only [List.map_toArray, List.map_cons, List.map_nil]); first | done | rfl | (simp only [List.length_drop, List.length_take]; rfl)) ?_; (with_reducible refine (vector_Max.calls _ _ y169 _ _ y172 t175 t176 _ ?side1 ?side2 ?side3 ?side4 A1.out).mono ?_); (case side1 => exact sC HO171); (case side2 => exact sN HO171); (case side3 => exact sC HO174); (case side4 => exact sN HO174); rintro e w52 ⟨v177, rfl, ho0, hb⟩; refine ⟨_, rfl, ?_⟩; have n0_ := sEl HO171 (Kd.R_base ho0) hb; have n1_ := sEl HO174 (Kd.R_base ho0) hb; have n2_ := Aside0.mk (Kd.R_lower (Kd.R_new' (Kd.R_new' ho0 (sLt HO171)) (sLt HO174)) (sSz HB)); have n3_ := sSt HB hb; clear HO171; clear HO174; clear HB; have HO171 := n0_; have HO174 := n1_; have HO178 := n2_; have HB := n3_; clear n0_ n1_ n2_ n3_; (try clear hb); (try clear hb2); (try clear hk); (try clear hi); (try clear ho0); obtain ⟨Ao53, co53, eo53⟩ := Kd.R_slice HO178.out; subst eo53) | ((with_reducible refine gate_callee (f := 24) rfl ?_); refine goesL_ (some 23) rfl rfl Try.func24 (by kernel_rfl) rfl #[.slice Ao53 t175.length co53] rfl (by (try simp only [List.map_toArray, List.map_cons, List.map_nil]); first | done | rfl | (simp only [List.length_drop, List.length_take]; rfl)) ?_; (with_reducible refine (vector_Encode.calls _ _ t175 t179 t180 _ ?side1 ?side2 A2.out).mono ?_); (case side1 => exact sC HO178); (case side2 => exact sN HO178); rintro e w54 ⟨rfl, hb⟩; refine ⟨_, rfl, ?_⟩; have n0_ := sBe HO171 hb; have n1_ := sBe HO174 hb; have n2_ := sBe HO178 hb; have n3_ := sSt HB hb; clear HO171; clear HO174; clear HO178; clear HB; have HO171 := n0_; have HO174 := n1_; have HO178 := n2_; have HB := n3_; clear n0_ n1_ n2_ n3_; (try clear hb); (try clear hb2); (try clear hk); (try clear hi)) | ((with_reducible refine gate_callee (f := 28) rfl ?_); refine goesL_ (some 28) rfl rfl Try.func28 (by kernel_rfl) rfl #[.string t179] rfl (by (try simp only [List.map_toArray, List.map_cons, List.map_nil]); first | done | rfl | (simp only [List.length_drop, List.length_take]; rfl)) ?_; (with_reducible refine (vector_Decode.calls k t179 t181 t182 _ A3.out).mono ?_); rintro e w55 ⟨v183, rfl, ho0, hb⟩; refine ⟨_, rfl, ?_⟩; have n0_ := sEl HO171 (Kd.R_base ho0) hb; have n1_ := sEl HO174 (Kd.R_base ho0) hb; have n2_ := sEl HO178 (Kd.R_base ho0) hb; have n3_ := Aside0.mk (Kd.R_lower (Kd.R_new' (Kd.R_new' (Kd.R_new' ho0 (sLt HO171)) (sLt HO174)) (sLt HO178)) (sSz HB)); have n4_ := sSt HB hb; clear HO171; clear HO174; clear HO178; clear HB; have HO171 := n0_; have HO174 := n1_; have HO178 := n2_; have HO184 := n3_; have HB := n4_; clear n0_ n1_ n2_ n3_ n4_; (try clear hb); (try clear hb2); (try clear hk); (try clear hi); (try clear ho0)) | ((with_reducible refine gate_dst (N := 46) rfl ?_); (try (refine gate_guard (by rfl) ?_; dsimp only)); refine Kd.R_lit k35 _ 35 ?hg (N := 46) ?hd (xs := ([(⟨1, 2⟩ : S35), (⟨2, 300⟩ : S35), (⟨3, 1⟩ : S35)] : List (S35))) (inner := [.int .u32 1, .int .u64 2, .int .u32 2, .int .u64 300, .int .u32 3, .int .u64 1]) (ok := fun _ => True) (okp := fun _ => True) ?hr ?hp (fun _ hk => hk) trivial (Below.refl _ _) (Nat.le_refl _) (by simp) ?_; (case hd => rfl); (case hg => rfl); (case hr => first | (go_simp; done) | (go_simp; rfl)); (case hp => exact (Reps.c2 (show Kd.M k35 _ _ _ (⟨1, 2⟩ : S35) [.int .u32 1, .int .u64 2] from (k35_mkM _ _ _ (⟨1, 2⟩ : S35) )) (Reps.c2 (show Kd.M k35 _ _ _ (⟨2, 300⟩ : S35) [.int .u32 2, .int .u64 300] from (k35_mkM _ _ _ (⟨2, 300⟩ : S35) )) (Reps.c2 (show Kd.M k35 _ _ _ (⟨3, 1⟩ : S35) [.int .u32 3, .int .u64 1] from (k35_mkM _ _ _ (⟨3, 1⟩ : S35) )) (Reps.none _ _))))); intro v186 w56 ho57 hb hg_ hnew_; clear hg_ hnew_; (first | rw [← Ny185.out] at ho57 | (simp only [Int.reduceToNat] at ho57; rw [← Ny185.out] at ho57)); have n0_ := sEl HO171 (Kd.R_base ho57) hb; have n1_ := sEl HO174 (Kd.R_base ho57) hb; have n2_ := sEl HO178 (Kd.R_base ho57) hb; have n3_ := sEl HO184 (Kd.R_base ho57) hb; have n4_ := Aside0.mk (Kd.R_lower (Kd.R_new' (Kd.R_new' (Kd.R_new' (Kd.R_new' ho57 (sLt HO171)) (sLt HO174)) (sLt HO178)) (sLt HO184)) (sSz HB)); have n5_ := sSt HB hb; clear HO171; clear HO174; clear HO178; clear HO184; clear HB; have HO171 := n0_; have HO174 := n1_; have HO178 := n2_; have HO184 := n3_; have HO187 := n4_; have HB := n5_; clear n0_ n1_ n2_ n3_ n4_ n5_; clear hb ho57; obtain ⟨Ao58, co58, eo58⟩ := Kd.R_slice HO187.out; subst eo58) | (go_at_call 40; (with_reducible refine (concordlaw10_same.calls k _ _ t175 _ _ y185 true _ ?side1 ?side2 ?side3 ?side4 A7.out).mono ?_); (case side1 => exact sC HO178); (case side2 => exact sN HO178); (case side3 => exact sC HO187); (case side4 => exact sN HO187); rintro e w' ⟨rfl, ⟨nd, rfl⟩⟩; obtain ⟨Ao59, co59, eo59⟩ := Kd.R_slice HO184.out; subst eo59) | (go_at_call 40; (with_reducible refine (concordlaw10_same.calls k _ _ t181 _ _ t175 true _ ?side1 ?side2 ?side3 ?side4 A9.out).mono ?_); (case side1 => exact sC HO184); (case side2 => exact sN HO184); (case side3 => exact sC HO178); (case side4 => exact sN HO178); rintro e w' ⟨rfl, ⟨nd, rfl⟩⟩))
       go_ret
       exact ⟨by first | rfl | (simp [errW_none, errW_some] <;> rfl) | (simp [*, errW_none, errW_some] <;> rfl), by repeat (first | (with_reducible first | exact HB.out | apply below_alloc | apply pw_below_drewN | apply below_drew1) | exact HB.out)⟩
     ·replace c10 := Bool.eq_false_iff.mpr c10
      subst c10
      have H1 : (some false) = some r := by rw [if_neg (show ¬ (false = true) by decide)] at H; exact H
      clear H
      have H := H1
      clear H1
      obtain rfl := Option.some.inj H
      go_enter Try.func38, Try.ntmps38
      go_wp2_with (first | ((with_reducible refine gate_dst (N := 11) rfl ?_); (try (refine gate_guard (by rfl) ?_; dsimp only)); refine Kd.R_lit k35 _ 35 ?hg (N := 11) ?hd (xs := ([(⟨1, 2⟩ : S35), (⟨3, 1⟩ : S35)] : List (S35))) (inner := [.int .u32 1, .int .u64 2, .int .u32 3, .int .u64 1]) (ok := fun _ => True) (okp := fun _ => True) ?hr ?hp (fun _ hk => hk) trivial (Below.refl _ _) (Nat.le_refl _) (by simp) ?_; (case hd => rfl); (case hg => rfl); (case hr => first | (go_simp; done) | (go_simp; rfl)); (case hp => exact (Reps.c2 (show Kd.M k35 _ _ _ (⟨1, 2⟩ : S35) [.int .u32 1, .int .u64 2] from (k35_mkM _ _ _ (⟨1, 2⟩ : S35) )) (Reps.c2 (show Kd.M k35 _ _ _ (⟨3, 1⟩ : S35) [.int .u32 3, .int .u64 1] from (k35_mkM _ _ _ (⟨3, 1⟩ : S35) )) (Reps.none _ _)))); intro v170 w60 ho61 hb hg_ hnew_; clear hg_ hnew_; (first | rw [← Ny169.out] at ho61 | (simp only [Int.reduceToNat] at ho61; rw [← Ny169.out] at ho61)); have n0_ := Aside0.mk (Kd.R_lower ho61 (sSz HB)); have n1_ := sSt HB hb; clear HB; have HO171 := n0_; have HB := n1_; clear n0_ n1_; clear hb ho61) | ((with_reducible refine gate_dst (N := 14) rfl ?_); (try (refine gate_guard (by rfl) ?_; dsimp only)); refine Kd.R_lit k35 _ 35 ?hg (N := 14) ?hd (xs := ([(⟨1, 1⟩ : S35), (⟨2, 300⟩ : S35)] : List (S35))) (inner := [.int .u32 1, .int .u64 1, .int .u32 2, .int .u64 300]) (ok := fun _ => True) (okp := fun _ => True) ?hr ?hp (fun _ hk => hk) trivial (Below.refl _ _) (Nat.le_refl _) (by simp) ?_; (case hd => rfl); (case hg => rfl); (case hr => first | (go_simp; done) | (go_simp; rfl)); (case hp => exact (Reps.c2 (show Kd.M k35 _ _ _ (⟨1, 1⟩ : S35) [.int .u32 1, .int .u64 1] from (k35_mkM _ _ _ (⟨1, 1⟩ : S35) )) (Reps.c2 (show Kd.M k35 _ _ _ (⟨2, 300⟩ : S35) [.int .u32 2, .int .u64 300] from (k35_mkM _ _ _ (⟨2, 300⟩ : S35) )) (Reps.none _ _)))); intro v173 w62 ho63 hb hg_ hnew_; clear hg_ hnew_; (first | rw [← Ny172.out] at ho63 | (simp only [Int.reduceToNat] at ho63; rw [← Ny172.out] at ho63)); have n0_ := sEl HO171 (Kd.R_base ho63) hb; have n1_ := Aside0.mk (Kd.R_lower (Kd.R_new' ho63 (sLt HO171)) (sSz HB)); have n2_ := sSt HB hb; clear HO171; clear HB; have HO171 := n0_; have HO174 := n1_; have HB := n2_; clear n0_ n1_ n2_; clear hb ho63; obtain ⟨Ao64, co64, eo64⟩ := Kd.R_slice HO171.out; subst eo64; obtain ⟨Ao65, co65, eo65⟩ := Kd.R_slice HO174.out; subst eo65) | ((with_reducible refine gate_callee (f := 13) rfl ?_); refine goesL_ (some 18) rfl rfl Try.func13 (by kernel_rfl) rfl #[.slice Ao64 y169.length co64, .slice Ao65 y172.length co65] rfl (by (try simp only [List.map_toArray, List.map_cons, List.map_nil]); first | done | rfl | (simp only [List.length_drop, List.length_take]; rfl)) ?_; (with_reducible refine (vector_Max.calls _ _ y169 _ _ y172 t175 t176 _ ?side1 ?side2 ?side3 ?side4 A1.out).mono ?_); (case side1 => exact sC HO171); (case side2 => exact sN HO171); (case side3 => exact sC HO174); (case side4 => exact sN HO174); rintro e w66 ⟨v177, rfl, ho0, hb⟩; refine ⟨_, rfl, ?_⟩; have n0_ := sEl HO171 (Kd.R_base ho0) hb; have n1_ := sEl HO174 (Kd.R_base ho0) hb; have n2_ := Aside0.mk (Kd.R_lower (Kd.R_new' (Kd.R_new' ho0 (sLt HO171)) (sLt HO174)) (sSz HB)); have n3_ := sSt HB hb; clear HO171; clear HO174; clear HB; have HO171 := n0_; have HO174 := n1_; have HO178 := n2_; have HB := n3_; clear n0_ n1_ n2_ n3_; (try clear hb); (try clear hb2); (try clear hk); (try clear hi); (try clear ho0); obtain ⟨Ao67, co67, eo67⟩ := Kd.R_slice HO178.out; subst eo67) | ((with_reducible refine gate_callee (f := 24) rfl ?_); refine goesL_ (some 23) rfl rfl Try.func24 (by kernel_rfl) rfl #[.slice Ao67 t175.length co67] rfl (by (try simp only [List.map_toArray, List.map_cons, List.map_nil]); first | done | rfl | (simp only [List.length_drop, List.length_take]; rfl)) ?_; (with_reducible refine (vector_Encode.calls _ _ t175 t179 t180 _ ?side1 ?side2 A2.out).mono ?_); (case side1 => exact sC HO178); (case side2 => exact sN HO178); rintro e w68 ⟨rfl, hb⟩; refine ⟨_, rfl, ?_⟩; have n0_ := sBe HO171 hb; have n1_ := sBe HO174 hb; have n2_ := sBe HO178 hb; have n3_ := sSt HB hb; clear HO171; clear HO174; clear HO178; clear HB; have HO171 := n0_; have HO174 := n1_; have HO178 := n2_; have HB := n3_; clear n0_ n1_ n2_ n3_; (try clear hb); (try clear hb2); (try clear hk); (try clear hi)) | ((with_reducible refine gate_callee (f := 28) rfl ?_); refine goesL_ (some 28) rfl rfl Try.func28 (by kernel_rfl) rfl #[.string t179] rfl (by (try simp only [List.map_toArray, List.map_cons, List.map_nil]); first | done | rfl | (simp only [List.length_drop, List.length_take]; rfl)) ?_; (with_reducible refine (vector_Decode.calls k t179 t181 t182 _ A3.out).mono ?_); rintro e w69 ⟨v183, rfl, ho0, hb⟩; refine ⟨_, rfl, ?_⟩; have n0_ := sEl HO171 (Kd.R_base ho0) hb; have n1_ := sEl HO174 (Kd.R_base ho0) hb; have n2_ := sEl HO178 (Kd.R_base ho0) hb; have n3_ := Aside0.mk (Kd.R_lower (Kd.R_new' (Kd.R_new' (Kd.R_new' ho0 (sLt HO171)) (sLt HO174)) (sLt HO178)) (sSz HB)); have n4_ := sSt HB hb; clear HO171; clear HO174; clear HO178; clear HB; have HO171 := n0_; have HO174 := n1_; have HO178 := n2_; have HO184 := n3_; have HB := n4_; clear n0_ n1_ n2_ n3_ n4_; (try clear hb); (try clear hb2); (try clear hk); (try clear hi); (try clear ho0)) | ((with_reducible refine gate_dst (N := 46) rfl ?_); (try (refine gate_guard (by rfl) ?_; dsimp only)); refine Kd.R_lit k35 _ 35 ?hg (N := 46) ?hd (xs := ([(⟨1, 2⟩ : S35), (⟨2, 300⟩ : S35), (⟨3, 1⟩ : S35)] : List (S35))) (inner := [.int .u32 1, .int .u64 2, .int .u32 2, .int .u64 300, .int .u32 3, .int .u64 1]) (ok := fun _ => True) (okp := fun _ => True) ?hr ?hp (fun _ hk => hk) trivial (Below.refl _ _) (Nat.le_refl _) (by simp) ?_; (case hd => rfl); (case hg => rfl); (case hr => first | (go_simp; done) | (go_simp; rfl)); (case hp => exact (Reps.c2 (show Kd.M k35 _ _ _ (⟨1, 2⟩ : S35) [.int .u32 1, .int .u64 2] from (k35_mkM _ _ _ (⟨1, 2⟩ : S35) )) (Reps.c2 (show Kd.M k35 _ _ _ (⟨2, 300⟩ : S35) [.int .u32 2, .int .u64 300] from (k35_mkM _ _ _ (⟨2, 300⟩ : S35) )) (Reps.c2 (show Kd.M k35 _ _ _ (⟨3, 1⟩ : S35) [.int .u32 3, .int .u64 1] from (k35_mkM _ _ _ (⟨3, 1⟩ : S35) )) (Reps.none _ _))))); intro v186 w70 ho71 hb hg_ hnew_; clear hg_ hnew_; (first | rw [← Ny185.out] at ho71 | (simp only [Int.reduceToNat] at ho71; rw [← Ny185.out] at ho71)); have n0_ := sEl HO171 (Kd.R_base ho71) hb; have n1_ := sEl HO174 (Kd.R_base ho71) hb; have n2_ := sEl HO178 (Kd.R_base ho71) hb; have n3_ := sEl HO184 (Kd.R_base ho71) hb; have n4_ := Aside0.mk (Kd.R_lower (Kd.R_new' (Kd.R_new' (Kd.R_new' (Kd.R_new' ho71 (sLt HO171)) (sLt HO174)) (sLt HO178)) (sLt HO184)) (sSz HB)); have n5_ := sSt HB hb; clear HO171; clear HO174; clear HO178; clear HO184; clear HB; have HO171 := n0_; have HO174 := n1_; have HO178 := n2_; have HO184 := n3_; have HO187 := n4_; have HB := n5_; clear n0_ n1_ n2_ n3_ n4_ n5_; clear hb ho71; obtain ⟨Ao72, co72, eo72⟩ := Kd.R_slice HO187.out; subst eo72) | (go_at_call 40; (with_reducible refine (concordlaw10_same.calls k _ _ t175 _ _ y185 true _ ?side1 ?side2 ?side3 ?side4 A7.out).mono ?_); (case side1 => exact sC HO178); (case side2 => exact sN HO178); (case side3 => exact sC HO187); (case side4 => exact sN HO187); rintro e w' ⟨rfl, ⟨nd, rfl⟩⟩; obtain ⟨Ao73, co73, eo73⟩ := Kd.R_slice HO184.out; subst eo73) | (go_at_call 40; (with_reducible refine (concordlaw10_same.calls k _ _ t181 _ _ t175 false _ ?side1 ?side2 ?side3 ?side4 A9.out).mono ?_); (case side1 => exact sC HO184); (case side2 => exact sN HO184); (case side3 => exact sC HO178); (case side4 => exact sN HO178); rintro e w' ⟨rfl, ⟨nd, rfl⟩⟩))
      go_ret
      exact ⟨by first | rfl | (simp [errW_none, errW_some] <;> rfl) | (simp [*, errW_none, errW_some] <;> rfl), by repeat (first | (with_reducible first | exact HB.out | apply below_alloc | apply pw_below_drewN | apply below_drew1) | exact HB.out)⟩
    ·replace c8 := Bool.eq_false_iff.mpr c8
     subst c8
     have H1 : (some false) = some r := by rw [if_neg (show ¬ (false = true) by decide)] at H; exact H
     clear H
     have H := H1
     clear H1
     obtain rfl := Option.some.inj H
     go_enter Try.func38, Try.ntmps38
     go_wp2_with (first | ((with_reducible refine gate_dst (N := 11) rfl ?_); (try (refine gate_guard (by rfl) ?_; dsimp only)); refine Kd.R_lit k35 _ 35 ?hg (N := 11) ?hd (xs := ([(⟨1, 2⟩ : S35), (⟨3, 1⟩ : S35)] : List (S35))) (inner := [.int .u32 1, .int .u64 2, .int .u32 3, .int .u64 1]) (ok := fun _ => True) (okp := fun _ => True) ?hr ?hp (fun _ hk => hk) trivial (Below.refl _ _) (Nat.le_refl _) (by simp) ?_; (case hd => rfl); (case hg => rfl); (case hr => first | (go_simp; done) | (go_simp; rfl)); (case hp => exact (Reps.c2 (show Kd.M k35 _ _ _ (⟨1, 2⟩ : S35) [.int .u32 1, .int .u64 2] from (k35_mkM _ _ _ (⟨1, 2⟩ : S35) )) (Reps.c2 (show Kd.M k35 _ _ _ (⟨3, 1⟩ : S35) [.int .u32 3, .int .u64 1] from (k35_mkM _ _ _ (⟨3, 1⟩ : S35) )) (Reps.none _ _)))); intro v170 w74 ho75 hb hg_ hnew_; clear hg_ hnew_; (first | rw [← Ny169.out] at ho75 | (simp only [Int.reduceToNat] at ho75; rw [← Ny169.out] at ho75)); have n0_ := Aside0.mk (Kd.R_lower ho75 (sSz HB)); have n1_ := sSt HB hb; clear HB; have HO171 := n0_; have HB := n1_; clear n0_ n1_; clear hb ho75) | ((with_reducible refine gate_dst (N := 14) rfl ?_); (try (refine gate_guard (by rfl) ?_; dsimp only)); refine Kd.R_lit k35 _ 35 ?hg (N := 14) ?hd (xs := ([(⟨1, 1⟩ : S35), (⟨2, 300⟩ : S35)] : List (S35))) (inner := [.int .u32 1, .int .u64 1, .int .u32 2, .int .u64 300]) (ok := fun _ => True) (okp := fun _ => True) ?hr ?hp (fun _ hk => hk) trivial (Below.refl _ _) (Nat.le_refl _) (by simp) ?_; (case hd => rfl); (case hg => rfl); (case hr => first | (go_simp; done) | (go_simp; rfl)); (case hp => exact (Reps.c2 (show Kd.M k35 _ _ _ (⟨1, 1⟩ : S35) [.int .u32 1, .int .u64 1] from (k35_mkM _ _ _ (⟨1, 1⟩ : S35) )) (Reps.c2 (show Kd.M k35 _ _ _ (⟨2, 300⟩ : S35) [.int .u32 2, .int .u64 300] from (k35_mkM _ _ _ (⟨2, 300⟩ : S35) )) (Reps.none _ _)))); intro v173 w76 ho77 hb hg_ hnew_; clear hg_ hnew_; (first | rw [← Ny172.out] at ho77 | (simp only [Int.reduceToNat] at ho77; rw [← Ny172.out] at ho77)); have n0_ := sEl HO171 (Kd.R_base ho77) hb; have n1_ := Aside0.mk (Kd.R_lower (Kd.R_new' ho77 (sLt HO171)) (sSz HB)); have n2_ := sSt HB hb; clear HO171; clear HB; have HO171 := n0_; have HO174 := n1_; have HB := n2_; clear n0_ n1_ n2_; clear hb ho77; obtain ⟨Ao78, co78, eo78⟩ := Kd.R_slice HO171.out; subst eo78; obtain ⟨Ao79, co79, eo79⟩ := Kd.R_slice HO174.out; subst eo79) | ((with_reducible refine gate_callee (f := 13) rfl ?_); refine goesL_ (some 18) rfl rfl Try.func13 (by kernel_rfl) rfl #[.slice Ao78 y169.length co78, .slice Ao79 y172.length co79] rfl (by (try simp only [List.map_toArray, List.map_cons, List.map_nil]); first | done | rfl | (simp only [List.length_drop, List.length_take]; rfl)) ?_; (with_reducible refine (vector_Max.calls _ _ y169 _ _ y172 t175 t176 _ ?side1 ?side2 ?side3 ?side4 A1.out).mono ?_); (case side1 => exact sC HO171); (case side2 => exact sN HO171); (case side3 => exact sC HO174); (case side4 => exact sN HO174); rintro e w80 ⟨v177, rfl, ho0, hb⟩; refine ⟨_, rfl, ?_⟩; have n0_ := sEl HO171 (Kd.R_base ho0) hb; have n1_ := sEl HO174 (Kd.R_base ho0) hb; have n2_ := Aside0.mk (Kd.R_lower (Kd.R_new' (Kd.R_new' ho0 (sLt HO171)) (sLt HO174)) (sSz HB)); have n3_ := sSt HB hb; clear HO171; clear HO174; clear HB; have HO171 := n0_; have HO174 := n1_; have HO178 := n2_; have HB := n3_; clear n0_ n1_ n2_ n3_; (try clear hb); (try clear hb2); (try clear hk); (try clear hi); (try clear ho0); obtain ⟨Ao81, co81, eo81⟩ := Kd.R_slice HO178.out; subst eo81) | ((with_reducible refine gate_callee (f := 24) rfl ?_); refine goesL_ (some 23) rfl rfl Try.func24 (by kernel_rfl) rfl #[.slice Ao81 t175.length co81] rfl (by (try simp only [List.map_toArray, List.map_cons, List.map_nil]); first | done | rfl | (simp only [List.length_drop, List.length_take]; rfl)) ?_; (with_reducible refine (vector_Encode.calls _ _ t175 t179 t180 _ ?side1 ?side2 A2.out).mono ?_); (case side1 => exact sC HO178); (case side2 => exact sN HO178); rintro e w82 ⟨rfl, hb⟩; refine ⟨_, rfl, ?_⟩; have n0_ := sBe HO171 hb; have n1_ := sBe HO174 hb; have n2_ := sBe HO178 hb; have n3_ := sSt HB hb; clear HO171; clear HO174; clear HO178; clear HB; have HO171 := n0_; have HO174 := n1_; have HO178 := n2_; have HB := n3_; clear n0_ n1_ n2_ n3_; (try clear hb); (try clear hb2); (try clear hk); (try clear hi)) | ((with_reducible refine gate_callee (f := 28) rfl ?_); refine goesL_ (some 28) rfl rfl Try.func28 (by kernel_rfl) rfl #[.string t179] rfl (by (try simp only [List.map_toArray, List.map_cons, List.map_nil]); first | done | rfl | (simp only [List.length_drop, List.length_take]; rfl)) ?_; (with_reducible refine (vector_Decode.calls k t179 t181 t182 _ A3.out).mono ?_); rintro e w83 ⟨v183, rfl, ho0, hb⟩; refine ⟨_, rfl, ?_⟩; have n0_ := sEl HO171 (Kd.R_base ho0) hb; have n1_ := sEl HO174 (Kd.R_base ho0) hb; have n2_ := sEl HO178 (Kd.R_base ho0) hb; have n3_ := Aside0.mk (Kd.R_lower (Kd.R_new' (Kd.R_new' (Kd.R_new' ho0 (sLt HO171)) (sLt HO174)) (sLt HO178)) (sSz HB)); have n4_ := sSt HB hb; clear HO171; clear HO174; clear HO178; clear HB; have HO171 := n0_; have HO174 := n1_; have HO178 := n2_; have HO184 := n3_; have HB := n4_; clear n0_ n1_ n2_ n3_ n4_; (try clear hb); (try clear hb2); (try clear hk); (try clear hi); (try clear ho0)) | ((with_reducible refine gate_dst (N := 46) rfl ?_); (try (refine gate_guard (by rfl) ?_; dsimp only)); refine Kd.R_lit k35 _ 35 ?hg (N := 46) ?hd (xs := ([(⟨1, 2⟩ : S35), (⟨2, 300⟩ : S35), (⟨3, 1⟩ : S35)] : List (S35))) (inner := [.int .u32 1, .int .u64 2, .int .u32 2, .int .u64 300, .int .u32 3, .int .u64 1]) (ok := fun _ => True) (okp := fun _ => True) ?hr ?hp (fun _ hk => hk) trivial (Below.refl _ _) (Nat.le_refl _) (by simp) ?_; (case hd => rfl); (case hg => rfl); (case hr => first | (go_simp; done) | (go_simp; rfl)); (case hp => exact (Reps.c2 (show Kd.M k35 _ _ _ (⟨1, 2⟩ : S35) [.int .u32 1, .int .u64 2] from (k35_mkM _ _ _ (⟨1, 2⟩ : S35) )) (Reps.c2 (show Kd.M k35 _ _ _ (⟨2, 300⟩ : S35) [.int .u32 2, .int .u64 300] from (k35_mkM _ _ _ (⟨2, 300⟩ : S35) )) (Reps.c2 (show Kd.M k35 _ _ _ (⟨3, 1⟩ : S35) [.int .u32 3, .int .u64 1] from (k35_mkM _ _ _ (⟨3, 1⟩ : S35) )) (Reps.none _ _))))); intro v186 w84 ho85 hb hg_ hnew_; clear hg_ hnew_; (first | rw [← Ny185.out] at ho85 | (simp only [Int.reduceToNat] at ho85; rw [← Ny185.out] at ho85)); have n0_ := sEl HO171 (Kd.R_base ho85) hb; have n1_ := sEl HO174 (Kd.R_base ho85) hb; have n2_ := sEl HO178 (Kd.R_base ho85) hb; have n3_ := sEl HO184 (Kd.R_base ho85) hb; have n4_ := Aside0.mk (Kd.R_lower (Kd.R_new' (Kd.R_new' (Kd.R_new' (Kd.R_new' ho85 (sLt HO171)) (sLt HO174)) (sLt HO178)) (sLt HO184)) (sSz HB)); have n5_ := sSt HB hb; clear HO171; clear HO174; clear HO178; clear HO184; clear HB; have HO171 := n0_; have HO174 := n1_; have HO178 := n2_; have HO184 := n3_; have HO187 := n4_; have HB := n5_; clear n0_ n1_ n2_ n3_ n4_ n5_; clear hb ho85; obtain ⟨Ao86, co86, eo86⟩ := Kd.R_slice HO187.out; subst eo86) | (go_at_call 40; (with_reducible refine (concordlaw10_same.calls k _ _ t175 _ _ y185 false _ ?side1 ?side2 ?side3 ?side4 A7.out).mono ?_); (case side1 => exact sC HO178); (case side2 => exact sN HO178); (case side3 => exact sC HO187); (case side4 => exact sN HO187); rintro e w' ⟨rfl, ⟨nd, rfl⟩⟩))
     go_ret
     exact ⟨by first | rfl | (simp [errW_none, errW_some] <;> rfl) | (simp [*, errW_none, errW_some] <;> rfl), by repeat (first | (with_reducible first | exact HB.out | apply below_alloc | apply pw_below_drewN | apply below_drew1) | exact HB.out)⟩
   ·rw [if_neg c6] at H
    have c6b0 : (t182 == 0) = false := beq_eq_false_iff_ne.mpr c6
    have c6b1 : (t182 != 0) = true := bne_iff_ne.mpr c6
    obtain rfl := Option.some.inj H
    go_enter Try.func38, Try.ntmps38
    go_wp2_with (first | ((with_reducible refine gate_dst (N := 11) rfl ?_); (try (refine gate_guard (by rfl) ?_; dsimp only)); refine Kd.R_lit k35 _ 35 ?hg (N := 11) ?hd (xs := ([(⟨1, 2⟩ : S35), (⟨3, 1⟩ : S35)] : List (S35))) (inner := [.int .u32 1, .int .u64 2, .int .u32 3, .int .u64 1]) (ok := fun _ => True) (okp := fun _ => True) ?hr ?hp (fun _ hk => hk) trivial (Below.refl _ _) (Nat.le_refl _) (by simp) ?_; (case hd => rfl); (case hg => rfl); (case hr => first | (go_simp; done) | (go_simp; rfl)); (case hp => exact (Reps.c2 (show Kd.M k35 _ _ _ (⟨1, 2⟩ : S35) [.int .u32 1, .int .u64 2] from (k35_mkM _ _ _ (⟨1, 2⟩ : S35) )) (Reps.c2 (show Kd.M k35 _ _ _ (⟨3, 1⟩ : S35) [.int .u32 3, .int .u64 1] from (k35_mkM _ _ _ (⟨3, 1⟩ : S35) )) (Reps.none _ _)))); intro v170 w87 ho88 hb hg_ hnew_; clear hg_ hnew_; (first | rw [← Ny169.out] at ho88 | (simp only [Int.reduceToNat] at ho88; rw [← Ny169.out] at ho88)); have n0_ := Aside0.mk (Kd.R_lower ho88 (sSz HB)); have n1_ := sSt HB hb; clear HB; have HO171 := n0_; have HB := n1_; clear n0_ n1_; clear hb ho88) | ((with_reducible refine gate_dst (N := 14) rfl ?_); (try (refine gate_guard (by rfl) ?_; dsimp only)); refine Kd.R_lit k35 _ 35 ?hg (N := 14) ?hd (xs := ([(⟨1, 1⟩ : S35), (⟨2, 300⟩ : S35)] : List (S35))) (inner := [.int .u32 1, .int .u64 1, .int .u32 2, .int .u64 300]) (ok := fun _ => True) (okp := fun _ => True) ?hr ?hp (fun _ hk => hk) trivial (Below.refl _ _) (Nat.le_refl _) (by simp) ?_; (case hd => rfl); (case hg => rfl); (case hr => first | (go_simp; done) | (go_simp; rfl)); (case hp => exact (Reps.c2 (show Kd.M k35 _ _ _ (⟨1, 1⟩ : S35) [.int .u32 1, .int .u64 1] from (k35_mkM _ _ _ (⟨1, 1⟩ : S35) )) (Reps.c2 (show Kd.M k35 _ _ _ (⟨2, 300⟩ : S35) [.int .u32 2, .int .u64 300] from (k35_mkM _ _ _ (⟨2, 300⟩ : S35) )) (Reps.none _ _)))); intro v173 w89 ho90 hb hg_ hnew_; clear hg_ hnew_; (first | rw [← Ny172.out] at ho90 | (simp only [Int.reduceToNat] at ho90; rw [← Ny172.out] at ho90)); have n0_ := sEl HO171 (Kd.R_base ho90) hb; have n1_ := Aside0.mk (Kd.R_lower (Kd.R_new' ho90 (sLt HO171)) (sSz HB)); have n2_ := sSt HB hb; clear HO171; clear HB; have HO171 := n0_; have HO174 := n1_; have HB := n2_; clear n0_ n1_ n2_; clear hb ho90; obtain ⟨Ao91, co91, eo91⟩ := Kd.R_slice HO171.out; subst eo91; obtain ⟨Ao92, co92, eo92⟩ := Kd.R_slice HO174.out; subst eo92) | ((with_reducible refine gate_callee (f := 13) rfl ?_); refine goesL_ (some 18) rfl rfl Try.func13 (by kernel_rfl) rfl #[.slice Ao91 y169.length co91, .slice Ao92 y172.length co92] rfl (by (try simp only [List.map_toArray, List.map_cons, List.map_nil]); first | done | rfl | (simp only [List.length_drop, List.length_take]; rfl)) ?_; (with_reducible refine (vector_Max.calls _ _ y169 _ _ y172 t175 t176 _ ?side1 ?side2 ?side3 ?side4 A1.out).mono ?_); (case side1 => exact sC HO171); (case side2 => exact sN HO171); (case side3 => exact sC HO174); (case side4 => exact sN HO174); rintro e w93 ⟨v177, rfl, ho0, hb⟩; refine ⟨_, rfl, ?_⟩; have n0_ := sEl HO171 (Kd.R_base ho0) hb; have n1_ := sEl HO174 (Kd.R_base ho0) hb; have n2_ := Aside0.mk (Kd.R_lower (Kd.R_new' (Kd.R_new' ho0 (sLt HO171)) (sLt HO174)) (sSz HB)); have n3_ := sSt HB hb; clear HO171; clear HO174; clear HB; have HO171 := n0_; have HO174 := n1_; have HO178 := n2_; have HB := n3_; clear n0_ n1_ n2_ n3_; (try clear hb); (try clear hb2); (try clear hk); (try clear hi); (try clear ho0); obtain ⟨Ao94, co94, eo94⟩ := Kd.R_slice HO178.out; subst eo94) | ((with_reducible refine gate_callee (f := 24) rfl ?_); refine goesL_ (some 23) rfl rfl Try.func24 (by kernel_rfl) rfl #[.slice Ao94 t175.length co94] rfl (by (try simp only [List.map_toArray, List.map_cons, List.map_nil]); first | done | rfl | (simp only [List.length_drop, List.length_take]; rfl)) ?_; (with_reducible refine (vector_Encode.calls _ _ t175 t179 t180 _ ?side1 ?side2 A2.out).mono ?_); (case side1 => exact sC HO178); (case side2 => exact sN HO178); rintro e w95 ⟨rfl, hb⟩; refine ⟨_, rfl, ?_⟩; have n0_ := sBe HO171 hb; have n1_ := sBe HO174 hb; have n2_ := sBe HO178 hb; have n3_ := sSt HB hb; clear HO171; clear HO174; clear HO178; clear HB; have HO171 := n0_; have HO174 := n1_; have HO178 := n2_; have HB := n3_; clear n0_ n1_ n2_ n3_; (try clear hb); (try clear hb2); (try clear hk); (try clear hi)) | ((with_reducible refine gate_callee (f := 28) rfl ?_); refine goesL_ (some 28) rfl rfl Try.func28 (by kernel_rfl) rfl #[.string t179] rfl (by (try simp only [List.map_toArray, List.map_cons, List.map_nil]); first | done | rfl | (simp only [List.length_drop, List.length_take]; rfl)) ?_; (with_reducible refine (vector_Decode.calls k t179 t181 t182 _ A3.out).mono ?_); rintro e w96 ⟨v183, rfl, ho0, hb⟩; refine ⟨_, rfl, ?_⟩; have n0_ := sEl HO171 (Kd.R_base ho0) hb; have n1_ := sEl HO174 (Kd.R_base ho0) hb; have n2_ := sEl HO178 (Kd.R_base ho0) hb; have n3_ := Aside0.mk (Kd.R_lower (Kd.R_new' (Kd.R_new' (Kd.R_new' ho0 (sLt HO171)) (sLt HO174)) (sLt HO178)) (sSz HB)); have n4_ := sSt HB hb; clear HO171; clear HO174; clear HO178; clear HB; have HO171 := n0_; have HO174 := n1_; have HO178 := n2_; have HO184 := n3_; have HB := n4_; clear n0_ n1_ n2_ n3_ n4_; (try clear hb); (try clear hb2); (try clear hk); (try clear hi); (try clear ho0)))
    go_ret
    exact ⟨by first | rfl | (simp [errW_none, errW_some] <;> rfl) | (simp [*, errW_none, errW_some] <;> rfl), by repeat (first | (with_reducible first | exact HB.out | apply below_alloc | apply pw_below_drewN | apply below_drew1) | exact HB.out)⟩
  ·rw [if_neg c5] at H
   have c5b0 : (t180 == 0) = false := beq_eq_false_iff_ne.mpr c5
   have c5b1 : (t180 != 0) = true := bne_iff_ne.mpr c5
   obtain rfl := Option.some.inj H
   go_enter Try.func38, Try.ntmps38
   go_wp2_with (first | ((with_reducible refine gate_dst (N := 11) rfl ?_); (try (refine gate_guard (by rfl) ?_; dsimp only)); refine Kd.R_lit k35 _ 35 ?hg (N := 11) ?hd (xs := ([(⟨1, 2⟩ : S35), (⟨3, 1⟩ : S35)] : List (S35))) (inner := [.int .u32 1, .int .u64 2, .int .u32 3, .int .u64 1]) (ok := fun _ => True) (okp := fun _ => True) ?hr ?hp (fun _ hk => hk) trivial (Below.refl _ _) (Nat.le_refl _) (by simp) ?_; (case hd => rfl); (case hg => rfl); (case hr => first | (go_simp; done) | (go_simp; rfl)); (case hp => exact (Reps.c2 (show Kd.M k35 _ _ _ (⟨1, 2⟩ : S35) [.int .u32 1, .int .u64 2] from (k35_mkM _ _ _ (⟨1, 2⟩ : S35) )) (Reps.c2 (show Kd.M k35 _ _ _ (⟨3, 1⟩ : S35) [.int .u32 3, .int .u64 1] from (k35_mkM _ _ _ (⟨3, 1⟩ : S35) )) (Reps.none _ _)))); intro v170 w97 ho98 hb hg_ hnew_; clear hg_ hnew_; (first | rw [← Ny169.out] at ho98 | (simp only [Int.reduceToNat] at ho98; rw [← Ny169.out] at ho98)); have n0_ := Aside0.mk (Kd.R_lower ho98 (sSz HB)); have n1_ := sSt HB hb; clear HB; have HO171 := n0_; have HB := n1_; clear n0_ n1_; clear hb ho98) | ((with_reducible refine gate_dst (N := 14) rfl ?_); (try (refine gate_guard (by rfl) ?_; dsimp only)); refine Kd.R_lit k35 _ 35 ?hg (N := 14) ?hd (xs := ([(⟨1, 1⟩ : S35), (⟨2, 300⟩ : S35)] : List (S35))) (inner := [.int .u32 1, .int .u64 1, .int .u32 2, .int .u64 300]) (ok := fun _ => True) (okp := fun _ => True) ?hr ?hp (fun _ hk => hk) trivial (Below.refl _ _) (Nat.le_refl _) (by simp) ?_; (case hd => rfl); (case hg => rfl); (case hr => first | (go_simp; done) | (go_simp; rfl)); (case hp => exact (Reps.c2 (show Kd.M k35 _ _ _ (⟨1, 1⟩ : S35) [.int .u32 1, .int .u64 1] from (k35_mkM _ _ _ (⟨1, 1⟩ : S35) )) (Reps.c2 (show Kd.M k35 _ _ _ (⟨2, 300⟩ : S35) [.int .u32 2, .int .u64 300] from (k35_mkM _ _ _ (⟨2, 300⟩ : S35) )) (Reps.none _ _)))); intro v173 w99 ho100 hb hg_ hnew_; clear hg_ hnew_; (first | rw [← Ny172.out] at ho100 | (simp only [Int.reduceToNat] at ho100; rw [← Ny172.out] at ho100)); have n0_ := sEl HO171 (Kd.R_base ho100) hb; have n1_ := Aside0.mk (Kd.R_lower (Kd.R_new' ho100 (sLt HO171)) (sSz HB)); have n2_ := sSt HB hb; clear HO171; clear HB; have HO171 := n0_; have HO174 := n1_; have HB := n2_; clear n0_ n1_ n2_; clear hb ho100; obtain ⟨Ao101, co101, eo101⟩ := Kd.R_slice HO171.out; subst eo101; obtain ⟨Ao102, co102, eo102⟩ := Kd.R_slice HO174.out; subst eo102) | ((with_reducible refine gate_callee (f := 13) rfl ?_); refine goesL_ (some 18) rfl rfl Try.func13 (by kernel_rfl) rfl #[.slice Ao101 y169.length co101, .slice Ao102 y172.length co102] rfl (by (try simp only [List.map_toArray, List.map_cons, List.map_nil]); first | done | rfl | (simp only [List.length_drop, List.length_take]; rfl)) ?_; (with_reducible refine (vector_Max.calls _ _ y169 _ _ y172 t175 t176 _ ?side1 ?side2 ?side3 ?side4 A1.out).mono ?_); (case side1 => exact sC HO171); (case side2 => exact sN HO171); (case side3 => exact sC HO174); (case side4 => exact sN HO174); rintro e w103 ⟨v177, rfl, ho0, hb⟩; refine ⟨_, rfl, ?_⟩; have n0_ := sEl HO171 (Kd.R_base ho0) hb; have n1_ := sEl HO174 (Kd.R_base ho0) hb; have n2_ := Aside0.mk (Kd.R_lower (Kd.R_new' (Kd.R_new' ho0 (sLt HO171)) (sLt HO174)) (sSz HB)); have n3_ := sSt HB hb; clear HO171; clear HO174; clear HB; have HO171 := n0_; have HO174 := n1_; have HO178 := n2_; have HB := n3_; clear n0_ n1_ n2_ n3_; (try clear hb); (try clear hb2); (try clear hk); (try clear hi); (try clear ho0); obtain ⟨Ao104, co104, eo104⟩ := Kd.R_slice HO178.out; subst eo104) | ((with_reducible refine gate_callee (f := 24) rfl ?_); refine goesL_ (some 23) rfl rfl Try.func24 (by kernel_rfl) rfl #[.slice Ao104 t175.length co104] rfl (by (try simp only [List.map_toArray, List.map_cons, List.map_nil]); first | done | rfl | (simp only [List.length_drop, List.length_take]; rfl)) ?_; (with_reducible refine (vector_Encode.calls _ _ t175 t179 t180 _ ?side1 ?side2 A2.out).mono ?_); (case side1 => exact sC HO178); (case side2 => exact sN HO178); rintro e w105 ⟨rfl, hb⟩; refine ⟨_, rfl, ?_⟩; have n0_ := sBe HO171 hb; have n1_ := sBe HO174 hb; have n2_ := sBe HO178 hb; have n3_ := sSt HB hb; clear HO171; clear HO174; clear HO178; clear HB; have HO171 := n0_; have HO174 := n1_; have HO178 := n2_; have HB := n3_; clear n0_ n1_ n2_ n3_; (try clear hb); (try clear hb2); (try clear hk); (try clear hi)) | ((with_reducible refine gate_callee (f := 28) rfl ?_); refine goesL_ (some 28) rfl rfl Try.func28 (by kernel_rfl) rfl #[.string t179] rfl (by (try simp only [List.map_toArray, List.map_cons, List.map_nil]); first | done | rfl | (simp only [List.length_drop, List.length_take]; rfl)) ?_; (with_reducible refine (vector_Decode.calls k t179 t181 t182 _ A3.out).mono ?_); rintro e w106 ⟨v183, rfl, ho0, hb⟩; refine ⟨_, rfl, ?_⟩; have n0_ := sEl HO171 (Kd.R_base ho0) hb; have n1_ := sEl HO174 (Kd.R_base ho0) hb; have n2_ := sEl HO178 (Kd.R_base ho0) hb; have n3_ := Aside0.mk (Kd.R_lower (Kd.R_new' (Kd.R_new' (Kd.R_new' ho0 (sLt HO171)) (sLt HO174)) (sLt HO178)) (sSz HB)); have n4_ := sSt HB hb; clear HO171; clear HO174; clear HO178; clear HB; have HO171 := n0_; have HO174 := n1_; have HO178 := n2_; have HO184 := n3_; have HB := n4_; clear n0_ n1_ n2_ n3_ n4_; (try clear hb); (try clear hb2); (try clear hk); (try clear hi); (try clear ho0)))
   go_ret
   exact ⟨by first | rfl | (simp [errW_none, errW_some] <;> rfl) | (simp [*, errW_none, errW_some] <;> rfl), by repeat (first | (with_reducible first | exact HB.out | apply below_alloc | apply pw_below_drewN | apply below_drew1) | exact HB.out)⟩
 ·rw [if_neg c4] at H
  have c4b0 : (t176 == 0) = false := beq_eq_false_iff_ne.mpr c4
  have c4b1 : (t176 != 0) = true := bne_iff_ne.mpr c4
  obtain rfl := Option.some.inj H
  go_enter Try.func38, Try.ntmps38
  go_wp2_with (first | ((with_reducible refine gate_dst (N := 11) rfl ?_); (try (refine gate_guard (by rfl) ?_; dsimp only)); refine Kd.R_lit k35 _ 35 ?hg (N := 11) ?hd (xs := ([(⟨1, 2⟩ : S35), (⟨3, 1⟩ : S35)] : List (S35))) (inner := [.int .u32 1, .int .u64 2, .int .u32 3, .int .u64 1]) (ok := fun _ => True) (okp := fun _ => True) ?hr ?hp (fun _ hk => hk) trivial (Below.refl _ _) (Nat.le_refl _) (by simp) ?_; (case hd => rfl); (case hg => rfl); (case hr => first | (go_simp; done) | (go_simp; rfl)); (case hp => exact (Reps.c2 (show Kd.M k35 _ _ _ (⟨1, 2⟩ : S35) [.int .u32 1, .int .u64 2] from (k35_mkM _ _ _ (⟨1, 2⟩ : S35) )) (Reps.c2 (show Kd.M k35 _ _ _ (⟨3, 1⟩ : S35) [.int .u32 3, .int .u64 1] from (k35_mkM _ _ _ (⟨3, 1⟩ : S35) )) (Reps.none _ _)))); intro v170 w107 ho108 hb hg_ hnew_; clear hg_ hnew_; (first | rw [← Ny169.out] at ho108 | (simp only [Int.reduceToNat] at ho108; rw [← Ny169.out] at ho108)); have n0_ := Aside0.mk (Kd.R_lower ho108 (sSz HB)); have n1_ := sSt HB hb; clear HB; have HO171 := n0_; have HB := n1_; clear n0_ n1_; clear hb ho108) | ((with_reducible refine gate_dst (N := 14) rfl ?_); (try (refine gate_guard (by rfl) ?_; dsimp only)); refine Kd.R_lit k35 _ 35 ?hg (N := 14) ?hd (xs := ([(⟨1, 1⟩ : S35), (⟨2, 300⟩ : S35)] : List (S35))) (inner := [.int .u32 1, .int .u64 1, .int .u32 2, .int .u64 300]) (ok := fun _ => True) (okp := fun _ => True) ?hr ?hp (fun _ hk => hk) trivial (Below.refl _ _) (Nat.le_refl _) (by simp) ?_; (case hd => rfl); (case hg => rfl); (case hr => first | (go_simp; done) | (go_simp; rfl)); (case hp => exact (Reps.c2 (show Kd.M k35 _ _ _ (⟨1, 1⟩ : S35) [.int .u32 1, .int .u64 1] from (k35_mkM _ _ _ (⟨1, 1⟩ : S35) )) (Reps.c2 (show Kd.M k35 _ _ _ (⟨2, 300⟩ : S35) [.int .u32 2, .int .u64 300] from (k35_mkM _ _ _ (⟨2, 300⟩ : S35) )) (Reps.none _ _)))); intro v173 w109 ho110 hb hg_ hnew_; clear hg_ hnew_; (first | rw [← Ny172.out] at ho110 | (simp only [Int.reduceToNat] at ho110; rw [← Ny172.out] at ho110)); have n0_ := sEl HO171 (Kd.R_base ho110) hb; have n1_ := Aside0.mk (Kd.R_lower (Kd.R_new' ho110 (sLt HO171)) (sSz HB)); have n2_ := sSt HB hb; clear HO171; clear HB; have HO171 := n0_; have HO174 := n1_; have HB := n2_; clear n0_ n1_ n2_; clear hb ho110; obtain ⟨Ao111, co111, eo111⟩ := Kd.R_slice HO171.out; subst eo111; obtain ⟨Ao112, co112, eo112⟩ := Kd.R_slice HO174.out; subst eo112) | ((with_reducible refine gate_callee (f := 13) rfl ?_); refine goesL_ (some 18) rfl rfl Try.func13 (by kernel_rfl) rfl #[.slice Ao111 y169.length co111, .slice Ao112 y172.length co112] rfl (by (try simp only [List.map_toArray, List.map_cons, List.map_nil]); first | done | rfl | (simp only [List.length_drop, List.length_take]; rfl)) ?_; (with_reducible refine (vector_Max.calls _ _ y169 _ _ y172 t175 t176 _ ?side1 ?side2 ?side3 ?side4 A1.out).mono ?_); (case side1 => exact sC HO171); (case side2 => exact sN HO171); (case side3 => exact sC HO174); (case side4 => exact sN HO174); rintro e w113 ⟨v177, rfl, ho0, hb⟩; refine ⟨_, rfl, ?_⟩; have n0_ := sEl HO171 (Kd.R_base ho0) hb; have n1_ := sEl HO174 (Kd.R_base ho0) hb; have n2_ := Aside0.mk (Kd.R_lower (Kd.R_new' (Kd.R_new' ho0 (sLt HO171)) (sLt HO174)) (sSz HB)); have n3_ := sSt HB hb; clear HO171; clear HO174; clear HB; have HO171 := n0_; have HO174 := n1_; have HO178 := n2_; have HB := n3_; clear n0_ n1_ n2_ n3_; (try clear hb); (try clear hb2); (try clear hk); (try clear hi); (try clear ho0); obtain ⟨Ao114, co114, eo114⟩ := Kd.R_slice HO178.out; subst eo114) | ((with_reducible refine gate_callee (f := 24) rfl ?_); refine goesL_ (some 23) rfl rfl Try.func24 (by kernel_rfl) rfl #[.slice Ao114 t175.length co114] rfl (by (try simp only [List.map_toArray, List.map_cons, List.map_nil]); first | done | rfl | (simp only [List.length_drop, List.length_take]; rfl)) ?_; (with_reducible refine (vector_Encode.calls _ _ t175 t179 t180 _ ?side1 ?side2 A2.out).mono ?_); (case side1 => exact sC HO178); (case side2 => exact sN HO178); rintro e w115 ⟨rfl, hb⟩; refine ⟨_, rfl, ?_⟩; have n0_ := sBe HO171 hb; have n1_ := sBe HO174 hb; have n2_ := sBe HO178 hb; have n3_ := sSt HB hb; clear HO171; clear HO174; clear HO178; clear HB; have HO171 := n0_; have HO174 := n1_; have HO178 := n2_; have HB := n3_; clear n0_ n1_ n2_ n3_; (try clear hb); (try clear hb2); (try clear hk); (try clear hi)) | ((with_reducible refine gate_callee (f := 28) rfl ?_); refine goesL_ (some 28) rfl rfl Try.func28 (by kernel_rfl) rfl #[.string t179] rfl (by (try simp only [List.map_toArray, List.map_cons, List.map_nil]); first | done | rfl | (simp only [List.length_drop, List.length_take]; rfl)) ?_; (with_reducible refine (vector_Decode.calls k t179 t181 t182 _ A3.out).mono ?_); rintro e w116 ⟨v183, rfl, ho0, hb⟩; refine ⟨_, rfl, ?_⟩; have n0_ := sEl HO171 (Kd.R_base ho0) hb; have n1_ := sEl HO174 (Kd.R_base ho0) hb; have n2_ := sEl HO178 (Kd.R_base ho0) hb; have n3_ := Aside0.mk (Kd.R_lower (Kd.R_new' (Kd.R_new' (Kd.R_new' ho0 (sLt HO171)) (sLt HO174)) (sLt HO178)) (sSz HB)); have n4_ := sSt HB hb; clear HO171; clear HO174; clear HO178; clear HB; have HO171 := n0_; have HO174 := n1_; have HO178 := n2_; have HO184 := n3_; have HB := n4_; clear n0_ n1_ n2_ n3_ n4_; (try clear hb); (try clear hb2); (try clear hk); (try clear hi); (try clear ho0)))
  go_ret
  exact ⟨by first | rfl | (simp [errW_none, errW_some] <;> rfl) | (simp [*, errW_none, errW_some] <;> rfl), by repeat (first | (with_reducible first | exact HB.out | apply below_alloc | apply pw_below_drewN | apply below_drew1) | exact HB.out)⟩
/-! ### concordlaw10_made: function 39 -/
mutual
def concordlaw10_made.l0 : Nat → List (S35) → Int → List (S35) → Int → Option ((List (S35)))
 | 0, _, _, _, _ => none
 | k + 1, x0, x1, x5, x6 => if x6 < (x0.length : Int) then (concordlaw10_made.j1 k x0 x1 x5 x6 (decide ((x5.length : Int) < x1))) else (concordlaw10_made.j1 k x0 x1 x5 x6 false)
def concordlaw10_made.j1 : Nat → List (S35) → Int → List (S35) → Int → Bool → Option ((List (S35)))
 | 0, _, _, _, _, _ => none
 | k + 1, x0, x1, x5, x6, x19 => if x19 = true then (if 0 ≤ x6 then (if x6 < (x0.length : Int) then (concordlaw10_made.l1 k x0 x1 x5 x6 0 ((rd_T35 x0 x6).f0) (IntKind.u64.wrap ((Int.tmod ((rd_T35 x0 x6).f1) 1099511627776) + 1))) else (none)) else (none)) else (some x5)
def concordlaw10_made.j3 : Nat → List (S35) → Int → List (S35) → Int → Int → Int → Int → Option ((List (S35)))
 | 0, _, _, _, _, _, _, _ => none
 | k + 1, x0, x1, x5, x6, x8, x195000, x195001 => if x8 < (x5.length : Int) then (if 0 ≤ x8 then (concordlaw10_made.j4 k x0 x1 x5 x6 x8 (((rd_T35 x5 x8).f0) == x195000) x195000 x195001) else (none)) else (concordlaw10_made.j4 k x0 x1 x5 x6 x8 false x195000 x195001)
def concordlaw10_made.j4 : Nat → List (S35) → Int → List (S35) → Int → Int → Bool → Int → Int → Option ((List (S35)))
 | 0, _, _, _, _, _, _, _, _ => none
 | k + 1, x0, x1, x5, x6, x8, x64, x195000, x195001 => if x64 = true then (concordlaw10_made.l0 k x0 x1 x5 (wrap64 (x6 + 1))) else (if x5.length < 8796093022208 then ((some (x5 ++ [(⟨x195000, x195001⟩ : S35)] : List (S35))).bind fun y197 => (concordlaw10_made.l2 k x0 x1 y197 x6 x8 (wrap64 ((y197.length : Int) - 1)) x195000 x195001)) else (none))
def concordlaw10_made.l2 : Nat → List (S35) → Int → List (S35) → Int → Int → Int → Int → Int → Option ((List (S35)))
 | 0, _, _, _, _, _, _, _, _ => none
 | k + 1, x0, x1, x5, x6, x8, x9, x195000, x195001 => if x9 > x8 then (if 0 ≤ (wrap64 (x9 - 1)) then (if (wrap64 (x9 - 1)) < (x5.length : Int) then (if 0 ≤ x9 then (if x9 < (x5.length : Int) then (concordlaw10_made.l2 k x0 x1 (x5.set (x9 : Int).toNat (⟨(rd_T35 x5 (wrap64 (x9 - 1))).f0, (rd_T35 x5 (wrap64 (x9 - 1))).f1⟩ : S35)) x6 x8 (wrap64 (x9 - 1)) x195000 x195001) else (none)) else (none)) else (none)) else (none)) else (if 0 ≤ x8 then (if x8 < (x5.length : Int) then (concordlaw10_made.l0 k x0 x1 (x5.set (x8 : Int).toNat (⟨x195000, x195001⟩ : S35)) (wrap64 (x6 + 1))) else (none)) else (none))
def concordlaw10_made.l1 : Nat → List (S35) → Int → List (S35) → Int → Int → Int → Int → Option ((List (S35)))
 | 0, _, _, _, _, _, _, _ => none
 | k + 1, x0, x1, x5, x6, x8, x195000, x195001 => if x8 < (x5.length : Int) then (if 0 ≤ x8 then (if ((rd_T35 x5 x8).f0) < x195000 then (concordlaw10_made.l1 k x0 x1 x5 x6 (wrap64 (x8 + 1)) x195000 x195001) else (concordlaw10_made.j3 k x0 x1 x5 x6 x8 x195000 x195001)) else (none)) else (concordlaw10_made.j3 k x0 x1 x5 x6 x8 x195000 x195001)
end
def concordlaw10_made.f (k : Nat) (l0 : List (S35)) (a1 : Int) : Option ((List (S35))) := concordlaw10_made.l0 k l0 a1 ([] : List (S35)) 0
theorem concordlaw10_made.mono_l : ∀ k, (∀ y0 y1 y2 y3, LeO (concordlaw10_made.l0 k y0 y1 y2 y3) (concordlaw10_made.l0 (k + 1) y0 y1 y2 y3)) ∧ (∀ y0 y1 y2 y3 y4, LeO (concordlaw10_made.j1 k y0 y1 y2 y3 y4) (concordlaw10_made.j1 (k + 1) y0 y1 y2 y3 y4)) ∧ (∀ y0 y1 y2 y3 y4 y5 y6, LeO (concordlaw10_made.j3 k y0 y1 y2 y3 y4 y5 y6) (concordlaw10_made.j3 (k + 1) y0 y1 y2 y3 y4 y5 y6)) ∧ (∀ y0 y1 y2 y3 y4 y5 y6 y7, LeO (concordlaw10_made.j4 k y0 y1 y2 y3 y4 y5 y6 y7) (concordlaw10_made.j4 (k + 1) y0 y1 y2 y3 y4 y5 y6 y7)) ∧ (∀ y0 y1 y2 y3 y4 y5 y6 y7, LeO (concordlaw10_made.l2 k y0 y1 y2 y3 y4 y5 y6 y7) (concordlaw10_made.l2 (k + 1) y0 y1 y2 y3 y4 y5 y6 y7)) ∧ (∀ y0 y1 y2 y3 y4 y5 y6, LeO (concordlaw10_made.l1 k y0 y1 y2 y3 y4 y5 y6) (concordlaw10_made.l1 (k + 1) y0 y1 y2 y3 y4 y5 y6))
 | 0 => ⟨fun _ _ _ _ r h => by simp [concordlaw10_made.l0] at h, fun _ _ _ _ _ r h => by simp [concordlaw10_made.j1] at h, fun _ _ _ _ _ _ _ r h => by simp [concordlaw10_made.j3] at h, fun _ _ _ _ _ _ _ _ r h => by simp [concordlaw10_made.j4] at h, fun _ _ _ _ _ _ _ _ r h => by simp [concordlaw10_made.l2] at h, fun _ _ _ _ _ _ _ r h => by simp [concordlaw10_made.l1] at h⟩
 | k + 1 => by
  obtain ⟨ih0, ih1, ih2, ih3, ih4, ih5⟩ := concordlaw10_made.mono_l k
  refine ⟨?_, ?_, ?_, ?_, ?_, ?_⟩
  ·intro y0 y1 y2 y3
   unfold concordlaw10_made.l0
   repeat' first
   | (with_reducible exact ih0 _ _ _ _)
   | (with_reducible exact ih1 _ _ _ _ _)
   | (with_reducible exact ih2 _ _ _ _ _ _ _)
   | (with_reducible exact ih3 _ _ _ _ _ _ _ _)
   | (with_reducible exact ih4 _ _ _ _ _ _ _ _)
   | (with_reducible exact ih5 _ _ _ _ _ _ _)
   | (with_reducible exact LeO.refl _)
   | (with_reducible exact LeO.none _)
   | (with_reducible refine LeO.ite ?_ ?_)
   | (with_reducible refine LeO.bind ?_ (fun _ => ?_))
   | exact ih0 _ _ _ _
   | exact ih1 _ _ _ _ _
   | exact ih2 _ _ _ _ _ _ _
   | exact ih3 _ _ _ _ _ _ _ _
   | exact ih4 _ _ _ _ _ _ _ _
   | exact ih5 _ _ _ _ _ _ _
   | exact LeO.none _
   | refine LeO.ite ?_ ?_
   | refine LeO.bind ?_ (fun _ => ?_)
  ·intro y0 y1 y2 y3 y4
   unfold concordlaw10_made.j1
   repeat' first
   | (with_reducible exact ih0 _ _ _ _)
   | (with_reducible exact ih1 _ _ _ _ _)
   | (with_reducible exact ih2 _ _ _ _ _ _ _)
   | (with_reducible exact ih3 _ _ _ _ _ _ _ _)
   | (with_reducible exact ih4 _ _ _ _ _ _ _ _)
   | (with_reducible exact ih5 _ _ _ _ _ _ _)
   | (with_reducible exact LeO.refl _)
   | (with_reducible exact LeO.none _)
   | (with_reducible refine LeO.ite ?_ ?_)
   | (with_reducible refine LeO.bind ?_ (fun _ => ?_))
   | exact ih0 _ _ _ _
   | exact ih1 _ _ _ _ _
   | exact ih2 _ _ _ _ _ _ _
   | exact ih3 _ _ _ _ _ _ _ _
   | exact ih4 _ _ _ _ _ _ _ _
   | exact ih5 _ _ _ _ _ _ _
   | exact LeO.none _
   | refine LeO.ite ?_ ?_
   | refine LeO.bind ?_ (fun _ => ?_)
  ·intro y0 y1 y2 y3 y4 y5 y6
   unfold concordlaw10_made.j3
   repeat' first
   | (with_reducible exact ih0 _ _ _ _)
   | (with_reducible exact ih1 _ _ _ _ _)
   | (with_reducible exact ih2 _ _ _ _ _ _ _)
   | (with_reducible exact ih3 _ _ _ _ _ _ _ _)
   | (with_reducible exact ih4 _ _ _ _ _ _ _ _)
   | (with_reducible exact ih5 _ _ _ _ _ _ _)
   | (with_reducible exact LeO.refl _)
   | (with_reducible exact LeO.none _)
   | (with_reducible refine LeO.ite ?_ ?_)
   | (with_reducible refine LeO.bind ?_ (fun _ => ?_))
   | exact ih0 _ _ _ _
   | exact ih1 _ _ _ _ _
   | exact ih2 _ _ _ _ _ _ _
   | exact ih3 _ _ _ _ _ _ _ _
   | exact ih4 _ _ _ _ _ _ _ _
   | exact ih5 _ _ _ _ _ _ _
   | exact LeO.none _
   | refine LeO.ite ?_ ?_
   | refine LeO.bind ?_ (fun _ => ?_)
  ·intro y0 y1 y2 y3 y4 y5 y6 y7
   unfold concordlaw10_made.j4
   repeat' first
   | (with_reducible exact ih0 _ _ _ _)
   | (with_reducible exact ih1 _ _ _ _ _)
   | (with_reducible exact ih2 _ _ _ _ _ _ _)
   | (with_reducible exact ih3 _ _ _ _ _ _ _ _)
   | (with_reducible exact ih4 _ _ _ _ _ _ _ _)
   | (with_reducible exact ih5 _ _ _ _ _ _ _)
   | (with_reducible exact LeO.refl _)
   | (with_reducible exact LeO.none _)
   | (with_reducible refine LeO.ite ?_ ?_)
   | (with_reducible refine LeO.bind ?_ (fun _ => ?_))
   | exact ih0 _ _ _ _
   | exact ih1 _ _ _ _ _
   | exact ih2 _ _ _ _ _ _ _
   | exact ih3 _ _ _ _ _ _ _ _
   | exact ih4 _ _ _ _ _ _ _ _
   | exact ih5 _ _ _ _ _ _ _
   | exact LeO.none _
   | refine LeO.ite ?_ ?_
   | refine LeO.bind ?_ (fun _ => ?_)
  ·intro y0 y1 y2 y3 y4 y5 y6 y7
   unfold concordlaw10_made.l2
   repeat' first
   | (with_reducible exact ih0 _ _ _ _)
   | (with_reducible exact ih1 _ _ _ _ _)
   | (with_reducible exact ih2 _ _ _ _ _ _ _)
   | (with_reducible exact ih3 _ _ _ _ _ _ _ _)
   | (with_reducible exact ih4 _ _ _ _ _ _ _ _)
   | (with_reducible exact ih5 _ _ _ _ _ _ _)
   | (with_reducible exact LeO.refl _)
   | (with_reducible exact LeO.none _)
   | (with_reducible refine LeO.ite ?_ ?_)
   | (with_reducible refine LeO.bind ?_ (fun _ => ?_))
   | exact ih0 _ _ _ _
   | exact ih1 _ _ _ _ _
   | exact ih2 _ _ _ _ _ _ _
   | exact ih3 _ _ _ _ _ _ _ _
   | exact ih4 _ _ _ _ _ _ _ _
   | exact ih5 _ _ _ _ _ _ _
   | exact LeO.none _
   | refine LeO.ite ?_ ?_
   | refine LeO.bind ?_ (fun _ => ?_)
  ·intro y0 y1 y2 y3 y4 y5 y6
   unfold concordlaw10_made.l1
   repeat' first
   | (with_reducible exact ih0 _ _ _ _)
   | (with_reducible exact ih1 _ _ _ _ _)
   | (with_reducible exact ih2 _ _ _ _ _ _ _)
   | (with_reducible exact ih3 _ _ _ _ _ _ _ _)
   | (with_reducible exact ih4 _ _ _ _ _ _ _ _)
   | (with_reducible exact ih5 _ _ _ _ _ _ _)
   | (with_reducible exact LeO.refl _)
   | (with_reducible exact LeO.none _)
   | (with_reducible refine LeO.ite ?_ ?_)
   | (with_reducible refine LeO.bind ?_ (fun _ => ?_))
   | exact ih0 _ _ _ _
   | exact ih1 _ _ _ _ _
   | exact ih2 _ _ _ _ _ _ _
   | exact ih3 _ _ _ _ _ _ _ _
   | exact ih4 _ _ _ _ _ _ _ _
   | exact ih5 _ _ _ _ _ _ _
   | exact LeO.none _
   | refine LeO.ite ?_ ?_
   | refine LeO.bind ?_ (fun _ => ?_)
theorem concordlaw10_made.mono : ∀ a0 a1 k, LeO (concordlaw10_made.f k a0 a1) (concordlaw10_made.f (k + 1) a0 a1) := by
 intro a0 a1 k
 obtain ⟨ih0, ih1, ih2, ih3, ih4, ih5⟩ := concordlaw10_made.mono_l k
 unfold concordlaw10_made.f
 repeat' first
   | (with_reducible exact ih0 _ _ _ _)
   | (with_reducible exact ih1 _ _ _ _ _)
   | (with_reducible exact ih2 _ _ _ _ _ _ _)
   | (with_reducible exact ih3 _ _ _ _ _ _ _ _)
   | (with_reducible exact ih4 _ _ _ _ _ _ _ _)
   | (with_reducible exact ih5 _ _ _ _ _ _ _)
   | (with_reducible exact LeO.refl _)
   | (with_reducible exact LeO.none _)
   | (with_reducible refine LeO.ite ?_ ?_)
   | (with_reducible refine LeO.bind ?_ (fun _ => ?_))
   | exact ih0 _ _ _ _
   | exact ih1 _ _ _ _ _
   | exact ih2 _ _ _ _ _ _ _
   | exact ih3 _ _ _ _ _ _ _ _
   | exact ih4 _ _ _ _ _ _ _ _
   | exact ih5 _ _ _ _ _ _ _
   | exact LeO.none _
   | refine LeO.ite ?_ ?_
   | refine LeO.bind ?_ (fun _ => ?_)
def concordlaw10_made.T5 : Bool × List (List Nat × List Nat) := (true, [([], []), ([], []), ([0, 1], [0, 1]), ([2], [2]), ([3], [3]), ([], []), ([], []), ([5, 6], [5, 6]), ([7], [7]), ([8], [8]), ([9], [9]), ([10], [10]), ([4, 11], [4, 11]), ([], []), ([13, 12, 0, 1, 2, 3, 4, 5, 6, 7, 8, 9, 10, 11, 12, 13], [12, 13])])
def concordlaw10_made.B5 : List Nat := [0, 0, 3, 7, 15, 0, 0, 96, 224, 480, 992, 2016, 4095, 0, 16383]
theorem concordlaw10_made.tab5 : rtab .any (opsOf Try.f39 5) = concordlaw10_made.T5 := by kernel_rfl
theorem concordlaw10_made.bits5 : waitsOk concordlaw10_made.T5.2 concordlaw10_made.B5 = true := by kernel_rfl
def concordlaw10_made.T7 : Bool × List (List Nat × List Nat) := (true, [([], []), ([], []), ([1], [1]), ([0, 2], [0, 2]), ([3], [3]), ([4], [4]), ([4], [4]), ([5, 6, 4], [4, 5, 6]), ([7, 4], [4, 7]), ([8, 4], [4, 8]), ([4], [4]), ([10, 4], [4, 10]), ([9, 11, 4], [4, 9, 11]), ([4, 12], [4, 12])])
def concordlaw10_made.B7 : List Nat := [0, 0, 2, 7, 15, 31, 31, 127, 255, 511, 31, 1055, 4095, 8191]
theorem concordlaw10_made.tab7 : rtab .any (opsOf Try.f39 7) = concordlaw10_made.T7 := by kernel_rfl
theorem concordlaw10_made.bits7 : waitsOk concordlaw10_made.T7.2 concordlaw10_made.B7 = true := by kernel_rfl
def concordlaw10_made.T9 : Bool × List (List Nat × List Nat) := (true, [([], []), ([], []), ([1], [1]), ([0, 2], [0, 2]), ([3], [3]), ([4], [4]), ([4], [4]), ([5, 6, 4], [4, 5, 6]), ([7, 4], [4, 7]), ([8, 4], [4, 8]), ([4], [4]), ([10, 4], [4, 10]), ([9, 11, 4], [4, 9, 11]), ([4, 12], [4, 12])])
def concordlaw10_made.B9 : List Nat := [0, 0, 2, 7, 15, 31, 31, 127, 255, 511, 31, 1055, 4095, 8191]
theorem concordlaw10_made.tab9 : rtab .any (opsOf Try.f39 9) = concordlaw10_made.T9 := by kernel_rfl
theorem concordlaw10_made.bits9 : waitsOk concordlaw10_made.T9.2 concordlaw10_made.B9 = true := by kernel_rfl
set_option maxHeartbeats 8000000 in
set_option maxRecDepth 100000 in
theorem concordlaw10_made.calls (k : Nat) (A0 : Option Addr) (c0 : Nat) (l0 : List (S35)) (a1 : Int) (r : List (S35)) (w : World) (hr0 : Kd.C k35 w A0 l0.length l0) (hc0 : l0.length ≤ c0) (h : concordlaw10_made.f k l0 a1 = some r) :
  Calls Try.prog 39 #[.slice A0 l0.length c0, .int .i64 a1] w fun e w' => ∃ v0_ : Value, e = .returned (v0_) ∧ Kd.R k35 35 w' w.heap.size (fun _ => True) v0_ r ∧ Below w.heap.size w w' := by
 have hu35 := Try.underlying35
 have HR0 := Aside0.mk hr0
 have HC0 := Aside0.mk hc0
 clear hr0 hc0
 have HB := Aside0.mk (Below.refl w.heap.size w)
 have H : (concordlaw10_made.l0 k l0 a1 ([] : List (S35)) 0) = some r := h
 clear h
 have H' := Aside0.mk H
 clear H
 go_enter Try.func39, Try.ntmps39
 go_wp2
 go_loopg [5, 6] k (fun kq v5 v6 w' => ∃ (x5_1 : List (S35)) (x6_1 : Int), v6 = .int .i64 x6_1 ∧ Aside0 (concordlaw10_made.l0 kq l0 a1 x5_1 x6_1 = some r) ∧ Aside0 (kq ≤ k) ∧ Aside0 (Kd.R k35 35 w' w.heap.size (fun _ => True) v5 x5_1) ∧ Aside0 (Below w.heap.size w w'))
 case atStart => exact ⟨(([] : List (S35))), (0), (by first | rfl | (simp; done) | (simp [*]; done)), H', ⟨Nat.le_refl _⟩, ⟨by first | exact Kd.R_nil _ _ _ _ _ | exact Kd.N_nil _ _ _ _ _ | exact Kd.V_nil _ _ _ _ _ | exact Kd.Q_nil _ _ _ _ _ | exact Kd.S_nil _ _ _ _ _⟩, ⟨by repeat (first | (with_reducible first | exact HB.out | apply below_alloc | apply pw_below_drewN | apply below_drew1) | exact HB.out)⟩⟩
 case round =>
  clear H'
  try clear p2
  obtain ⟨x5_1, x6_1, rfl, HA, HK1, HO_5, HB⟩ := hrel
  cases gk with
  | zero => exact absurd HA.out (by simp [concordlaw10_made.l0])
  | succ k1 =>
   have H := HA.out
   clear HA
   simp only [concordlaw10_made.l0] at H
   have HC3 := Aside0.mk H
   clear H
   go_upto_region 3 with (fail)
   go_cut [19] (fun v19 wc => ∃ (kq : Nat) (x19_2 : Bool), v19 = .bool x19_2 ∧ Aside0 (concordlaw10_made.j1 kq l0 a1 x5_1 x6_1 x19_2 = some r) ∧ Aside0 (kq ≤ k1) ∧ Aside0 (Kd.R k35 35 wc w.heap.size (fun _ => True) u5 x5_1) ∧ Aside0 (Below w.heap.size w wc))
   case first =>
    have H := HC3.out
    clear HC3
    by_cases c4 : x6_1 < (l0.length : Int)
    ·rw [if_pos c4] at H
     have c4b0 : decide (x6_1 < (l0.length : Int)) = true := decide_eq_true c4
     clear c4
     (first | rw [c4b0] | (simp only [i64_w, i32_w]; rw [c4b0]) | skip)
     have H' := Aside0.mk H
     clear H
     obtain ⟨Ao5, co5, eo5⟩ := Kd.R_slice HO_5.out
     subst eo5
     go_wp2
     go_meet
     case rel => exact ⟨_, (decide ((x5_1.length : Int) < a1)), (by first | rfl | (simp; done) | (simp [*]; done)), H', ⟨by have := HK1.out; first | omega | exact Nat.le_refl _⟩, ⟨by (with_reducible repeat (first | apply Kd.R_alloc | apply Kd.R_drewN | apply Kd.R_drew)); exact HO_5.out⟩, ⟨by repeat (first | (with_reducible first | exact HB.out | apply below_alloc | apply pw_below_drewN | apply below_drew1) | exact HB.out)⟩⟩
    ·rw [if_neg c4] at H
     have c4b0 : decide (x6_1 < (l0.length : Int)) = false := decide_eq_false c4
     clear c4
     (first | rw [c4b0] | (simp only [i64_w, i32_w]; rw [c4b0]) | skip)
     have H' := Aside0.mk H
     clear H
     go_wp2
     go_meet
     case rel => exact ⟨_, (false), (by first | rfl | (simp; done) | (simp [*]; done)), H', ⟨by have := HK1.out; first | omega | exact Nat.le_refl _⟩, ⟨by (with_reducible repeat (first | apply Kd.R_alloc | apply Kd.R_drewN | apply Kd.R_drew)); exact HO_5.out⟩, ⟨by repeat (first | (with_reducible first | exact HB.out | apply below_alloc | apply pw_below_drewN | apply below_drew1) | exact HB.out)⟩⟩
   case rest =>
    clear HC3
    try clear p2
    try clear c3
    try clear c4
    try clear c4b0
    try clear p2
    obtain ⟨kq, x19_2, rfl, HA, HJ2, HO_5, HB⟩ := hcut
    cases kq with
    | zero => exact absurd HA.out (by simp [concordlaw10_made.j1])
    | succ kj2 =>
     have H := HA.out
     clear HA
     simp only [concordlaw10_made.j1] at H
     by_cases c6 : x19_2 = true
     ·subst c6
      have H1 : (if 0 ≤ x6_1 then (if x6_1 < (l0.length : Int) then (concordlaw10_made.l1 kj2 l0 a1 x5_1 x6_1 0 ((rd_T35 l0 x6_1).f0) (IntKind.u64.wrap ((Int.tmod ((rd_T35 l0 x6_1).f1) 1099511627776) + 1))) else (none)) else (none)) = some r := by rw [if_pos rfl] at H; exact H
      clear H
      have H := H1
      clear H1
      by_cases c7 : 0 ≤ x6_1
      ·rw [if_pos c7] at H
       have c7b0 : decide (0 ≤ x6_1) = true := decide_eq_true c7
       clear c7
       by_cases c8 : x6_1 < (l0.length : Int)
       ·rw [if_pos c8] at H
        have c8b0 : decide (x6_1 < (l0.length : Int)) = true := decide_eq_true c8
        clear c8
        have HC9 := Aside0.mk H
        clear H
        try go_wp2
        have n0_ := Aside0.mk (Kd.R_drew HO_5.out)
        have n1_ := Aside0.mk (below_drew1 HB.out)
        clear HO_5
        clear HB
        have HO_5 := n0_
        have HB := n1_
        clear n0_ n1_
        have p192 : 0 ≤ (x6_1 : Int) := of_decide_eq_true (by first | (with_reducible assumption) | assumption)
        have q192 : x6_1 < (l0.length : Int) := of_decide_eq_true (by first | (with_reducible assumption) | assumption)
        obtain ⟨ad192, e192, hx192_0, hx192_1⟩ := at_T35 HR0.out x6_1 p192 q192
        have hw192_1 := hx192_1
        have hw192_0 := hx192_0
        cases e192
        replace hx192_0 := (HB.out.cell (World.block_lt_of_cell? w _ hx192_0)).trans hx192_0
        replace hx192_1 := (HB.out.cell (World.block_lt_of_cell? w _ hx192_1)).trans hx192_1
        replace p192 := eq_true p192
        replace q192 := eq_true q192
        have p193 : 0 ≤ (x6_1 : Int) := of_decide_eq_true (by first | (with_reducible assumption) | assumption)
        have q193 : x6_1 < (l0.length : Int) := of_decide_eq_true (by first | (with_reducible assumption) | assumption)
        obtain ⟨ad193, e193, hx193_0, hx193_1⟩ := at_T35 HR0.out x6_1 p193 q193
        have hw193_1 := hx193_1
        have hw193_0 := hx193_0
        obtain rfl : ad192 = ad193 := (by injection e193)
        replace hx193_0 := (HB.out.cell (World.block_lt_of_cell? w _ hx193_0)).trans hx193_0
        replace hx193_1 := (HB.out.cell (World.block_lt_of_cell? w _ hx193_1)).trans hx193_1
        replace p193 := eq_true p193
        replace q193 := eq_true q193
        refine start_ (n := 15) (S := fun w' => w'.cell? (ad192.add ((x6_1).toNat * 2)) = some (.int .u32 ((rd_T35 l0 x6_1).f0)) ∧ w'.cell? ⟨(ad192.add ((x6_1).toNat * 2)).block, (ad192.add ((x6_1).toNat * 2)).off + 1, none⟩ = some (.int .u64 ((rd_T35 l0 x6_1).f1)) ∧ w'.cell? (ad192.add ((x6_1).toNat * 2)) = some (.int .u32 ((rd_T35 l0 x6_1).f0)) ∧ w'.cell? ⟨(ad192.add ((x6_1).toNat * 2)).block, (ad192.add ((x6_1).toNat * 2)).off + 1, none⟩ = some (.int .u64 ((rd_T35 l0 x6_1).f1))) (ds := []) #[false, false, false, false, false, false, false, false, false, false, false, false, false, false, false] (by kernel_rfl) rfl rfl ⟨((HB.out.cell (World.block_lt_of_cell? w _ hw192_0)).trans hw192_0), ((HB.out.cell (World.block_lt_of_cell? w _ hw192_1)).trans hw192_1), ((HB.out.cell (World.block_lt_of_cell? w _ hw193_0)).trans hw193_0), ((HB.out.cell (World.block_lt_of_cell? w _ hw193_1)).trans hw193_1)⟩ (fun hHeld => ?_); refine with_tabW concordlaw10_made.tab5 concordlaw10_made.bits5 (fun HT_ HW_ => ?_)
        generalize wc.drew = w10 at HO_5 HB hx192_0 hx192_1 hx193_0 hx193_1 hHeld ⊢
        refine pure_ (i := 0) (N := some 22) (v := ?_) (a' := ?_) #[true, false, false, false, false, false, false, false, false, false, false, false, false, false, false] rfl rfl (any_of HT_.out (by kernel_rfl)) (fun _ _ _ h => h) (Or.inl ⟨by rfl, ?_⟩) ?_ ?_
        rotate_left
        ·intro w'
         go_simp
         with_reducible rfl
        rotate_left
        ·simp only [Act.put, List.setIfInBounds_toArray, List.set_cons_zero, List.set_cons_succ, i64_w, i32_w]
         rfl
        refine pure_ (i := 1) (N := some 23) (v := ?_) (a' := ?_) #[true, true, false, false, false, false, false, false, false, false, false, false, false, false, false] rfl rfl (any_of HT_.out (by kernel_rfl)) (fun _ _ _ h => h) (Or.inl ⟨by rfl, ?_⟩) ?_ ?_
        rotate_left
        ·intro w'
         go_simp
         with_reducible rfl
        rotate_left
        ·simp only [Act.put, List.setIfInBounds_toArray, List.set_cons_zero, List.set_cons_succ, i64_w, i32_w]
         rfl
        refine pure_ (i := 2) (N := some 24) (v := ?_) (a' := ?_) #[true, true, true, false, false, false, false, false, false, false, false, false, false, false, false] rfl rfl (any_of HT_.out (by kernel_rfl)) (fun _ _ _ h => h) (Or.inl ⟨by rfl, ?_⟩) ?_ ?_
        rotate_left
        ·intro w'
         go_simp
         with_reducible rfl
        rotate_left
        ·simp only [Act.put, List.setIfInBounds_toArray, List.set_cons_zero, List.set_cons_succ, i64_w, i32_w]
         rfl
        refine pure_ (i := 3) (N := some 25) (v := ?_) (a' := ?_) #[true, true, true, true, false, false, false, false, false, false, false, false, false, false, false] rfl rfl (any_of HT_.out (by kernel_rfl)) (fun _ _ _ h => h) (Or.inl ⟨by rfl, ?_⟩) ?_ ?_
        rotate_left
        ·intro w'
         go_simp
         with_reducible rfl
        rotate_left
        ·simp only [Act.put, List.setIfInBounds_toArray, List.set_cons_zero, List.set_cons_succ, i64_w, i32_w]
         rfl
        refine pure_ (i := 5) (N := some 27) (v := ?_) (a' := ?_) #[true, true, true, true, false, true, false, false, false, false, false, false, false, false, false] rfl rfl (any_of HT_.out (by kernel_rfl)) (fun _ _ _ h => h) (Or.inl ⟨by rfl, ?_⟩) ?_ ?_
        rotate_left
        ·intro w'
         go_simp
         with_reducible rfl
        rotate_left
        ·simp only [Act.put, List.setIfInBounds_toArray, List.set_cons_zero, List.set_cons_succ, i64_w, i32_w]
         rfl
        refine pure_ (i := 6) (N := some 28) (v := ?_) (a' := ?_) #[true, true, true, true, false, true, true, false, false, false, false, false, false, false, false] rfl rfl (any_of HT_.out (by kernel_rfl)) (fun _ _ _ h => h) (Or.inl ⟨by rfl, ?_⟩) ?_ ?_
        rotate_left
        ·intro w'
         go_simp
         with_reducible rfl
        rotate_left
        ·simp only [Act.put, List.setIfInBounds_toArray, List.set_cons_zero, List.set_cons_succ, i64_w, i32_w]
         rfl
        refine pure_ (i := 7) (N := some 29) (v := ?_) (a' := ?_) #[true, true, true, true, false, true, true, true, false, false, false, false, false, false, false] rfl rfl (any_of HT_.out (by kernel_rfl)) (fun _ _ _ h => h) (Or.inl ⟨by rfl, ?_⟩) ?_ ?_
        rotate_left
        ·intro w'
         go_simp
         with_reducible rfl
        rotate_left
        ·simp only [Act.put, List.setIfInBounds_toArray, List.set_cons_zero, List.set_cons_succ, i64_w, i32_w]
         rfl
        refine pure_ (i := 8) (N := some 30) (v := ?_) (a' := ?_) #[true, true, true, true, false, true, true, true, true, false, false, false, false, false, false] rfl rfl (any_of HT_.out (by kernel_rfl)) (fun _ _ _ h => h) (Or.inl ⟨by rfl, ?_⟩) ?_ ?_
        rotate_left
        ·intro w'
         go_simp
         with_reducible rfl
        rotate_left
        ·simp only [Act.put, List.setIfInBounds_toArray, List.set_cons_zero, List.set_cons_succ, i64_w, i32_w]
         rfl
        refine take_ (i := 4) (N := some 26) (v := ?_) (a' := ?_) #[true, true, true, true, true, true, true, true, true, false, false, false, false, false, false] rfl rfl (take_ofW HT_.out HW_.out (by kernel_rfl)) (fun _ _ _ h => h) (Or.inl ⟨by rfl, ?_⟩) hHeld ?_ ?_
        rotate_left
        ·rintro w' ⟨s0, s1, s2, s3⟩
         go_simp
         with_reducible rfl
        rotate_left
        ·simp only [Act.put, List.setIfInBounds_toArray, List.set_cons_zero, List.set_cons_succ, i64_w, i32_w]
         rfl
        refine take_ (i := 9) (N := some 31) (v := ?_) (a' := ?_) #[true, true, true, true, true, true, true, true, true, true, false, false, false, false, false] rfl rfl (take_ofW HT_.out HW_.out (by kernel_rfl)) (fun _ _ _ h => h) (Or.inl ⟨by rfl, ?_⟩) hHeld ?_ ?_
        rotate_left
        ·rintro w' ⟨s0, s1, s2, s3⟩
         go_simp
         with_reducible rfl
        rotate_left
        ·simp only [Act.put, List.setIfInBounds_toArray, List.set_cons_zero, List.set_cons_succ, i64_w, i32_w]
         rfl
        refine pure_ (i := 10) (N := some 32) (v := ?_) (a' := ?_) #[true, true, true, true, true, true, true, true, true, true, true, false, false, false, false] rfl rfl (any_of HT_.out (by kernel_rfl)) (fun _ _ _ h => h) (Or.inl ⟨by rfl, ?_⟩) ?_ ?_
        rotate_left
        ·intro w'
         go_simp
         with_reducible rfl
        rotate_left
        ·simp only [Act.put, List.setIfInBounds_toArray, List.set_cons_zero, List.set_cons_succ, i64_w, i32_w]
         rfl
        refine pure_ (i := 11) (N := some 33) (v := ?_) (a' := ?_) #[true, true, true, true, true, true, true, true, true, true, true, true, false, false, false] rfl rfl (any_of HT_.out (by kernel_rfl)) (fun _ _ _ h => h) (Or.inl ⟨by rfl, ?_⟩) ?_ ?_
        rotate_left
        ·intro w'
         go_simp
         with_reducible rfl
        rotate_left
        ·simp only [Act.put, List.setIfInBounds_toArray, List.set_cons_zero, List.set_cons_succ, i64_w, i32_w]
         rfl
        refine pure_ (i := 12) (N := some 34) (v := ?_) (a' := ?_) #[true, true, true, true, true, true, true, true, true, true, true, true, true, false, false] rfl rfl (any_of HT_.out (by kernel_rfl)) (fun _ _ _ h => h) (Or.inl ⟨by rfl, ?_⟩) ?_ ?_
        rotate_left
        ·intro w'
         go_simp
         with_reducible rfl
        rotate_left
        ·simp only [Act.put, List.setIfInBounds_toArray, List.set_cons_zero, List.set_cons_succ, i64_w, i32_w]
         rfl
        refine one_ (i := 13) (N := some 7) #[true, true, true, true, true, true, true, true, true, true, true, true, true, true, false] rfl rfl (one_of HT_.out (by kernel_rfl)) (by decide) (fun K hK => ?_)
        refine box_step ?hg (N := 7) ?hd (cs := #[.int .u32 0, .int .u64 0]) (t := 35) ?hr ?_; (case hd => rfl); (case hg => rfl); (case hr => first | (go_simp; done) | (go_simp; rfl))
        intro gb194 hg w11 hbox hb
        have n0_ := Aside0.mk (Kd.R_below (Kd.R_elderB (by (with_reducible repeat (first | apply Kd.R_alloc | apply Kd.R_drewN | apply Kd.R_drew)); exact HO_5.out) gb194 (Nat.le_of_eq hg.symm)) hb)
        have n1_ := sSt HB hb
        have n2_ := Aside0.mk (hbox)
        have n3_ := Aside0.mk ((by rw [hg]; exact (sSz HB) : w.heap.size ≤ gb194))
        have n4_ := Aside0.mk ((by rw [hg]; exact (sSz HB) : w.heap.size ≤ gb194))
        clear HO_5
        clear HB
        have HO_5 := n0_
        have HB := n1_
        have BK194 := n2_
        have GW194 := n3_
        have GE194 := n4_
        clear n0_ n1_ n2_ n3_ n4_
        clear hb hbox hg
        refine hK.out _ _ ⟨((HB.out.cell (World.block_lt_of_cell? w _ hw192_0)).trans hw192_0), ((HB.out.cell (World.block_lt_of_cell? w _ hw192_1)).trans hw192_1), ((HB.out.cell (World.block_lt_of_cell? w _ hw193_0)).trans hw193_0), ((HB.out.cell (World.block_lt_of_cell? w _ hw193_1)).trans hw193_1)⟩ (fun hHeld => ?_)
        clear hK K
        refine norm_ (a' := ?_) ?_ ?_
        rotate_left
        ·show Act.put _ (some 7) _ = _
         simp only [Act.put, List.setIfInBounds_toArray, List.set_cons_zero, List.set_cons_succ, i64_w, i32_w]
         rfl
        refine one_ (i := 14) (N := none) #[true, true, true, true, true, true, true, true, true, true, true, true, true, true, true] rfl rfl (one_of HT_.out (by kernel_rfl)) (by decide) (fun K hK => ?_)
        have hs12 : w11.cell? ⟨gb194, 0, none⟩ = some (.int .u32 0) := (blk_cell BK194.out 0).trans rfl
        have hfs12 := blk_frozen BK194.out 0
        have hs13 : w11.cell? ⟨gb194, 1, none⟩ = some (.int .u64 0) := (blk_cell BK194.out 1).trans rfl
        have hfs13 := blk_frozen BK194.out 1
        refine skip_ (w1 := ?_) (by rfl) rfl ?_ ?_
        rotate_left
        ·go_simp
         rfl
        refine hK.out _ _ ⟨((cell_far (p := ⟨gb194, _, none⟩) (by first | exact Nat.ne_of_lt (Nat.lt_of_lt_of_le (by have := World.block_lt_of_cell? _ _ hw192_0; first | rwa [add_block] at this | exact this) GW194.out) | (rw [add_block]; exact Nat.ne_of_lt (Nat.lt_of_lt_of_le (by have := World.block_lt_of_cell? _ _ hw192_0; first | rwa [add_block] at this | exact this) GW194.out)) | (show (Addr.add _ _).block ≠ _; rw [add_block]; exact Nat.ne_of_lt (Nat.lt_of_lt_of_le (by have := World.block_lt_of_cell? _ _ hw192_0; first | rwa [add_block] at this | exact this) GW194.out)) | (dsimp only; exact Nat.ne_of_lt (Nat.lt_of_lt_of_le (by have := World.block_lt_of_cell? _ _ hw192_0; first | rwa [add_block] at this | exact this) GW194.out))) _).trans (((cell_far (p := ⟨gb194, _, none⟩) (by first | exact Nat.ne_of_lt (Nat.lt_of_lt_of_le (by have := World.block_lt_of_cell? _ _ hw192_0; first | rwa [add_block] at this | exact this) GW194.out) | (rw [add_block]; exact Nat.ne_of_lt (Nat.lt_of_lt_of_le (by have := World.block_lt_of_cell? _ _ hw192_0; first | rwa [add_block] at this | exact this) GW194.out)) | (show (Addr.add _ _).block ≠ _; rw [add_block]; exact Nat.ne_of_lt (Nat.lt_of_lt_of_le (by have := World.block_lt_of_cell? _ _ hw192_0; first | rwa [add_block] at this | exact this) GW194.out)) | (dsimp only; exact Nat.ne_of_lt (Nat.lt_of_lt_of_le (by have := World.block_lt_of_cell? _ _ hw192_0; first | rwa [add_block] at this | exact this) GW194.out))) _).trans (hHeld.1)))), ((cell_far (p := ⟨gb194, _, none⟩) (by first | exact Nat.ne_of_lt (Nat.lt_of_lt_of_le (by have := World.block_lt_of_cell? _ _ hw192_1; first | rwa [add_block] at this | exact this) GW194.out) | (rw [add_block]; exact Nat.ne_of_lt (Nat.lt_of_lt_of_le (by have := World.block_lt_of_cell? _ _ hw192_1; first | rwa [add_block] at this | exact this) GW194.out)) | (show (Addr.add _ _).block ≠ _; rw [add_block]; exact Nat.ne_of_lt (Nat.lt_of_lt_of_le (by have := World.block_lt_of_cell? _ _ hw192_1; first | rwa [add_block] at this | exact this) GW194.out)) | (dsimp only; exact Nat.ne_of_lt (Nat.lt_of_lt_of_le (by have := World.block_lt_of_cell? _ _ hw192_1; first | rwa [add_block] at this | exact this) GW194.out))) _).trans (((cell_far (p := ⟨gb194, _, none⟩) (by first | exact Nat.ne_of_lt (Nat.lt_of_lt_of_le (by have := World.block_lt_of_cell? _ _ hw192_1; first | rwa [add_block] at this | exact this) GW194.out) | (rw [add_block]; exact Nat.ne_of_lt (Nat.lt_of_lt_of_le (by have := World.block_lt_of_cell? _ _ hw192_1; first | rwa [add_block] at this | exact this) GW194.out)) | (show (Addr.add _ _).block ≠ _; rw [add_block]; exact Nat.ne_of_lt (Nat.lt_of_lt_of_le (by have := World.block_lt_of_cell? _ _ hw192_1; first | rwa [add_block] at this | exact this) GW194.out)) | (dsimp only; exact Nat.ne_of_lt (Nat.lt_of_lt_of_le (by have := World.block_lt_of_cell? _ _ hw192_1; first | rwa [add_block] at this | exact this) GW194.out))) _).trans (hHeld.2.1)))), ((cell_far (p := ⟨gb194, _, none⟩) (by first | exact Nat.ne_of_lt (Nat.lt_of_lt_of_le (by have := World.block_lt_of_cell? _ _ hw193_0; first | rwa [add_block] at this | exact this) GW194.out) | (rw [add_block]; exact Nat.ne_of_lt (Nat.lt_of_lt_of_le (by have := World.block_lt_of_cell? _ _ hw193_0; first | rwa [add_block] at this | exact this) GW194.out)) | (show (Addr.add _ _).block ≠ _; rw [add_block]; exact Nat.ne_of_lt (Nat.lt_of_lt_of_le (by have := World.block_lt_of_cell? _ _ hw193_0; first | rwa [add_block] at this | exact this) GW194.out)) | (dsimp only; exact Nat.ne_of_lt (Nat.lt_of_lt_of_le (by have := World.block_lt_of_cell? _ _ hw193_0; first | rwa [add_block] at this | exact this) GW194.out))) _).trans (((cell_far (p := ⟨gb194, _, none⟩) (by first | exact Nat.ne_of_lt (Nat.lt_of_lt_of_le (by have := World.block_lt_of_cell? _ _ hw193_0; first | rwa [add_block] at this | exact this) GW194.out) | (rw [add_block]; exact Nat.ne_of_lt (Nat.lt_of_lt_of_le (by have := World.block_lt_of_cell? _ _ hw193_0; first | rwa [add_block] at this | exact this) GW194.out)) | (show (Addr.add _ _).block ≠ _; rw [add_block]; exact Nat.ne_of_lt (Nat.lt_of_lt_of_le (by have := World.block_lt_of_cell? _ _ hw193_0; first | rwa [add_block] at this | exact this) GW194.out)) | (dsimp only; exact Nat.ne_of_lt (Nat.lt_of_lt_of_le (by have := World.block_lt_of_cell? _ _ hw193_0; first | rwa [add_block] at this | exact this) GW194.out))) _).trans (hHeld.2.2.1)))), ((cell_far (p := ⟨gb194, _, none⟩) (by first | exact Nat.ne_of_lt (Nat.lt_of_lt_of_le (by have := World.block_lt_of_cell? _ _ hw193_1; first | rwa [add_block] at this | exact this) GW194.out) | (rw [add_block]; exact Nat.ne_of_lt (Nat.lt_of_lt_of_le (by have := World.block_lt_of_cell? _ _ hw193_1; first | rwa [add_block] at this | exact this) GW194.out)) | (show (Addr.add _ _).block ≠ _; rw [add_block]; exact Nat.ne_of_lt (Nat.lt_of_lt_of_le (by have := World.block_lt_of_cell? _ _ hw193_1; first | rwa [add_block] at this | exact this) GW194.out)) | (dsimp only; exact Nat.ne_of_lt (Nat.lt_of_lt_of_le (by have := World.block_lt_of_cell? _ _ hw193_1; first | rwa [add_block] at this | exact this) GW194.out))) _).trans (((cell_far (p := ⟨gb194, _, none⟩) (by first | exact Nat.ne_of_lt (Nat.lt_of_lt_of_le (by have := World.block_lt_of_cell? _ _ hw193_1; first | rwa [add_block] at this | exact this) GW194.out) | (rw [add_block]; exact Nat.ne_of_lt (Nat.lt_of_lt_of_le (by have := World.block_lt_of_cell? _ _ hw193_1; first | rwa [add_block] at this | exact this) GW194.out)) | (show (Addr.add _ _).block ≠ _; rw [add_block]; exact Nat.ne_of_lt (Nat.lt_of_lt_of_le (by have := World.block_lt_of_cell? _ _ hw193_1; first | rwa [add_block] at this | exact this) GW194.out)) | (dsimp only; exact Nat.ne_of_lt (Nat.lt_of_lt_of_le (by have := World.block_lt_of_cell? _ _ hw193_1; first | rwa [add_block] at this | exact this) GW194.out))) _).trans (hHeld.2.2.2))))⟩ (fun hHeld => ?_)
        clear hK K
        refine done_ (done_of HT_.out (by kernel_rfl)) ?_
        go_upto_block 2 with (fail)
        go_cut [8] (fun v8 wc => ∃ (kq : Nat) (x8_8 : Int), v8 = .int .i64 x8_8 ∧ Aside0 (concordlaw10_made.j3 kq l0 a1 x5_1 x6_1 x8_8 ((rd_T35 l0 x6_1).f0) (IntKind.u64.wrap ((Int.tmod ((rd_T35 l0 x6_1).f1) 1099511627776) + 1)) = some r) ∧ Aside0 (kq ≤ kj2) ∧ Aside0 (Kd.R k35 35 wc w.heap.size (fun k_ => k_ ≠ gb194) u5 x5_1) ∧ Aside0 (wc.heap[gb194]? = some (.cells #[.int .u32 ((rd_T35 l0 x6_1).f0), .int .u64 (IntKind.u64.wrap ((Int.tmod ((rd_T35 l0 x6_1).f1) 1099511627776) + 1))] 35 (0, 0))) ∧ Aside0 (Below w.heap.size w wc))
        case first =>
         have H := HC9.out
         clear HC9
         have H' := Aside0.mk H
         clear H
         go_wp2
         go_loopg [8] kj2 (fun kq v8 w' => ∃ (x8_3 : Int), v8 = .int .i64 x8_3 ∧ Aside0 (concordlaw10_made.l1 kq l0 a1 x5_1 x6_1 x8_3 ((rd_T35 l0 x6_1).f0) (IntKind.u64.wrap ((Int.tmod ((rd_T35 l0 x6_1).f1) 1099511627776) + 1)) = some r) ∧ Aside0 (kq ≤ kj2) ∧ Aside0 (Kd.R k35 35 w' w.heap.size (fun k_ => k_ ≠ gb194) u5 x5_1) ∧ Aside0 (w'.heap[gb194]? = some (.cells #[.int .u32 ((rd_T35 l0 x6_1).f0), .int .u64 (IntKind.u64.wrap ((Int.tmod ((rd_T35 l0 x6_1).f1) 1099511627776) + 1))] 35 (0, 0))) ∧ Aside0 (Below w.heap.size w w'))
         case atStart => exact ⟨(0), (by first | rfl | (simp; done) | (simp [*]; done)), H', ⟨Nat.le_refl _⟩, ⟨by (with_reducible repeat (first | apply Kd.R_alloc | apply Kd.R_drewN | apply Kd.R_drew)); exact Kd.R_mono (Kd.R_far (p := ⟨gb194, 1, none⟩) (Kd.R_far (p := ⟨gb194, 0, none⟩) (Kd.R_mono HO_5.out (fun k_ hk => (⟨hk, hk.2⟩ : _ ∧ k_ ≠ gb194))) (fun _ hk => hk.2) (.int .u32 ((rd_T35 l0 x6_1).f0))) (fun _ hk => hk.2) (.int .u64 (IntKind.u64.wrap ((Int.tmod ((rd_T35 l0 x6_1).f1) 1099511627776) + 1)))) (fun _ hk => hk.1.2)⟩, ⟨by (with_reducible repeat (first | refine blk_drewN ?_ _ | refine blk_drew ?_ | refine blk_alloc ?_ _)); refine blk_put (cs := #[.int .u32 ((rd_T35 l0 x6_1).f0), .int .u64 0]) ?_ 1 _ rfl; (with_reducible repeat (first | refine blk_drewN ?_ _ | refine blk_drew ?_ | refine blk_alloc ?_ _)); refine blk_put (cs := #[.int .u32 0, .int .u64 0]) ?_ 0 _ rfl; (with_reducible repeat (first | refine blk_drewN ?_ _ | refine blk_drew ?_ | refine blk_alloc ?_ _)); exact BK194.out⟩, ⟨by repeat (first | (with_reducible first | exact HB.out | apply below_alloc | apply pw_below_drewN | apply below_drew1 | refine below_set ?_ GE194.out) | exact HB.out)⟩⟩
         case round =>
          clear H'
          try clear p1
          try clear q1
          try clear hx1
          try clear p2
          try clear c3
          try clear c4
          try clear c4b0
          try clear c6
          try clear c7
          try clear c7b0
          try clear c8
          try clear c8b0
          try clear hx192_0
          try clear hx192_1
          try clear hx193_0
          try clear hx193_1
          try clear p192
          try clear p193
          try clear p2
          try clear q192
          try clear q193
          obtain ⟨x8_3, rfl, HA, HK3, HO_5, BK194, HB⟩ := hrel
          cases gk with
          | zero => exact absurd HA.out (by simp [concordlaw10_made.l1])
          | succ k3 =>
           have H := HA.out
           clear HA
           simp only [concordlaw10_made.l1] at H
           by_cases c14 : x8_3 < (x5_1.length : Int)
           ·rw [if_pos c14] at H
            have c14b0 : decide (x8_3 < (x5_1.length : Int)) = true := decide_eq_true c14
            clear c14
            (first | rw [c14b0] | (simp only [i64_w, i32_w]; rw [c14b0]) | skip)
            by_cases c15 : 0 ≤ x8_3
            ·rw [if_pos c15] at H
             have c15b0 : decide (0 ≤ x8_3) = true := decide_eq_true c15
             clear c15
             by_cases c16 : ((rd_T35 x5_1 x8_3).f0) < ((rd_T35 l0 x6_1).f0)
             ·rw [if_pos c16] at H
              have c16b0 : decide (((rd_T35 x5_1 x8_3).f0) < ((rd_T35 l0 x6_1).f0)) = true := decide_eq_true c16
              clear c16
              have H' := Aside0.mk H
              clear H
              try go_wp2
              have n0_ := Aside0.mk (Kd.R_drew HO_5.out)
              have n1_ := Aside0.mk (blk_drew BK194.out)
              have n2_ := Aside0.mk (below_drew1 HB.out)
              clear HO_5
              clear BK194
              clear HB
              have HO_5 := n0_
              have BK194 := n1_
              have HB := n2_
              clear n0_ n1_ n2_
              obtain ⟨Ao18, co18, eo18⟩ := Kd.R_slice HO_5.out
              (first | subst eo18 | (injection eo18 with f1_ f2_ f3_; have f4_ := f1_.symm; have f5_ := f3_.symm; clear f1_ f2_ f3_; subst f4_; subst f5_))
              have p195 : 0 ≤ (x8_3 : Int) := of_decide_eq_true (by first | (with_reducible assumption) | assumption)
              have q195 : x8_3 < (x5_1.length : Int) := of_decide_eq_true (by first | (with_reducible assumption) | assumption)
              obtain ⟨ad195, e195, hx195_0, hx195_1⟩ := at_T35 (Kd.R_reads' HO_5.out).2.2 x8_3 p195 q195
              cases e195
              replace p195 := eq_true p195
              replace q195 := eq_true q195
              refine start_ (n := 14) (S := fun w' => w'.cell? ⟨gb194, 0, none⟩ = some (.int .u32 ((rd_T35 l0 x6_1).f0)) ∧ w'.cell? ⟨gb194, 1, none⟩ = some (.int .u64 (IntKind.u64.wrap ((Int.tmod ((rd_T35 l0 x6_1).f1) 1099511627776) + 1))) ∧ w'.cell? (ad195.add ((x8_3).toNat * 2)) = some (.int .u32 ((rd_T35 x5_1 x8_3).f0)) ∧ w'.cell? ⟨(ad195.add ((x8_3).toNat * 2)).block, (ad195.add ((x8_3).toNat * 2)).off + 1, none⟩ = some (.int .u64 ((rd_T35 x5_1 x8_3).f1))) (ds := []) #[false, false, false, false, false, false, false, false, false, false, false, false, false, false] (by kernel_rfl) rfl rfl ⟨(blk_cell BK194.out 0).trans rfl, (blk_cell BK194.out 1).trans rfl, hx195_0, hx195_1⟩ (fun hHeld => ?_); refine with_tabW concordlaw10_made.tab7 concordlaw10_made.bits7 (fun HT_ HW_ => ?_)
              generalize wr.drew = w17 at HO_5 BK194 HB hx195_0 hx195_1 hHeld ⊢
              refine pure_ (i := 0) (N := some 35) (v := ?_) (a' := ?_) #[true, false, false, false, false, false, false, false, false, false, false, false, false, false] rfl rfl (any_of HT_.out (by kernel_rfl)) (fun _ _ _ h => h) (Or.inl ⟨by rfl, ?_⟩) ?_ ?_
              rotate_left
              ·intro w'
               go_simp
               with_reducible rfl
              rotate_left
              ·simp only [Act.put, List.setIfInBounds_toArray, List.set_cons_zero, List.set_cons_succ, i64_w, i32_w]
               rfl
              refine pure_ (i := 1) (N := some 36) (v := ?_) (a' := ?_) #[true, true, false, false, false, false, false, false, false, false, false, false, false, false] rfl rfl (any_of HT_.out (by kernel_rfl)) (fun _ _ _ h => h) (Or.inl ⟨by rfl, ?_⟩) ?_ ?_
              rotate_left
              ·intro w'
               go_simp
               with_reducible rfl
              rotate_left
              ·simp only [Act.put, List.setIfInBounds_toArray, List.set_cons_zero, List.set_cons_succ, i64_w, i32_w]
               rfl
              refine pure_ (i := 2) (N := some 37) (v := ?_) (a' := ?_) #[true, true, true, false, false, false, false, false, false, false, false, false, false, false] rfl rfl (any_of HT_.out (by kernel_rfl)) (fun _ _ _ h => h) (Or.inl ⟨by rfl, ?_⟩) ?_ ?_
              rotate_left
              ·intro w'
               go_simp
               with_reducible rfl
              rotate_left
              ·simp only [Act.put, List.setIfInBounds_toArray, List.set_cons_zero, List.set_cons_succ, i64_w, i32_w]
               rfl
              refine pure_ (i := 3) (N := some 38) (v := ?_) (a' := ?_) #[true, true, true, true, false, false, false, false, false, false, false, false, false, false] rfl rfl (any_of HT_.out (by kernel_rfl)) (fun _ _ _ h => h) (Or.inl ⟨by rfl, ?_⟩) ?_ ?_
              rotate_left
              ·intro w'
               go_simp
               with_reducible rfl
              rotate_left
              ·simp only [Act.put, List.setIfInBounds_toArray, List.set_cons_zero, List.set_cons_succ, i64_w, i32_w]
               rfl
              refine pure_ (i := 4) (N := some 39) (v := ?_) (a' := ?_) #[true, true, true, true, true, false, false, false, false, false, false, false, false, false] rfl rfl (any_of HT_.out (by kernel_rfl)) (fun _ _ _ h => h) (Or.inl ⟨by rfl, ?_⟩) ?_ ?_
              rotate_left
              ·intro w'
               go_simp
               with_reducible rfl
              rotate_left
              ·simp only [Act.put, List.setIfInBounds_toArray, List.set_cons_zero, List.set_cons_succ, i64_w, i32_w]
               rfl
              refine pure_ (i := 5) (N := some 40) (v := ?_) (a' := ?_) #[true, true, true, true, true, true, false, false, false, false, false, false, false, false] rfl rfl (any_of HT_.out (by kernel_rfl)) (fun _ _ _ h => h) (Or.inl ⟨by rfl, ?_⟩) ?_ ?_
              rotate_left
              ·intro w'
               go_simp
               with_reducible rfl
              rotate_left
              ·simp only [Act.put, List.setIfInBounds_toArray, List.set_cons_zero, List.set_cons_succ, i64_w, i32_w]
               rfl
              refine pure_ (i := 6) (N := some 41) (v := ?_) (a' := ?_) #[true, true, true, true, true, true, true, false, false, false, false, false, false, false] rfl rfl (any_of HT_.out (by kernel_rfl)) (fun _ _ _ h => h) (Or.inl ⟨by rfl, ?_⟩) ?_ ?_
              rotate_left
              ·intro w'
               go_simp
               with_reducible rfl
              rotate_left
              ·simp only [Act.put, List.setIfInBounds_toArray, List.set_cons_zero, List.set_cons_succ, i64_w, i32_w]
               rfl
              refine pure_ (i := 7) (N := some 42) (v := ?_) (a' := ?_) #[true, true, true, true, true, true, true, true, false, false, false, false, false, false] rfl rfl (any_of HT_.out (by kernel_rfl)) (fun _ _ _ h => h) (Or.inl ⟨by rfl, ?_⟩) ?_ ?_
              rotate_left
              ·intro w'
               go_simp
               with_reducible rfl
              rotate_left
              ·simp only [Act.put, List.setIfInBounds_toArray, List.set_cons_zero, List.set_cons_succ, i64_w, i32_w]
               rfl
              refine pure_ (i := 8) (N := some 43) (v := ?_) (a' := ?_) #[true, true, true, true, true, true, true, true, true, false, false, false, false, false] rfl rfl (any_of HT_.out (by kernel_rfl)) (fun _ _ _ h => h) (Or.inl ⟨by rfl, ?_⟩) ?_ ?_
              rotate_left
              ·intro w'
               go_simp
               with_reducible rfl
              rotate_left
              ·simp only [Act.put, List.setIfInBounds_toArray, List.set_cons_zero, List.set_cons_succ, i64_w, i32_w]
               rfl
              refine pure_ (i := 10) (N := some 45) (v := ?_) (a' := ?_) #[true, true, true, true, true, true, true, true, true, false, true, false, false, false] rfl rfl (any_of HT_.out (by kernel_rfl)) (fun _ _ _ h => h) (Or.inl ⟨by rfl, ?_⟩) ?_ ?_
              rotate_left
              ·intro w'
               go_simp
               with_reducible rfl
              rotate_left
              ·simp only [Act.put, List.setIfInBounds_toArray, List.set_cons_zero, List.set_cons_succ, i64_w, i32_w]
               rfl
              refine take_ (i := 9) (N := some 44) (v := ?_) (a' := ?_) #[true, true, true, true, true, true, true, true, true, true, true, false, false, false] rfl rfl (take_ofW HT_.out HW_.out (by kernel_rfl)) (fun _ _ _ h => h) (Or.inl ⟨by rfl, ?_⟩) hHeld ?_ ?_
              rotate_left
              ·rintro w' ⟨s0, s1, s2, s3⟩
               go_simp
               with_reducible rfl
              rotate_left
              ·simp only [Act.put, List.setIfInBounds_toArray, List.set_cons_zero, List.set_cons_succ, i64_w, i32_w]
               rfl
              refine take_ (i := 11) (N := some 46) (v := ?_) (a' := ?_) #[true, true, true, true, true, true, true, true, true, true, true, true, false, false] rfl rfl (take_ofW HT_.out HW_.out (by kernel_rfl)) (fun _ _ _ h => h) (Or.inl ⟨by rfl, ?_⟩) hHeld ?_ ?_
              rotate_left
              ·rintro w' ⟨s0, s1, s2, s3⟩
               go_simp
               with_reducible rfl
              rotate_left
              ·simp only [Act.put, List.setIfInBounds_toArray, List.set_cons_zero, List.set_cons_succ, i64_w, i32_w]
               rfl
              refine pure_ (i := 12) (N := some 47) (v := ?_) (a' := ?_) #[true, true, true, true, true, true, true, true, true, true, true, true, true, false] rfl rfl (any_of HT_.out (by kernel_rfl)) (fun _ _ _ h => h) (Or.inl ⟨by rfl, ?_⟩) ?_ ?_
              rotate_left
              ·intro w'
               go_simp
               with_reducible rfl
              rotate_left
              ·simp only [Act.put, List.setIfInBounds_toArray, List.set_cons_zero, List.set_cons_succ, i64_w, i32_w]
               rfl
              refine pure_ (i := 13) (N := some 48) (v := ?_) (a' := ?_) #[true, true, true, true, true, true, true, true, true, true, true, true, true, true] rfl rfl (any_of HT_.out (by kernel_rfl)) (fun _ _ _ h => h) (Or.inl ⟨by rfl, ?_⟩) ?_ ?_
              rotate_left
              ·intro w'
               go_simp
               with_reducible rfl
              rotate_left
              ·simp only [Act.put, List.setIfInBounds_toArray, List.set_cons_zero, List.set_cons_succ, i64_w, i32_w]
               rfl
              refine done_ (done_of HT_.out (by kernel_rfl)) ?_
              try go_wp2
              go_roundg k3
              case measure => have := HK1.out; have := HJ2.out; have := HK3.out; omega
              case rel => exact ⟨(wrap64 (x8_3 + 1)), (by first | rfl | (simp; done) | (simp [*]; done)), H', ⟨by have := HK1.out; have := HJ2.out; have := HK3.out; omega⟩, ⟨by (with_reducible repeat (first | apply Kd.R_alloc | apply Kd.R_drewN | apply Kd.R_drew)); exact HO_5.out⟩, ⟨by (with_reducible repeat (first | refine blk_drewN ?_ _ | refine blk_drew ?_ | refine blk_alloc ?_ _)); exact BK194.out⟩, ⟨by repeat (first | (with_reducible first | exact HB.out | apply below_alloc | apply pw_below_drewN | apply below_drew1 | refine below_set ?_ GE194.out) | exact HB.out)⟩⟩
             ·rw [if_neg c16] at H
              have c16b0 : decide (((rd_T35 x5_1 x8_3).f0) < ((rd_T35 l0 x6_1).f0)) = false := decide_eq_false c16
              clear c16
              have H' := Aside0.mk H
              clear H
              try go_wp2
              have n0_ := Aside0.mk (Kd.R_drew HO_5.out)
              have n1_ := Aside0.mk (blk_drew BK194.out)
              have n2_ := Aside0.mk (below_drew1 HB.out)
              clear HO_5
              clear BK194
              clear HB
              have HO_5 := n0_
              have BK194 := n1_
              have HB := n2_
              clear n0_ n1_ n2_
              obtain ⟨Ao20, co20, eo20⟩ := Kd.R_slice HO_5.out
              (first | subst eo20 | (injection eo20 with f1_ f2_ f3_; have f4_ := f1_.symm; have f5_ := f3_.symm; clear f1_ f2_ f3_; subst f4_; subst f5_))
              have p195 : 0 ≤ (x8_3 : Int) := of_decide_eq_true (by first | (with_reducible assumption) | assumption)
              have q195 : x8_3 < (x5_1.length : Int) := of_decide_eq_true (by first | (with_reducible assumption) | assumption)
              obtain ⟨ad195, e195, hx195_0, hx195_1⟩ := at_T35 (Kd.R_reads' HO_5.out).2.2 x8_3 p195 q195
              cases e195
              replace p195 := eq_true p195
              replace q195 := eq_true q195
              refine start_ (n := 14) (S := fun w' => w'.cell? ⟨gb194, 0, none⟩ = some (.int .u32 ((rd_T35 l0 x6_1).f0)) ∧ w'.cell? ⟨gb194, 1, none⟩ = some (.int .u64 (IntKind.u64.wrap ((Int.tmod ((rd_T35 l0 x6_1).f1) 1099511627776) + 1))) ∧ w'.cell? (ad195.add ((x8_3).toNat * 2)) = some (.int .u32 ((rd_T35 x5_1 x8_3).f0)) ∧ w'.cell? ⟨(ad195.add ((x8_3).toNat * 2)).block, (ad195.add ((x8_3).toNat * 2)).off + 1, none⟩ = some (.int .u64 ((rd_T35 x5_1 x8_3).f1))) (ds := []) #[false, false, false, false, false, false, false, false, false, false, false, false, false, false] (by kernel_rfl) rfl rfl ⟨(blk_cell BK194.out 0).trans rfl, (blk_cell BK194.out 1).trans rfl, hx195_0, hx195_1⟩ (fun hHeld => ?_); refine with_tabW concordlaw10_made.tab7 concordlaw10_made.bits7 (fun HT_ HW_ => ?_)
              generalize wr.drew = w19 at HO_5 BK194 HB hx195_0 hx195_1 hHeld ⊢
              refine pure_ (i := 0) (N := some 35) (v := ?_) (a' := ?_) #[true, false, false, false, false, false, false, false, false, false, false, false, false, false] rfl rfl (any_of HT_.out (by kernel_rfl)) (fun _ _ _ h => h) (Or.inl ⟨by rfl, ?_⟩) ?_ ?_
              rotate_left
              ·intro w'
               go_simp
               with_reducible rfl
              rotate_left
              ·simp only [Act.put, List.setIfInBounds_toArray, List.set_cons_zero, List.set_cons_succ, i64_w, i32_w]
               rfl
              refine pure_ (i := 1) (N := some 36) (v := ?_) (a' := ?_) #[true, true, false, false, false, false, false, false, false, false, false, false, false, false] rfl rfl (any_of HT_.out (by kernel_rfl)) (fun _ _ _ h => h) (Or.inl ⟨by rfl, ?_⟩) ?_ ?_
              rotate_left
              ·intro w'
               go_simp
               with_reducible rfl
              rotate_left
              ·simp only [Act.put, List.setIfInBounds_toArray, List.set_cons_zero, List.set_cons_succ, i64_w, i32_w]
               rfl
              refine pure_ (i := 2) (N := some 37) (v := ?_) (a' := ?_) #[true, true, true, false, false, false, false, false, false, false, false, false, false, false] rfl rfl (any_of HT_.out (by kernel_rfl)) (fun _ _ _ h => h) (Or.inl ⟨by rfl, ?_⟩) ?_ ?_
              rotate_left
              ·intro w'
               go_simp
               with_reducible rfl
              rotate_left
              ·simp only [Act.put, List.setIfInBounds_toArray, List.set_cons_zero, List.set_cons_succ, i64_w, i32_w]
               rfl
              refine pure_ (i := 3) (N := some 38) (v := ?_) (a' := ?_) #[true, true, true, true, false, false, false, false, false, false, false, false, false, false] rfl rfl (any_of HT_.out (by kernel_rfl)) (fun _ _ _ h => h) (Or.inl ⟨by rfl, ?_⟩) ?_ ?_
              rotate_left
              ·intro w'
               go_simp
               with_reducible rfl
              rotate_left
              ·simp only [Act.put, List.setIfInBounds_toArray, List.set_cons_zero, List.set_cons_succ, i64_w, i32_w]
               rfl
              refine pure_ (i := 4) (N := some 39) (v := ?_) (a' := ?_) #[true, true, true, true, true, false, false, false, false, false, false, false, false, false] rfl rfl (any_of HT_.out (by kernel_rfl)) (fun _ _ _ h => h) (Or.inl ⟨by rfl, ?_⟩) ?_ ?_
              rotate_left
              ·intro w'
               go_simp
               with_reducible rfl
              rotate_left
              ·simp only [Act.put, List.setIfInBounds_toArray, List.set_cons_zero, List.set_cons_succ, i64_w, i32_w]
               rfl
              refine pure_ (i := 5) (N := some 40) (v := ?_) (a' := ?_) #[true, true, true, true, true, true, false, false, false, false, false, false, false, false] rfl rfl (any_of HT_.out (by kernel_rfl)) (fun _ _ _ h => h) (Or.inl ⟨by rfl, ?_⟩) ?_ ?_
              rotate_left
              ·intro w'
               go_simp
               with_reducible rfl
              rotate_left
              ·simp only [Act.put, List.setIfInBounds_toArray, List.set_cons_zero, List.set_cons_succ, i64_w, i32_w]
               rfl
              refine pure_ (i := 6) (N := some 41) (v := ?_) (a' := ?_) #[true, true, true, true, true, true, true, false, false, false, false, false, false, false] rfl rfl (any_of HT_.out (by kernel_rfl)) (fun _ _ _ h => h) (Or.inl ⟨by rfl, ?_⟩) ?_ ?_
              rotate_left
              ·intro w'
               go_simp
               with_reducible rfl
              rotate_left
              ·simp only [Act.put, List.setIfInBounds_toArray, List.set_cons_zero, List.set_cons_succ, i64_w, i32_w]
               rfl
              refine pure_ (i := 7) (N := some 42) (v := ?_) (a' := ?_) #[true, true, true, true, true, true, true, true, false, false, false, false, false, false] rfl rfl (any_of HT_.out (by kernel_rfl)) (fun _ _ _ h => h) (Or.inl ⟨by rfl, ?_⟩) ?_ ?_
              rotate_left
              ·intro w'
               go_simp
               with_reducible rfl
              rotate_left
              ·simp only [Act.put, List.setIfInBounds_toArray, List.set_cons_zero, List.set_cons_succ, i64_w, i32_w]
               rfl
              refine pure_ (i := 8) (N := some 43) (v := ?_) (a' := ?_) #[true, true, true, true, true, true, true, true, true, false, false, false, false, false] rfl rfl (any_of HT_.out (by kernel_rfl)) (fun _ _ _ h => h) (Or.inl ⟨by rfl, ?_⟩) ?_ ?_
              rotate_left
              ·intro w'
               go_simp
               with_reducible rfl
              rotate_left
              ·simp only [Act.put, List.setIfInBounds_toArray, List.set_cons_zero, List.set_cons_succ, i64_w, i32_w]
               rfl
              refine pure_ (i := 10) (N := some 45) (v := ?_) (a' := ?_) #[true, true, true, true, true, true, true, true, true, false, true, false, false, false] rfl rfl (any_of HT_.out (by kernel_rfl)) (fun _ _ _ h => h) (Or.inl ⟨by rfl, ?_⟩) ?_ ?_
              rotate_left
              ·intro w'
               go_simp
               with_reducible rfl
              rotate_left
              ·simp only [Act.put, List.setIfInBounds_toArray, List.set_cons_zero, List.set_cons_succ, i64_w, i32_w]
               rfl
              refine take_ (i := 9) (N := some 44) (v := ?_) (a' := ?_) #[true, true, true, true, true, true, true, true, true, true, true, false, false, false] rfl rfl (take_ofW HT_.out HW_.out (by kernel_rfl)) (fun _ _ _ h => h) (Or.inl ⟨by rfl, ?_⟩) hHeld ?_ ?_
              rotate_left
              ·rintro w' ⟨s0, s1, s2, s3⟩
               go_simp
               with_reducible rfl
              rotate_left
              ·simp only [Act.put, List.setIfInBounds_toArray, List.set_cons_zero, List.set_cons_succ, i64_w, i32_w]
               rfl
              refine take_ (i := 11) (N := some 46) (v := ?_) (a' := ?_) #[true, true, true, true, true, true, true, true, true, true, true, true, false, false] rfl rfl (take_ofW HT_.out HW_.out (by kernel_rfl)) (fun _ _ _ h => h) (Or.inl ⟨by rfl, ?_⟩) hHeld ?_ ?_
              rotate_left
              ·rintro w' ⟨s0, s1, s2, s3⟩
               go_simp
               with_reducible rfl
              rotate_left
              ·simp only [Act.put, List.setIfInBounds_toArray, List.set_cons_zero, List.set_cons_succ, i64_w, i32_w]
               rfl
              refine pure_ (i := 12) (N := some 47) (v := ?_) (a' := ?_) #[true, true, true, true, true, true, true, true, true, true, true, true, true, false] rfl rfl (any_of HT_.out (by kernel_rfl)) (fun _ _ _ h => h) (Or.inl ⟨by rfl, ?_⟩) ?_ ?_
              rotate_left
              ·intro w'
               go_simp
               with_reducible rfl
              rotate_left
              ·simp only [Act.put, List.setIfInBounds_toArray, List.set_cons_zero, List.set_cons_succ, i64_w, i32_w]
               rfl
              refine pure_ (i := 13) (N := some 48) (v := ?_) (a' := ?_) #[true, true, true, true, true, true, true, true, true, true, true, true, true, true] rfl rfl (any_of HT_.out (by kernel_rfl)) (fun _ _ _ h => h) (Or.inl ⟨by rfl, ?_⟩) ?_ ?_
              rotate_left
              ·intro w'
               go_simp
               with_reducible rfl
              rotate_left
              ·simp only [Act.put, List.setIfInBounds_toArray, List.set_cons_zero, List.set_cons_succ, i64_w, i32_w]
               rfl
              refine done_ (done_of HT_.out (by kernel_rfl)) ?_
              try go_wp2
              go_meet
              case rel => exact ⟨_, (x8_3), (by first | rfl | (simp; done) | (simp [*]; done)), H', ⟨by have := HK1.out; have := HJ2.out; have := HK3.out; first | omega | exact Nat.le_refl _⟩, ⟨by (with_reducible repeat (first | apply Kd.R_alloc | apply Kd.R_drewN | apply Kd.R_drew)); exact HO_5.out⟩, ⟨by (with_reducible repeat (first | refine blk_drewN ?_ _ | refine blk_drew ?_ | refine blk_alloc ?_ _)); exact BK194.out⟩, ⟨by repeat (first | (with_reducible first | exact HB.out | apply below_alloc | apply pw_below_drewN | apply below_drew1 | refine below_set ?_ GE194.out) | exact HB.out)⟩⟩
            ·rw [if_neg c15] at H
             exact absurd H (by simp)
           ·rw [if_neg c14] at H
            have c14b0 : decide (x8_3 < (x5_1.length : Int)) = false := decide_eq_false c14
            clear c14
            (first | rw [c14b0] | (simp only [i64_w, i32_w]; rw [c14b0]) | skip)
            have H' := Aside0.mk H
            clear H
            try go_wp2
            have n0_ := Aside0.mk (Kd.R_drew HO_5.out)
            have n1_ := Aside0.mk (blk_drew BK194.out)
            have n2_ := Aside0.mk (below_drew1 HB.out)
            clear HO_5
            clear BK194
            clear HB
            have HO_5 := n0_
            have BK194 := n1_
            have HB := n2_
            clear n0_ n1_ n2_
            obtain ⟨Ao22, co22, eo22⟩ := Kd.R_slice HO_5.out
            (first | subst eo22 | (injection eo22 with f1_ f2_ f3_; have f4_ := f1_.symm; have f5_ := f3_.symm; clear f1_ f2_ f3_; subst f4_; subst f5_))
            refine start_ (n := 14) (S := fun w' => True) (ds := []) #[false, false, false, false, false, false, false, false, false, false, false, false, false, false] (by kernel_rfl) rfl rfl trivial (fun hHeld => ?_); refine with_tabW concordlaw10_made.tab7 concordlaw10_made.bits7 (fun HT_ HW_ => ?_)
            generalize wr.drew = w21 at HO_5 BK194 HB hHeld ⊢
            refine pure_ (i := 0) (N := some 35) (v := ?_) (a' := ?_) #[true, false, false, false, false, false, false, false, false, false, false, false, false, false] rfl rfl (any_of HT_.out (by kernel_rfl)) (fun _ _ _ h => h) (Or.inl ⟨by rfl, ?_⟩) ?_ ?_
            rotate_left
            ·intro w'
             go_simp
             with_reducible rfl
            rotate_left
            ·simp only [Act.put, List.setIfInBounds_toArray, List.set_cons_zero, List.set_cons_succ, i64_w, i32_w]
             rfl
            refine pure_ (i := 1) (N := some 36) (v := ?_) (a' := ?_) #[true, true, false, false, false, false, false, false, false, false, false, false, false, false] rfl rfl (any_of HT_.out (by kernel_rfl)) (fun _ _ _ h => h) (Or.inl ⟨by rfl, ?_⟩) ?_ ?_
            rotate_left
            ·intro w'
             go_simp
             with_reducible rfl
            rotate_left
            ·simp only [Act.put, List.setIfInBounds_toArray, List.set_cons_zero, List.set_cons_succ, i64_w, i32_w]
             rfl
            refine pure_ (i := 2) (N := some 37) (v := ?_) (a' := ?_) #[true, true, true, false, false, false, false, false, false, false, false, false, false, false] rfl rfl (any_of HT_.out (by kernel_rfl)) (fun _ _ _ h => h) (Or.inl ⟨by rfl, ?_⟩) ?_ ?_
            rotate_left
            ·intro w'
             go_simp
             with_reducible rfl
            rotate_left
            ·simp only [Act.put, List.setIfInBounds_toArray, List.set_cons_zero, List.set_cons_succ, i64_w, i32_w]
             rfl
            refine pure_ (i := 3) (N := some 38) (v := ?_) (a' := ?_) #[true, true, true, true, false, false, false, false, false, false, false, false, false, false] rfl rfl (any_of HT_.out (by kernel_rfl)) (fun _ _ _ h => h) (Or.inl ⟨by rfl, ?_⟩) ?_ ?_
            rotate_left
            ·intro w'
             go_simp
             with_reducible rfl
            rotate_left
            ·simp only [Act.put, List.setIfInBounds_toArray, List.set_cons_zero, List.set_cons_succ, i64_w, i32_w]
             rfl
            refine pure_ (i := 4) (N := some 39) (v := ?_) (a' := ?_) #[true, true, true, true, true, false, false, false, false, false, false, false, false, false] rfl rfl (any_of HT_.out (by kernel_rfl)) (fun _ _ _ h => h) (Or.inl ⟨by rfl, ?_⟩) ?_ ?_
            rotate_left
            ·intro w'
             go_simp
             with_reducible rfl
            rotate_left
            ·simp only [Act.put, List.setIfInBounds_toArray, List.set_cons_zero, List.set_cons_succ, i64_w, i32_w]
             rfl
            refine pure_ (i := 5) (N := some 40) (v := undef) (a' := ?_) #[true, true, true, true, true, true, false, false, false, false, false, false, false, false] rfl rfl (any_of HT_.out (by kernel_rfl)) (fun _ _ _ h => h) (Or.inr ⟨by rfl, rfl⟩) ?_ ?_
            rotate_left
            ·simp only [Act.put, List.setIfInBounds_toArray, List.set_cons_zero, List.set_cons_succ, i64_w, i32_w]
             rfl
            refine pure_ (i := 6) (N := some 41) (v := undef) (a' := ?_) #[true, true, true, true, true, true, true, false, false, false, false, false, false, false] rfl rfl (any_of HT_.out (by kernel_rfl)) (fun _ _ _ h => h) (Or.inr ⟨by rfl, rfl⟩) ?_ ?_
            rotate_left
            ·simp only [Act.put, List.setIfInBounds_toArray, List.set_cons_zero, List.set_cons_succ, i64_w, i32_w]
             rfl
            refine pure_ (i := 7) (N := some 42) (v := undef) (a' := ?_) #[true, true, true, true, true, true, true, true, false, false, false, false, false, false] rfl rfl (any_of HT_.out (by kernel_rfl)) (fun _ _ _ h => h) (Or.inr ⟨by rfl, rfl⟩) ?_ ?_
            rotate_left
            ·simp only [Act.put, List.setIfInBounds_toArray, List.set_cons_zero, List.set_cons_succ, i64_w, i32_w]
             rfl
            refine pure_ (i := 8) (N := some 43) (v := undef) (a' := ?_) #[true, true, true, true, true, true, true, true, true, false, false, false, false, false] rfl rfl (any_of HT_.out (by kernel_rfl)) (fun _ _ _ h => h) (Or.inr ⟨by rfl, rfl⟩) ?_ ?_
            rotate_left
            ·simp only [Act.put, List.setIfInBounds_toArray, List.set_cons_zero, List.set_cons_succ, i64_w, i32_w]
             rfl
            refine pure_ (i := 9) (N := some 44) (v := undef) (a' := ?_) #[true, true, true, true, true, true, true, true, true, true, false, false, false, false] rfl rfl (any_of HT_.out (by kernel_rfl)) (fun _ _ _ h => h) (Or.inr ⟨by rfl, rfl⟩) ?_ ?_
            rotate_left
            ·simp only [Act.put, List.setIfInBounds_toArray, List.set_cons_zero, List.set_cons_succ, i64_w, i32_w]
             rfl
            refine pure_ (i := 10) (N := some 45) (v := undef) (a' := ?_) #[true, true, true, true, true, true, true, true, true, true, true, false, false, false] rfl rfl (any_of HT_.out (by kernel_rfl)) (fun _ _ _ h => h) (Or.inr ⟨by rfl, rfl⟩) ?_ ?_
            rotate_left
            ·simp only [Act.put, List.setIfInBounds_toArray, List.set_cons_zero, List.set_cons_succ, i64_w, i32_w]
             rfl
            refine pure_ (i := 11) (N := some 46) (v := undef) (a' := ?_) #[true, true, true, true, true, true, true, true, true, true, true, true, false, false] rfl rfl (any_of HT_.out (by kernel_rfl)) (fun _ _ _ h => h) (Or.inr ⟨by rfl, rfl⟩) ?_ ?_
            rotate_left
            ·simp only [Act.put, List.setIfInBounds_toArray, List.set_cons_zero, List.set_cons_succ, i64_w, i32_w]
             rfl
            refine pure_ (i := 12) (N := some 47) (v := undef) (a' := ?_) #[true, true, true, true, true, true, true, true, true, true, true, true, true, false] rfl rfl (any_of HT_.out (by kernel_rfl)) (fun _ _ _ h => h) (Or.inr ⟨by rfl, rfl⟩) ?_ ?_
            rotate_left
            ·simp only [Act.put, List.setIfInBounds_toArray, List.set_cons_zero, List.set_cons_succ, i64_w, i32_w]
             rfl
            refine pure_ (i := 13) (N := some 48) (v := ?_) (a' := ?_) #[true, true, true, true, true, true, true, true, true, true, true, true, true, true] rfl rfl (any_of HT_.out (by kernel_rfl)) (fun _ _ _ h => h) (Or.inl ⟨by rfl, ?_⟩) ?_ ?_
            rotate_left
            ·intro w'
             go_simp
             with_reducible rfl
            rotate_left
            ·simp only [Act.put, List.setIfInBounds_toArray, List.set_cons_zero, List.set_cons_succ, i64_w, i32_w]
             rfl
            refine done_ (done_of HT_.out (by kernel_rfl)) ?_
            try go_wp2
            go_meet
            case rel => exact ⟨_, (x8_3), (by first | rfl | (simp; done) | (simp [*]; done)), H', ⟨by have := HK1.out; have := HJ2.out; have := HK3.out; first | omega | exact Nat.le_refl _⟩, ⟨by (with_reducible repeat (first | apply Kd.R_alloc | apply Kd.R_drewN | apply Kd.R_drew)); exact HO_5.out⟩, ⟨by (with_reducible repeat (first | refine blk_drewN ?_ _ | refine blk_drew ?_ | refine blk_alloc ?_ _)); exact BK194.out⟩, ⟨by repeat (first | (with_reducible first | exact HB.out | apply below_alloc | apply pw_below_drewN | apply below_drew1 | refine below_set ?_ GE194.out) | exact HB.out)⟩⟩
        case rest =>
         clear HC9
         try clear c1
         try clear p1
         try clear q1
         try clear hx1
         try clear p2
         try clear c3
         try clear c4
         try clear c4b0
         try clear c6
         try clear p6
         try clear c7
         try clear c7b0
         try clear c8
         try clear c8b0
         try clear c14
         try clear c14b0
         try clear c15
         try clear c15b0
         try clear c16
         try clear c16b0
         try clear p19
         try clear q19
         try clear hx19
         try clear hx192_0
         try clear hx192_1
         try clear hx193_0
         try clear hx193_1
         try clear hx195_0
         try clear hx195_1
         try clear p1
         try clear p192
         try clear p193
         try clear p195
         try clear p2
         try clear q1
         try clear q192
         try clear q193
         try clear q195
         obtain ⟨kq, x8_8, rfl, HA, HJ8, HO_5, BK194, HB⟩ := hcut
         cases kq with
         | zero => exact absurd HA.out (by simp [concordlaw10_made.j3])
         | succ kj8 =>
          have H := HA.out
          clear HA
          simp only [concordlaw10_made.j3] at H
          have HC23 := Aside0.mk H
          clear H
          go_upto_region 9 with (fail)
          go_cut [64] (fun v64 wc => ∃ (kq : Nat) (x64_22 : Bool), v64 = .bool x64_22 ∧ Aside0 (concordlaw10_made.j4 kq l0 a1 x5_1 x6_1 x8_8 x64_22 ((rd_T35 l0 x6_1).f0) (IntKind.u64.wrap ((Int.tmod ((rd_T35 l0 x6_1).f1) 1099511627776) + 1)) = some r) ∧ Aside0 (kq ≤ kj8) ∧ Aside0 (Kd.R k35 35 wc w.heap.size (fun k_ => k_ ≠ gb194) u5 x5_1) ∧ Aside0 (wc.heap[gb194]? = some (.cells #[.int .u32 ((rd_T35 l0 x6_1).f0), .int .u64 (IntKind.u64.wrap ((Int.tmod ((rd_T35 l0 x6_1).f1) 1099511627776) + 1))] 35 (0, 0))) ∧ Aside0 (Below w.heap.size w wc))
          case first =>
           have H := HC23.out
           clear HC23
           by_cases c24 : x8_8 < (x5_1.length : Int)
           ·rw [if_pos c24] at H
            have c24b0 : decide (x8_8 < (x5_1.length : Int)) = true := decide_eq_true c24
            clear c24
            (first | rw [c24b0] | (simp only [i64_w, i32_w]; rw [c24b0]) | skip)
            by_cases c25 : 0 ≤ x8_8
            ·rw [if_pos c25] at H
             have c25b0 : decide (0 ≤ x8_8) = true := decide_eq_true c25
             clear c25
             have H' := Aside0.mk H
             clear H
             try go_wp2
             have n0_ := Aside0.mk (Kd.R_drew HO_5.out)
             have n1_ := Aside0.mk (blk_drew BK194.out)
             have n2_ := Aside0.mk (below_drew1 HB.out)
             clear HO_5
             clear BK194
             clear HB
             have HO_5 := n0_
             have BK194 := n1_
             have HB := n2_
             clear n0_ n1_ n2_
             obtain ⟨Ao27, co27, eo27⟩ := Kd.R_slice HO_5.out
             (first | subst eo27 | (injection eo27 with f1_ f2_ f3_; have f4_ := f1_.symm; have f5_ := f3_.symm; clear f1_ f2_ f3_; subst f4_; subst f5_))
             have p196 : 0 ≤ (x8_8 : Int) := of_decide_eq_true (by first | (with_reducible assumption) | assumption)
             have q196 : x8_8 < (x5_1.length : Int) := of_decide_eq_true (by first | (with_reducible assumption) | assumption)
             obtain ⟨ad196, e196, hx196_0, hx196_1⟩ := at_T35 (Kd.R_reads' HO_5.out).2.2 x8_8 p196 q196
             cases e196
             replace p196 := eq_true p196
             replace q196 := eq_true q196
             refine start_ (n := 14) (S := fun w' => w'.cell? ⟨gb194, 0, none⟩ = some (.int .u32 ((rd_T35 l0 x6_1).f0)) ∧ w'.cell? ⟨gb194, 1, none⟩ = some (.int .u64 (IntKind.u64.wrap ((Int.tmod ((rd_T35 l0 x6_1).f1) 1099511627776) + 1))) ∧ w'.cell? (ad196.add ((x8_8).toNat * 2)) = some (.int .u32 ((rd_T35 x5_1 x8_8).f0)) ∧ w'.cell? ⟨(ad196.add ((x8_8).toNat * 2)).block, (ad196.add ((x8_8).toNat * 2)).off + 1, none⟩ = some (.int .u64 ((rd_T35 x5_1 x8_8).f1))) (ds := []) #[false, false, false, false, false, false, false, false, false, false, false, false, false, false] (by kernel_rfl) rfl rfl ⟨(blk_cell BK194.out 0).trans rfl, (blk_cell BK194.out 1).trans rfl, hx196_0, hx196_1⟩ (fun hHeld => ?_); refine with_tabW concordlaw10_made.tab9 concordlaw10_made.bits9 (fun HT_ HW_ => ?_)
             generalize wc.drew = w26 at HO_5 BK194 HB hx196_0 hx196_1 hHeld ⊢
             refine pure_ (i := 0) (N := some 51) (v := ?_) (a' := ?_) #[true, false, false, false, false, false, false, false, false, false, false, false, false, false] rfl rfl (any_of HT_.out (by kernel_rfl)) (fun _ _ _ h => h) (Or.inl ⟨by rfl, ?_⟩) ?_ ?_
             rotate_left
             ·intro w'
              go_simp
              with_reducible rfl
             rotate_left
             ·simp only [Act.put, List.setIfInBounds_toArray, List.set_cons_zero, List.set_cons_succ, i64_w, i32_w]
              rfl
             refine pure_ (i := 1) (N := some 52) (v := ?_) (a' := ?_) #[true, true, false, false, false, false, false, false, false, false, false, false, false, false] rfl rfl (any_of HT_.out (by kernel_rfl)) (fun _ _ _ h => h) (Or.inl ⟨by rfl, ?_⟩) ?_ ?_
             rotate_left
             ·intro w'
              go_simp
              with_reducible rfl
             rotate_left
             ·simp only [Act.put, List.setIfInBounds_toArray, List.set_cons_zero, List.set_cons_succ, i64_w, i32_w]
              rfl
             refine pure_ (i := 2) (N := some 53) (v := ?_) (a' := ?_) #[true, true, true, false, false, false, false, false, false, false, false, false, false, false] rfl rfl (any_of HT_.out (by kernel_rfl)) (fun _ _ _ h => h) (Or.inl ⟨by rfl, ?_⟩) ?_ ?_
             rotate_left
             ·intro w'
              go_simp
              with_reducible rfl
             rotate_left
             ·simp only [Act.put, List.setIfInBounds_toArray, List.set_cons_zero, List.set_cons_succ, i64_w, i32_w]
              rfl
             refine pure_ (i := 3) (N := some 54) (v := ?_) (a' := ?_) #[true, true, true, true, false, false, false, false, false, false, false, false, false, false] rfl rfl (any_of HT_.out (by kernel_rfl)) (fun _ _ _ h => h) (Or.inl ⟨by rfl, ?_⟩) ?_ ?_
             rotate_left
             ·intro w'
              go_simp
              with_reducible rfl
             rotate_left
             ·simp only [Act.put, List.setIfInBounds_toArray, List.set_cons_zero, List.set_cons_succ, i64_w, i32_w]
              rfl
             refine pure_ (i := 4) (N := some 55) (v := ?_) (a' := ?_) #[true, true, true, true, true, false, false, false, false, false, false, false, false, false] rfl rfl (any_of HT_.out (by kernel_rfl)) (fun _ _ _ h => h) (Or.inl ⟨by rfl, ?_⟩) ?_ ?_
             rotate_left
             ·intro w'
              go_simp
              with_reducible rfl
             rotate_left
             ·simp only [Act.put, List.setIfInBounds_toArray, List.set_cons_zero, List.set_cons_succ, i64_w, i32_w]
              rfl
             refine pure_ (i := 5) (N := some 56) (v := ?_) (a' := ?_) #[true, true, true, true, true, true, false, false, false, false, false, false, false, false] rfl rfl (any_of HT_.out (by kernel_rfl)) (fun _ _ _ h => h) (Or.inl ⟨by rfl, ?_⟩) ?_ ?_
             rotate_left
             ·intro w'
              go_simp
              with_reducible rfl
             rotate_left
             ·simp only [Act.put, List.setIfInBounds_toArray, List.set_cons_zero, List.set_cons_succ, i64_w, i32_w]
              rfl
             refine pure_ (i := 6) (N := some 57) (v := ?_) (a' := ?_) #[true, true, true, true, true, true, true, false, false, false, false, false, false, false] rfl rfl (any_of HT_.out (by kernel_rfl)) (fun _ _ _ h => h) (Or.inl ⟨by rfl, ?_⟩) ?_ ?_
             rotate_left
             ·intro w'
              go_simp
              with_reducible rfl
             rotate_left
             ·simp only [Act.put, List.setIfInBounds_toArray, List.set_cons_zero, List.set_cons_succ, i64_w, i32_w]
              rfl
             refine pure_ (i := 7) (N := some 58) (v := ?_) (a' := ?_) #[true, true, true, true, true, true, true, true, false, false, false, false, false, false] rfl rfl (any_of HT_.out (by kernel_rfl)) (fun _ _ _ h => h) (Or.inl ⟨by rfl, ?_⟩) ?_ ?_
             rotate_left
             ·intro w'
              go_simp
              with_reducible rfl
             rotate_left
             ·simp only [Act.put, List.setIfInBounds_toArray, List.set_cons_zero, List.set_cons_succ, i64_w, i32_w]
              rfl
             refine pure_ (i := 8) (N := some 59) (v := ?_) (a' := ?_) #[true, true, true, true, true, true, true, true, true, false, false, false, false, false] rfl rfl (any_of HT_.out (by kernel_rfl)) (fun _ _ _ h => h) (Or.inl ⟨by rfl, ?_⟩) ?_ ?_
             rotate_left
             ·intro w'
              go_simp
              with_reducible rfl
             rotate_left
             ·simp only [Act.put, List.setIfInBounds_toArray, List.set_cons_zero, List.set_cons_succ, i64_w, i32_w]
              rfl
             refine pure_ (i := 10) (N := some 61) (v := ?_) (a' := ?_) #[true, true, true, true, true, true, true, true, true, false, true, false, false, false] rfl rfl (any_of HT_.out (by kernel_rfl)) (fun _ _ _ h => h) (Or.inl ⟨by rfl, ?_⟩) ?_ ?_
             rotate_left
             ·intro w'
              go_simp
              with_reducible rfl
             rotate_left
             ·simp only [Act.put, List.setIfInBounds_toArray, List.set_cons_zero, List.set_cons_succ, i64_w, i32_w]
              rfl
             refine take_ (i := 9) (N := some 60) (v := ?_) (a' := ?_) #[true, true, true, true, true, true, true, true, true, true, true, false, false, false] rfl rfl (take_ofW HT_.out HW_.out (by kernel_rfl)) (fun _ _ _ h => h) (Or.inl ⟨by rfl, ?_⟩) hHeld ?_ ?_
             rotate_left
             ·rintro w' ⟨s0, s1, s2, s3⟩
              go_simp
              with_reducible rfl
             rotate_left
             ·simp only [Act.put, List.setIfInBounds_toArray, List.set_cons_zero, List.set_cons_succ, i64_w, i32_w]
              rfl
             refine take_ (i := 11) (N := some 62) (v := ?_) (a' := ?_) #[true, true, true, true, true, true, true, true, true, true, true, true, false, false] rfl rfl (take_ofW HT_.out HW_.out (by kernel_rfl)) (fun _ _ _ h => h) (Or.inl ⟨by rfl, ?_⟩) hHeld ?_ ?_
             rotate_left
             ·rintro w' ⟨s0, s1, s2, s3⟩
              go_simp
              with_reducible rfl
             rotate_left
             ·simp only [Act.put, List.setIfInBounds_toArray, List.set_cons_zero, List.set_cons_succ, i64_w, i32_w]
              rfl
             refine pure_ (i := 12) (N := some 63) (v := ?_) (a' := ?_) #[true, true, true, true, true, true, true, true, true, true, true, true, true, false] rfl rfl (any_of HT_.out (by kernel_rfl)) (fun _ _ _ h => h) (Or.inl ⟨by rfl, ?_⟩) ?_ ?_
             rotate_left
             ·intro w'
              go_simp
              with_reducible rfl
             rotate_left
             ·simp only [Act.put, List.setIfInBounds_toArray, List.set_cons_zero, List.set_cons_succ, i64_w, i32_w]
              rfl
             refine pure_ (i := 13) (N := some 64) (v := ?_) (a' := ?_) #[true, true, true, true, true, true, true, true, true, true, true, true, true, true] rfl rfl (any_of HT_.out (by kernel_rfl)) (fun _ _ _ h => h) (Or.inl ⟨by rfl, ?_⟩) ?_ ?_
             rotate_left
             ·intro w'
              go_simp
              with_reducible rfl
             rotate_left
             ·simp only [Act.put, List.setIfInBounds_toArray, List.set_cons_zero, List.set_cons_succ, i64_w, i32_w]
              rfl
             refine done_ (done_of HT_.out (by kernel_rfl)) ?_
             try go_wp2
             go_meet
             case rel => exact ⟨_, ((((rd_T35 x5_1 x8_8).f0) == ((rd_T35 l0 x6_1).f0))), (by first | rfl | (simp; done) | (simp [*]; done)), H', ⟨by have := HK1.out; have := HJ2.out; have := HJ8.out; first | omega | exact Nat.le_refl _⟩, ⟨by (with_reducible repeat (first | apply Kd.R_alloc | apply Kd.R_drewN | apply Kd.R_drew)); exact HO_5.out⟩, ⟨by (with_reducible repeat (first | refine blk_drewN ?_ _ | refine blk_drew ?_ | refine blk_alloc ?_ _)); exact BK194.out⟩, ⟨by repeat (first | (with_reducible first | exact HB.out | apply below_alloc | apply pw_below_drewN | apply below_drew1 | refine below_set ?_ GE194.out) | exact HB.out)⟩⟩
            ·rw [if_neg c25] at H
             exact absurd H (by simp)
           ·rw [if_neg c24] at H
            have c24b0 : decide (x8_8 < (x5_1.length : Int)) = false := decide_eq_false c24
            clear c24
            (first | rw [c24b0] | (simp only [i64_w, i32_w]; rw [c24b0]) | skip)
            have H' := Aside0.mk H
            clear H
            try go_wp2
            have n0_ := Aside0.mk (Kd.R_drew HO_5.out)
            have n1_ := Aside0.mk (blk_drew BK194.out)
            have n2_ := Aside0.mk (below_drew1 HB.out)
            clear HO_5
            clear BK194
            clear HB
            have HO_5 := n0_
            have BK194 := n1_
            have HB := n2_
            clear n0_ n1_ n2_
            obtain ⟨Ao29, co29, eo29⟩ := Kd.R_slice HO_5.out
            (first | subst eo29 | (injection eo29 with f1_ f2_ f3_; have f4_ := f1_.symm; have f5_ := f3_.symm; clear f1_ f2_ f3_; subst f4_; subst f5_))
            refine start_ (n := 14) (S := fun w' => True) (ds := []) #[false, false, false, false, false, false, false, false, false, false, false, false, false, false] (by kernel_rfl) rfl rfl trivial (fun hHeld => ?_); refine with_tabW concordlaw10_made.tab9 concordlaw10_made.bits9 (fun HT_ HW_ => ?_)
            generalize wc.drew = w28 at HO_5 BK194 HB hHeld ⊢
            refine pure_ (i := 0) (N := some 51) (v := ?_) (a' := ?_) #[true, false, false, false, false, false, false, false, false, false, false, false, false, false] rfl rfl (any_of HT_.out (by kernel_rfl)) (fun _ _ _ h => h) (Or.inl ⟨by rfl, ?_⟩) ?_ ?_
            rotate_left
            ·intro w'
             go_simp
             with_reducible rfl
            rotate_left
            ·simp only [Act.put, List.setIfInBounds_toArray, List.set_cons_zero, List.set_cons_succ, i64_w, i32_w]
             rfl
            refine pure_ (i := 1) (N := some 52) (v := ?_) (a' := ?_) #[true, true, false, false, false, false, false, false, false, false, false, false, false, false] rfl rfl (any_of HT_.out (by kernel_rfl)) (fun _ _ _ h => h) (Or.inl ⟨by rfl, ?_⟩) ?_ ?_
            rotate_left
            ·intro w'
             go_simp
             with_reducible rfl
            rotate_left
            ·simp only [Act.put, List.setIfInBounds_toArray, List.set_cons_zero, List.set_cons_succ, i64_w, i32_w]
             rfl
            refine pure_ (i := 2) (N := some 53) (v := ?_) (a' := ?_) #[true, true, true, false, false, false, false, false, false, false, false, false, false, false] rfl rfl (any_of HT_.out (by kernel_rfl)) (fun _ _ _ h => h) (Or.inl ⟨by rfl, ?_⟩) ?_ ?_
            rotate_left
            ·intro w'
             go_simp
             with_reducible rfl
            rotate_left
            ·simp only [Act.put, List.setIfInBounds_toArray, List.set_cons_zero, List.set_cons_succ, i64_w, i32_w]
             rfl
            refine pure_ (i := 3) (N := some 54) (v := ?_) (a' := ?_) #[true, true, true, true, false, false, false, false, false, false, false, false, false, false] rfl rfl (any_of HT_.out (by kernel_rfl)) (fun _ _ _ h => h) (Or.inl ⟨by rfl, ?_⟩) ?_ ?_
            rotate_left
            ·intro w'
             go_simp
             with_reducible rfl
            rotate_left
            ·simp only [Act.put, List.setIfInBounds_toArray, List.set_cons_zero, List.set_cons_succ, i64_w, i32_w]
             rfl
            refine pure_ (i := 4) (N := some 55) (v := ?_) (a' := ?_) #[true, true, true, true, true, false, false, false, false, false, false, false, false, false] rfl rfl (any_of HT_.out (by kernel_rfl)) (fun _ _ _ h => h) (Or.inl ⟨by rfl, ?_⟩) ?_ ?_
            rotate_left
            ·intro w'
             go_simp
             with_reducible rfl
            rotate_left
            ·simp only [Act.put, List.setIfInBounds_toArray, List.set_cons_zero, List.set_cons_succ, i64_w, i32_w]
             rfl
            refine pure_ (i := 5) (N := some 56) (v := undef) (a' := ?_) #[true, true, true, true, true, true, false, false, false, false, false, false, false, false] rfl rfl (any_of HT_.out (by kernel_rfl)) (fun _ _ _ h => h) (Or.inr ⟨by rfl, rfl⟩) ?_ ?_
            rotate_left
            ·simp only [Act.put, List.setIfInBounds_toArray, List.set_cons_zero, List.set_cons_succ, i64_w, i32_w]
             rfl
            refine pure_ (i := 6) (N := some 57) (v := undef) (a' := ?_) #[true, true, true, true, true, true, true, false, false, false, false, false, false, false] rfl rfl (any_of HT_.out (by kernel_rfl)) (fun _ _ _ h => h) (Or.inr ⟨by rfl, rfl⟩) ?_ ?_
            rotate_left
            ·simp only [Act.put, List.setIfInBounds_toArray, List.set_cons_zero, List.set_cons_succ, i64_w, i32_w]
             rfl
            refine pure_ (i := 7) (N := some 58) (v := undef) (a' := ?_) #[true, true, true, true, true, true, true, true, false, false, false, false, false, false] rfl rfl (any_of HT_.out (by kernel_rfl)) (fun _ _ _ h => h) (Or.inr ⟨by rfl, rfl⟩) ?_ ?_
            rotate_left
            ·simp only [Act.put, List.setIfInBounds_toArray, List.set_cons_zero, List.set_cons_succ, i64_w, i32_w]
             rfl
            refine pure_ (i := 8) (N := some 59) (v := undef) (a' := ?_) #[true, true, true, true, true, true, true, true, true, false, false, false, false, false] rfl rfl (any_of HT_.out (by kernel_rfl)) (fun _ _ _ h => h) (Or.inr ⟨by rfl, rfl⟩) ?_ ?_
            rotate_left
            ·simp only [Act.put, List.setIfInBounds_toArray, List.set_cons_zero, List.set_cons_succ, i64_w, i32_w]
             rfl
            refine pure_ (i := 9) (N := some 60) (v := undef) (a' := ?_) #[true, true, true, true, true, true, true, true, true, true, false, false, false, false] rfl rfl (any_of HT_.out (by kernel_rfl)) (fun _ _ _ h => h) (Or.inr ⟨by rfl, rfl⟩) ?_ ?_
            rotate_left
            ·simp only [Act.put, List.setIfInBounds_toArray, List.set_cons_zero, List.set_cons_succ, i64_w, i32_w]
             rfl
            refine pure_ (i := 10) (N := some 61) (v := undef) (a' := ?_) #[true, true, true, true, true, true, true, true, true, true, true, false, false, false] rfl rfl (any_of HT_.out (by kernel_rfl)) (fun _ _ _ h => h) (Or.inr ⟨by rfl, rfl⟩) ?_ ?_
            rotate_left
            ·simp only [Act.put, List.setIfInBounds_toArray, List.set_cons_zero, List.set_cons_succ, i64_w, i32_w]
             rfl
            refine pure_ (i := 11) (N := some 62) (v := undef) (a' := ?_) #[true, true, true, true, true, true, true, true, true, true, true, true, false, false] rfl rfl (any_of HT_.out (by kernel_rfl)) (fun _ _ _ h => h) (Or.inr ⟨by rfl, rfl⟩) ?_ ?_
            rotate_left
            ·simp only [Act.put, List.setIfInBounds_toArray, List.set_cons_zero, List.set_cons_succ, i64_w, i32_w]
             rfl
            refine pure_ (i := 12) (N := some 63) (v := undef) (a' := ?_) #[true, true, true, true, true, true, true, true, true, true, true, true, true, false] rfl rfl (any_of HT_.out (by kernel_rfl)) (fun _ _ _ h => h) (Or.inr ⟨by rfl, rfl⟩) ?_ ?_
            rotate_left
            ·simp only [Act.put, List.setIfInBounds_toArray, List.set_cons_zero, List.set_cons_succ, i64_w, i32_w]
             rfl
            refine pure_ (i := 13) (N := some 64) (v := ?_) (a' := ?_) #[true, true, true, true, true, true, true, true, true, true, true, true, true, true] rfl rfl (any_of HT_.out (by kernel_rfl)) (fun _ _ _ h => h) (Or.inl ⟨by rfl, ?_⟩) ?_ ?_
            rotate_left
            ·intro w'
             go_simp
             with_reducible rfl
            rotate_left
            ·simp only [Act.put, List.setIfInBounds_toArray, List.set_cons_zero, List.set_cons_succ, i64_w, i32_w]
             rfl
            refine done_ (done_of HT_.out (by kernel_rfl)) ?_
            try go_wp2
            go_meet
            case rel => exact ⟨_, (false), (by first | rfl | (simp; done) | (simp [*]; done)), H', ⟨by have := HK1.out; have := HJ2.out; have := HJ8.out; first | omega | exact Nat.le_refl _⟩, ⟨by (with_reducible repeat (first | apply Kd.R_alloc | apply Kd.R_drewN | apply Kd.R_drew)); exact HO_5.out⟩, ⟨by (with_reducible repeat (first | refine blk_drewN ?_ _ | refine blk_drew ?_ | refine blk_alloc ?_ _)); exact BK194.out⟩, ⟨by repeat (first | (with_reducible first | exact HB.out | apply below_alloc | apply pw_below_drewN | apply below_drew1 | refine below_set ?_ GE194.out) | exact HB.out)⟩⟩
          case rest =>
           clear HC23
           try clear c1
           try clear p1
           try clear q1
           try clear hx1
           try clear c2
           try clear p2
           try clear c3
           try clear c4
           try clear c4b0
           try clear c6
           try clear p6
           try clear c7
           try clear c7b0
           try clear c8
           try clear c8b0
           try clear c14
           try clear c14b0
           try clear c15
           try clear c15b0
           try clear c16
           try clear c16b0
           try clear p19
           try clear q19
           try clear hx19
           try clear c24
           try clear c24b0
           try clear c25
           try clear c25b0
           try clear hx192_0
           try clear hx192_1
           try clear hx193_0
           try clear hx193_1
           try clear hx195_0
           try clear hx195_1
           try clear hx196_0
           try clear hx196_1
           try clear p1
           try clear p19
           try clear p192
           try clear p193
           try clear p195
           try clear p196
           try clear p2
           try clear p6
           try clear q1
           try clear q19
           try clear q192
           try clear q193
           try clear q195
           try clear q196
           obtain ⟨kq, x64_22, rfl, HA, HJ22, HO_5, BK194, HB⟩ := hcut
           cases kq with
           | zero => exact absurd HA.out (by simp [concordlaw10_made.j4])
           | succ kj22 =>
            have H := HA.out
            clear HA
            simp only [concordlaw10_made.j4] at H
            by_cases c30 : x64_22 = true
            ·subst c30
             have H1 : (concordlaw10_made.l0 kj22 l0 a1 x5_1 (wrap64 (x6_1 + 1))) = some r := by rw [if_pos rfl] at H; exact H
             clear H
             have H := H1
             clear H1
             have H' := Aside0.mk H
             clear H
             go_wp2
             go_roundg kj22
             case measure => have := HK1.out; have := HJ2.out; have := HJ8.out; have := HJ22.out; omega
             case rel => exact ⟨(x5_1), (wrap64 (x6_1 + 1)), (by first | rfl | (simp; done) | (simp [*]; done)), H', ⟨by have := HK1.out; have := HJ2.out; have := HJ8.out; have := HJ22.out; omega⟩, ⟨by (with_reducible repeat (first | apply Kd.R_alloc | apply Kd.R_drewN | apply Kd.R_drew)); exact Kd.R_mono HO_5.out (fun _ hk => trivial)⟩, ⟨by repeat (first | (with_reducible first | exact HB.out | apply below_alloc | apply pw_below_drewN | apply below_drew1 | refine below_set ?_ GE194.out) | exact HB.out)⟩⟩
            ·replace c30 := Bool.eq_false_iff.mpr c30
             subst c30
             have H1 : (if x5_1.length < 8796093022208 then ((some (x5_1 ++ [(⟨((rd_T35 l0 x6_1).f0), (IntKind.u64.wrap ((Int.tmod ((rd_T35 l0 x6_1).f1) 1099511627776) + 1))⟩ : S35)] : List (S35))).bind fun y197 => (concordlaw10_made.l2 kj22 l0 a1 y197 x6_1 x8_8 (wrap64 ((y197.length : Int) - 1)) ((rd_T35 l0 x6_1).f0) (IntKind.u64.wrap ((Int.tmod ((rd_T35 l0 x6_1).f1) 1099511627776) + 1)))) else (none)) = some r := by rw [if_neg (show ¬ (false = true) by decide)] at H; exact H
             clear H
             have H := H1
             clear H1
             by_cases c31 : x5_1.length < 8796093022208
             ·rw [if_pos c31] at H
              have LMc31 := Aside0.mk c31
              clear c31
              obtain ⟨y197, hy197⟩ : ∃ y_ : List (S35), y_ = (x5_1 ++ [(⟨((rd_T35 l0 x6_1).f0), (IntKind.u64.wrap ((Int.tmod ((rd_T35 l0 x6_1).f1) 1099511627776) + 1))⟩ : S35)]) := ⟨_, rfl⟩
              replace H : (concordlaw10_made.l2 kj22 l0 a1 y197 x6_1 x8_8 (wrap64 ((y197.length : Int) - 1)) ((rd_T35 l0 x6_1).f0) (IntKind.u64.wrap ((Int.tmod ((rd_T35 l0 x6_1).f1) 1099511627776) + 1))) = some r := by first | (rw [hy197]; with_reducible exact H) | (have H2_ := (Option.bind_some _ _).symm.trans H; rw [hy197]; with_reducible exact H2_) | (have H2_ := (Option.bind_some _ _).symm.trans H; with_reducible exact H2_) | with_reducible exact H | (rw [hy197]; exact H) | exact H
              have Ny197 := Aside0.mk hy197
              clear hy197
              have H' := Aside0.mk H
              clear H
              have hcz32_0 : wc.cell? ⟨gb194, 0, none⟩ = some (.int .u32 ((rd_T35 l0 x6_1).f0)) := (blk_cell BK194.out 0).trans rfl
              have hcz32_1 : wc.cell? ⟨gb194, 1, none⟩ = some (.int .u64 (IntKind.u64.wrap ((Int.tmod ((rd_T35 l0 x6_1).f1) 1099511627776) + 1))) := (blk_cell BK194.out 1).trans rfl
              have hfz32_0 := blk_frozen BK194.out 0
              have hfz32_1 := blk_frozen BK194.out 1
              go_wp2_with (first | ((with_reducible refine gate_builtin (b := .append) (xs := #[.tmp 65, .tmp 67]) rfl ?_); (try (refine gate_guard (by rfl) ?_; dsimp only)); at_builtin; refine Kd.R_append k35 (w0 := w) w.heap.size rfl (.tmp 65) (.tmp 67) 22 35 (.agg #[(.int .u32 0), (.int .u64 0)]) 16 rfl Try.underlying22 info35 rfl (by decide) (by omega) u5 x5_1 (⟨((rd_T35 l0 x6_1).f0), (IntKind.u64.wrap ((Int.tmod ((rd_T35 l0 x6_1).f1) 1099511627776) + 1))⟩ : S35) [.int .u32 ((rd_T35 l0 x6_1).f0), .int .u64 (IntKind.u64.wrap ((Int.tmod ((rd_T35 l0 x6_1).f1) 1099511627776) + 1))] (fun k_ => k_ ≠ gb194) (fun _ => False) rfl rfl ?aP (fun _ hk => hk.elim) ?aF ?aO ?aB ?aS ?aL ?_; (case aP => exact k35_mkM _ _ _ (⟨((rd_T35 l0 x6_1).f0), (IntKind.u64.wrap ((Int.tmod ((rd_T35 l0 x6_1).f1) 1099511627776) + 1))⟩ : S35)); (case aB => exact (by repeat (first | (with_reducible first | exact HB.out | apply below_alloc | apply pw_below_drewN | apply below_drew1 | refine below_set ?_ GE194.out) | exact HB.out))); (case aF => exact (fun k_ hk => Kd.freshB (g := gb194) (o := .cells #[.int .u32 ((rd_T35 l0 x6_1).f0), .int .u64 (IntKind.u64.wrap ((Int.tmod ((rd_T35 l0 x6_1).f1) 1099511627776) + 1))] 35 (0, 0)) (by (with_reducible repeat (first | refine blk_drewN ?_ _ | refine blk_drew ?_ | refine blk_alloc ?_ _)); exact BK194.out) k_ hk)); (case aO => exact (by (with_reducible repeat (first | apply Kd.R_alloc | apply Kd.R_drewN | apply Kd.R_drew)); exact HO_5.out)); (case aS => exact (below_size (by repeat (first | (with_reducible first | exact HB.out | apply below_alloc | apply pw_below_drewN | apply below_drew1 | refine below_set ?_ GE194.out) | exact HB.out)))); (case aL => have := LMc31.out; omega); intro v198 w33 ho hb hg hat; rw [← Ny197.out] at ho; have n0_ := Aside0.mk (blk_grown (g := gb194) (o := .cells #[.int .u32 ((rd_T35 l0 x6_1).f0), .int .u64 (IntKind.u64.wrap ((Int.tmod ((rd_T35 l0 x6_1).f1) 1099511627776) + 1))] 35 (0, 0)) (by (with_reducible repeat (first | refine blk_drewN ?_ _ | refine blk_drew ?_ | refine blk_alloc ?_ _)); exact BK194.out) hg (Kd.R_away HO_5.out (fun _ hk => hk))); have n1_ := Aside0.mk (hb); have n2_ := Aside0.mk (ho); clear BK194; clear HB; clear HO_5; have BK194 := n0_; have HB := n1_; have HO199 := n2_; clear n0_ n1_ n2_; clear ho hb hg hat; obtain ⟨Ao34, co34, eo34⟩ := Kd.R_slice HO199.out; subst eo34))
              go_loopg [9] kj22 (fun kq v9 w' => ∃ (x5_5 : List (S35)) (x9_5 : Int) (x195000_5 : Int) (x195001_5 : Int), v9 = .int .i64 x9_5 ∧ Aside0 (concordlaw10_made.l2 kq l0 a1 x5_5 x6_1 x8_8 x9_5 x195000_5 x195001_5 = some r) ∧ Aside0 (kq ≤ kj22) ∧ Aside0 (Kd.R k35 35 w' w.heap.size (fun k_ => k_ ≠ gb194) (.slice Ao34 y197.length co34) x5_5) ∧ Aside0 (w'.heap[gb194]? = some (.cells #[.int .u32 x195000_5, .int .u64 x195001_5] 35 (0, 0))) ∧ Aside0 (Below w.heap.size w w'))
              case atStart => exact ⟨(y197), (wrap64 ((y197.length : Int) - 1)), (((rd_T35 l0 x6_1).f0)), ((IntKind.u64.wrap ((Int.tmod ((rd_T35 l0 x6_1).f1) 1099511627776) + 1))), (by first | rfl | (simp; done) | (simp [*]; done)), H', ⟨Nat.le_refl _⟩, ⟨by (with_reducible repeat (first | apply Kd.R_alloc | apply Kd.R_drewN | apply Kd.R_drew)); exact HO199.out⟩, ⟨by (with_reducible repeat (first | refine blk_drewN ?_ _ | refine blk_drew ?_ | refine blk_alloc ?_ _)); exact BK194.out⟩, ⟨by repeat (first | (with_reducible first | exact HB.out | apply below_alloc | apply pw_below_drewN | apply below_drew1 | refine below_set ?_ GE194.out) | exact HB.out)⟩⟩
              case round =>
               clear H'
               try clear c1
               try clear p1
               try clear q1
               try clear hx1
               try clear c2
               try clear p2
               try clear c3
               try clear c4
               try clear c4b0
               try clear c6
               try clear p6
               try clear c7
               try clear c7b0
               try clear c8
               try clear c8b0
               try clear c14
               try clear c14b0
               try clear c15
               try clear c15b0
               try clear c16
               try clear c16b0
               try clear p19
               try clear q19
               try clear hx19
               try clear c24
               try clear c24b0
               try clear c25
               try clear c25b0
               try clear c30
               try clear c31
               try clear hcz32_0
               try clear hcz32_1
               try clear hfz32_0
               try clear hfz32_1
               try clear hx192_0
               try clear hx192_1
               try clear hx193_0
               try clear hx193_1
               try clear hx195_0
               try clear hx195_1
               try clear hx196_0
               try clear hx196_1
               try clear p1
               try clear p19
               try clear p192
               try clear p193
               try clear p195
               try clear p196
               try clear p2
               try clear p6
               try clear q1
               try clear q19
               try clear q192
               try clear q193
               try clear q195
               try clear q196
               obtain ⟨x5_5, x9_5, x195000_5, x195001_5, rfl, HA, HK5, HO_5, BK194, HB⟩ := hrel
               have hl5_5 := (Kd.R_reads' HO_5.out).1
               rw [hl5_5] at HO_5
               (try simp only [hl5_5])
               (try simp only [hl5_5] at BK194)
               cases gk with
               | zero => exact absurd HA.out (by simp [concordlaw10_made.l2])
               | succ k5 =>
                have H := HA.out
                clear HA
                simp only [concordlaw10_made.l2] at H
                by_cases c35 : x9_5 > x8_8
                ·rw [if_pos c35] at H
                 have c35b0 : decide (x8_8 < x9_5) = true := decide_eq_true c35
                 clear c35
                 obtain ⟨ji36, hji36⟩ : ∃ j_ : Int, (wrap64 (x9_5 - 1)) = j_ := ⟨_, rfl⟩
                 replace H : (if 0 ≤ (ji36) then (if (ji36) < (x5_5.length : Int) then (if 0 ≤ x9_5 then (if x9_5 < (x5_5.length : Int) then (concordlaw10_made.l2 k5 l0 a1 (x5_5.set (x9_5 : Int).toNat (⟨(rd_T35 x5_5 (ji36)).f0, (rd_T35 x5_5 (ji36)).f1⟩ : S35)) x6_1 x8_8 ji36 x195000_5 x195001_5) else (none)) else (none)) else (none)) else (none)) = some r := by first | (rw [hji36] at H; exact H) | (simp only [hji36] at H ⊢; exact H)
                 have hji36w : (IntKind.i64.wrap (x9_5 - 1)) = ji36 := (i64_w _).trans hji36
                 by_cases c37 : 0 ≤ (ji36)
                 ·rw [if_pos c37] at H
                  have c37b0 : decide (0 ≤ (ji36)) = true := decide_eq_true c37
                  clear c37
                  by_cases c38 : (ji36) < (x5_5.length : Int)
                  ·rw [if_pos c38] at H
                   have c38b0 : decide ((ji36) < (x5_5.length : Int)) = true := decide_eq_true c38
                   clear c38
                   by_cases c39 : 0 ≤ x9_5
                   ·rw [if_pos c39] at H
                    have c39b0 : decide (0 ≤ x9_5) = true := decide_eq_true c39
                    clear c39
                    by_cases c40 : x9_5 < (x5_5.length : Int)
                    ·rw [if_pos c40] at H
                     have c40b0 : decide (x9_5 < (x5_5.length : Int)) = true := decide_eq_true c40
                     clear c40
                     obtain ⟨y201, hy201⟩ : ∃ y_ : List (S35), y_ = (x5_5.set (x9_5 : Int).toNat (⟨(rd_T35 x5_5 (ji36)).f0, (rd_T35 x5_5 (ji36)).f1⟩ : S35)) := ⟨_, rfl⟩
                     replace H : (concordlaw10_made.l2 k5 l0 a1 y201 x6_1 x8_8 ji36 x195000_5 x195001_5) = some r := by first | (rw [hy201]; with_reducible exact H) | (have H2_ := (Option.bind_some _ _).symm.trans H; rw [hy201]; with_reducible exact H2_) | (have H2_ := (Option.bind_some _ _).symm.trans H; with_reducible exact H2_) | with_reducible exact H | (rw [hy201]; exact H) | exact H
                     have Ny201 := Aside0.mk hy201
                     clear hy201
                     have H' := Aside0.mk H
                     clear H
                     have p200 : 0 ≤ ((ji36) : Int) := of_decide_eq_true (by first | (with_reducible assumption) | assumption)
                     have q200 : (ji36) < (x5_5.length : Int) := of_decide_eq_true (by first | (with_reducible assumption) | assumption)
                     obtain ⟨ad200, e200, hx200_0, hx200_1⟩ := at_T35 (Kd.R_reads' HO_5.out).2.2 (ji36) p200 q200
                     cases e200
                     replace p200 := eq_true p200
                     replace q200 := eq_true q200
                     have p41 : 0 ≤ (x9_5 : Int) := of_decide_eq_true (by first | (with_reducible assumption) | assumption)
                     have q41 : (x9_5 : Int) < ((x5_5.length : Int) : Int) := of_decide_eq_true (by first | (with_reducible assumption) | assumption)
                     obtain ⟨go41, co41, eo41, gb41, gl41, cl41, HG41⟩ := Kd.R_form HO_5.out (by omega)
                     (first | cases eo41 | (injection eo41 with ea_ en_ ec_; (first | subst ea_ | (injection ea_ with ea_; subst ea_)); subst ec_; clear en_))
                     have GB41 := Aside0.mk gb41
                     have GG41 := Aside0.mk HG41
                     clear gb41 gl41 HG41
                     (first | simp only [add_plain] at hx200_0 | skip)
                     (first | simp only [add_plain] at hx200_1 | skip)
                     obtain ⟨ce41, hcl41, hM41, hcc41, hfr41⟩ := Kd.R_elem HO_5.out z35 (x9_5 : Int) p41 q41
                     obtain rfl := k35_openM hM41
                     have hx41_0 : wr.cell? ⟨go41, (x9_5 : Int).toNat * 2, none⟩ = some (.int .u32 ((rd_T35 x5_5 x9_5).f0)) := hcc41 0 _ rfl
                     have hx41_1 : wr.cell? ⟨go41, (x9_5 : Int).toNat * 2 + 1, none⟩ = some (.int .u64 ((rd_T35 x5_5 x9_5).f1)) := hcc41 1 _ rfl
                     have hf41_0 : wr.frozen? ⟨go41, (x9_5 : Int).toNat * 2, none⟩ = false := hfr41 0
                     have hf41_1 : wr.frozen? ⟨go41, (x9_5 : Int).toNat * 2 + 1, none⟩ = false := hfr41 1
                     clear hcl41 hcc41 hfr41 hM41
                     replace p41 := eq_true p41
                     replace q41 := eq_true q41
                     have HX42 := Aside0.mk (show Kd.R k35 35 wr w.heap.size (fun k_ => k_ ≠ gb194) (.slice (some ⟨go41, 0, none⟩) x5_5.length co34) x5_5 from (by (with_reducible repeat (first | apply Kd.R_alloc | apply Kd.R_drewN | apply Kd.R_drew)); exact HO_5.out))
                     obtain ⟨ce42, hcl42, hM42, hcc42, hfr42⟩ := Kd.R_elem HX42.out z35 (x9_5 : Int) (of_decide_eq_true (by first | (with_reducible assumption) | assumption)) (by have h_ : (x9_5 : Int) < ((x5_5.length : Int) : Int) := of_decide_eq_true (by first | (with_reducible assumption) | assumption); first | exact h_ | (have e_ := (Kd.R_reads' HO_5.out).1; omega) | simpa using h_)
                     obtain rfl := k35_openM hM42
                     have HP42 := Kd.R_seg HX42.out (x9_5 : Int) (of_decide_eq_true (by first | (with_reducible assumption) | assumption)) (by have h_ : (x9_5 : Int) < ((x5_5.length : Int) : Int) := of_decide_eq_true (by first | (with_reducible assumption) | assumption); first | exact h_ | (have e_ := (Kd.R_reads' HO_5.out).1; omega) | simpa using h_) (seg := [.int .u32 ((rd_T35 x5_5 (ji36)).f0), .int .u64 ((rd_T35 x5_5 (ji36)).f1)]) (j := 0) hcl42 hcc42 (show 2 ≤ 2 from by decide) (x' := (⟨(rd_T35 x5_5 (ji36)).f0, (rd_T35 x5_5 (ji36)).f1⟩ : S35)) (k35_mkM _ _ _ (⟨(rd_T35 x5_5 (ji36)).f0, (rd_T35 x5_5 (ji36)).f1⟩ : S35) ) (fun _ hk => hk)
                     have hx42_0 := hcc42 0 _ rfl
                     (try simp only [show (k35).sz = 2 from rfl, Nat.mul_one, Nat.add_zero] at hx42_0)
                     have hf42_0 := hfr42 0
                     (try simp only [show (k35).sz = 2 from rfl, Nat.mul_one, Nat.add_zero] at hf42_0)
                     have hx42_1 := hcc42 1 _ rfl
                     (try simp only [show (k35).sz = 2 from rfl, Nat.mul_one, Nat.add_zero] at hx42_1)
                     have hf42_1 := hfr42 1
                     (try simp only [show (k35).sz = 2 from rfl, Nat.mul_one, Nat.add_zero] at hf42_1)
                     clear hcl42 hcc42 hfr42 hM42
                     go_wp2_with (first | ((with_reducible refine gate_store (t := 35) (p := 84) rfl ?_); refine store_event (t := 35) (p := 84) (v := ?vo_w43) (w1 := ((wr.setCell ⟨go41, (x9_5 : Int).toNat * 2, none⟩ (.int .u32 ((rd_T35 x5_5 (ji36)).f0))).setCell ⟨go41, (x9_5 : Int).toNat * 2 + 1, none⟩ (.int .u64 ((rd_T35 x5_5 (ji36)).f1)))) ?hg ?ho ?hn ?hr ?_; (case ho => rfl); (case hg => rfl); (case hn => rfl); (case hr => first | (go_simp; done) | (go_simp; rfl)); intro w43 hw; have hg : wr.grownBy w43 (some go41) := (by rw [hw]; exact HP42.2); have hp_ : Kd.R k35 35 w43 w.heap.size (fun k_ => k_ ≠ gb194) (.slice (some ⟨go41, 0, none⟩) x5_5.length co34) y201 := (by rw [hw, Ny201.out]; exact HP42.1); clear HP42; have n0_ := Aside0.mk (hp_); have n1_ := Aside0.mk (blk_grown (g := gb194) (o := .cells #[.int .u32 x195000_5, .int .u64 x195001_5] 35 (0, 0)) (by (with_reducible repeat (first | refine blk_drewN ?_ _ | refine blk_drew ?_ | refine blk_alloc ?_ _)); exact BK194.out) hg (Kd.R_away HO_5.out (fun _ hk => hk))); have n2_ := Aside0.mk ((by rw [hw]; exact below_set (below_set (HB.out) GB41.out) GB41.out : Below w.heap.size w w43)); clear HO_5; clear BK194; clear HB; have HO_5 := n0_; have BK194 := n1_; have HB := n2_; clear n0_ n1_ n2_; clear hg hw hp_))
                     (try simp only [← hl5_5])
                     go_roundg k5
                     case measure => have := HK1.out; have := HJ2.out; have := HJ8.out; have := HJ22.out; have := HK5.out; omega
                     case rel => exact ⟨(y201), (ji36), (x195000_5), (x195001_5), (by first | rfl | (simp; done) | (simp only [← hji36] <;> (first | rfl | simp)) | (simp [*]; done)), H', ⟨by have := HK1.out; have := HJ2.out; have := HJ8.out; have := HJ22.out; have := HK5.out; omega⟩, ⟨by (try simp only [hl5_5]); (with_reducible repeat (first | apply Kd.R_alloc | apply Kd.R_drewN | apply Kd.R_drew)); exact HO_5.out⟩, ⟨by (try simp only [hl5_5]); (with_reducible repeat (first | refine blk_drewN ?_ _ | refine blk_drew ?_ | refine blk_alloc ?_ _)); exact BK194.out⟩, ⟨by repeat (first | (with_reducible first | exact HB.out | apply below_alloc | apply pw_below_drewN | apply below_drew1 | refine below_set ?_ GE194.out) | exact HB.out)⟩⟩
                    ·rw [if_neg c40] at H
                     exact absurd H (by simp)
                   ·rw [if_neg c39] at H
                    exact absurd H (by simp)
                  ·rw [if_neg c38] at H
                   exact absurd H (by simp)
                 ·rw [if_neg c37] at H
                  exact absurd H (by simp)
                ·rw [if_neg c35] at H
                 have c35b0 : decide (x8_8 < x9_5) = false := decide_eq_false c35
                 clear c35
                 by_cases c44 : 0 ≤ x8_8
                 ·rw [if_pos c44] at H
                  have c44b0 : decide (0 ≤ x8_8) = true := decide_eq_true c44
                  clear c44
                  by_cases c45 : x8_8 < (x5_5.length : Int)
                  ·rw [if_pos c45] at H
                   have c45b0 : decide (x8_8 < (x5_5.length : Int)) = true := decide_eq_true c45
                   clear c45
                   obtain ⟨y202, hy202⟩ : ∃ y_ : List (S35), y_ = (x5_5.set (x8_8 : Int).toNat (⟨x195000_5, x195001_5⟩ : S35)) := ⟨_, rfl⟩
                   replace H : (concordlaw10_made.l0 k5 l0 a1 y202 (wrap64 (x6_1 + 1))) = some r := by first | (rw [hy202]; with_reducible exact H) | (have H2_ := (Option.bind_some _ _).symm.trans H; rw [hy202]; with_reducible exact H2_) | (have H2_ := (Option.bind_some _ _).symm.trans H; with_reducible exact H2_) | with_reducible exact H | (rw [hy202]; exact H) | exact H
                   have Ny202 := Aside0.mk hy202
                   clear hy202
                   have H' := Aside0.mk H
                   clear H
                   have hcz47_0 : wr.cell? ⟨gb194, 0, none⟩ = some (.int .u32 x195000_5) := (blk_cell BK194.out 0).trans rfl
                   have hcz47_1 : wr.cell? ⟨gb194, 1, none⟩ = some (.int .u64 x195001_5) := (blk_cell BK194.out 1).trans rfl
                   have hfz47_0 := blk_frozen BK194.out 0
                   have hfz47_1 := blk_frozen BK194.out 1
                   have p46 : 0 ≤ (x8_8 : Int) := of_decide_eq_true (by first | (with_reducible assumption) | assumption)
                   have q46 : (x8_8 : Int) < ((x5_5.length : Int) : Int) := of_decide_eq_true (by first | (with_reducible assumption) | assumption)
                   obtain ⟨go46, co46, eo46, gb46, gl46, cl46, HG46⟩ := Kd.R_form HO_5.out (by omega)
                   (first | cases eo46 | (injection eo46 with ea_ en_ ec_; (first | subst ea_ | (injection ea_ with ea_; subst ea_)); subst ec_; clear en_))
                   have GB46 := Aside0.mk gb46
                   have GG46 := Aside0.mk HG46
                   clear gb46 gl46 HG46
                   obtain ⟨ce46, hcl46, hM46, hcc46, hfr46⟩ := Kd.R_elem HO_5.out z35 (x8_8 : Int) p46 q46
                   obtain rfl := k35_openM hM46
                   have hx46_0 : wr.cell? ⟨go46, (x8_8 : Int).toNat * 2, none⟩ = some (.int .u32 ((rd_T35 x5_5 x8_8).f0)) := hcc46 0 _ rfl
                   have hx46_1 : wr.cell? ⟨go46, (x8_8 : Int).toNat * 2 + 1, none⟩ = some (.int .u64 ((rd_T35 x5_5 x8_8).f1)) := hcc46 1 _ rfl
                   have hf46_0 : wr.frozen? ⟨go46, (x8_8 : Int).toNat * 2, none⟩ = false := hfr46 0
                   have hf46_1 : wr.frozen? ⟨go46, (x8_8 : Int).toNat * 2 + 1, none⟩ = false := hfr46 1
                   clear hcl46 hcc46 hfr46 hM46
                   replace p46 := eq_true p46
                   replace q46 := eq_true q46
                   have HX48 := Aside0.mk (show Kd.R k35 35 wr w.heap.size (fun k_ => k_ ≠ gb194) (.slice (some ⟨go46, 0, none⟩) x5_5.length co34) x5_5 from (by (with_reducible repeat (first | apply Kd.R_alloc | apply Kd.R_drewN | apply Kd.R_drew)); exact HO_5.out))
                   obtain ⟨ce48, hcl48, hM48, hcc48, hfr48⟩ := Kd.R_elem HX48.out z35 (x8_8 : Int) (of_decide_eq_true (by first | (with_reducible assumption) | assumption)) (by have h_ : (x8_8 : Int) < ((x5_5.length : Int) : Int) := of_decide_eq_true (by first | (with_reducible assumption) | assumption); first | exact h_ | (have e_ := (Kd.R_reads' HO_5.out).1; omega) | simpa using h_)
                   obtain rfl := k35_openM hM48
                   have HP48 := Kd.R_seg HX48.out (x8_8 : Int) (of_decide_eq_true (by first | (with_reducible assumption) | assumption)) (by have h_ : (x8_8 : Int) < ((x5_5.length : Int) : Int) := of_decide_eq_true (by first | (with_reducible assumption) | assumption); first | exact h_ | (have e_ := (Kd.R_reads' HO_5.out).1; omega) | simpa using h_) (seg := [.int .u32 x195000_5, .int .u64 x195001_5]) (j := 0) hcl48 hcc48 (show 2 ≤ 2 from by decide) (x' := (⟨x195000_5, x195001_5⟩ : S35)) (k35_mkM _ _ _ (⟨x195000_5, x195001_5⟩ : S35) ) (fun _ hk => hk)
                   have hx48_0 := hcc48 0 _ rfl
                   (try simp only [show (k35).sz = 2 from rfl, Nat.mul_one, Nat.add_zero] at hx48_0)
                   have hf48_0 := hfr48 0
                   (try simp only [show (k35).sz = 2 from rfl, Nat.mul_one, Nat.add_zero] at hf48_0)
                   have hx48_1 := hcc48 1 _ rfl
                   (try simp only [show (k35).sz = 2 from rfl, Nat.mul_one, Nat.add_zero] at hx48_1)
                   have hf48_1 := hfr48 1
                   (try simp only [show (k35).sz = 2 from rfl, Nat.mul_one, Nat.add_zero] at hf48_1)
                   clear hcl48 hcc48 hfr48 hM48
                   go_wp2_with (first | ((with_reducible refine gate_store (t := 35) (p := 88) rfl ?_); refine store_event (t := 35) (p := 88) (v := ?vo_w49) (w1 := ((wr.setCell ⟨go46, (x8_8 : Int).toNat * 2, none⟩ (.int .u32 x195000_5)).setCell ⟨go46, (x8_8 : Int).toNat * 2 + 1, none⟩ (.int .u64 x195001_5))) ?hg ?ho ?hn ?hr ?_; (case ho => rfl); (case hg => rfl); (case hn => rfl); (case hr => first | (go_simp; done) | (go_simp; rfl)); intro w49 hw; have hg : wr.grownBy w49 (some go46) := (by rw [hw]; exact HP48.2); have hp_ : Kd.R k35 35 w49 w.heap.size (fun k_ => k_ ≠ gb194) (.slice (some ⟨go46, 0, none⟩) x5_5.length co34) y202 := (by rw [hw, Ny202.out]; exact HP48.1); clear HP48; have n0_ := Aside0.mk (hp_); have n1_ := Aside0.mk (blk_grown (g := gb194) (o := .cells #[.int .u32 x195000_5, .int .u64 x195001_5] 35 (0, 0)) (by (with_reducible repeat (first | refine blk_drewN ?_ _ | refine blk_drew ?_ | refine blk_alloc ?_ _)); exact BK194.out) hg (Kd.R_away HO_5.out (fun _ hk => hk))); have n2_ := Aside0.mk ((by rw [hw]; exact below_set (below_set (HB.out) GB46.out) GB46.out : Below w.heap.size w w49)); clear HO_5; clear BK194; clear HB; have HO_5 := n0_; have BK194 := n1_; have HB := n2_; clear n0_ n1_ n2_; clear hg hw hp_))
                   (try simp only [← hl5_5])
                   go_roundg k5
                   case measure => have := HK1.out; have := HJ2.out; have := HJ8.out; have := HJ22.out; have := HK5.out; omega
                   case rel => exact ⟨(y202), (wrap64 (x6_1 + 1)), (by first | rfl | (simp; done) | (simp [*]; done)), H', ⟨by have := HK1.out; have := HJ2.out; have := HJ8.out; have := HJ22.out; have := HK5.out; omega⟩, ⟨by (try simp only [hl5_5]); (with_reducible repeat (first | apply Kd.R_alloc | apply Kd.R_drewN | apply Kd.R_drew)); exact Kd.R_mono HO_5.out (fun _ hk => trivial)⟩, ⟨by repeat (first | (with_reducible first | exact HB.out | apply below_alloc | apply pw_below_drewN | apply below_drew1 | refine below_set ?_ GE194.out) | exact HB.out)⟩⟩
                  ·rw [if_neg c45] at H
                   exact absurd H (by simp)
                 ·rw [if_neg c44] at H
                  exact absurd H (by simp)
             ·rw [if_neg c31] at H
              exact absurd H (by simp)
       ·rw [if_neg c8] at H
        exact absurd H (by simp)
      ·rw [if_neg c7] at H
       exact absurd H (by simp)
     ·replace c6 := Bool.eq_false_iff.mpr c6
      subst c6
      have H1 : (some x5_1) = some r := by rw [if_neg (show ¬ (false = true) by decide)] at H; exact H
      clear H
      have H := H1
      clear H1
      obtain rfl := Option.some.inj H
      go_wp2
      go_ret
      exact ⟨_, by first | rfl | (simp [errW_none, errW_some] <;> rfl) | (simp [*, errW_none, errW_some] <;> rfl), by (with_reducible repeat (first | apply Kd.R_alloc | apply Kd.R_drewN | apply Kd.R_drew)); exact HO_5.out, by repeat (first | (with_reducible first | exact HB.out | apply below_alloc | apply pw_below_drewN | apply below_drew1) | exact HB.out)⟩

end Go.Proofs.Ytgcmmiihjiiemaa.PF
