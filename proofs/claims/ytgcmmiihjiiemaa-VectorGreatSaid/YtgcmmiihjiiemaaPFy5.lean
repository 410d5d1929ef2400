-- written by wip/mp.py of this claim's author, over the print of this machine
import Derived.Test.YtgcmmiihjiiemaaSq
import Derived.Test.YtgcmmiihjiiemaaPVectorMaxx0
import Derived.Test.YtgcmmiihjiiemaaPVectorMaxx1
import Derived.Test.YtgcmmiihjiiemaaPVectorMaxx2
import Derived.Test.YtgcmmiihjiiemaaPFy1
import Derived.Test.YtgcmmiihjiiemaaPFy2
namespace Go.Proofs.Ytgcmmiihjiiemaa.PF
open Go.Proofs.Ytgcmmiihjiiemaa.PVectorMax
open Go.Proofs.Ytgcmmiihjiiemaa.My
open Go.RowKit Go.Proofs.YtgcmmiihjiiemaaW.PrintWords Go.Proofs.YtgcmmiihjiiemaaW.PrintLast Go.Proofs.YtgcmmiihjiiemaaW.PrintMore
attribute [local go_sem] max2_int min2_int max_two min_two max_three min_three max_four min_four   -- for this text's walks alone
set_option linter.unusedVariables false
set_option linter.unusedSimpArgs false
attribute [local go_sem high] eqA35
/-! ### concordlaw10_VectorGreat: function 9 -/
mutual
def concordlaw10_VectorGreat.j0 : Nat → List (S35) → List (S35) → List (S35) → List (S35) → List (S35) → Int → Bool → Option (Bool)
 | 0, _, _, _, _, _, _, _ => none
 | k + 1, x7, x8, x9, x11, x12, x13, x62 => if x62 = true then (some false) else (if x13 = 0 then (concordlaw10_VectorGreat.l0 k x7 x8 x9 x11 x12 0) else (some true))
def concordlaw10_VectorGreat.l0 : Nat → List (S35) → List (S35) → List (S35) → List (S35) → List (S35) → Int → Option (Bool)
 | 0, _, _, _, _, _, _ => none
 | k + 1, x7, x8, x9, x11, x12, x14 => if x14 < (x11.length : Int) then (if 0 ≤ x14 then ((vector_Count.f x12 ((rd_T35 x11 x14).f0)).bind fun t325 => ((vector_Count.f x7 ((rd_T35 x11 x14).f0)).bind fun t327 => ((vector_Count.f x8 ((rd_T35 x11 x14).f0)).bind fun t329 => (if t325 = (mx t327 t329) then (if t325 < 1 then (some false) else (concordlaw10_VectorGreat.l0 k x7 x8 x9 x11 x12 (wrap64 (x14 + 1)))) else (some false))))) else (none)) else ((vector_Max.f x12 x9).bind fun bt330 => ((vector_Max.f x8 x9).bind fun bt334 => (if bt330.2 = 0 then (concordlaw10_VectorGreat.j2 k x7 x11 x12 bt330.1 bt334.1 (bt334.2 != 0)) else (concordlaw10_VectorGreat.j2 k x7 x11 x12 bt330.1 bt334.1 true))))
def concordlaw10_VectorGreat.j2 : Nat → List (S35) → List (S35) → List (S35) → List (S35) → List (S35) → Bool → Option (Bool)
 | 0, _, _, _, _, _, _ => none
 | k + 1, x7, x11, x12, x16, x18, x116 => if x116 = true then (some ((x12.length : Int) == (x11.length : Int))) else ((vector_Max.f x7 x18).bind fun bt338 => (if (x12.length : Int) = (x11.length : Int) then (if bt338.2 = 0 then ((concordlaw10_same.f k x16 bt338.1).bind fun t342 => (some t342)) else (some false)) else (some false)))
end
def concordlaw10_VectorGreat.f (k : Nat) (l0 : List (S35)) (l1 : List (S35)) (l2 : List (S35)) : Option (Bool) := (concordlaw10_works.f k).bind fun t301 => (if t301 = true then ((concordlaw10_made.f k l0 64).bind fun t302 => ((concordlaw10_made.f k l1 64).bind fun t305 => ((concordlaw10_made.f k l2 64).bind fun t308 => (if ([] : List (S35)).length + t302.length < 8796093022208 then ((some (([] : List (S35)) ++ t302 : List (S35))).bind fun y311 => (if y311.length + t305.length < 8796093022208 then ((concordlaw10_made.f k (y311 ++ t305) 128).bind fun t317 => ((vector_Max.f t302 t305).bind fun bt320 => (if ((bt320.2 == 0) != (decide ((t317.length : Int) ≤ 64))) = true then (concordlaw10_VectorGreat.j0 k t302 t305 t308 t317 bt320.1 bt320.2 true) else (if bt320.2 = 0 then (concordlaw10_VectorGreat.j0 k t302 t305 t308 t317 bt320.1 bt320.2 false) else (if bt320.2 = 82 then (concordlaw10_VectorGreat.j0 k t302 t305 t308 t317 bt320.1 bt320.2 ((bt320.1.length : Int) != 0)) else (concordlaw10_VectorGreat.j0 k t302 t305 t308 t317 bt320.1 bt320.2 true)))))) else (none))) else (none))))) else (some false))
theorem concordlaw10_VectorGreat.mono_l : ∀ k, (∀ y0 y1 y2 y3 y4 y5 y6, LeO (concordlaw10_VectorGreat.j0 k y0 y1 y2 y3 y4 y5 y6) (concordlaw10_VectorGreat.j0 (k + 1) y0 y1 y2 y3 y4 y5 y6)) ∧ (∀ y0 y1 y2 y3 y4 y5, LeO (concordlaw10_VectorGreat.l0 k y0 y1 y2 y3 y4 y5) (concordlaw10_VectorGreat.l0 (k + 1) y0 y1 y2 y3 y4 y5)) ∧ (∀ y0 y1 y2 y3 y4 y5, LeO (concordlaw10_VectorGreat.j2 k y0 y1 y2 y3 y4 y5) (concordlaw10_VectorGreat.j2 (k + 1) y0 y1 y2 y3 y4 y5))
 | 0 => ⟨fun _ _ _ _ _ _ _ r h => by simp [concordlaw10_VectorGreat.j0] at h, fun _ _ _ _ _ _ r h => by simp [concordlaw10_VectorGreat.l0] at h, fun _ _ _ _ _ _ r h => by simp [concordlaw10_VectorGreat.j2] at h⟩
 | k + 1 => by
  obtain ⟨ih0, ih1, ih2⟩ := concordlaw10_VectorGreat.mono_l k
  refine ⟨?_, ?_, ?_⟩
  ·intro y0 y1 y2 y3 y4 y5 y6
   unfold concordlaw10_VectorGreat.j0
   repeat' first
   | (with_reducible exact ih0 _ _ _ _ _ _ _)
   | (with_reducible exact ih1 _ _ _ _ _ _)
   | (with_reducible exact ih2 _ _ _ _ _ _)
   | (with_reducible exact concordlaw10_made.mono _ _ _)
   | (with_reducible exact concordlaw10_same.mono _ _ _)
   | (with_reducible exact concordlaw10_works.mono _)
   | (with_reducible exact LeO.refl _)
   | (with_reducible exact LeO.none _)
   | (with_reducible refine LeO.ite ?_ ?_)
   | (with_reducible refine LeO.bind ?_ (fun _ => ?_))
   | exact ih0 _ _ _ _ _ _ _
   | exact ih1 _ _ _ _ _ _
   | exact ih2 _ _ _ _ _ _
   | exact concordlaw10_made.mono _ _ _
   | exact concordlaw10_same.mono _ _ _
   | exact concordlaw10_works.mono _
   | exact LeO.none _
   | refine LeO.ite ?_ ?_
   | refine LeO.bind ?_ (fun _ => ?_)
  ·intro y0 y1 y2 y3 y4 y5
   unfold concordlaw10_VectorGreat.l0
   repeat' first
   | (with_reducible exact ih0 _ _ _ _ _ _ _)
   | (with_reducible exact ih1 _ _ _ _ _ _)
   | (with_reducible exact ih2 _ _ _ _ _ _)
   | (with_reducible exact concordlaw10_made.mono _ _ _)
   | (with_reducible exact concordlaw10_same.mono _ _ _)
   | (with_reducible exact concordlaw10_works.mono _)
   | (with_reducible exact LeO.refl _)
   | (with_reducible exact LeO.none _)
   | (with_reducible refine LeO.ite ?_ ?_)
   | (with_reducible refine LeO.bind ?_ (fun _ => ?_))
   | exact ih0 _ _ _ _ _ _ _
   | exact ih1 _ _ _ _ _ _
   | exact ih2 _ _ _ _ _ _
   | exact concordlaw10_made.mono _ _ _
   | exact concordlaw10_same.mono _ _ _
   | exact concordlaw10_works.mono _
   | exact LeO.none _
   | refine LeO.ite ?_ ?_
   | refine LeO.bind ?_ (fun _ => ?_)
  ·intro y0 y1 y2 y3 y4 y5
   unfold concordlaw10_VectorGreat.j2
   repeat' first
   | (with_reducible exact ih0 _ _ _ _ _ _ _)
   | (with_reducible exact ih1 _ _ _ _ _ _)
   | (with_reducible exact ih2 _ _ _ _ _ _)
   | (with_reducible exact concordlaw10_made.mono _ _ _)
   | (with_reducible exact concordlaw10_same.mono _ _ _)
   | (with_reducible exact concordlaw10_works.mono _)
   | (with_reducible exact LeO.refl _)
   | (with_reducible exact LeO.none _)
   | (with_reducible refine LeO.ite ?_ ?_)
   | (with_reducible refine LeO.bind ?_ (fun _ => ?_))
   | exact ih0 _ _ _ _ _ _ _
   | exact ih1 _ _ _ _ _ _
   | exact ih2 _ _ _ _ _ _
   | exact concordlaw10_made.mono _ _ _
   | exact concordlaw10_same.mono _ _ _
   | exact concordlaw10_works.mono _
   | exact LeO.none _
   | refine LeO.ite ?_ ?_
   | refine LeO.bind ?_ (fun _ => ?_)
theorem concordlaw10_VectorGreat.mono : ∀ a0 a1 a2 k, LeO (concordlaw10_VectorGreat.f k a0 a1 a2) (concordlaw10_VectorGreat.f (k + 1) a0 a1 a2) := by
 intro a0 a1 a2 k
 obtain ⟨ih0, ih1, ih2⟩ := concordlaw10_VectorGreat.mono_l k
 unfold concordlaw10_VectorGreat.f
 repeat' first
   | (with_reducible exact ih0 _ _ _ _ _ _ _)
   | (with_reducible exact ih1 _ _ _ _ _ _)
   | (with_reducible exact ih2 _ _ _ _ _ _)
   | (with_reducible exact concordlaw10_made.mono _ _ _)
   | (with_reducible exact concordlaw10_same.mono _ _ _)
   | (with_reducible exact concordlaw10_works.mono _)
   | (with_reducible exact LeO.refl _)
   | (with_reducible exact LeO.none _)
   | (with_reducible refine LeO.ite ?_ ?_)
   | (with_reducible refine LeO.bind ?_ (fun _ => ?_))
   | exact ih0 _ _ _ _ _ _ _
   | exact ih1 _ _ _ _ _ _
   | exact ih2 _ _ _ _ _ _
   | exact concordlaw10_made.mono _ _ _
   | exact concordlaw10_same.mono _ _ _
   | exact concordlaw10_works.mono _
   | exact LeO.none _
   | refine LeO.ite ?_ ?_
   | refine LeO.bind ?_ (fun _ => ?_)
def concordlaw10_VectorGreat.T19 : Bool × List (List Nat × List Nat) := (true, [([], []), ([], []), ([], []), ([], []), ([2, 3], [2, 3]), ([4], [4]), ([5], [5]), ([1, 6], [1, 6]), ([], []), ([], []), ([], []), ([9, 10], [9, 10]), ([11], [11]), ([12], [12]), ([8, 13, 7], [8, 13]), ([7, 14], [7, 14]), ([0, 15], [0, 15]), ([16, 14], [16]), ([17], [17]), ([18, 17], [17, 18]), ([17, 19], [17, 19])])
def concordlaw10_VectorGreat.B19 : List Nat := [0, 0, 0, 0, 12, 28, 60, 126, 0, 0, 0, 1536, 3584, 7680, 16382, 32766, 65535, 131071, 262143, 524287, 1048575]
theorem concordlaw10_VectorGreat.tab19 : rtab .any (opsOf Try.f9 19) = concordlaw10_VectorGreat.T19 := by kernel_rfl
theorem concordlaw10_VectorGreat.bits19 : waitsOk concordlaw10_VectorGreat.T19.2 concordlaw10_VectorGreat.B19 = true := by kernel_rfl
set_option maxHeartbeats 8000000 in
set_option maxRecDepth 100000 in
theorem concordlaw10_VectorGreat.calls (k : Nat) (A0 : Option Addr) (c0 : Nat) (l0 : List (S35)) (A1 : Option Addr) (c1 : Nat) (l1 : List (S35)) (A2 : Option Addr) (c2 : Nat) (l2 : List (S35)) (r : Bool) (w : World) (hr0 : Kd.C k35 w A0 l0.length l0) (hc0 : l0.length ≤ c0) (hr1 : Kd.C k35 w A1 l1.length l1) (hc1 : l1.length ≤ c1) (hr2 : Kd.C k35 w A2 l2.length l2) (hc2 : l2.length ≤ c2) (h : concordlaw10_VectorGreat.f k l0 l1 l2 = some r) :
  Calls Try.prog 9 #[.slice A0 l0.length c0, .slice A1 l1.length c1, .slice A2 l2.length c2] w fun e w' => e = .returned (.bool r) ∧ Below w.heap.size w w' := by
 have HR0 := Aside0.mk hr0
 have HC0 := Aside0.mk hc0
 clear hr0 hc0
 have HR1 := Aside0.mk hr1
 have HC1 := Aside0.mk hc1
 clear hr1 hc1
 have HR2 := Aside0.mk hr2
 have HC2 := Aside0.mk hc2
 clear hr2 hc2
 have HB := Aside0.mk (Below.refl w.heap.size w)
 have H : ((concordlaw10_works.f k).bind fun t301 => (if t301 = true then ((concordlaw10_made.f k l0 64).bind fun t302 => ((concordlaw10_made.f k l1 64).bind fun t305 => ((concordlaw10_made.f k l2 64).bind fun t308 => (if ([] : List (S35)).length + t302.length < 8796093022208 then ((some (([] : List (S35)) ++ t302 : List (S35))).bind fun y311 => (if y311.length + t305.length < 8796093022208 then ((concordlaw10_made.f k (y311 ++ t305) 128).bind fun t317 => ((vector_Max.f t302 t305).bind fun bt320 => (if ((bt320.2 == 0) != (decide ((t317.length : Int) ≤ 64))) = true then (concordlaw10_VectorGreat.j0 k t302 t305 t308 t317 bt320.1 bt320.2 true) else (if bt320.2 = 0 then (concordlaw10_VectorGreat.j0 k t302 t305 t308 t317 bt320.1 bt320.2 false) else (if bt320.2 = 82 then (concordlaw10_VectorGreat.j0 k t302 t305 t308 t317 bt320.1 bt320.2 ((bt320.1.length : Int) != 0)) else (concordlaw10_VectorGreat.j0 k t302 t305 t308 t317 bt320.1 bt320.2 true)))))) else (none))) else (none))))) else (some false))) = some r := h
 clear h
 replace H := Option.bind_eq_some_iff.mp H
 obtain ⟨t301, A40, H⟩ := H
 replace H : (if t301 = true then ((concordlaw10_made.f k l0 64).bind fun t302 => ((concordlaw10_made.f k l1 64).bind fun t305 => ((concordlaw10_made.f k l2 64).bind fun t308 => (if ([] : List (S35)).length + t302.length < 8796093022208 then ((some (([] : List (S35)) ++ t302 : List (S35))).bind fun y311 => (if y311.length + t305.length < 8796093022208 then ((concordlaw10_made.f k (y311 ++ t305) 128).bind fun t317 => ((vector_Max.f t302 t305).bind fun bt320 => (if ((bt320.2 == 0) != (decide ((t317.length : Int) ≤ 64))) = true then (concordlaw10_VectorGreat.j0 k t302 t305 t308 t317 bt320.1 bt320.2 true) else (if bt320.2 = 0 then (concordlaw10_VectorGreat.j0 k t302 t305 t308 t317 bt320.1 bt320.2 false) else (if bt320.2 = 82 then (concordlaw10_VectorGreat.j0 k t302 t305 t308 t317 bt320.1 bt320.2 ((bt320.1.length : Int) != 0)) else (concordlaw10_VectorGreat.j0 k t302 t305 t308 t317 bt320.1 bt320.2 true)))))) else (none))) else (none))))) else (some false)) = some r := H
 have A4 := Aside0.mk A40
 clear A40
 by_cases c5 : t301 = true
 ·subst c5
  have H1 : ((concordlaw10_made.f k l0 64).bind fun t302 => ((concordlaw10_made.f k l1 64).bind fun t305 => ((concordlaw10_made.f k l2 64).bind fun t308 => (if ([] : List (S35)).length + t302.length < 8796093022208 then ((some (([] : List (S35)) ++ t302 : List (S35))).bind fun y311 => (if y311.length + t305.length < 8796093022208 then ((concordlaw10_made.f k (y311 ++ t305) 128).bind fun t317 => ((vector_Max.f t302 t305).bind fun bt320 => (if ((bt320.2 == 0) != (decide ((t317.length : Int) ≤ 64))) = true then (concordlaw10_VectorGreat.j0 k t302 t305 t308 t317 bt320.1 bt320.2 true) else (if bt320.2 = 0 then (concordlaw10_VectorGreat.j0 k t302 t305 t308 t317 bt320.1 bt320.2 false) else (if bt320.2 = 82 then (concordlaw10_VectorGreat.j0 k t302 t305 t308 t317 bt320.1 bt320.2 ((bt320.1.length : Int) != 0)) else (concordlaw10_VectorGreat.j0 k t302 t305 t308 t317 bt320.1 bt320.2 true)))))) else (none))) else (none))))) = some r := by rw [if_pos rfl] at H; exact H
  clear H
  have H := H1
  clear H1
  replace H := Option.bind_eq_some_iff.mp H
  obtain ⟨t302, A60, H⟩ := H
  replace H : ((concordlaw10_made.f k l1 64).bind fun t305 => ((concordlaw10_made.f k l2 64).bind fun t308 => (if ([] : List (S35)).length + t302.length < 8796093022208 then ((some (([] : List (S35)) ++ t302 : List (S35))).bind fun y311 => (if y311.length + t305.length < 8796093022208 then ((concordlaw10_made.f k (y311 ++ t305) 128).bind fun t317 => ((vector_Max.f t302 t305).bind fun bt320 => (if ((bt320.2 == 0) != (decide ((t317.length : Int) ≤ 64))) = true then (concordlaw10_VectorGreat.j0 k t302 t305 t308 t317 bt320.1 bt320.2 true) else (if bt320.2 = 0 then (concordlaw10_VectorGreat.j0 k t302 t305 t308 t317 bt320.1 bt320.2 false) else (if bt320.2 = 82 then (concordlaw10_VectorGreat.j0 k t302 t305 t308 t317 bt320.1 bt320.2 ((bt320.1.length : Int) != 0)) else (concordlaw10_VectorGreat.j0 k t302 t305 t308 t317 bt320.1 bt320.2 true)))))) else (none))) else (none)))) = some r := H
  have A6 := Aside0.mk A60
  clear A60
  replace H := Option.bind_eq_some_iff.mp H
  obtain ⟨t305, A70, H⟩ := H
  replace H : ((concordlaw10_made.f k l2 64).bind fun t308 => (if ([] : List (S35)).length + t302.length < 8796093022208 then ((some (([] : List (S35)) ++ t302 : List (S35))).bind fun y311 => (if y311.length + t305.length < 8796093022208 then ((concordlaw10_made.f k (y311 ++ t305) 128).bind fun t317 => ((vector_Max.f t302 t305).bind fun bt320 => (if ((bt320.2 == 0) != (decide ((t317.length : Int) ≤ 64))) = true then (concordlaw10_VectorGreat.j0 k t302 t305 t308 t317 bt320.1 bt320.2 true) else (if bt320.2 = 0 then (concordlaw10_VectorGreat.j0 k t302 t305 t308 t317 bt320.1 bt320.2 false) else (if bt320.2 = 82 then (concordlaw10_VectorGreat.j0 k t302 t305 t308 t317 bt320.1 bt320.2 ((bt320.1.length : Int) != 0)) else (concordlaw10_VectorGreat.j0 k t302 t305 t308 t317 bt320.1 bt320.2 true)))))) else (none))) else (none))) = some r := H
  have A7 := Aside0.mk A70
  clear A70
  replace H := Option.bind_eq_some_iff.mp H
  obtain ⟨t308, A80, H⟩ := H
  replace H : (if ([] : List (S35)).length + t302.length < 8796093022208 then ((some (([] : List (S35)) ++ t302 : List (S35))).bind fun y311 => (if y311.length + t305.length < 8796093022208 then ((concordlaw10_made.f k (y311 ++ t305) 128).bind fun t317 => ((vector_Max.f t302 t305).bind fun bt320 => (if ((bt320.2 == 0) != (decide ((t317.length : Int) ≤ 64))) = true then (concordlaw10_VectorGreat.j0 k t302 t305 t308 t317 bt320.1 bt320.2 true) else (if bt320.2 = 0 then (concordlaw10_VectorGreat.j0 k t302 t305 t308 t317 bt320.1 bt320.2 false) else (if bt320.2 = 82 then (concordlaw10_VectorGreat.j0 k t302 t305 t308 t317 bt320.1 bt320.2 ((bt320.1.length : Int) != 0)) else (concordlaw10_VectorGreat.j0 k t302 t305 t308 t317 bt320.1 bt320.2 true)))))) else (none))) else (none)) = some r := H
  have A8 := Aside0.mk A80
  clear A80
  by_cases c9 : ([] : List (S35)).length + t302.length < 8796093022208
  ·rw [if_pos c9] at H
   have LMc9 := Aside0.mk c9
   clear c9
   obtain ⟨y311, hy311⟩ : ∃ y_ : List (S35), y_ = (([] : List (S35)) ++ t302) := ⟨_, rfl⟩
   replace H : (if y311.length + t305.length < 8796093022208 then ((concordlaw10_made.f k (y311 ++ t305) 128).bind fun t317 => ((vector_Max.f t302 t305).bind fun bt320 => (if ((bt320.2 == 0) != (decide ((t317.length : Int) ≤ 64))) = true then (concordlaw10_VectorGreat.j0 k t302 t305 t308 t317 bt320.1 bt320.2 true) else (if bt320.2 = 0 then (concordlaw10_VectorGreat.j0 k t302 t305 t308 t317 bt320.1 bt320.2 false) else (if bt320.2 = 82 then (concordlaw10_VectorGreat.j0 k t302 t305 t308 t317 bt320.1 bt320.2 ((bt320.1.length : Int) != 0)) else (concordlaw10_VectorGreat.j0 k t302 t305 t308 t317 bt320.1 bt320.2 true)))))) else (none)) = some r := by first | (rw [hy311]; with_reducible exact H) | (have H2_ := (Option.bind_some _ _).symm.trans H; rw [hy311]; with_reducible exact H2_) | (have H2_ := (Option.bind_some _ _).symm.trans H; with_reducible exact H2_) | with_reducible exact H | (rw [hy311]; exact H) | exact H
   have Ny311 := Aside0.mk hy311
   clear hy311
   by_cases c10 : y311.length + t305.length < 8796093022208
   ·rw [if_pos c10] at H
    have LMc10 := Aside0.mk c10
    clear c10
    obtain ⟨y314, hy314⟩ : ∃ y_ : List (S35), y_ = (y311 ++ t305) := ⟨_, rfl⟩
    replace H : ((concordlaw10_made.f k y314 128).bind fun t317 => ((vector_Max.f t302 t305).bind fun bt320 => (if ((bt320.2 == 0) != (decide ((t317.length : Int) ≤ 64))) = true then (concordlaw10_VectorGreat.j0 k t302 t305 t308 t317 bt320.1 bt320.2 true) else (if bt320.2 = 0 then (concordlaw10_VectorGreat.j0 k t302 t305 t308 t317 bt320.1 bt320.2 false) else (if bt320.2 = 82 then (concordlaw10_VectorGreat.j0 k t302 t305 t308 t317 bt320.1 bt320.2 ((bt320.1.length : Int) != 0)) else (concordlaw10_VectorGreat.j0 k t302 t305 t308 t317 bt320.1 bt320.2 true)))))) = some r := by first | (rw [hy314]; with_reducible exact H) | (have H2_ := (Option.bind_some _ _).symm.trans H; rw [hy314]; with_reducible exact H2_) | (have H2_ := (Option.bind_some _ _).symm.trans H; with_reducible exact H2_) | with_reducible exact H | (rw [hy314]; exact H) | exact H
    have Ny314 := Aside0.mk hy314
    clear hy314
    replace H := Option.bind_eq_some_iff.mp H
    obtain ⟨t317, A110, H⟩ := H
    replace H : ((vector_Max.f t302 t305).bind fun bt320 => (if ((bt320.2 == 0) != (decide ((t317.length : Int) ≤ 64))) = true then (concordlaw10_VectorGreat.j0 k t302 t305 t308 t317 bt320.1 bt320.2 true) else (if bt320.2 = 0 then (concordlaw10_VectorGreat.j0 k t302 t305 t308 t317 bt320.1 bt320.2 false) else (if bt320.2 = 82 then (concordlaw10_VectorGreat.j0 k t302 t305 t308 t317 bt320.1 bt320.2 ((bt320.1.length : Int) != 0)) else (concordlaw10_VectorGreat.j0 k t302 t305 t308 t317 bt320.1 bt320.2 true))))) = some r := H
    have A11 := Aside0.mk A110
    clear A110
    replace H := Option.bind_eq_some_iff.mp H
    obtain ⟨⟨t320, t321⟩, A120, H⟩ := H
    replace H : (if ((t321 == 0) != (decide ((t317.length : Int) ≤ 64))) = true then (concordlaw10_VectorGreat.j0 k t302 t305 t308 t317 t320 t321 true) else (if t321 = 0 then (concordlaw10_VectorGreat.j0 k t302 t305 t308 t317 t320 t321 false) else (if t321 = 82 then (concordlaw10_VectorGreat.j0 k t302 t305 t308 t317 t320 t321 ((t320.length : Int) != 0)) else (concordlaw10_VectorGreat.j0 k t302 t305 t308 t317 t320 t321 true)))) = some r := H
    have A12 := Aside0.mk A120
    clear A120
    have HC13 := Aside0.mk H
    clear H
    go_enter Try.func9, Try.ntmps9
    go_upto_region 11 with (first | ((with_reducible refine gate_callee (f := 38) rfl ?_); refine goesL_ (some 22) rfl rfl Try.func38 (by kernel_rfl) rfl #[] rfl (by (try simp only [List.map_toArray, List.map_cons, List.map_nil]); first | done | rfl | (simp only [List.length_drop, List.length_take]; rfl)) ?_; (with_reducible refine (concordlaw10_works.calls k  true _ A4.out).mono ?_); rintro e w14 ⟨rfl, hb⟩; refine ⟨_, rfl, ?_⟩; have n0_ := sSt HB hb; clear HB; have HB := n0_; clear n0_; (try clear hb); (try clear hb2); (try clear hk); (try clear hi)) | ((with_reducible refine gate_callee (f := 39) rfl ?_); refine goesL_ (some 25) rfl rfl Try.func39 (by kernel_rfl) rfl #[.slice A0 l0.length c0, .int .i64 64] rfl (by (try simp only [List.map_toArray, List.map_cons, List.map_nil]); first | done | rfl | (simp only [List.length_drop, List.length_take]; rfl)) ?_; (with_reducible refine (concordlaw10_made.calls k _ _ l0 64 t302 _ ?side1 ?side2 A6.out).mono ?_); (case side1 => repeat (first | exact (Kd.C_below HR0.out HB.out) | (with_reducible refine Kd.C_alloc ?_ _) | (with_reducible refine Kd.C_drewN ?_ _) | (with_reducible refine Kd.C_drew ?_))); (case side2 => exact HC0.out); rintro e w15 ⟨v303, rfl, ho0, hb⟩; refine ⟨_, rfl, ?_⟩; have n0_ := Aside0.mk (Kd.R_lower ho0 (sSz HB)); have n1_ := sSt HB hb; clear HB; have HO304 := n0_; have HB := n1_; clear n0_ n1_; (try clear hb); (try clear hb2); (try clear hk); (try clear hi); (try clear ho0)) | ((with_reducible refine gate_callee (f := 39) rfl ?_); refine goesL_ (some 27) rfl rfl Try.func39 (by kernel_rfl) rfl #[.slice A1 l1.length c1, .int .i64 64] rfl (by (try simp only [List.map_toArray, List.map_cons, List.map_nil]); first | done | rfl | (simp only [List.length_drop, List.length_take]; rfl)) ?_; (with_reducible refine (concordlaw10_made.calls k _ _ l1 64 t305 _ ?side1 ?side2 A7.out).mono ?_); (case side1 => repeat (first | exact (Kd.C_below HR1.out HB.out) | (with_reducible refine Kd.C_alloc ?_ _) | (with_reducible refine Kd.C_drewN ?_ _) | (with_reducible refine Kd.C_drew ?_))); (case side2 => exact HC1.out); rintro e w16 ⟨v306, rfl, ho0, hb⟩; refine ⟨_, rfl, ?_⟩; have n0_ := sEl HO304 (Kd.R_base ho0) hb; have n1_ := Aside0.mk (Kd.R_lower (Kd.R_new' ho0 (sLt HO304)) (sSz HB)); have n2_ := sSt HB hb; clear HO304; clear HB; have HO304 := n0_; have HO307 := n1_; have HB := n2_; clear n0_ n1_ n2_; (try clear hb); (try clear hb2); (try clear hk); (try clear hi); (try clear ho0)) | ((with_reducible refine gate_callee (f := 39) rfl ?_); refine goesL_ (some 29) rfl rfl Try.func39 (by kernel_rfl) rfl #[.slice A2 l2.length c2, .int .i64 64] rfl (by (try simp only [List.map_toArray, List.map_cons, List.map_nil]); first | done | rfl | (simp only [List.length_drop, List.length_take]; rfl)) ?_; (with_reducible refine (concordlaw10_made.calls k _ _ l2 64 t308 _ ?side1 ?side2 A8.out).mono ?_); (case side1 => repeat (first | exact (Kd.C_below HR2.out HB.out) | (with_reducible refine Kd.C_alloc ?_ _) | (with_reducible refine Kd.C_drewN ?_ _) | (with_reducible refine Kd.C_drew ?_))); (case side2 => exact HC2.out); rintro e w17 ⟨v309, rfl, ho0, hb⟩; refine ⟨_, rfl, ?_⟩; have n0_ := sEl HO304 (Kd.R_base ho0) hb; have n1_ := sEl HO307 (Kd.R_base ho0) hb; have n2_ := Aside0.mk (Kd.R_lower (Kd.R_new' (Kd.R_new' ho0 (sLt HO304)) (sLt HO307)) (sSz HB)); have n3_ := sSt HB hb; clear HO304; clear HO307; clear HB; have HO304 := n0_; have HO307 := n1_; have HO310 := n2_; have HB := n3_; clear n0_ n1_ n2_ n3_; (try clear hb); (try clear hb2); (try clear hk); (try clear hi); (try clear ho0); obtain ⟨Ao19, co19, eo19⟩ := Kd.R_slice HO304.out; subst eo19) | ((with_reducible refine gate_builtin (b := .append) (xs := #[.tmp 30, .tmp 31]) rfl ?_); (try (refine gate_guard (by rfl) ?_; dsimp only)); at_builtin; refine Kd.R_append_rows k35 (w0 := w) w.heap.size rfl (.tmp 30) (.tmp 31) 22 35 (.agg #[(.int .u32 0), (.int .u64 0)]) 16 rfl Try.underlying22 info35 rfl (by decide) (by omega) (.slice none 0 0) ([] : List (S35)) t302 _ _ _ (fun k_ => some k_ ≠ (.slice Ao19 t302.length co19 : Value).ownBlock ∧ some k_ ≠ (v306 : Value).ownBlock ∧ some k_ ≠ (v309 : Value).ownBlock) (fun _ => False) rfl rfl ?aO ?aR (fun _ _ h => h) (fun _ h => h.elim) ?aF ?aB ?aS ?aL ?_; (case aR => repeat (first | exact (Kd.R_reads' HO304.out).2.2 | (with_reducible refine Kd.C_alloc ?_ _) | (with_reducible refine Kd.C_drewN ?_ _) | (with_reducible refine Kd.C_drew ?_))); (case aB => exact (by repeat (first | (with_reducible first | exact HB.out | apply below_alloc | apply pw_below_drewN | apply below_drew1) | exact HB.out))); (case aF => exact (fun k_ hk => ⟨Kd.fresh' (sLt HO304) k_ hk, Kd.fresh' (sLt HO307) k_ hk, Kd.fresh' (sLt HO310) k_ hk⟩)); (case aO => exact ((Kd.R_nil _ _ _ _ (fun k_ => some k_ ≠ (.slice Ao19 t302.length co19 : Value).ownBlock ∧ some k_ ≠ (v306 : Value).ownBlock ∧ some k_ ≠ (v309 : Value).ownBlock)))); (case aS => exact (sSz HB)); (case aL => have := LMc9.out; omega); intro v312 w18 ho hb hg hat; rw [← Ny311.out] at ho; have n0_ := Aside0.mk (Kd.R_after (Kd.R_apart_nil (by (with_reducible repeat (first | apply Kd.R_alloc | apply Kd.R_drewN | apply Kd.R_drew)); exact HO304.out)) hg hat); have n1_ := Aside0.mk (Kd.R_after (Kd.R_apart_nil (by (with_reducible repeat (first | apply Kd.R_alloc | apply Kd.R_drewN | apply Kd.R_drew)); exact HO307.out)) hg hat); have n2_ := Aside0.mk (Kd.R_after (Kd.R_apart_nil (by (with_reducible repeat (first | apply Kd.R_alloc | apply Kd.R_drewN | apply Kd.R_drew)); exact HO310.out)) hg hat); have n3_ := Aside0.mk (hb); have n4_ := Aside0.mk (ho); clear HO304; clear HO307; clear HO310; clear HB; have HO304 := n0_; have HO307 := n1_; have HO310 := n2_; have HB := n3_; have HO313 := n4_; clear n0_ n1_ n2_ n3_ n4_; clear ho hb hg hat; obtain ⟨Ao21, co21, eo21⟩ := Kd.R_slice HO307.out; subst eo21) | ((with_reducible refine gate_builtin (b := .append) (xs := #[.tmp 33, .tmp 34]) rfl ?_); (try (refine gate_guard (by rfl) ?_; dsimp only)); at_builtin; refine Kd.R_append_rows k35 (w0 := w) w.heap.size rfl (.tmp 33) (.tmp 34) 22 35 (.agg #[(.int .u32 0), (.int .u64 0)]) 16 rfl Try.underlying22 info35 rfl (by decide) (by omega) v312 y311 t305 _ _ _ (fun k_ => some k_ ≠ (.slice Ao19 t302.length co19 : Value).ownBlock ∧ some k_ ≠ (.slice Ao21 t305.length co21 : Value).ownBlock ∧ some k_ ≠ (v309 : Value).ownBlock) (fun _ => False) rfl rfl ?aO ?aR (fun _ _ h => h) (fun _ h => h.elim) ?aF ?aB ?aS ?aL ?_; (case aR => repeat (first | exact (Kd.R_reads' HO307.out).2.2 | (with_reducible refine Kd.C_alloc ?_ _) | (with_reducible refine Kd.C_drewN ?_ _) | (with_reducible refine Kd.C_drew ?_))); (case aB => exact (by repeat (first | (with_reducible first | exact HB.out | apply below_alloc | apply pw_below_drewN | apply below_drew1) | exact HB.out))); (case aF => exact (fun k_ hk => ⟨Kd.fresh' (sLt HO304) k_ hk, Kd.fresh' (sLt HO307) k_ hk, Kd.fresh' (sLt HO310) k_ hk⟩)); (case aO => exact (by (with_reducible repeat (first | apply Kd.R_alloc | apply Kd.R_drewN | apply Kd.R_drew)); exact HO313.out)); (case aS => exact (sSz HB)); (case aL => have := LMc10.out; omega); intro v315 w20 ho hb hg hat; rw [← Ny314.out] at ho; have n0_ := Aside0.mk (Kd.R_after (ok := (fun k_ => some k_ ≠ (.slice Ao21 t305.length co21 : Value).ownBlock ∧ some k_ ≠ (v309 : Value).ownBlock)) (by (with_reducible repeat (first | apply Kd.R_alloc | apply Kd.R_drewN | apply Kd.R_drew)); exact Kd.R_mono HO304.out (fun _ hk => ⟨⟨hk.1.1.2, hk.1.2⟩, hk.2⟩)) hg hat); have n1_ := Aside0.mk (Kd.R_after (ok := (fun k_ => some k_ ≠ (.slice Ao19 t302.length co19 : Value).ownBlock ∧ some k_ ≠ (v309 : Value).ownBlock)) (by (with_reducible repeat (first | apply Kd.R_alloc | apply Kd.R_drewN | apply Kd.R_drew)); exact Kd.R_mono HO307.out (fun _ hk => ⟨⟨hk.1.1.2, hk.1.2⟩, hk.2⟩)) hg hat); have n2_ := Aside0.mk (Kd.R_after (ok := (fun k_ => some k_ ≠ (.slice Ao19 t302.length co19 : Value).ownBlock ∧ some k_ ≠ (.slice Ao21 t305.length co21 : Value).ownBlock)) (by (with_reducible repeat (first | apply Kd.R_alloc | apply Kd.R_drewN | apply Kd.R_drew)); exact Kd.R_mono HO310.out (fun _ hk => ⟨⟨hk.1.1.2, hk.1.2⟩, hk.2⟩)) hg hat); have n3_ := Aside0.mk (hb); have n4_ := Aside0.mk (ho); clear HO304; clear HO307; clear HO310; clear HB; clear HO313; have HO304 := n0_; have HO307 := n1_; have HO310 := n2_; have HB := n3_; have HO316 := n4_; clear n0_ n1_ n2_ n3_ n4_; clear ho hb hg hat; obtain ⟨Ao22, co22, eo22⟩ := Kd.R_slice HO316.out; subst eo22) | ((with_reducible refine gate_callee (f := 39) rfl ?_); refine goesL_ (some 37) rfl rfl Try.func39 (by kernel_rfl) rfl #[.slice Ao22 y314.length co22, .int .i64 128] rfl (by (try simp only [List.map_toArray, List.map_cons, List.map_nil]); first | done | rfl | (simp only [List.length_drop, List.length_take]; rfl)) ?_; (with_reducible refine (concordlaw10_made.calls k _ _ y314 128 t317 _ ?side1 ?side2 A11.out).mono ?_); (case side1 => exact sC HO316); (case side2 => exact sN HO316); rintro e w23 ⟨v318, rfl, ho0, hb⟩; refine ⟨_, rfl, ?_⟩; have n0_ := sEl HO304 (Kd.R_base ho0) hb; have n1_ := sEl HO307 (Kd.R_base ho0) hb; have n2_ := sEl HO310 (Kd.R_base ho0) hb; have n3_ := sEl HO316 (Kd.R_base ho0) hb; have n4_ := Aside0.mk (Kd.R_lower (Kd.R_new' (Kd.R_new' (Kd.R_new' (Kd.R_new' ho0 (sLt HO304)) (sLt HO307)) (sLt HO310)) (sLt HO316)) (sSz HB)); have n5_ := sSt HB hb; clear HO304; clear HO307; clear HO310; clear HO316; clear HB; have HO304 := n0_; have HO307 := n1_; have HO310 := n2_; have HO316 := n3_; have HO319 := n4_; have HB := n5_; clear n0_ n1_ n2_ n3_ n4_ n5_; (try clear hb); (try clear hb2); (try clear hk); (try clear hi); (try clear ho0)) | ((with_reducible refine gate_callee (f := 13) rfl ?_); refine goesL_ (some 41) rfl rfl Try.func13 (by kernel_rfl) rfl #[.slice Ao19 t302.length co19, .slice Ao21 t305.length co21] rfl (by (try simp only [List.map_toArray, List.map_cons, List.map_nil]); first | done | rfl | (simp only [List.length_drop, List.length_take]; rfl)) ?_; (with_reducible refine (vector_Max.calls _ _ t302 _ _ t305 t320 t321 _ ?side1 ?side2 ?side3 ?side4 A12.out).mono ?_); (case side1 => exact sC HO304); (case side2 => exact sN HO304); (case side3 => exact sC HO307); (case side4 => exact sN HO307); rintro e w24 ⟨v322, rfl, ho0, hb⟩; refine ⟨_, rfl, ?_⟩; have n0_ := sEl HO304 (Kd.R_base ho0) hb; have n1_ := sEl HO307 (Kd.R_base ho0) hb; have n2_ := sEl HO310 (Kd.R_base ho0) hb; have n3_ := sEl HO316 (Kd.R_base ho0) hb; have n4_ := sEl HO319 (Kd.R_base ho0) hb; have n5_ := Aside0.mk (Kd.R_lower (Kd.R_new' (Kd.R_new' (Kd.R_new' (Kd.R_new' (Kd.R_new' ho0 (sLt HO304)) (sLt HO307)) (sLt HO310)) (sLt HO316)) (sLt HO319)) (sSz HB)); have n6_ := sSt HB hb; clear HO304; clear HO307; clear HO310; clear HO316; clear HO319; clear HB; have HO304 := n0_; have HO307 := n1_; have HO310 := n2_; have HO316 := n3_; have HO319 := n4_; have HO323 := n5_; have HB := n6_; clear n0_ n1_ n2_ n3_ n4_ n5_ n6_; (try clear hb); (try clear hb2); (try clear hk); (try clear hi); (try clear ho0)))
    (try simp only [Act.put, List.setIfInBounds_toArray, List.set_cons_zero, List.set_cons_succ])
    go_cut [62] (fun v62 wc => ∃ (kq : Nat) (x62_12 : Bool), v62 = .bool x62_12 ∧ Aside0 (concordlaw10_VectorGreat.j0 kq t302 t305 t308 t317 t320 t321 x62_12 = some r) ∧ Aside0 (kq ≤ k) ∧ Aside0 (Kd.R k35 35 wc w.heap.size (fun k_ => some k_ ≠ ((.slice Ao21 t305.length co21) : Value).ownBlock ∧ some k_ ≠ (v309 : Value).ownBlock ∧ some k_ ≠ (v318 : Value).ownBlock ∧ some k_ ≠ (v322 : Value).ownBlock) (.slice Ao19 t302.length co19) t302) ∧ Aside0 (Kd.R k35 35 wc w.heap.size (fun k_ => some k_ ≠ ((.slice Ao19 t302.length co19) : Value).ownBlock ∧ some k_ ≠ (v309 : Value).ownBlock ∧ some k_ ≠ (v318 : Value).ownBlock ∧ some k_ ≠ (v322 : Value).ownBlock) (.slice Ao21 t305.length co21) t305) ∧ Aside0 (Kd.R k35 35 wc w.heap.size (fun k_ => some k_ ≠ ((.slice Ao19 t302.length co19) : Value).ownBlock ∧ some k_ ≠ ((.slice Ao21 t305.length co21) : Value).ownBlock ∧ some k_ ≠ (v318 : Value).ownBlock ∧ some k_ ≠ (v322 : Value).ownBlock) v309 t308) ∧ Aside0 (Kd.R k35 35 wc w.heap.size (fun k_ => some k_ ≠ ((.slice Ao19 t302.length co19) : Value).ownBlock ∧ some k_ ≠ ((.slice Ao21 t305.length co21) : Value).ownBlock ∧ some k_ ≠ (v309 : Value).ownBlock ∧ some k_ ≠ (v322 : Value).ownBlock) v318 t317) ∧ Aside0 (Kd.R k35 35 wc w.heap.size (fun k_ => some k_ ≠ ((.slice Ao19 t302.length co19) : Value).ownBlock ∧ some k_ ≠ ((.slice Ao21 t305.length co21) : Value).ownBlock ∧ some k_ ≠ (v309 : Value).ownBlock ∧ some k_ ≠ (v318 : Value).ownBlock) v322 t320) ∧ Aside0 (Below w.heap.size w wc))
    case first =>
     have H := HC13.out
     clear HC13
     by_cases c25 : ((t321 == 0) != (decide ((t317.length : Int) ≤ 64))) = true
     ·rw [if_pos c25] at H
      have c25b0 : ((t321 == 0) != (decide ((t317.length : Int) ≤ 64))) = true := c25
      (try (have c25b1 : decide ((t321 == 0) = (decide ((t317.length : Int) ≤ 64))) = false := by simpa using c25))
      (try (have c25b2 : ((t321 == 0) == (decide ((t317.length : Int) ≤ 64))) = false := by simpa using c25))
      (try (have c25b3 : ¬ ((t321 == 0) = (decide ((t317.length : Int) ≤ 64))) := by simpa using c25))
      clear c25
      (first | rw [c25b0] | (simp only [i64_w, i32_w]; rw [c25b0]) | skip)
      have H' := Aside0.mk H
      clear H
      obtain ⟨Ao26, co26, eo26⟩ := Kd.R_slice HO319.out
      subst eo26
      go_wp2
      go_meet
      case rel => exact ⟨_, (true), (by first | rfl | (simp; done) | (simp [*]; done)), H', ⟨by first | omega | exact Nat.le_refl _⟩, ⟨by (with_reducible repeat (first | apply Kd.R_alloc | apply Kd.R_drewN | apply Kd.R_drew)); exact Kd.R_mono HO304.out (fun _ hk => ⟨hk.1.1.1.1, ⟨hk.1.1.1.2, ⟨hk.1.2, hk.2⟩⟩⟩)⟩, ⟨by (with_reducible repeat (first | apply Kd.R_alloc | apply Kd.R_drewN | apply Kd.R_drew)); exact Kd.R_mono HO307.out (fun _ hk => ⟨hk.1.1.1.1, ⟨hk.1.1.1.2, ⟨hk.1.2, hk.2⟩⟩⟩)⟩, ⟨by (with_reducible repeat (first | apply Kd.R_alloc | apply Kd.R_drewN | apply Kd.R_drew)); exact Kd.R_mono HO310.out (fun _ hk => ⟨hk.1.1.1.1, ⟨hk.1.1.1.2, ⟨hk.1.2, hk.2⟩⟩⟩)⟩, ⟨by (with_reducible repeat (first | apply Kd.R_alloc | apply Kd.R_drewN | apply Kd.R_drew)); exact Kd.R_mono HO319.out (fun _ hk => ⟨hk.1.1.1.1.2, ⟨hk.1.1.1.2, ⟨hk.1.1.2, hk.2⟩⟩⟩)⟩, ⟨by (with_reducible repeat (first | apply Kd.R_alloc | apply Kd.R_drewN | apply Kd.R_drew)); exact Kd.R_mono HO323.out (fun _ hk => ⟨hk.1.1.1.1.2, ⟨hk.1.1.1.2, ⟨hk.1.1.2, hk.2⟩⟩⟩)⟩, ⟨by repeat (first | (with_reducible first | exact HB.out | apply below_alloc | apply pw_below_drewN | apply below_drew1) | exact HB.out)⟩⟩
     ·rw [if_neg c25] at H
      have c25b0 : ((t321 == 0) != (decide ((t317.length : Int) ≤ 64))) = false := by simpa using c25
      (try (have c25b1 : decide ((t321 == 0) = (decide ((t317.length : Int) ≤ 64))) = true := by simpa using c25))
      (try (have c25b2 : ((t321 == 0) == (decide ((t317.length : Int) ≤ 64))) = true := by simpa using c25))
      clear c25
      (first | rw [c25b0] | (simp only [i64_w, i32_w]; rw [c25b0]) | skip)
      by_cases c27 : t321 = 0
      ·rw [if_pos c27] at H
       have c27b0 : (t321 == 0) = true := beq_iff_eq.mpr c27
       have c27b1 : (t321 != 0) = false := bne_eq_false_iff_eq.mpr c27
       have c25z : decide ((t317.length : Int) ≤ 64) = true := by rw [c27b0] at c25b0; simpa using c25b0
       clear c27
       have H' := Aside0.mk H
       clear H
       obtain ⟨Ao28, co28, eo28⟩ := Kd.R_slice HO319.out
       subst eo28
       go_wp2
       go_meet
       case rel => exact ⟨_, (false), (by first | rfl | (simp; done) | (simp [*]; done)), H', ⟨by first | omega | exact Nat.le_refl _⟩, ⟨by (with_reducible repeat (first | apply Kd.R_alloc | apply Kd.R_drewN | apply Kd.R_drew)); exact Kd.R_mono HO304.out (fun _ hk => ⟨hk.1.1.1.1, ⟨hk.1.1.1.2, ⟨hk.1.2, hk.2⟩⟩⟩)⟩, ⟨by (with_reducible repeat (first | apply Kd.R_alloc | apply Kd.R_drewN | apply Kd.R_drew)); exact Kd.R_mono HO307.out (fun _ hk => ⟨hk.1.1.1.1, ⟨hk.1.1.1.2, ⟨hk.1.2, hk.2⟩⟩⟩)⟩, ⟨by (with_reducible repeat (first | apply Kd.R_alloc | apply Kd.R_drewN | apply Kd.R_drew)); exact Kd.R_mono HO310.out (fun _ hk => ⟨hk.1.1.1.1, ⟨hk.1.1.1.2, ⟨hk.1.2, hk.2⟩⟩⟩)⟩, ⟨by (with_reducible repeat (first | apply Kd.R_alloc | apply Kd.R_drewN | apply Kd.R_drew)); exact Kd.R_mono HO319.out (fun _ hk => ⟨hk.1.1.1.1.2, ⟨hk.1.1.1.2, ⟨hk.1.1.2, hk.2⟩⟩⟩)⟩, ⟨by (with_reducible repeat (first | apply Kd.R_alloc | apply Kd.R_drewN | apply Kd.R_drew)); exact Kd.R_mono HO323.out (fun _ hk => ⟨hk.1.1.1.1.2, ⟨hk.1.1.1.2, ⟨hk.1.1.2, hk.2⟩⟩⟩)⟩, ⟨by repeat (first | (with_reducible first | exact HB.out | apply below_alloc | apply pw_below_drewN | apply below_drew1) | exact HB.out)⟩⟩
      ·rw [if_neg c27] at H
       have c27b0 : (t321 == 0) = false := beq_eq_false_iff_ne.mpr c27
       have c27b1 : (t321 != 0) = true := bne_iff_ne.mpr c27
       have c25z : decide ((t317.length : Int) ≤ 64) = false := by rw [c27b0] at c25b0; simpa using c25b0
       by_cases c29 : t321 = 82
       ·rw [if_pos c29] at H
        have c29b0 : (t321 == 82) = true := beq_iff_eq.mpr c29
        have c29b1 : (t321 != 82) = false := bne_eq_false_iff_eq.mpr c29
        clear c29
        have H' := Aside0.mk H
        clear H
        obtain ⟨Ao30, co30, eo30⟩ := Kd.R_slice HO319.out
        subst eo30
        obtain ⟨Ao31, co31, eo31⟩ := Kd.R_slice HO323.out
        subst eo31
        go_wp2
        go_meet
        case rel => exact ⟨_, (((t320.length : Int) != 0)), (by first | rfl | (simp; done) | (simp [*]; done)), H', ⟨by first | omega | exact Nat.le_refl _⟩, ⟨by (with_reducible repeat (first | apply Kd.R_alloc | apply Kd.R_drewN | apply Kd.R_drew)); exact Kd.R_mono HO304.out (fun _ hk => ⟨hk.1.1.1.1, ⟨hk.1.1.1.2, ⟨hk.1.2, hk.2⟩⟩⟩)⟩, ⟨by (with_reducible repeat (first | apply Kd.R_alloc | apply Kd.R_drewN | apply Kd.R_drew)); exact Kd.R_mono HO307.out (fun _ hk => ⟨hk.1.1.1.1, ⟨hk.1.1.1.2, ⟨hk.1.2, hk.2⟩⟩⟩)⟩, ⟨by (with_reducible repeat (first | apply Kd.R_alloc | apply Kd.R_drewN | apply Kd.R_drew)); exact Kd.R_mono HO310.out (fun _ hk => ⟨hk.1.1.1.1, ⟨hk.1.1.1.2, ⟨hk.1.2, hk.2⟩⟩⟩)⟩, ⟨by (with_reducible repeat (first | apply Kd.R_alloc | apply Kd.R_drewN | apply Kd.R_drew)); exact Kd.R_mono HO319.out (fun _ hk => ⟨hk.1.1.1.1.2, ⟨hk.1.1.1.2, ⟨hk.1.1.2, hk.2⟩⟩⟩)⟩, ⟨by (with_reducible repeat (first | apply Kd.R_alloc | apply Kd.R_drewN | apply Kd.R_drew)); exact Kd.R_mono HO323.out (fun _ hk => ⟨hk.1.1.1.1.2, ⟨hk.1.1.1.2, ⟨hk.1.1.2, hk.2⟩⟩⟩)⟩, ⟨by repeat (first | (with_reducible first | exact HB.out | apply below_alloc | apply pw_below_drewN | apply below_drew1) | exact HB.out)⟩⟩
       ·rw [if_neg c29] at H
        have c29b0 : (t321 == 82) = false := beq_eq_false_iff_ne.mpr c29
        have c29b1 : (t321 != 82) = true := bne_iff_ne.mpr c29
        have H' := Aside0.mk H
        clear H
        obtain ⟨Ao32, co32, eo32⟩ := Kd.R_slice HO319.out
        subst eo32
        go_wp2
        go_meet
        case rel => exact ⟨_, (true), (by first | rfl | (simp; done) | (simp [*]; done)), H', ⟨by first | omega | exact Nat.le_refl _⟩, ⟨by (with_reducible repeat (first | apply Kd.R_alloc | apply Kd.R_drewN | apply Kd.R_drew)); exact Kd.R_mono HO304.out (fun _ hk => ⟨hk.1.1.1.1, ⟨hk.1.1.1.2, ⟨hk.1.2, hk.2⟩⟩⟩)⟩, ⟨by (with_reducible repeat (first | apply Kd.R_alloc | apply Kd.R_drewN | apply Kd.R_drew)); exact Kd.R_mono HO307.out (fun _ hk => ⟨hk.1.1.1.1, ⟨hk.1.1.1.2, ⟨hk.1.2, hk.2⟩⟩⟩)⟩, ⟨by (with_reducible repeat (first | apply Kd.R_alloc | apply Kd.R_drewN | apply Kd.R_drew)); exact Kd.R_mono HO310.out (fun _ hk => ⟨hk.1.1.1.1, ⟨hk.1.1.1.2, ⟨hk.1.2, hk.2⟩⟩⟩)⟩, ⟨by (with_reducible repeat (first | apply Kd.R_alloc | apply Kd.R_drewN | apply Kd.R_drew)); exact Kd.R_mono HO319.out (fun _ hk => ⟨hk.1.1.1.1.2, ⟨hk.1.1.1.2, ⟨hk.1.1.2, hk.2⟩⟩⟩)⟩, ⟨by (with_reducible repeat (first | apply Kd.R_alloc | apply Kd.R_drewN | apply Kd.R_drew)); exact Kd.R_mono HO323.out (fun _ hk => ⟨hk.1.1.1.1.2, ⟨hk.1.1.1.2, ⟨hk.1.1.2, hk.2⟩⟩⟩)⟩, ⟨by repeat (first | (with_reducible first | exact HB.out | apply below_alloc | apply pw_below_drewN | apply below_drew1) | exact HB.out)⟩⟩
    case rest =>
     clear HC13
     try clear c1
     try clear c2
     try clear p2
     try clear c3
     try clear c5
     try clear c9
     try clear c10
     try clear c13
     try clear c25
     try clear c25b0
     try clear c25b1
     try clear c25b2
     try clear c27
     try clear c27b0
     try clear c27b1
     try clear c29
     try clear c29b0
     try clear c29b1
     obtain ⟨kq, x62_12, rfl, HA, HJ12, HO_7, HO_8, HO_9, HO_11, HO_12, HB⟩ := hcut
     cases kq with
     | zero => exact absurd HA.out (by simp [concordlaw10_VectorGreat.j0])
     | succ kj12 =>
      have H := HA.out
      clear HA
      simp only [concordlaw10_VectorGreat.j0] at H
      by_cases c33 : x62_12 = true
      ·subst c33
       have H1 : (some false) = some r := by rw [if_pos rfl] at H; exact H
       clear H
       have H := H1
       clear H1
       obtain rfl := Option.some.inj H
       go_wp2
       go_ret
       exact ⟨by first | rfl | (simp [errW_none, errW_some] <;> rfl) | (simp [*, errW_none, errW_some] <;> rfl), by repeat (first | (with_reducible first | exact HB.out | apply below_alloc | apply pw_below_drewN | apply below_drew1) | exact HB.out)⟩
      ·replace c33 := Bool.eq_false_iff.mpr c33
       subst c33
       have H1 : (if t321 = 0 then (concordlaw10_VectorGreat.l0 kj12 t302 t305 t308 t317 t320 0) else (some true)) = some r := by rw [if_neg (show ¬ (false = true) by decide)] at H; exact H
       clear H
       have H := H1
       clear H1
       by_cases c34 : t321 = 0
       ·rw [if_pos c34] at H
        have c34b0 : (t321 == 0) = true := beq_iff_eq.mpr c34
        have c34b1 : (t321 != 0) = false := bne_eq_false_iff_eq.mpr c34
        clear c34
        have H' := Aside0.mk H
        clear H
        go_wp2
        go_loopg [14] kj12 (fun kq v14 w' => ∃ (x14_2 : Int), v14 = .int .i64 x14_2 ∧ Aside0 (concordlaw10_VectorGreat.l0 kq t302 t305 t308 t317 t320 x14_2 = some r) ∧ Aside0 (kq ≤ kj12) ∧ Aside0 (Kd.R k35 35 w' w.heap.size (fun k_ => some k_ ≠ ((.slice Ao21 t305.length co21) : Value).ownBlock ∧ some k_ ≠ (v309 : Value).ownBlock ∧ some k_ ≠ (v318 : Value).ownBlock ∧ some k_ ≠ (v322 : Value).ownBlock) (.slice Ao19 t302.length co19) t302) ∧ Aside0 (Kd.R k35 35 w' w.heap.size (fun k_ => some k_ ≠ ((.slice Ao19 t302.length co19) : Value).ownBlock ∧ some k_ ≠ (v309 : Value).ownBlock ∧ some k_ ≠ (v318 : Value).ownBlock ∧ some k_ ≠ (v322 : Value).ownBlock) (.slice Ao21 t305.length co21) t305) ∧ Aside0 (Kd.R k35 35 w' w.heap.size (fun k_ => some k_ ≠ ((.slice Ao19 t302.length co19) : Value).ownBlock ∧ some k_ ≠ ((.slice Ao21 t305.length co21) : Value).ownBlock ∧ some k_ ≠ (v318 : Value).ownBlock ∧ some k_ ≠ (v322 : Value).ownBlock) v309 t308) ∧ Aside0 (Kd.R k35 35 w' w.heap.size (fun k_ => some k_ ≠ ((.slice Ao19 t302.length co19) : Value).ownBlock ∧ some k_ ≠ ((.slice Ao21 t305.length co21) : Value).ownBlock ∧ some k_ ≠ (v309 : Value).ownBlock ∧ some k_ ≠ (v322 : Value).ownBlock) v318 t317) ∧ Aside0 (Kd.R k35 35 w' w.heap.size (fun k_ => some k_ ≠ ((.slice Ao19 t302.length co19) : Value).ownBlock ∧ some k_ ≠ ((.slice Ao21 t305.length co21) : Value).ownBlock ∧ some k_ ≠ (v309 : Value).ownBlock ∧ some k_ ≠ (v318 : Value).ownBlock) v322 t320) ∧ Aside0 (Below w.heap.size w w'))
        case atStart => exact ⟨(0), (by first | rfl | (simp; done) | (simp [*]; done)), H', ⟨Nat.le_refl _⟩, ⟨by (with_reducible repeat (first | apply Kd.R_alloc | apply Kd.R_drewN | apply Kd.R_drew)); exact HO_7.out⟩, ⟨by (with_reducible repeat (first | apply Kd.R_alloc | apply Kd.R_drewN | apply Kd.R_drew)); exact HO_8.out⟩, ⟨by (with_reducible repeat (first | apply Kd.R_alloc | apply Kd.R_drewN | apply Kd.R_drew)); exact HO_9.out⟩, ⟨by (with_reducible repeat (first | apply Kd.R_alloc | apply Kd.R_drewN | apply Kd.R_drew)); exact HO_11.out⟩, ⟨by (with_reducible repeat (first | apply Kd.R_alloc | apply Kd.R_drewN | apply Kd.R_drew)); exact HO_12.out⟩, ⟨by repeat (first | (with_reducible first | exact HB.out | apply below_alloc | apply pw_below_drewN | apply below_drew1) | exact HB.out)⟩⟩
        case round =>
         clear H'
         try clear c1
         try clear c2
         try clear p2
         try clear c3
         try clear c5
         try clear c9
         try clear c10
         try clear c13
         try clear c25
         try clear c25b0
         try clear c25b1
         try clear c25b2
         try clear c27
         try clear c27b0
         try clear c27b1
         try clear c29
         try clear c29b0
         try clear c29b1
         try clear c33
         try clear c34
         try clear c34b0
         try clear c34b1
         try clear p2
         obtain ⟨x14_2, rfl, HA, HK2, HO_7, HO_8, HO_9, HO_11, HO_12, HB⟩ := hrel
         cases gk with
         | zero => exact absurd HA.out (by simp [concordlaw10_VectorGreat.l0])
         | succ k2 =>
          have H := HA.out
          clear HA
          simp only [concordlaw10_VectorGreat.l0] at H
          by_cases c35 : x14_2 < (t317.length : Int)
          ·rw [if_pos c35] at H
           have c35b0 : decide (x14_2 < (t317.length : Int)) = true := decide_eq_true c35
           clear c35
           by_cases c36 : 0 ≤ x14_2
           ·rw [if_pos c36] at H
            have c36b0 : decide (0 ≤ x14_2) = true := decide_eq_true c36
            clear c36
            replace H := Option.bind_eq_some_iff.mp H
            obtain ⟨t325, A370, H⟩ := H
            replace H : ((vector_Count.f t302 ((rd_T35 t317 x14_2).f0)).bind fun t327 => ((vector_Count.f t305 ((rd_T35 t317 x14_2).f0)).bind fun t329 => (if t325 = (mx t327 t329) then (if t325 < 1 then (some false) else (concordlaw10_VectorGreat.l0 k2 t302 t305 t308 t317 t320 (wrap64 (x14_2 + 1)))) else (some false)))) = some r := H
            have A37 := Aside0.mk A370
            clear A370
            replace H := Option.bind_eq_some_iff.mp H
            obtain ⟨t327, A380, H⟩ := H
            replace H : ((vector_Count.f t305 ((rd_T35 t317 x14_2).f0)).bind fun t329 => (if t325 = (mx t327 t329) then (if t325 < 1 then (some false) else (concordlaw10_VectorGreat.l0 k2 t302 t305 t308 t317 t320 (wrap64 (x14_2 + 1)))) else (some false))) = some r := H
            have A38 := Aside0.mk A380
            clear A380
            replace H := Option.bind_eq_some_iff.mp H
            obtain ⟨t329, A390, H⟩ := H
            replace H : (if t325 = (mx t327 t329) then (if t325 < 1 then (some false) else (concordlaw10_VectorGreat.l0 k2 t302 t305 t308 t317 t320 (wrap64 (x14_2 + 1)))) else (some false)) = some r := H
            have A39 := Aside0.mk A390
            clear A390
            obtain ⟨ji40, hji40⟩ : ∃ j_ : Int, (mx t327 t329) = j_ := ⟨_, rfl⟩
            replace H : (if t325 = (ji40) then (if t325 < 1 then (some false) else (concordlaw10_VectorGreat.l0 k2 t302 t305 t308 t317 t320 (wrap64 (x14_2 + 1)))) else (some false)) = some r := by first | (rw [hji40] at H; exact H) | (simp only [hji40] at H ⊢; exact H)
            (try rw [hji40] at A37)
            (try rw [hji40] at A38)
            (try rw [hji40] at A39)
            have hji40_ : (if t327 < t329 then t329 else t327) = ji40 := hji40
            by_cases c41 : t325 = (ji40)
            ·rw [if_pos c41] at H
             have c41b0 : (t325 == (ji40)) = true := beq_iff_eq.mpr c41
             have c41b1 : (t325 != (ji40)) = false := bne_eq_false_iff_eq.mpr c41
             clear c41
             by_cases c42 : t325 < 1
             ·rw [if_pos c42] at H
              have c42b0 : decide (t325 < 1) = true := decide_eq_true c42
              clear c42
              obtain rfl := Option.some.inj H
              obtain ⟨Ao43, co43, eo43⟩ := Kd.R_slice HO_11.out
              subst eo43
              have p324 : 0 ≤ (x14_2 : Int) := of_decide_eq_true (by first | (with_reducible assumption) | assumption)
              have q324 : x14_2 < (t317.length : Int) := of_decide_eq_true (by first | (with_reducible assumption) | assumption)
              obtain ⟨ad324, e324, hx324_0, hx324_1⟩ := at_T35 (Kd.R_reads' HO_11.out).2.2 x14_2 p324 q324
              cases e324
              replace p324 := eq_true p324
              replace q324 := eq_true q324
              obtain ⟨Ao44, co44, eo44⟩ := Kd.R_slice HO_12.out
              subst eo44
              try go_wp2_with (first | ((with_reducible refine gate_callee (f := 43) rfl ?_); refine goesL_ (some 77) rfl rfl Try.func43 (by kernel_rfl) rfl #[.slice Ao44 t320.length co44, .int .u32 ((rd_T35 t317 x14_2).f0)] rfl (by (try simp only [List.map_toArray, List.map_cons, List.map_nil]); first | done | rfl | (simp only [List.length_drop, List.length_take]; rfl)) ?_; (with_reducible refine (vector_Count.calls _ _ t320 ((rd_T35 t317 x14_2).f0) t325 _ ?side1 ?side2 A37.out).mono ?_); (case side1 => exact sC HO_12); (case side2 => exact sN HO_12); rintro e w45 ⟨rfl, hb⟩; refine ⟨_, rfl, ?_⟩; have n0_ := sBe HO_7 hb; have n1_ := sBe HO_8 hb; have n2_ := sBe HO_9 hb; have n3_ := sBe HO_11 hb; have n4_ := sBe HO_12 hb; have n5_ := sSt HB hb; clear HO_7; clear HO_8; clear HO_9; clear HO_11; clear HO_12; clear HB; have HO_7 := n0_; have HO_8 := n1_; have HO_9 := n2_; have HO_11 := n3_; have HO_12 := n4_; have HB := n5_; clear n0_ n1_ n2_ n3_ n4_ n5_; (try clear hb); (try clear hb2); (try clear hk); (try clear hi)))
              have n0_ := Aside0.mk (Kd.R_drew HO_7.out)
              have n1_ := Aside0.mk (Kd.R_drew HO_8.out)
              have n2_ := Aside0.mk (Kd.R_drew HO_9.out)
              have n3_ := Aside0.mk (Kd.R_drew HO_11.out)
              have n4_ := Aside0.mk (Kd.R_drew HO_12.out)
              have n5_ := Aside0.mk (below_drew1 HB.out)
              clear HO_7
              clear HO_8
              clear HO_9
              clear HO_11
              clear HO_12
              clear HB
              have HO_7 := n0_
              have HO_8 := n1_
              have HO_9 := n2_
              have HO_11 := n3_
              have HO_12 := n4_
              have HB := n5_
              clear n0_ n1_ n2_ n3_ n4_ n5_
              have p326 : 0 ≤ (x14_2 : Int) := of_decide_eq_true (by first | (with_reducible assumption) | assumption)
              have q326 : x14_2 < (t317.length : Int) := of_decide_eq_true (by first | (with_reducible assumption) | assumption)
              obtain ⟨ad326, e326, hx326_0, hx326_1⟩ := at_T35 (Kd.R_reads' HO_11.out).2.2 x14_2 p326 q326
              obtain rfl : ad324 = ad326 := (by injection e326)
              replace p326 := eq_true p326
              replace q326 := eq_true q326
              have p328 : 0 ≤ (x14_2 : Int) := of_decide_eq_true (by first | (with_reducible assumption) | assumption)
              have q328 : x14_2 < (t317.length : Int) := of_decide_eq_true (by first | (with_reducible assumption) | assumption)
              obtain ⟨ad328, e328, hx328_0, hx328_1⟩ := at_T35 (Kd.R_reads' HO_11.out).2.2 x14_2 p328 q328
              obtain rfl : ad324 = ad328 := (by injection e328)
              replace p328 := eq_true p328
              replace q328 := eq_true q328
              refine start_ (n := 21) (S := fun w' => w'.cell? (ad324.add ((x14_2).toNat * 2)) = some (.int .u32 ((rd_T35 t317 x14_2).f0)) ∧ w'.cell? ⟨(ad324.add ((x14_2).toNat * 2)).block, (ad324.add ((x14_2).toNat * 2)).off + 1, none⟩ = some (.int .u64 ((rd_T35 t317 x14_2).f1)) ∧ w'.cell? (ad324.add ((x14_2).toNat * 2)) = some (.int .u32 ((rd_T35 t317 x14_2).f0)) ∧ w'.cell? ⟨(ad324.add ((x14_2).toNat * 2)).block, (ad324.add ((x14_2).toNat * 2)).off + 1, none⟩ = some (.int .u64 ((rd_T35 t317 x14_2).f1))) (ds := []) #[false, false, false, false, false, false, false, false, false, false, false, false, false, false, false, false, false, false, false, false, false] (by kernel_rfl) rfl rfl ⟨hx326_0, hx326_1, hx328_0, hx328_1⟩ (fun hHeld => ?_); refine with_tabW concordlaw10_VectorGreat.tab19 concordlaw10_VectorGreat.bits19 (fun HT_ HW_ => ?_)
              generalize w45.drew = w46 at HO_7 HO_8 HO_9 HO_11 HO_12 HB hx326_0 hx326_1 hx328_0 hx328_1 hHeld ⊢
              refine pure_ (i := 0) (N := some 78) (v := ?_) (a' := ?_) #[true, false, false, false, false, false, false, false, false, false, false, false, false, false, false, false, false, false, false, false, false] rfl rfl (any_of HT_.out (by kernel_rfl)) (fun _ _ _ h => h) (Or.inl ⟨by rfl, ?_⟩) ?_ ?_
              rotate_left
              ·intro w'
               go_simp
               with_reducible rfl
              rotate_left
              ·simp only [Act.put, List.setIfInBounds_toArray, List.set_cons_zero, List.set_cons_succ, i64_w, i32_w]
               rfl
              refine pure_ (i := 1) (N := some 79) (v := ?_) (a' := ?_) #[true, true, false, false, false, false, false, false, false, false, false, false, false, false, false, false, false, false, false, false, false] rfl rfl (any_of HT_.out (by kernel_rfl)) (fun _ _ _ h => h) (Or.inl ⟨by rfl, ?_⟩) ?_ ?_
              rotate_left
              ·intro w'
               go_simp
               with_reducible rfl
              rotate_left
              ·simp only [Act.put, List.setIfInBounds_toArray, List.set_cons_zero, List.set_cons_succ, i64_w, i32_w]
               rfl
              refine pure_ (i := 2) (N := some 80) (v := ?_) (a' := ?_) #[true, true, true, false, false, false, false, false, false, false, false, false, false, false, false, false, false, false, false, false, false] rfl rfl (any_of HT_.out (by kernel_rfl)) (fun _ _ _ h => h) (Or.inl ⟨by rfl, ?_⟩) ?_ ?_
              rotate_left
              ·intro w'
               go_simp
               with_reducible rfl
              rotate_left
              ·simp only [Act.put, List.setIfInBounds_toArray, List.set_cons_zero, List.set_cons_succ, i64_w, i32_w]
               rfl
              refine pure_ (i := 3) (N := some 81) (v := ?_) (a' := ?_) #[true, true, true, true, false, false, false, false, false, false, false, false, false, false, false, false, false, false, false, false, false] rfl rfl (any_of HT_.out (by kernel_rfl)) (fun _ _ _ h => h) (Or.inl ⟨by rfl, ?_⟩) ?_ ?_
              rotate_left
              ·intro w'
               go_simp
               with_reducible rfl
              rotate_left
              ·simp only [Act.put, List.setIfInBounds_toArray, List.set_cons_zero, List.set_cons_succ, i64_w, i32_w]
               rfl
              refine pure_ (i := 4) (N := some 82) (v := ?_) (a' := ?_) #[true, true, true, true, true, false, false, false, false, false, false, false, false, false, false, false, false, false, false, false, false] rfl rfl (any_of HT_.out (by kernel_rfl)) (fun _ _ _ h => h) (Or.inl ⟨by rfl, ?_⟩) ?_ ?_
              rotate_left
              ·intro w'
               go_simp
               with_reducible rfl
              rotate_left
              ·simp only [Act.put, List.setIfInBounds_toArray, List.set_cons_zero, List.set_cons_succ, i64_w, i32_w]
               rfl
              refine pure_ (i := 5) (N := some 83) (v := ?_) (a' := ?_) #[true, true, true, true, true, true, false, false, false, false, false, false, false, false, false, false, false, false, false, false, false] rfl rfl (any_of HT_.out (by kernel_rfl)) (fun _ _ _ h => h) (Or.inl ⟨by rfl, ?_⟩) ?_ ?_
              rotate_left
              ·intro w'
               go_simp
               with_reducible rfl
              rotate_left
              ·simp only [Act.put, List.setIfInBounds_toArray, List.set_cons_zero, List.set_cons_succ, i64_w, i32_w]
               rfl
              refine pure_ (i := 8) (N := some 86) (v := ?_) (a' := ?_) #[true, true, true, true, true, true, false, false, true, false, false, false, false, false, false, false, false, false, false, false, false] rfl rfl (any_of HT_.out (by kernel_rfl)) (fun _ _ _ h => h) (Or.inl ⟨by rfl, ?_⟩) ?_ ?_
              rotate_left
              ·intro w'
               go_simp
               with_reducible rfl
              rotate_left
              ·simp only [Act.put, List.setIfInBounds_toArray, List.set_cons_zero, List.set_cons_succ, i64_w, i32_w]
               rfl
              refine pure_ (i := 9) (N := some 87) (v := ?_) (a' := ?_) #[true, true, true, true, true, true, false, false, true, true, false, false, false, false, false, false, false, false, false, false, false] rfl rfl (any_of HT_.out (by kernel_rfl)) (fun _ _ _ h => h) (Or.inl ⟨by rfl, ?_⟩) ?_ ?_
              rotate_left
              ·intro w'
               go_simp
               with_reducible rfl
              rotate_left
              ·simp only [Act.put, List.setIfInBounds_toArray, List.set_cons_zero, List.set_cons_succ, i64_w, i32_w]
               rfl
              refine pure_ (i := 10) (N := some 88) (v := ?_) (a' := ?_) #[true, true, true, true, true, true, false, false, true, true, true, false, false, false, false, false, false, false, false, false, false] rfl rfl (any_of HT_.out (by kernel_rfl)) (fun _ _ _ h => h) (Or.inl ⟨by rfl, ?_⟩) ?_ ?_
              rotate_left
              ·intro w'
               go_simp
               with_reducible rfl
              rotate_left
              ·simp only [Act.put, List.setIfInBounds_toArray, List.set_cons_zero, List.set_cons_succ, i64_w, i32_w]
               rfl
              refine pure_ (i := 11) (N := some 89) (v := ?_) (a' := ?_) #[true, true, true, true, true, true, false, false, true, true, true, true, false, false, false, false, false, false, false, false, false] rfl rfl (any_of HT_.out (by kernel_rfl)) (fun _ _ _ h => h) (Or.inl ⟨by rfl, ?_⟩) ?_ ?_
              rotate_left
              ·intro w'
               go_simp
               with_reducible rfl
              rotate_left
              ·simp only [Act.put, List.setIfInBounds_toArray, List.set_cons_zero, List.set_cons_succ, i64_w, i32_w]
               rfl
              refine pure_ (i := 12) (N := some 90) (v := ?_) (a' := ?_) #[true, true, true, true, true, true, false, false, true, true, true, true, true, false, false, false, false, false, false, false, false] rfl rfl (any_of HT_.out (by kernel_rfl)) (fun _ _ _ h => h) (Or.inl ⟨by rfl, ?_⟩) ?_ ?_
              rotate_left
              ·intro w'
               go_simp
               with_reducible rfl
              rotate_left
              ·simp only [Act.put, List.setIfInBounds_toArray, List.set_cons_zero, List.set_cons_succ, i64_w, i32_w]
               rfl
              refine take_ (i := 6) (N := some 84) (v := ?_) (a' := ?_) #[true, true, true, true, true, true, true, false, true, true, true, true, true, false, false, false, false, false, false, false, false] rfl rfl (take_ofW HT_.out HW_.out (by kernel_rfl)) (fun _ _ _ h => h) (Or.inl ⟨by rfl, ?_⟩) hHeld ?_ ?_
              rotate_left
              ·rintro w' ⟨s0, s1, s2, s3⟩
               go_simp
               with_reducible rfl
              rotate_left
              ·simp only [Act.put, List.setIfInBounds_toArray, List.set_cons_zero, List.set_cons_succ, i64_w, i32_w]
               rfl
              refine take_ (i := 13) (N := some 91) (v := ?_) (a' := ?_) #[true, true, true, true, true, true, true, false, true, true, true, true, true, true, false, false, false, false, false, false, false] rfl rfl (take_ofW HT_.out HW_.out (by kernel_rfl)) (fun _ _ _ h => h) (Or.inl ⟨by rfl, ?_⟩) hHeld ?_ ?_
              rotate_left
              ·rintro w' ⟨s0, s1, s2, s3⟩
               go_simp
               with_reducible rfl
              rotate_left
              ·simp only [Act.put, List.setIfInBounds_toArray, List.set_cons_zero, List.set_cons_succ, i64_w, i32_w]
               rfl
              refine one_ (i := 7) (N := some 85) #[true, true, true, true, true, true, true, true, true, true, true, true, true, true, false, false, false, false, false, false, false] rfl rfl (one_of HT_.out (by kernel_rfl)) (by decide) (fun K hK => ?_)
              refine goes_ Try.func43 (by kernel_rfl) rfl #[.slice Ao19 t302.length co19, .int .u32 ((rd_T35 t317 x14_2).f0)] (by rfl) rfl rfl (by (try simp only [List.map_toArray, List.map_cons, List.map_nil]); first | done | rfl | (simp only [List.length_drop, List.length_take]; rfl)) ?_
              with_reducible refine (vector_Count.calls _ _ t302 ((rd_T35 t317 x14_2).f0) t327 _ ?side1 ?side2 A38.out).mono ?_
              (case side1 => exact sC HO_7)
              (case side2 => exact sN HO_7)
              rintro e w47 ⟨rfl, hb⟩
              have HS0_ := (hb.cell (World.block_lt_of_cell? _ _ (hHeld.1))).trans (hHeld.1)
              have HS1_ := (hb.cell (World.block_lt_of_cell? _ _ (hHeld.2.1))).trans (hHeld.2.1)
              have HS2_ := (hb.cell (World.block_lt_of_cell? _ _ (hHeld.2.2.1))).trans (hHeld.2.2.1)
              have HS3_ := (hb.cell (World.block_lt_of_cell? _ _ (hHeld.2.2.2))).trans (hHeld.2.2.2)
              refine ⟨_, rfl, ?_⟩
              have n0_ := sBe HO_7 hb
              have n1_ := sBe HO_8 hb
              have n2_ := sBe HO_9 hb
              have n3_ := sBe HO_11 hb
              have n4_ := sBe HO_12 hb
              have n5_ := sSt HB hb
              clear HO_7
              clear HO_8
              clear HO_9
              clear HO_11
              clear HO_12
              clear HB
              have HO_7 := n0_
              have HO_8 := n1_
              have HO_9 := n2_
              have HO_11 := n3_
              have HO_12 := n4_
              have HB := n5_
              clear n0_ n1_ n2_ n3_ n4_ n5_
              (try clear hb)
              (try clear hb2)
              (try clear hk)
              (try clear hi)
              refine hK.out _ _ ⟨HS0_, HS1_, HS2_, HS3_⟩ (fun hHeld => ?_)
              clear hK K
              refine norm_ (a' := ?_) ?_ ?_
              rotate_left
              ·show Act.put _ (some 85) _ = _
               simp only [Act.put, List.setIfInBounds_toArray, List.set_cons_zero, List.set_cons_succ, i64_w, i32_w]
               rfl
              refine one_ (i := 14) (N := some 92) #[true, true, true, true, true, true, true, true, true, true, true, true, true, true, true, false, false, false, false, false, false] rfl rfl (one_of HT_.out (by kernel_rfl)) (by decide) (fun K hK => ?_)
              refine goes_ Try.func43 (by kernel_rfl) rfl #[.slice Ao21 t305.length co21, .int .u32 ((rd_T35 t317 x14_2).f0)] (by rfl) rfl rfl (by (try simp only [List.map_toArray, List.map_cons, List.map_nil]); first | done | rfl | (simp only [List.length_drop, List.length_take]; rfl)) ?_
              with_reducible refine (vector_Count.calls _ _ t305 ((rd_T35 t317 x14_2).f0) t329 _ ?side1 ?side2 A39.out).mono ?_
              (case side1 => exact sC HO_8)
              (case side2 => exact sN HO_8)
              rintro e w48 ⟨rfl, hb⟩
              have HS0_ := (hb.cell (World.block_lt_of_cell? _ _ (hHeld.1))).trans (hHeld.1)
              have HS1_ := (hb.cell (World.block_lt_of_cell? _ _ (hHeld.2.1))).trans (hHeld.2.1)
              have HS2_ := (hb.cell (World.block_lt_of_cell? _ _ (hHeld.2.2.1))).trans (hHeld.2.2.1)
              have HS3_ := (hb.cell (World.block_lt_of_cell? _ _ (hHeld.2.2.2))).trans (hHeld.2.2.2)
              refine ⟨_, rfl, ?_⟩
              have n0_ := sBe HO_7 hb
              have n1_ := sBe HO_8 hb
              have n2_ := sBe HO_9 hb
              have n3_ := sBe HO_11 hb
              have n4_ := sBe HO_12 hb
              have n5_ := sSt HB hb
              clear HO_7
              clear HO_8
              clear HO_9
              clear HO_11
              clear HO_12
              clear HB
              have HO_7 := n0_
              have HO_8 := n1_
              have HO_9 := n2_
              have HO_11 := n3_
              have HO_12 := n4_
              have HB := n5_
              clear n0_ n1_ n2_ n3_ n4_ n5_
              (try clear hb)
              (try clear hb2)
              (try clear hk)
              (try clear hi)
              refine hK.out _ _ ⟨HS0_, HS1_, HS2_, HS3_⟩ (fun hHeld => ?_)
              clear hK K
              refine norm_ (a' := ?_) ?_ ?_
              rotate_left
              ·show Act.put _ (some 92) _ = _
               simp only [Act.put, List.setIfInBounds_toArray, List.set_cons_zero, List.set_cons_succ, i64_w, i32_w]
               rfl
              refine pure_ (i := 15) (N := some 93) (v := ?_) (a' := ?_) #[true, true, true, true, true, true, true, true, true, true, true, true, true, true, true, true, false, false, false, false, false] rfl rfl (any_of HT_.out (by kernel_rfl)) (fun _ _ _ h => h) (Or.inl ⟨by rfl, ?_⟩) ?_ ?_
              rotate_left
              ·intro w'
               go_simp
               with_reducible rfl
              rotate_left
              ·simp only [Act.put, List.setIfInBounds_toArray, List.set_cons_zero, List.set_cons_succ, i64_w, i32_w]
               rfl
              refine pure_ (i := 16) (N := some 94) (v := ?_) (a' := ?_) #[true, true, true, true, true, true, true, true, true, true, true, true, true, true, true, true, true, false, false, false, false] rfl rfl (any_of HT_.out (by kernel_rfl)) (fun _ _ _ h => h) (Or.inl ⟨by rfl, ?_⟩) ?_ ?_
              rotate_left
              ·intro w'
               go_simp
               with_reducible rfl
              rotate_left
              ·simp only [Act.put, List.setIfInBounds_toArray, List.set_cons_zero, List.set_cons_succ, i64_w, i32_w]
               rfl
              refine pure_ (i := 17) (N := some 95) (v := ?_) (a' := ?_) #[true, true, true, true, true, true, true, true, true, true, true, true, true, true, true, true, true, true, false, false, false] rfl rfl (any_of HT_.out (by kernel_rfl)) (fun _ _ _ h => h) (Or.inl ⟨by rfl, ?_⟩) ?_ ?_
              rotate_left
              ·intro w'
               go_simp
               with_reducible rfl
              rotate_left
              ·simp only [Act.put, List.setIfInBounds_toArray, List.set_cons_zero, List.set_cons_succ, i64_w, i32_w]
               rfl
              refine pure_ (i := 18) (N := some 96) (v := ?_) (a' := ?_) #[true, true, true, true, true, true, true, true, true, true, true, true, true, true, true, true, true, true, true, false, false] rfl rfl (any_of HT_.out (by kernel_rfl)) (fun _ _ _ h => h) (Or.inl ⟨by rfl, ?_⟩) ?_ ?_
              rotate_left
              ·intro w'
               go_simp
               with_reducible rfl
              rotate_left
              ·simp only [Act.put, List.setIfInBounds_toArray, List.set_cons_zero, List.set_cons_succ, i64_w, i32_w]
               rfl
              refine pure_ (i := 19) (N := some 97) (v := ?_) (a' := ?_) #[true, true, true, true, true, true, true, true, true, true, true, true, true, true, true, true, true, true, true, true, false] rfl rfl (any_of HT_.out (by kernel_rfl)) (fun _ _ _ h => h) (Or.inl ⟨by rfl, ?_⟩) ?_ ?_
              rotate_left
              ·intro w'
               go_simp
               with_reducible rfl
              rotate_left
              ·simp only [Act.put, List.setIfInBounds_toArray, List.set_cons_zero, List.set_cons_succ, i64_w, i32_w]
               rfl
              refine pure_ (i := 20) (N := some 98) (v := ?_) (a' := ?_) #[true, true, true, true, true, true, true, true, true, true, true, true, true, true, true, true, true, true, true, true, true] rfl rfl (any_of HT_.out (by kernel_rfl)) (fun _ _ _ h => h) (Or.inl ⟨by rfl, ?_⟩) ?_ ?_
              rotate_left
              ·intro w'
               go_simp
               with_reducible rfl
              rotate_left
              ·simp only [Act.put, List.setIfInBounds_toArray, List.set_cons_zero, List.set_cons_succ, i64_w, i32_w]
               rfl
              refine done_ (done_of HT_.out (by kernel_rfl)) ?_
              try go_wp2
              go_ret
              exact ⟨by first | rfl | (simp [errW_none, errW_some] <;> rfl) | (simp only [← hji40]; first | rfl | (simp [errW_none, errW_some] <;> rfl)) | (simp [*, errW_none, errW_some] <;> rfl), by repeat (first | (with_reducible first | exact HB.out | apply below_alloc | apply pw_below_drewN | apply below_drew1) | exact HB.out)⟩
             ·rw [if_neg c42] at H
              have c42b0 : decide (t325 < 1) = false := decide_eq_false c42
              clear c42
              have H' := Aside0.mk H
              clear H
              obtain ⟨Ao49, co49, eo49⟩ := Kd.R_slice HO_11.out
              subst eo49
              have p324 : 0 ≤ (x14_2 : Int) := of_decide_eq_true (by first | (with_reducible assumption) | assumption)
              have q324 : x14_2 < (t317.length : Int) := of_decide_eq_true (by first | (with_reducible assumption) | assumption)
              obtain ⟨ad324, e324, hx324_0, hx324_1⟩ := at_T35 (Kd.R_reads' HO_11.out).2.2 x14_2 p324 q324
              cases e324
              replace p324 := eq_true p324
              replace q324 := eq_true q324
              obtain ⟨Ao50, co50, eo50⟩ := Kd.R_slice HO_12.out
              subst eo50
              try go_wp2_with (first | ((with_reducible refine gate_callee (f := 43) rfl ?_); refine goesL_ (some 77) rfl rfl Try.func43 (by kernel_rfl) rfl #[.slice Ao50 t320.length co50, .int .u32 ((rd_T35 t317 x14_2).f0)] rfl (by (try simp only [List.map_toArray, List.map_cons, List.map_nil]); first | done | rfl | (simp only [List.length_drop, List.length_take]; rfl)) ?_; (with_reducible refine (vector_Count.calls _ _ t320 ((rd_T35 t317 x14_2).f0) t325 _ ?side1 ?side2 A37.out).mono ?_); (case side1 => exact sC HO_12); (case side2 => exact sN HO_12); rintro e w51 ⟨rfl, hb⟩; refine ⟨_, rfl, ?_⟩; have n0_ := sBe HO_7 hb; have n1_ := sBe HO_8 hb; have n2_ := sBe HO_9 hb; have n3_ := sBe HO_11 hb; have n4_ := sBe HO_12 hb; have n5_ := sSt HB hb; clear HO_7; clear HO_8; clear HO_9; clear HO_11; clear HO_12; clear HB; have HO_7 := n0_; have HO_8 := n1_; have HO_9 := n2_; have HO_11 := n3_; have HO_12 := n4_; have HB := n5_; clear n0_ n1_ n2_ n3_ n4_ n5_; (try clear hb); (try clear hb2); (try clear hk); (try clear hi)))
              have n0_ := Aside0.mk (Kd.R_drew HO_7.out)
              have n1_ := Aside0.mk (Kd.R_drew HO_8.out)
              have n2_ := Aside0.mk (Kd.R_drew HO_9.out)
              have n3_ := Aside0.mk (Kd.R_drew HO_11.out)
              have n4_ := Aside0.mk (Kd.R_drew HO_12.out)
              have n5_ := Aside0.mk (below_drew1 HB.out)
              clear HO_7
              clear HO_8
              clear HO_9
              clear HO_11
              clear HO_12
              clear HB
              have HO_7 := n0_
              have HO_8 := n1_
              have HO_9 := n2_
              have HO_11 := n3_
              have HO_12 := n4_
              have HB := n5_
              clear n0_ n1_ n2_ n3_ n4_ n5_
              have p326 : 0 ≤ (x14_2 : Int) := of_decide_eq_true (by first | (with_reducible assumption) | assumption)
              have q326 : x14_2 < (t317.length : Int) := of_decide_eq_true (by first | (with_reducible assumption) | assumption)
              obtain ⟨ad326, e326, hx326_0, hx326_1⟩ := at_T35 (Kd.R_reads' HO_11.out).2.2 x14_2 p326 q326
              obtain rfl : ad324 = ad326 := (by injection e326)
              replace p326 := eq_true p326
              replace q326 := eq_true q326
              have p328 : 0 ≤ (x14_2 : Int) := of_decide_eq_true (by first | (with_reducible assumption) | assumption)
              have q328 : x14_2 < (t317.length : Int) := of_decide_eq_true (by first | (with_reducible assumption) | assumption)
              obtain ⟨ad328, e328, hx328_0, hx328_1⟩ := at_T35 (Kd.R_reads' HO_11.out).2.2 x14_2 p328 q328
              obtain rfl : ad324 = ad328 := (by injection e328)
              replace p328 := eq_true p328
              replace q328 := eq_true q328
              refine start_ (n := 21) (S := fun w' => w'.cell? (ad324.add ((x14_2).toNat * 2)) = some (.int .u32 ((rd_T35 t317 x14_2).f0)) ∧ w'.cell? ⟨(ad324.add ((x14_2).toNat * 2)).block, (ad324.add ((x14_2).toNat * 2)).off + 1, none⟩ = some (.int .u64 ((rd_T35 t317 x14_2).f1)) ∧ w'.cell? (ad324.add ((x14_2).toNat * 2)) = some (.int .u32 ((rd_T35 t317 x14_2).f0)) ∧ w'.cell? ⟨(ad324.add ((x14_2).toNat * 2)).block, (ad324.add ((x14_2).toNat * 2)).off + 1, none⟩ = some (.int .u64 ((rd_T35 t317 x14_2).f1))) (ds := []) #[false, false, false, false, false, false, false, false, false, false, false, false, false, false, false, false, false, false, false, false, false] (by kernel_rfl) rfl rfl ⟨hx326_0, hx326_1, hx328_0, hx328_1⟩ (fun hHeld => ?_); refine with_tabW concordlaw10_VectorGreat.tab19 concordlaw10_VectorGreat.bits19 (fun HT_ HW_ => ?_)
              generalize w51.drew = w52 at HO_7 HO_8 HO_9 HO_11 HO_12 HB hx326_0 hx326_1 hx328_0 hx328_1 hHeld ⊢
              refine pure_ (i := 0) (N := some 78) (v := ?_) (a' := ?_) #[true, false, false, false, false, false, false, false, false, false, false, false, false, false, false, false, false, false, false, false, false] rfl rfl (any_of HT_.out (by kernel_rfl)) (fun _ _ _ h => h) (Or.inl ⟨by rfl, ?_⟩) ?_ ?_
              rotate_left
              ·intro w'
               go_simp
               with_reducible rfl
              rotate_left
              ·simp only [Act.put, List.setIfInBounds_toArray, List.set_cons_zero, List.set_cons_succ, i64_w, i32_w]
               rfl
              refine pure_ (i := 1) (N := some 79) (v := ?_) (a' := ?_) #[true, true, false, false, false, false, false, false, false, false, false, false, false, false, false, false, false, false, false, false, false] rfl rfl (any_of HT_.out (by kernel_rfl)) (fun _ _ _ h => h) (Or.inl ⟨by rfl, ?_⟩) ?_ ?_
              rotate_left
              ·intro w'
               go_simp
               with_reducible rfl
              rotate_left
              ·simp only [Act.put, List.setIfInBounds_toArray, List.set_cons_zero, List.set_cons_succ, i64_w, i32_w]
               rfl
              refine pure_ (i := 2) (N := some 80) (v := ?_) (a' := ?_) #[true, true, true, false, false, false, false, false, false, false, false, false, false, false, false, false, false, false, false, false, false] rfl rfl (any_of HT_.out (by kernel_rfl)) (fun _ _ _ h => h) (Or.inl ⟨by rfl, ?_⟩) ?_ ?_
              rotate_left
              ·intro w'
               go_simp
               with_reducible rfl
              rotate_left
              ·simp only [Act.put, List.setIfInBounds_toArray, List.set_cons_zero, List.set_cons_succ, i64_w, i32_w]
               rfl
              refine pure_ (i := 3) (N := some 81) (v := ?_) (a' := ?_) #[true, true, true, true, false, false, false, false, false, false, false, false, false, false, false, false, false, false, false, false, false] rfl rfl (any_of HT_.out (by kernel_rfl)) (fun _ _ _ h => h) (Or.inl ⟨by rfl, ?_⟩) ?_ ?_
              rotate_left
              ·intro w'
               go_simp
               with_reducible rfl
              rotate_left
              ·simp only [Act.put, List.setIfInBounds_toArray, List.set_cons_zero, List.set_cons_succ, i64_w, i32_w]
               rfl
              refine pure_ (i := 4) (N := some 82) (v := ?_) (a' := ?_) #[true, true, true, true, true, false, false, false, false, false, false, false, false, false, false, false, false, false, false, false, false] rfl rfl (any_of HT_.out (by kernel_rfl)) (fun _ _ _ h => h) (Or.inl ⟨by rfl, ?_⟩) ?_ ?_
              rotate_left
              ·intro w'
               go_simp
               with_reducible rfl
              rotate_left
              ·simp only [Act.put, List.setIfInBounds_toArray, List.set_cons_zero, List.set_cons_succ, i64_w, i32_w]
               rfl
              refine pure_ (i := 5) (N := some 83) (v := ?_) (a' := ?_) #[true, true, true, true, true, true, false, false, false, false, false, false, false, false, false, false, false, false, false, false, false] rfl rfl (any_of HT_.out (by kernel_rfl)) (fun _ _ _ h => h) (Or.inl ⟨by rfl, ?_⟩) ?_ ?_
              rotate_left
              ·intro w'
               go_simp
               with_reducible rfl
              rotate_left
              ·simp only [Act.put, List.setIfInBounds_toArray, List.set_cons_zero, List.set_cons_succ, i64_w, i32_w]
               rfl
              refine pure_ (i := 8) (N := some 86) (v := ?_) (a' := ?_) #[true, true, true, true, true, true, false, false, true, false, false, false, false, false, false, false, false, false, false, false, false] rfl rfl (any_of HT_.out (by kernel_rfl)) (fun _ _ _ h => h) (Or.inl ⟨by rfl, ?_⟩) ?_ ?_
              rotate_left
              ·intro w'
               go_simp
               with_reducible rfl
              rotate_left
              ·simp only [Act.put, List.setIfInBounds_toArray, List.set_cons_zero, List.set_cons_succ, i64_w, i32_w]
               rfl
              refine pure_ (i := 9) (N := some 87) (v := ?_) (a' := ?_) #[true, true, true, true, true, true, false, false, true, true, false, false, false, false, false, false, false, false, false, false, false] rfl rfl (any_of HT_.out (by kernel_rfl)) (fun _ _ _ h => h) (Or.inl ⟨by rfl, ?_⟩) ?_ ?_
              rotate_left
              ·intro w'
               go_simp
               with_reducible rfl
              rotate_left
              ·simp only [Act.put, List.setIfInBounds_toArray, List.set_cons_zero, List.set_cons_succ, i64_w, i32_w]
               rfl
              refine pure_ (i := 10) (N := some 88) (v := ?_) (a' := ?_) #[true, true, true, true, true, true, false, false, true, true, true, false, false, false, false, false, false, false, false, false, false] rfl rfl (any_of HT_.out (by kernel_rfl)) (fun _ _ _ h => h) (Or.inl ⟨by rfl, ?_⟩) ?_ ?_
              rotate_left
              ·intro w'
               go_simp
               with_reducible rfl
              rotate_left
              ·simp only [Act.put, List.setIfInBounds_toArray, List.set_cons_zero, List.set_cons_succ, i64_w, i32_w]
               rfl
              refine pure_ (i := 11) (N := some 89) (v := ?_) (a' := ?_) #[true, true, true, true, true, true, false, false, true, true, true, true, false, false, false, false, false, false, false, false, false] rfl rfl (any_of HT_.out (by kernel_rfl)) (fun _ _ _ h => h) (Or.inl ⟨by rfl, ?_⟩) ?_ ?_
              rotate_left
              ·intro w'
               go_simp
               with_reducible rfl
              rotate_left
              ·simp only [Act.put, List.setIfInBounds_toArray, List.set_cons_zero, List.set_cons_succ, i64_w, i32_w]
               rfl
              refine pure_ (i := 12) (N := some 90) (v := ?_) (a' := ?_) #[true, true, true, true, true, true, false, false, true, true, true, true, true, false, false, false, false, false, false, false, false] rfl rfl (any_of HT_.out (by kernel_rfl)) (fun _ _ _ h => h) (Or.inl ⟨by rfl, ?_⟩) ?_ ?_
              rotate_left
              ·intro w'
               go_simp
               with_reducible rfl
              rotate_left
              ·simp only [Act.put, List.setIfInBounds_toArray, List.set_cons_zero, List.set_cons_succ, i64_w, i32_w]
               rfl
              refine take_ (i := 6) (N := some 84) (v := ?_) (a' := ?_) #[true, true, true, true, true, true, true, false, true, true, true, true, true, false, false, false, false, false, false, false, false] rfl rfl (take_ofW HT_.out HW_.out (by kernel_rfl)) (fun _ _ _ h => h) (Or.inl ⟨by rfl, ?_⟩) hHeld ?_ ?_
              rotate_left
              ·rintro w' ⟨s0, s1, s2, s3⟩
               go_simp
               with_reducible rfl
              rotate_left
              ·simp only [Act.put, List.setIfInBounds_toArray, List.set_cons_zero, List.set_cons_succ, i64_w, i32_w]
               rfl
              refine take_ (i := 13) (N := some 91) (v := ?_) (a' := ?_) #[true, true, true, true, true, true, true, false, true, true, true, true, true, true, false, false, false, false, false, false, false] rfl rfl (take_ofW HT_.out HW_.out (by kernel_rfl)) (fun _ _ _ h => h) (Or.inl ⟨by rfl, ?_⟩) hHeld ?_ ?_
              rotate_left
              ·rintro w' ⟨s0, s1, s2, s3⟩
               go_simp
               with_reducible rfl
              rotate_left
              ·simp only [Act.put, List.setIfInBounds_toArray, List.set_cons_zero, List.set_cons_succ, i64_w, i32_w]
               rfl
              refine one_ (i := 7) (N := some 85) #[true, true, true, true, true, true, true, true, true, true, true, true, true, true, false, false, false, false, false, false, false] rfl rfl (one_of HT_.out (by kernel_rfl)) (by decide) (fun K hK => ?_)
              refine goes_ Try.func43 (by kernel_rfl) rfl #[.slice Ao19 t302.length co19, .int .u32 ((rd_T35 t317 x14_2).f0)] (by rfl) rfl rfl (by (try simp only [List.map_toArray, List.map_cons, List.map_nil]); first | done | rfl | (simp only [List.length_drop, List.length_take]; rfl)) ?_
              with_reducible refine (vector_Count.calls _ _ t302 ((rd_T35 t317 x14_2).f0) t327 _ ?side1 ?side2 A38.out).mono ?_
              (case side1 => exact sC HO_7)
              (case side2 => exact sN HO_7)
              rintro e w53 ⟨rfl, hb⟩
              have HS0_ := (hb.cell (World.block_lt_of_cell? _ _ (hHeld.1))).trans (hHeld.1)
              have HS1_ := (hb.cell (World.block_lt_of_cell? _ _ (hHeld.2.1))).trans (hHeld.2.1)
              have HS2_ := (hb.cell (World.block_lt_of_cell? _ _ (hHeld.2.2.1))).trans (hHeld.2.2.1)
              have HS3_ := (hb.cell (World.block_lt_of_cell? _ _ (hHeld.2.2.2))).trans (hHeld.2.2.2)
              refine ⟨_, rfl, ?_⟩
              have n0_ := sBe HO_7 hb
              have n1_ := sBe HO_8 hb
              have n2_ := sBe HO_9 hb
              have n3_ := sBe HO_11 hb
              have n4_ := sBe HO_12 hb
              have n5_ := sSt HB hb
              clear HO_7
              clear HO_8
              clear HO_9
              clear HO_11
              clear HO_12
              clear HB
              have HO_7 := n0_
              have HO_8 := n1_
              have HO_9 := n2_
              have HO_11 := n3_
              have HO_12 := n4_
              have HB := n5_
              clear n0_ n1_ n2_ n3_ n4_ n5_
              (try clear hb)
              (try clear hb2)
              (try clear hk)
              (try clear hi)
              refine hK.out _ _ ⟨HS0_, HS1_, HS2_, HS3_⟩ (fun hHeld => ?_)
              clear hK K
              refine norm_ (a' := ?_) ?_ ?_
              rotate_left
              ·show Act.put _ (some 85) _ = _
               simp only [Act.put, List.setIfInBounds_toArray, List.set_cons_zero, List.set_cons_succ, i64_w, i32_w]
               rfl
              refine one_ (i := 14) (N := some 92) #[true, true, true, true, true, true, true, true, true, true, true, true, true, true, true, false, false, false, false, false, false] rfl rfl (one_of HT_.out (by kernel_rfl)) (by decide) (fun K hK => ?_)
              refine goes_ Try.func43 (by kernel_rfl) rfl #[.slice Ao21 t305.length co21, .int .u32 ((rd_T35 t317 x14_2).f0)] (by rfl) rfl rfl (by (try simp only [List.map_toArray, List.map_cons, List.map_nil]); first | done | rfl | (simp only [List.length_drop, List.length_take]; rfl)) ?_
              with_reducible refine (vector_Count.calls _ _ t305 ((rd_T35 t317 x14_2).f0) t329 _ ?side1 ?side2 A39.out).mono ?_
              (case side1 => exact sC HO_8)
              (case side2 => exact sN HO_8)
              rintro e w54 ⟨rfl, hb⟩
              have HS0_ := (hb.cell (World.block_lt_of_cell? _ _ (hHeld.1))).trans (hHeld.1)
              have HS1_ := (hb.cell (World.block_lt_of_cell? _ _ (hHeld.2.1))).trans (hHeld.2.1)
              have HS2_ := (hb.cell (World.block_lt_of_cell? _ _ (hHeld.2.2.1))).trans (hHeld.2.2.1)
              have HS3_ := (hb.cell (World.block_lt_of_cell? _ _ (hHeld.2.2.2))).trans (hHeld.2.2.2)
              refine ⟨_, rfl, ?_⟩
              have n0_ := sBe HO_7 hb
              have n1_ := sBe HO_8 hb
              have n2_ := sBe HO_9 hb
              have n3_ := sBe HO_11 hb
              have n4_ := sBe HO_12 hb
              have n5_ := sSt HB hb
              clear HO_7
              clear HO_8
              clear HO_9
              clear HO_11
              clear HO_12
              clear HB
              have HO_7 := n0_
              have HO_8 := n1_
              have HO_9 := n2_
              have HO_11 := n3_
              have HO_12 := n4_
              have HB := n5_
              clear n0_ n1_ n2_ n3_ n4_ n5_
              (try clear hb)
              (try clear hb2)
              (try clear hk)
              (try clear hi)
              refine hK.out _ _ ⟨HS0_, HS1_, HS2_, HS3_⟩ (fun hHeld => ?_)
              clear hK K
              refine norm_ (a' := ?_) ?_ ?_
              rotate_left
              ·show Act.put _ (some 92) _ = _
               simp only [Act.put, List.setIfInBounds_toArray, List.set_cons_zero, List.set_cons_succ, i64_w, i32_w]
               rfl
              refine pure_ (i := 15) (N := some 93) (v := ?_) (a' := ?_) #[true, true, true, true, true, true, true, true, true, true, true, true, true, true, true, true, false, false, false, false, false] rfl rfl (any_of HT_.out (by kernel_rfl)) (fun _ _ _ h => h) (Or.inl ⟨by rfl, ?_⟩) ?_ ?_
              rotate_left
              ·intro w'
               go_simp
               with_reducible rfl
              rotate_left
              ·simp only [Act.put, List.setIfInBounds_toArray, List.set_cons_zero, List.set_cons_succ, i64_w, i32_w]
               rfl
              refine pure_ (i := 16) (N := some 94) (v := ?_) (a' := ?_) #[true, true, true, true, true, true, true, true, true, true, true, true, true, true, true, true, true, false, false, false, false] rfl rfl (any_of HT_.out (by kernel_rfl)) (fun _ _ _ h => h) (Or.inl ⟨by rfl, ?_⟩) ?_ ?_
              rotate_left
              ·intro w'
               go_simp
               with_reducible rfl
              rotate_left
              ·simp only [Act.put, List.setIfInBounds_toArray, List.set_cons_zero, List.set_cons_succ, i64_w, i32_w]
               rfl
              refine pure_ (i := 17) (N := some 95) (v := ?_) (a' := ?_) #[true, true, true, true, true, true, true, true, true, true, true, true, true, true, true, true, true, true, false, false, false] rfl rfl (any_of HT_.out (by kernel_rfl)) (fun _ _ _ h => h) (Or.inl ⟨by rfl, ?_⟩) ?_ ?_
              rotate_left
              ·intro w'
               go_simp
               with_reducible rfl
              rotate_left
              ·simp only [Act.put, List.setIfInBounds_toArray, List.set_cons_zero, List.set_cons_succ, i64_w, i32_w]
               rfl
              refine pure_ (i := 18) (N := some 96) (v := ?_) (a' := ?_) #[true, true, true, true, true, true, true, true, true, true, true, true, true, true, true, true, true, true, true, false, false] rfl rfl (any_of HT_.out (by kernel_rfl)) (fun _ _ _ h => h) (Or.inl ⟨by rfl, ?_⟩) ?_ ?_
              rotate_left
              ·intro w'
               go_simp
               with_reducible rfl
              rotate_left
              ·simp only [Act.put, List.setIfInBounds_toArray, List.set_cons_zero, List.set_cons_succ, i64_w, i32_w]
               rfl
              refine pure_ (i := 19) (N := some 97) (v := ?_) (a' := ?_) #[true, true, true, true, true, true, true, true, true, true, true, true, true, true, true, true, true, true, true, true, false] rfl rfl (any_of HT_.out (by kernel_rfl)) (fun _ _ _ h => h) (Or.inl ⟨by rfl, ?_⟩) ?_ ?_
              rotate_left
              ·intro w'
               go_simp
               with_reducible rfl
              rotate_left
              ·simp only [Act.put, List.setIfInBounds_toArray, List.set_cons_zero, List.set_cons_succ, i64_w, i32_w]
               rfl
              refine pure_ (i := 20) (N := some 98) (v := ?_) (a' := ?_) #[true, true, true, true, true, true, true, true, true, true, true, true, true, true, true, true, true, true, true, true, true] rfl rfl (any_of HT_.out (by kernel_rfl)) (fun _ _ _ h => h) (Or.inl ⟨by rfl, ?_⟩) ?_ ?_
              rotate_left
              ·intro w'
               go_simp
               with_reducible rfl
              rotate_left
              ·simp only [Act.put, List.setIfInBounds_toArray, List.set_cons_zero, List.set_cons_succ, i64_w, i32_w]
               rfl
              refine done_ (done_of HT_.out (by kernel_rfl)) ?_
              try go_wp2
              go_roundg k2
              case measure => have := HJ12.out; have := HK2.out; omega
              case rel => exact ⟨(wrap64 (x14_2 + 1)), (by first | rfl | (simp; done) | (simp [*]; done)), H', ⟨by have := HJ12.out; have := HK2.out; omega⟩, ⟨by (with_reducible repeat (first | apply Kd.R_alloc | apply Kd.R_drewN | apply Kd.R_drew)); exact HO_7.out⟩, ⟨by (with_reducible repeat (first | apply Kd.R_alloc | apply Kd.R_drewN | apply Kd.R_drew)); exact HO_8.out⟩, ⟨by (with_reducible repeat (first | apply Kd.R_alloc | apply Kd.R_drewN | apply Kd.R_drew)); exact HO_9.out⟩, ⟨by (with_reducible repeat (first | apply Kd.R_alloc | apply Kd.R_drewN | apply Kd.R_drew)); exact HO_11.out⟩, ⟨by (with_reducible repeat (first | apply Kd.R_alloc | apply Kd.R_drewN | apply Kd.R_drew)); exact HO_12.out⟩, ⟨by repeat (first | (with_reducible first | exact HB.out | apply below_alloc | apply pw_below_drewN | apply below_drew1) | exact HB.out)⟩⟩
            ·rw [if_neg c41] at H
             have c41b0 : (t325 == (ji40)) = false := beq_eq_false_iff_ne.mpr c41
             have c41b1 : (t325 != (ji40)) = true := bne_iff_ne.mpr c41
             obtain rfl := Option.some.inj H
             obtain ⟨Ao55, co55, eo55⟩ := Kd.R_slice HO_11.out
             subst eo55
             have p324 : 0 ≤ (x14_2 : Int) := of_decide_eq_true (by first | (with_reducible assumption) | assumption)
             have q324 : x14_2 < (t317.length : Int) := of_decide_eq_true (by first | (with_reducible assumption) | assumption)
             obtain ⟨ad324, e324, hx324_0, hx324_1⟩ := at_T35 (Kd.R_reads' HO_11.out).2.2 x14_2 p324 q324
             cases e324
             replace p324 := eq_true p324
             replace q324 := eq_true q324
             obtain ⟨Ao56, co56, eo56⟩ := Kd.R_slice HO_12.out
             subst eo56
             try go_wp2_with (first | ((with_reducible refine gate_callee (f := 43) rfl ?_); refine goesL_ (some 77) rfl rfl Try.func43 (by kernel_rfl) rfl #[.slice Ao56 t320.length co56, .int .u32 ((rd_T35 t317 x14_2).f0)] rfl (by (try simp only [List.map_toArray, List.map_cons, List.map_nil]); first | done | rfl | (simp only [List.length_drop, List.length_take]; rfl)) ?_; (with_reducible refine (vector_Count.calls _ _ t320 ((rd_T35 t317 x14_2).f0) t325 _ ?side1 ?side2 A37.out).mono ?_); (case side1 => exact sC HO_12); (case side2 => exact sN HO_12); rintro e w57 ⟨rfl, hb⟩; refine ⟨_, rfl, ?_⟩; have n0_ := sBe HO_7 hb; have n1_ := sBe HO_8 hb; have n2_ := sBe HO_9 hb; have n3_ := sBe HO_11 hb; have n4_ := sBe HO_12 hb; have n5_ := sSt HB hb; clear HO_7; clear HO_8; clear HO_9; clear HO_11; clear HO_12; clear HB; have HO_7 := n0_; have HO_8 := n1_; have HO_9 := n2_; have HO_11 := n3_; have HO_12 := n4_; have HB := n5_; clear n0_ n1_ n2_ n3_ n4_ n5_; (try clear hb); (try clear hb2); (try clear hk); (try clear hi)))
             have n0_ := Aside0.mk (Kd.R_drew HO_7.out)
             have n1_ := Aside0.mk (Kd.R_drew HO_8.out)
             have n2_ := Aside0.mk (Kd.R_drew HO_9.out)
             have n3_ := Aside0.mk (Kd.R_drew HO_11.out)
             have n4_ := Aside0.mk (Kd.R_drew HO_12.out)
             have n5_ := Aside0.mk (below_drew1 HB.out)
             clear HO_7
             clear HO_8
             clear HO_9
             clear HO_11
             clear HO_12
             clear HB
             have HO_7 := n0_
             have HO_8 := n1_
             have HO_9 := n2_
             have HO_11 := n3_
             have HO_12 := n4_
             have HB := n5_
             clear n0_ n1_ n2_ n3_ n4_ n5_
             have p326 : 0 ≤ (x14_2 : Int) := of_decide_eq_true (by first | (with_reducible assumption) | assumption)
             have q326 : x14_2 < (t317.length : Int) := of_decide_eq_true (by first | (with_reducible assumption) | assumption)
             obtain ⟨ad326, e326, hx326_0, hx326_1⟩ := at_T35 (Kd.R_reads' HO_11.out).2.2 x14_2 p326 q326
             obtain rfl : ad324 = ad326 := (by injection e326)
             replace p326 := eq_true p326
             replace q326 := eq_true q326
             have p328 : 0 ≤ (x14_2 : Int) := of_decide_eq_true (by first | (with_reducible assumption) | assumption)
             have q328 : x14_2 < (t317.length : Int) := of_decide_eq_true (by first | (with_reducible assumption) | assumption)
             obtain ⟨ad328, e328, hx328_0, hx328_1⟩ := at_T35 (Kd.R_reads' HO_11.out).2.2 x14_2 p328 q328
             obtain rfl : ad324 = ad328 := (by injection e328)
             replace p328 := eq_true p328
             replace q328 := eq_true q328
             refine start_ (n := 21) (S := fun w' => w'.cell? (ad324.add ((x14_2).toNat * 2)) = some (.int .u32 ((rd_T35 t317 x14_2).f0)) ∧ w'.cell? ⟨(ad324.add ((x14_2).toNat * 2)).block, (ad324.add ((x14_2).toNat * 2)).off + 1, none⟩ = some (.int .u64 ((rd_T35 t317 x14_2).f1)) ∧ w'.cell? (ad324.add ((x14_2).toNat * 2)) = some (.int .u32 ((rd_T35 t317 x14_2).f0)) ∧ w'.cell? ⟨(ad324.add ((x14_2).toNat * 2)).block, (ad324.add ((x14_2).toNat * 2)).off + 1, none⟩ = some (.int .u64 ((rd_T35 t317 x14_2).f1))) (ds := []) #[false, false, false, false, false, false, false, false, false, false, false, false, false, false, false, false, false, false, false, false, false] (by kernel_rfl) rfl rfl ⟨hx326_0, hx326_1, hx328_0, hx328_1⟩ (fun hHeld => ?_); refine with_tabW concordlaw10_VectorGreat.tab19 concordlaw10_VectorGreat.bits19 (fun HT_ HW_ => ?_)
             generalize w57.drew = w58 at HO_7 HO_8 HO_9 HO_11 HO_12 HB hx326_0 hx326_1 hx328_0 hx328_1 hHeld ⊢
             refine pure_ (i := 0) (N := some 78) (v := ?_) (a' := ?_) #[true, false, false, false, false, false, false, false, false, false, false, false, false, false, false, false, false, false, false, false, false] rfl rfl (any_of HT_.out (by kernel_rfl)) (fun _ _ _ h => h) (Or.inl ⟨by rfl, ?_⟩) ?_ ?_
             rotate_left
             ·intro w'
              go_simp
              with_reducible rfl
             rotate_left
             ·simp only [Act.put, List.setIfInBounds_toArray, List.set_cons_zero, List.set_cons_succ, i64_w, i32_w]
              rfl
             refine pure_ (i := 1) (N := some 79) (v := ?_) (a' := ?_) #[true, true, false, false, false, false, false, false, false, false, false, false, false, false, false, false, false, false, false, false, false] rfl rfl (any_of HT_.out (by kernel_rfl)) (fun _ _ _ h => h) (Or.inl ⟨by rfl, ?_⟩) ?_ ?_
             rotate_left
             ·intro w'
              go_simp
              with_reducible rfl
             rotate_left
             ·simp only [Act.put, List.setIfInBounds_toArray, List.set_cons_zero, List.set_cons_succ, i64_w, i32_w]
              rfl
             refine pure_ (i := 2) (N := some 80) (v := ?_) (a' := ?_) #[true, true, true, false, false, false, false, false, false, false, false, false, false, false, false, false, false, false, false, false, false] rfl rfl (any_of HT_.out (by kernel_rfl)) (fun _ _ _ h => h) (Or.inl ⟨by rfl, ?_⟩) ?_ ?_
             rotate_left
             ·intro w'
              go_simp
              with_reducible rfl
             rotate_left
             ·simp only [Act.put, List.setIfInBounds_toArray, List.set_cons_zero, List.set_cons_succ, i64_w, i32_w]
              rfl
             refine pure_ (i := 3) (N := some 81) (v := ?_) (a' := ?_) #[true, true, true, true, false, false, false, false, false, false, false, false, false, false, false, false, false, false, false, false, false] rfl rfl (any_of HT_.out (by kernel_rfl)) (fun _ _ _ h => h) (Or.inl ⟨by rfl, ?_⟩) ?_ ?_
             rotate_left
             ·intro w'
              go_simp
              with_reducible rfl
             rotate_left
             ·simp only [Act.put, List.setIfInBounds_toArray, List.set_cons_zero, List.set_cons_succ, i64_w, i32_w]
              rfl
             refine pure_ (i := 4) (N := some 82) (v := ?_) (a' := ?_) #[true, true, true, true, true, false, false, false, false, false, false, false, false, false, false, false, false, false, false, false, false] rfl rfl (any_of HT_.out (by kernel_rfl)) (fun _ _ _ h => h) (Or.inl ⟨by rfl, ?_⟩) ?_ ?_
             rotate_left
             ·intro w'
              go_simp
              with_reducible rfl
             rotate_left
             ·simp only [Act.put, List.setIfInBounds_toArray, List.set_cons_zero, List.set_cons_succ, i64_w, i32_w]
              rfl
             refine pure_ (i := 5) (N := some 83) (v := ?_) (a' := ?_) #[true, true, true, true, true, true, false, false, false, false, false, false, false, false, false, false, false, false, false, false, false] rfl rfl (any_of HT_.out (by kernel_rfl)) (fun _ _ _ h => h) (Or.inl ⟨by rfl, ?_⟩) ?_ ?_
             rotate_left
             ·intro w'
              go_simp
              with_reducible rfl
             rotate_left
             ·simp only [Act.put, List.setIfInBounds_toArray, List.set_cons_zero, List.set_cons_succ, i64_w, i32_w]
              rfl
             refine pure_ (i := 8) (N := some 86) (v := ?_) (a' := ?_) #[true, true, true, true, true, true, false, false, true, false, false, false, false, false, false, false, false, false, false, false, false] rfl rfl (any_of HT_.out (by kernel_rfl)) (fun _ _ _ h => h) (Or.inl ⟨by rfl, ?_⟩) ?_ ?_
             rotate_left
             ·intro w'
              go_simp
              with_reducible rfl
             rotate_left
             ·simp only [Act.put, List.setIfInBounds_toArray, List.set_cons_zero, List.set_cons_succ, i64_w, i32_w]
              rfl
             refine pure_ (i := 9) (N := some 87) (v := ?_) (a' := ?_) #[true, true, true, true, true, true, false, false, true, true, false, false, false, false, false, false, false, false, false, false, false] rfl rfl (any_of HT_.out (by kernel_rfl)) (fun _ _ _ h => h) (Or.inl ⟨by rfl, ?_⟩) ?_ ?_
             rotate_left
             ·intro w'
              go_simp
              with_reducible rfl
             rotate_left
             ·simp only [Act.put, List.setIfInBounds_toArray, List.set_cons_zero, List.set_cons_succ, i64_w, i32_w]
              rfl
             refine pure_ (i := 10) (N := some 88) (v := ?_) (a' := ?_) #[true, true, true, true, true, true, false, false, true, true, true, false, false, false, false, false, false, false, false, false, false] rfl rfl (any_of HT_.out (by kernel_rfl)) (fun _ _ _ h => h) (Or.inl ⟨by rfl, ?_⟩) ?_ ?_
             rotate_left
             ·intro w'
              go_simp
              with_reducible rfl
             rotate_left
             ·simp only [Act.put, List.setIfInBounds_toArray, List.set_cons_zero, List.set_cons_succ, i64_w, i32_w]
              rfl
             refine pure_ (i := 11) (N := some 89) (v := ?_) (a' := ?_) #[true, true, true, true, true, true, false, false, true, true, true, true, false, false, false, false, false, false, false, false, false] rfl rfl (any_of HT_.out (by kernel_rfl)) (fun _ _ _ h => h) (Or.inl ⟨by rfl, ?_⟩) ?_ ?_
             rotate_left
             ·intro w'
              go_simp
              with_reducible rfl
             rotate_left
             ·simp only [Act.put, List.setIfInBounds_toArray, List.set_cons_zero, List.set_cons_succ, i64_w, i32_w]
              rfl
             refine pure_ (i := 12) (N := some 90) (v := ?_) (a' := ?_) #[true, true, true, true, true, true, false, false, true, true, true, true, true, false, false, false, false, false, false, false, false] rfl rfl (any_of HT_.out (by kernel_rfl)) (fun _ _ _ h => h) (Or.inl ⟨by rfl, ?_⟩) ?_ ?_
             rotate_left
             ·intro w'
              go_simp
              with_reducible rfl
             rotate_left
             ·simp only [Act.put, List.setIfInBounds_toArray, List.set_cons_zero, List.set_cons_succ, i64_w, i32_w]
              rfl
             refine take_ (i := 6) (N := some 84) (v := ?_) (a' := ?_) #[true, true, true, true, true, true, true, false, true, true, true, true, true, false, false, false, false, false, false, false, false] rfl rfl (take_ofW HT_.out HW_.out (by kernel_rfl)) (fun _ _ _ h => h) (Or.inl ⟨by rfl, ?_⟩) hHeld ?_ ?_
             rotate_left
             ·rintro w' ⟨s0, s1, s2, s3⟩
              go_simp
              with_reducible rfl
             rotate_left
             ·simp only [Act.put, List.setIfInBounds_toArray, List.set_cons_zero, List.set_cons_succ, i64_w, i32_w]
              rfl
             refine take_ (i := 13) (N := some 91) (v := ?_) (a' := ?_) #[true, true, true, true, true, true, true, false, true, true, true, true, true, true, false, false, false, false, false, false, false] rfl rfl (take_ofW HT_.out HW_.out (by kernel_rfl)) (fun _ _ _ h => h) (Or.inl ⟨by rfl, ?_⟩) hHeld ?_ ?_
             rotate_left
             ·rintro w' ⟨s0, s1, s2, s3⟩
              go_simp
              with_reducible rfl
             rotate_left
             ·simp only [Act.put, List.setIfInBounds_toArray, List.set_cons_zero, List.set_cons_succ, i64_w, i32_w]
              rfl
             refine one_ (i := 7) (N := some 85) #[true, true, true, true, true, true, true, true, true, true, true, true, true, true, false, false, false, false, false, false, false] rfl rfl (one_of HT_.out (by kernel_rfl)) (by decide) (fun K hK => ?_)
             refine goes_ Try.func43 (by kernel_rfl) rfl #[.slice Ao19 t302.length co19, .int .u32 ((rd_T35 t317 x14_2).f0)] (by rfl) rfl rfl (by (try simp only [List.map_toArray, List.map_cons, List.map_nil]); first | done | rfl | (simp only [List.length_drop, List.length_take]; rfl)) ?_
             with_reducible refine (vector_Count.calls _ _ t302 ((rd_T35 t317 x14_2).f0) t327 _ ?side1 ?side2 A38.out).mono ?_
             (case side1 => exact sC HO_7)
             (case side2 => exact sN HO_7)
             rintro e w59 ⟨rfl, hb⟩
             have HS0_ := (hb.cell (World.block_lt_of_cell? _ _ (hHeld.1))).trans (hHeld.1)
             have HS1_ := (hb.cell (World.block_lt_of_cell? _ _ (hHeld.2.1))).trans (hHeld.2.1)
             have HS2_ := (hb.cell (World.block_lt_of_cell? _ _ (hHeld.2.2.1))).trans (hHeld.2.2.1)
             have HS3_ := (hb.cell (World.block_lt_of_cell? _ _ (hHeld.2.2.2))).trans (hHeld.2.2.2)
             refine ⟨_, rfl, ?_⟩
             have n0_ := sBe HO_7 hb
             have n1_ := sBe HO_8 hb
             have n2_ := sBe HO_9 hb
             have n3_ := sBe HO_11 hb
             have n4_ := sBe HO_12 hb
             have n5_ := sSt HB hb
             clear HO_7
             clear HO_8
             clear HO_9
             clear HO_11
             clear HO_12
             clear HB
             have HO_7 := n0_
             have HO_8 := n1_
             have HO_9 := n2_
             have HO_11 := n3_
             have HO_12 := n4_
             have HB := n5_
             clear n0_ n1_ n2_ n3_ n4_ n5_
             (try clear hb)
             (try clear hb2)
             (try clear hk)
             (try clear hi)
             refine hK.out _ _ ⟨HS0_, HS1_, HS2_, HS3_⟩ (fun hHeld => ?_)
             clear hK K
             refine norm_ (a' := ?_) ?_ ?_
             rotate_left
             ·show Act.put _ (some 85) _ = _
              simp only [Act.put, List.setIfInBounds_toArray, List.set_cons_zero, List.set_cons_succ, i64_w, i32_w]
              rfl
             refine one_ (i := 14) (N := some 92) #[true, true, true, true, true, true, true, true, true, true, true, true, true, true, true, false, false, false, false, false, false] rfl rfl (one_of HT_.out (by kernel_rfl)) (by decide) (fun K hK => ?_)
             refine goes_ Try.func43 (by kernel_rfl) rfl #[.slice Ao21 t305.length co21, .int .u32 ((rd_T35 t317 x14_2).f0)] (by rfl) rfl rfl (by (try simp only [List.map_toArray, List.map_cons, List.map_nil]); first | done | rfl | (simp only [List.length_drop, List.length_take]; rfl)) ?_
             with_reducible refine (vector_Count.calls _ _ t305 ((rd_T35 t317 x14_2).f0) t329 _ ?side1 ?side2 A39.out).mono ?_
             (case side1 => exact sC HO_8)
             (case side2 => exact sN HO_8)
             rintro e w60 ⟨rfl, hb⟩
             have HS0_ := (hb.cell (World.block_lt_of_cell? _ _ (hHeld.1))).trans (hHeld.1)
             have HS1_ := (hb.cell (World.block_lt_of_cell? _ _ (hHeld.2.1))).trans (hHeld.2.1)
             have HS2_ := (hb.cell (World.block_lt_of_cell? _ _ (hHeld.2.2.1))).trans (hHeld.2.2.1)
             have HS3_ := (hb.cell (World.block_lt_of_cell? _ _ (hHeld.2.2.2))).trans (hHeld.2.2.2)
             refine ⟨_, rfl, ?_⟩
             have n0_ := sBe HO_7 hb
             have n1_ := sBe HO_8 hb
             have n2_ := sBe HO_9 hb
             have n3_ := sBe HO_11 hb
             have n4_ := sBe HO_12 hb
             have n5_ := sSt HB hb
             clear HO_7
             clear HO_8
             clear HO_9
             clear HO_11
             clear HO_12
             clear HB
             have HO_7 := n0_
             have HO_8 := n1_
             have HO_9 := n2_
             have HO_11 := n3_
             have HO_12 := n4_
             have HB := n5_
             clear n0_ n1_ n2_ n3_ n4_ n5_
             (try clear hb)
             (try clear hb2)
             (try clear hk)
             (try clear hi)
             refine hK.out _ _ ⟨HS0_, HS1_, HS2_, HS3_⟩ (fun hHeld => ?_)
             clear hK K
             refine norm_ (a' := ?_) ?_ ?_
             rotate_left
             ·show Act.put _ (some 92) _ = _
              simp only [Act.put, List.setIfInBounds_toArray, List.set_cons_zero, List.set_cons_succ, i64_w, i32_w]
              rfl
             refine pure_ (i := 15) (N := some 93) (v := ?_) (a' := ?_) #[true, true, true, true, true, true, true, true, true, true, true, true, true, true, true, true, false, false, false, false, false] rfl rfl (any_of HT_.out (by kernel_rfl)) (fun _ _ _ h => h) (Or.inl ⟨by rfl, ?_⟩) ?_ ?_
             rotate_left
             ·intro w'
              go_simp
              with_reducible rfl
             rotate_left
             ·simp only [Act.put, List.setIfInBounds_toArray, List.set_cons_zero, List.set_cons_succ, i64_w, i32_w]
              rfl
             refine pure_ (i := 16) (N := some 94) (v := ?_) (a' := ?_) #[true, true, true, true, true, true, true, true, true, true, true, true, true, true, true, true, true, false, false, false, false] rfl rfl (any_of HT_.out (by kernel_rfl)) (fun _ _ _ h => h) (Or.inl ⟨by rfl, ?_⟩) ?_ ?_
             rotate_left
             ·intro w'
              go_simp
              with_reducible rfl
             rotate_left
             ·simp only [Act.put, List.setIfInBounds_toArray, List.set_cons_zero, List.set_cons_succ, i64_w, i32_w]
              rfl
             refine pure_ (i := 17) (N := some 95) (v := ?_) (a' := ?_) #[true, true, true, true, true, true, true, true, true, true, true, true, true, true, true, true, true, true, false, false, false] rfl rfl (any_of HT_.out (by kernel_rfl)) (fun _ _ _ h => h) (Or.inl ⟨by rfl, ?_⟩) ?_ ?_
             rotate_left
             ·intro w'
              go_simp
              with_reducible rfl
             rotate_left
             ·simp only [Act.put, List.setIfInBounds_toArray, List.set_cons_zero, List.set_cons_succ, i64_w, i32_w]
              rfl
             refine pure_ (i := 18) (N := some 96) (v := undef) (a' := ?_) #[true, true, true, true, true, true, true, true, true, true, true, true, true, true, true, true, true, true, true, false, false] rfl rfl (any_of HT_.out (by kernel_rfl)) (fun _ _ _ h => h) (Or.inr ⟨by rfl, rfl⟩) ?_ ?_
             rotate_left
             ·simp only [Act.put, List.setIfInBounds_toArray, List.set_cons_zero, List.set_cons_succ, i64_w, i32_w]
              rfl
             refine pure_ (i := 19) (N := some 97) (v := undef) (a' := ?_) #[true, true, true, true, true, true, true, true, true, true, true, true, true, true, true, true, true, true, true, true, false] rfl rfl (any_of HT_.out (by kernel_rfl)) (fun _ _ _ h => h) (Or.inr ⟨by rfl, rfl⟩) ?_ ?_
             rotate_left
             ·simp only [Act.put, List.setIfInBounds_toArray, List.set_cons_zero, List.set_cons_succ, i64_w, i32_w]
              rfl
             refine pure_ (i := 20) (N := some 98) (v := ?_) (a' := ?_) #[true, true, true, true, true, true, true, true, true, true, true, true, true, true, true, true, true, true, true, true, true] rfl rfl (any_of HT_.out (by kernel_rfl)) (fun _ _ _ h => h) (Or.inl ⟨by rfl, ?_⟩) ?_ ?_
             rotate_left
             ·intro w'
              go_simp
              with_reducible rfl
             rotate_left
             ·simp only [Act.put, List.setIfInBounds_toArray, List.set_cons_zero, List.set_cons_succ, i64_w, i32_w]
              rfl
             refine done_ (done_of HT_.out (by kernel_rfl)) ?_
             try go_wp2
             go_ret
             exact ⟨by first | rfl | (simp [errW_none, errW_some] <;> rfl) | (simp only [← hji40]; first | rfl | (simp [errW_none, errW_some] <;> rfl)) | (simp [*, errW_none, errW_some] <;> rfl), by repeat (first | (with_reducible first | exact HB.out | apply below_alloc | apply pw_below_drewN | apply below_drew1) | exact HB.out)⟩
           ·rw [if_neg c36] at H
            exact absurd H (by simp)
          ·rw [if_neg c35] at H
           have c35b0 : decide (x14_2 < (t317.length : Int)) = false := decide_eq_false c35
           clear c35
           replace H := Option.bind_eq_some_iff.mp H
           obtain ⟨⟨t330, t331⟩, A610, H⟩ := H
           replace H : ((vector_Max.f t305 t308).bind fun bt334 => (if t331 = 0 then (concordlaw10_VectorGreat.j2 k2 t302 t317 t320 t330 bt334.1 (bt334.2 != 0)) else (concordlaw10_VectorGreat.j2 k2 t302 t317 t320 t330 bt334.1 true))) = some r := H
           have A61 := Aside0.mk A610
           clear A610
           replace H := Option.bind_eq_some_iff.mp H
           obtain ⟨⟨t334, t335⟩, A620, H⟩ := H
           replace H : (if t331 = 0 then (concordlaw10_VectorGreat.j2 k2 t302 t317 t320 t330 t334 (t335 != 0)) else (concordlaw10_VectorGreat.j2 k2 t302 t317 t320 t330 t334 true)) = some r := H
           have A62 := Aside0.mk A620
           clear A620
           have HC63 := Aside0.mk H
           clear H
           obtain ⟨Ao64, co64, eo64⟩ := Kd.R_slice HO_11.out
           subst eo64
           obtain ⟨Ao65, co65, eo65⟩ := Kd.R_slice HO_12.out
           subst eo65
           obtain ⟨Ao66, co66, eo66⟩ := Kd.R_slice HO_9.out
           subst eo66
           go_upto_region 23 with (first | ((with_reducible refine gate_callee (f := 13) rfl ?_); refine goesL_ (some 102) rfl rfl Try.func13 (by kernel_rfl) rfl #[.slice Ao65 t320.length co65, .slice Ao66 t308.length co66] rfl (by (try simp only [List.map_toArray, List.map_cons, List.map_nil]); first | done | rfl | (simp only [List.length_drop, List.length_take]; rfl)) ?_; (with_reducible refine (vector_Max.calls _ _ t320 _ _ t308 t330 t331 _ ?side1 ?side2 ?side3 ?side4 A61.out).mono ?_); (case side1 => exact sC HO_12); (case side2 => exact sN HO_12); (case side3 => exact sC HO_9); (case side4 => exact sN HO_9); rintro e w67 ⟨v332, rfl, ho0, hb⟩; refine ⟨_, rfl, ?_⟩; have n0_ := sEl HO_7 (Kd.R_base ho0) hb; have n1_ := sEl HO_8 (Kd.R_base ho0) hb; have n2_ := sEl HO_9 (Kd.R_base ho0) hb; have n3_ := sEl HO_11 (Kd.R_base ho0) hb; have n4_ := sEl HO_12 (Kd.R_base ho0) hb; have n5_ := Aside0.mk (Kd.R_lower (Kd.R_new' (Kd.R_new' (Kd.R_new' (Kd.R_new' (Kd.R_new' ho0 (sLt HO_7)) (sLt HO_8)) (sLt HO_9)) (sLt HO_11)) (sLt HO_12)) (sSz HB)); have n6_ := sSt HB hb; clear HO_7; clear HO_8; clear HO_9; clear HO_11; clear HO_12; clear HB; have HO_7 := n0_; have HO_8 := n1_; have HO_9 := n2_; have HO_11 := n3_; have HO_12 := n4_; have HO333 := n5_; have HB := n6_; clear n0_ n1_ n2_ n3_ n4_ n5_ n6_; (try clear hb); (try clear hb2); (try clear hk); (try clear hi); (try clear ho0)) | ((with_reducible refine gate_callee (f := 13) rfl ?_); refine goesL_ (some 108) rfl rfl Try.func13 (by kernel_rfl) rfl #[.slice Ao21 t305.length co21, .slice Ao66 t308.length co66] rfl (by (try simp only [List.map_toArray, List.map_cons, List.map_nil]); first | done | rfl | (simp only [List.length_drop, List.length_take]; rfl)) ?_; (with_reducible refine (vector_Max.calls _ _ t305 _ _ t308 t334 t335 _ ?side1 ?side2 ?side3 ?side4 A62.out).mono ?_); (case side1 => exact sC HO_8); (case side2 => exact sN HO_8); (case side3 => exact sC HO_9); (case side4 => exact sN HO_9); rintro e w68 ⟨v336, rfl, ho0, hb⟩; refine ⟨_, rfl, ?_⟩; have n0_ := sEl HO_7 (Kd.R_base ho0) hb; have n1_ := sEl HO_8 (Kd.R_base ho0) hb; have n2_ := sEl HO_9 (Kd.R_base ho0) hb; have n3_ := sEl HO_11 (Kd.R_base ho0) hb; have n4_ := sEl HO_12 (Kd.R_base ho0) hb; have n5_ := sEl HO333 (Kd.R_base ho0) hb; have n6_ := Aside0.mk (Kd.R_lower (Kd.R_new' (Kd.R_new' (Kd.R_new' (Kd.R_new' (Kd.R_new' (Kd.R_new' ho0 (sLt HO_7)) (sLt HO_8)) (sLt HO_9)) (sLt HO_11)) (sLt HO_12)) (sLt HO333)) (sSz HB)); have n7_ := sSt HB hb; clear HO_7; clear HO_8; clear HO_9; clear HO_11; clear HO_12; clear HO333; clear HB; have HO_7 := n0_; have HO_8 := n1_; have HO_9 := n2_; have HO_11 := n3_; have HO_12 := n4_; have HO333 := n5_; have HO337 := n6_; have HB := n7_; clear n0_ n1_ n2_ n3_ n4_ n5_ n6_ n7_; (try clear hb); (try clear hb2); (try clear hk); (try clear hi); (try clear ho0)))
           (try simp only [Act.put, List.setIfInBounds_toArray, List.set_cons_zero, List.set_cons_succ])
           go_cut [116] (fun v116 wc => ∃ (kq : Nat) (x116_62 : Bool), v116 = .bool x116_62 ∧ Aside0 (concordlaw10_VectorGreat.j2 kq t302 t317 t320 t330 t334 x116_62 = some r) ∧ Aside0 (kq ≤ k2) ∧ Aside0 (Kd.R k35 35 wc w.heap.size (fun k_ => some k_ ≠ ((.slice Ao64 t317.length co64) : Value).ownBlock ∧ some k_ ≠ ((.slice Ao65 t320.length co65) : Value).ownBlock ∧ some k_ ≠ (v332 : Value).ownBlock ∧ some k_ ≠ (v336 : Value).ownBlock) (.slice Ao19 t302.length co19) t302) ∧ Aside0 (Kd.R k35 35 wc w.heap.size (fun k_ => some k_ ≠ ((.slice Ao19 t302.length co19) : Value).ownBlock ∧ some k_ ≠ ((.slice Ao65 t320.length co65) : Value).ownBlock ∧ some k_ ≠ (v332 : Value).ownBlock ∧ some k_ ≠ (v336 : Value).ownBlock) (.slice Ao64 t317.length co64) t317) ∧ Aside0 (Kd.R k35 35 wc w.heap.size (fun k_ => some k_ ≠ ((.slice Ao19 t302.length co19) : Value).ownBlock ∧ some k_ ≠ ((.slice Ao64 t317.length co64) : Value).ownBlock ∧ some k_ ≠ (v332 : Value).ownBlock ∧ some k_ ≠ (v336 : Value).ownBlock) (.slice Ao65 t320.length co65) t320) ∧ Aside0 (Kd.R k35 35 wc w.heap.size (fun k_ => some k_ ≠ ((.slice Ao19 t302.length co19) : Value).ownBlock ∧ some k_ ≠ ((.slice Ao64 t317.length co64) : Value).ownBlock ∧ some k_ ≠ ((.slice Ao65 t320.length co65) : Value).ownBlock ∧ some k_ ≠ (v336 : Value).ownBlock) v332 t330) ∧ Aside0 (Kd.R k35 35 wc w.heap.size (fun k_ => some k_ ≠ ((.slice Ao19 t302.length co19) : Value).ownBlock ∧ some k_ ≠ ((.slice Ao64 t317.length co64) : Value).ownBlock ∧ some k_ ≠ ((.slice Ao65 t320.length co65) : Value).ownBlock ∧ some k_ ≠ (v332 : Value).ownBlock) v336 t334) ∧ Aside0 (Below w.heap.size w wc))
           case first =>
            have H := HC63.out
            clear HC63
            by_cases c69 : t331 = 0
            ·rw [if_pos c69] at H
             have c69b0 : (t331 == 0) = true := beq_iff_eq.mpr c69
             have c69b1 : (t331 != 0) = false := bne_eq_false_iff_eq.mpr c69
             clear c69
             (first | rw [c69b0] | (simp only [i64_w, i32_w]; rw [c69b0]) | skip)
             have H' := Aside0.mk H
             clear H
             go_wp2
             go_meet
             case rel => exact ⟨_, ((t335 != 0)), (by first | rfl | (simp; done) | (simp [*]; done)), H', ⟨by have := HJ12.out; have := HK2.out; first | omega | exact Nat.le_refl _⟩, ⟨by (with_reducible repeat (first | apply Kd.R_alloc | apply Kd.R_drewN | apply Kd.R_drew)); exact Kd.R_mono HO_7.out (fun _ hk => ⟨hk.1.1.2.2.1, ⟨hk.1.1.2.2.2, ⟨hk.1.2, hk.2⟩⟩⟩)⟩, ⟨by (with_reducible repeat (first | apply Kd.R_alloc | apply Kd.R_drewN | apply Kd.R_drew)); exact Kd.R_mono HO_11.out (fun _ hk => ⟨hk.1.1.1, ⟨hk.1.1.2.2.2, ⟨hk.1.2, hk.2⟩⟩⟩)⟩, ⟨by (with_reducible repeat (first | apply Kd.R_alloc | apply Kd.R_drewN | apply Kd.R_drew)); exact Kd.R_mono HO_12.out (fun _ hk => ⟨hk.1.1.1, ⟨hk.1.1.2.2.2, ⟨hk.1.2, hk.2⟩⟩⟩)⟩, ⟨by (with_reducible repeat (first | apply Kd.R_alloc | apply Kd.R_drewN | apply Kd.R_drew)); exact Kd.R_mono HO333.out (fun _ hk => ⟨hk.1.1.1.1.1.2, ⟨hk.1.1.2, ⟨hk.1.2, hk.2⟩⟩⟩)⟩, ⟨by (with_reducible repeat (first | apply Kd.R_alloc | apply Kd.R_drewN | apply Kd.R_drew)); exact Kd.R_mono HO337.out (fun _ hk => ⟨hk.1.1.1.1.1.2, ⟨hk.1.1.2, ⟨hk.1.2, hk.2⟩⟩⟩)⟩, ⟨by repeat (first | (with_reducible first | exact HB.out | apply below_alloc | apply pw_below_drewN | apply below_drew1) | exact HB.out)⟩⟩
            ·rw [if_neg c69] at H
             have c69b0 : (t331 == 0) = false := beq_eq_false_iff_ne.mpr c69
             have c69b1 : (t331 != 0) = true := bne_iff_ne.mpr c69
             (first | rw [c69b0] | (simp only [i64_w, i32_w]; rw [c69b0]) | skip)
             have H' := Aside0.mk H
             clear H
             go_wp2
             go_meet
             case rel => exact ⟨_, (true), (by first | rfl | (simp; done) | (simp [*]; done)), H', ⟨by have := HJ12.out; have := HK2.out; first | omega | exact Nat.le_refl _⟩, ⟨by (with_reducible repeat (first | apply Kd.R_alloc | apply Kd.R_drewN | apply Kd.R_drew)); exact Kd.R_mono HO_7.out (fun _ hk => ⟨hk.1.1.2.2.1, ⟨hk.1.1.2.2.2, ⟨hk.1.2, hk.2⟩⟩⟩)⟩, ⟨by (with_reducible repeat (first | apply Kd.R_alloc | apply Kd.R_drewN | apply Kd.R_drew)); exact Kd.R_mono HO_11.out (fun _ hk => ⟨hk.1.1.1, ⟨hk.1.1.2.2.2, ⟨hk.1.2, hk.2⟩⟩⟩)⟩, ⟨by (with_reducible repeat (first | apply Kd.R_alloc | apply Kd.R_drewN | apply Kd.R_drew)); exact Kd.R_mono HO_12.out (fun _ hk => ⟨hk.1.1.1, ⟨hk.1.1.2.2.2, ⟨hk.1.2, hk.2⟩⟩⟩)⟩, ⟨by (with_reducible repeat (first | apply Kd.R_alloc | apply Kd.R_drewN | apply Kd.R_drew)); exact Kd.R_mono HO333.out (fun _ hk => ⟨hk.1.1.1.1.1.2, ⟨hk.1.1.2, ⟨hk.1.2, hk.2⟩⟩⟩)⟩, ⟨by (with_reducible repeat (first | apply Kd.R_alloc | apply Kd.R_drewN | apply Kd.R_drew)); exact Kd.R_mono HO337.out (fun _ hk => ⟨hk.1.1.1.1.1.2, ⟨hk.1.1.2, ⟨hk.1.2, hk.2⟩⟩⟩)⟩, ⟨by repeat (first | (with_reducible first | exact HB.out | apply below_alloc | apply pw_below_drewN | apply below_drew1) | exact HB.out)⟩⟩
           case rest =>
            clear HC63
            try clear c1
            try clear p2
            try clear c3
            try clear p3
            try clear q3
            try clear hx3
            try clear c4
            try clear c6
            try clear p6
            try clear c13
            try clear p32
            try clear q32
            try clear hx32
            try clear c35
            try clear c35b0
            try clear c36
            try clear c41
            try clear c41b0
            try clear c41b1
            try clear c43
            try clear p64
            try clear c69
            try clear c69b0
            try clear c69b1
            try clear hx324_0
            try clear hx324_1
            try clear hx326_0
            try clear hx326_1
            try clear hx328_0
            try clear hx328_1
            try clear p324
            try clear p326
            try clear p328
            try clear q324
            try clear q326
            try clear q328
            obtain ⟨kq, x116_62, rfl, HA, HJ62, HO_7, HO_11, HO_12, HO_16, HO_18, HB⟩ := hcut
            cases kq with
            | zero => exact absurd HA.out (by simp [concordlaw10_VectorGreat.j2])
            | succ kj62 =>
             have H := HA.out
             clear HA
             simp only [concordlaw10_VectorGreat.j2] at H
             by_cases c70 : x116_62 = true
             ·subst c70
              have H1 : (some ((t320.length : Int) == (t317.length : Int))) = some r := by rw [if_pos rfl] at H; exact H
              clear H
              have H := H1
              clear H1
              obtain rfl := Option.some.inj H
              go_wp2
              go_ret
              exact ⟨by first | rfl | (simp [errW_none, errW_some] <;> rfl) | (simp [*, errW_none, errW_some] <;> rfl), by repeat (first | (with_reducible first | exact HB.out | apply below_alloc | apply pw_below_drewN | apply below_drew1) | exact HB.out)⟩
             ·replace c70 := Bool.eq_false_iff.mpr c70
              subst c70
              have H1 : ((vector_Max.f t302 t334).bind fun bt338 => (if (t320.length : Int) = (t317.length : Int) then (if bt338.2 = 0 then ((concordlaw10_same.f kj62 t330 bt338.1).bind fun t342 => (some t342)) else (some false)) else (some false))) = some r := by rw [if_neg (show ¬ (false = true) by decide)] at H; exact H
              clear H
              have H := H1
              clear H1
              replace H := Option.bind_eq_some_iff.mp H
              obtain ⟨⟨t338, t339⟩, A710, H⟩ := H
              replace H : (if (t320.length : Int) = (t317.length : Int) then (if t339 = 0 then ((concordlaw10_same.f kj62 t330 t338).bind fun t342 => (some t342)) else (some false)) else (some false)) = some r := H
              have A71 := Aside0.mk A710
              clear A710
              by_cases c72 : (t320.length : Int) = (t317.length : Int)
              ·rw [if_pos c72] at H
               have c72b0 : ((t320.length : Int) == (t317.length : Int)) = true := beq_iff_eq.mpr c72
               have c72b1 : ((t320.length : Int) != (t317.length : Int)) = false := bne_eq_false_iff_eq.mpr c72
               have c72b2 : (t320.length == t317.length) = true := by first | simpa using c72 | (simp at c72 ⊢; omega)
               clear c72
               by_cases c73 : t339 = 0
               ·rw [if_pos c73] at H
                have c73b0 : (t339 == 0) = true := beq_iff_eq.mpr c73
                have c73b1 : (t339 != 0) = false := bne_eq_false_iff_eq.mpr c73
                clear c73
                replace H := Option.bind_eq_some_iff.mp H
                obtain ⟨t342, A740, H⟩ := H
                replace H : (some t342) = some r := H
                have A74 := Aside0.mk A740
                clear A740
                obtain rfl := Option.some.inj H
                obtain ⟨Ao75, co75, eo75⟩ := Kd.R_slice HO_18.out
                subst eo75
                go_wp2_with (first | ((with_reducible refine gate_callee (f := 13) rfl ?_); refine goesL_ (some 125) rfl rfl Try.func13 (by kernel_rfl) rfl #[.slice Ao19 t302.length co19, .slice Ao75 t334.length co75] rfl (by (try simp only [List.map_toArray, List.map_cons, List.map_nil]); first | done | rfl | (simp only [List.length_drop, List.length_take]; rfl)) ?_; (with_reducible refine (vector_Max.calls _ _ t302 _ _ t334 t338 t339 _ ?side1 ?side2 ?side3 ?side4 A71.out).mono ?_); (case side1 => exact sC HO_7); (case side2 => exact sN HO_7); (case side3 => exact sC HO_18); (case side4 => exact sN HO_18); rintro e w76 ⟨v340, rfl, ho0, hb⟩; refine ⟨_, rfl, ?_⟩; have n0_ := sEl HO_7 (Kd.R_base ho0) hb; have n1_ := sEl HO_11 (Kd.R_base ho0) hb; have n2_ := sEl HO_12 (Kd.R_base ho0) hb; have n3_ := sEl HO_16 (Kd.R_base ho0) hb; have n4_ := sEl HO_18 (Kd.R_base ho0) hb; have n5_ := Aside0.mk (Kd.R_lower (Kd.R_new' (Kd.R_new' (Kd.R_new' (Kd.R_new' (Kd.R_new' ho0 (sLt HO_7)) (sLt HO_11)) (sLt HO_12)) (sLt HO_16)) (sLt HO_18)) (sSz HB)); have n6_ := sSt HB hb; clear HO_7; clear HO_11; clear HO_12; clear HO_16; clear HO_18; clear HB; have HO_7 := n0_; have HO_11 := n1_; have HO_12 := n2_; have HO_16 := n3_; have HO_18 := n4_; have HO341 := n5_; have HB := n6_; clear n0_ n1_ n2_ n3_ n4_ n5_ n6_; (try clear hb); (try clear hb2); (try clear hk); (try clear hi); (try clear ho0); obtain ⟨Ao77, co77, eo77⟩ := Kd.R_slice HO_16.out; subst eo77; obtain ⟨Ao78, co78, eo78⟩ := Kd.R_slice HO341.out; subst eo78) | (go_at_call 40; (with_reducible refine (concordlaw10_same.calls kj62 _ _ t330 _ _ t338 t342 _ ?side1 ?side2 ?side3 ?side4 A74.out).mono ?_); (case side1 => exact sC HO_16); (case side2 => exact sN HO_16); (case side3 => exact sC HO341); (case side4 => exact sN HO341); rintro e w' ⟨rfl, ⟨nd, rfl⟩⟩))
                go_ret
                exact ⟨by first | rfl | (simp [errW_none, errW_some] <;> rfl) | (simp [*, errW_none, errW_some] <;> rfl), by repeat (first | (with_reducible first | exact HB.out | apply below_alloc | apply pw_below_drewN | apply below_drew1) | exact HB.out)⟩
               ·rw [if_neg c73] at H
                have c73b0 : (t339 == 0) = false := beq_eq_false_iff_ne.mpr c73
                have c73b1 : (t339 != 0) = true := bne_iff_ne.mpr c73
                obtain rfl := Option.some.inj H
                obtain ⟨Ao79, co79, eo79⟩ := Kd.R_slice HO_18.out
                subst eo79
                go_wp2_with (first | ((with_reducible refine gate_callee (f := 13) rfl ?_); refine goesL_ (some 125) rfl rfl Try.func13 (by kernel_rfl) rfl #[.slice Ao19 t302.length co19, .slice Ao79 t334.length co79] rfl (by (try simp only [List.map_toArray, List.map_cons, List.map_nil]); first | done | rfl | (simp only [List.length_drop, List.length_take]; rfl)) ?_; (with_reducible refine (vector_Max.calls _ _ t302 _ _ t334 t338 t339 _ ?side1 ?side2 ?side3 ?side4 A71.out).mono ?_); (case side1 => exact sC HO_7); (case side2 => exact sN HO_7); (case side3 => exact sC HO_18); (case side4 => exact sN HO_18); rintro e w80 ⟨v340, rfl, ho0, hb⟩; refine ⟨_, rfl, ?_⟩; have n0_ := sEl HO_7 (Kd.R_base ho0) hb; have n1_ := sEl HO_11 (Kd.R_base ho0) hb; have n2_ := sEl HO_12 (Kd.R_base ho0) hb; have n3_ := sEl HO_16 (Kd.R_base ho0) hb; have n4_ := sEl HO_18 (Kd.R_base ho0) hb; have n5_ := Aside0.mk (Kd.R_lower (Kd.R_new' (Kd.R_new' (Kd.R_new' (Kd.R_new' (Kd.R_new' ho0 (sLt HO_7)) (sLt HO_11)) (sLt HO_12)) (sLt HO_16)) (sLt HO_18)) (sSz HB)); have n6_ := sSt HB hb; clear HO_7; clear HO_11; clear HO_12; clear HO_16; clear HO_18; clear HB; have HO_7 := n0_; have HO_11 := n1_; have HO_12 := n2_; have HO_16 := n3_; have HO_18 := n4_; have HO341 := n5_; have HB := n6_; clear n0_ n1_ n2_ n3_ n4_ n5_ n6_; (try clear hb); (try clear hb2); (try clear hk); (try clear hi); (try clear ho0)))
                go_ret
                exact ⟨by first | rfl | (simp [errW_none, errW_some] <;> rfl) | (simp [*, errW_none, errW_some] <;> rfl), by repeat (first | (with_reducible first | exact HB.out | apply below_alloc | apply pw_below_drewN | apply below_drew1) | exact HB.out)⟩
              ·rw [if_neg c72] at H
               have c72b0 : ((t320.length : Int) == (t317.length : Int)) = false := beq_eq_false_iff_ne.mpr c72
               have c72b1 : ((t320.length : Int) != (t317.length : Int)) = true := bne_iff_ne.mpr c72
               have c72b2 : (t320.length == t317.length) = false := by first | simpa using c72 | (simp at c72 ⊢; omega)
               obtain rfl := Option.some.inj H
               obtain ⟨Ao81, co81, eo81⟩ := Kd.R_slice HO_18.out
               subst eo81
               go_wp2_with (first | ((with_reducible refine gate_callee (f := 13) rfl ?_); refine goesL_ (some 125) rfl rfl Try.func13 (by kernel_rfl) rfl #[.slice Ao19 t302.length co19, .slice Ao81 t334.length co81] rfl (by (try simp only [List.map_toArray, List.map_cons, List.map_nil]); first | done | rfl | (simp only [List.length_drop, List.length_take]; rfl)) ?_; (with_reducible refine (vector_Max.calls _ _ t302 _ _ t334 t338 t339 _ ?side1 ?side2 ?side3 ?side4 A71.out).mono ?_); (case side1 => exact sC HO_7); (case side2 => exact sN HO_7); (case side3 => exact sC HO_18); (case side4 => exact sN HO_18); rintro e w82 ⟨v340, rfl, ho0, hb⟩; refine ⟨_, rfl, ?_⟩; have n0_ := sEl HO_7 (Kd.R_base ho0) hb; have n1_ := sEl HO_11 (Kd.R_base ho0) hb; have n2_ := sEl HO_12 (Kd.R_base ho0) hb; have n3_ := sEl HO_16 (Kd.R_base ho0) hb; have n4_ := sEl HO_18 (Kd.R_base ho0) hb; have n5_ := Aside0.mk (Kd.R_lower (Kd.R_new' (Kd.R_new' (Kd.R_new' (Kd.R_new' (Kd.R_new' ho0 (sLt HO_7)) (sLt HO_11)) (sLt HO_12)) (sLt HO_16)) (sLt HO_18)) (sSz HB)); have n6_ := sSt HB hb; clear HO_7; clear HO_11; clear HO_12; clear HO_16; clear HO_18; clear HB; have HO_7 := n0_; have HO_11 := n1_; have HO_12 := n2_; have HO_16 := n3_; have HO_18 := n4_; have HO341 := n5_; have HB := n6_; clear n0_ n1_ n2_ n3_ n4_ n5_ n6_; (try clear hb); (try clear hb2); (try clear hk); (try clear hi); (try clear ho0)))
               go_ret
               exact ⟨by first | rfl | (simp [errW_none, errW_some] <;> rfl) | (simp [*, errW_none, errW_some] <;> rfl), by repeat (first | (with_reducible first | exact HB.out | apply below_alloc | apply pw_below_drewN | apply below_drew1) | exact HB.out)⟩
       ·rw [if_neg c34] at H
        have c34b0 : (t321 == 0) = false := beq_eq_false_iff_ne.mpr c34
        have c34b1 : (t321 != 0) = true := bne_iff_ne.mpr c34
        obtain rfl := Option.some.inj H
        go_wp2
        go_ret
        exact ⟨by first | rfl | (simp [errW_none, errW_some] <;> rfl) | (simp [*, errW_none, errW_some] <;> rfl), by repeat (first | (with_reducible first | exact HB.out | apply below_alloc | apply pw_below_drewN | apply below_drew1) | exact HB.out)⟩
   ·rw [if_neg c10] at H
    exact absurd H (by simp)
  ·rw [if_neg c9] at H
   exact absurd H (by simp)
 ·replace c5 := Bool.eq_false_iff.mpr c5
  subst c5
  have H1 : (some false) = some r := by rw [if_neg (show ¬ (false = true) by decide)] at H; exact H
  clear H
  have H := H1
  clear H1
  obtain rfl := Option.some.inj H
  go_enter Try.func9, Try.ntmps9
  go_wp2_with (first | ((with_reducible refine gate_callee (f := 38) rfl ?_); refine goesL_ (some 22) rfl rfl Try.func38 (by kernel_rfl) rfl #[] rfl (by (try simp only [List.map_toArray, List.map_cons, List.map_nil]); first | done | rfl | (simp only [List.length_drop, List.length_take]; rfl)) ?_; (with_reducible refine (concordlaw10_works.calls k  false _ A4.out).mono ?_); rintro e w83 ⟨rfl, hb⟩; refine ⟨_, rfl, ?_⟩; have n0_ := sSt HB hb; clear HB; have HB := n0_; clear n0_; (try clear hb); (try clear hb2); (try clear hk); (try clear hi)))
  go_ret
  exact ⟨by first | rfl | (simp [errW_none, errW_some] <;> rfl) | (simp [*, errW_none, errW_some] <;> rfl), by repeat (first | (with_reducible first | exact HB.out | apply below_alloc | apply pw_below_drewN | apply below_drew1) | exact HB.out)⟩

end Go.Proofs.Ytgcmmiihjiiemaa.PF
