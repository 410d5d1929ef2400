-- written by wip/mp.py of this claim's author, over the print of this machine
import Derived.Test.YtgcmmiihjiiemaaSq
import Derived.Test.YtgcmmiihjiiemaaPVectorMaxx0
import Derived.Test.YtgcmmiihjiiemaaPVectorMaxx1
import Derived.Test.YtgcmmiihjiiemaaPVectorMaxx2
import Derived.Test.YtgcmmiihjiiemaaPFy1
import Derived.Test.YtgcmmiihjiiemaaPFy2
namespace Go.Proofs.Ytgcmmiihjiiemaa.PF
open Go.Proofs.Ytgcmmiihjiiemaa.PVectorMax
open Go.Proofs.Ytgcmmiihjiiemaa.My
open Go.RowKit Go.Proofs.YtgcmmiihjiiemaaW.PrintWords Go.Proofs.YtgcmmiihjiiemaaW.PrintLast Go.Proofs.YtgcmmiihjiiemaaW.PrintMore
attribute [local go_sem] max2_int min2_int max_two min_two max_three min_three max_four min_four   -- for this text's walks alone
set_option linter.unusedVariables false
set_option linter.unusedSimpArgs false
attribute [local go_sem high] eqA35
/-! ### concordlaw10_VectorOrder: function 7 -/
mutual
def concordlaw10_VectorOrder.j0 : Nat → List (S35) → List (S35) → List (S35) → List (S35) → Bool → Option (Bool)
 | 0, _, _, _, _, _ => none
 | k + 1, x7, x8, x9, x10, x78 => if x78 = true then (some false) else ((vector_Below.f x7 x9).bind fun t244 => (if t244 = true then ((vector_Below.f x8 x9).bind fun t245 => ((vector_Below.f x10 x9).bind fun t246 => (if (t245 != t246) = true then (concordlaw10_VectorOrder.j1 k x7 x8 x9 x10 true) else ((vector_Below.f x10 x9).bind fun t247 => (if t247 = true then ((vector_Below.f x7 x9).bind fun t248 => (concordlaw10_VectorOrder.j1 k x7 x8 x9 x10 (!t248))) else (concordlaw10_VectorOrder.j1 k x7 x8 x9 x10 false)))))) else ((vector_Below.f x10 x9).bind fun t249 => (if t249 = true then ((vector_Below.f x7 x9).bind fun t250 => (concordlaw10_VectorOrder.j1 k x7 x8 x9 x10 (!t250))) else (concordlaw10_VectorOrder.j1 k x7 x8 x9 x10 false)))))
def concordlaw10_VectorOrder.j1 : Nat → List (S35) → List (S35) → List (S35) → List (S35) → Bool → Option (Bool)
 | 0, _, _, _, _, _ => none
 | k + 1, x7, x8, x9, x10, x101 => if x101 = true then (some false) else ((vector_Below.f x7 x8).bind fun t251 => (if t251 = true then ((vector_Below.f x8 x9).bind fun t252 => (if t252 = true then ((vector_Below.f x7 x9).bind fun t253 => (if t253 = true then ((vector_Below.f x7 x8).bind fun t254 => (if t254 = true then ((vector_Below.f x8 x7).bind fun t255 => ((concordlaw10_same.f k x7 x8).bind fun t256 => (if (t255 != t256) = true then (concordlaw10_VectorOrder.j2 k x7 x8 x9 x10 true) else ((vector_Below.f x7 x8).bind fun t257 => ((concordlaw10_same.f k x10 x8).bind fun t258 => (concordlaw10_VectorOrder.j2 k x7 x8 x9 x10 (t257 != t258))))))) else ((concordlaw10_same.f k x7 x8).bind fun t259 => (if (false != t259) = true then (concordlaw10_VectorOrder.j2 k x7 x8 x9 x10 true) else ((vector_Below.f x7 x8).bind fun t260 => ((concordlaw10_same.f k x10 x8).bind fun t261 => (concordlaw10_VectorOrder.j2 k x7 x8 x9 x10 (t260 != t261)))))))) else (concordlaw10_VectorOrder.j2 k x7 x8 x9 x10 true))) else ((vector_Below.f x7 x8).bind fun t262 => (if t262 = true then ((vector_Below.f x8 x7).bind fun t263 => ((concordlaw10_same.f k x7 x8).bind fun t264 => (if (t263 != t264) = true then (concordlaw10_VectorOrder.j2 k x7 x8 x9 x10 true) else ((vector_Below.f x7 x8).bind fun t265 => ((concordlaw10_same.f k x10 x8).bind fun t266 => (concordlaw10_VectorOrder.j2 k x7 x8 x9 x10 (t265 != t266))))))) else ((concordlaw10_same.f k x7 x8).bind fun t267 => (if (false != t267) = true then (concordlaw10_VectorOrder.j2 k x7 x8 x9 x10 true) else ((vector_Below.f x7 x8).bind fun t268 => ((concordlaw10_same.f k x10 x8).bind fun t269 => (concordlaw10_VectorOrder.j2 k x7 x8 x9 x10 (t268 != t269)))))))))) else ((vector_Below.f x7 x8).bind fun t270 => (if t270 = true then ((vector_Below.f x8 x7).bind fun t271 => ((concordlaw10_same.f k x7 x8).bind fun t272 => (if (t271 != t272) = true then (concordlaw10_VectorOrder.j2 k x7 x8 x9 x10 true) else ((vector_Below.f x7 x8).bind fun t273 => ((concordlaw10_same.f k x10 x8).bind fun t274 => (concordlaw10_VectorOrder.j2 k x7 x8 x9 x10 (t273 != t274))))))) else ((concordlaw10_same.f k x7 x8).bind fun t275 => (if (false != t275) = true then (concordlaw10_VectorOrder.j2 k x7 x8 x9 x10 true) else ((vector_Below.f x7 x8).bind fun t276 => ((concordlaw10_same.f k x10 x8).bind fun t277 => (concordlaw10_VectorOrder.j2 k x7 x8 x9 x10 (t276 != t277))))))))))
def concordlaw10_VectorOrder.j2 : Nat → List (S35) → List (S35) → List (S35) → List (S35) → Bool → Option (Bool)
 | 0, _, _, _, _, _ => none
 | k + 1, x7, x8, x9, x10, x138 => if x138 = true then (some false) else ((vector_Max.f x10 x9).bind fun bt278 => ((vector_Max.f x8 x9).bind fun bt282 => ((vector_Max.f x7 bt282.1).bind fun bt286 => ((vector_Max.f x7 x7).bind fun bt290 => ((vector_Max.f ([] : List (S35)) x7).bind fun bt294 => (if bt286.2 = 0 then (if bt290.2 = 0 then (if bt294.2 = 0 then ((concordlaw10_same.f k bt278.1 bt286.1).bind fun t298 => (if t298 = true then ((concordlaw10_same.f k bt290.1 x7).bind fun t299 => (if t299 = true then ((concordlaw10_same.f k bt294.1 x7).bind fun t300 => (some t300)) else (some false))) else (some false))) else (some false)) else (some false)) else (some false)))))))
end
def concordlaw10_VectorOrder.f (k : Nat) (l0 : List (S35)) (l1 : List (S35)) (l2 : List (S35)) : Option (Bool) := (concordlaw10_works.f k).bind fun t221 => (if t221 = true then ((concordlaw10_made.f k l0 21).bind fun t222 => ((concordlaw10_made.f k l1 21).bind fun t225 => ((concordlaw10_made.f k l2 21).bind fun t228 => ((vector_Max.f t222 t225).bind fun bt231 => ((vector_Max.f t225 t222).bind fun bt235 => (if bt231.2 = 0 then (if bt235.2 = 0 then ((concordlaw10_same.f k bt231.1 bt235.1).bind fun t239 => (if t239 = true then ((vector_Valid.f k bt231.1).bind fun t240 => (if t240 = true then ((vector_Below.f t222 bt231.1).bind fun t241 => (if t241 = true then ((vector_Below.f t225 bt231.1).bind fun t242 => (if t242 = true then ((vector_Below.f t222 t222).bind fun t243 => (concordlaw10_VectorOrder.j0 k t222 t225 t228 bt231.1 (!t243))) else (concordlaw10_VectorOrder.j0 k t222 t225 t228 bt231.1 true))) else (concordlaw10_VectorOrder.j0 k t222 t225 t228 bt231.1 true))) else (concordlaw10_VectorOrder.j0 k t222 t225 t228 bt231.1 true))) else (concordlaw10_VectorOrder.j0 k t222 t225 t228 bt231.1 true))) else (concordlaw10_VectorOrder.j0 k t222 t225 t228 bt231.1 true)) else (concordlaw10_VectorOrder.j0 k t222 t225 t228 bt231.1 true))))))) else (some false))
theorem concordlaw10_VectorOrder.mono_l : ∀ k, (∀ y0 y1 y2 y3 y4, LeO (concordlaw10_VectorOrder.j0 k y0 y1 y2 y3 y4) (concordlaw10_VectorOrder.j0 (k + 1) y0 y1 y2 y3 y4)) ∧ (∀ y0 y1 y2 y3 y4, LeO (concordlaw10_VectorOrder.j1 k y0 y1 y2 y3 y4) (concordlaw10_VectorOrder.j1 (k + 1) y0 y1 y2 y3 y4)) ∧ (∀ y0 y1 y2 y3 y4, LeO (concordlaw10_VectorOrder.j2 k y0 y1 y2 y3 y4) (concordlaw10_VectorOrder.j2 (k + 1) y0 y1 y2 y3 y4))
 | 0 => ⟨fun _ _ _ _ _ r h => by simp [concordlaw10_VectorOrder.j0] at h, fun _ _ _ _ _ r h => by simp [concordlaw10_VectorOrder.j1] at h, fun _ _ _ _ _ r h => by simp [concordlaw10_VectorOrder.j2] at h⟩
 | k + 1 => by
  obtain ⟨ih0, ih1, ih2⟩ := concordlaw10_VectorOrder.mono_l k
  refine ⟨?_, ?_, ?_⟩
  ·intro y0 y1 y2 y3 y4
   unfold concordlaw10_VectorOrder.j0
   repeat' first
   | (with_reducible exact ih0 _ _ _ _ _)
   | (with_reducible exact ih1 _ _ _ _ _)
   | (with_reducible exact ih2 _ _ _ _ _)
   | (with_reducible exact concordlaw10_made.mono _ _ _)
   | (with_reducible exact concordlaw10_same.mono _ _ _)
   | (with_reducible exact concordlaw10_works.mono _)
   | (with_reducible exact vector_Valid.mono _ _)
   | (with_reducible exact LeO.refl _)
   | (with_reducible exact LeO.none _)
   | (with_reducible refine LeO.ite ?_ ?_)
   | (with_reducible refine LeO.bind ?_ (fun _ => ?_))
   | exact ih0 _ _ _ _ _
   | exact ih1 _ _ _ _ _
   | exact ih2 _ _ _ _ _
   | exact concordlaw10_made.mono _ _ _
   | exact concordlaw10_same.mono _ _ _
   | exact concordlaw10_works.mono _
   | exact vector_Valid.mono _ _
   | exact LeO.none _
   | refine LeO.ite ?_ ?_
   | refine LeO.bind ?_ (fun _ => ?_)
  ·intro y0 y1 y2 y3 y4
   unfold concordlaw10_VectorOrder.j1
   repeat' first
   | (with_reducible exact ih0 _ _ _ _ _)
   | (with_reducible exact ih1 _ _ _ _ _)
   | (with_reducible exact ih2 _ _ _ _ _)
   | (with_reducible exact concordlaw10_made.mono _ _ _)
   | (with_reducible exact concordlaw10_same.mono _ _ _)
   | (with_reducible exact concordlaw10_works.mono _)
   | (with_reducible exact vector_Valid.mono _ _)
   | (with_reducible exact LeO.refl _)
   | (with_reducible exact LeO.none _)
   | (with_reducible refine LeO.ite ?_ ?_)
   | (with_reducible refine LeO.bind ?_ (fun _ => ?_))
   | exact ih0 _ _ _ _ _
   | exact ih1 _ _ _ _ _
   | exact ih2 _ _ _ _ _
   | exact concordlaw10_made.mono _ _ _
   | exact concordlaw10_same.mono _ _ _
   | exact concordlaw10_works.mono _
   | exact vector_Valid.mono _ _
   | exact LeO.none _
   | refine LeO.ite ?_ ?_
   | refine LeO.bind ?_ (fun _ => ?_)
  ·intro y0 y1 y2 y3 y4
   unfold concordlaw10_VectorOrder.j2
   repeat' first
   | (with_reducible exact ih0 _ _ _ _ _)
   | (with_reducible exact ih1 _ _ _ _ _)
   | (with_reducible exact ih2 _ _ _ _ _)
   | (with_reducible exact concordlaw10_made.mono _ _ _)
   | (with_reducible exact concordlaw10_same.mono _ _ _)
   | (with_reducible exact concordlaw10_works.mono _)
   | (with_reducible exact vector_Valid.mono _ _)
   | (with_reducible exact LeO.refl _)
   | (with_reducible exact LeO.none _)
   | (with_reducible refine LeO.ite ?_ ?_)
   | (with_reducible refine LeO.bind ?_ (fun _ => ?_))
   | exact ih0 _ _ _ _ _
   | exact ih1 _ _ _ _ _
   | exact ih2 _ _ _ _ _
   | exact concordlaw10_made.mono _ _ _
   | exact concordlaw10_same.mono _ _ _
   | exact concordlaw10_works.mono _
   | exact vector_Valid.mono _ _
   | exact LeO.none _
   | refine LeO.ite ?_ ?_
   | refine LeO.bind ?_ (fun _ => ?_)
theorem concordlaw10_VectorOrder.mono : ∀ a0 a1 a2 k, LeO (concordlaw10_VectorOrder.f k a0 a1 a2) (concordlaw10_VectorOrder.f (k + 1) a0 a1 a2) := by
 intro a0 a1 a2 k
 obtain ⟨ih0, ih1, ih2⟩ := concordlaw10_VectorOrder.mono_l k
 unfold concordlaw10_VectorOrder.f
 repeat' first
   | (with_reducible exact ih0 _ _ _ _ _)
   | (with_reducible exact ih1 _ _ _ _ _)
   | (with_reducible exact ih2 _ _ _ _ _)
   | (with_reducible exact concordlaw10_made.mono _ _ _)
   | (with_reducible exact concordlaw10_same.mono _ _ _)
   | (with_reducible exact concordlaw10_works.mono _)
   | (with_reducible exact vector_Valid.mono _ _)
   | (with_reducible exact LeO.refl _)
   | (with_reducible exact LeO.none _)
   | (with_reducible refine LeO.ite ?_ ?_)
   | (with_reducible refine LeO.bind ?_ (fun _ => ?_))
   | exact ih0 _ _ _ _ _
   | exact ih1 _ _ _ _ _
   | exact ih2 _ _ _ _ _
   | exact concordlaw10_made.mono _ _ _
   | exact concordlaw10_same.mono _ _ _
   | exact concordlaw10_works.mono _
   | exact vector_Valid.mono _ _
   | exact LeO.none _
   | refine LeO.ite ?_ ?_
   | refine LeO.bind ?_ (fun _ => ?_)
set_option maxHeartbeats 8000000 in
set_option maxRecDepth 100000 in
theorem concordlaw10_VectorOrder.calls (k : Nat) (A0 : Option Addr) (c0 : Nat) (l0 : List (S35)) (A1 : Option Addr) (c1 : Nat) (l1 : List (S35)) (A2 : Option Addr) (c2 : Nat) (l2 : List (S35)) (r : Bool) (w : World) (hr0 : Kd.C k35 w A0 l0.length l0) (hc0 : l0.length ≤ c0) (hr1 : Kd.C k35 w A1 l1.length l1) (hc1 : l1.length ≤ c1) (hr2 : Kd.C k35 w A2 l2.length l2) (hc2 : l2.length ≤ c2) (h : concordlaw10_VectorOrder.f k l0 l1 l2 = some r) :
  Calls Try.prog 7 #[.slice A0 l0.length c0, .slice A1 l1.length c1, .slice A2 l2.length c2] w fun e w' => e = .returned (.bool r) ∧ Below w.heap.size w w' := by
 have HR0 := Aside0.mk hr0
 have HC0 := Aside0.mk hc0
 clear hr0 hc0
 have HR1 := Aside0.mk hr1
 have HC1 := Aside0.mk hc1
 clear hr1 hc1
 have HR2 := Aside0.mk hr2
 have HC2 := Aside0.mk hc2
 clear hr2 hc2
 have HB := Aside0.mk (Below.refl w.heap.size w)
 have H : ((concordlaw10_works.f k).bind fun t221 => (if t221 = true then ((concordlaw10_made.f k l0 21).bind fun t222 => ((concordlaw10_made.f k l1 21).bind fun t225 => ((concordlaw10_made.f k l2 21).bind fun t228 => ((vector_Max.f t222 t225).bind fun bt231 => ((vector_Max.f t225 t222).bind fun bt235 => (if bt231.2 = 0 then (if bt235.2 = 0 then ((concordlaw10_same.f k bt231.1 bt235.1).bind fun t239 => (if t239 = true then ((vector_Valid.f k bt231.1).bind fun t240 => (if t240 = true then ((vector_Below.f t222 bt231.1).bind fun t241 => (if t241 = true then ((vector_Below.f t225 bt231.1).bind fun t242 => (if t242 = true then ((vector_Below.f t222 t222).bind fun t243 => (concordlaw10_VectorOrder.j0 k t222 t225 t228 bt231.1 (!t243))) else (concordlaw10_VectorOrder.j0 k t222 t225 t228 bt231.1 true))) else (concordlaw10_VectorOrder.j0 k t222 t225 t228 bt231.1 true))) else (concordlaw10_VectorOrder.j0 k t222 t225 t228 bt231.1 true))) else (concordlaw10_VectorOrder.j0 k t222 t225 t228 bt231.1 true))) else (concordlaw10_VectorOrder.j0 k t222 t225 t228 bt231.1 true)) else (concordlaw10_VectorOrder.j0 k t222 t225 t228 bt231.1 true))))))) else (some false))) = some r := h
 clear h
 replace H := Option.bind_eq_some_iff.mp H
 obtain ⟨t221, A40, H⟩ := H
 replace H : (if t221 = true then ((concordlaw10_made.f k l0 21).bind fun t222 => ((concordlaw10_made.f k l1 21).bind fun t225 => ((concordlaw10_made.f k l2 21).bind fun t228 => ((vector_Max.f t222 t225).bind fun bt231 => ((vector_Max.f t225 t222).bind fun bt235 => (if bt231.2 = 0 then (if bt235.2 = 0 then ((concordlaw10_same.f k bt231.1 bt235.1).bind fun t239 => (if t239 = true then ((vector_Valid.f k bt231.1).bind fun t240 => (if t240 = true then ((vector_Below.f t222 bt231.1).bind fun t241 => (if t241 = true then ((vector_Below.f t225 bt231.1).bind fun t242 => (if t242 = true then ((vector_Below.f t222 t222).bind fun t243 => (concordlaw10_VectorOrder.j0 k t222 t225 t228 bt231.1 (!t243))) else (concordlaw10_VectorOrder.j0 k t222 t225 t228 bt231.1 true))) else (concordlaw10_VectorOrder.j0 k t222 t225 t228 bt231.1 true))) else (concordlaw10_VectorOrder.j0 k t222 t225 t228 bt231.1 true))) else (concordlaw10_VectorOrder.j0 k t222 t225 t228 bt231.1 true))) else (concordlaw10_VectorOrder.j0 k t222 t225 t228 bt231.1 true)) else (concordlaw10_VectorOrder.j0 k t222 t225 t228 bt231.1 true))))))) else (some false)) = some r := H
 have A4 := Aside0.mk A40
 clear A40
 by_cases c5 : t221 = true
 ·subst c5
  have H1 : ((concordlaw10_made.f k l0 21).bind fun t222 => ((concordlaw10_made.f k l1 21).bind fun t225 => ((concordlaw10_made.f k l2 21).bind fun t228 => ((vector_Max.f t222 t225).bind fun bt231 => ((vector_Max.f t225 t222).bind fun bt235 => (if bt231.2 = 0 then (if bt235.2 = 0 then ((concordlaw10_same.f k bt231.1 bt235.1).bind fun t239 => (if t239 = true then ((vector_Valid.f k bt231.1).bind fun t240 => (if t240 = true then ((vector_Below.f t222 bt231.1).bind fun t241 => (if t241 = true then ((vector_Below.f t225 bt231.1).bind fun t242 => (if t242 = true then ((vector_Below.f t222 t222).bind fun t243 => (concordlaw10_VectorOrder.j0 k t222 t225 t228 bt231.1 (!t243))) else (concordlaw10_VectorOrder.j0 k t222 t225 t228 bt231.1 true))) else (concordlaw10_VectorOrder.j0 k t222 t225 t228 bt231.1 true))) else (concordlaw10_VectorOrder.j0 k t222 t225 t228 bt231.1 true))) else (concordlaw10_VectorOrder.j0 k t222 t225 t228 bt231.1 true))) else (concordlaw10_VectorOrder.j0 k t222 t225 t228 bt231.1 true)) else (concordlaw10_VectorOrder.j0 k t222 t225 t228 bt231.1 true))))))) = some r := by rw [if_pos rfl] at H; exact H
  clear H
  have H := H1
  clear H1
  replace H := Option.bind_eq_some_iff.mp H
  obtain ⟨t222, A60, H⟩ := H
  replace H : ((concordlaw10_made.f k l1 21).bind fun t225 => ((concordlaw10_made.f k l2 21).bind fun t228 => ((vector_Max.f t222 t225).bind fun bt231 => ((vector_Max.f t225 t222).bind fun bt235 => (if bt231.2 = 0 then (if bt235.2 = 0 then ((concordlaw10_same.f k bt231.1 bt235.1).bind fun t239 => (if t239 = true then ((vector_Valid.f k bt231.1).bind fun t240 => (if t240 = true then ((vector_Below.f t222 bt231.1).bind fun t241 => (if t241 = true then ((vector_Below.f t225 bt231.1).bind fun t242 => (if t242 = true then ((vector_Below.f t222 t222).bind fun t243 => (concordlaw10_VectorOrder.j0 k t222 t225 t228 bt231.1 (!t243))) else (concordlaw10_VectorOrder.j0 k t222 t225 t228 bt231.1 true))) else (concordlaw10_VectorOrder.j0 k t222 t225 t228 bt231.1 true))) else (concordlaw10_VectorOrder.j0 k t222 t225 t228 bt231.1 true))) else (concordlaw10_VectorOrder.j0 k t222 t225 t228 bt231.1 true))) else (concordlaw10_VectorOrder.j0 k t222 t225 t228 bt231.1 true)) else (concordlaw10_VectorOrder.j0 k t222 t225 t228 bt231.1 true)))))) = some r := H
  have A6 := Aside0.mk A60
  clear A60
  replace H := Option.bind_eq_some_iff.mp H
  obtain ⟨t225, A70, H⟩ := H
  replace H : ((concordlaw10_made.f k l2 21).bind fun t228 => ((vector_Max.f t222 t225).bind fun bt231 => ((vector_Max.f t225 t222).bind fun bt235 => (if bt231.2 = 0 then (if bt235.2 = 0 then ((concordlaw10_same.f k bt231.1 bt235.1).bind fun t239 => (if t239 = true then ((vector_Valid.f k bt231.1).bind fun t240 => (if t240 = true then ((vector_Below.f t222 bt231.1).bind fun t241 => (if t241 = true then ((vector_Below.f t225 bt231.1).bind fun t242 => (if t242 = true then ((vector_Below.f t222 t222).bind fun t243 => (concordlaw10_VectorOrder.j0 k t222 t225 t228 bt231.1 (!t243))) else (concordlaw10_VectorOrder.j0 k t222 t225 t228 bt231.1 true))) else (concordlaw10_VectorOrder.j0 k t222 t225 t228 bt231.1 true))) else (concordlaw10_VectorOrder.j0 k t222 t225 t228 bt231.1 true))) else (concordlaw10_VectorOrder.j0 k t222 t225 t228 bt231.1 true))) else (concordlaw10_VectorOrder.j0 k t222 t225 t228 bt231.1 true)) else (concordlaw10_VectorOrder.j0 k t222 t225 t228 bt231.1 true))))) = some r := H
  have A7 := Aside0.mk A70
  clear A70
  replace H := Option.bind_eq_some_iff.mp H
  obtain ⟨t228, A80, H⟩ := H
  replace H : ((vector_Max.f t222 t225).bind fun bt231 => ((vector_Max.f t225 t222).bind fun bt235 => (if bt231.2 = 0 then (if bt235.2 = 0 then ((concordlaw10_same.f k bt231.1 bt235.1).bind fun t239 => (if t239 = true then ((vector_Valid.f k bt231.1).bind fun t240 => (if t240 = true then ((vector_Below.f t222 bt231.1).bind fun t241 => (if t241 = true then ((vector_Below.f t225 bt231.1).bind fun t242 => (if t242 = true then ((vector_Below.f t222 t222).bind fun t243 => (concordlaw10_VectorOrder.j0 k t222 t225 t228 bt231.1 (!t243))) else (concordlaw10_VectorOrder.j0 k t222 t225 t228 bt231.1 true))) else (concordlaw10_VectorOrder.j0 k t222 t225 t228 bt231.1 true))) else (concordlaw10_VectorOrder.j0 k t222 t225 t228 bt231.1 true))) else (concordlaw10_VectorOrder.j0 k t222 t225 t228 bt231.1 true))) else (concordlaw10_VectorOrder.j0 k t222 t225 t228 bt231.1 true)) else (concordlaw10_VectorOrder.j0 k t222 t225 t228 bt231.1 true)))) = some r := H
  have A8 := Aside0.mk A80
  clear A80
  replace H := Option.bind_eq_some_iff.mp H
  obtain ⟨⟨t231, t232⟩, A90, H⟩ := H
  replace H : ((vector_Max.f t225 t222).bind fun bt235 => (if t232 = 0 then (if bt235.2 = 0 then ((concordlaw10_same.f k t231 bt235.1).bind fun t239 => (if t239 = true then ((vector_Valid.f k t231).bind fun t240 => (if t240 = true then ((vector_Below.f t222 t231).bind fun t241 => (if t241 = true then ((vector_Below.f t225 t231).bind fun t242 => (if t242 = true then ((vector_Below.f t222 t222).bind fun t243 => (concordlaw10_VectorOrder.j0 k t222 t225 t228 t231 (!t243))) else (concordlaw10_VectorOrder.j0 k t222 t225 t228 t231 true))) else (concordlaw10_VectorOrder.j0 k t222 t225 t228 t231 true))) else (concordlaw10_VectorOrder.j0 k t222 t225 t228 t231 true))) else (concordlaw10_VectorOrder.j0 k t222 t225 t228 t231 true))) else (concordlaw10_VectorOrder.j0 k t222 t225 t228 t231 true)) else (concordlaw10_VectorOrder.j0 k t222 t225 t228 t231 true))) = some r := H
  have A9 := Aside0.mk A90
  clear A90
  replace H := Option.bind_eq_some_iff.mp H
  obtain ⟨⟨t235, t236⟩, A100, H⟩ := H
  replace H : (if t232 = 0 then (if t236 = 0 then ((concordlaw10_same.f k t231 t235).bind fun t239 => (if t239 = true then ((vector_Valid.f k t231).bind fun t240 => (if t240 = true then ((vector_Below.f t222 t231).bind fun t241 => (if t241 = true then ((vector_Below.f t225 t231).bind fun t242 => (if t242 = true then ((vector_Below.f t222 t222).bind fun t243 => (concordlaw10_VectorOrder.j0 k t222 t225 t228 t231 (!t243))) else (concordlaw10_VectorOrder.j0 k t222 t225 t228 t231 true))) else (concordlaw10_VectorOrder.j0 k t222 t225 t228 t231 true))) else (concordlaw10_VectorOrder.j0 k t222 t225 t228 t231 true))) else (concordlaw10_VectorOrder.j0 k t222 t225 t228 t231 true))) else (concordlaw10_VectorOrder.j0 k t222 t225 t228 t231 true)) else (concordlaw10_VectorOrder.j0 k t222 t225 t228 t231 true)) = some r := H
  have A10 := Aside0.mk A100
  clear A100
  have HC11 := Aside0.mk H
  clear H
  go_enter Try.func7, Try.ntmps7
  go_upto_region 8 with (first | ((with_reducible refine gate_callee (f := 38) rfl ?_); refine goesL_ (some 24) rfl rfl Try.func38 (by kernel_rfl) rfl #[] rfl (by (try simp only [List.map_toArray, List.map_cons, List.map_nil]); first | done | rfl | (simp only [List.length_drop, List.length_take]; rfl)) ?_; (with_reducible refine (concordlaw10_works.calls k  true _ A4.out).mono ?_); rintro e w12 ⟨rfl, hb⟩; refine ⟨_, rfl, ?_⟩; have n0_ := sSt HB hb; clear HB; have HB := n0_; clear n0_; (try clear hb); (try clear hb2); (try clear hk); (try clear hi)) | ((with_reducible refine gate_callee (f := 39) rfl ?_); refine goesL_ (some 27) rfl rfl Try.func39 (by kernel_rfl) rfl #[.slice A0 l0.length c0, .int .i64 21] rfl (by (try simp only [List.map_toArray, List.map_cons, List.map_nil]); first | done | rfl | (simp only [List.length_drop, List.length_take]; rfl)) ?_; (with_reducible refine (concordlaw10_made.calls k _ _ l0 21 t222 _ ?side1 ?side2 A6.out).mono ?_); (case side1 => repeat (first | exact (Kd.C_below HR0.out HB.out) | (with_reducible refine Kd.C_alloc ?_ _) | (with_reducible refine Kd.C_drewN ?_ _) | (with_reducible refine Kd.C_drew ?_))); (case side2 => exact HC0.out); rintro e w13 ⟨v223, rfl, ho0, hb⟩; refine ⟨_, rfl, ?_⟩; have n0_ := Aside0.mk (Kd.R_lower ho0 (sSz HB)); have n1_ := sSt HB hb; clear HB; have HO224 := n0_; have HB := n1_; clear n0_ n1_; (try clear hb); (try clear hb2); (try clear hk); (try clear hi); (try clear ho0)) | ((with_reducible refine gate_callee (f := 39) rfl ?_); refine goesL_ (some 29) rfl rfl Try.func39 (by kernel_rfl) rfl #[.slice A1 l1.length c1, .int .i64 21] rfl (by (try simp only [List.map_toArray, List.map_cons, List.map_nil]); first | done | rfl | (simp only [List.length_drop, List.length_take]; rfl)) ?_; (with_reducible refine (concordlaw10_made.calls k _ _ l1 21 t225 _ ?side1 ?side2 A7.out).mono ?_); (case side1 => repeat (first | exact (Kd.C_below HR1.out HB.out) | (with_reducible refine Kd.C_alloc ?_ _) | (with_reducible refine Kd.C_drewN ?_ _) | (with_reducible refine Kd.C_drew ?_))); (case side2 => exact HC1.out); rintro e w14 ⟨v226, rfl, ho0, hb⟩; refine ⟨_, rfl, ?_⟩; have n0_ := sEl HO224 (Kd.R_base ho0) hb; have n1_ := Aside0.mk (Kd.R_lower (Kd.R_new' ho0 (sLt HO224)) (sSz HB)); have n2_ := sSt HB hb; clear HO224; clear HB; have HO224 := n0_; have HO227 := n1_; have HB := n2_; clear n0_ n1_ n2_; (try clear hb); (try clear hb2); (try clear hk); (try clear hi); (try clear ho0)) | ((with_reducible refine gate_callee (f := 39) rfl ?_); refine goesL_ (some 31) rfl rfl Try.func39 (by kernel_rfl) rfl #[.slice A2 l2.length c2, .int .i64 21] rfl (by (try simp only [List.map_toArray, List.map_cons, List.map_nil]); first | done | rfl | (simp only [List.length_drop, List.length_take]; rfl)) ?_; (with_reducible refine (concordlaw10_made.calls k _ _ l2 21 t228 _ ?side1 ?side2 A8.out).mono ?_); (case side1 => repeat (first | exact (Kd.C_below HR2.out HB.out) | (with_reducible refine Kd.C_alloc ?_ _) | (with_reducible refine Kd.C_drewN ?_ _) | (with_reducible refine Kd.C_drew ?_))); (case side2 => exact HC2.out); rintro e w15 ⟨v229, rfl, ho0, hb⟩; refine ⟨_, rfl, ?_⟩; have n0_ := sEl HO224 (Kd.R_base ho0) hb; have n1_ := sEl HO227 (Kd.R_base ho0) hb; have n2_ := Aside0.mk (Kd.R_lower (Kd.R_new' (Kd.R_new' ho0 (sLt HO224)) (sLt HO227)) (sSz HB)); have n3_ := sSt HB hb; clear HO224; clear HO227; clear HB; have HO224 := n0_; have HO227 := n1_; have HO230 := n2_; have HB := n3_; clear n0_ n1_ n2_ n3_; (try clear hb); (try clear hb2); (try clear hk); (try clear hi); (try clear ho0); obtain ⟨Ao16, co16, eo16⟩ := Kd.R_slice HO224.out; subst eo16; obtain ⟨Ao17, co17, eo17⟩ := Kd.R_slice HO227.out; subst eo17) | ((with_reducible refine gate_callee (f := 13) rfl ?_); refine goesL_ (some 35) rfl rfl Try.func13 (by kernel_rfl) rfl #[.slice Ao16 t222.length co16, .slice Ao17 t225.length co17] rfl (by (try simp only [List.map_toArray, List.map_cons, List.map_nil]); first | done | rfl | (simp only [List.length_drop, List.length_take]; rfl)) ?_; (with_reducible refine (vector_Max.calls _ _ t222 _ _ t225 t231 t232 _ ?side1 ?side2 ?side3 ?side4 A9.out).mono ?_); (case side1 => exact sC HO224); (case side2 => exact sN HO224); (case side3 => exact sC HO227); (case side4 => exact sN HO227); rintro e w18 ⟨v233, rfl, ho0, hb⟩; refine ⟨_, rfl, ?_⟩; have n0_ := sEl HO224 (Kd.R_base ho0) hb; have n1_ := sEl HO227 (Kd.R_base ho0) hb; have n2_ := sEl HO230 (Kd.R_base ho0) hb; have n3_ := Aside0.mk (Kd.R_lower (Kd.R_new' (Kd.R_new' (Kd.R_new' ho0 (sLt HO224)) (sLt HO227)) (sLt HO230)) (sSz HB)); have n4_ := sSt HB hb; clear HO224; clear HO227; clear HO230; clear HB; have HO224 := n0_; have HO227 := n1_; have HO230 := n2_; have HO234 := n3_; have HB := n4_; clear n0_ n1_ n2_ n3_ n4_; (try clear hb); (try clear hb2); (try clear hk); (try clear hi); (try clear ho0)) | ((with_reducible refine gate_callee (f := 13) rfl ?_); refine goesL_ (some 41) rfl rfl Try.func13 (by kernel_rfl) rfl #[.slice Ao17 t225.length co17, .slice Ao16 t222.length co16] rfl (by (try simp only [List.map_toArray, List.map_cons, List.map_nil]); first | done | rfl | (simp only [List.length_drop, List.length_take]; rfl)) ?_; (with_reducible refine (vector_Max.calls _ _ t225 _ _ t222 t235 t236 _ ?side1 ?side2 ?side3 ?side4 A10.out).mono ?_); (case side1 => exact sC HO227); (case side2 => exact sN HO227); (case side3 => exact sC HO224); (case side4 => exact sN HO224); rintro e w19 ⟨v237, rfl, ho0, hb⟩; refine ⟨_, rfl, ?_⟩; have n0_ := sEl HO224 (Kd.R_base ho0) hb; have n1_ := sEl HO227 (Kd.R_base ho0) hb; have n2_ := sEl HO230 (Kd.R_base ho0) hb; have n3_ := sEl HO234 (Kd.R_base ho0) hb; have n4_ := Aside0.mk (Kd.R_lower (Kd.R_new' (Kd.R_new' (Kd.R_new' (Kd.R_new' ho0 (sLt HO224)) (sLt HO227)) (sLt HO230)) (sLt HO234)) (sSz HB)); have n5_ := sSt HB hb; clear HO224; clear HO227; clear HO230; clear HO234; clear HB; have HO224 := n0_; have HO227 := n1_; have HO230 := n2_; have HO234 := n3_; have HO238 := n4_; have HB := n5_; clear n0_ n1_ n2_ n3_ n4_ n5_; (try clear hb); (try clear hb2); (try clear hk); (try clear hi); (try clear ho0)))
  (try simp only [Act.put, List.setIfInBounds_toArray, List.set_cons_zero, List.set_cons_succ])
  go_cut [78] (fun v78 wc => ∃ (kq : Nat) (x78_10 : Bool), v78 = .bool x78_10 ∧ Aside0 (concordlaw10_VectorOrder.j0 kq t222 t225 t228 t231 x78_10 = some r) ∧ Aside0 (kq ≤ k) ∧ Aside0 (Kd.R k35 35 wc w.heap.size (fun k_ => some k_ ≠ ((.slice Ao17 t225.length co17) : Value).ownBlock ∧ some k_ ≠ (v229 : Value).ownBlock ∧ some k_ ≠ (v233 : Value).ownBlock) (.slice Ao16 t222.length co16) t222) ∧ Aside0 (Kd.R k35 35 wc w.heap.size (fun k_ => some k_ ≠ ((.slice Ao16 t222.length co16) : Value).ownBlock ∧ some k_ ≠ (v229 : Value).ownBlock ∧ some k_ ≠ (v233 : Value).ownBlock) (.slice Ao17 t225.length co17) t225) ∧ Aside0 (Kd.R k35 35 wc w.heap.size (fun k_ => some k_ ≠ ((.slice Ao16 t222.length co16) : Value).ownBlock ∧ some k_ ≠ ((.slice Ao17 t225.length co17) : Value).ownBlock ∧ some k_ ≠ (v233 : Value).ownBlock) v229 t228) ∧ Aside0 (Kd.R k35 35 wc w.heap.size (fun k_ => some k_ ≠ ((.slice Ao16 t222.length co16) : Value).ownBlock ∧ some k_ ≠ ((.slice Ao17 t225.length co17) : Value).ownBlock ∧ some k_ ≠ (v229 : Value).ownBlock) v233 t231) ∧ Aside0 (Below w.heap.size w wc))
  case first =>
   have H := HC11.out
   clear HC11
   by_cases c20 : t232 = 0
   ·rw [if_pos c20] at H
    have c20b0 : (t232 == 0) = true := beq_iff_eq.mpr c20
    have c20b1 : (t232 != 0) = false := bne_eq_false_iff_eq.mpr c20
    clear c20
    (first | rw [c20b0] | (simp only [i64_w, i32_w]; rw [c20b0]) | skip)
    by_cases c21 : t236 = 0
    ·rw [if_pos c21] at H
     have c21b0 : (t236 == 0) = true := beq_iff_eq.mpr c21
     have c21b1 : (t236 != 0) = false := bne_eq_false_iff_eq.mpr c21
     clear c21
     replace H := Option.bind_eq_some_iff.mp H
     obtain ⟨t239, A220, H⟩ := H
     replace H : (if t239 = true then ((vector_Valid.f k t231).bind fun t240 => (if t240 = true then ((vector_Below.f t222 t231).bind fun t241 => (if t241 = true then ((vector_Below.f t225 t231).bind fun t242 => (if t242 = true then ((vector_Below.f t222 t222).bind fun t243 => (concordlaw10_VectorOrder.j0 k t222 t225 t228 t231 (!t243))) else (concordlaw10_VectorOrder.j0 k t222 t225 t228 t231 true))) else (concordlaw10_VectorOrder.j0 k t222 t225 t228 t231 true))) else (concordlaw10_VectorOrder.j0 k t222 t225 t228 t231 true))) else (concordlaw10_VectorOrder.j0 k t222 t225 t228 t231 true)) = some r := H
     have A22 := Aside0.mk A220
     clear A220
     by_cases c23 : t239 = true
     ·subst c23
      have H1 : ((vector_Valid.f k t231).bind fun t240 => (if t240 = true then ((vector_Below.f t222 t231).bind fun t241 => (if t241 = true then ((vector_Below.f t225 t231).bind fun t242 => (if t242 = true then ((vector_Below.f t222 t222).bind fun t243 => (concordlaw10_VectorOrder.j0 k t222 t225 t228 t231 (!t243))) else (concordlaw10_VectorOrder.j0 k t222 t225 t228 t231 true))) else (concordlaw10_VectorOrder.j0 k t222 t225 t228 t231 true))) else (concordlaw10_VectorOrder.j0 k t222 t225 t228 t231 true))) = some r := by rw [if_pos rfl] at H; exact H
      clear H
      have H := H1
      clear H1
      replace H := Option.bind_eq_some_iff.mp H
      obtain ⟨t240, A240, H⟩ := H
      replace H : (if t240 = true then ((vector_Below.f t222 t231).bind fun t241 => (if t241 = true then ((vector_Below.f t225 t231).bind fun t242 => (if t242 = true then ((vector_Below.f t222 t222).bind fun t243 => (concordlaw10_VectorOrder.j0 k t222 t225 t228 t231 (!t243))) else (concordlaw10_VectorOrder.j0 k t222 t225 t228 t231 true))) else (concordlaw10_VectorOrder.j0 k t222 t225 t228 t231 true))) else (concordlaw10_VectorOrder.j0 k t222 t225 t228 t231 true)) = some r := H
      have A24 := Aside0.mk A240
      clear A240
      by_cases c25 : t240 = true
      ·subst c25
       have H1 : ((vector_Below.f t222 t231).bind fun t241 => (if t241 = true then ((vector_Below.f t225 t231).bind fun t242 => (if t242 = true then ((vector_Below.f t222 t222).bind fun t243 => (concordlaw10_VectorOrder.j0 k t222 t225 t228 t231 (!t243))) else (concordlaw10_VectorOrder.j0 k t222 t225 t228 t231 true))) else (concordlaw10_VectorOrder.j0 k t222 t225 t228 t231 true))) = some r := by rw [if_pos rfl] at H; exact H
       clear H
       have H := H1
       clear H1
       replace H := Option.bind_eq_some_iff.mp H
       obtain ⟨t241, A260, H⟩ := H
       replace H : (if t241 = true then ((vector_Below.f t225 t231).bind fun t242 => (if t242 = true then ((vector_Below.f t222 t222).bind fun t243 => (concordlaw10_VectorOrder.j0 k t222 t225 t228 t231 (!t243))) else (concordlaw10_VectorOrder.j0 k t222 t225 t228 t231 true))) else (concordlaw10_VectorOrder.j0 k t222 t225 t228 t231 true)) = some r := H
       have A26 := Aside0.mk A260
       clear A260
       by_cases c27 : t241 = true
       ·subst c27
        have H1 : ((vector_Below.f t225 t231).bind fun t242 => (if t242 = true then ((vector_Below.f t222 t222).bind fun t243 => (concordlaw10_VectorOrder.j0 k t222 t225 t228 t231 (!t243))) else (concordlaw10_VectorOrder.j0 k t222 t225 t228 t231 true))) = some r := by rw [if_pos rfl] at H; exact H
        clear H
        have H := H1
        clear H1
        replace H := Option.bind_eq_some_iff.mp H
        obtain ⟨t242, A280, H⟩ := H
        replace H : (if t242 = true then ((vector_Below.f t222 t222).bind fun t243 => (concordlaw10_VectorOrder.j0 k t222 t225 t228 t231 (!t243))) else (concordlaw10_VectorOrder.j0 k t222 t225 t228 t231 true)) = some r := H
        have A28 := Aside0.mk A280
        clear A280
        by_cases c29 : t242 = true
        ·subst c29
         have H1 : ((vector_Below.f t222 t222).bind fun t243 => (concordlaw10_VectorOrder.j0 k t222 t225 t228 t231 (!t243))) = some r := by rw [if_pos rfl] at H; exact H
         clear H
         have H := H1
         clear H1
         replace H := Option.bind_eq_some_iff.mp H
         obtain ⟨t243, A300, H⟩ := H
         replace H : (concordlaw10_VectorOrder.j0 k t222 t225 t228 t231 (!t243)) = some r := H
         have A30 := Aside0.mk A300
         clear A300
         have H' := Aside0.mk H
         clear H
         obtain ⟨Ao31, co31, eo31⟩ := Kd.R_slice HO234.out
         subst eo31
         obtain ⟨Ao32, co32, eo32⟩ := Kd.R_slice HO238.out
         subst eo32
         as_aux_lemma =>
          go_wp2_with (first | (go_at_call 40; (with_reducible refine (concordlaw10_same.calls k _ _ t231 _ _ t235 true _ ?side1 ?side2 ?side3 ?side4 A22.out).mono ?_); (case side1 => exact sC HO234); (case side2 => exact sN HO234); (case side3 => exact sC HO238); (case side4 => exact sN HO238); rintro e w' ⟨rfl, ⟨nd, rfl⟩⟩) | (go_at_call 41; (with_reducible refine (vector_Valid.calls k _ _ t231 true _ ?side1 ?side2 A24.out).mono ?_); (case side1 => exact sC HO234); (case side2 => exact sN HO234); rintro e w33 ⟨rfl, hb⟩; have n0_ := sBe HO224 hb; have n1_ := sBe HO227 hb; have n2_ := sBe HO230 hb; have n3_ := sBe HO234 hb; have n4_ := sBe HO238 hb; have n5_ := sSt HB hb; clear HO224; clear HO227; clear HO230; clear HO234; clear HO238; clear HB; have HO224 := n0_; have HO227 := n1_; have HO230 := n2_; have HO234 := n3_; have HO238 := n4_; have HB := n5_; clear n0_ n1_ n2_ n3_ n4_ n5_; (try clear hb); (try clear hb2); (try clear hk); (try clear hi)) | (go_at_call 42; (with_reducible refine (vector_Below.calls _ _ t222 _ _ t231 _ _ ?side1 ?side2 ?side3 ?side4 A26.out).mono ?_); (case side1 => exact sC HO224); (case side2 => exact sN HO224); (case side3 => exact sC HO234); (case side4 => exact sN HO234); rintro e w34 ⟨rfl, hb⟩; have n0_ := sBe HO224 hb; have n1_ := sBe HO227 hb; have n2_ := sBe HO230 hb; have n3_ := sBe HO234 hb; have n4_ := sBe HO238 hb; have n5_ := sSt HB hb; clear HO224; clear HO227; clear HO230; clear HO234; clear HO238; clear HB; have HO224 := n0_; have HO227 := n1_; have HO230 := n2_; have HO234 := n3_; have HO238 := n4_; have HB := n5_; clear n0_ n1_ n2_ n3_ n4_ n5_; (try clear hb); (try clear hb2); (try clear hk); (try clear hi)) | (go_at_call 42; (with_reducible refine (vector_Below.calls _ _ t225 _ _ t231 _ _ ?side1 ?side2 ?side3 ?side4 A28.out).mono ?_); (case side1 => exact sC HO227); (case side2 => exact sN HO227); (case side3 => exact sC HO234); (case side4 => exact sN HO234); rintro e w35 ⟨rfl, hb⟩; have n0_ := sBe HO224 hb; have n1_ := sBe HO227 hb; have n2_ := sBe HO230 hb; have n3_ := sBe HO234 hb; have n4_ := sBe HO238 hb; have n5_ := sSt HB hb; clear HO224; clear HO227; clear HO230; clear HO234; clear HO238; clear HB; have HO224 := n0_; have HO227 := n1_; have HO230 := n2_; have HO234 := n3_; have HO238 := n4_; have HB := n5_; clear n0_ n1_ n2_ n3_ n4_ n5_; (try clear hb); (try clear hb2); (try clear hk); (try clear hi)) | (go_at_call 42; (with_reducible refine (vector_Below.calls _ _ t222 _ _ t222 _ _ ?side1 ?side2 ?side3 ?side4 A30.out).mono ?_); (case side1 => exact sC HO224); (case side2 => exact sN HO224); (case side3 => exact sC HO224); (case side4 => exact sN HO224); rintro e w36 ⟨rfl, hb⟩; have n0_ := sBe HO224 hb; have n1_ := sBe HO227 hb; have n2_ := sBe HO230 hb; have n3_ := sBe HO234 hb; have n4_ := sBe HO238 hb; have n5_ := sSt HB hb; clear HO224; clear HO227; clear HO230; clear HO234; clear HO238; clear HB; have HO224 := n0_; have HO227 := n1_; have HO230 := n2_; have HO234 := n3_; have HO238 := n4_; have HB := n5_; clear n0_ n1_ n2_ n3_ n4_ n5_; (try clear hb); (try clear hb2); (try clear hk); (try clear hi)))
          go_meet
          case rel => exact ⟨_, (!t243), (by first | rfl | (simp; done) | (simp [*]; done)), H', ⟨by first | omega | exact Nat.le_refl _⟩, ⟨by (with_reducible repeat (first | apply Kd.R_alloc | apply Kd.R_drewN | apply Kd.R_drew)); exact Kd.R_mono HO224.out (fun _ hk => ⟨hk.1.1.1.2, ⟨hk.1.1.2, hk.1.2⟩⟩)⟩, ⟨by (with_reducible repeat (first | apply Kd.R_alloc | apply Kd.R_drewN | apply Kd.R_drew)); exact Kd.R_mono HO227.out (fun _ hk => ⟨hk.1.1.1.2, ⟨hk.1.1.2, hk.1.2⟩⟩)⟩, ⟨by (with_reducible repeat (first | apply Kd.R_alloc | apply Kd.R_drewN | apply Kd.R_drew)); exact Kd.R_mono HO230.out (fun _ hk => ⟨hk.1.1.1.2, ⟨hk.1.1.2, hk.1.2⟩⟩)⟩, ⟨by (with_reducible repeat (first | apply Kd.R_alloc | apply Kd.R_drewN | apply Kd.R_drew)); exact Kd.R_mono HO234.out (fun _ hk => ⟨hk.1.1.1.2, ⟨hk.1.1.2, hk.1.2⟩⟩)⟩, ⟨by repeat (first | (with_reducible first | exact HB.out | apply below_alloc | apply pw_below_drewN | apply below_drew1) | exact HB.out)⟩⟩
        ·replace c29 := Bool.eq_false_iff.mpr c29
         subst c29
         have H1 : (concordlaw10_VectorOrder.j0 k t222 t225 t228 t231 true) = some r := by rw [if_neg (show ¬ (false = true) by decide)] at H; exact H
         clear H
         have H := H1
         clear H1
         have H' := Aside0.mk H
         clear H
         obtain ⟨Ao37, co37, eo37⟩ := Kd.R_slice HO234.out
         subst eo37
         obtain ⟨Ao38, co38, eo38⟩ := Kd.R_slice HO238.out
         subst eo38
         as_aux_lemma =>
          go_wp2_with (first | (go_at_call 40; (with_reducible refine (concordlaw10_same.calls k _ _ t231 _ _ t235 true _ ?side1 ?side2 ?side3 ?side4 A22.out).mono ?_); (case side1 => exact sC HO234); (case side2 => exact sN HO234); (case side3 => exact sC HO238); (case side4 => exact sN HO238); rintro e w' ⟨rfl, ⟨nd, rfl⟩⟩) | (go_at_call 41; (with_reducible refine (vector_Valid.calls k _ _ t231 true _ ?side1 ?side2 A24.out).mono ?_); (case side1 => exact sC HO234); (case side2 => exact sN HO234); rintro e w39 ⟨rfl, hb⟩; have n0_ := sBe HO224 hb; have n1_ := sBe HO227 hb; have n2_ := sBe HO230 hb; have n3_ := sBe HO234 hb; have n4_ := sBe HO238 hb; have n5_ := sSt HB hb; clear HO224; clear HO227; clear HO230; clear HO234; clear HO238; clear HB; have HO224 := n0_; have HO227 := n1_; have HO230 := n2_; have HO234 := n3_; have HO238 := n4_; have HB := n5_; clear n0_ n1_ n2_ n3_ n4_ n5_; (try clear hb); (try clear hb2); (try clear hk); (try clear hi)) | (go_at_call 42; (with_reducible refine (vector_Below.calls _ _ t222 _ _ t231 _ _ ?side1 ?side2 ?side3 ?side4 A26.out).mono ?_); (case side1 => exact sC HO224); (case side2 => exact sN HO224); (case side3 => exact sC HO234); (case side4 => exact sN HO234); rintro e w40 ⟨rfl, hb⟩; have n0_ := sBe HO224 hb; have n1_ := sBe HO227 hb; have n2_ := sBe HO230 hb; have n3_ := sBe HO234 hb; have n4_ := sBe HO238 hb; have n5_ := sSt HB hb; clear HO224; clear HO227; clear HO230; clear HO234; clear HO238; clear HB; have HO224 := n0_; have HO227 := n1_; have HO230 := n2_; have HO234 := n3_; have HO238 := n4_; have HB := n5_; clear n0_ n1_ n2_ n3_ n4_ n5_; (try clear hb); (try clear hb2); (try clear hk); (try clear hi)) | (go_at_call 42; (with_reducible refine (vector_Below.calls _ _ t225 _ _ t231 _ _ ?side1 ?side2 ?side3 ?side4 A28.out).mono ?_); (case side1 => exact sC HO227); (case side2 => exact sN HO227); (case side3 => exact sC HO234); (case side4 => exact sN HO234); rintro e w41 ⟨rfl, hb⟩; have n0_ := sBe HO224 hb; have n1_ := sBe HO227 hb; have n2_ := sBe HO230 hb; have n3_ := sBe HO234 hb; have n4_ := sBe HO238 hb; have n5_ := sSt HB hb; clear HO224; clear HO227; clear HO230; clear HO234; clear HO238; clear HB; have HO224 := n0_; have HO227 := n1_; have HO230 := n2_; have HO234 := n3_; have HO238 := n4_; have HB := n5_; clear n0_ n1_ n2_ n3_ n4_ n5_; (try clear hb); (try clear hb2); (try clear hk); (try clear hi)))
          go_meet
          case rel => exact ⟨_, (true), (by first | rfl | (simp; done) | (simp [*]; done)), H', ⟨by first | omega | exact Nat.le_refl _⟩, ⟨by (with_reducible repeat (first | apply Kd.R_alloc | apply Kd.R_drewN | apply Kd.R_drew)); exact Kd.R_mono HO224.out (fun _ hk => ⟨hk.1.1.1.2, ⟨hk.1.1.2, hk.1.2⟩⟩)⟩, ⟨by (with_reducible repeat (first | apply Kd.R_alloc | apply Kd.R_drewN | apply Kd.R_drew)); exact Kd.R_mono HO227.out (fun _ hk => ⟨hk.1.1.1.2, ⟨hk.1.1.2, hk.1.2⟩⟩)⟩, ⟨by (with_reducible repeat (first | apply Kd.R_alloc | apply Kd.R_drewN | apply Kd.R_drew)); exact Kd.R_mono HO230.out (fun _ hk => ⟨hk.1.1.1.2, ⟨hk.1.1.2, hk.1.2⟩⟩)⟩, ⟨by (with_reducible repeat (first | apply Kd.R_alloc | apply Kd.R_drewN | apply Kd.R_drew)); exact Kd.R_mono HO234.out (fun _ hk => ⟨hk.1.1.1.2, ⟨hk.1.1.2, hk.1.2⟩⟩)⟩, ⟨by repeat (first | (with_reducible first | exact HB.out | apply below_alloc | apply pw_below_drewN | apply below_drew1) | exact HB.out)⟩⟩
       ·replace c27 := Bool.eq_false_iff.mpr c27
        subst c27
        have H1 : (concordlaw10_VectorOrder.j0 k t222 t225 t228 t231 true) = some r := by rw [if_neg (show ¬ (false = true) by decide)] at H; exact H
        clear H
        have H := H1
        clear H1
        have H' := Aside0.mk H
        clear H
        obtain ⟨Ao42, co42, eo42⟩ := Kd.R_slice HO234.out
        subst eo42
        obtain ⟨Ao43, co43, eo43⟩ := Kd.R_slice HO238.out
        subst eo43
        as_aux_lemma =>
         go_wp2_with (first | (go_at_call 40; (with_reducible refine (concordlaw10_same.calls k _ _ t231 _ _ t235 true _ ?side1 ?side2 ?side3 ?side4 A22.out).mono ?_); (case side1 => exact sC HO234); (case side2 => exact sN HO234); (case side3 => exact sC HO238); (case side4 => exact sN HO238); rintro e w' ⟨rfl, ⟨nd, rfl⟩⟩) | (go_at_call 41; (with_reducible refine (vector_Valid.calls k _ _ t231 true _ ?side1 ?side2 A24.out).mono ?_); (case side1 => exact sC HO234); (case side2 => exact sN HO234); rintro e w44 ⟨rfl, hb⟩; have n0_ := sBe HO224 hb; have n1_ := sBe HO227 hb; have n2_ := sBe HO230 hb; have n3_ := sBe HO234 hb; have n4_ := sBe HO238 hb; have n5_ := sSt HB hb; clear HO224; clear HO227; clear HO230; clear HO234; clear HO238; clear HB; have HO224 := n0_; have HO227 := n1_; have HO230 := n2_; have HO234 := n3_; have HO238 := n4_; have HB := n5_; clear n0_ n1_ n2_ n3_ n4_ n5_; (try clear hb); (try clear hb2); (try clear hk); (try clear hi)) | (go_at_call 42; (with_reducible refine (vector_Below.calls _ _ t222 _ _ t231 _ _ ?side1 ?side2 ?side3 ?side4 A26.out).mono ?_); (case side1 => exact sC HO224); (case side2 => exact sN HO224); (case side3 => exact sC HO234); (case side4 => exact sN HO234); rintro e w45 ⟨rfl, hb⟩; have n0_ := sBe HO224 hb; have n1_ := sBe HO227 hb; have n2_ := sBe HO230 hb; have n3_ := sBe HO234 hb; have n4_ := sBe HO238 hb; have n5_ := sSt HB hb; clear HO224; clear HO227; clear HO230; clear HO234; clear HO238; clear HB; have HO224 := n0_; have HO227 := n1_; have HO230 := n2_; have HO234 := n3_; have HO238 := n4_; have HB := n5_; clear n0_ n1_ n2_ n3_ n4_ n5_; (try clear hb); (try clear hb2); (try clear hk); (try clear hi)))
         go_meet
         case rel => exact ⟨_, (true), (by first | rfl | (simp; done) | (simp [*]; done)), H', ⟨by first | omega | exact Nat.le_refl _⟩, ⟨by (with_reducible repeat (first | apply Kd.R_alloc | apply Kd.R_drewN | apply Kd.R_drew)); exact Kd.R_mono HO224.out (fun _ hk => ⟨hk.1.1.1.2, ⟨hk.1.1.2, hk.1.2⟩⟩)⟩, ⟨by (with_reducible repeat (first | apply Kd.R_alloc | apply Kd.R_drewN | apply Kd.R_drew)); exact Kd.R_mono HO227.out (fun _ hk => ⟨hk.1.1.1.2, ⟨hk.1.1.2, hk.1.2⟩⟩)⟩, ⟨by (with_reducible repeat (first | apply Kd.R_alloc | apply Kd.R_drewN | apply Kd.R_drew)); exact Kd.R_mono HO230.out (fun _ hk => ⟨hk.1.1.1.2, ⟨hk.1.1.2, hk.1.2⟩⟩)⟩, ⟨by (with_reducible repeat (first | apply Kd.R_alloc | apply Kd.R_drewN | apply Kd.R_drew)); exact Kd.R_mono HO234.out (fun _ hk => ⟨hk.1.1.1.2, ⟨hk.1.1.2, hk.1.2⟩⟩)⟩, ⟨by repeat (first | (with_reducible first | exact HB.out | apply below_alloc | apply pw_below_drewN | apply below_drew1) | exact HB.out)⟩⟩
      ·replace c25 := Bool.eq_false_iff.mpr c25
       subst c25
       have H1 : (concordlaw10_VectorOrder.j0 k t222 t225 t228 t231 true) = some r := by rw [if_neg (show ¬ (false = true) by decide)] at H; exact H
       clear H
       have H := H1
       clear H1
       have H' := Aside0.mk H
       clear H
       obtain ⟨Ao46, co46, eo46⟩ := Kd.R_slice HO234.out
       subst eo46
       obtain ⟨Ao47, co47, eo47⟩ := Kd.R_slice HO238.out
       subst eo47
       as_aux_lemma =>
        go_wp2_with (first | (go_at_call 40; (with_reducible refine (concordlaw10_same.calls k _ _ t231 _ _ t235 true _ ?side1 ?side2 ?side3 ?side4 A22.out).mono ?_); (case side1 => exact sC HO234); (case side2 => exact sN HO234); (case side3 => exact sC HO238); (case side4 => exact sN HO238); rintro e w' ⟨rfl, ⟨nd, rfl⟩⟩) | (go_at_call 41; (with_reducible refine (vector_Valid.calls k _ _ t231 false _ ?side1 ?side2 A24.out).mono ?_); (case side1 => exact sC HO234); (case side2 => exact sN HO234); rintro e w48 ⟨rfl, hb⟩; have n0_ := sBe HO224 hb; have n1_ := sBe HO227 hb; have n2_ := sBe HO230 hb; have n3_ := sBe HO234 hb; have n4_ := sBe HO238 hb; have n5_ := sSt HB hb; clear HO224; clear HO227; clear HO230; clear HO234; clear HO238; clear HB; have HO224 := n0_; have HO227 := n1_; have HO230 := n2_; have HO234 := n3_; have HO238 := n4_; have HB := n5_; clear n0_ n1_ n2_ n3_ n4_ n5_; (try clear hb); (try clear hb2); (try clear hk); (try clear hi)))
        go_meet
        case rel => exact ⟨_, (true), (by first | rfl | (simp; done) | (simp [*]; done)), H', ⟨by first | omega | exact Nat.le_refl _⟩, ⟨by (with_reducible repeat (first | apply Kd.R_alloc | apply Kd.R_drewN | apply Kd.R_drew)); exact Kd.R_mono HO224.out (fun _ hk => ⟨hk.1.1.1.2, ⟨hk.1.1.2, hk.1.2⟩⟩)⟩, ⟨by (with_reducible repeat (first | apply Kd.R_alloc | apply Kd.R_drewN | apply Kd.R_drew)); exact Kd.R_mono HO227.out (fun _ hk => ⟨hk.1.1.1.2, ⟨hk.1.1.2, hk.1.2⟩⟩)⟩, ⟨by (with_reducible repeat (first | apply Kd.R_alloc | apply Kd.R_drewN | apply Kd.R_drew)); exact Kd.R_mono HO230.out (fun _ hk => ⟨hk.1.1.1.2, ⟨hk.1.1.2, hk.1.2⟩⟩)⟩, ⟨by (with_reducible repeat (first | apply Kd.R_alloc | apply Kd.R_drewN | apply Kd.R_drew)); exact Kd.R_mono HO234.out (fun _ hk => ⟨hk.1.1.1.2, ⟨hk.1.1.2, hk.1.2⟩⟩)⟩, ⟨by repeat (first | (with_reducible first | exact HB.out | apply below_alloc | apply pw_below_drewN | apply below_drew1) | exact HB.out)⟩⟩
     ·replace c23 := Bool.eq_false_iff.mpr c23
      subst c23
      have H1 : (concordlaw10_VectorOrder.j0 k t222 t225 t228 t231 true) = some r := by rw [if_neg (show ¬ (false = true) by decide)] at H; exact H
      clear H
      have H := H1
      clear H1
      have H' := Aside0.mk H
      clear H
      obtain ⟨Ao49, co49, eo49⟩ := Kd.R_slice HO234.out
      subst eo49
      obtain ⟨Ao50, co50, eo50⟩ := Kd.R_slice HO238.out
      subst eo50
      as_aux_lemma =>
       go_wp2_with (first | (go_at_call 40; (with_reducible refine (concordlaw10_same.calls k _ _ t231 _ _ t235 false _ ?side1 ?side2 ?side3 ?side4 A22.out).mono ?_); (case side1 => exact sC HO234); (case side2 => exact sN HO234); (case side3 => exact sC HO238); (case side4 => exact sN HO238); rintro e w' ⟨rfl, ⟨nd, rfl⟩⟩))
       go_meet
       case rel => exact ⟨_, (true), (by first | rfl | (simp; done) | (simp [*]; done)), H', ⟨by first | omega | exact Nat.le_refl _⟩, ⟨by (with_reducible repeat (first | apply Kd.R_alloc | apply Kd.R_drewN | apply Kd.R_drew)); exact Kd.R_mono HO224.out (fun _ hk => ⟨hk.1.1.1.2, ⟨hk.1.1.2, hk.1.2⟩⟩)⟩, ⟨by (with_reducible repeat (first | apply Kd.R_alloc | apply Kd.R_drewN | apply Kd.R_drew)); exact Kd.R_mono HO227.out (fun _ hk => ⟨hk.1.1.1.2, ⟨hk.1.1.2, hk.1.2⟩⟩)⟩, ⟨by (with_reducible repeat (first | apply Kd.R_alloc | apply Kd.R_drewN | apply Kd.R_drew)); exact Kd.R_mono HO230.out (fun _ hk => ⟨hk.1.1.1.2, ⟨hk.1.1.2, hk.1.2⟩⟩)⟩, ⟨by (with_reducible repeat (first | apply Kd.R_alloc | apply Kd.R_drewN | apply Kd.R_drew)); exact Kd.R_mono HO234.out (fun _ hk => ⟨hk.1.1.1.2, ⟨hk.1.1.2, hk.1.2⟩⟩)⟩, ⟨by repeat (first | (with_reducible first | exact HB.out | apply below_alloc | apply pw_below_drewN | apply below_drew1) | exact HB.out)⟩⟩
    ·rw [if_neg c21] at H
     have c21b0 : (t236 == 0) = false := beq_eq_false_iff_ne.mpr c21
     have c21b1 : (t236 != 0) = true := bne_iff_ne.mpr c21
     have H' := Aside0.mk H
     clear H
     as_aux_lemma =>
      go_wp2
      go_meet
      case rel => exact ⟨_, (true), (by first | rfl | (simp; done) | (simp [*]; done)), H', ⟨by first | omega | exact Nat.le_refl _⟩, ⟨by (with_reducible repeat (first | apply Kd.R_alloc | apply Kd.R_drewN | apply Kd.R_drew)); exact Kd.R_mono HO224.out (fun _ hk => ⟨hk.1.1.1.2, ⟨hk.1.1.2, hk.1.2⟩⟩)⟩, ⟨by (with_reducible repeat (first | apply Kd.R_alloc | apply Kd.R_drewN | apply Kd.R_drew)); exact Kd.R_mono HO227.out (fun _ hk => ⟨hk.1.1.1.2, ⟨hk.1.1.2, hk.1.2⟩⟩)⟩, ⟨by (with_reducible repeat (first | apply Kd.R_alloc | apply Kd.R_drewN | apply Kd.R_drew)); exact Kd.R_mono HO230.out (fun _ hk => ⟨hk.1.1.1.2, ⟨hk.1.1.2, hk.1.2⟩⟩)⟩, ⟨by (with_reducible repeat (first | apply Kd.R_alloc | apply Kd.R_drewN | apply Kd.R_drew)); exact Kd.R_mono HO234.out (fun _ hk => ⟨hk.1.1.1.2, ⟨hk.1.1.2, hk.1.2⟩⟩)⟩, ⟨by repeat (first | (with_reducible first | exact HB.out | apply below_alloc | apply pw_below_drewN | apply below_drew1) | exact HB.out)⟩⟩
   ·rw [if_neg c20] at H
    have c20b0 : (t232 == 0) = false := beq_eq_false_iff_ne.mpr c20
    have c20b1 : (t232 != 0) = true := bne_iff_ne.mpr c20
    (first | rw [c20b0] | (simp only [i64_w, i32_w]; rw [c20b0]) | skip)
    have H' := Aside0.mk H
    clear H
    as_aux_lemma =>
     go_wp2
     go_meet
     case rel => exact ⟨_, (true), (by first | rfl | (simp; done) | (simp [*]; done)), H', ⟨by first | omega | exact Nat.le_refl _⟩, ⟨by (with_reducible repeat (first | apply Kd.R_alloc | apply Kd.R_drewN | apply Kd.R_drew)); exact Kd.R_mono HO224.out (fun _ hk => ⟨hk.1.1.1.2, ⟨hk.1.1.2, hk.1.2⟩⟩)⟩, ⟨by (with_reducible repeat (first | apply Kd.R_alloc | apply Kd.R_drewN | apply Kd.R_drew)); exact Kd.R_mono HO227.out (fun _ hk => ⟨hk.1.1.1.2, ⟨hk.1.1.2, hk.1.2⟩⟩)⟩, ⟨by (with_reducible repeat (first | apply Kd.R_alloc | apply Kd.R_drewN | apply Kd.R_drew)); exact Kd.R_mono HO230.out (fun _ hk => ⟨hk.1.1.1.2, ⟨hk.1.1.2, hk.1.2⟩⟩)⟩, ⟨by (with_reducible repeat (first | apply Kd.R_alloc | apply Kd.R_drewN | apply Kd.R_drew)); exact Kd.R_mono HO234.out (fun _ hk => ⟨hk.1.1.1.2, ⟨hk.1.1.2, hk.1.2⟩⟩)⟩, ⟨by repeat (first | (with_reducible first | exact HB.out | apply below_alloc | apply pw_below_drewN | apply below_drew1) | exact HB.out)⟩⟩
  case rest =>
   clear HC11
   try clear c1
   try clear c2
   try clear p2
   try clear c3
   try clear c5
   try clear c7
   try clear c13
   try clear c20
   try clear c20b0
   try clear c20b1
   try clear c21
   try clear c21b0
   try clear c21b1
   try clear c23
   try clear c25
   try clear c27
   try clear c29
   try clear c38
   try clear c39
   obtain ⟨kq, x78_10, rfl, HA, HJ10, HO_7, HO_8, HO_9, HO_10, HB⟩ := hcut
   cases kq with
   | zero => exact absurd HA.out (by simp [concordlaw10_VectorOrder.j0])
   | succ kj10 =>
    have H := HA.out
    clear HA
    simp only [concordlaw10_VectorOrder.j0] at H
    by_cases c51 : x78_10 = true
    ·subst c51
     have H1 : (some false) = some r := by rw [if_pos rfl] at H; exact H
     clear H
     have H := H1
     clear H1
     obtain rfl := Option.some.inj H
     go_wp2
     go_ret
     exact ⟨by first | rfl | (simp [errW_none, errW_some] <;> rfl) | (simp [*, errW_none, errW_some] <;> rfl), by repeat (first | (with_reducible first | exact HB.out | apply below_alloc | apply pw_below_drewN | apply below_drew1) | exact HB.out)⟩
    ·replace c51 := Bool.eq_false_iff.mpr c51
     subst c51
     have H1 : ((vector_Below.f t222 t228).bind fun t244 => (if t244 = true then ((vector_Below.f t225 t228).bind fun t245 => ((vector_Below.f t231 t228).bind fun t246 => (if (t245 != t246) = true then (concordlaw10_VectorOrder.j1 kj10 t222 t225 t228 t231 true) else ((vector_Below.f t231 t228).bind fun t247 => (if t247 = true then ((vector_Below.f t222 t228).bind fun t248 => (concordlaw10_VectorOrder.j1 kj10 t222 t225 t228 t231 (!t248))) else (concordlaw10_VectorOrder.j1 kj10 t222 t225 t228 t231 false)))))) else ((vector_Below.f t231 t228).bind fun t249 => (if t249 = true then ((vector_Below.f t222 t228).bind fun t250 => (concordlaw10_VectorOrder.j1 kj10 t222 t225 t228 t231 (!t250))) else (concordlaw10_VectorOrder.j1 kj10 t222 t225 t228 t231 false))))) = some r := by rw [if_neg (show ¬ (false = true) by decide)] at H; exact H
     clear H
     have H := H1
     clear H1
     have HC52 := Aside0.mk H
     clear H
     go_upto_region 10 with (fail)
     go_cut [101] (fun v101 wc => ∃ (kq : Nat) (x101_51 : Bool), v101 = .bool x101_51 ∧ Aside0 (concordlaw10_VectorOrder.j1 kq t222 t225 t228 t231 x101_51 = some r) ∧ Aside0 (kq ≤ kj10) ∧ Aside0 (Kd.R k35 35 wc w.heap.size (fun k_ => some k_ ≠ ((.slice Ao17 t225.length co17) : Value).ownBlock ∧ some k_ ≠ (v229 : Value).ownBlock ∧ some k_ ≠ (v233 : Value).ownBlock) (.slice Ao16 t222.length co16) t222) ∧ Aside0 (Kd.R k35 35 wc w.heap.size (fun k_ => some k_ ≠ ((.slice Ao16 t222.length co16) : Value).ownBlock ∧ some k_ ≠ (v229 : Value).ownBlock ∧ some k_ ≠ (v233 : Value).ownBlock) (.slice Ao17 t225.length co17) t225) ∧ Aside0 (Kd.R k35 35 wc w.heap.size (fun k_ => some k_ ≠ ((.slice Ao16 t222.length co16) : Value).ownBlock ∧ some k_ ≠ ((.slice Ao17 t225.length co17) : Value).ownBlock ∧ some k_ ≠ (v233 : Value).ownBlock) v229 t228) ∧ Aside0 (Kd.R k35 35 wc w.heap.size (fun k_ => some k_ ≠ ((.slice Ao16 t222.length co16) : Value).ownBlock ∧ some k_ ≠ ((.slice Ao17 t225.length co17) : Value).ownBlock ∧ some k_ ≠ (v229 : Value).ownBlock) v233 t231) ∧ Aside0 (Below w.heap.size w wc))
     case first =>
      have H := HC52.out
      clear HC52
      replace H := Option.bind_eq_some_iff.mp H
      obtain ⟨t244, A530, H⟩ := H
      replace H : (if t244 = true then ((vector_Below.f t225 t228).bind fun t245 => ((vector_Below.f t231 t228).bind fun t246 => (if (t245 != t246) = true then (concordlaw10_VectorOrder.j1 kj10 t222 t225 t228 t231 true) else ((vector_Below.f t231 t228).bind fun t247 => (if t247 = true then ((vector_Below.f t222 t228).bind fun t248 => (concordlaw10_VectorOrder.j1 kj10 t222 t225 t228 t231 (!t248))) else (concordlaw10_VectorOrder.j1 kj10 t222 t225 t228 t231 false)))))) else ((vector_Below.f t231 t228).bind fun t249 => (if t249 = true then ((vector_Below.f t222 t228).bind fun t250 => (concordlaw10_VectorOrder.j1 kj10 t222 t225 t228 t231 (!t250))) else (concordlaw10_VectorOrder.j1 kj10 t222 t225 t228 t231 false)))) = some r := H
      have A53 := Aside0.mk A530
      clear A530
      by_cases c54 : t244 = true
      ·subst c54
       have H1 : ((vector_Below.f t225 t228).bind fun t245 => ((vector_Below.f t231 t228).bind fun t246 => (if (t245 != t246) = true then (concordlaw10_VectorOrder.j1 kj10 t222 t225 t228 t231 true) else ((vector_Below.f t231 t228).bind fun t247 => (if t247 = true then ((vector_Below.f t222 t228).bind fun t248 => (concordlaw10_VectorOrder.j1 kj10 t222 t225 t228 t231 (!t248))) else (concordlaw10_VectorOrder.j1 kj10 t222 t225 t228 t231 false)))))) = some r := by rw [if_pos rfl] at H; exact H
       clear H
       have H := H1
       clear H1
       replace H := Option.bind_eq_some_iff.mp H
       obtain ⟨t245, A550, H⟩ := H
       replace H : ((vector_Below.f t231 t228).bind fun t246 => (if (t245 != t246) = true then (concordlaw10_VectorOrder.j1 kj10 t222 t225 t228 t231 true) else ((vector_Below.f t231 t228).bind fun t247 => (if t247 = true then ((vector_Below.f t222 t228).bind fun t248 => (concordlaw10_VectorOrder.j1 kj10 t222 t225 t228 t231 (!t248))) else (concordlaw10_VectorOrder.j1 kj10 t222 t225 t228 t231 false))))) = some r := H
       have A55 := Aside0.mk A550
       clear A550
       replace H := Option.bind_eq_some_iff.mp H
       obtain ⟨t246, A560, H⟩ := H
       replace H : (if (t245 != t246) = true then (concordlaw10_VectorOrder.j1 kj10 t222 t225 t228 t231 true) else ((vector_Below.f t231 t228).bind fun t247 => (if t247 = true then ((vector_Below.f t222 t228).bind fun t248 => (concordlaw10_VectorOrder.j1 kj10 t222 t225 t228 t231 (!t248))) else (concordlaw10_VectorOrder.j1 kj10 t222 t225 t228 t231 false)))) = some r := H
       have A56 := Aside0.mk A560
       clear A560
       by_cases c57 : (t245 != t246) = true
       ·rw [if_pos c57] at H
        have c57b0 : (t245 != t246) = true := c57
        (try (have c57b1 : decide (t245 = t246) = false := by simpa using c57))
        (try (have c57b2 : (t245 == t246) = false := by simpa using c57))
        (try (have c57b3 : ¬ (t245 = t246) := by simpa using c57))
        clear c57
        (first | rw [c57b0] | (simp only [i64_w, i32_w]; rw [c57b0]) | skip)
        have H' := Aside0.mk H
        clear H
        obtain ⟨Ao58, co58, eo58⟩ := Kd.R_slice HO_9.out
        subst eo58
        as_aux_lemma =>
         go_wp2_with (first | ((with_reducible refine gate_callee (f := 42) rfl ?_); refine goesL_ (some 81) rfl rfl Try.func42 (by kernel_rfl) rfl #[.slice Ao16 t222.length co16, .slice Ao58 t228.length co58] rfl (by (try simp only [List.map_toArray, List.map_cons, List.map_nil]); first | done | rfl | (simp only [List.length_drop, List.length_take]; rfl)) ?_; (with_reducible refine (vector_Below.calls _ _ t222 _ _ t228 _ _ ?side1 ?side2 ?side3 ?side4 A53.out).mono ?_); (case side1 => exact sC HO_7); (case side2 => exact sN HO_7); (case side3 => exact sC HO_9); (case side4 => exact sN HO_9); rintro e w59 ⟨rfl, hb⟩; refine ⟨_, rfl, ?_⟩; have n0_ := sBe HO_7 hb; have n1_ := sBe HO_8 hb; have n2_ := sBe HO_9 hb; have n3_ := sBe HO_10 hb; have n4_ := sSt HB hb; clear HO_7; clear HO_8; clear HO_9; clear HO_10; clear HB; have HO_7 := n0_; have HO_8 := n1_; have HO_9 := n2_; have HO_10 := n3_; have HB := n4_; clear n0_ n1_ n2_ n3_ n4_; (try clear hb); (try clear hb2); (try clear hk); (try clear hi)) | (go_at_call 42; (with_reducible refine (vector_Below.calls _ _ t225 _ _ t228 _ _ ?side1 ?side2 ?side3 ?side4 A55.out).mono ?_); (case side1 => exact sC HO_8); (case side2 => exact sN HO_8); (case side3 => exact sC HO_9); (case side4 => exact sN HO_9); rintro e w60 ⟨rfl, hb⟩; have n0_ := sBe HO_7 hb; have n1_ := sBe HO_8 hb; have n2_ := sBe HO_9 hb; have n3_ := sBe HO_10 hb; have n4_ := sSt HB hb; clear HO_7; clear HO_8; clear HO_9; clear HO_10; clear HB; have HO_7 := n0_; have HO_8 := n1_; have HO_9 := n2_; have HO_10 := n3_; have HB := n4_; clear n0_ n1_ n2_ n3_ n4_; (try clear hb); (try clear hb2); (try clear hk); (try clear hi); obtain ⟨Ao61, co61, eo61⟩ := Kd.R_slice HO_10.out; subst eo61) | (go_at_call 42; (with_reducible refine (vector_Below.calls _ _ t231 _ _ t228 _ _ ?side1 ?side2 ?side3 ?side4 A56.out).mono ?_); (case side1 => exact sC HO_10); (case side2 => exact sN HO_10); (case side3 => exact sC HO_9); (case side4 => exact sN HO_9); rintro e w62 ⟨rfl, hb⟩; have n0_ := sBe HO_7 hb; have n1_ := sBe HO_8 hb; have n2_ := sBe HO_9 hb; have n3_ := sBe HO_10 hb; have n4_ := sSt HB hb; clear HO_7; clear HO_8; clear HO_9; clear HO_10; clear HB; have HO_7 := n0_; have HO_8 := n1_; have HO_9 := n2_; have HO_10 := n3_; have HB := n4_; clear n0_ n1_ n2_ n3_ n4_; (try clear hb); (try clear hb2); (try clear hk); (try clear hi)))
         go_meet
         case rel => exact ⟨_, (true), (by first | rfl | (simp; done) | (simp [*]; done)), H', ⟨by have := HJ10.out; first | omega | exact Nat.le_refl _⟩, ⟨by (with_reducible repeat (first | apply Kd.R_alloc | apply Kd.R_drewN | apply Kd.R_drew)); exact HO_7.out⟩, ⟨by (with_reducible repeat (first | apply Kd.R_alloc | apply Kd.R_drewN | apply Kd.R_drew)); exact HO_8.out⟩, ⟨by (with_reducible repeat (first | apply Kd.R_alloc | apply Kd.R_drewN | apply Kd.R_drew)); exact HO_9.out⟩, ⟨by (with_reducible repeat (first | apply Kd.R_alloc | apply Kd.R_drewN | apply Kd.R_drew)); exact HO_10.out⟩, ⟨by repeat (first | (with_reducible first | exact HB.out | apply below_alloc | apply pw_below_drewN | apply below_drew1) | exact HB.out)⟩⟩
       ·rw [if_neg c57] at H
        have c57b0 : (t245 != t246) = false := by simpa using c57
        (try (have c57b1 : decide (t245 = t246) = true := by simpa using c57))
        (try (have c57b2 : (t245 == t246) = true := by simpa using c57))
        clear c57
        (first | rw [c57b0] | (simp only [i64_w, i32_w]; rw [c57b0]) | skip)
        replace H := Option.bind_eq_some_iff.mp H
        obtain ⟨t247, A630, H⟩ := H
        have hdup0 : t246 = t247 := Option.some.inj (A56.out.symm.trans A630)
        subst hdup0
        replace H : (if t246 = true then ((vector_Below.f t222 t228).bind fun t248 => (concordlaw10_VectorOrder.j1 kj10 t222 t225 t228 t231 (!t248))) else (concordlaw10_VectorOrder.j1 kj10 t222 t225 t228 t231 false)) = some r := H
        have A63 := Aside0.mk A630
        clear A630
        by_cases c64 : t246 = true
        ·subst c64
         have H1 : ((vector_Below.f t222 t228).bind fun t248 => (concordlaw10_VectorOrder.j1 kj10 t222 t225 t228 t231 (!t248))) = some r := by rw [if_pos rfl] at H; exact H
         clear H
         have H := H1
         clear H1
         replace H := Option.bind_eq_some_iff.mp H
         obtain ⟨t248, A650, H⟩ := H
         have hdup1 : true = t248 := Option.some.inj (A53.out.symm.trans A650)
         subst hdup1
         replace H : (concordlaw10_VectorOrder.j1 kj10 t222 t225 t228 t231 (!true)) = some r := H
         have A65 := Aside0.mk A650
         clear A650
         have H' := Aside0.mk H
         clear H
         obtain ⟨Ao66, co66, eo66⟩ := Kd.R_slice HO_9.out
         subst eo66
         as_aux_lemma =>
          go_wp2_with (first | ((with_reducible refine gate_callee (f := 42) rfl ?_); refine goesL_ (some 81) rfl rfl Try.func42 (by kernel_rfl) rfl #[.slice Ao16 t222.length co16, .slice Ao66 t228.length co66] rfl (by (try simp only [List.map_toArray, List.map_cons, List.map_nil]); first | done | rfl | (simp only [List.length_drop, List.length_take]; rfl)) ?_; (with_reducible refine (vector_Below.calls _ _ t222 _ _ t228 _ _ ?side1 ?side2 ?side3 ?side4 A53.out).mono ?_); (case side1 => exact sC HO_7); (case side2 => exact sN HO_7); (case side3 => exact sC HO_9); (case side4 => exact sN HO_9); rintro e w67 ⟨rfl, hb⟩; refine ⟨_, rfl, ?_⟩; have n0_ := sBe HO_7 hb; have n1_ := sBe HO_8 hb; have n2_ := sBe HO_9 hb; have n3_ := sBe HO_10 hb; have n4_ := sSt HB hb; clear HO_7; clear HO_8; clear HO_9; clear HO_10; clear HB; have HO_7 := n0_; have HO_8 := n1_; have HO_9 := n2_; have HO_10 := n3_; have HB := n4_; clear n0_ n1_ n2_ n3_ n4_; (try clear hb); (try clear hb2); (try clear hk); (try clear hi)) | (go_at_call 42; (with_reducible refine (vector_Below.calls _ _ t225 _ _ t228 _ _ ?side1 ?side2 ?side3 ?side4 A55.out).mono ?_); (case side1 => exact sC HO_8); (case side2 => exact sN HO_8); (case side3 => exact sC HO_9); (case side4 => exact sN HO_9); rintro e w68 ⟨rfl, hb⟩; have n0_ := sBe HO_7 hb; have n1_ := sBe HO_8 hb; have n2_ := sBe HO_9 hb; have n3_ := sBe HO_10 hb; have n4_ := sSt HB hb; clear HO_7; clear HO_8; clear HO_9; clear HO_10; clear HB; have HO_7 := n0_; have HO_8 := n1_; have HO_9 := n2_; have HO_10 := n3_; have HB := n4_; clear n0_ n1_ n2_ n3_ n4_; (try clear hb); (try clear hb2); (try clear hk); (try clear hi); obtain ⟨Ao69, co69, eo69⟩ := Kd.R_slice HO_10.out; subst eo69) | (go_at_call 42; (with_reducible refine (vector_Below.calls _ _ t231 _ _ t228 _ _ ?side1 ?side2 ?side3 ?side4 A56.out).mono ?_); (case side1 => exact sC HO_10); (case side2 => exact sN HO_10); (case side3 => exact sC HO_9); (case side4 => exact sN HO_9); rintro e w70 ⟨rfl, hb⟩; have n0_ := sBe HO_7 hb; have n1_ := sBe HO_8 hb; have n2_ := sBe HO_9 hb; have n3_ := sBe HO_10 hb; have n4_ := sSt HB hb; clear HO_7; clear HO_8; clear HO_9; clear HO_10; clear HB; have HO_7 := n0_; have HO_8 := n1_; have HO_9 := n2_; have HO_10 := n3_; have HB := n4_; clear n0_ n1_ n2_ n3_ n4_; (try clear hb); (try clear hb2); (try clear hk); (try clear hi)) | (go_at_call 42; (with_reducible refine (vector_Below.calls _ _ t231 _ _ t228 _ _ ?side1 ?side2 ?side3 ?side4 A63.out).mono ?_); (case side1 => exact sC HO_10); (case side2 => exact sN HO_10); (case side3 => exact sC HO_9); (case side4 => exact sN HO_9); rintro e w71 ⟨rfl, hb⟩; have n0_ := sBe HO_7 hb; have n1_ := sBe HO_8 hb; have n2_ := sBe HO_9 hb; have n3_ := sBe HO_10 hb; have n4_ := sSt HB hb; clear HO_7; clear HO_8; clear HO_9; clear HO_10; clear HB; have HO_7 := n0_; have HO_8 := n1_; have HO_9 := n2_; have HO_10 := n3_; have HB := n4_; clear n0_ n1_ n2_ n3_ n4_; (try clear hb); (try clear hb2); (try clear hk); (try clear hi)) | (go_at_call 42; (with_reducible refine (vector_Below.calls _ _ t222 _ _ t228 _ _ ?side1 ?side2 ?side3 ?side4 A65.out).mono ?_); (case side1 => exact sC HO_7); (case side2 => exact sN HO_7); (case side3 => exact sC HO_9); (case side4 => exact sN HO_9); rintro e w72 ⟨rfl, hb⟩; have n0_ := sBe HO_7 hb; have n1_ := sBe HO_8 hb; have n2_ := sBe HO_9 hb; have n3_ := sBe HO_10 hb; have n4_ := sSt HB hb; clear HO_7; clear HO_8; clear HO_9; clear HO_10; clear HB; have HO_7 := n0_; have HO_8 := n1_; have HO_9 := n2_; have HO_10 := n3_; have HB := n4_; clear n0_ n1_ n2_ n3_ n4_; (try clear hb); (try clear hb2); (try clear hk); (try clear hi)))
          go_meet
          case rel => exact ⟨_, (!true), (by first | rfl | (simp; done) | (simp [*]; done)), H', ⟨by have := HJ10.out; first | omega | exact Nat.le_refl _⟩, ⟨by (with_reducible repeat (first | apply Kd.R_alloc | apply Kd.R_drewN | apply Kd.R_drew)); exact HO_7.out⟩, ⟨by (with_reducible repeat (first | apply Kd.R_alloc | apply Kd.R_drewN | apply Kd.R_drew)); exact HO_8.out⟩, ⟨by (with_reducible repeat (first | apply Kd.R_alloc | apply Kd.R_drewN | apply Kd.R_drew)); exact HO_9.out⟩, ⟨by (with_reducible repeat (first | apply Kd.R_alloc | apply Kd.R_drewN | apply Kd.R_drew)); exact HO_10.out⟩, ⟨by repeat (first | (with_reducible first | exact HB.out | apply below_alloc | apply pw_below_drewN | apply below_drew1) | exact HB.out)⟩⟩
        ·replace c64 := Bool.eq_false_iff.mpr c64
         subst c64
         have H1 : (concordlaw10_VectorOrder.j1 kj10 t222 t225 t228 t231 false) = some r := by rw [if_neg (show ¬ (false = true) by decide)] at H; exact H
         clear H
         have H := H1
         clear H1
         have H' := Aside0.mk H
         clear H
         obtain ⟨Ao73, co73, eo73⟩ := Kd.R_slice HO_9.out
         subst eo73
         as_aux_lemma =>
          go_wp2_with (first | ((with_reducible refine gate_callee (f := 42) rfl ?_); refine goesL_ (some 81) rfl rfl Try.func42 (by kernel_rfl) rfl #[.slice Ao16 t222.length co16, .slice Ao73 t228.length co73] rfl (by (try simp only [List.map_toArray, List.map_cons, List.map_nil]); first | done | rfl | (simp only [List.length_drop, List.length_take]; rfl)) ?_; (with_reducible refine (vector_Below.calls _ _ t222 _ _ t228 _ _ ?side1 ?side2 ?side3 ?side4 A53.out).mono ?_); (case side1 => exact sC HO_7); (case side2 => exact sN HO_7); (case side3 => exact sC HO_9); (case side4 => exact sN HO_9); rintro e w74 ⟨rfl, hb⟩; refine ⟨_, rfl, ?_⟩; have n0_ := sBe HO_7 hb; have n1_ := sBe HO_8 hb; have n2_ := sBe HO_9 hb; have n3_ := sBe HO_10 hb; have n4_ := sSt HB hb; clear HO_7; clear HO_8; clear HO_9; clear HO_10; clear HB; have HO_7 := n0_; have HO_8 := n1_; have HO_9 := n2_; have HO_10 := n3_; have HB := n4_; clear n0_ n1_ n2_ n3_ n4_; (try clear hb); (try clear hb2); (try clear hk); (try clear hi)) | (go_at_call 42; (with_reducible refine (vector_Below.calls _ _ t225 _ _ t228 _ _ ?side1 ?side2 ?side3 ?side4 A55.out).mono ?_); (case side1 => exact sC HO_8); (case side2 => exact sN HO_8); (case side3 => exact sC HO_9); (case side4 => exact sN HO_9); rintro e w75 ⟨rfl, hb⟩; have n0_ := sBe HO_7 hb; have n1_ := sBe HO_8 hb; have n2_ := sBe HO_9 hb; have n3_ := sBe HO_10 hb; have n4_ := sSt HB hb; clear HO_7; clear HO_8; clear HO_9; clear HO_10; clear HB; have HO_7 := n0_; have HO_8 := n1_; have HO_9 := n2_; have HO_10 := n3_; have HB := n4_; clear n0_ n1_ n2_ n3_ n4_; (try clear hb); (try clear hb2); (try clear hk); (try clear hi); obtain ⟨Ao76, co76, eo76⟩ := Kd.R_slice HO_10.out; subst eo76) | (go_at_call 42; (with_reducible refine (vector_Below.calls _ _ t231 _ _ t228 _ _ ?side1 ?side2 ?side3 ?side4 A56.out).mono ?_); (case side1 => exact sC HO_10); (case side2 => exact sN HO_10); (case side3 => exact sC HO_9); (case side4 => exact sN HO_9); rintro e w77 ⟨rfl, hb⟩; have n0_ := sBe HO_7 hb; have n1_ := sBe HO_8 hb; have n2_ := sBe HO_9 hb; have n3_ := sBe HO_10 hb; have n4_ := sSt HB hb; clear HO_7; clear HO_8; clear HO_9; clear HO_10; clear HB; have HO_7 := n0_; have HO_8 := n1_; have HO_9 := n2_; have HO_10 := n3_; have HB := n4_; clear n0_ n1_ n2_ n3_ n4_; (try clear hb); (try clear hb2); (try clear hk); (try clear hi)) | (go_at_call 42; (with_reducible refine (vector_Below.calls _ _ t231 _ _ t228 _ _ ?side1 ?side2 ?side3 ?side4 A63.out).mono ?_); (case side1 => exact sC HO_10); (case side2 => exact sN HO_10); (case side3 => exact sC HO_9); (case side4 => exact sN HO_9); rintro e w78 ⟨rfl, hb⟩; have n0_ := sBe HO_7 hb; have n1_ := sBe HO_8 hb; have n2_ := sBe HO_9 hb; have n3_ := sBe HO_10 hb; have n4_ := sSt HB hb; clear HO_7; clear HO_8; clear HO_9; clear HO_10; clear HB; have HO_7 := n0_; have HO_8 := n1_; have HO_9 := n2_; have HO_10 := n3_; have HB := n4_; clear n0_ n1_ n2_ n3_ n4_; (try clear hb); (try clear hb2); (try clear hk); (try clear hi)))
          go_meet
          case rel => exact ⟨_, (false), (by first | rfl | (simp; done) | (simp [*]; done)), H', ⟨by have := HJ10.out; first | omega | exact Nat.le_refl _⟩, ⟨by (with_reducible repeat (first | apply Kd.R_alloc | apply Kd.R_drewN | apply Kd.R_drew)); exact HO_7.out⟩, ⟨by (with_reducible repeat (first | apply Kd.R_alloc | apply Kd.R_drewN | apply Kd.R_drew)); exact HO_8.out⟩, ⟨by (with_reducible repeat (first | apply Kd.R_alloc | apply Kd.R_drewN | apply Kd.R_drew)); exact HO_9.out⟩, ⟨by (with_reducible repeat (first | apply Kd.R_alloc | apply Kd.R_drewN | apply Kd.R_drew)); exact HO_10.out⟩, ⟨by repeat (first | (with_reducible first | exact HB.out | apply below_alloc | apply pw_below_drewN | apply below_drew1) | exact HB.out)⟩⟩
      ·replace c54 := Bool.eq_false_iff.mpr c54
       subst c54
       have H1 : ((vector_Below.f t231 t228).bind fun t249 => (if t249 = true then ((vector_Below.f t222 t228).bind fun t250 => (concordlaw10_VectorOrder.j1 kj10 t222 t225 t228 t231 (!t250))) else (concordlaw10_VectorOrder.j1 kj10 t222 t225 t228 t231 false))) = some r := by rw [if_neg (show ¬ (false = true) by decide)] at H; exact H
       clear H
       have H := H1
       clear H1
       replace H := Option.bind_eq_some_iff.mp H
       obtain ⟨t249, A790, H⟩ := H
       replace H : (if t249 = true then ((vector_Below.f t222 t228).bind fun t250 => (concordlaw10_VectorOrder.j1 kj10 t222 t225 t228 t231 (!t250))) else (concordlaw10_VectorOrder.j1 kj10 t222 t225 t228 t231 false)) = some r := H
       have A79 := Aside0.mk A790
       clear A790
       by_cases c80 : t249 = true
       ·subst c80
        have H1 : ((vector_Below.f t222 t228).bind fun t250 => (concordlaw10_VectorOrder.j1 kj10 t222 t225 t228 t231 (!t250))) = some r := by rw [if_pos rfl] at H; exact H
        clear H
        have H := H1
        clear H1
        replace H := Option.bind_eq_some_iff.mp H
        obtain ⟨t250, A810, H⟩ := H
        have hdup2 : false = t250 := Option.some.inj (A53.out.symm.trans A810)
        subst hdup2
        replace H : (concordlaw10_VectorOrder.j1 kj10 t222 t225 t228 t231 (!false)) = some r := H
        have A81 := Aside0.mk A810
        clear A810
        have H' := Aside0.mk H
        clear H
        obtain ⟨Ao82, co82, eo82⟩ := Kd.R_slice HO_9.out
        subst eo82
        as_aux_lemma =>
         go_wp2_with (first | ((with_reducible refine gate_callee (f := 42) rfl ?_); refine goesL_ (some 81) rfl rfl Try.func42 (by kernel_rfl) rfl #[.slice Ao16 t222.length co16, .slice Ao82 t228.length co82] rfl (by (try simp only [List.map_toArray, List.map_cons, List.map_nil]); first | done | rfl | (simp only [List.length_drop, List.length_take]; rfl)) ?_; (with_reducible refine (vector_Below.calls _ _ t222 _ _ t228 _ _ ?side1 ?side2 ?side3 ?side4 A53.out).mono ?_); (case side1 => exact sC HO_7); (case side2 => exact sN HO_7); (case side3 => exact sC HO_9); (case side4 => exact sN HO_9); rintro e w83 ⟨rfl, hb⟩; refine ⟨_, rfl, ?_⟩; have n0_ := sBe HO_7 hb; have n1_ := sBe HO_8 hb; have n2_ := sBe HO_9 hb; have n3_ := sBe HO_10 hb; have n4_ := sSt HB hb; clear HO_7; clear HO_8; clear HO_9; clear HO_10; clear HB; have HO_7 := n0_; have HO_8 := n1_; have HO_9 := n2_; have HO_10 := n3_; have HB := n4_; clear n0_ n1_ n2_ n3_ n4_; (try clear hb); (try clear hb2); (try clear hk); (try clear hi); obtain ⟨Ao84, co84, eo84⟩ := Kd.R_slice HO_10.out; subst eo84) | (go_at_call 42; (with_reducible refine (vector_Below.calls _ _ t231 _ _ t228 _ _ ?side1 ?side2 ?side3 ?side4 A79.out).mono ?_); (case side1 => exact sC HO_10); (case side2 => exact sN HO_10); (case side3 => exact sC HO_9); (case side4 => exact sN HO_9); rintro e w85 ⟨rfl, hb⟩; have n0_ := sBe HO_7 hb; have n1_ := sBe HO_8 hb; have n2_ := sBe HO_9 hb; have n3_ := sBe HO_10 hb; have n4_ := sSt HB hb; clear HO_7; clear HO_8; clear HO_9; clear HO_10; clear HB; have HO_7 := n0_; have HO_8 := n1_; have HO_9 := n2_; have HO_10 := n3_; have HB := n4_; clear n0_ n1_ n2_ n3_ n4_; (try clear hb); (try clear hb2); (try clear hk); (try clear hi)) | (go_at_call 42; (with_reducible refine (vector_Below.calls _ _ t222 _ _ t228 _ _ ?side1 ?side2 ?side3 ?side4 A81.out).mono ?_); (case side1 => exact sC HO_7); (case side2 => exact sN HO_7); (case side3 => exact sC HO_9); (case side4 => exact sN HO_9); rintro e w86 ⟨rfl, hb⟩; have n0_ := sBe HO_7 hb; have n1_ := sBe HO_8 hb; have n2_ := sBe HO_9 hb; have n3_ := sBe HO_10 hb; have n4_ := sSt HB hb; clear HO_7; clear HO_8; clear HO_9; clear HO_10; clear HB; have HO_7 := n0_; have HO_8 := n1_; have HO_9 := n2_; have HO_10 := n3_; have HB := n4_; clear n0_ n1_ n2_ n3_ n4_; (try clear hb); (try clear hb2); (try clear hk); (try clear hi)))
         go_meet
         case rel => exact ⟨_, (!false), (by first | rfl | (simp; done) | (simp [*]; done)), H', ⟨by have := HJ10.out; first | omega | exact Nat.le_refl _⟩, ⟨by (with_reducible repeat (first | apply Kd.R_alloc | apply Kd.R_drewN | apply Kd.R_drew)); exact HO_7.out⟩, ⟨by (with_reducible repeat (first | apply Kd.R_alloc | apply Kd.R_drewN | apply Kd.R_drew)); exact HO_8.out⟩, ⟨by (with_reducible repeat (first | apply Kd.R_alloc | apply Kd.R_drewN | apply Kd.R_drew)); exact HO_9.out⟩, ⟨by (with_reducible repeat (first | apply Kd.R_alloc | apply Kd.R_drewN | apply Kd.R_drew)); exact HO_10.out⟩, ⟨by repeat (first | (with_reducible first | exact HB.out | apply below_alloc | apply pw_below_drewN | apply below_drew1) | exact HB.out)⟩⟩
       ·replace c80 := Bool.eq_false_iff.mpr c80
        subst c80
        have H1 : (concordlaw10_VectorOrder.j1 kj10 t222 t225 t228 t231 false) = some r := by rw [if_neg (show ¬ (false = true) by decide)] at H; exact H
        clear H
        have H := H1
        clear H1
        have H' := Aside0.mk H
        clear H
        obtain ⟨Ao87, co87, eo87⟩ := Kd.R_slice HO_9.out
        subst eo87
        as_aux_lemma =>
         go_wp2_with (first | ((with_reducible refine gate_callee (f := 42) rfl ?_); refine goesL_ (some 81) rfl rfl Try.func42 (by kernel_rfl) rfl #[.slice Ao16 t222.length co16, .slice Ao87 t228.length co87] rfl (by (try simp only [List.map_toArray, List.map_cons, List.map_nil]); first | done | rfl | (simp only [List.length_drop, List.length_take]; rfl)) ?_; (with_reducible refine (vector_Below.calls _ _ t222 _ _ t228 _ _ ?side1 ?side2 ?side3 ?side4 A53.out).mono ?_); (case side1 => exact sC HO_7); (case side2 => exact sN HO_7); (case side3 => exact sC HO_9); (case side4 => exact sN HO_9); rintro e w88 ⟨rfl, hb⟩; refine ⟨_, rfl, ?_⟩; have n0_ := sBe HO_7 hb; have n1_ := sBe HO_8 hb; have n2_ := sBe HO_9 hb; have n3_ := sBe HO_10 hb; have n4_ := sSt HB hb; clear HO_7; clear HO_8; clear HO_9; clear HO_10; clear HB; have HO_7 := n0_; have HO_8 := n1_; have HO_9 := n2_; have HO_10 := n3_; have HB := n4_; clear n0_ n1_ n2_ n3_ n4_; (try clear hb); (try clear hb2); (try clear hk); (try clear hi); obtain ⟨Ao89, co89, eo89⟩ := Kd.R_slice HO_10.out; subst eo89) | (go_at_call 42; (with_reducible refine (vector_Below.calls _ _ t231 _ _ t228 _ _ ?side1 ?side2 ?side3 ?side4 A79.out).mono ?_); (case side1 => exact sC HO_10); (case side2 => exact sN HO_10); (case side3 => exact sC HO_9); (case side4 => exact sN HO_9); rintro e w90 ⟨rfl, hb⟩; have n0_ := sBe HO_7 hb; have n1_ := sBe HO_8 hb; have n2_ := sBe HO_9 hb; have n3_ := sBe HO_10 hb; have n4_ := sSt HB hb; clear HO_7; clear HO_8; clear HO_9; clear HO_10; clear HB; have HO_7 := n0_; have HO_8 := n1_; have HO_9 := n2_; have HO_10 := n3_; have HB := n4_; clear n0_ n1_ n2_ n3_ n4_; (try clear hb); (try clear hb2); (try clear hk); (try clear hi)))
         go_meet
         case rel => exact ⟨_, (false), (by first | rfl | (simp; done) | (simp [*]; done)), H', ⟨by have := HJ10.out; first | omega | exact Nat.le_refl _⟩, ⟨by (with_reducible repeat (first | apply Kd.R_alloc | apply Kd.R_drewN | apply Kd.R_drew)); exact HO_7.out⟩, ⟨by (with_reducible repeat (first | apply Kd.R_alloc | apply Kd.R_drewN | apply Kd.R_drew)); exact HO_8.out⟩, ⟨by (with_reducible repeat (first | apply Kd.R_alloc | apply Kd.R_drewN | apply Kd.R_drew)); exact HO_9.out⟩, ⟨by (with_reducible repeat (first | apply Kd.R_alloc | apply Kd.R_drewN | apply Kd.R_drew)); exact HO_10.out⟩, ⟨by repeat (first | (with_reducible first | exact HB.out | apply below_alloc | apply pw_below_drewN | apply below_drew1) | exact HB.out)⟩⟩
     case rest =>
      clear HC52
      try clear c1
      try clear c2
      try clear p2
      try clear c3
      try clear c4
      try clear c5
      try clear c6
      try clear c7
      try clear c8
      try clear c13
      try clear c20
      try clear c20b0
      try clear c20b1
      try clear c21
      try clear c21b0
      try clear c21b1
      try clear c23
      try clear c25
      try clear c27
      try clear c29
      try clear c38
      try clear c39
      try clear c42
      try clear c51
      try clear c54
      try clear c57
      try clear c57b0
      try clear c57b1
      try clear c57b2
      try clear c64
      try clear c80
      try clear p2
      obtain ⟨kq, x101_51, rfl, HA, HJ51, HO_7, HO_8, HO_9, HO_10, HB⟩ := hcut
      cases kq with
      | zero => exact absurd HA.out (by simp [concordlaw10_VectorOrder.j1])
      | succ kj51 =>
       have H := HA.out
       clear HA
       simp only [concordlaw10_VectorOrder.j1] at H
       by_cases c91 : x101_51 = true
       ·subst c91
        have H1 : (some false) = some r := by rw [if_pos rfl] at H; exact H
        clear H
        have H := H1
        clear H1
        obtain rfl := Option.some.inj H
        go_wp2
        go_ret
        exact ⟨by first | rfl | (simp [errW_none, errW_some] <;> rfl) | (simp [*, errW_none, errW_some] <;> rfl), by repeat (first | (with_reducible first | exact HB.out | apply below_alloc | apply pw_below_drewN | apply below_drew1) | exact HB.out)⟩
       ·replace c91 := Bool.eq_false_iff.mpr c91
        subst c91
        have H1 : ((vector_Below.f t222 t225).bind fun t251 => (if t251 = true then ((vector_Below.f t225 t228).bind fun t252 => (if t252 = true then ((vector_Below.f t222 t228).bind fun t253 => (if t253 = true then ((vector_Below.f t222 t225).bind fun t254 => (if t254 = true then ((vector_Below.f t225 t222).bind fun t255 => ((concordlaw10_same.f kj51 t222 t225).bind fun t256 => (if (t255 != t256) = true then (concordlaw10_VectorOrder.j2 kj51 t222 t225 t228 t231 true) else ((vector_Below.f t222 t225).bind fun t257 => ((concordlaw10_same.f kj51 t231 t225).bind fun t258 => (concordlaw10_VectorOrder.j2 kj51 t222 t225 t228 t231 (t257 != t258))))))) else ((concordlaw10_same.f kj51 t222 t225).bind fun t259 => (if (false != t259) = true then (concordlaw10_VectorOrder.j2 kj51 t222 t225 t228 t231 true) else ((vector_Below.f t222 t225).bind fun t260 => ((concordlaw10_same.f kj51 t231 t225).bind fun t261 => (concordlaw10_VectorOrder.j2 kj51 t222 t225 t228 t231 (t260 != t261)))))))) else (concordlaw10_VectorOrder.j2 kj51 t222 t225 t228 t231 true))) else ((vector_Below.f t222 t225).bind fun t262 => (if t262 = true then ((vector_Below.f t225 t222).bind fun t263 => ((concordlaw10_same.f kj51 t222 t225).bind fun t264 => (if (t263 != t264) = true then (concordlaw10_VectorOrder.j2 kj51 t222 t225 t228 t231 true) else ((vector_Below.f t222 t225).bind fun t265 => ((concordlaw10_same.f kj51 t231 t225).bind fun t266 => (concordlaw10_VectorOrder.j2 kj51 t222 t225 t228 t231 (t265 != t266))))))) else ((concordlaw10_same.f kj51 t222 t225).bind fun t267 => (if (false != t267) = true then (concordlaw10_VectorOrder.j2 kj51 t222 t225 t228 t231 true) else ((vector_Below.f t222 t225).bind fun t268 => ((concordlaw10_same.f kj51 t231 t225).bind fun t269 => (concordlaw10_VectorOrder.j2 kj51 t222 t225 t228 t231 (t268 != t269)))))))))) else ((vector_Below.f t222 t225).bind fun t270 => (if t270 = true then ((vector_Below.f t225 t222).bind fun t271 => ((concordlaw10_same.f kj51 t222 t225).bind fun t272 => (if (t271 != t272) = true then (concordlaw10_VectorOrder.j2 kj51 t222 t225 t228 t231 true) else ((vector_Below.f t222 t225).bind fun t273 => ((concordlaw10_same.f kj51 t231 t225).bind fun t274 => (concordlaw10_VectorOrder.j2 kj51 t222 t225 t228 t231 (t273 != t274))))))) else ((concordlaw10_same.f kj51 t222 t225).bind fun t275 => (if (false != t275) = true then (concordlaw10_VectorOrder.j2 kj51 t222 t225 t228 t231 true) else ((vector_Below.f t222 t225).bind fun t276 => ((concordlaw10_same.f kj51 t231 t225).bind fun t277 => (concordlaw10_VectorOrder.j2 kj51 t222 t225 t228 t231 (t276 != t277)))))))))) = some r := by rw [if_neg (show ¬ (false = true) by decide)] at H; exact H
        clear H
        have H := H1
        clear H1
        have HC92 := Aside0.mk H
        clear H
        go_upto_region 12 with (fail)
        go_cut [138] (fun v138 wc => ∃ (kq : Nat) (x138_91 : Bool), v138 = .bool x138_91 ∧ Aside0 (concordlaw10_VectorOrder.j2 kq t222 t225 t228 t231 x138_91 = some r) ∧ Aside0 (kq ≤ kj51) ∧ Aside0 (Kd.R k35 35 wc w.heap.size (fun k_ => some k_ ≠ ((.slice Ao17 t225.length co17) : Value).ownBlock ∧ some k_ ≠ (v229 : Value).ownBlock ∧ some k_ ≠ (v233 : Value).ownBlock) (.slice Ao16 t222.length co16) t222) ∧ Aside0 (Kd.R k35 35 wc w.heap.size (fun k_ => some k_ ≠ ((.slice Ao16 t222.length co16) : Value).ownBlock ∧ some k_ ≠ (v229 : Value).ownBlock ∧ some k_ ≠ (v233 : Value).ownBlock) (.slice Ao17 t225.length co17) t225) ∧ Aside0 (Kd.R k35 35 wc w.heap.size (fun k_ => some k_ ≠ ((.slice Ao16 t222.length co16) : Value).ownBlock ∧ some k_ ≠ ((.slice Ao17 t225.length co17) : Value).ownBlock ∧ some k_ ≠ (v233 : Value).ownBlock) v229 t228) ∧ Aside0 (Kd.R k35 35 wc w.heap.size (fun k_ => some k_ ≠ ((.slice Ao16 t222.length co16) : Value).ownBlock ∧ some k_ ≠ ((.slice Ao17 t225.length co17) : Value).ownBlock ∧ some k_ ≠ (v229 : Value).ownBlock) v233 t231) ∧ Aside0 (Below w.heap.size w wc))
        case first =>
         have H := HC92.out
         clear HC92
         replace H := Option.bind_eq_some_iff.mp H
         obtain ⟨t251, A930, H⟩ := H
         replace H : (if t251 = true then ((vector_Below.f t225 t228).bind fun t252 => (if t252 = true then ((vector_Below.f t222 t228).bind fun t253 => (if t253 = true then ((vector_Below.f t222 t225).bind fun t254 => (if t254 = true then ((vector_Below.f t225 t222).bind fun t255 => ((concordlaw10_same.f kj51 t222 t225).bind fun t256 => (if (t255 != t256) = true then (concordlaw10_VectorOrder.j2 kj51 t222 t225 t228 t231 true) else ((vector_Below.f t222 t225).bind fun t257 => ((concordlaw10_same.f kj51 t231 t225).bind fun t258 => (concordlaw10_VectorOrder.j2 kj51 t222 t225 t228 t231 (t257 != t258))))))) else ((concordlaw10_same.f kj51 t222 t225).bind fun t259 => (if (false != t259) = true then (concordlaw10_VectorOrder.j2 kj51 t222 t225 t228 t231 true) else ((vector_Below.f t222 t225).bind fun t260 => ((concordlaw10_same.f kj51 t231 t225).bind fun t261 => (concordlaw10_VectorOrder.j2 kj51 t222 t225 t228 t231 (t260 != t261)))))))) else (concordlaw10_VectorOrder.j2 kj51 t222 t225 t228 t231 true))) else ((vector_Below.f t222 t225).bind fun t262 => (if t262 = true then ((vector_Below.f t225 t222).bind fun t263 => ((concordlaw10_same.f kj51 t222 t225).bind fun t264 => (if (t263 != t264) = true then (concordlaw10_VectorOrder.j2 kj51 t222 t225 t228 t231 true) else ((vector_Below.f t222 t225).bind fun t265 => ((concordlaw10_same.f kj51 t231 t225).bind fun t266 => (concordlaw10_VectorOrder.j2 kj51 t222 t225 t228 t231 (t265 != t266))))))) else ((concordlaw10_same.f kj51 t222 t225).bind fun t267 => (if (false != t267) = true then (concordlaw10_VectorOrder.j2 kj51 t222 t225 t228 t231 true) else ((vector_Below.f t222 t225).bind fun t268 => ((concordlaw10_same.f kj51 t231 t225).bind fun t269 => (concordlaw10_VectorOrder.j2 kj51 t222 t225 t228 t231 (t268 != t269)))))))))) else ((vector_Below.f t222 t225).bind fun t270 => (if t270 = true then ((vector_Below.f t225 t222).bind fun t271 => ((concordlaw10_same.f kj51 t222 t225).bind fun t272 => (if (t271 != t272) = true then (concordlaw10_VectorOrder.j2 kj51 t222 t225 t228 t231 true) else ((vector_Below.f t222 t225).bind fun t273 => ((concordlaw10_same.f kj51 t231 t225).bind fun t274 => (concordlaw10_VectorOrder.j2 kj51 t222 t225 t228 t231 (t273 != t274))))))) else ((concordlaw10_same.f kj51 t222 t225).bind fun t275 => (if (false != t275) = true then (concordlaw10_VectorOrder.j2 kj51 t222 t225 t228 t231 true) else ((vector_Below.f t222 t225).bind fun t276 => ((concordlaw10_same.f kj51 t231 t225).bind fun t277 => (concordlaw10_VectorOrder.j2 kj51 t222 t225 t228 t231 (t276 != t277))))))))) = some r := H
         have A93 := Aside0.mk A930
         clear A930
         by_cases c94 : t251 = true
         ·subst c94
          have H1 : ((vector_Below.f t225 t228).bind fun t252 => (if t252 = true then ((vector_Below.f t222 t228).bind fun t253 => (if t253 = true then ((vector_Below.f t222 t225).bind fun t254 => (if t254 = true then ((vector_Below.f t225 t222).bind fun t255 => ((concordlaw10_same.f kj51 t222 t225).bind fun t256 => (if (t255 != t256) = true then (concordlaw10_VectorOrder.j2 kj51 t222 t225 t228 t231 true) else ((vector_Below.f t222 t225).bind fun t257 => ((concordlaw10_same.f kj51 t231 t225).bind fun t258 => (concordlaw10_VectorOrder.j2 kj51 t222 t225 t228 t231 (t257 != t258))))))) else ((concordlaw10_same.f kj51 t222 t225).bind fun t259 => (if (false != t259) = true then (concordlaw10_VectorOrder.j2 kj51 t222 t225 t228 t231 true) else ((vector_Below.f t222 t225).bind fun t260 => ((concordlaw10_same.f kj51 t231 t225).bind fun t261 => (concordlaw10_VectorOrder.j2 kj51 t222 t225 t228 t231 (t260 != t261)))))))) else (concordlaw10_VectorOrder.j2 kj51 t222 t225 t228 t231 true))) else ((vector_Below.f t222 t225).bind fun t262 => (if t262 = true then ((vector_Below.f t225 t222).bind fun t263 => ((concordlaw10_same.f kj51 t222 t225).bind fun t264 => (if (t263 != t264) = true then (concordlaw10_VectorOrder.j2 kj51 t222 t225 t228 t231 true) else ((vector_Below.f t222 t225).bind fun t265 => ((concordlaw10_same.f kj51 t231 t225).bind fun t266 => (concordlaw10_VectorOrder.j2 kj51 t222 t225 t228 t231 (t265 != t266))))))) else ((concordlaw10_same.f kj51 t222 t225).bind fun t267 => (if (false != t267) = true then (concordlaw10_VectorOrder.j2 kj51 t222 t225 t228 t231 true) else ((vector_Below.f t222 t225).bind fun t268 => ((concordlaw10_same.f kj51 t231 t225).bind fun t269 => (concordlaw10_VectorOrder.j2 kj51 t222 t225 t228 t231 (t268 != t269)))))))))) = some r := by rw [if_pos rfl] at H; exact H
          clear H
          have H := H1
          clear H1
          replace H := Option.bind_eq_some_iff.mp H
          obtain ⟨t252, A950, H⟩ := H
          replace H : (if t252 = true then ((vector_Below.f t222 t228).bind fun t253 => (if t253 = true then ((vector_Below.f t222 t225).bind fun t254 => (if t254 = true then ((vector_Below.f t225 t222).bind fun t255 => ((concordlaw10_same.f kj51 t222 t225).bind fun t256 => (if (t255 != t256) = true then (concordlaw10_VectorOrder.j2 kj51 t222 t225 t228 t231 true) else ((vector_Below.f t222 t225).bind fun t257 => ((concordlaw10_same.f kj51 t231 t225).bind fun t258 => (concordlaw10_VectorOrder.j2 kj51 t222 t225 t228 t231 (t257 != t258))))))) else ((concordlaw10_same.f kj51 t222 t225).bind fun t259 => (if (false != t259) = true then (concordlaw10_VectorOrder.j2 kj51 t222 t225 t228 t231 true) else ((vector_Below.f t222 t225).bind fun t260 => ((concordlaw10_same.f kj51 t231 t225).bind fun t261 => (concordlaw10_VectorOrder.j2 kj51 t222 t225 t228 t231 (t260 != t261)))))))) else (concordlaw10_VectorOrder.j2 kj51 t222 t225 t228 t231 true))) else ((vector_Below.f t222 t225).bind fun t262 => (if t262 = true then ((vector_Below.f t225 t222).bind fun t263 => ((concordlaw10_same.f kj51 t222 t225).bind fun t264 => (if (t263 != t264) = true then (concordlaw10_VectorOrder.j2 kj51 t222 t225 t228 t231 true) else ((vector_Below.f t222 t225).bind fun t265 => ((concordlaw10_same.f kj51 t231 t225).bind fun t266 => (concordlaw10_VectorOrder.j2 kj51 t222 t225 t228 t231 (t265 != t266))))))) else ((concordlaw10_same.f kj51 t222 t225).bind fun t267 => (if (false != t267) = true then (concordlaw10_VectorOrder.j2 kj51 t222 t225 t228 t231 true) else ((vector_Below.f t222 t225).bind fun t268 => ((concordlaw10_same.f kj51 t231 t225).bind fun t269 => (concordlaw10_VectorOrder.j2 kj51 t222 t225 t228 t231 (t268 != t269))))))))) = some r := H
          have A95 := Aside0.mk A950
          clear A950
          by_cases c96 : t252 = true
          ·subst c96
           have H1 : ((vector_Below.f t222 t228).bind fun t253 => (if t253 = true then ((vector_Below.f t222 t225).bind fun t254 => (if t254 = true then ((vector_Below.f t225 t222).bind fun t255 => ((concordlaw10_same.f kj51 t222 t225).bind fun t256 => (if (t255 != t256) = true then (concordlaw10_VectorOrder.j2 kj51 t222 t225 t228 t231 true) else ((vector_Below.f t222 t225).bind fun t257 => ((concordlaw10_same.f kj51 t231 t225).bind fun t258 => (concordlaw10_VectorOrder.j2 kj51 t222 t225 t228 t231 (t257 != t258))))))) else ((concordlaw10_same.f kj51 t222 t225).bind fun t259 => (if (false != t259) = true then (concordlaw10_VectorOrder.j2 kj51 t222 t225 t228 t231 true) else ((vector_Below.f t222 t225).bind fun t260 => ((concordlaw10_same.f kj51 t231 t225).bind fun t261 => (concordlaw10_VectorOrder.j2 kj51 t222 t225 t228 t231 (t260 != t261)))))))) else (concordlaw10_VectorOrder.j2 kj51 t222 t225 t228 t231 true))) = some r := by rw [if_pos rfl] at H; exact H
           clear H
           have H := H1
           clear H1
           replace H := Option.bind_eq_some_iff.mp H
           obtain ⟨t253, A970, H⟩ := H
           replace H : (if t253 = true then ((vector_Below.f t222 t225).bind fun t254 => (if t254 = true then ((vector_Below.f t225 t222).bind fun t255 => ((concordlaw10_same.f kj51 t222 t225).bind fun t256 => (if (t255 != t256) = true then (concordlaw10_VectorOrder.j2 kj51 t222 t225 t228 t231 true) else ((vector_Below.f t222 t225).bind fun t257 => ((concordlaw10_same.f kj51 t231 t225).bind fun t258 => (concordlaw10_VectorOrder.j2 kj51 t222 t225 t228 t231 (t257 != t258))))))) else ((concordlaw10_same.f kj51 t222 t225).bind fun t259 => (if (false != t259) = true then (concordlaw10_VectorOrder.j2 kj51 t222 t225 t228 t231 true) else ((vector_Below.f t222 t225).bind fun t260 => ((concordlaw10_same.f kj51 t231 t225).bind fun t261 => (concordlaw10_VectorOrder.j2 kj51 t222 t225 t228 t231 (t260 != t261)))))))) else (concordlaw10_VectorOrder.j2 kj51 t222 t225 t228 t231 true)) = some r := H
           have A97 := Aside0.mk A970
           clear A970
           by_cases c98 : t253 = true
           ·subst c98
            have H1 : ((vector_Below.f t222 t225).bind fun t254 => (if t254 = true then ((vector_Below.f t225 t222).bind fun t255 => ((concordlaw10_same.f kj51 t222 t225).bind fun t256 => (if (t255 != t256) = true then (concordlaw10_VectorOrder.j2 kj51 t222 t225 t228 t231 true) else ((vector_Below.f t222 t225).bind fun t257 => ((concordlaw10_same.f kj51 t231 t225).bind fun t258 => (concordlaw10_VectorOrder.j2 kj51 t222 t225 t228 t231 (t257 != t258))))))) else ((concordlaw10_same.f kj51 t222 t225).bind fun t259 => (if (false != t259) = true then (concordlaw10_VectorOrder.j2 kj51 t222 t225 t228 t231 true) else ((vector_Below.f t222 t225).bind fun t260 => ((concordlaw10_same.f kj51 t231 t225).bind fun t261 => (concordlaw10_VectorOrder.j2 kj51 t222 t225 t228 t231 (t260 != t261)))))))) = some r := by rw [if_pos rfl] at H; exact H
            clear H
            have H := H1
            clear H1
            replace H := Option.bind_eq_some_iff.mp H
            obtain ⟨t254, A990, H⟩ := H
            have hdup3 : true = t254 := Option.some.inj (A93.out.symm.trans A990)
            subst hdup3
            replace H : (if true = true then ((vector_Below.f t225 t222).bind fun t255 => ((concordlaw10_same.f kj51 t222 t225).bind fun t256 => (if (t255 != t256) = true then (concordlaw10_VectorOrder.j2 kj51 t222 t225 t228 t231 true) else ((vector_Below.f t222 t225).bind fun t257 => ((concordlaw10_same.f kj51 t231 t225).bind fun t258 => (concordlaw10_VectorOrder.j2 kj51 t222 t225 t228 t231 (t257 != t258))))))) else ((concordlaw10_same.f kj51 t222 t225).bind fun t259 => (if (false != t259) = true then (concordlaw10_VectorOrder.j2 kj51 t222 t225 t228 t231 true) else ((vector_Below.f t222 t225).bind fun t260 => ((concordlaw10_same.f kj51 t231 t225).bind fun t261 => (concordlaw10_VectorOrder.j2 kj51 t222 t225 t228 t231 (t260 != t261))))))) = some r := H
            have A99 := Aside0.mk A990
            clear A990
            have H1 : ((vector_Below.f t225 t222).bind fun t255 => ((concordlaw10_same.f kj51 t222 t225).bind fun t256 => (if (t255 != t256) = true then (concordlaw10_VectorOrder.j2 kj51 t222 t225 t228 t231 true) else ((vector_Below.f t222 t225).bind fun t257 => ((concordlaw10_same.f kj51 t231 t225).bind fun t258 => (concordlaw10_VectorOrder.j2 kj51 t222 t225 t228 t231 (t257 != t258))))))) = some r := by rw [if_pos rfl] at H; exact H
            clear H
            have H := H1
            clear H1
            replace H := Option.bind_eq_some_iff.mp H
            obtain ⟨t255, A1010, H⟩ := H
            replace H : ((concordlaw10_same.f kj51 t222 t225).bind fun t256 => (if (t255 != t256) = true then (concordlaw10_VectorOrder.j2 kj51 t222 t225 t228 t231 true) else ((vector_Below.f t222 t225).bind fun t257 => ((concordlaw10_same.f kj51 t231 t225).bind fun t258 => (concordlaw10_VectorOrder.j2 kj51 t222 t225 t228 t231 (t257 != t258)))))) = some r := H
            have A101 := Aside0.mk A1010
            clear A1010
            replace H := Option.bind_eq_some_iff.mp H
            obtain ⟨t256, A1020, H⟩ := H
            replace H : (if (t255 != t256) = true then (concordlaw10_VectorOrder.j2 kj51 t222 t225 t228 t231 true) else ((vector_Below.f t222 t225).bind fun t257 => ((concordlaw10_same.f kj51 t231 t225).bind fun t258 => (concordlaw10_VectorOrder.j2 kj51 t222 t225 t228 t231 (t257 != t258))))) = some r := H
            have A102 := Aside0.mk A1020
            clear A1020
            by_cases c103 : (t255 != t256) = true
            ·rw [if_pos c103] at H
             have c103b0 : (t255 != t256) = true := c103
             (try (have c103b1 : decide (t255 = t256) = false := by simpa using c103))
             (try (have c103b2 : (t255 == t256) = false := by simpa using c103))
             (try (have c103b3 : ¬ (t255 = t256) := by simpa using c103))
             clear c103
             (first | rw [c103b0] | (simp only [i64_w, i32_w]; rw [c103b0]) | skip)
             have H' := Aside0.mk H
             clear H
             as_aux_lemma =>
              go_wp2_with (first | ((with_reducible refine gate_callee (f := 42) rfl ?_); refine goesL_ (some 104) rfl rfl Try.func42 (by kernel_rfl) rfl #[.slice Ao16 t222.length co16, .slice Ao17 t225.length co17] rfl (by (try simp only [List.map_toArray, List.map_cons, List.map_nil]); first | done | rfl | (simp only [List.length_drop, List.length_take]; rfl)) ?_; (with_reducible refine (vector_Below.calls _ _ t222 _ _ t225 _ _ ?side1 ?side2 ?side3 ?side4 A93.out).mono ?_); (case side1 => exact sC HO_7); (case side2 => exact sN HO_7); (case side3 => exact sC HO_8); (case side4 => exact sN HO_8); rintro e w104 ⟨rfl, hb⟩; refine ⟨_, rfl, ?_⟩; have n0_ := sBe HO_7 hb; have n1_ := sBe HO_8 hb; have n2_ := sBe HO_9 hb; have n3_ := sBe HO_10 hb; have n4_ := sSt HB hb; clear HO_7; clear HO_8; clear HO_9; clear HO_10; clear HB; have HO_7 := n0_; have HO_8 := n1_; have HO_9 := n2_; have HO_10 := n3_; have HB := n4_; clear n0_ n1_ n2_ n3_ n4_; (try clear hb); (try clear hb2); (try clear hk); (try clear hi); obtain ⟨Ao105, co105, eo105⟩ := Kd.R_slice HO_9.out; subst eo105) | (go_at_call 42; (with_reducible refine (vector_Below.calls _ _ t225 _ _ t228 _ _ ?side1 ?side2 ?side3 ?side4 A95.out).mono ?_); (case side1 => exact sC HO_8); (case side2 => exact sN HO_8); (case side3 => exact sC HO_9); (case side4 => exact sN HO_9); rintro e w106 ⟨rfl, hb⟩; have n0_ := sBe HO_7 hb; have n1_ := sBe HO_8 hb; have n2_ := sBe HO_9 hb; have n3_ := sBe HO_10 hb; have n4_ := sSt HB hb; clear HO_7; clear HO_8; clear HO_9; clear HO_10; clear HB; have HO_7 := n0_; have HO_8 := n1_; have HO_9 := n2_; have HO_10 := n3_; have HB := n4_; clear n0_ n1_ n2_ n3_ n4_; (try clear hb); (try clear hb2); (try clear hk); (try clear hi)) | (go_at_call 42; (with_reducible refine (vector_Below.calls _ _ t222 _ _ t228 _ _ ?side1 ?side2 ?side3 ?side4 A97.out).mono ?_); (case side1 => exact sC HO_7); (case side2 => exact sN HO_7); (case side3 => exact sC HO_9); (case side4 => exact sN HO_9); rintro e w107 ⟨rfl, hb⟩; have n0_ := sBe HO_7 hb; have n1_ := sBe HO_8 hb; have n2_ := sBe HO_9 hb; have n3_ := sBe HO_10 hb; have n4_ := sSt HB hb; clear HO_7; clear HO_8; clear HO_9; clear HO_10; clear HB; have HO_7 := n0_; have HO_8 := n1_; have HO_9 := n2_; have HO_10 := n3_; have HB := n4_; clear n0_ n1_ n2_ n3_ n4_; (try clear hb); (try clear hb2); (try clear hk); (try clear hi)) | (go_at_call 42; (with_reducible refine (vector_Below.calls _ _ t222 _ _ t225 _ _ ?side1 ?side2 ?side3 ?side4 A99.out).mono ?_); (case side1 => exact sC HO_7); (case side2 => exact sN HO_7); (case side3 => exact sC HO_8); (case side4 => exact sN HO_8); rintro e w108 ⟨rfl, hb⟩; have n0_ := sBe HO_7 hb; have n1_ := sBe HO_8 hb; have n2_ := sBe HO_9 hb; have n3_ := sBe HO_10 hb; have n4_ := sSt HB hb; clear HO_7; clear HO_8; clear HO_9; clear HO_10; clear HB; have HO_7 := n0_; have HO_8 := n1_; have HO_9 := n2_; have HO_10 := n3_; have HB := n4_; clear n0_ n1_ n2_ n3_ n4_; (try clear hb); (try clear hb2); (try clear hk); (try clear hi)) | (go_at_call 42; (with_reducible refine (vector_Below.calls _ _ t225 _ _ t222 _ _ ?side1 ?side2 ?side3 ?side4 A101.out).mono ?_); (case side1 => exact sC HO_8); (case side2 => exact sN HO_8); (case side3 => exact sC HO_7); (case side4 => exact sN HO_7); rintro e w109 ⟨rfl, hb⟩; have n0_ := sBe HO_7 hb; have n1_ := sBe HO_8 hb; have n2_ := sBe HO_9 hb; have n3_ := sBe HO_10 hb; have n4_ := sSt HB hb; clear HO_7; clear HO_8; clear HO_9; clear HO_10; clear HB; have HO_7 := n0_; have HO_8 := n1_; have HO_9 := n2_; have HO_10 := n3_; have HB := n4_; clear n0_ n1_ n2_ n3_ n4_; (try clear hb); (try clear hb2); (try clear hk); (try clear hi)) | (go_at_call 40; (with_reducible refine (concordlaw10_same.calls kj51 _ _ t222 _ _ t225 t256 _ ?side1 ?side2 ?side3 ?side4 A102.out).mono ?_); (case side1 => exact sC HO_7); (case side2 => exact sN HO_7); (case side3 => exact sC HO_8); (case side4 => exact sN HO_8); rintro e w' ⟨rfl, ⟨nd, rfl⟩⟩))
              go_meet
              case rel => exact ⟨_, (true), (by first | rfl | (simp; done) | (simp [*]; done)), H', ⟨by have := HJ10.out; have := HJ51.out; first | omega | exact Nat.le_refl _⟩, ⟨by (with_reducible repeat (first | apply Kd.R_alloc | apply Kd.R_drewN | apply Kd.R_drew)); exact HO_7.out⟩, ⟨by (with_reducible repeat (first | apply Kd.R_alloc | apply Kd.R_drewN | apply Kd.R_drew)); exact HO_8.out⟩, ⟨by (with_reducible repeat (first | apply Kd.R_alloc | apply Kd.R_drewN | apply Kd.R_drew)); exact HO_9.out⟩, ⟨by (with_reducible repeat (first | apply Kd.R_alloc | apply Kd.R_drewN | apply Kd.R_drew)); exact HO_10.out⟩, ⟨by repeat (first | (with_reducible first | exact HB.out | apply below_alloc | apply pw_below_drewN | apply below_drew1) | exact HB.out)⟩⟩
            ·rw [if_neg c103] at H
             have c103b0 : (t255 != t256) = false := by simpa using c103
             (try (have c103b1 : decide (t255 = t256) = true := by simpa using c103))
             (try (have c103b2 : (t255 == t256) = true := by simpa using c103))
             clear c103
             (first | rw [c103b0] | (simp only [i64_w, i32_w]; rw [c103b0]) | skip)
             replace H := Option.bind_eq_some_iff.mp H
             obtain ⟨t257, A1100, H⟩ := H
             have hdup4 : true = t257 := Option.some.inj (A93.out.symm.trans A1100)
             subst hdup4
             replace H : ((concordlaw10_same.f kj51 t231 t225).bind fun t258 => (concordlaw10_VectorOrder.j2 kj51 t222 t225 t228 t231 (true != t258))) = some r := H
             have A110 := Aside0.mk A1100
             clear A1100
             replace H := Option.bind_eq_some_iff.mp H
             obtain ⟨t258, A1110, H⟩ := H
             replace H : (concordlaw10_VectorOrder.j2 kj51 t222 t225 t228 t231 (true != t258)) = some r := H
             have A111 := Aside0.mk A1110
             clear A1110
             have H' := Aside0.mk H
             clear H
             as_aux_lemma =>
              go_wp2_with (first | ((with_reducible refine gate_callee (f := 42) rfl ?_); refine goesL_ (some 104) rfl rfl Try.func42 (by kernel_rfl) rfl #[.slice Ao16 t222.length co16, .slice Ao17 t225.length co17] rfl (by (try simp only [List.map_toArray, List.map_cons, List.map_nil]); first | done | rfl | (simp only [List.length_drop, List.length_take]; rfl)) ?_; (with_reducible refine (vector_Below.calls _ _ t222 _ _ t225 _ _ ?side1 ?side2 ?side3 ?side4 A93.out).mono ?_); (case side1 => exact sC HO_7); (case side2 => exact sN HO_7); (case side3 => exact sC HO_8); (case side4 => exact sN HO_8); rintro e w112 ⟨rfl, hb⟩; refine ⟨_, rfl, ?_⟩; have n0_ := sBe HO_7 hb; have n1_ := sBe HO_8 hb; have n2_ := sBe HO_9 hb; have n3_ := sBe HO_10 hb; have n4_ := sSt HB hb; clear HO_7; clear HO_8; clear HO_9; clear HO_10; clear HB; have HO_7 := n0_; have HO_8 := n1_; have HO_9 := n2_; have HO_10 := n3_; have HB := n4_; clear n0_ n1_ n2_ n3_ n4_; (try clear hb); (try clear hb2); (try clear hk); (try clear hi); obtain ⟨Ao113, co113, eo113⟩ := Kd.R_slice HO_9.out; subst eo113) | (go_at_call 42; (with_reducible refine (vector_Below.calls _ _ t225 _ _ t228 _ _ ?side1 ?side2 ?side3 ?side4 A95.out).mono ?_); (case side1 => exact sC HO_8); (case side2 => exact sN HO_8); (case side3 => exact sC HO_9); (case side4 => exact sN HO_9); rintro e w114 ⟨rfl, hb⟩; have n0_ := sBe HO_7 hb; have n1_ := sBe HO_8 hb; have n2_ := sBe HO_9 hb; have n3_ := sBe HO_10 hb; have n4_ := sSt HB hb; clear HO_7; clear HO_8; clear HO_9; clear HO_10; clear HB; have HO_7 := n0_; have HO_8 := n1_; have HO_9 := n2_; have HO_10 := n3_; have HB := n4_; clear n0_ n1_ n2_ n3_ n4_; (try clear hb); (try clear hb2); (try clear hk); (try clear hi)) | (go_at_call 42; (with_reducible refine (vector_Below.calls _ _ t222 _ _ t228 _ _ ?side1 ?side2 ?side3 ?side4 A97.out).mono ?_); (case side1 => exact sC HO_7); (case side2 => exact sN HO_7); (case side3 => exact sC HO_9); (case side4 => exact sN HO_9); rintro e w115 ⟨rfl, hb⟩; have n0_ := sBe HO_7 hb; have n1_ := sBe HO_8 hb; have n2_ := sBe HO_9 hb; have n3_ := sBe HO_10 hb; have n4_ := sSt HB hb; clear HO_7; clear HO_8; clear HO_9; clear HO_10; clear HB; have HO_7 := n0_; have HO_8 := n1_; have HO_9 := n2_; have HO_10 := n3_; have HB := n4_; clear n0_ n1_ n2_ n3_ n4_; (try clear hb); (try clear hb2); (try clear hk); (try clear hi)) | (go_at_call 42; (with_reducible refine (vector_Below.calls _ _ t222 _ _ t225 _ _ ?side1 ?side2 ?side3 ?side4 A99.out).mono ?_); (case side1 => exact sC HO_7); (case side2 => exact sN HO_7); (case side3 => exact sC HO_8); (case side4 => exact sN HO_8); rintro e w116 ⟨rfl, hb⟩; have n0_ := sBe HO_7 hb; have n1_ := sBe HO_8 hb; have n2_ := sBe HO_9 hb; have n3_ := sBe HO_10 hb; have n4_ := sSt HB hb; clear HO_7; clear HO_8; clear HO_9; clear HO_10; clear HB; have HO_7 := n0_; have HO_8 := n1_; have HO_9 := n2_; have HO_10 := n3_; have HB := n4_; clear n0_ n1_ n2_ n3_ n4_; (try clear hb); (try clear hb2); (try clear hk); (try clear hi)) | (go_at_call 42; (with_reducible refine (vector_Below.calls _ _ t225 _ _ t222 _ _ ?side1 ?side2 ?side3 ?side4 A101.out).mono ?_); (case side1 => exact sC HO_8); (case side2 => exact sN HO_8); (case side3 => exact sC HO_7); (case side4 => exact sN HO_7); rintro e w117 ⟨rfl, hb⟩; have n0_ := sBe HO_7 hb; have n1_ := sBe HO_8 hb; have n2_ := sBe HO_9 hb; have n3_ := sBe HO_10 hb; have n4_ := sSt HB hb; clear HO_7; clear HO_8; clear HO_9; clear HO_10; clear HB; have HO_7 := n0_; have HO_8 := n1_; have HO_9 := n2_; have HO_10 := n3_; have HB := n4_; clear n0_ n1_ n2_ n3_ n4_; (try clear hb); (try clear hb2); (try clear hk); (try clear hi)) | (go_at_call 40; (with_reducible refine (concordlaw10_same.calls kj51 _ _ t222 _ _ t225 t256 _ ?side1 ?side2 ?side3 ?side4 A102.out).mono ?_); (case side1 => exact sC HO_7); (case side2 => exact sN HO_7); (case side3 => exact sC HO_8); (case side4 => exact sN HO_8); rintro e w' ⟨rfl, ⟨nd, rfl⟩⟩; obtain ⟨Ao119, co119, eo119⟩ := Kd.R_slice HO_10.out; subst eo119) | (go_at_call 42; (with_reducible refine (vector_Below.calls _ _ t222 _ _ t225 _ _ ?side1 ?side2 ?side3 ?side4 A110.out).mono ?_); (case side1 => exact sC HO_7); (case side2 => exact sN HO_7); (case side3 => exact sC HO_8); (case side4 => exact sN HO_8); rintro e w118 ⟨rfl, hb⟩; have n0_ := sBe HO_7 hb; have n1_ := sBe HO_8 hb; have n2_ := sBe HO_9 hb; have n3_ := sBe HO_10 hb; have n4_ := sSt HB hb; clear HO_7; clear HO_8; clear HO_9; clear HO_10; clear HB; have HO_7 := n0_; have HO_8 := n1_; have HO_9 := n2_; have HO_10 := n3_; have HB := n4_; clear n0_ n1_ n2_ n3_ n4_; (try clear hb); (try clear hb2); (try clear hk); (try clear hi)) | (go_at_call 40; (with_reducible refine (concordlaw10_same.calls kj51 _ _ t231 _ _ t225 t258 _ ?side1 ?side2 ?side3 ?side4 A111.out).mono ?_); (case side1 => exact sC HO_10); (case side2 => exact sN HO_10); (case side3 => exact sC HO_8); (case side4 => exact sN HO_8); rintro e w' ⟨rfl, ⟨nd, rfl⟩⟩))
              go_meet
              case rel => exact ⟨_, ((true != t258)), (by first | rfl | (simp; done) | (simp [*]; done)), H', ⟨by have := HJ10.out; have := HJ51.out; first | omega | exact Nat.le_refl _⟩, ⟨by (with_reducible repeat (first | apply Kd.R_alloc | apply Kd.R_drewN | apply Kd.R_drew)); exact HO_7.out⟩, ⟨by (with_reducible repeat (first | apply Kd.R_alloc | apply Kd.R_drewN | apply Kd.R_drew)); exact HO_8.out⟩, ⟨by (with_reducible repeat (first | apply Kd.R_alloc | apply Kd.R_drewN | apply Kd.R_drew)); exact HO_9.out⟩, ⟨by (with_reducible repeat (first | apply Kd.R_alloc | apply Kd.R_drewN | apply Kd.R_drew)); exact HO_10.out⟩, ⟨by repeat (first | (with_reducible first | exact HB.out | apply below_alloc | apply pw_below_drewN | apply below_drew1) | exact HB.out)⟩⟩
           ·replace c98 := Bool.eq_false_iff.mpr c98
            subst c98
            have H1 : (concordlaw10_VectorOrder.j2 kj51 t222 t225 t228 t231 true) = some r := by rw [if_neg (show ¬ (false = true) by decide)] at H; exact H
            clear H
            have H := H1
            clear H1
            have H' := Aside0.mk H
            clear H
            as_aux_lemma =>
             go_wp2_with (first | ((with_reducible refine gate_callee (f := 42) rfl ?_); refine goesL_ (some 104) rfl rfl Try.func42 (by kernel_rfl) rfl #[.slice Ao16 t222.length co16, .slice Ao17 t225.length co17] rfl (by (try simp only [List.map_toArray, List.map_cons, List.map_nil]); first | done | rfl | (simp only [List.length_drop, List.length_take]; rfl)) ?_; (with_reducible refine (vector_Below.calls _ _ t222 _ _ t225 _ _ ?side1 ?side2 ?side3 ?side4 A93.out).mono ?_); (case side1 => exact sC HO_7); (case side2 => exact sN HO_7); (case side3 => exact sC HO_8); (case side4 => exact sN HO_8); rintro e w136 ⟨rfl, hb⟩; refine ⟨_, rfl, ?_⟩; have n0_ := sBe HO_7 hb; have n1_ := sBe HO_8 hb; have n2_ := sBe HO_9 hb; have n3_ := sBe HO_10 hb; have n4_ := sSt HB hb; clear HO_7; clear HO_8; clear HO_9; clear HO_10; clear HB; have HO_7 := n0_; have HO_8 := n1_; have HO_9 := n2_; have HO_10 := n3_; have HB := n4_; clear n0_ n1_ n2_ n3_ n4_; (try clear hb); (try clear hb2); (try clear hk); (try clear hi); obtain ⟨Ao137, co137, eo137⟩ := Kd.R_slice HO_9.out; subst eo137) | (go_at_call 42; (with_reducible refine (vector_Below.calls _ _ t225 _ _ t228 _ _ ?side1 ?side2 ?side3 ?side4 A95.out).mono ?_); (case side1 => exact sC HO_8); (case side2 => exact sN HO_8); (case side3 => exact sC HO_9); (case side4 => exact sN HO_9); rintro e w138 ⟨rfl, hb⟩; have n0_ := sBe HO_7 hb; have n1_ := sBe HO_8 hb; have n2_ := sBe HO_9 hb; have n3_ := sBe HO_10 hb; have n4_ := sSt HB hb; clear HO_7; clear HO_8; clear HO_9; clear HO_10; clear HB; have HO_7 := n0_; have HO_8 := n1_; have HO_9 := n2_; have HO_10 := n3_; have HB := n4_; clear n0_ n1_ n2_ n3_ n4_; (try clear hb); (try clear hb2); (try clear hk); (try clear hi)) | (go_at_call 42; (with_reducible refine (vector_Below.calls _ _ t222 _ _ t228 _ _ ?side1 ?side2 ?side3 ?side4 A97.out).mono ?_); (case side1 => exact sC HO_7); (case side2 => exact sN HO_7); (case side3 => exact sC HO_9); (case side4 => exact sN HO_9); rintro e w139 ⟨rfl, hb⟩; have n0_ := sBe HO_7 hb; have n1_ := sBe HO_8 hb; have n2_ := sBe HO_9 hb; have n3_ := sBe HO_10 hb; have n4_ := sSt HB hb; clear HO_7; clear HO_8; clear HO_9; clear HO_10; clear HB; have HO_7 := n0_; have HO_8 := n1_; have HO_9 := n2_; have HO_10 := n3_; have HB := n4_; clear n0_ n1_ n2_ n3_ n4_; (try clear hb); (try clear hb2); (try clear hk); (try clear hi)))
             go_meet
             case rel => exact ⟨_, (true), (by first | rfl | (simp; done) | (simp [*]; done)), H', ⟨by have := HJ10.out; have := HJ51.out; first | omega | exact Nat.le_refl _⟩, ⟨by (with_reducible repeat (first | apply Kd.R_alloc | apply Kd.R_drewN | apply Kd.R_drew)); exact HO_7.out⟩, ⟨by (with_reducible repeat (first | apply Kd.R_alloc | apply Kd.R_drewN | apply Kd.R_drew)); exact HO_8.out⟩, ⟨by (with_reducible repeat (first | apply Kd.R_alloc | apply Kd.R_drewN | apply Kd.R_drew)); exact HO_9.out⟩, ⟨by (with_reducible repeat (first | apply Kd.R_alloc | apply Kd.R_drewN | apply Kd.R_drew)); exact HO_10.out⟩, ⟨by repeat (first | (with_reducible first | exact HB.out | apply below_alloc | apply pw_below_drewN | apply below_drew1) | exact HB.out)⟩⟩
          ·replace c96 := Bool.eq_false_iff.mpr c96
           subst c96
           have H1 : ((vector_Below.f t222 t225).bind fun t262 => (if t262 = true then ((vector_Below.f t225 t222).bind fun t263 => ((concordlaw10_same.f kj51 t222 t225).bind fun t264 => (if (t263 != t264) = true then (concordlaw10_VectorOrder.j2 kj51 t222 t225 t228 t231 true) else ((vector_Below.f t222 t225).bind fun t265 => ((concordlaw10_same.f kj51 t231 t225).bind fun t266 => (concordlaw10_VectorOrder.j2 kj51 t222 t225 t228 t231 (t265 != t266))))))) else ((concordlaw10_same.f kj51 t222 t225).bind fun t267 => (if (false != t267) = true then (concordlaw10_VectorOrder.j2 kj51 t222 t225 t228 t231 true) else ((vector_Below.f t222 t225).bind fun t268 => ((concordlaw10_same.f kj51 t231 t225).bind fun t269 => (concordlaw10_VectorOrder.j2 kj51 t222 t225 t228 t231 (t268 != t269)))))))) = some r := by rw [if_neg (show ¬ (false = true) by decide)] at H; exact H
           clear H
           have H := H1
           clear H1
           replace H := Option.bind_eq_some_iff.mp H
           obtain ⟨t262, A1400, H⟩ := H
           have hdup5 : true = t262 := Option.some.inj (A93.out.symm.trans A1400)
           subst hdup5
           replace H : (if true = true then ((vector_Below.f t225 t222).bind fun t263 => ((concordlaw10_same.f kj51 t222 t225).bind fun t264 => (if (t263 != t264) = true then (concordlaw10_VectorOrder.j2 kj51 t222 t225 t228 t231 true) else ((vector_Below.f t222 t225).bind fun t265 => ((concordlaw10_same.f kj51 t231 t225).bind fun t266 => (concordlaw10_VectorOrder.j2 kj51 t222 t225 t228 t231 (t265 != t266))))))) else ((concordlaw10_same.f kj51 t222 t225).bind fun t267 => (if (false != t267) = true then (concordlaw10_VectorOrder.j2 kj51 t222 t225 t228 t231 true) else ((vector_Below.f t222 t225).bind fun t268 => ((concordlaw10_same.f kj51 t231 t225).bind fun t269 => (concordlaw10_VectorOrder.j2 kj51 t222 t225 t228 t231 (t268 != t269))))))) = some r := H
           have A140 := Aside0.mk A1400
           clear A1400
           have H1 : ((vector_Below.f t225 t222).bind fun t263 => ((concordlaw10_same.f kj51 t222 t225).bind fun t264 => (if (t263 != t264) = true then (concordlaw10_VectorOrder.j2 kj51 t222 t225 t228 t231 true) else ((vector_Below.f t222 t225).bind fun t265 => ((concordlaw10_same.f kj51 t231 t225).bind fun t266 => (concordlaw10_VectorOrder.j2 kj51 t222 t225 t228 t231 (t265 != t266))))))) = some r := by rw [if_pos rfl] at H; exact H
           clear H
           have H := H1
           clear H1
           replace H := Option.bind_eq_some_iff.mp H
           obtain ⟨t263, A1420, H⟩ := H
           replace H : ((concordlaw10_same.f kj51 t222 t225).bind fun t264 => (if (t263 != t264) = true then (concordlaw10_VectorOrder.j2 kj51 t222 t225 t228 t231 true) else ((vector_Below.f t222 t225).bind fun t265 => ((concordlaw10_same.f kj51 t231 t225).bind fun t266 => (concordlaw10_VectorOrder.j2 kj51 t222 t225 t228 t231 (t265 != t266)))))) = some r := H
           have A142 := Aside0.mk A1420
           clear A1420
           replace H := Option.bind_eq_some_iff.mp H
           obtain ⟨t264, A1430, H⟩ := H
           replace H : (if (t263 != t264) = true then (concordlaw10_VectorOrder.j2 kj51 t222 t225 t228 t231 true) else ((vector_Below.f t222 t225).bind fun t265 => ((concordlaw10_same.f kj51 t231 t225).bind fun t266 => (concordlaw10_VectorOrder.j2 kj51 t222 t225 t228 t231 (t265 != t266))))) = some r := H
           have A143 := Aside0.mk A1430
           clear A1430
           by_cases c144 : (t263 != t264) = true
           ·rw [if_pos c144] at H
            have c144b0 : (t263 != t264) = true := c144
            (try (have c144b1 : decide (t263 = t264) = false := by simpa using c144))
            (try (have c144b2 : (t263 == t264) = false := by simpa using c144))
            (try (have c144b3 : ¬ (t263 = t264) := by simpa using c144))
            clear c144
            have H' := Aside0.mk H
            clear H
            as_aux_lemma =>
             go_wp2_with (first | ((with_reducible refine gate_callee (f := 42) rfl ?_); refine goesL_ (some 104) rfl rfl Try.func42 (by kernel_rfl) rfl #[.slice Ao16 t222.length co16, .slice Ao17 t225.length co17] rfl (by (try simp only [List.map_toArray, List.map_cons, List.map_nil]); first | done | rfl | (simp only [List.length_drop, List.length_take]; rfl)) ?_; (with_reducible refine (vector_Below.calls _ _ t222 _ _ t225 _ _ ?side1 ?side2 ?side3 ?side4 A93.out).mono ?_); (case side1 => exact sC HO_7); (case side2 => exact sN HO_7); (case side3 => exact sC HO_8); (case side4 => exact sN HO_8); rintro e w145 ⟨rfl, hb⟩; refine ⟨_, rfl, ?_⟩; have n0_ := sBe HO_7 hb; have n1_ := sBe HO_8 hb; have n2_ := sBe HO_9 hb; have n3_ := sBe HO_10 hb; have n4_ := sSt HB hb; clear HO_7; clear HO_8; clear HO_9; clear HO_10; clear HB; have HO_7 := n0_; have HO_8 := n1_; have HO_9 := n2_; have HO_10 := n3_; have HB := n4_; clear n0_ n1_ n2_ n3_ n4_; (try clear hb); (try clear hb2); (try clear hk); (try clear hi); obtain ⟨Ao146, co146, eo146⟩ := Kd.R_slice HO_9.out; subst eo146) | (go_at_call 42; (with_reducible refine (vector_Below.calls _ _ t225 _ _ t228 _ _ ?side1 ?side2 ?side3 ?side4 A95.out).mono ?_); (case side1 => exact sC HO_8); (case side2 => exact sN HO_8); (case side3 => exact sC HO_9); (case side4 => exact sN HO_9); rintro e w147 ⟨rfl, hb⟩; have n0_ := sBe HO_7 hb; have n1_ := sBe HO_8 hb; have n2_ := sBe HO_9 hb; have n3_ := sBe HO_10 hb; have n4_ := sSt HB hb; clear HO_7; clear HO_8; clear HO_9; clear HO_10; clear HB; have HO_7 := n0_; have HO_8 := n1_; have HO_9 := n2_; have HO_10 := n3_; have HB := n4_; clear n0_ n1_ n2_ n3_ n4_; (try clear hb); (try clear hb2); (try clear hk); (try clear hi)) | (go_at_call 42; (with_reducible refine (vector_Below.calls _ _ t222 _ _ t225 _ _ ?side1 ?side2 ?side3 ?side4 A140.out).mono ?_); (case side1 => exact sC HO_7); (case side2 => exact sN HO_7); (case side3 => exact sC HO_8); (case side4 => exact sN HO_8); rintro e w148 ⟨rfl, hb⟩; have n0_ := sBe HO_7 hb; have n1_ := sBe HO_8 hb; have n2_ := sBe HO_9 hb; have n3_ := sBe HO_10 hb; have n4_ := sSt HB hb; clear HO_7; clear HO_8; clear HO_9; clear HO_10; clear HB; have HO_7 := n0_; have HO_8 := n1_; have HO_9 := n2_; have HO_10 := n3_; have HB := n4_; clear n0_ n1_ n2_ n3_ n4_; (try clear hb); (try clear hb2); (try clear hk); (try clear hi)) | (go_at_call 42; (with_reducible refine (vector_Below.calls _ _ t225 _ _ t222 _ _ ?side1 ?side2 ?side3 ?side4 A142.out).mono ?_); (case side1 => exact sC HO_8); (case side2 => exact sN HO_8); (case side3 => exact sC HO_7); (case side4 => exact sN HO_7); rintro e w149 ⟨rfl, hb⟩; have n0_ := sBe HO_7 hb; have n1_ := sBe HO_8 hb; have n2_ := sBe HO_9 hb; have n3_ := sBe HO_10 hb; have n4_ := sSt HB hb; clear HO_7; clear HO_8; clear HO_9; clear HO_10; clear HB; have HO_7 := n0_; have HO_8 := n1_; have HO_9 := n2_; have HO_10 := n3_; have HB := n4_; clear n0_ n1_ n2_ n3_ n4_; (try clear hb); (try clear hb2); (try clear hk); (try clear hi)) | (go_at_call 40; (with_reducible refine (concordlaw10_same.calls kj51 _ _ t222 _ _ t225 t264 _ ?side1 ?side2 ?side3 ?side4 A143.out).mono ?_); (case side1 => exact sC HO_7); (case side2 => exact sN HO_7); (case side3 => exact sC HO_8); (case side4 => exact sN HO_8); rintro e w' ⟨rfl, ⟨nd, rfl⟩⟩))
             go_meet
             case rel => exact ⟨_, (true), (by first | rfl | (simp; done) | (simp [*]; done)), H', ⟨by have := HJ10.out; have := HJ51.out; first | omega | exact Nat.le_refl _⟩, ⟨by (with_reducible repeat (first | apply Kd.R_alloc | apply Kd.R_drewN | apply Kd.R_drew)); exact HO_7.out⟩, ⟨by (with_reducible repeat (first | apply Kd.R_alloc | apply Kd.R_drewN | apply Kd.R_drew)); exact HO_8.out⟩, ⟨by (with_reducible repeat (first | apply Kd.R_alloc | apply Kd.R_drewN | apply Kd.R_drew)); exact HO_9.out⟩, ⟨by (with_reducible repeat (first | apply Kd.R_alloc | apply Kd.R_drewN | apply Kd.R_drew)); exact HO_10.out⟩, ⟨by repeat (first | (with_reducible first | exact HB.out | apply below_alloc | apply pw_below_drewN | apply below_drew1) | exact HB.out)⟩⟩
           ·rw [if_neg c144] at H
            have c144b0 : (t263 != t264) = false := by simpa using c144
            (try (have c144b1 : decide (t263 = t264) = true := by simpa using c144))
            (try (have c144b2 : (t263 == t264) = true := by simpa using c144))
            clear c144
            replace H := Option.bind_eq_some_iff.mp H
            obtain ⟨t265, A1500, H⟩ := H
            have hdup6 : true = t265 := Option.some.inj (A93.out.symm.trans A1500)
            subst hdup6
            replace H : ((concordlaw10_same.f kj51 t231 t225).bind fun t266 => (concordlaw10_VectorOrder.j2 kj51 t222 t225 t228 t231 (true != t266))) = some r := H
            have A150 := Aside0.mk A1500
            clear A1500
            replace H := Option.bind_eq_some_iff.mp H
            obtain ⟨t266, A1510, H⟩ := H
            replace H : (concordlaw10_VectorOrder.j2 kj51 t222 t225 t228 t231 (true != t266)) = some r := H
            have A151 := Aside0.mk A1510
            clear A1510
            have H' := Aside0.mk H
            clear H
            as_aux_lemma =>
             go_wp2_with (first | ((with_reducible refine gate_callee (f := 42) rfl ?_); refine goesL_ (some 104) rfl rfl Try.func42 (by kernel_rfl) rfl #[.slice Ao16 t222.length co16, .slice Ao17 t225.length co17] rfl (by (try simp only [List.map_toArray, List.map_cons, List.map_nil]); first | done | rfl | (simp only [List.length_drop, List.length_take]; rfl)) ?_; (with_reducible refine (vector_Below.calls _ _ t222 _ _ t225 _ _ ?side1 ?side2 ?side3 ?side4 A93.out).mono ?_); (case side1 => exact sC HO_7); (case side2 => exact sN HO_7); (case side3 => exact sC HO_8); (case side4 => exact sN HO_8); rintro e w152 ⟨rfl, hb⟩; refine ⟨_, rfl, ?_⟩; have n0_ := sBe HO_7 hb; have n1_ := sBe HO_8 hb; have n2_ := sBe HO_9 hb; have n3_ := sBe HO_10 hb; have n4_ := sSt HB hb; clear HO_7; clear HO_8; clear HO_9; clear HO_10; clear HB; have HO_7 := n0_; have HO_8 := n1_; have HO_9 := n2_; have HO_10 := n3_; have HB := n4_; clear n0_ n1_ n2_ n3_ n4_; (try clear hb); (try clear hb2); (try clear hk); (try clear hi); obtain ⟨Ao153, co153, eo153⟩ := Kd.R_slice HO_9.out; subst eo153) | (go_at_call 42; (with_reducible refine (vector_Below.calls _ _ t225 _ _ t228 _ _ ?side1 ?side2 ?side3 ?side4 A95.out).mono ?_); (case side1 => exact sC HO_8); (case side2 => exact sN HO_8); (case side3 => exact sC HO_9); (case side4 => exact sN HO_9); rintro e w154 ⟨rfl, hb⟩; have n0_ := sBe HO_7 hb; have n1_ := sBe HO_8 hb; have n2_ := sBe HO_9 hb; have n3_ := sBe HO_10 hb; have n4_ := sSt HB hb; clear HO_7; clear HO_8; clear HO_9; clear HO_10; clear HB; have HO_7 := n0_; have HO_8 := n1_; have HO_9 := n2_; have HO_10 := n3_; have HB := n4_; clear n0_ n1_ n2_ n3_ n4_; (try clear hb); (try clear hb2); (try clear hk); (try clear hi)) | (go_at_call 42; (with_reducible refine (vector_Below.calls _ _ t222 _ _ t225 _ _ ?side1 ?side2 ?side3 ?side4 A140.out).mono ?_); (case side1 => exact sC HO_7); (case side2 => exact sN HO_7); (case side3 => exact sC HO_8); (case side4 => exact sN HO_8); rintro e w155 ⟨rfl, hb⟩; have n0_ := sBe HO_7 hb; have n1_ := sBe HO_8 hb; have n2_ := sBe HO_9 hb; have n3_ := sBe HO_10 hb; have n4_ := sSt HB hb; clear HO_7; clear HO_8; clear HO_9; clear HO_10; clear HB; have HO_7 := n0_; have HO_8 := n1_; have HO_9 := n2_; have HO_10 := n3_; have HB := n4_; clear n0_ n1_ n2_ n3_ n4_; (try clear hb); (try clear hb2); (try clear hk); (try clear hi)) | (go_at_call 42; (with_reducible refine (vector_Below.calls _ _ t225 _ _ t222 _ _ ?side1 ?side2 ?side3 ?side4 A142.out).mono ?_); (case side1 => exact sC HO_8); (case side2 => exact sN HO_8); (case side3 => exact sC HO_7); (case side4 => exact sN HO_7); rintro e w156 ⟨rfl, hb⟩; have n0_ := sBe HO_7 hb; have n1_ := sBe HO_8 hb; have n2_ := sBe HO_9 hb; have n3_ := sBe HO_10 hb; have n4_ := sSt HB hb; clear HO_7; clear HO_8; clear HO_9; clear HO_10; clear HB; have HO_7 := n0_; have HO_8 := n1_; have HO_9 := n2_; have HO_10 := n3_; have HB := n4_; clear n0_ n1_ n2_ n3_ n4_; (try clear hb); (try clear hb2); (try clear hk); (try clear hi)) | (go_at_call 40; (with_reducible refine (concordlaw10_same.calls kj51 _ _ t222 _ _ t225 t264 _ ?side1 ?side2 ?side3 ?side4 A143.out).mono ?_); (case side1 => exact sC HO_7); (case side2 => exact sN HO_7); (case side3 => exact sC HO_8); (case side4 => exact sN HO_8); rintro e w' ⟨rfl, ⟨nd, rfl⟩⟩; obtain ⟨Ao158, co158, eo158⟩ := Kd.R_slice HO_10.out; subst eo158) | (go_at_call 42; (with_reducible refine (vector_Below.calls _ _ t222 _ _ t225 _ _ ?side1 ?side2 ?side3 ?side4 A150.out).mono ?_); (case side1 => exact sC HO_7); (case side2 => exact sN HO_7); (case side3 => exact sC HO_8); (case side4 => exact sN HO_8); rintro e w157 ⟨rfl, hb⟩; have n0_ := sBe HO_7 hb; have n1_ := sBe HO_8 hb; have n2_ := sBe HO_9 hb; have n3_ := sBe HO_10 hb; have n4_ := sSt HB hb; clear HO_7; clear HO_8; clear HO_9; clear HO_10; clear HB; have HO_7 := n0_; have HO_8 := n1_; have HO_9 := n2_; have HO_10 := n3_; have HB := n4_; clear n0_ n1_ n2_ n3_ n4_; (try clear hb); (try clear hb2); (try clear hk); (try clear hi)) | (go_at_call 40; (with_reducible refine (concordlaw10_same.calls kj51 _ _ t231 _ _ t225 t266 _ ?side1 ?side2 ?side3 ?side4 A151.out).mono ?_); (case side1 => exact sC HO_10); (case side2 => exact sN HO_10); (case side3 => exact sC HO_8); (case side4 => exact sN HO_8); rintro e w' ⟨rfl, ⟨nd, rfl⟩⟩))
             go_meet
             case rel => exact ⟨_, ((true != t266)), (by first | rfl | (simp; done) | (simp [*]; done)), H', ⟨by have := HJ10.out; have := HJ51.out; first | omega | exact Nat.le_refl _⟩, ⟨by (with_reducible repeat (first | apply Kd.R_alloc | apply Kd.R_drewN | apply Kd.R_drew)); exact HO_7.out⟩, ⟨by (with_reducible repeat (first | apply Kd.R_alloc | apply Kd.R_drewN | apply Kd.R_drew)); exact HO_8.out⟩, ⟨by (with_reducible repeat (first | apply Kd.R_alloc | apply Kd.R_drewN | apply Kd.R_drew)); exact HO_9.out⟩, ⟨by (with_reducible repeat (first | apply Kd.R_alloc | apply Kd.R_drewN | apply Kd.R_drew)); exact HO_10.out⟩, ⟨by repeat (first | (with_reducible first | exact HB.out | apply below_alloc | apply pw_below_drewN | apply below_drew1) | exact HB.out)⟩⟩
         ·replace c94 := Bool.eq_false_iff.mpr c94
          subst c94
          have H1 : ((vector_Below.f t222 t225).bind fun t270 => (if t270 = true then ((vector_Below.f t225 t222).bind fun t271 => ((concordlaw10_same.f kj51 t222 t225).bind fun t272 => (if (t271 != t272) = true then (concordlaw10_VectorOrder.j2 kj51 t222 t225 t228 t231 true) else ((vector_Below.f t222 t225).bind fun t273 => ((concordlaw10_same.f kj51 t231 t225).bind fun t274 => (concordlaw10_VectorOrder.j2 kj51 t222 t225 t228 t231 (t273 != t274))))))) else ((concordlaw10_same.f kj51 t222 t225).bind fun t275 => (if (false != t275) = true then (concordlaw10_VectorOrder.j2 kj51 t222 t225 t228 t231 true) else ((vector_Below.f t222 t225).bind fun t276 => ((concordlaw10_same.f kj51 t231 t225).bind fun t277 => (concordlaw10_VectorOrder.j2 kj51 t222 t225 t228 t231 (t276 != t277)))))))) = some r := by rw [if_neg (show ¬ (false = true) by decide)] at H; exact H
          clear H
          have H := H1
          clear H1
          replace H := Option.bind_eq_some_iff.mp H
          obtain ⟨t270, A1730, H⟩ := H
          have hdup7 : false = t270 := Option.some.inj (A93.out.symm.trans A1730)
          subst hdup7
          replace H : (if false = true then ((vector_Below.f t225 t222).bind fun t271 => ((concordlaw10_same.f kj51 t222 t225).bind fun t272 => (if (t271 != t272) = true then (concordlaw10_VectorOrder.j2 kj51 t222 t225 t228 t231 true) else ((vector_Below.f t222 t225).bind fun t273 => ((concordlaw10_same.f kj51 t231 t225).bind fun t274 => (concordlaw10_VectorOrder.j2 kj51 t222 t225 t228 t231 (t273 != t274))))))) else ((concordlaw10_same.f kj51 t222 t225).bind fun t275 => (if (false != t275) = true then (concordlaw10_VectorOrder.j2 kj51 t222 t225 t228 t231 true) else ((vector_Below.f t222 t225).bind fun t276 => ((concordlaw10_same.f kj51 t231 t225).bind fun t277 => (concordlaw10_VectorOrder.j2 kj51 t222 t225 t228 t231 (t276 != t277))))))) = some r := H
          have A173 := Aside0.mk A1730
          clear A1730
          have H1 : ((concordlaw10_same.f kj51 t222 t225).bind fun t275 => (if (false != t275) = true then (concordlaw10_VectorOrder.j2 kj51 t222 t225 t228 t231 true) else ((vector_Below.f t222 t225).bind fun t276 => ((concordlaw10_same.f kj51 t231 t225).bind fun t277 => (concordlaw10_VectorOrder.j2 kj51 t222 t225 t228 t231 (t276 != t277)))))) = some r := by rw [if_neg (show ¬ (false = true) by decide)] at H; exact H
          clear H
          have H := H1
          clear H1
          replace H := Option.bind_eq_some_iff.mp H
          obtain ⟨t275, A1880, H⟩ := H
          replace H : (if (false != t275) = true then (concordlaw10_VectorOrder.j2 kj51 t222 t225 t228 t231 true) else ((vector_Below.f t222 t225).bind fun t276 => ((concordlaw10_same.f kj51 t231 t225).bind fun t277 => (concordlaw10_VectorOrder.j2 kj51 t222 t225 t228 t231 (t276 != t277))))) = some r := H
          have A188 := Aside0.mk A1880
          clear A1880
          by_cases c189 : (false != t275) = true
          ·rw [if_pos c189] at H
           have c189b0 : (false != t275) = true := c189
           (try (have c189b1 : decide (false = t275) = false := by simpa using c189))
           (try (have c189b2 : (false == t275) = false := by simpa using c189))
           (try (have c189b3 : ¬ (false = t275) := by simpa using c189))
           clear c189
           have H' := Aside0.mk H
           clear H
           as_aux_lemma =>
            go_wp2_with (first | ((with_reducible refine gate_callee (f := 42) rfl ?_); refine goesL_ (some 104) rfl rfl Try.func42 (by kernel_rfl) rfl #[.slice Ao16 t222.length co16, .slice Ao17 t225.length co17] rfl (by (try simp only [List.map_toArray, List.map_cons, List.map_nil]); first | done | rfl | (simp only [List.length_drop, List.length_take]; rfl)) ?_; (with_reducible refine (vector_Below.calls _ _ t222 _ _ t225 _ _ ?side1 ?side2 ?side3 ?side4 A93.out).mono ?_); (case side1 => exact sC HO_7); (case side2 => exact sN HO_7); (case side3 => exact sC HO_8); (case side4 => exact sN HO_8); rintro e w190 ⟨rfl, hb⟩; refine ⟨_, rfl, ?_⟩; have n0_ := sBe HO_7 hb; have n1_ := sBe HO_8 hb; have n2_ := sBe HO_9 hb; have n3_ := sBe HO_10 hb; have n4_ := sSt HB hb; clear HO_7; clear HO_8; clear HO_9; clear HO_10; clear HB; have HO_7 := n0_; have HO_8 := n1_; have HO_9 := n2_; have HO_10 := n3_; have HB := n4_; clear n0_ n1_ n2_ n3_ n4_; (try clear hb); (try clear hb2); (try clear hk); (try clear hi)) | (go_at_call 42; (with_reducible refine (vector_Below.calls _ _ t222 _ _ t225 _ _ ?side1 ?side2 ?side3 ?side4 A173.out).mono ?_); (case side1 => exact sC HO_7); (case side2 => exact sN HO_7); (case side3 => exact sC HO_8); (case side4 => exact sN HO_8); rintro e w191 ⟨rfl, hb⟩; have n0_ := sBe HO_7 hb; have n1_ := sBe HO_8 hb; have n2_ := sBe HO_9 hb; have n3_ := sBe HO_10 hb; have n4_ := sSt HB hb; clear HO_7; clear HO_8; clear HO_9; clear HO_10; clear HB; have HO_7 := n0_; have HO_8 := n1_; have HO_9 := n2_; have HO_10 := n3_; have HB := n4_; clear n0_ n1_ n2_ n3_ n4_; (try clear hb); (try clear hb2); (try clear hk); (try clear hi)) | (go_at_call 40; (with_reducible refine (concordlaw10_same.calls kj51 _ _ t222 _ _ t225 t275 _ ?side1 ?side2 ?side3 ?side4 A188.out).mono ?_); (case side1 => exact sC HO_7); (case side2 => exact sN HO_7); (case side3 => exact sC HO_8); (case side4 => exact sN HO_8); rintro e w' ⟨rfl, ⟨nd, rfl⟩⟩))
            go_meet
            case rel => exact ⟨_, (true), (by first | rfl | (simp; done) | (simp [*]; done)), H', ⟨by have := HJ10.out; have := HJ51.out; first | omega | exact Nat.le_refl _⟩, ⟨by (with_reducible repeat (first | apply Kd.R_alloc | apply Kd.R_drewN | apply Kd.R_drew)); exact HO_7.out⟩, ⟨by (with_reducible repeat (first | apply Kd.R_alloc | apply Kd.R_drewN | apply Kd.R_drew)); exact HO_8.out⟩, ⟨by (with_reducible repeat (first | apply Kd.R_alloc | apply Kd.R_drewN | apply Kd.R_drew)); exact HO_9.out⟩, ⟨by (with_reducible repeat (first | apply Kd.R_alloc | apply Kd.R_drewN | apply Kd.R_drew)); exact HO_10.out⟩, ⟨by repeat (first | (with_reducible first | exact HB.out | apply below_alloc | apply pw_below_drewN | apply below_drew1) | exact HB.out)⟩⟩
          ·rw [if_neg c189] at H
           have c189b0 : (false != t275) = false := by simpa using c189
           (try (have c189b1 : decide (false = t275) = true := by simpa using c189))
           (try (have c189b2 : (false == t275) = true := by simpa using c189))
           clear c189
           replace H := Option.bind_eq_some_iff.mp H
           obtain ⟨t276, A1920, H⟩ := H
           have hdup8 : false = t276 := Option.some.inj (A93.out.symm.trans A1920)
           subst hdup8
           replace H : ((concordlaw10_same.f kj51 t231 t225).bind fun t277 => (concordlaw10_VectorOrder.j2 kj51 t222 t225 t228 t231 (false != t277))) = some r := H
           have A192 := Aside0.mk A1920
           clear A1920
           replace H := Option.bind_eq_some_iff.mp H
           obtain ⟨t277, A1930, H⟩ := H
           replace H : (concordlaw10_VectorOrder.j2 kj51 t222 t225 t228 t231 (false != t277)) = some r := H
           have A193 := Aside0.mk A1930
           clear A1930
           have H' := Aside0.mk H
           clear H
           as_aux_lemma =>
            go_wp2_with (first | ((with_reducible refine gate_callee (f := 42) rfl ?_); refine goesL_ (some 104) rfl rfl Try.func42 (by kernel_rfl) rfl #[.slice Ao16 t222.length co16, .slice Ao17 t225.length co17] rfl (by (try simp only [List.map_toArray, List.map_cons, List.map_nil]); first | done | rfl | (simp only [List.length_drop, List.length_take]; rfl)) ?_; (with_reducible refine (vector_Below.calls _ _ t222 _ _ t225 _ _ ?side1 ?side2 ?side3 ?side4 A93.out).mono ?_); (case side1 => exact sC HO_7); (case side2 => exact sN HO_7); (case side3 => exact sC HO_8); (case side4 => exact sN HO_8); rintro e w194 ⟨rfl, hb⟩; refine ⟨_, rfl, ?_⟩; have n0_ := sBe HO_7 hb; have n1_ := sBe HO_8 hb; have n2_ := sBe HO_9 hb; have n3_ := sBe HO_10 hb; have n4_ := sSt HB hb; clear HO_7; clear HO_8; clear HO_9; clear HO_10; clear HB; have HO_7 := n0_; have HO_8 := n1_; have HO_9 := n2_; have HO_10 := n3_; have HB := n4_; clear n0_ n1_ n2_ n3_ n4_; (try clear hb); (try clear hb2); (try clear hk); (try clear hi)) | (go_at_call 42; (with_reducible refine (vector_Below.calls _ _ t222 _ _ t225 _ _ ?side1 ?side2 ?side3 ?side4 A173.out).mono ?_); (case side1 => exact sC HO_7); (case side2 => exact sN HO_7); (case side3 => exact sC HO_8); (case side4 => exact sN HO_8); rintro e w195 ⟨rfl, hb⟩; have n0_ := sBe HO_7 hb; have n1_ := sBe HO_8 hb; have n2_ := sBe HO_9 hb; have n3_ := sBe HO_10 hb; have n4_ := sSt HB hb; clear HO_7; clear HO_8; clear HO_9; clear HO_10; clear HB; have HO_7 := n0_; have HO_8 := n1_; have HO_9 := n2_; have HO_10 := n3_; have HB := n4_; clear n0_ n1_ n2_ n3_ n4_; (try clear hb); (try clear hb2); (try clear hk); (try clear hi)) | (go_at_call 40; (with_reducible refine (concordlaw10_same.calls kj51 _ _ t222 _ _ t225 t275 _ ?side1 ?side2 ?side3 ?side4 A188.out).mono ?_); (case side1 => exact sC HO_7); (case side2 => exact sN HO_7); (case side3 => exact sC HO_8); (case side4 => exact sN HO_8); rintro e w' ⟨rfl, ⟨nd, rfl⟩⟩; obtain ⟨Ao197, co197, eo197⟩ := Kd.R_slice HO_10.out; subst eo197) | (go_at_call 42; (with_reducible refine (vector_Below.calls _ _ t222 _ _ t225 _ _ ?side1 ?side2 ?side3 ?side4 A192.out).mono ?_); (case side1 => exact sC HO_7); (case side2 => exact sN HO_7); (case side3 => exact sC HO_8); (case side4 => exact sN HO_8); rintro e w196 ⟨rfl, hb⟩; have n0_ := sBe HO_7 hb; have n1_ := sBe HO_8 hb; have n2_ := sBe HO_9 hb; have n3_ := sBe HO_10 hb; have n4_ := sSt HB hb; clear HO_7; clear HO_8; clear HO_9; clear HO_10; clear HB; have HO_7 := n0_; have HO_8 := n1_; have HO_9 := n2_; have HO_10 := n3_; have HB := n4_; clear n0_ n1_ n2_ n3_ n4_; (try clear hb); (try clear hb2); (try clear hk); (try clear hi)) | (go_at_call 40; (with_reducible refine (concordlaw10_same.calls kj51 _ _ t231 _ _ t225 t277 _ ?side1 ?side2 ?side3 ?side4 A193.out).mono ?_); (case side1 => exact sC HO_10); (case side2 => exact sN HO_10); (case side3 => exact sC HO_8); (case side4 => exact sN HO_8); rintro e w' ⟨rfl, ⟨nd, rfl⟩⟩))
            go_meet
            case rel => exact ⟨_, ((false != t277)), (by first | rfl | (simp; done) | (simp [*]; done)), H', ⟨by have := HJ10.out; have := HJ51.out; first | omega | exact Nat.le_refl _⟩, ⟨by (with_reducible repeat (first | apply Kd.R_alloc | apply Kd.R_drewN | apply Kd.R_drew)); exact HO_7.out⟩, ⟨by (with_reducible repeat (first | apply Kd.R_alloc | apply Kd.R_drewN | apply Kd.R_drew)); exact HO_8.out⟩, ⟨by (with_reducible repeat (first | apply Kd.R_alloc | apply Kd.R_drewN | apply Kd.R_drew)); exact HO_9.out⟩, ⟨by (with_reducible repeat (first | apply Kd.R_alloc | apply Kd.R_drewN | apply Kd.R_drew)); exact HO_10.out⟩, ⟨by repeat (first | (with_reducible first | exact HB.out | apply below_alloc | apply pw_below_drewN | apply below_drew1) | exact HB.out)⟩⟩
        case rest =>
         clear HC92
         try clear c1
         try clear c2
         try clear p2
         try clear c3
         try clear c4
         try clear c5
         try clear c6
         try clear c7
         try clear c8
         try clear c9
         try clear c10
         try clear c12
         try clear c13
         try clear c14
         try clear c16
         try clear c17
         try clear c18
         try clear c20
         try clear c20b0
         try clear c20b1
         try clear c21
         try clear c21b0
         try clear c21b1
         try clear c23
         try clear c25
         try clear c27
         try clear c29
         try clear c38
         try clear c39
         try clear c42
         try clear c51
         try clear c54
         try clear c57
         try clear c57b0
         try clear c57b1
         try clear c57b2
         try clear c64
         try clear c80
         try clear c91
         try clear c94
         try clear c96
         try clear c98
         try clear c100
         try clear c103
         try clear c103b0
         try clear c103b1
         try clear c103b2
         try clear c121
         try clear c121b0
         try clear c121b1
         try clear c121b2
         try clear c141
         try clear c144
         try clear c144b0
         try clear c144b1
         try clear c144b2
         try clear c160
         try clear c160b0
         try clear c160b1
         try clear c160b2
         try clear c174
         try clear c177
         try clear c177b0
         try clear c177b1
         try clear c177b2
         try clear c189
         try clear c189b0
         try clear c189b1
         try clear c189b2
         try clear p2
         obtain ⟨kq, x138_91, rfl, HA, HJ91, HO_7, HO_8, HO_9, HO_10, HB⟩ := hcut
         cases kq with
         | zero => exact absurd HA.out (by simp [concordlaw10_VectorOrder.j2])
         | succ kj91 =>
          have H := HA.out
          clear HA
          simp only [concordlaw10_VectorOrder.j2] at H
          by_cases c198 : x138_91 = true
          ·subst c198
           have H1 : (some false) = some r := by rw [if_pos rfl] at H; exact H
           clear H
           have H := H1
           clear H1
           obtain rfl := Option.some.inj H
           go_wp2
           go_ret
           exact ⟨by first | rfl | (simp [errW_none, errW_some] <;> rfl) | (simp [*, errW_none, errW_some] <;> rfl), by repeat (first | (with_reducible first | exact HB.out | apply below_alloc | apply pw_below_drewN | apply below_drew1) | exact HB.out)⟩
          ·replace c198 := Bool.eq_false_iff.mpr c198
           subst c198
           have H1 : ((vector_Max.f t231 t228).bind fun bt278 => ((vector_Max.f t225 t228).bind fun bt282 => ((vector_Max.f t222 bt282.1).bind fun bt286 => ((vector_Max.f t222 t222).bind fun bt290 => ((vector_Max.f ([] : List (S35)) t222).bind fun bt294 => (if bt286.2 = 0 then (if bt290.2 = 0 then (if bt294.2 = 0 then ((concordlaw10_same.f kj91 bt278.1 bt286.1).bind fun t298 => (if t298 = true then ((concordlaw10_same.f kj91 bt290.1 t222).bind fun t299 => (if t299 = true then ((concordlaw10_same.f kj91 bt294.1 t222).bind fun t300 => (some t300)) else (some false))) else (some false))) else (some false)) else (some false)) else (some false))))))) = some r := by rw [if_neg (show ¬ (false = true) by decide)] at H; exact H
           clear H
           have H := H1
           clear H1
           replace H := Option.bind_eq_some_iff.mp H
           obtain ⟨⟨t278, t279⟩, A1990, H⟩ := H
           replace H : ((vector_Max.f t225 t228).bind fun bt282 => ((vector_Max.f t222 bt282.1).bind fun bt286 => ((vector_Max.f t222 t222).bind fun bt290 => ((vector_Max.f ([] : List (S35)) t222).bind fun bt294 => (if bt286.2 = 0 then (if bt290.2 = 0 then (if bt294.2 = 0 then ((concordlaw10_same.f kj91 t278 bt286.1).bind fun t298 => (if t298 = true then ((concordlaw10_same.f kj91 bt290.1 t222).bind fun t299 => (if t299 = true then ((concordlaw10_same.f kj91 bt294.1 t222).bind fun t300 => (some t300)) else (some false))) else (some false))) else (some false)) else (some false)) else (some false)))))) = some r := H
           have A199 := Aside0.mk A1990
           clear A1990
           replace H := Option.bind_eq_some_iff.mp H
           obtain ⟨⟨t282, t283⟩, A2000, H⟩ := H
           replace H : ((vector_Max.f t222 t282).bind fun bt286 => ((vector_Max.f t222 t222).bind fun bt290 => ((vector_Max.f ([] : List (S35)) t222).bind fun bt294 => (if bt286.2 = 0 then (if bt290.2 = 0 then (if bt294.2 = 0 then ((concordlaw10_same.f kj91 t278 bt286.1).bind fun t298 => (if t298 = true then ((concordlaw10_same.f kj91 bt290.1 t222).bind fun t299 => (if t299 = true then ((concordlaw10_same.f kj91 bt294.1 t222).bind fun t300 => (some t300)) else (some false))) else (some false))) else (some false)) else (some false)) else (some false))))) = some r := H
           have A200 := Aside0.mk A2000
           clear A2000
           replace H := Option.bind_eq_some_iff.mp H
           obtain ⟨⟨t286, t287⟩, A2010, H⟩ := H
           replace H : ((vector_Max.f t222 t222).bind fun bt290 => ((vector_Max.f ([] : List (S35)) t222).bind fun bt294 => (if t287 = 0 then (if bt290.2 = 0 then (if bt294.2 = 0 then ((concordlaw10_same.f kj91 t278 t286).bind fun t298 => (if t298 = true then ((concordlaw10_same.f kj91 bt290.1 t222).bind fun t299 => (if t299 = true then ((concordlaw10_same.f kj91 bt294.1 t222).bind fun t300 => (some t300)) else (some false))) else (some false))) else (some false)) else (some false)) else (some false)))) = some r := H
           have A201 := Aside0.mk A2010
           clear A2010
           replace H := Option.bind_eq_some_iff.mp H
           obtain ⟨⟨t290, t291⟩, A2020, H⟩ := H
           replace H : ((vector_Max.f ([] : List (S35)) t222).bind fun bt294 => (if t287 = 0 then (if t291 = 0 then (if bt294.2 = 0 then ((concordlaw10_same.f kj91 t278 t286).bind fun t298 => (if t298 = true then ((concordlaw10_same.f kj91 t290 t222).bind fun t299 => (if t299 = true then ((concordlaw10_same.f kj91 bt294.1 t222).bind fun t300 => (some t300)) else (some false))) else (some false))) else (some false)) else (some false)) else (some false))) = some r := H
           have A202 := Aside0.mk A2020
           clear A2020
           replace H := Option.bind_eq_some_iff.mp H
           obtain ⟨⟨t294, t295⟩, A2030, H⟩ := H
           replace H : (if t287 = 0 then (if t291 = 0 then (if t295 = 0 then ((concordlaw10_same.f kj91 t278 t286).bind fun t298 => (if t298 = true then ((concordlaw10_same.f kj91 t290 t222).bind fun t299 => (if t299 = true then ((concordlaw10_same.f kj91 t294 t222).bind fun t300 => (some t300)) else (some false))) else (some false))) else (some false)) else (some false)) else (some false)) = some r := H
           have A203 := Aside0.mk A2030
           clear A2030
           by_cases c204 : t287 = 0
           ·rw [if_pos c204] at H
            have c204b0 : (t287 == 0) = true := beq_iff_eq.mpr c204
            have c204b1 : (t287 != 0) = false := bne_eq_false_iff_eq.mpr c204
            clear c204
            by_cases c205 : t291 = 0
            ·rw [if_pos c205] at H
             have c205b0 : (t291 == 0) = true := beq_iff_eq.mpr c205
             have c205b1 : (t291 != 0) = false := bne_eq_false_iff_eq.mpr c205
             clear c205
             by_cases c206 : t295 = 0
             ·rw [if_pos c206] at H
              have c206b0 : (t295 == 0) = true := beq_iff_eq.mpr c206
              have c206b1 : (t295 != 0) = false := bne_eq_false_iff_eq.mpr c206
              clear c206
              replace H := Option.bind_eq_some_iff.mp H
              obtain ⟨t298, A2070, H⟩ := H
              replace H : (if t298 = true then ((concordlaw10_same.f kj91 t290 t222).bind fun t299 => (if t299 = true then ((concordlaw10_same.f kj91 t294 t222).bind fun t300 => (some t300)) else (some false))) else (some false)) = some r := H
              have A207 := Aside0.mk A2070
              clear A2070
              by_cases c208 : t298 = true
              ·subst c208
               have H1 : ((concordlaw10_same.f kj91 t290 t222).bind fun t299 => (if t299 = true then ((concordlaw10_same.f kj91 t294 t222).bind fun t300 => (some t300)) else (some false))) = some r := by rw [if_pos rfl] at H; exact H
               clear H
               have H := H1
               clear H1
               replace H := Option.bind_eq_some_iff.mp H
               obtain ⟨t299, A2090, H⟩ := H
               replace H : (if t299 = true then ((concordlaw10_same.f kj91 t294 t222).bind fun t300 => (some t300)) else (some false)) = some r := H
               have A209 := Aside0.mk A2090
               clear A2090
               by_cases c210 : t299 = true
               ·subst c210
                have H1 : ((concordlaw10_same.f kj91 t294 t222).bind fun t300 => (some t300)) = some r := by rw [if_pos rfl] at H; exact H
                clear H
                have H := H1
                clear H1
                replace H := Option.bind_eq_some_iff.mp H
                obtain ⟨t300, A2110, H⟩ := H
                replace H : (some t300) = some r := H
                have A211 := Aside0.mk A2110
                clear A2110
                obtain rfl := Option.some.inj H
                obtain ⟨Ao212, co212, eo212⟩ := Kd.R_slice HO_10.out
                subst eo212
                obtain ⟨Ao213, co213, eo213⟩ := Kd.R_slice HO_9.out
                subst eo213
                go_wp2_with (first | ((with_reducible refine gate_callee (f := 13) rfl ?_); refine goesL_ (some 142) rfl rfl Try.func13 (by kernel_rfl) rfl #[.slice Ao212 t231.length co212, .slice Ao213 t228.length co213] rfl (by (try simp only [List.map_toArray, List.map_cons, List.map_nil]); first | done | rfl | (simp only [List.length_drop, List.length_take]; rfl)) ?_; (with_reducible refine (vector_Max.calls _ _ t231 _ _ t228 t278 t279 _ ?side1 ?side2 ?side3 ?side4 A199.out).mono ?_); (case side1 => exact sC HO_10); (case side2 => exact sN HO_10); (case side3 => exact sC HO_9); (case side4 => exact sN HO_9); rintro e w214 ⟨v280, rfl, ho0, hb⟩; refine ⟨_, rfl, ?_⟩; have n0_ := sEl HO_7 (Kd.R_base ho0) hb; have n1_ := sEl HO_8 (Kd.R_base ho0) hb; have n2_ := sEl HO_9 (Kd.R_base ho0) hb; have n3_ := sEl HO_10 (Kd.R_base ho0) hb; have n4_ := Aside0.mk (Kd.R_lower (Kd.R_new' (Kd.R_new' (Kd.R_new' (Kd.R_new' ho0 (sLt HO_7)) (sLt HO_8)) (sLt HO_9)) (sLt HO_10)) (sSz HB)); have n5_ := sSt HB hb; clear HO_7; clear HO_8; clear HO_9; clear HO_10; clear HB; have HO_7 := n0_; have HO_8 := n1_; have HO_9 := n2_; have HO_10 := n3_; have HO281 := n4_; have HB := n5_; clear n0_ n1_ n2_ n3_ n4_ n5_; (try clear hb); (try clear hb2); (try clear hk); (try clear hi); (try clear ho0)) | ((with_reducible refine gate_callee (f := 13) rfl ?_); refine goesL_ (some 148) rfl rfl Try.func13 (by kernel_rfl) rfl #[.slice Ao17 t225.length co17, .slice Ao213 t228.length co213] rfl (by (try simp only [List.map_toArray, List.map_cons, List.map_nil]); first | done | rfl | (simp only [List.length_drop, List.length_take]; rfl)) ?_; (with_reducible refine (vector_Max.calls _ _ t225 _ _ t228 t282 t283 _ ?side1 ?side2 ?side3 ?side4 A200.out).mono ?_); (case side1 => exact sC HO_8); (case side2 => exact sN HO_8); (case side3 => exact sC HO_9); (case side4 => exact sN HO_9); rintro e w215 ⟨v284, rfl, ho0, hb⟩; refine ⟨_, rfl, ?_⟩; have n0_ := sEl HO_7 (Kd.R_base ho0) hb; have n1_ := sEl HO_8 (Kd.R_base ho0) hb; have n2_ := sEl HO_9 (Kd.R_base ho0) hb; have n3_ := sEl HO_10 (Kd.R_base ho0) hb; have n4_ := sEl HO281 (Kd.R_base ho0) hb; have n5_ := Aside0.mk (Kd.R_lower (Kd.R_new' (Kd.R_new' (Kd.R_new' (Kd.R_new' (Kd.R_new' ho0 (sLt HO_7)) (sLt HO_8)) (sLt HO_9)) (sLt HO_10)) (sLt HO281)) (sSz HB)); have n6_ := sSt HB hb; clear HO_7; clear HO_8; clear HO_9; clear HO_10; clear HO281; clear HB; have HO_7 := n0_; have HO_8 := n1_; have HO_9 := n2_; have HO_10 := n3_; have HO281 := n4_; have HO285 := n5_; have HB := n6_; clear n0_ n1_ n2_ n3_ n4_ n5_ n6_; (try clear hb); (try clear hb2); (try clear hk); (try clear hi); (try clear ho0); obtain ⟨Ao216, co216, eo216⟩ := Kd.R_slice HO285.out; subst eo216) | ((with_reducible refine gate_callee (f := 13) rfl ?_); refine goesL_ (some 154) rfl rfl Try.func13 (by kernel_rfl) rfl #[.slice Ao16 t222.length co16, .slice Ao216 t282.length co216] rfl (by (try simp only [List.map_toArray, List.map_cons, List.map_nil]); first | done | rfl | (simp only [List.length_drop, List.length_take]; rfl)) ?_; (with_reducible refine (vector_Max.calls _ _ t222 _ _ t282 t286 t287 _ ?side1 ?side2 ?side3 ?side4 A201.out).mono ?_); (case side1 => exact sC HO_7); (case side2 => exact sN HO_7); (case side3 => exact sC HO285); (case side4 => exact sN HO285); rintro e w217 ⟨v288, rfl, ho0, hb⟩; refine ⟨_, rfl, ?_⟩; have n0_ := sEl HO_7 (Kd.R_base ho0) hb; have n1_ := sEl HO_8 (Kd.R_base ho0) hb; have n2_ := sEl HO_9 (Kd.R_base ho0) hb; have n3_ := sEl HO_10 (Kd.R_base ho0) hb; have n4_ := sEl HO281 (Kd.R_base ho0) hb; have n5_ := sEl HO285 (Kd.R_base ho0) hb; have n6_ := Aside0.mk (Kd.R_lower (Kd.R_new' (Kd.R_new' (Kd.R_new' (Kd.R_new' (Kd.R_new' (Kd.R_new' ho0 (sLt HO_7)) (sLt HO_8)) (sLt HO_9)) (sLt HO_10)) (sLt HO281)) (sLt HO285)) (sSz HB)); have n7_ := sSt HB hb; clear HO_7; clear HO_8; clear HO_9; clear HO_10; clear HO281; clear HO285; clear HB; have HO_7 := n0_; have HO_8 := n1_; have HO_9 := n2_; have HO_10 := n3_; have HO281 := n4_; have HO285 := n5_; have HO289 := n6_; have HB := n7_; clear n0_ n1_ n2_ n3_ n4_ n5_ n6_ n7_; (try clear hb); (try clear hb2); (try clear hk); (try clear hi); (try clear ho0)) | ((with_reducible refine gate_callee (f := 13) rfl ?_); refine goesL_ (some 160) rfl rfl Try.func13 (by kernel_rfl) rfl #[.slice Ao16 t222.length co16, .slice Ao16 t222.length co16] rfl (by (try simp only [List.map_toArray, List.map_cons, List.map_nil]); first | done | rfl | (simp only [List.length_drop, List.length_take]; rfl)) ?_; (with_reducible refine (vector_Max.calls _ _ t222 _ _ t222 t290 t291 _ ?side1 ?side2 ?side3 ?side4 A202.out).mono ?_); (case side1 => exact sC HO_7); (case side2 => exact sN HO_7); (case side3 => exact sC HO_7); (case side4 => exact sN HO_7); rintro e w218 ⟨v292, rfl, ho0, hb⟩; refine ⟨_, rfl, ?_⟩; have n0_ := sEl HO_7 (Kd.R_base ho0) hb; have n1_ := sEl HO_8 (Kd.R_base ho0) hb; have n2_ := sEl HO_9 (Kd.R_base ho0) hb; have n3_ := sEl HO_10 (Kd.R_base ho0) hb; have n4_ := sEl HO281 (Kd.R_base ho0) hb; have n5_ := sEl HO285 (Kd.R_base ho0) hb; have n6_ := sEl HO289 (Kd.R_base ho0) hb; have n7_ := Aside0.mk (Kd.R_lower (Kd.R_new' (Kd.R_new' (Kd.R_new' (Kd.R_new' (Kd.R_new' (Kd.R_new' (Kd.R_new' ho0 (sLt HO_7)) (sLt HO_8)) (sLt HO_9)) (sLt HO_10)) (sLt HO281)) (sLt HO285)) (sLt HO289)) (sSz HB)); have n8_ := sSt HB hb; clear HO_7; clear HO_8; clear HO_9; clear HO_10; clear HO281; clear HO285; clear HO289; clear HB; have HO_7 := n0_; have HO_8 := n1_; have HO_9 := n2_; have HO_10 := n3_; have HO281 := n4_; have HO285 := n5_; have HO289 := n6_; have HO293 := n7_; have HB := n8_; clear n0_ n1_ n2_ n3_ n4_ n5_ n6_ n7_ n8_; (try clear hb); (try clear hb2); (try clear hk); (try clear hi); (try clear ho0)) | ((with_reducible refine gate_callee (f := 13) rfl ?_); refine goesL_ (some 165) rfl rfl Try.func13 (by kernel_rfl) rfl #[.slice none 0 0, .slice Ao16 t222.length co16] rfl (by (try simp only [List.map_toArray, List.map_cons, List.map_nil]); first | done | rfl | (simp only [List.length_drop, List.length_take]; rfl)) ?_; (refine (vector_Max.calls _ _ ([] : List (S35)) _ _ t222 t294 t295 _ ?side1 ?side2 ?side3 ?side4 A203.out).mono ?_); (case side1 => exact Kd.C_nil _ _); (case side2 => exact Nat.le_refl _); (case side3 => exact sC HO_7); (case side4 => exact sN HO_7); rintro e w219 ⟨v296, rfl, ho0, hb⟩; refine ⟨_, rfl, ?_⟩; have n0_ := sEl HO_7 (Kd.R_base ho0) hb; have n1_ := sEl HO_8 (Kd.R_base ho0) hb; have n2_ := sEl HO_9 (Kd.R_base ho0) hb; have n3_ := sEl HO_10 (Kd.R_base ho0) hb; have n4_ := sEl HO281 (Kd.R_base ho0) hb; have n5_ := sEl HO285 (Kd.R_base ho0) hb; have n6_ := sEl HO289 (Kd.R_base ho0) hb; have n7_ := sEl HO293 (Kd.R_base ho0) hb; have n8_ := Aside0.mk (Kd.R_lower (Kd.R_new' (Kd.R_new' (Kd.R_new' (Kd.R_new' (Kd.R_new' (Kd.R_new' (Kd.R_new' (Kd.R_new' ho0 (sLt HO_7)) (sLt HO_8)) (sLt HO_9)) (sLt HO_10)) (sLt HO281)) (sLt HO285)) (sLt HO289)) (sLt HO293)) (sSz HB)); have n9_ := sSt HB hb; clear HO_7; clear HO_8; clear HO_9; clear HO_10; clear HO281; clear HO285; clear HO289; clear HO293; clear HB; have HO_7 := n0_; have HO_8 := n1_; have HO_9 := n2_; have HO_10 := n3_; have HO281 := n4_; have HO285 := n5_; have HO289 := n6_; have HO293 := n7_; have HO297 := n8_; have HB := n9_; clear n0_ n1_ n2_ n3_ n4_ n5_ n6_ n7_ n8_ n9_; (try clear hb); (try clear hb2); (try clear hk); (try clear hi); (try clear ho0); obtain ⟨Ao220, co220, eo220⟩ := Kd.R_slice HO281.out; subst eo220; obtain ⟨Ao221, co221, eo221⟩ := Kd.R_slice HO289.out; subst eo221) | (go_at_call 40; (with_reducible refine (concordlaw10_same.calls kj91 _ _ t278 _ _ t286 true _ ?side1 ?side2 ?side3 ?side4 A207.out).mono ?_); (case side1 => exact sC HO281); (case side2 => exact sN HO281); (case side3 => exact sC HO289); (case side4 => exact sN HO289); rintro e w' ⟨rfl, ⟨nd, rfl⟩⟩; obtain ⟨Ao222, co222, eo222⟩ := Kd.R_slice HO293.out; subst eo222) | (go_at_call 40; (with_reducible refine (concordlaw10_same.calls kj91 _ _ t290 _ _ t222 true _ ?side1 ?side2 ?side3 ?side4 A209.out).mono ?_); (case side1 => exact sC HO293); (case side2 => exact sN HO293); (case side3 => exact sC HO_7); (case side4 => exact sN HO_7); rintro e w' ⟨rfl, ⟨nd, rfl⟩⟩; obtain ⟨Ao223, co223, eo223⟩ := Kd.R_slice HO297.out; subst eo223) | (go_at_call 40; (with_reducible refine (concordlaw10_same.calls kj91 _ _ t294 _ _ t222 t300 _ ?side1 ?side2 ?side3 ?side4 A211.out).mono ?_); (case side1 => exact sC HO297); (case side2 => exact sN HO297); (case side3 => exact sC HO_7); (case side4 => exact sN HO_7); rintro e w' ⟨rfl, ⟨nd, rfl⟩⟩))
                go_ret
                exact ⟨by first | rfl | (simp [errW_none, errW_some] <;> rfl) | (simp [*, errW_none, errW_some] <;> rfl), by repeat (first | (with_reducible first | exact HB.out | apply below_alloc | apply pw_below_drewN | apply below_drew1) | exact HB.out)⟩
               ·replace c210 := Bool.eq_false_iff.mpr c210
                subst c210
                have H1 : (some false) = some r := by rw [if_neg (show ¬ (false = true) by decide)] at H; exact H
                clear H
                have H := H1
                clear H1
                obtain rfl := Option.some.inj H
                obtain ⟨Ao224, co224, eo224⟩ := Kd.R_slice HO_10.out
                subst eo224
                obtain ⟨Ao225, co225, eo225⟩ := Kd.R_slice HO_9.out
                subst eo225
                go_wp2_with (first | ((with_reducible refine gate_callee (f := 13) rfl ?_); refine goesL_ (some 142) rfl rfl Try.func13 (by kernel_rfl) rfl #[.slice Ao224 t231.length co224, .slice Ao225 t228.length co225] rfl (by (try simp only [List.map_toArray, List.map_cons, List.map_nil]); first | done | rfl | (simp only [List.length_drop, List.length_take]; rfl)) ?_; (with_reducible refine (vector_Max.calls _ _ t231 _ _ t228 t278 t279 _ ?side1 ?side2 ?side3 ?side4 A199.out).mono ?_); (case side1 => exact sC HO_10); (case side2 => exact sN HO_10); (case side3 => exact sC HO_9); (case side4 => exact sN HO_9); rintro e w226 ⟨v280, rfl, ho0, hb⟩; refine ⟨_, rfl, ?_⟩; have n0_ := sEl HO_7 (Kd.R_base ho0) hb; have n1_ := sEl HO_8 (Kd.R_base ho0) hb; have n2_ := sEl HO_9 (Kd.R_base ho0) hb; have n3_ := sEl HO_10 (Kd.R_base ho0) hb; have n4_ := Aside0.mk (Kd.R_lower (Kd.R_new' (Kd.R_new' (Kd.R_new' (Kd.R_new' ho0 (sLt HO_7)) (sLt HO_8)) (sLt HO_9)) (sLt HO_10)) (sSz HB)); have n5_ := sSt HB hb; clear HO_7; clear HO_8; clear HO_9; clear HO_10; clear HB; have HO_7 := n0_; have HO_8 := n1_; have HO_9 := n2_; have HO_10 := n3_; have HO281 := n4_; have HB := n5_; clear n0_ n1_ n2_ n3_ n4_ n5_; (try clear hb); (try clear hb2); (try clear hk); (try clear hi); (try clear ho0)) | ((with_reducible refine gate_callee (f := 13) rfl ?_); refine goesL_ (some 148) rfl rfl Try.func13 (by kernel_rfl) rfl #[.slice Ao17 t225.length co17, .slice Ao225 t228.length co225] rfl (by (try simp only [List.map_toArray, List.map_cons, List.map_nil]); first | done | rfl | (simp only [List.length_drop, List.length_take]; rfl)) ?_; (with_reducible refine (vector_Max.calls _ _ t225 _ _ t228 t282 t283 _ ?side1 ?side2 ?side3 ?side4 A200.out).mono ?_); (case side1 => exact sC HO_8); (case side2 => exact sN HO_8); (case side3 => exact sC HO_9); (case side4 => exact sN HO_9); rintro e w227 ⟨v284, rfl, ho0, hb⟩; refine ⟨_, rfl, ?_⟩; have n0_ := sEl HO_7 (Kd.R_base ho0) hb; have n1_ := sEl HO_8 (Kd.R_base ho0) hb; have n2_ := sEl HO_9 (Kd.R_base ho0) hb; have n3_ := sEl HO_10 (Kd.R_base ho0) hb; have n4_ := sEl HO281 (Kd.R_base ho0) hb; have n5_ := Aside0.mk (Kd.R_lower (Kd.R_new' (Kd.R_new' (Kd.R_new' (Kd.R_new' (Kd.R_new' ho0 (sLt HO_7)) (sLt HO_8)) (sLt HO_9)) (sLt HO_10)) (sLt HO281)) (sSz HB)); have n6_ := sSt HB hb; clear HO_7; clear HO_8; clear HO_9; clear HO_10; clear HO281; clear HB; have HO_7 := n0_; have HO_8 := n1_; have HO_9 := n2_; have HO_10 := n3_; have HO281 := n4_; have HO285 := n5_; have HB := n6_; clear n0_ n1_ n2_ n3_ n4_ n5_ n6_; (try clear hb); (try clear hb2); (try clear hk); (try clear hi); (try clear ho0); obtain ⟨Ao228, co228, eo228⟩ := Kd.R_slice HO285.out; subst eo228) | ((with_reducible refine gate_callee (f := 13) rfl ?_); refine goesL_ (some 154) rfl rfl Try.func13 (by kernel_rfl) rfl #[.slice Ao16 t222.length co16, .slice Ao228 t282.length co228] rfl (by (try simp only [List.map_toArray, List.map_cons, List.map_nil]); first | done | rfl | (simp only [List.length_drop, List.length_take]; rfl)) ?_; (with_reducible refine (vector_Max.calls _ _ t222 _ _ t282 t286 t287 _ ?side1 ?side2 ?side3 ?side4 A201.out).mono ?_); (case side1 => exact sC HO_7); (case side2 => exact sN HO_7); (case side3 => exact sC HO285); (case side4 => exact sN HO285); rintro e w229 ⟨v288, rfl, ho0, hb⟩; refine ⟨_, rfl, ?_⟩; have n0_ := sEl HO_7 (Kd.R_base ho0) hb; have n1_ := sEl HO_8 (Kd.R_base ho0) hb; have n2_ := sEl HO_9 (Kd.R_base ho0) hb; have n3_ := sEl HO_10 (Kd.R_base ho0) hb; have n4_ := sEl HO281 (Kd.R_base ho0) hb; have n5_ := sEl HO285 (Kd.R_base ho0) hb; have n6_ := Aside0.mk (Kd.R_lower (Kd.R_new' (Kd.R_new' (Kd.R_new' (Kd.R_new' (Kd.R_new' (Kd.R_new' ho0 (sLt HO_7)) (sLt HO_8)) (sLt HO_9)) (sLt HO_10)) (sLt HO281)) (sLt HO285)) (sSz HB)); have n7_ := sSt HB hb; clear HO_7; clear HO_8; clear HO_9; clear HO_10; clear HO281; clear HO285; clear HB; have HO_7 := n0_; have HO_8 := n1_; have HO_9 := n2_; have HO_10 := n3_; have HO281 := n4_; have HO285 := n5_; have HO289 := n6_; have HB := n7_; clear n0_ n1_ n2_ n3_ n4_ n5_ n6_ n7_; (try clear hb); (try clear hb2); (try clear hk); (try clear hi); (try clear ho0)) | ((with_reducible refine gate_callee (f := 13) rfl ?_); refine goesL_ (some 160) rfl rfl Try.func13 (by kernel_rfl) rfl #[.slice Ao16 t222.length co16, .slice Ao16 t222.length co16] rfl (by (try simp only [List.map_toArray, List.map_cons, List.map_nil]); first | done | rfl | (simp only [List.length_drop, List.length_take]; rfl)) ?_; (with_reducible refine (vector_Max.calls _ _ t222 _ _ t222 t290 t291 _ ?side1 ?side2 ?side3 ?side4 A202.out).mono ?_); (case side1 => exact sC HO_7); (case side2 => exact sN HO_7); (case side3 => exact sC HO_7); (case side4 => exact sN HO_7); rintro e w230 ⟨v292, rfl, ho0, hb⟩; refine ⟨_, rfl, ?_⟩; have n0_ := sEl HO_7 (Kd.R_base ho0) hb; have n1_ := sEl HO_8 (Kd.R_base ho0) hb; have n2_ := sEl HO_9 (Kd.R_base ho0) hb; have n3_ := sEl HO_10 (Kd.R_base ho0) hb; have n4_ := sEl HO281 (Kd.R_base ho0) hb; have n5_ := sEl HO285 (Kd.R_base ho0) hb; have n6_ := sEl HO289 (Kd.R_base ho0) hb; have n7_ := Aside0.mk (Kd.R_lower (Kd.R_new' (Kd.R_new' (Kd.R_new' (Kd.R_new' (Kd.R_new' (Kd.R_new' (Kd.R_new' ho0 (sLt HO_7)) (sLt HO_8)) (sLt HO_9)) (sLt HO_10)) (sLt HO281)) (sLt HO285)) (sLt HO289)) (sSz HB)); have n8_ := sSt HB hb; clear HO_7; clear HO_8; clear HO_9; clear HO_10; clear HO281; clear HO285; clear HO289; clear HB; have HO_7 := n0_; have HO_8 := n1_; have HO_9 := n2_; have HO_10 := n3_; have HO281 := n4_; have HO285 := n5_; have HO289 := n6_; have HO293 := n7_; have HB := n8_; clear n0_ n1_ n2_ n3_ n4_ n5_ n6_ n7_ n8_; (try clear hb); (try clear hb2); (try clear hk); (try clear hi); (try clear ho0)) | ((with_reducible refine gate_callee (f := 13) rfl ?_); refine goesL_ (some 165) rfl rfl Try.func13 (by kernel_rfl) rfl #[.slice none 0 0, .slice Ao16 t222.length co16] rfl (by (try simp only [List.map_toArray, List.map_cons, List.map_nil]); first | done | rfl | (simp only [List.length_drop, List.length_take]; rfl)) ?_; (refine (vector_Max.calls _ _ ([] : List (S35)) _ _ t222 t294 t295 _ ?side1 ?side2 ?side3 ?side4 A203.out).mono ?_); (case side1 => exact Kd.C_nil _ _); (case side2 => exact Nat.le_refl _); (case side3 => exact sC HO_7); (case side4 => exact sN HO_7); rintro e w231 ⟨v296, rfl, ho0, hb⟩; refine ⟨_, rfl, ?_⟩; have n0_ := sEl HO_7 (Kd.R_base ho0) hb; have n1_ := sEl HO_8 (Kd.R_base ho0) hb; have n2_ := sEl HO_9 (Kd.R_base ho0) hb; have n3_ := sEl HO_10 (Kd.R_base ho0) hb; have n4_ := sEl HO281 (Kd.R_base ho0) hb; have n5_ := sEl HO285 (Kd.R_base ho0) hb; have n6_ := sEl HO289 (Kd.R_base ho0) hb; have n7_ := sEl HO293 (Kd.R_base ho0) hb; have n8_ := Aside0.mk (Kd.R_lower (Kd.R_new' (Kd.R_new' (Kd.R_new' (Kd.R_new' (Kd.R_new' (Kd.R_new' (Kd.R_new' (Kd.R_new' ho0 (sLt HO_7)) (sLt HO_8)) (sLt HO_9)) (sLt HO_10)) (sLt HO281)) (sLt HO285)) (sLt HO289)) (sLt HO293)) (sSz HB)); have n9_ := sSt HB hb; clear HO_7; clear HO_8; clear HO_9; clear HO_10; clear HO281; clear HO285; clear HO289; clear HO293; clear HB; have HO_7 := n0_; have HO_8 := n1_; have HO_9 := n2_; have HO_10 := n3_; have HO281 := n4_; have HO285 := n5_; have HO289 := n6_; have HO293 := n7_; have HO297 := n8_; have HB := n9_; clear n0_ n1_ n2_ n3_ n4_ n5_ n6_ n7_ n8_ n9_; (try clear hb); (try clear hb2); (try clear hk); (try clear hi); (try clear ho0); obtain ⟨Ao232, co232, eo232⟩ := Kd.R_slice HO281.out; subst eo232; obtain ⟨Ao233, co233, eo233⟩ := Kd.R_slice HO289.out; subst eo233) | (go_at_call 40; (with_reducible refine (concordlaw10_same.calls kj91 _ _ t278 _ _ t286 true _ ?side1 ?side2 ?side3 ?side4 A207.out).mono ?_); (case side1 => exact sC HO281); (case side2 => exact sN HO281); (case side3 => exact sC HO289); (case side4 => exact sN HO289); rintro e w' ⟨rfl, ⟨nd, rfl⟩⟩; obtain ⟨Ao234, co234, eo234⟩ := Kd.R_slice HO293.out; subst eo234) | (go_at_call 40; (with_reducible refine (concordlaw10_same.calls kj91 _ _ t290 _ _ t222 false _ ?side1 ?side2 ?side3 ?side4 A209.out).mono ?_); (case side1 => exact sC HO293); (case side2 => exact sN HO293); (case side3 => exact sC HO_7); (case side4 => exact sN HO_7); rintro e w' ⟨rfl, ⟨nd, rfl⟩⟩))
                go_ret
                exact ⟨by first | rfl | (simp [errW_none, errW_some] <;> rfl) | (simp [*, errW_none, errW_some] <;> rfl), by repeat (first | (with_reducible first | exact HB.out | apply below_alloc | apply pw_below_drewN | apply below_drew1) | exact HB.out)⟩
              ·replace c208 := Bool.eq_false_iff.mpr c208
               subst c208
               have H1 : (some false) = some r := by rw [if_neg (show ¬ (false = true) by decide)] at H; exact H
               clear H
               have H := H1
               clear H1
               obtain rfl := Option.some.inj H
               obtain ⟨Ao235, co235, eo235⟩ := Kd.R_slice HO_10.out
               subst eo235
               obtain ⟨Ao236, co236, eo236⟩ := Kd.R_slice HO_9.out
               subst eo236
               go_wp2_with (first | ((with_reducible refine gate_callee (f := 13) rfl ?_); refine goesL_ (some 142) rfl rfl Try.func13 (by kernel_rfl) rfl #[.slice Ao235 t231.length co235, .slice Ao236 t228.length co236] rfl (by (try simp only [List.map_toArray, List.map_cons, List.map_nil]); first | done | rfl | (simp only [List.length_drop, List.length_take]; rfl)) ?_; (with_reducible refine (vector_Max.calls _ _ t231 _ _ t228 t278 t279 _ ?side1 ?side2 ?side3 ?side4 A199.out).mono ?_); (case side1 => exact sC HO_10); (case side2 => exact sN HO_10); (case side3 => exact sC HO_9); (case side4 => exact sN HO_9); rintro e w237 ⟨v280, rfl, ho0, hb⟩; refine ⟨_, rfl, ?_⟩; have n0_ := sEl HO_7 (Kd.R_base ho0) hb; have n1_ := sEl HO_8 (Kd.R_base ho0) hb; have n2_ := sEl HO_9 (Kd.R_base ho0) hb; have n3_ := sEl HO_10 (Kd.R_base ho0) hb; have n4_ := Aside0.mk (Kd.R_lower (Kd.R_new' (Kd.R_new' (Kd.R_new' (Kd.R_new' ho0 (sLt HO_7)) (sLt HO_8)) (sLt HO_9)) (sLt HO_10)) (sSz HB)); have n5_ := sSt HB hb; clear HO_7; clear HO_8; clear HO_9; clear HO_10; clear HB; have HO_7 := n0_; have HO_8 := n1_; have HO_9 := n2_; have HO_10 := n3_; have HO281 := n4_; have HB := n5_; clear n0_ n1_ n2_ n3_ n4_ n5_; (try clear hb); (try clear hb2); (try clear hk); (try clear hi); (try clear ho0)) | ((with_reducible refine gate_callee (f := 13) rfl ?_); refine goesL_ (some 148) rfl rfl Try.func13 (by kernel_rfl) rfl #[.slice Ao17 t225.length co17, .slice Ao236 t228.length co236] rfl (by (try simp only [List.map_toArray, List.map_cons, List.map_nil]); first | done | rfl | (simp only [List.length_drop, List.length_take]; rfl)) ?_; (with_reducible refine (vector_Max.calls _ _ t225 _ _ t228 t282 t283 _ ?side1 ?side2 ?side3 ?side4 A200.out).mono ?_); (case side1 => exact sC HO_8); (case side2 => exact sN HO_8); (case side3 => exact sC HO_9); (case side4 => exact sN HO_9); rintro e w238 ⟨v284, rfl, ho0, hb⟩; refine ⟨_, rfl, ?_⟩; have n0_ := sEl HO_7 (Kd.R_base ho0) hb; have n1_ := sEl HO_8 (Kd.R_base ho0) hb; have n2_ := sEl HO_9 (Kd.R_base ho0) hb; have n3_ := sEl HO_10 (Kd.R_base ho0) hb; have n4_ := sEl HO281 (Kd.R_base ho0) hb; have n5_ := Aside0.mk (Kd.R_lower (Kd.R_new' (Kd.R_new' (Kd.R_new' (Kd.R_new' (Kd.R_new' ho0 (sLt HO_7)) (sLt HO_8)) (sLt HO_9)) (sLt HO_10)) (sLt HO281)) (sSz HB)); have n6_ := sSt HB hb; clear HO_7; clear HO_8; clear HO_9; clear HO_10; clear HO281; clear HB; have HO_7 := n0_; have HO_8 := n1_; have HO_9 := n2_; have HO_10 := n3_; have HO281 := n4_; have HO285 := n5_; have HB := n6_; clear n0_ n1_ n2_ n3_ n4_ n5_ n6_; (try clear hb); (try clear hb2); (try clear hk); (try clear hi); (try clear ho0); obtain ⟨Ao239, co239, eo239⟩ := Kd.R_slice HO285.out; subst eo239) | ((with_reducible refine gate_callee (f := 13) rfl ?_); refine goesL_ (some 154) rfl rfl Try.func13 (by kernel_rfl) rfl #[.slice Ao16 t222.length co16, .slice Ao239 t282.length co239] rfl (by (try simp only [List.map_toArray, List.map_cons, List.map_nil]); first | done | rfl | (simp only [List.length_drop, List.length_take]; rfl)) ?_; (with_reducible refine (vector_Max.calls _ _ t222 _ _ t282 t286 t287 _ ?side1 ?side2 ?side3 ?side4 A201.out).mono ?_); (case side1 => exact sC HO_7); (case side2 => exact sN HO_7); (case side3 => exact sC HO285); (case side4 => exact sN HO285); rintro e w240 ⟨v288, rfl, ho0, hb⟩; refine ⟨_, rfl, ?_⟩; have n0_ := sEl HO_7 (Kd.R_base ho0) hb; have n1_ := sEl HO_8 (Kd.R_base ho0) hb; have n2_ := sEl HO_9 (Kd.R_base ho0) hb; have n3_ := sEl HO_10 (Kd.R_base ho0) hb; have n4_ := sEl HO281 (Kd.R_base ho0) hb; have n5_ := sEl HO285 (Kd.R_base ho0) hb; have n6_ := Aside0.mk (Kd.R_lower (Kd.R_new' (Kd.R_new' (Kd.R_new' (Kd.R_new' (Kd.R_new' (Kd.R_new' ho0 (sLt HO_7)) (sLt HO_8)) (sLt HO_9)) (sLt HO_10)) (sLt HO281)) (sLt HO285)) (sSz HB)); have n7_ := sSt HB hb; clear HO_7; clear HO_8; clear HO_9; clear HO_10; clear HO281; clear HO285; clear HB; have HO_7 := n0_; have HO_8 := n1_; have HO_9 := n2_; have HO_10 := n3_; have HO281 := n4_; have HO285 := n5_; have HO289 := n6_; have HB := n7_; clear n0_ n1_ n2_ n3_ n4_ n5_ n6_ n7_; (try clear hb); (try clear hb2); (try clear hk); (try clear hi); (try clear ho0)) | ((with_reducible refine gate_callee (f := 13) rfl ?_); refine goesL_ (some 160) rfl rfl Try.func13 (by kernel_rfl) rfl #[.slice Ao16 t222.length co16, .slice Ao16 t222.length co16] rfl (by (try simp only [List.map_toArray, List.map_cons, List.map_nil]); first | done | rfl | (simp only [List.length_drop, List.length_take]; rfl)) ?_; (with_reducible refine (vector_Max.calls _ _ t222 _ _ t222 t290 t291 _ ?side1 ?side2 ?side3 ?side4 A202.out).mono ?_); (case side1 => exact sC HO_7); (case side2 => exact sN HO_7); (case side3 => exact sC HO_7); (case side4 => exact sN HO_7); rintro e w241 ⟨v292, rfl, ho0, hb⟩; refine ⟨_, rfl, ?_⟩; have n0_ := sEl HO_7 (Kd.R_base ho0) hb; have n1_ := sEl HO_8 (Kd.R_base ho0) hb; have n2_ := sEl HO_9 (Kd.R_base ho0) hb; have n3_ := sEl HO_10 (Kd.R_base ho0) hb; have n4_ := sEl HO281 (Kd.R_base ho0) hb; have n5_ := sEl HO285 (Kd.R_base ho0) hb; have n6_ := sEl HO289 (Kd.R_base ho0) hb; have n7_ := Aside0.mk (Kd.R_lower (Kd.R_new' (Kd.R_new' (Kd.R_new' (Kd.R_new' (Kd.R_new' (Kd.R_new' (Kd.R_new' ho0 (sLt HO_7)) (sLt HO_8)) (sLt HO_9)) (sLt HO_10)) (sLt HO281)) (sLt HO285)) (sLt HO289)) (sSz HB)); have n8_ := sSt HB hb; clear HO_7; clear HO_8; clear HO_9; clear HO_10; clear HO281; clear HO285; clear HO289; clear HB; have HO_7 := n0_; have HO_8 := n1_; have HO_9 := n2_; have HO_10 := n3_; have HO281 := n4_; have HO285 := n5_; have HO289 := n6_; have HO293 := n7_; have HB := n8_; clear n0_ n1_ n2_ n3_ n4_ n5_ n6_ n7_ n8_; (try clear hb); (try clear hb2); (try clear hk); (try clear hi); (try clear ho0)) | ((with_reducible refine gate_callee (f := 13) rfl ?_); refine goesL_ (some 165) rfl rfl Try.func13 (by kernel_rfl) rfl #[.slice none 0 0, .slice Ao16 t222.length co16] rfl (by (try simp only [List.map_toArray, List.map_cons, List.map_nil]); first | done | rfl | (simp only [List.length_drop, List.length_take]; rfl)) ?_; (refine (vector_Max.calls _ _ ([] : List (S35)) _ _ t222 t294 t295 _ ?side1 ?side2 ?side3 ?side4 A203.out).mono ?_); (case side1 => exact Kd.C_nil _ _); (case side2 => exact Nat.le_refl _); (case side3 => exact sC HO_7); (case side4 => exact sN HO_7); rintro e w242 ⟨v296, rfl, ho0, hb⟩; refine ⟨_, rfl, ?_⟩; have n0_ := sEl HO_7 (Kd.R_base ho0) hb; have n1_ := sEl HO_8 (Kd.R_base ho0) hb; have n2_ := sEl HO_9 (Kd.R_base ho0) hb; have n3_ := sEl HO_10 (Kd.R_base ho0) hb; have n4_ := sEl HO281 (Kd.R_base ho0) hb; have n5_ := sEl HO285 (Kd.R_base ho0) hb; have n6_ := sEl HO289 (Kd.R_base ho0) hb; have n7_ := sEl HO293 (Kd.R_base ho0) hb; have n8_ := Aside0.mk (Kd.R_lower (Kd.R_new' (Kd.R_new' (Kd.R_new' (Kd.R_new' (Kd.R_new' (Kd.R_new' (Kd.R_new' (Kd.R_new' ho0 (sLt HO_7)) (sLt HO_8)) (sLt HO_9)) (sLt HO_10)) (sLt HO281)) (sLt HO285)) (sLt HO289)) (sLt HO293)) (sSz HB)); have n9_ := sSt HB hb; clear HO_7; clear HO_8; clear HO_9; clear HO_10; clear HO281; clear HO285; clear HO289; clear HO293; clear HB; have HO_7 := n0_; have HO_8 := n1_; have HO_9 := n2_; have HO_10 := n3_; have HO281 := n4_; have HO285 := n5_; have HO289 := n6_; have HO293 := n7_; have HO297 := n8_; have HB := n9_; clear n0_ n1_ n2_ n3_ n4_ n5_ n6_ n7_ n8_ n9_; (try clear hb); (try clear hb2); (try clear hk); (try clear hi); (try clear ho0); obtain ⟨Ao243, co243, eo243⟩ := Kd.R_slice HO281.out; subst eo243; obtain ⟨Ao244, co244, eo244⟩ := Kd.R_slice HO289.out; subst eo244) | (go_at_call 40; (with_reducible refine (concordlaw10_same.calls kj91 _ _ t278 _ _ t286 false _ ?side1 ?side2 ?side3 ?side4 A207.out).mono ?_); (case side1 => exact sC HO281); (case side2 => exact sN HO281); (case side3 => exact sC HO289); (case side4 => exact sN HO289); rintro e w' ⟨rfl, ⟨nd, rfl⟩⟩))
               go_ret
               exact ⟨by first | rfl | (simp [errW_none, errW_some] <;> rfl) | (simp [*, errW_none, errW_some] <;> rfl), by repeat (first | (with_reducible first | exact HB.out | apply below_alloc | apply pw_below_drewN | apply below_drew1) | exact HB.out)⟩
             ·rw [if_neg c206] at H
              have c206b0 : (t295 == 0) = false := beq_eq_false_iff_ne.mpr c206
              have c206b1 : (t295 != 0) = true := bne_iff_ne.mpr c206
              obtain rfl := Option.some.inj H
              obtain ⟨Ao245, co245, eo245⟩ := Kd.R_slice HO_10.out
              subst eo245
              obtain ⟨Ao246, co246, eo246⟩ := Kd.R_slice HO_9.out
              subst eo246
              go_wp2_with (first | ((with_reducible refine gate_callee (f := 13) rfl ?_); refine goesL_ (some 142) rfl rfl Try.func13 (by kernel_rfl) rfl #[.slice Ao245 t231.length co245, .slice Ao246 t228.length co246] rfl (by (try simp only [List.map_toArray, List.map_cons, List.map_nil]); first | done | rfl | (simp only [List.length_drop, List.length_take]; rfl)) ?_; (with_reducible refine (vector_Max.calls _ _ t231 _ _ t228 t278 t279 _ ?side1 ?side2 ?side3 ?side4 A199.out).mono ?_); (case side1 => exact sC HO_10); (case side2 => exact sN HO_10); (case side3 => exact sC HO_9); (case side4 => exact sN HO_9); rintro e w247 ⟨v280, rfl, ho0, hb⟩; refine ⟨_, rfl, ?_⟩; have n0_ := sEl HO_7 (Kd.R_base ho0) hb; have n1_ := sEl HO_8 (Kd.R_base ho0) hb; have n2_ := sEl HO_9 (Kd.R_base ho0) hb; have n3_ := sEl HO_10 (Kd.R_base ho0) hb; have n4_ := Aside0.mk (Kd.R_lower (Kd.R_new' (Kd.R_new' (Kd.R_new' (Kd.R_new' ho0 (sLt HO_7)) (sLt HO_8)) (sLt HO_9)) (sLt HO_10)) (sSz HB)); have n5_ := sSt HB hb; clear HO_7; clear HO_8; clear HO_9; clear HO_10; clear HB; have HO_7 := n0_; have HO_8 := n1_; have HO_9 := n2_; have HO_10 := n3_; have HO281 := n4_; have HB := n5_; clear n0_ n1_ n2_ n3_ n4_ n5_; (try clear hb); (try clear hb2); (try clear hk); (try clear hi); (try clear ho0)) | ((with_reducible refine gate_callee (f := 13) rfl ?_); refine goesL_ (some 148) rfl rfl Try.func13 (by kernel_rfl) rfl #[.slice Ao17 t225.length co17, .slice Ao246 t228.length co246] rfl (by (try simp only [List.map_toArray, List.map_cons, List.map_nil]); first | done | rfl | (simp only [List.length_drop, List.length_take]; rfl)) ?_; (with_reducible refine (vector_Max.calls _ _ t225 _ _ t228 t282 t283 _ ?side1 ?side2 ?side3 ?side4 A200.out).mono ?_); (case side1 => exact sC HO_8); (case side2 => exact sN HO_8); (case side3 => exact sC HO_9); (case side4 => exact sN HO_9); rintro e w248 ⟨v284, rfl, ho0, hb⟩; refine ⟨_, rfl, ?_⟩; have n0_ := sEl HO_7 (Kd.R_base ho0) hb; have n1_ := sEl HO_8 (Kd.R_base ho0) hb; have n2_ := sEl HO_9 (Kd.R_base ho0) hb; have n3_ := sEl HO_10 (Kd.R_base ho0) hb; have n4_ := sEl HO281 (Kd.R_base ho0) hb; have n5_ := Aside0.mk (Kd.R_lower (Kd.R_new' (Kd.R_new' (Kd.R_new' (Kd.R_new' (Kd.R_new' ho0 (sLt HO_7)) (sLt HO_8)) (sLt HO_9)) (sLt HO_10)) (sLt HO281)) (sSz HB)); have n6_ := sSt HB hb; clear HO_7; clear HO_8; clear HO_9; clear HO_10; clear HO281; clear HB; have HO_7 := n0_; have HO_8 := n1_; have HO_9 := n2_; have HO_10 := n3_; have HO281 := n4_; have HO285 := n5_; have HB := n6_; clear n0_ n1_ n2_ n3_ n4_ n5_ n6_; (try clear hb); (try clear hb2); (try clear hk); (try clear hi); (try clear ho0); obtain ⟨Ao249, co249, eo249⟩ := Kd.R_slice HO285.out; subst eo249) | ((with_reducible refine gate_callee (f := 13) rfl ?_); refine goesL_ (some 154) rfl rfl Try.func13 (by kernel_rfl) rfl #[.slice Ao16 t222.length co16, .slice Ao249 t282.length co249] rfl (by (try simp only [List.map_toArray, List.map_cons, List.map_nil]); first | done | rfl | (simp only [List.length_drop, List.length_take]; rfl)) ?_; (with_reducible refine (vector_Max.calls _ _ t222 _ _ t282 t286 t287 _ ?side1 ?side2 ?side3 ?side4 A201.out).mono ?_); (case side1 => exact sC HO_7); (case side2 => exact sN HO_7); (case side3 => exact sC HO285); (case side4 => exact sN HO285); rintro e w250 ⟨v288, rfl, ho0, hb⟩; refine ⟨_, rfl, ?_⟩; have n0_ := sEl HO_7 (Kd.R_base ho0) hb; have n1_ := sEl HO_8 (Kd.R_base ho0) hb; have n2_ := sEl HO_9 (Kd.R_base ho0) hb; have n3_ := sEl HO_10 (Kd.R_base ho0) hb; have n4_ := sEl HO281 (Kd.R_base ho0) hb; have n5_ := sEl HO285 (Kd.R_base ho0) hb; have n6_ := Aside0.mk (Kd.R_lower (Kd.R_new' (Kd.R_new' (Kd.R_new' (Kd.R_new' (Kd.R_new' (Kd.R_new' ho0 (sLt HO_7)) (sLt HO_8)) (sLt HO_9)) (sLt HO_10)) (sLt HO281)) (sLt HO285)) (sSz HB)); have n7_ := sSt HB hb; clear HO_7; clear HO_8; clear HO_9; clear HO_10; clear HO281; clear HO285; clear HB; have HO_7 := n0_; have HO_8 := n1_; have HO_9 := n2_; have HO_10 := n3_; have HO281 := n4_; have HO285 := n5_; have HO289 := n6_; have HB := n7_; clear n0_ n1_ n2_ n3_ n4_ n5_ n6_ n7_; (try clear hb); (try clear hb2); (try clear hk); (try clear hi); (try clear ho0)) | ((with_reducible refine gate_callee (f := 13) rfl ?_); refine goesL_ (some 160) rfl rfl Try.func13 (by kernel_rfl) rfl #[.slice Ao16 t222.length co16, .slice Ao16 t222.length co16] rfl (by (try simp only [List.map_toArray, List.map_cons, List.map_nil]); first | done | rfl | (simp only [List.length_drop, List.length_take]; rfl)) ?_; (with_reducible refine (vector_Max.calls _ _ t222 _ _ t222 t290 t291 _ ?side1 ?side2 ?side3 ?side4 A202.out).mono ?_); (case side1 => exact sC HO_7); (case side2 => exact sN HO_7); (case side3 => exact sC HO_7); (case side4 => exact sN HO_7); rintro e w251 ⟨v292, rfl, ho0, hb⟩; refine ⟨_, rfl, ?_⟩; have n0_ := sEl HO_7 (Kd.R_base ho0) hb; have n1_ := sEl HO_8 (Kd.R_base ho0) hb; have n2_ := sEl HO_9 (Kd.R_base ho0) hb; have n3_ := sEl HO_10 (Kd.R_base ho0) hb; have n4_ := sEl HO281 (Kd.R_base ho0) hb; have n5_ := sEl HO285 (Kd.R_base ho0) hb; have n6_ := sEl HO289 (Kd.R_base ho0) hb; have n7_ := Aside0.mk (Kd.R_lower (Kd.R_new' (Kd.R_new' (Kd.R_new' (Kd.R_new' (Kd.R_new' (Kd.R_new' (Kd.R_new' ho0 (sLt HO_7)) (sLt HO_8)) (sLt HO_9)) (sLt HO_10)) (sLt HO281)) (sLt HO285)) (sLt HO289)) (sSz HB)); have n8_ := sSt HB hb; clear HO_7; clear HO_8; clear HO_9; clear HO_10; clear HO281; clear HO285; clear HO289; clear HB; have HO_7 := n0_; have HO_8 := n1_; have HO_9 := n2_; have HO_10 := n3_; have HO281 := n4_; have HO285 := n5_; have HO289 := n6_; have HO293 := n7_; have HB := n8_; clear n0_ n1_ n2_ n3_ n4_ n5_ n6_ n7_ n8_; (try clear hb); (try clear hb2); (try clear hk); (try clear hi); (try clear ho0)) | ((with_reducible refine gate_callee (f := 13) rfl ?_); refine goesL_ (some 165) rfl rfl Try.func13 (by kernel_rfl) rfl #[.slice none 0 0, .slice Ao16 t222.length co16] rfl (by (try simp only [List.map_toArray, List.map_cons, List.map_nil]); first | done | rfl | (simp only [List.length_drop, List.length_take]; rfl)) ?_; (refine (vector_Max.calls _ _ ([] : List (S35)) _ _ t222 t294 t295 _ ?side1 ?side2 ?side3 ?side4 A203.out).mono ?_); (case side1 => exact Kd.C_nil _ _); (case side2 => exact Nat.le_refl _); (case side3 => exact sC HO_7); (case side4 => exact sN HO_7); rintro e w252 ⟨v296, rfl, ho0, hb⟩; refine ⟨_, rfl, ?_⟩; have n0_ := sEl HO_7 (Kd.R_base ho0) hb; have n1_ := sEl HO_8 (Kd.R_base ho0) hb; have n2_ := sEl HO_9 (Kd.R_base ho0) hb; have n3_ := sEl HO_10 (Kd.R_base ho0) hb; have n4_ := sEl HO281 (Kd.R_base ho0) hb; have n5_ := sEl HO285 (Kd.R_base ho0) hb; have n6_ := sEl HO289 (Kd.R_base ho0) hb; have n7_ := sEl HO293 (Kd.R_base ho0) hb; have n8_ := Aside0.mk (Kd.R_lower (Kd.R_new' (Kd.R_new' (Kd.R_new' (Kd.R_new' (Kd.R_new' (Kd.R_new' (Kd.R_new' (Kd.R_new' ho0 (sLt HO_7)) (sLt HO_8)) (sLt HO_9)) (sLt HO_10)) (sLt HO281)) (sLt HO285)) (sLt HO289)) (sLt HO293)) (sSz HB)); have n9_ := sSt HB hb; clear HO_7; clear HO_8; clear HO_9; clear HO_10; clear HO281; clear HO285; clear HO289; clear HO293; clear HB; have HO_7 := n0_; have HO_8 := n1_; have HO_9 := n2_; have HO_10 := n3_; have HO281 := n4_; have HO285 := n5_; have HO289 := n6_; have HO293 := n7_; have HO297 := n8_; have HB := n9_; clear n0_ n1_ n2_ n3_ n4_ n5_ n6_ n7_ n8_ n9_; (try clear hb); (try clear hb2); (try clear hk); (try clear hi); (try clear ho0)))
              go_ret
              exact ⟨by first | rfl | (simp [errW_none, errW_some] <;> rfl) | (simp [*, errW_none, errW_some] <;> rfl), by repeat (first | (with_reducible first | exact HB.out | apply below_alloc | apply pw_below_drewN | apply below_drew1) | exact HB.out)⟩
            ·rw [if_neg c205] at H
             have c205b0 : (t291 == 0) = false := beq_eq_false_iff_ne.mpr c205
             have c205b1 : (t291 != 0) = true := bne_iff_ne.mpr c205
             obtain rfl := Option.some.inj H
             obtain ⟨Ao253, co253, eo253⟩ := Kd.R_slice HO_10.out
             subst eo253
             obtain ⟨Ao254, co254, eo254⟩ := Kd.R_slice HO_9.out
             subst eo254
             go_wp2_with (first | ((with_reducible refine gate_callee (f := 13) rfl ?_); refine goesL_ (some 142) rfl rfl Try.func13 (by kernel_rfl) rfl #[.slice Ao253 t231.length co253, .slice Ao254 t228.length co254] rfl (by (try simp only [List.map_toArray, List.map_cons, List.map_nil]); first | done | rfl | (simp only [List.length_drop, List.length_take]; rfl)) ?_; (with_reducible refine (vector_Max.calls _ _ t231 _ _ t228 t278 t279 _ ?side1 ?side2 ?side3 ?side4 A199.out).mono ?_); (case side1 => exact sC HO_10); (case side2 => exact sN HO_10); (case side3 => exact sC HO_9); (case side4 => exact sN HO_9); rintro e w255 ⟨v280, rfl, ho0, hb⟩; refine ⟨_, rfl, ?_⟩; have n0_ := sEl HO_7 (Kd.R_base ho0) hb; have n1_ := sEl HO_8 (Kd.R_base ho0) hb; have n2_ := sEl HO_9 (Kd.R_base ho0) hb; have n3_ := sEl HO_10 (Kd.R_base ho0) hb; have n4_ := Aside0.mk (Kd.R_lower (Kd.R_new' (Kd.R_new' (Kd.R_new' (Kd.R_new' ho0 (sLt HO_7)) (sLt HO_8)) (sLt HO_9)) (sLt HO_10)) (sSz HB)); have n5_ := sSt HB hb; clear HO_7; clear HO_8; clear HO_9; clear HO_10; clear HB; have HO_7 := n0_; have HO_8 := n1_; have HO_9 := n2_; have HO_10 := n3_; have HO281 := n4_; have HB := n5_; clear n0_ n1_ n2_ n3_ n4_ n5_; (try clear hb); (try clear hb2); (try clear hk); (try clear hi); (try clear ho0)) | ((with_reducible refine gate_callee (f := 13) rfl ?_); refine goesL_ (some 148) rfl rfl Try.func13 (by kernel_rfl) rfl #[.slice Ao17 t225.length co17, .slice Ao254 t228.length co254] rfl (by (try simp only [List.map_toArray, List.map_cons, List.map_nil]); first | done | rfl | (simp only [List.length_drop, List.length_take]; rfl)) ?_; (with_reducible refine (vector_Max.calls _ _ t225 _ _ t228 t282 t283 _ ?side1 ?side2 ?side3 ?side4 A200.out).mono ?_); (case side1 => exact sC HO_8); (case side2 => exact sN HO_8); (case side3 => exact sC HO_9); (case side4 => exact sN HO_9); rintro e w256 ⟨v284, rfl, ho0, hb⟩; refine ⟨_, rfl, ?_⟩; have n0_ := sEl HO_7 (Kd.R_base ho0) hb; have n1_ := sEl HO_8 (Kd.R_base ho0) hb; have n2_ := sEl HO_9 (Kd.R_base ho0) hb; have n3_ := sEl HO_10 (Kd.R_base ho0) hb; have n4_ := sEl HO281 (Kd.R_base ho0) hb; have n5_ := Aside0.mk (Kd.R_lower (Kd.R_new' (Kd.R_new' (Kd.R_new' (Kd.R_new' (Kd.R_new' ho0 (sLt HO_7)) (sLt HO_8)) (sLt HO_9)) (sLt HO_10)) (sLt HO281)) (sSz HB)); have n6_ := sSt HB hb; clear HO_7; clear HO_8; clear HO_9; clear HO_10; clear HO281; clear HB; have HO_7 := n0_; have HO_8 := n1_; have HO_9 := n2_; have HO_10 := n3_; have HO281 := n4_; have HO285 := n5_; have HB := n6_; clear n0_ n1_ n2_ n3_ n4_ n5_ n6_; (try clear hb); (try clear hb2); (try clear hk); (try clear hi); (try clear ho0); obtain ⟨Ao257, co257, eo257⟩ := Kd.R_slice HO285.out; subst eo257) | ((with_reducible refine gate_callee (f := 13) rfl ?_); refine goesL_ (some 154) rfl rfl Try.func13 (by kernel_rfl) rfl #[.slice Ao16 t222.length co16, .slice Ao257 t282.length co257] rfl (by (try simp only [List.map_toArray, List.map_cons, List.map_nil]); first | done | rfl | (simp only [List.length_drop, List.length_take]; rfl)) ?_; (with_reducible refine (vector_Max.calls _ _ t222 _ _ t282 t286 t287 _ ?side1 ?side2 ?side3 ?side4 A201.out).mono ?_); (case side1 => exact sC HO_7); (case side2 => exact sN HO_7); (case side3 => exact sC HO285); (case side4 => exact sN HO285); rintro e w258 ⟨v288, rfl, ho0, hb⟩; refine ⟨_, rfl, ?_⟩; have n0_ := sEl HO_7 (Kd.R_base ho0) hb; have n1_ := sEl HO_8 (Kd.R_base ho0) hb; have n2_ := sEl HO_9 (Kd.R_base ho0) hb; have n3_ := sEl HO_10 (Kd.R_base ho0) hb; have n4_ := sEl HO281 (Kd.R_base ho0) hb; have n5_ := sEl HO285 (Kd.R_base ho0) hb; have n6_ := Aside0.mk (Kd.R_lower (Kd.R_new' (Kd.R_new' (Kd.R_new' (Kd.R_new' (Kd.R_new' (Kd.R_new' ho0 (sLt HO_7)) (sLt HO_8)) (sLt HO_9)) (sLt HO_10)) (sLt HO281)) (sLt HO285)) (sSz HB)); have n7_ := sSt HB hb; clear HO_7; clear HO_8; clear HO_9; clear HO_10; clear HO281; clear HO285; clear HB; have HO_7 := n0_; have HO_8 := n1_; have HO_9 := n2_; have HO_10 := n3_; have HO281 := n4_; have HO285 := n5_; have HO289 := n6_; have HB := n7_; clear n0_ n1_ n2_ n3_ n4_ n5_ n6_ n7_; (try clear hb); (try clear hb2); (try clear hk); (try clear hi); (try clear ho0)) | ((with_reducible refine gate_callee (f := 13) rfl ?_); refine goesL_ (some 160) rfl rfl Try.func13 (by kernel_rfl) rfl #[.slice Ao16 t222.length co16, .slice Ao16 t222.length co16] rfl (by (try simp only [List.map_toArray, List.map_cons, List.map_nil]); first | done | rfl | (simp only [List.length_drop, List.length_take]; rfl)) ?_; (with_reducible refine (vector_Max.calls _ _ t222 _ _ t222 t290 t291 _ ?side1 ?side2 ?side3 ?side4 A202.out).mono ?_); (case side1 => exact sC HO_7); (case side2 => exact sN HO_7); (case side3 => exact sC HO_7); (case side4 => exact sN HO_7); rintro e w259 ⟨v292, rfl, ho0, hb⟩; refine ⟨_, rfl, ?_⟩; have n0_ := sEl HO_7 (Kd.R_base ho0) hb; have n1_ := sEl HO_8 (Kd.R_base ho0) hb; have n2_ := sEl HO_9 (Kd.R_base ho0) hb; have n3_ := sEl HO_10 (Kd.R_base ho0) hb; have n4_ := sEl HO281 (Kd.R_base ho0) hb; have n5_ := sEl HO285 (Kd.R_base ho0) hb; have n6_ := sEl HO289 (Kd.R_base ho0) hb; have n7_ := Aside0.mk (Kd.R_lower (Kd.R_new' (Kd.R_new' (Kd.R_new' (Kd.R_new' (Kd.R_new' (Kd.R_new' (Kd.R_new' ho0 (sLt HO_7)) (sLt HO_8)) (sLt HO_9)) (sLt HO_10)) (sLt HO281)) (sLt HO285)) (sLt HO289)) (sSz HB)); have n8_ := sSt HB hb; clear HO_7; clear HO_8; clear HO_9; clear HO_10; clear HO281; clear HO285; clear HO289; clear HB; have HO_7 := n0_; have HO_8 := n1_; have HO_9 := n2_; have HO_10 := n3_; have HO281 := n4_; have HO285 := n5_; have HO289 := n6_; have HO293 := n7_; have HB := n8_; clear n0_ n1_ n2_ n3_ n4_ n5_ n6_ n7_ n8_; (try clear hb); (try clear hb2); (try clear hk); (try clear hi); (try clear ho0)) | ((with_reducible refine gate_callee (f := 13) rfl ?_); refine goesL_ (some 165) rfl rfl Try.func13 (by kernel_rfl) rfl #[.slice none 0 0, .slice Ao16 t222.length co16] rfl (by (try simp only [List.map_toArray, List.map_cons, List.map_nil]); first | done | rfl | (simp only [List.length_drop, List.length_take]; rfl)) ?_; (refine (vector_Max.calls _ _ ([] : List (S35)) _ _ t222 t294 t295 _ ?side1 ?side2 ?side3 ?side4 A203.out).mono ?_); (case side1 => exact Kd.C_nil _ _); (case side2 => exact Nat.le_refl _); (case side3 => exact sC HO_7); (case side4 => exact sN HO_7); rintro e w260 ⟨v296, rfl, ho0, hb⟩; refine ⟨_, rfl, ?_⟩; have n0_ := sEl HO_7 (Kd.R_base ho0) hb; have n1_ := sEl HO_8 (Kd.R_base ho0) hb; have n2_ := sEl HO_9 (Kd.R_base ho0) hb; have n3_ := sEl HO_10 (Kd.R_base ho0) hb; have n4_ := sEl HO281 (Kd.R_base ho0) hb; have n5_ := sEl HO285 (Kd.R_base ho0) hb; have n6_ := sEl HO289 (Kd.R_base ho0) hb; have n7_ := sEl HO293 (Kd.R_base ho0) hb; have n8_ := Aside0.mk (Kd.R_lower (Kd.R_new' (Kd.R_new' (Kd.R_new' (Kd.R_new' (Kd.R_new' (Kd.R_new' (Kd.R_new' (Kd.R_new' ho0 (sLt HO_7)) (sLt HO_8)) (sLt HO_9)) (sLt HO_10)) (sLt HO281)) (sLt HO285)) (sLt HO289)) (sLt HO293)) (sSz HB)); have n9_ := sSt HB hb; clear HO_7; clear HO_8; clear HO_9; clear HO_10; clear HO281; clear HO285; clear HO289; clear HO293; clear HB; have HO_7 := n0_; have HO_8 := n1_; have HO_9 := n2_; have HO_10 := n3_; have HO281 := n4_; have HO285 := n5_; have HO289 := n6_; have HO293 := n7_; have HO297 := n8_; have HB := n9_; clear n0_ n1_ n2_ n3_ n4_ n5_ n6_ n7_ n8_ n9_; (try clear hb); (try clear hb2); (try clear hk); (try clear hi); (try clear ho0)))
             go_ret
             exact ⟨by first | rfl | (simp [errW_none, errW_some] <;> rfl) | (simp [*, errW_none, errW_some] <;> rfl), by repeat (first | (with_reducible first | exact HB.out | apply below_alloc | apply pw_below_drewN | apply below_drew1) | exact HB.out)⟩
           ·rw [if_neg c204] at H
            have c204b0 : (t287 == 0) = false := beq_eq_false_iff_ne.mpr c204
            have c204b1 : (t287 != 0) = true := bne_iff_ne.mpr c204
            obtain rfl := Option.some.inj H
            obtain ⟨Ao261, co261, eo261⟩ := Kd.R_slice HO_10.out
            subst eo261
            obtain ⟨Ao262, co262, eo262⟩ := Kd.R_slice HO_9.out
            subst eo262
            go_wp2_with (first | ((with_reducible refine gate_callee (f := 13) rfl ?_); refine goesL_ (some 142) rfl rfl Try.func13 (by kernel_rfl) rfl #[.slice Ao261 t231.length co261, .slice Ao262 t228.length co262] rfl (by (try simp only [List.map_toArray, List.map_cons, List.map_nil]); first | done | rfl | (simp only [List.length_drop, List.length_take]; rfl)) ?_; (with_reducible refine (vector_Max.calls _ _ t231 _ _ t228 t278 t279 _ ?side1 ?side2 ?side3 ?side4 A199.out).mono ?_); (case side1 => exact sC HO_10); (case side2 => exact sN HO_10); (case side3 => exact sC HO_9); (case side4 => exact sN HO_9); rintro e w263 ⟨v280, rfl, ho0, hb⟩; refine ⟨_, rfl, ?_⟩; have n0_ := sEl HO_7 (Kd.R_base ho0) hb; have n1_ := sEl HO_8 (Kd.R_base ho0) hb; have n2_ := sEl HO_9 (Kd.R_base ho0) hb; have n3_ := sEl HO_10 (Kd.R_base ho0) hb; have n4_ := Aside0.mk (Kd.R_lower (Kd.R_new' (Kd.R_new' (Kd.R_new' (Kd.R_new' ho0 (sLt HO_7)) (sLt HO_8)) (sLt HO_9)) (sLt HO_10)) (sSz HB)); have n5_ := sSt HB hb; clear HO_7; clear HO_8; clear HO_9; clear HO_10; clear HB; have HO_7 := n0_; have HO_8 := n1_; have HO_9 := n2_; have HO_10 := n3_; have HO281 := n4_; have HB := n5_; clear n0_ n1_ n2_ n3_ n4_ n5_; (try clear hb); (try clear hb2); (try clear hk); (try clear hi); (try clear ho0)) | ((with_reducible refine gate_callee (f := 13) rfl ?_); refine goesL_ (some 148) rfl rfl Try.func13 (by kernel_rfl) rfl #[.slice Ao17 t225.length co17, .slice Ao262 t228.length co262] rfl (by (try simp only [List.map_toArray, List.map_cons, List.map_nil]); first | done | rfl | (simp only [List.length_drop, List.length_take]; rfl)) ?_; (with_reducible refine (vector_Max.calls _ _ t225 _ _ t228 t282 t283 _ ?side1 ?side2 ?side3 ?side4 A200.out).mono ?_); (case side1 => exact sC HO_8); (case side2 => exact sN HO_8); (case side3 => exact sC HO_9); (case side4 => exact sN HO_9); rintro e w264 ⟨v284, rfl, ho0, hb⟩; refine ⟨_, rfl, ?_⟩; have n0_ := sEl HO_7 (Kd.R_base ho0) hb; have n1_ := sEl HO_8 (Kd.R_base ho0) hb; have n2_ := sEl HO_9 (Kd.R_base ho0) hb; have n3_ := sEl HO_10 (Kd.R_base ho0) hb; have n4_ := sEl HO281 (Kd.R_base ho0) hb; have n5_ := Aside0.mk (Kd.R_lower (Kd.R_new' (Kd.R_new' (Kd.R_new' (Kd.R_new' (Kd.R_new' ho0 (sLt HO_7)) (sLt HO_8)) (sLt HO_9)) (sLt HO_10)) (sLt HO281)) (sSz HB)); have n6_ := sSt HB hb; clear HO_7; clear HO_8; clear HO_9; clear HO_10; clear HO281; clear HB; have HO_7 := n0_; have HO_8 := n1_; have HO_9 := n2_; have HO_10 := n3_; have HO281 := n4_; have HO285 := n5_; have HB := n6_; clear n0_ n1_ n2_ n3_ n4_ n5_ n6_; (try clear hb); (try clear hb2); (try clear hk); (try clear hi); (try clear ho0); obtain ⟨Ao265, co265, eo265⟩ := Kd.R_slice HO285.out; subst eo265) | ((with_reducible refine gate_callee (f := 13) rfl ?_); refine goesL_ (some 154) rfl rfl Try.func13 (by kernel_rfl) rfl #[.slice Ao16 t222.length co16, .slice Ao265 t282.length co265] rfl (by (try simp only [List.map_toArray, List.map_cons, List.map_nil]); first | done | rfl | (simp only [List.length_drop, List.length_take]; rfl)) ?_; (with_reducible refine (vector_Max.calls _ _ t222 _ _ t282 t286 t287 _ ?side1 ?side2 ?side3 ?side4 A201.out).mono ?_); (case side1 => exact sC HO_7); (case side2 => exact sN HO_7); (case side3 => exact sC HO285); (case side4 => exact sN HO285); rintro e w266 ⟨v288, rfl, ho0, hb⟩; refine ⟨_, rfl, ?_⟩; have n0_ := sEl HO_7 (Kd.R_base ho0) hb; have n1_ := sEl HO_8 (Kd.R_base ho0) hb; have n2_ := sEl HO_9 (Kd.R_base ho0) hb; have n3_ := sEl HO_10 (Kd.R_base ho0) hb; have n4_ := sEl HO281 (Kd.R_base ho0) hb; have n5_ := sEl HO285 (Kd.R_base ho0) hb; have n6_ := Aside0.mk (Kd.R_lower (Kd.R_new' (Kd.R_new' (Kd.R_new' (Kd.R_new' (Kd.R_new' (Kd.R_new' ho0 (sLt HO_7)) (sLt HO_8)) (sLt HO_9)) (sLt HO_10)) (sLt HO281)) (sLt HO285)) (sSz HB)); have n7_ := sSt HB hb; clear HO_7; clear HO_8; clear HO_9; clear HO_10; clear HO281; clear HO285; clear HB; have HO_7 := n0_; have HO_8 := n1_; have HO_9 := n2_; have HO_10 := n3_; have HO281 := n4_; have HO285 := n5_; have HO289 := n6_; have HB := n7_; clear n0_ n1_ n2_ n3_ n4_ n5_ n6_ n7_; (try clear hb); (try clear hb2); (try clear hk); (try clear hi); (try clear ho0)) | ((with_reducible refine gate_callee (f := 13) rfl ?_); refine goesL_ (some 160) rfl rfl Try.func13 (by kernel_rfl) rfl #[.slice Ao16 t222.length co16, .slice Ao16 t222.length co16] rfl (by (try simp only [List.map_toArray, List.map_cons, List.map_nil]); first | done | rfl | (simp only [List.length_drop, List.length_take]; rfl)) ?_; (with_reducible refine (vector_Max.calls _ _ t222 _ _ t222 t290 t291 _ ?side1 ?side2 ?side3 ?side4 A202.out).mono ?_); (case side1 => exact sC HO_7); (case side2 => exact sN HO_7); (case side3 => exact sC HO_7); (case side4 => exact sN HO_7); rintro e w267 ⟨v292, rfl, ho0, hb⟩; refine ⟨_, rfl, ?_⟩; have n0_ := sEl HO_7 (Kd.R_base ho0) hb; have n1_ := sEl HO_8 (Kd.R_base ho0) hb; have n2_ := sEl HO_9 (Kd.R_base ho0) hb; have n3_ := sEl HO_10 (Kd.R_base ho0) hb; have n4_ := sEl HO281 (Kd.R_base ho0) hb; have n5_ := sEl HO285 (Kd.R_base ho0) hb; have n6_ := sEl HO289 (Kd.R_base ho0) hb; have n7_ := Aside0.mk (Kd.R_lower (Kd.R_new' (Kd.R_new' (Kd.R_new' (Kd.R_new' (Kd.R_new' (Kd.R_new' (Kd.R_new' ho0 (sLt HO_7)) (sLt HO_8)) (sLt HO_9)) (sLt HO_10)) (sLt HO281)) (sLt HO285)) (sLt HO289)) (sSz HB)); have n8_ := sSt HB hb; clear HO_7; clear HO_8; clear HO_9; clear HO_10; clear HO281; clear HO285; clear HO289; clear HB; have HO_7 := n0_; have HO_8 := n1_; have HO_9 := n2_; have HO_10 := n3_; have HO281 := n4_; have HO285 := n5_; have HO289 := n6_; have HO293 := n7_; have HB := n8_; clear n0_ n1_ n2_ n3_ n4_ n5_ n6_ n7_ n8_; (try clear hb); (try clear hb2); (try clear hk); (try clear hi); (try clear ho0)) | ((with_reducible refine gate_callee (f := 13) rfl ?_); refine goesL_ (some 165) rfl rfl Try.func13 (by kernel_rfl) rfl #[.slice none 0 0, .slice Ao16 t222.length co16] rfl (by (try simp only [List.map_toArray, List.map_cons, List.map_nil]); first | done | rfl | (simp only [List.length_drop, List.length_take]; rfl)) ?_; (refine (vector_Max.calls _ _ ([] : List (S35)) _ _ t222 t294 t295 _ ?side1 ?side2 ?side3 ?side4 A203.out).mono ?_); (case side1 => exact Kd.C_nil _ _); (case side2 => exact Nat.le_refl _); (case side3 => exact sC HO_7); (case side4 => exact sN HO_7); rintro e w268 ⟨v296, rfl, ho0, hb⟩; refine ⟨_, rfl, ?_⟩; have n0_ := sEl HO_7 (Kd.R_base ho0) hb; have n1_ := sEl HO_8 (Kd.R_base ho0) hb; have n2_ := sEl HO_9 (Kd.R_base ho0) hb; have n3_ := sEl HO_10 (Kd.R_base ho0) hb; have n4_ := sEl HO281 (Kd.R_base ho0) hb; have n5_ := sEl HO285 (Kd.R_base ho0) hb; have n6_ := sEl HO289 (Kd.R_base ho0) hb; have n7_ := sEl HO293 (Kd.R_base ho0) hb; have n8_ := Aside0.mk (Kd.R_lower (Kd.R_new' (Kd.R_new' (Kd.R_new' (Kd.R_new' (Kd.R_new' (Kd.R_new' (Kd.R_new' (Kd.R_new' ho0 (sLt HO_7)) (sLt HO_8)) (sLt HO_9)) (sLt HO_10)) (sLt HO281)) (sLt HO285)) (sLt HO289)) (sLt HO293)) (sSz HB)); have n9_ := sSt HB hb; clear HO_7; clear HO_8; clear HO_9; clear HO_10; clear HO281; clear HO285; clear HO289; clear HO293; clear HB; have HO_7 := n0_; have HO_8 := n1_; have HO_9 := n2_; have HO_10 := n3_; have HO281 := n4_; have HO285 := n5_; have HO289 := n6_; have HO293 := n7_; have HO297 := n8_; have HB := n9_; clear n0_ n1_ n2_ n3_ n4_ n5_ n6_ n7_ n8_ n9_; (try clear hb); (try clear hb2); (try clear hk); (try clear hi); (try clear ho0)))
            go_ret
            exact ⟨by first | rfl | (simp [errW_none, errW_some] <;> rfl) | (simp [*, errW_none, errW_some] <;> rfl), by repeat (first | (with_reducible first | exact HB.out | apply below_alloc | apply pw_below_drewN | apply below_drew1) | exact HB.out)⟩
 ·replace c5 := Bool.eq_false_iff.mpr c5
  subst c5
  have H1 : (some false) = some r := by rw [if_neg (show ¬ (false = true) by decide)] at H; exact H
  clear H
  have H := H1
  clear H1
  obtain rfl := Option.some.inj H
  go_enter Try.func7, Try.ntmps7
  go_wp2_with (first | ((with_reducible refine gate_callee (f := 38) rfl ?_); refine goesL_ (some 24) rfl rfl Try.func38 (by kernel_rfl) rfl #[] rfl (by (try simp only [List.map_toArray, List.map_cons, List.map_nil]); first | done | rfl | (simp only [List.length_drop, List.length_take]; rfl)) ?_; (with_reducible refine (concordlaw10_works.calls k  false _ A4.out).mono ?_); rintro e w269 ⟨rfl, hb⟩; refine ⟨_, rfl, ?_⟩; have n0_ := sSt HB hb; clear HB; have HB := n0_; clear n0_; (try clear hb); (try clear hb2); (try clear hk); (try clear hi)))
  go_ret
  exact ⟨by first | rfl | (simp [errW_none, errW_some] <;> rfl) | (simp [*, errW_none, errW_some] <;> rfl), by repeat (first | (with_reducible first | exact HB.out | apply below_alloc | apply pw_below_drewN | apply below_drew1) | exact HB.out)⟩

end Go.Proofs.Ytgcmmiihjiiemaa.PF
