/- What the document's Grow, Shrink and Turn answer. -/
import Derived.Test.YtdjjpgdhnoibkaaSq
import Derived.Test.YtdjjpgdhnoibkaaPZx0
import Derived.Test.YtdjjpgdhnoibkaaPZx1
import Derived.Test.YtdjjpgdhnoibkaaPZx2
import Derived.Test.YtdjjpgdhnoibkaaPZx3
import Derived.Test.YtdjjpgdhnoibkaaPZx5
import Derived.Test.YtdjjpgdhnoibkaaNdEnc
import Derived.Test.YtdjjpgdhnoibkaaNdGrow
import Derived.Test.YtdjjpgdhnoibkaaPBy2
import Derived.Test.YtdjjpgdhnoibkaaPBy3
namespace Go.Proofs.Ytdjjpgdhnoibkaa.PB
open Go.Proofs.Ytdjjpgdhnoibkaa.PZ
open Go.Proofs.Ytdjjpgdhnoibkaa.My
attribute [local go_sem high] conv_rune str_leq str_gtr
open Go.RowKit Go.Proofs.YtdjjpgdhnoibkaaW.PrintWords Go.Proofs.YtdjjpgdhnoibkaaW.PrintLast Go.Proofs.YtdjjpgdhnoibkaaW.PrintMore
attribute [local go_sem] max2_int min2_int max_two min_two max_three min_three max_four min_four   -- for this text's walks alone
set_option linter.unusedVariables false
set_option linter.unusedSimpArgs false
/-! ### concordref08_Turn: function 48 -/
mutual
def concordref08_Turn.j0 : Nat → Int → ByteArray → Bool → Bool → List (S66) → List ByteArray → List Int → Option (Bool × (List (S66)) × List ByteArray × List Int × Int)
 | 0, _, _, _, _, _, _, _ => none
 | k + 1, x1, x2, x30, x193000, x193001, x193002, x193003 => if x30 = true then (some (false, ([] : List (S66)), ([] : List ByteArray), ([] : List Int), 1)) else ((some (([] : List Int) : List Int)).bind fun y196 => (if y196.length + x193003.length < 35184372088832 then (concordref08_Turn.l0 k x1 x2 0 x193000 x193001 x193002 x193003 false ([] : List ByteArray) (y196 ++ x193003)) else (none)))
def concordref08_Turn.l0 : Nat → Int → ByteArray → Int → Bool → List (S66) → List ByteArray → List Int → Bool → List ByteArray → List Int → Option (Bool × (List (S66)) × List ByteArray × List Int × Int)
 | 0, _, _, _, _, _, _, _, _, _, _ => none
 | k + 1, x1, x2, x10, x193000, x193001, x193002, x193003, x203000, x203002, x203003 => if x10 < (x193002.length : Int) then (if x10 = x1 then (if x203002.length < 8796093022208 then (concordref08_Turn.l0 k x1 x2 (wrap64 (x10 + 1)) x193000 x193001 x193002 x193003 x203000 (x203002 ++ [x2]) x203003) else (none)) else (if 0 ≤ x10 then (if x203002.length < 8796093022208 then (concordref08_Turn.l0 k x1 x2 (wrap64 (x10 + 1)) x193000 x193001 x193002 x193003 x203000 (x203002 ++ [rdOf ByteArray.empty x193002 x10]) x203003) else (none)) else (none))) else ((concordref08_whole.f k x203000 ([] : List (S66)) x203002 x203003).bind fun bt210 => (some (bt210.1, bt210.2.1, bt210.2.2.1, bt210.2.2.2.1, bt210.2.2.2.2)))
end
def concordref08_Turn.f (k : Nat) (a0_0 : Bool) (l0_1 : List (S66)) (l0_2 : List ByteArray) (l0_3 : List Int) (a1 : Int) (a2 : ByteArray) : Option (Bool × (List (S66)) × List ByteArray × List Int × Int) := (concordref08_branch.f k a0_0 l0_1 l0_2 l0_3).bind fun t194 => (if t194 = 0 then (if a1 < 0 then (concordref08_Turn.j0 k a1 a2 true a0_0 l0_1 l0_2 l0_3) else (if a1 ≥ (l0_2.length : Int) then (concordref08_Turn.j0 k a1 a2 true a0_0 l0_1 l0_2 l0_3) else ((concordref08_keyMay.f a2).bind fun t195 => (concordref08_Turn.j0 k a1 a2 (!t195) a0_0 l0_1 l0_2 l0_3)))) else (some (false, ([] : List (S66)), ([] : List ByteArray), ([] : List Int), t194)))
def concordref08_Turn.T12 : Bool × List (List Nat × List Nat) := (true, [([], []), ([0], [0]), ([], []), ([2], [2]), ([], []), ([3, 4], [3, 4]), ([5], [5]), ([6], [6]), ([1, 7], [1, 7]), ([0, 1, 2, 3, 4, 5, 6, 7, 8], []), ([9, 8, 8, 0, 1, 2, 3, 4, 5, 6, 7, 8], [8, 9])])
def concordref08_Turn.B12 : List Nat := [0, 1, 0, 4, 0, 28, 60, 124, 255, 511, 1023]
theorem concordref08_Turn.tab12 : rtab .any (opsOf Try.f48 12) = concordref08_Turn.T12 := by kernel_rfl
theorem concordref08_Turn.bits12 : waitsOk concordref08_Turn.T12.2 concordref08_Turn.B12 = true := by kernel_rfl
set_option maxHeartbeats 8000000 in
set_option maxRecDepth 100000 in
theorem concordref08_Turn.calls (k : Nat) (a0_0 : Bool) (A0_1 : Option Addr) (c0_1 : Nat) (l0_1 : List (S66)) (A0_2 : Option Addr) (c0_2 : Nat) (l0_2 : List ByteArray) (A0_3 : Option Addr) (c0_3 : Nat) (l0_3 : List Int) (a1 : Int) (a2 : ByteArray) (r1 : Bool) (r2 : List (S66)) (r3 : List ByteArray) (r4 : List Int) (r5 : Int) (w : World) (hr0_1 : Kd.C k66 w A0_1 l0_1.length l0_1) (hc0_1 : l0_1.length ≤ c0_1) (hr0_2 : Kd.C Kd.string w A0_2 l0_2.length l0_2) (hc0_2 : l0_2.length ≤ c0_2) (hr0_3 : Kd.C (Kd.int .u32) w A0_3 l0_3.length l0_3) (hc0_3 : l0_3.length ≤ c0_3) (h : concordref08_Turn.f k a0_0 l0_1 l0_2 l0_3 a1 a2 = some (r1, r2, r3, r4, r5)) :
  Calls Try.prog 48 #[.agg #[.bool a0_0, .slice A0_1 l0_1.length c0_1, .slice A0_2 l0_2.length c0_2, .slice A0_3 l0_3.length c0_3], .int .i64 a1, .string a2] w fun e w' => ∃ v1_ v2_ v3_ : Value, e = .returned (.tuple #[.agg #[.bool r1, v1_, v2_, v3_], .int .i64 r5]) ∧ Kd.R k66 66 w' w.heap.size (fun _ => True) v1_ r2 ∧ Kd.R Kd.string 9 w' w.heap.size (fun _ => True) v2_ r3 ∧ Kd.R (Kd.int .u32) 45 w' w.heap.size (fun _ => True) v3_ r4 ∧ Below w.heap.size w w' := by
 have hu26 := Try.underlying26
 have HR0_1 := Aside0.mk hr0_1
 have HC0_1 := Aside0.mk hc0_1
 clear hr0_1 hc0_1
 have HR0_2 := Aside0.mk hr0_2
 have HC0_2 := Aside0.mk hc0_2
 clear hr0_2 hc0_2
 have HR0_3 := Aside0.mk hr0_3
 have HC0_3 := Aside0.mk hc0_3
 clear hr0_3 hc0_3
 have HB := Aside0.mk (Below.refl w.heap.size w)
 have H : ((concordref08_branch.f k a0_0 l0_1 l0_2 l0_3).bind fun t194 => (if t194 = 0 then (if a1 < 0 then (concordref08_Turn.j0 k a1 a2 true a0_0 l0_1 l0_2 l0_3) else (if a1 ≥ (l0_2.length : Int) then (concordref08_Turn.j0 k a1 a2 true a0_0 l0_1 l0_2 l0_3) else ((concordref08_keyMay.f a2).bind fun t195 => (concordref08_Turn.j0 k a1 a2 (!t195) a0_0 l0_1 l0_2 l0_3)))) else (some (false, ([] : List (S66)), ([] : List ByteArray), ([] : List Int), t194)))) = some (r1, r2, r3, r4, r5) := h
 clear h
 replace H := Option.bind_eq_some_iff.mp H
 obtain ⟨t194, A40, H⟩ := H
 replace H : (if t194 = 0 then (if a1 < 0 then (concordref08_Turn.j0 k a1 a2 true a0_0 l0_1 l0_2 l0_3) else (if a1 ≥ (l0_2.length : Int) then (concordref08_Turn.j0 k a1 a2 true a0_0 l0_1 l0_2 l0_3) else ((concordref08_keyMay.f a2).bind fun t195 => (concordref08_Turn.j0 k a1 a2 (!t195) a0_0 l0_1 l0_2 l0_3)))) else (some (false, ([] : List (S66)), ([] : List ByteArray), ([] : List Int), t194))) = some (r1, r2, r3, r4, r5) := H
 have A4 := Aside0.mk A40
 clear A40
 by_cases c5 : t194 = 0
 ·rw [if_pos c5] at H
  have c5b0 : (t194 == 0) = true := beq_iff_eq.mpr c5
  have c5b1 : (t194 != 0) = false := bne_eq_false_iff_eq.mpr c5
  clear c5
  have HC6 := Aside0.mk H
  clear H
  go_enter Try.func48, Try.ntmps48
  go_upto_region 4 with (first | ((with_reducible refine gate_dst (N := 3) rfl ?_); (try (refine gate_guard (by rfl) ?_; dsimp only)); refine box_event ?hg (N := 3) ?hd (cs := #[.bool a0_0, .slice A0_1 l0_1.length c0_1, .slice A0_2 l0_2.length c0_2, .slice A0_3 l0_3.length c0_3]) (t := 26) ?hr ?_; (case hd => rfl); (case hg => rfl); (case hr => first | (go_simp; done) | (go_simp; rfl)); intro gb192 hg w7 hbox hb; have n0_ := sSt HB hb; have n1_ := Aside0.mk (hbox); have n2_ := Aside0.mk ((by rw [hg]; exact (sSz HB) : w.heap.size ≤ gb192)); have n3_ := Aside0.mk ((by rw [hg]; exact (sSz HB) : w.heap.size ≤ gb192)); clear HB; have HB := n0_; have BK192 := n1_; have GW192 := n2_; have GE192 := n3_; clear n0_ n1_ n2_ n3_; clear hb hbox hg) | ((with_reducible refine gate_dst (N := 6) rfl ?_); (try (refine gate_guard (by rfl) ?_; dsimp only)); refine box_event ?hg (N := 6) ?hd (cs := #[.bool false, .slice none 0 0, .slice none 0 0, .slice none 0 0]) (t := 26) ?hr ?_; (case hd => rfl); (case hg => rfl); (case hr => first | (go_simp; done) | (go_simp; rfl)); intro gb193 hg w8 hbox hb; have n0_ := Aside0.mk (blk_below (g := gb192) (o := .cells #[.bool a0_0, .slice A0_1 l0_1.length c0_1, .slice A0_2 l0_2.length c0_2, .slice A0_3 l0_3.length c0_3] 26 (0, 0)) (qB BK192) hb); have n1_ := Aside0.mk (below_step (by exact qS1 HB GE192) hb); have n2_ := Aside0.mk (hbox); have n3_ := Aside0.mk ((by rw [hg]; exact (below_size (by exact qS1 HB GE192)) : w.heap.size ≤ gb193)); have n4_ := Aside0.mk ((by rw [hg]; exact (below_size (by exact qS1 HB GE192)) : w.heap.size ≤ gb193)); have n5_ := Aside0.mk ((by rw [hg]; exact Nat.ne_of_lt (blk_lt (g := gb192) (o := .cells #[.bool a0_0, .slice A0_1 l0_1.length c0_1, .slice A0_2 l0_2.length c0_2, .slice A0_3 l0_3.length c0_3] 26 (0, 0)) (qB BK192)) : gb192 ≠ gb193)); have n6_ := Aside0.mk ((by rw [hg]; exact Nat.ne_of_gt (blk_lt (g := gb192) (o := .cells #[.bool a0_0, .slice A0_1 l0_1.length c0_1, .slice A0_2 l0_2.length c0_2, .slice A0_3 l0_3.length c0_3] 26 (0, 0)) (qB BK192)) : gb193 ≠ gb192)); clear BK192; clear HB; have BK192 := n0_; have HB := n1_; have BK193 := n2_; have GW193 := n3_; have GE193 := n4_; have NB192_193 := n5_; have NB193_192 := n6_; clear n0_ n1_ n2_ n3_ n4_ n5_ n6_; clear hb hbox hg; have hnb9 := NB192_193.out; have hnc9 := NB193_192.out; obtain ⟨hcz10_0, hcz10_1, hcz10_2, hcz10_3⟩ := qc4 BK192; obtain ⟨hfz10_0, hfz10_1, hfz10_2, hfz10_3⟩ := qf4 BK192) | ((with_reducible refine gate_callee (f := 95) rfl ?_); refine goesL_ (some 12) rfl rfl Try.func95 (by kernel_rfl) rfl #[.agg #[.bool a0_0, .slice A0_1 l0_1.length c0_1, .slice A0_2 l0_2.length c0_2, .slice A0_3 l0_3.length c0_3]] rfl (by (try simp only [List.map_toArray, List.map_cons, List.map_nil]); first | done | rfl | (simp only [List.length_drop, List.length_take]; rfl)) ?_; (with_reducible refine (concordref08_branch.calls k a0_0 _ _ l0_1 _ _ l0_2 _ _ l0_3 t194 _ ?side1 ?side2 ?side3 ?side4 ?side5 ?side6 A4.out).mono ?_); (case side1 => exact qC HR0_1 HB); (case side2 => exact HC0_1.out); (case side3 => exact qC HR0_2 HB); (case side4 => exact HC0_2.out); (case side5 => exact qC HR0_3 HB); (case side6 => exact HC0_3.out); rintro e w11 ⟨rfl, hb⟩; refine ⟨_, rfl, ?_⟩; have n0_ := Aside0.mk (blk_below (g := gb192) (o := .cells #[.bool a0_0, .slice A0_1 l0_1.length c0_1, .slice A0_2 l0_2.length c0_2, .slice A0_3 l0_3.length c0_3] 26 (0, 0)) (qB BK192) hb); have n1_ := Aside0.mk (blk_below (g := gb193) (o := .cells #[.bool false, .slice none 0 0, .slice none 0 0, .slice none 0 0] 26 (0, 0)) (qB BK193) hb); have n2_ := Aside0.mk (below_step (by exact qS2 HB GE192 GE193) hb); clear BK192; clear BK193; clear HB; have BK192 := n0_; have BK193 := n1_; have HB := n2_; clear n0_ n1_ n2_; (try clear hb); (try clear hb2); (try clear hk); (try clear hi)))
  (try simp only [Act.put, List.setIfInBounds_toArray, List.set_cons_zero, List.set_cons_succ])
  go_cut [30] (fun v30 wc => ∃ (kq : Nat) (x30_5 : Bool), v30 = .bool x30_5 ∧ Aside0 (concordref08_Turn.j0 kq a1 a2 x30_5 a0_0 l0_1 l0_2 l0_3 = some (r1, r2, r3, r4, r5)) ∧ Aside0 (kq ≤ k) ∧ Aside0 (wc.heap[gb192]? = some (.cells #[.bool a0_0, (.slice A0_1 l0_1.length c0_1), (.slice A0_2 l0_2.length c0_2), (.slice A0_3 l0_3.length c0_3)] 26 (0, 0))) ∧ Aside0 (wc.heap[gb193]? = some (.cells #[.bool false, (.slice none 0 0), (.slice none 0 0), (.slice none 0 0)] 26 (0, 0))) ∧ Aside0 (Below w.heap.size w wc))
  case first =>
   have H := HC6.out
   clear HC6
   by_cases c12 : a1 < 0
   ·rw [if_pos c12] at H
    have c12b0 : decide (a1 < 0) = true := decide_eq_true c12
    clear c12
    (first | rw [c12b0] | (simp only [i64_w, i32_w]; rw [c12b0]) | skip)
    have H' := Aside0.mk H
    clear H
    go_wp2
    go_meet
    case rel => exact ⟨_, (true), (by first | rfl | (simp; done) | (simp [*]; done) | (simp only [i64_w]; done)), H', ⟨by first | omega | exact Nat.le_refl _⟩, ⟨by (with_reducible repeat (first | refine blk_drewN ?_ _ | refine blk_drew ?_ | refine blk_alloc ?_ _)); exact BK192.out⟩, ⟨by (with_reducible repeat (first | refine blk_drewN ?_ _ | refine blk_drew ?_ | refine blk_alloc ?_ _)); exact BK193.out⟩, ⟨by exact qS2 HB GE192 GE193⟩⟩
   ·rw [if_neg c12] at H
    have c12b0 : decide (a1 < 0) = false := decide_eq_false c12
    clear c12
    (first | rw [c12b0] | (simp only [i64_w, i32_w]; rw [c12b0]) | skip)
    by_cases c13 : a1 ≥ (l0_2.length : Int)
    ·rw [if_pos c13] at H
     have c13b0 : decide ((l0_2.length : Int) ≤ a1) = true := decide_eq_true c13
     clear c13
     have H' := Aside0.mk H
     clear H
     have hnb14 := NB192_193.out
     have hnc14 := NB193_192.out
     obtain ⟨hcz15_0, hcz15_1, hcz15_2, hcz15_3⟩ := qc4 BK192
     obtain ⟨hfz15_0, hfz15_1, hfz15_2, hfz15_3⟩ := qf4 BK192
     go_wp2
     go_meet
     case rel => exact ⟨_, (true), (by first | rfl | (simp; done) | (simp [*]; done) | (simp only [i64_w]; done)), H', ⟨by first | omega | exact Nat.le_refl _⟩, ⟨by (with_reducible repeat (first | refine blk_drewN ?_ _ | refine blk_drew ?_ | refine blk_alloc ?_ _)); exact BK192.out⟩, ⟨by (with_reducible repeat (first | refine blk_drewN ?_ _ | refine blk_drew ?_ | refine blk_alloc ?_ _)); exact BK193.out⟩, ⟨by exact qS2 HB GE192 GE193⟩⟩
    ·rw [if_neg c13] at H
     have c13b0 : decide ((l0_2.length : Int) ≤ a1) = false := decide_eq_false c13
     clear c13
     replace H := Option.bind_eq_some_iff.mp H
     obtain ⟨t195, A160, H⟩ := H
     replace H : (concordref08_Turn.j0 k a1 a2 (!t195) a0_0 l0_1 l0_2 l0_3) = some (r1, r2, r3, r4, r5) := H
     have A16 := Aside0.mk A160
     clear A160
     have H' := Aside0.mk H
     clear H
     have hnb17 := NB192_193.out
     have hnc17 := NB193_192.out
     obtain ⟨hcz18_0, hcz18_1, hcz18_2, hcz18_3⟩ := qc4 BK192
     obtain ⟨hfz18_0, hfz18_1, hfz18_2, hfz18_3⟩ := qf4 BK192
     go_wp2_with (first | (go_at_call 75; (with_reducible refine (concordref08_keyMay.calls a2 t195 _ A16.out).mono ?_); rintro e w' ⟨rfl, ⟨nd, rfl⟩⟩))
     go_meet
     case rel => exact ⟨_, (!t195), (by first | rfl | (simp; done) | (simp [*]; done) | (simp only [i64_w]; done)), H', ⟨by first | omega | exact Nat.le_refl _⟩, ⟨by (with_reducible repeat (first | refine blk_drewN ?_ _ | refine blk_drew ?_ | refine blk_alloc ?_ _)); exact BK192.out⟩, ⟨by (with_reducible repeat (first | refine blk_drewN ?_ _ | refine blk_drew ?_ | refine blk_alloc ?_ _)); exact BK193.out⟩, ⟨by exact qS2 HB GE192 GE193⟩⟩
  case rest =>
   clear HC6
   try clear c1
   try clear p2
   try clear c4
   try clear c5
   try clear c5b0
   try clear c5b1
   try clear c9
   try clear c12
   try clear c12b0
   try clear c13
   try clear c13b0
   try clear c14
   try clear c17
   try clear hcz10_0
   try clear hcz10_1
   try clear hcz10_2
   try clear hcz10_3
   try clear hcz15_0
   try clear hcz15_1
   try clear hcz15_2
   try clear hcz15_3
   try clear hcz18_0
   try clear hcz18_1
   try clear hcz18_2
   try clear hcz18_3
   try clear hfz10_0
   try clear hfz10_1
   try clear hfz10_2
   try clear hfz10_3
   try clear hfz15_0
   try clear hfz15_1
   try clear hfz15_2
   try clear hfz15_3
   try clear hfz18_0
   try clear hfz18_1
   try clear hfz18_2
   try clear hfz18_3
   obtain ⟨kq, x30_5, rfl, HA, HJ5, BK192, BK193, HB⟩ := hcut
   cases kq with
   | zero => exact absurd HA.out (by simp [concordref08_Turn.j0])
   | succ kj5 =>
    have H := HA.out
    clear HA
    simp only [concordref08_Turn.j0] at H
    by_cases c19 : x30_5 = true
    ·subst c19
     have H1 : (some (false, ([] : List (S66)), ([] : List ByteArray), ([] : List Int), 1)) = some (r1, r2, r3, r4, r5) := by rw [if_pos rfl] at H; exact H
     clear H
     have H := H1
     clear H1
     simp only [Option.some.injEq, Prod.mk.injEq] at H
     obtain ⟨rfl, rfl, rfl, rfl, rfl⟩ := H
     have hnb20 := NB193_192.out
     have hnc20 := NB192_193.out
     obtain ⟨hcz21_0, hcz21_1, hcz21_2, hcz21_3⟩ := qc4 BK193
     obtain ⟨hfz21_0, hfz21_1, hfz21_2, hfz21_3⟩ := qf4 BK193
     go_wp2
     refine bodyPost_ret (results_ct rfl _ _ gb193 26 #[.bool false, .slice none 0 0, .slice none 0 0, .slice none 0 0] (0, 0) _ rfl (by (with_reducible repeat (first | refine blk_drewN ?_ _ | refine blk_drew ?_ | refine blk_alloc ?_ _)); refine blk_put (cs := #[.bool false, .slice none 0 0, .slice none 0 0, .slice none 0 0]) ?_ 3 _ rfl; (with_reducible repeat (first | refine blk_drewN ?_ _ | refine blk_drew ?_ | refine blk_alloc ?_ _)); refine blk_put (cs := #[.bool false, .slice none 0 0, .slice none 0 0, .slice none 0 0]) ?_ 2 _ rfl; (with_reducible repeat (first | refine blk_drewN ?_ _ | refine blk_drew ?_ | refine blk_alloc ?_ _)); refine blk_put (cs := #[.bool false, .slice none 0 0, .slice none 0 0, .slice none 0 0]) ?_ 1 _ rfl; (with_reducible repeat (first | refine blk_drewN ?_ _ | refine blk_drew ?_ | refine blk_alloc ?_ _)); refine blk_put (cs := #[.bool false, .slice none 0 0, .slice none 0 0, .slice none 0 0]) ?_ 0 _ rfl; (with_reducible repeat (first | refine blk_drewN ?_ _ | refine blk_drew ?_ | refine blk_alloc ?_ _)); exact BK193.out) Try.underlying26 rfl (by kernel_rfl)) rfl ?_
     exact ⟨_, _, _, by first | rfl | (simp [errW_none, errW_some] <;> rfl) | (simp [*, errW_none, errW_some] <;> rfl), by first | exact Kd.R_nil _ _ _ _ _ | exact Kd.N_nil _ _ _ _ _ | exact Kd.V_nil _ _ _ _ _ | exact Kd.Q_nil _ _ _ _ _ | exact Kd.S_nil _ _ _ _ _, by first | exact Kd.R_nil _ _ _ _ _ | exact Kd.N_nil _ _ _ _ _ | exact Kd.V_nil _ _ _ _ _ | exact Kd.Q_nil _ _ _ _ _ | exact Kd.S_nil _ _ _ _ _, by first | exact Kd.R_nil _ _ _ _ _ | exact Kd.N_nil _ _ _ _ _ | exact Kd.V_nil _ _ _ _ _ | exact Kd.Q_nil _ _ _ _ _ | exact Kd.S_nil _ _ _ _ _, by exact qS2 HB GE192 GE193⟩
    ·replace c19 := Bool.eq_false_iff.mpr c19
     subst c19
     have H1 : ((some (([] : List Int) : List Int)).bind fun y196 => (if y196.length + l0_3.length < 35184372088832 then (concordref08_Turn.l0 kj5 a1 a2 0 a0_0 l0_1 l0_2 l0_3 false ([] : List ByteArray) (y196 ++ l0_3)) else (none))) = some (r1, r2, r3, r4, r5) := by rw [if_neg (show ¬ (false = true) by decide)] at H; exact H
     clear H
     have H := H1
     clear H1
     obtain ⟨y196, hy196⟩ : ∃ y_ : List Int, y_ = (([] : List Int)) := ⟨_, rfl⟩
     replace H : (if y196.length + l0_3.length < 35184372088832 then (concordref08_Turn.l0 kj5 a1 a2 0 a0_0 l0_1 l0_2 l0_3 false ([] : List ByteArray) (y196 ++ l0_3)) else (none)) = some (r1, r2, r3, r4, r5) := by first | (rw [hy196]; with_reducible exact H) | (have H2_ := (Option.bind_some _ _).symm.trans H; rw [hy196]; with_reducible exact H2_) | (have H2_ := (Option.bind_some _ _).symm.trans H; with_reducible exact H2_) | with_reducible exact H | (rw [hy196]; exact H) | exact H
     have Ny196 := Aside0.mk hy196
     clear hy196
     by_cases c22 : y196.length + l0_3.length < 35184372088832
     ·rw [if_pos c22] at H
      have LMc22 := Aside0.mk c22
      clear c22
      obtain ⟨y199, hy199⟩ : ∃ y_ : List Int, y_ = (y196 ++ l0_3) := ⟨_, rfl⟩
      replace H : (concordref08_Turn.l0 kj5 a1 a2 0 a0_0 l0_1 l0_2 l0_3 false ([] : List ByteArray) y199) = some (r1, r2, r3, r4, r5) := by first | (rw [hy199]; with_reducible exact H) | (have H2_ := (Option.bind_some _ _).symm.trans H; rw [hy199]; with_reducible exact H2_) | (have H2_ := (Option.bind_some _ _).symm.trans H; with_reducible exact H2_) | with_reducible exact H | (rw [hy199]; exact H) | exact H
      have Ny199 := Aside0.mk hy199
      clear hy199
      have H' := Aside0.mk H
      clear H
      go_wp2_with (first | ((with_reducible refine gate_dst (N := 32) rfl ?_); (try (refine gate_guard (by rfl) ?_; dsimp only)); refine Kd.R_lit (Kd.int .u32) _ 45 ?hg (N := 32) ?hd (xs := ([] : List Int)) (inner := []) (ok := fun _ => True) (okp := fun _ => True) ?hr ?hp (fun _ hk => hk) trivial (Below.refl _ _) (Nat.le_refl _) (by simp) ?_; (case hd => rfl); (case hg => rfl); (case hr => first | (go_simp; done) | (go_simp; rfl)); (case hp => exact (Reps.none _ _)); intro v197 w23 ho24 hb hg_ hnew_; clear hg_ hnew_; (first | rw [← Ny196.out] at ho24 | (simp only [Int.reduceToNat] at ho24; rw [← Ny196.out] at ho24)); have n0_ := Aside0.mk (Kd.R_lower ho24 (below_size (by exact qS2 HB GE192 GE193))); have n1_ := Aside0.mk (blk_below (g := gb192) (o := .cells #[.bool a0_0, .slice A0_1 l0_1.length c0_1, .slice A0_2 l0_2.length c0_2, .slice A0_3 l0_3.length c0_3] 26 (0, 0)) (qB BK192) hb); have n2_ := Aside0.mk (blk_below (g := gb193) (o := .cells #[.bool false, .slice none 0 0, .slice none 0 0, .slice none 0 0] 26 (0, 0)) (qB BK193) hb); have n3_ := Aside0.mk (below_step (by exact qS2 HB GE192 GE193) hb); clear BK192; clear BK193; clear HB; have HO198 := n0_; have BK192 := n1_; have BK193 := n2_; have HB := n3_; clear n0_ n1_ n2_ n3_; clear hb ho24; have hnb25 := NB192_193.out; have hnc25 := NB193_192.out; obtain ⟨hcz26_0, hcz26_1, hcz26_2, hcz26_3⟩ := qc4 BK192; obtain ⟨hfz26_0, hfz26_1, hfz26_2, hfz26_3⟩ := qf4 BK192) | ((with_reducible refine gate_builtin (b := .append) (xs := #[.tmp 32, .tmp 34]) rfl ?_); (try (refine gate_guard (by rfl) ?_; dsimp only)); at_builtin; refine Kd.R_append_rows (Kd.int .u32) (w0 := w) w.heap.size rfl (.tmp 32) (.tmp 34) 24 45 (.int .u32 0) 4 rfl Try.underlying24 info45 rfl (by decide) (by omega) v197 y196 l0_3 _ _ _ (fun _ => True) (fun _ => False) rfl rfl ?aO ?aR (fun _ _ h => h) (fun _ h => h.elim) ?aF ?aB ?aS ?aL ?_; (case aR => repeat (first | exact (Kd.C_below HR0_3.out HB.out) | (with_reducible refine Kd.C_alloc ?_ _) | (with_reducible refine Kd.C_drewN ?_ _) | (with_reducible refine Kd.C_drew ?_))); (case aB => exact (by exact qS2 HB GE192 GE193)); (case aF => exact (fun _ _ => trivial)); (case aO => exact (by (with_reducible repeat (first | apply Kd.R_alloc | apply Kd.R_drewN | apply Kd.R_drew)); exact HO198.out)); (case aS => exact (below_size (by exact qS2 HB GE192 GE193))); (case aL => have := LMc22.out; omega); intro v200 w27 ho hb hg hat; rw [← Ny199.out] at ho; have n0_ := Aside0.mk (blk_grown (g := gb192) (o := .cells #[.bool a0_0, .slice A0_1 l0_1.length c0_1, .slice A0_2 l0_2.length c0_2, .slice A0_3 l0_3.length c0_3] 26 (0, 0)) (qB BK192) hg (Kd.R_ne HO198.out BK192.out (by decide))); have n1_ := Aside0.mk (blk_grown (g := gb193) (o := .cells #[.bool false, .slice none 0 0, .slice none 0 0, .slice none 0 0] 26 (0, 0)) (qB BK193) hg (Kd.R_ne HO198.out BK193.out (by decide))); have n2_ := Aside0.mk (hb); have n3_ := Aside0.mk (ho); clear BK192; clear BK193; clear HB; clear HO198; have BK192 := n0_; have BK193 := n1_; have HB := n2_; have HO201 := n3_; clear n0_ n1_ n2_ n3_; clear ho hb hg hat; obtain ⟨Ao28, co28, eo28⟩ := Kd.R_slice HO201.out; subst eo28) | ((with_reducible refine gate_dst (N := 9) rfl ?_); (try (refine gate_guard (by rfl) ?_; dsimp only)); refine box_event ?hg (N := 9) ?hd (cs := #[.bool false, .slice none 0 0, .slice none 0 0, .slice none 0 0]) (t := 26) ?hr ?_; (case hd => rfl); (case hg => rfl); (case hr => first | (go_simp; done) | (go_simp; rfl)); intro gb202 hg w29 hbox hb; have n0_ := sBe HO201 hb; have n1_ := Aside0.mk (blk_below (g := gb192) (o := .cells #[.bool a0_0, .slice A0_1 l0_1.length c0_1, .slice A0_2 l0_2.length c0_2, .slice A0_3 l0_3.length c0_3] 26 (0, 0)) (qB BK192) hb); have n2_ := Aside0.mk (blk_below (g := gb193) (o := .cells #[.bool false, .slice none 0 0, .slice none 0 0, .slice none 0 0] 26 (0, 0)) (qB BK193) hb); have n3_ := Aside0.mk (below_step (by exact qS2 HB GE192 GE193) hb); have n4_ := Aside0.mk (hbox); have n5_ := Aside0.mk ((by rw [hg]; exact (below_size (by exact qS2 HB GE192 GE193)) : w.heap.size ≤ gb202)); have n6_ := Aside0.mk ((by rw [hg]; exact (below_size (by exact qS2 HB GE192 GE193)) : w.heap.size ≤ gb202)); have n7_ := Aside0.mk ((by rw [hg]; exact Nat.ne_of_lt (blk_lt (g := gb192) (o := .cells #[.bool a0_0, .slice A0_1 l0_1.length c0_1, .slice A0_2 l0_2.length c0_2, .slice A0_3 l0_3.length c0_3] 26 (0, 0)) (qB BK192)) : gb192 ≠ gb202)); have n8_ := Aside0.mk ((by rw [hg]; exact Nat.ne_of_gt (blk_lt (g := gb192) (o := .cells #[.bool a0_0, .slice A0_1 l0_1.length c0_1, .slice A0_2 l0_2.length c0_2, .slice A0_3 l0_3.length c0_3] 26 (0, 0)) (qB BK192)) : gb202 ≠ gb192)); have n9_ := Aside0.mk ((by rw [hg]; exact Nat.ne_of_lt (blk_lt (g := gb193) (o := .cells #[.bool false, .slice none 0 0, .slice none 0 0, .slice none 0 0] 26 (0, 0)) (qB BK193)) : gb193 ≠ gb202)); have n10_ := Aside0.mk ((by rw [hg]; exact Nat.ne_of_gt (blk_lt (g := gb193) (o := .cells #[.bool false, .slice none 0 0, .slice none 0 0, .slice none 0 0] 26 (0, 0)) (qB BK193)) : gb202 ≠ gb193)); clear HO201; clear BK192; clear BK193; clear HB; have HO201 := n0_; have BK192 := n1_; have BK193 := n2_; have HB := n3_; have BK202 := n4_; have GW202 := n5_; have GE202 := n6_; have NB192_202 := n7_; have NB202_192 := n8_; have NB193_202 := n9_; have NB202_193 := n10_; clear n0_ n1_ n2_ n3_ n4_ n5_ n6_ n7_ n8_ n9_ n10_; clear hb hbox hg; have hnb30 := NB202_192.out; have hnc30 := NB192_202.out; have hnb31 := NB202_193.out; have hnc31 := NB193_202.out; obtain ⟨hcz32_0, hcz32_1, hcz32_2, hcz32_3⟩ := qc4 BK202; obtain ⟨hfz32_0, hfz32_1, hfz32_2, hfz32_3⟩ := qf4 BK202))
      go_loopg [10] kj5 (fun kq v10 w' => ∃ (x10_2 : Int) (x203002_2 : List ByteArray) (u203002 : Value), v10 = .int .i64 x10_2 ∧ Aside0 (concordref08_Turn.l0 kq a1 a2 x10_2 a0_0 l0_1 l0_2 l0_3 false x203002_2 y199 = some (r1, r2, r3, r4, r5)) ∧ Aside0 (kq ≤ kj5) ∧ Aside0 (Kd.R Kd.string 9 w' w.heap.size (fun _ => True) u203002 x203002_2) ∧ Aside0 (Kd.R (Kd.int .u32) 45 w' w.heap.size (fun _ => True) (.slice Ao28 y199.length co28) y199) ∧ Aside0 (w'.heap[gb192]? = some (.cells #[.bool a0_0, (.slice A0_1 l0_1.length c0_1), (.slice A0_2 l0_2.length c0_2), (.slice A0_3 l0_3.length c0_3)] 26 (0, 0))) ∧ Aside0 (w'.heap[gb193]? = some (.cells #[.bool false, (.slice none 0 0), (.slice none 0 0), (.slice none 0 0)] 26 (0, 0))) ∧ Aside0 (w'.heap[gb202]? = some (.cells #[.bool false, (.slice none 0 0), u203002, (.slice Ao28 y199.length co28)] 26 (0, 0))) ∧ Aside0 (Below w.heap.size w w'))
      case atStart => exact ⟨(0), (([] : List ByteArray)), (.slice none 0 0), (by first | rfl | (simp; done) | (simp [*]; done) | (simp only [i64_w]; done)), H', ⟨Nat.le_refl _⟩, ⟨by first | exact Kd.R_nil _ _ _ _ _ | exact Kd.N_nil _ _ _ _ _ | exact Kd.V_nil _ _ _ _ _ | exact Kd.Q_nil _ _ _ _ _ | exact Kd.S_nil _ _ _ _ _⟩, ⟨by (with_reducible repeat (first | apply Kd.R_alloc | apply Kd.R_drewN | apply Kd.R_drew)); exact Kd.R_mono (Kd.R_far (p := ⟨gb202, 3, none⟩) (Kd.R_far (p := ⟨gb202, 2, none⟩) (Kd.R_far (p := ⟨gb202, 1, none⟩) (Kd.R_far (p := ⟨gb202, 0, none⟩) (Kd.R_types HO201.out BK202.out (by decide)) (fun _ hk => hk.2) (.bool false)) (fun _ hk => hk.2) (.slice none 0 0)) (fun _ hk => hk.2) (.slice none 0 0)) (fun _ hk => hk.2) (.slice Ao28 y199.length co28)) (fun _ hk => trivial)⟩, ⟨by (with_reducible repeat (first | refine blk_drewN ?_ _ | refine blk_drew ?_ | refine blk_alloc ?_ _)); refine blk_far ?_ NB192_202.out _; (with_reducible repeat (first | refine blk_drewN ?_ _ | refine blk_drew ?_ | refine blk_alloc ?_ _)); refine blk_far ?_ NB192_202.out _; (with_reducible repeat (first | refine blk_drewN ?_ _ | refine blk_drew ?_ | refine blk_alloc ?_ _)); refine blk_far ?_ NB192_202.out _; (with_reducible repeat (first | refine blk_drewN ?_ _ | refine blk_drew ?_ | refine blk_alloc ?_ _)); refine blk_far ?_ NB192_202.out _; (with_reducible repeat (first | refine blk_drewN ?_ _ | refine blk_drew ?_ | refine blk_alloc ?_ _)); exact BK192.out⟩, ⟨by (with_reducible repeat (first | refine blk_drewN ?_ _ | refine blk_drew ?_ | refine blk_alloc ?_ _)); refine blk_far ?_ NB193_202.out _; (with_reducible repeat (first | refine blk_drewN ?_ _ | refine blk_drew ?_ | refine blk_alloc ?_ _)); refine blk_far ?_ NB193_202.out _; (with_reducible repeat (first | refine blk_drewN ?_ _ | refine blk_drew ?_ | refine blk_alloc ?_ _)); refine blk_far ?_ NB193_202.out _; (with_reducible repeat (first | refine blk_drewN ?_ _ | refine blk_drew ?_ | refine blk_alloc ?_ _)); refine blk_far ?_ NB193_202.out _; (with_reducible repeat (first | refine blk_drewN ?_ _ | refine blk_drew ?_ | refine blk_alloc ?_ _)); exact BK193.out⟩, ⟨by (with_reducible repeat (first | refine blk_drewN ?_ _ | refine blk_drew ?_ | refine blk_alloc ?_ _)); refine blk_put (cs := #[.bool false, .slice none 0 0, .slice none 0 0, .slice none 0 0]) ?_ 3 _ rfl; (with_reducible repeat (first | refine blk_drewN ?_ _ | refine blk_drew ?_ | refine blk_alloc ?_ _)); refine blk_put (cs := #[.bool false, .slice none 0 0, .slice none 0 0, .slice none 0 0]) ?_ 2 _ rfl; (with_reducible repeat (first | refine blk_drewN ?_ _ | refine blk_drew ?_ | refine blk_alloc ?_ _)); refine blk_put (cs := #[.bool false, .slice none 0 0, .slice none 0 0, .slice none 0 0]) ?_ 1 _ rfl; (with_reducible repeat (first | refine blk_drewN ?_ _ | refine blk_drew ?_ | refine blk_alloc ?_ _)); refine blk_put (cs := #[.bool false, .slice none 0 0, .slice none 0 0, .slice none 0 0]) ?_ 0 _ rfl; (with_reducible repeat (first | refine blk_drewN ?_ _ | refine blk_drew ?_ | refine blk_alloc ?_ _)); exact BK202.out⟩, ⟨by exact qS3 HB GE192 GE193 GE202⟩⟩
      case round =>
       clear H'
       try clear c1
       try clear c2
       try clear p2
       try clear c3
       try clear c4
       try clear c5
       try clear c5b0
       try clear c5b1
       try clear c9
       try clear c12
       try clear c12b0
       try clear c13
       try clear c13b0
       try clear c14
       try clear c17
       try clear c19
       try clear c20
       try clear c22
       try clear c25
       try clear c30
       try clear c31
       try clear hcz10_0
       try clear hcz10_1
       try clear hcz10_2
       try clear hcz10_3
       try clear hcz15_0
       try clear hcz15_1
       try clear hcz15_2
       try clear hcz15_3
       try clear hcz18_0
       try clear hcz18_1
       try clear hcz18_2
       try clear hcz18_3
       try clear hcz21_0
       try clear hcz21_1
       try clear hcz21_2
       try clear hcz21_3
       try clear hcz26_0
       try clear hcz26_1
       try clear hcz26_2
       try clear hcz26_3
       try clear hcz32_0
       try clear hcz32_1
       try clear hcz32_2
       try clear hcz32_3
       try clear hfz10_0
       try clear hfz10_1
       try clear hfz10_2
       try clear hfz10_3
       try clear hfz15_0
       try clear hfz15_1
       try clear hfz15_2
       try clear hfz15_3
       try clear hfz18_0
       try clear hfz18_1
       try clear hfz18_2
       try clear hfz18_3
       try clear hfz21_0
       try clear hfz21_1
       try clear hfz21_2
       try clear hfz21_3
       try clear hfz26_0
       try clear hfz26_1
       try clear hfz26_2
       try clear hfz26_3
       try clear hfz32_0
       try clear hfz32_1
       try clear hfz32_2
       try clear hfz32_3
       try clear p2
       obtain ⟨x10_2, x203002_2, u203002, rfl, HA, HK2, HO_203002, HO_203003, BK192, BK193, BK202, HB⟩ := hrel
       cases gk with
       | zero => exact absurd HA.out (by simp [concordref08_Turn.l0])
       | succ k2 =>
        have H := HA.out
        clear HA
        simp only [concordref08_Turn.l0] at H
        by_cases c33 : x10_2 < (l0_2.length : Int)
        ·rw [if_pos c33] at H
         have c33b0 : decide (x10_2 < (l0_2.length : Int)) = true := decide_eq_true c33
         clear c33
         by_cases c34 : x10_2 = a1
         ·rw [if_pos c34] at H
          have c34b0 : (x10_2 == a1) = true := beq_iff_eq.mpr c34
          have c34b1 : (x10_2 != a1) = false := bne_eq_false_iff_eq.mpr c34
          clear c34
          by_cases c35 : x203002_2.length < 8796093022208
          ·rw [if_pos c35] at H
           have LMc35 := Aside0.mk c35
           clear c35
           obtain ⟨y203, hy203⟩ : ∃ y_ : List ByteArray, y_ = (x203002_2 ++ [a2]) := ⟨_, rfl⟩
           replace H : (concordref08_Turn.l0 k2 a1 a2 (wrap64 (x10_2 + 1)) a0_0 l0_1 l0_2 l0_3 false y203 y199) = some (r1, r2, r3, r4, r5) := by first | (rw [hy203]; with_reducible exact H) | (have H2_ := (Option.bind_some _ _).symm.trans H; rw [hy203]; with_reducible exact H2_) | (have H2_ := (Option.bind_some _ _).symm.trans H; with_reducible exact H2_) | with_reducible exact H | (rw [hy203]; exact H) | exact H
           have Ny203 := Aside0.mk hy203
           clear hy203
           have H' := Aside0.mk H
           clear H
           have hnb36 := NB192_193.out
           have hnc36 := NB193_192.out
           have hnb37 := NB192_202.out
           have hnc37 := NB202_192.out
           obtain ⟨hcz38_0, hcz38_1, hcz38_2, hcz38_3⟩ := qc4 BK192
           obtain ⟨hfz38_0, hfz38_1, hfz38_2, hfz38_3⟩ := qf4 BK192
           have hnb39 := NB202_193.out
           have hnc39 := NB193_202.out
           obtain ⟨hcz40_0, hcz40_1, hcz40_2, hcz40_3⟩ := qc4 BK202
           obtain ⟨hfz40_0, hfz40_1, hfz40_2, hfz40_3⟩ := qf4 BK202
           go_wp2_with (first | ((with_reducible refine gate_builtin (b := .append) (xs := #[.tmp 48, .tmp 50]) rfl ?_); (try (refine gate_guard (by rfl) ?_; dsimp only)); at_builtin; refine Kd.R_append Kd.string (w0 := w) w.heap.size rfl (.tmp 48) (.tmp 50) 23 9 (.string ⟨#[]⟩) 16 rfl Try.underlying23 info9 rfl (by decide) (by omega) u203002 x203002_2 a2 [.string a2] (fun _ => True) (fun _ => False) rfl rfl ?aP (fun _ hk => hk.elim) ?aF ?aO ?aB ?aS ?aL ?_; (case aP => exact rfl); (case aB => exact (by exact qS3 HB GE192 GE193 GE202)); (case aF => exact (fun _ _ => trivial)); (case aO => exact (by (with_reducible repeat (first | apply Kd.R_alloc | apply Kd.R_drewN | apply Kd.R_drew)); exact HO_203002.out)); (case aS => exact (below_size (by exact qS3 HB GE192 GE193 GE202))); (case aL => have := LMc35.out; omega); intro v204 w41 ho hb hg hat; rw [← Ny203.out] at ho; have n0_ := Aside0.mk (Kd.R_over' (by (with_reducible repeat (first | apply Kd.R_alloc | apply Kd.R_drewN | apply Kd.R_drew)); exact HO_203003.out) (Kd.R_typed (by (with_reducible repeat (first | apply Kd.R_alloc | apply Kd.R_drewN | apply Kd.R_drew)); exact HO_203002.out)) (by decide) hg); have n1_ := Aside0.mk (blk_grown (g := gb192) (o := .cells #[.bool a0_0, .slice A0_1 l0_1.length c0_1, .slice A0_2 l0_2.length c0_2, .slice A0_3 l0_3.length c0_3] 26 (0, 0)) (qB BK192) hg (Kd.R_ne HO_203002.out BK192.out (by decide))); have n2_ := Aside0.mk (blk_grown (g := gb193) (o := .cells #[.bool false, .slice none 0 0, .slice none 0 0, .slice none 0 0] 26 (0, 0)) (qB BK193) hg (Kd.R_ne HO_203002.out BK193.out (by decide))); have n3_ := Aside0.mk (blk_grown (g := gb202) (o := .cells #[.bool false, .slice none 0 0, u203002, .slice Ao28 y199.length co28] 26 (0, 0)) (qB BK202) hg (Kd.R_ne HO_203002.out BK202.out (by decide))); have n4_ := Aside0.mk (hb); have n5_ := Aside0.mk (ho); clear HO_203003; clear BK192; clear BK193; clear BK202; clear HB; clear HO_203002; have HO_203003 := n0_; have BK192 := n1_; have BK193 := n2_; have BK202 := n3_; have HB := n4_; have HO205 := n5_; clear n0_ n1_ n2_ n3_ n4_ n5_; clear ho hb hg hat; obtain ⟨Ao42, co42, eo42⟩ := Kd.R_slice HO205.out; subst eo42; obtain ⟨hcz43_0, hcz43_1, hcz43_2, hcz43_3⟩ := qc4 BK202; obtain ⟨hfz43_0, hfz43_1, hfz43_2, hfz43_3⟩ := qf4 BK202))
           go_roundg k2
           case measure => have := HJ5.out; have := HK2.out; omega
           case rel => exact ⟨(wrap64 (x10_2 + 1)), (y203), (.slice Ao42 y203.length co42), (by first | rfl | (simp; done) | (simp [*]; done) | (simp only [i64_w]; done)), H', ⟨by have := HJ5.out; have := HK2.out; omega⟩, ⟨by (with_reducible repeat (first | apply Kd.R_alloc | apply Kd.R_drewN | apply Kd.R_drew)); exact Kd.R_mono (Kd.R_far (p := ⟨gb202, 2, none⟩) (Kd.R_types HO205.out BK202.out (by decide)) (fun _ hk => hk.2) (.slice Ao42 y203.length co42)) (fun _ hk => trivial)⟩, ⟨by (with_reducible repeat (first | apply Kd.R_alloc | apply Kd.R_drewN | apply Kd.R_drew)); exact Kd.R_mono (Kd.R_far (p := ⟨gb202, 2, none⟩) (Kd.R_types HO_203003.out BK202.out (by decide)) (fun _ hk => hk.2) (.slice Ao42 y203.length co42)) (fun _ hk => trivial)⟩, ⟨by (with_reducible repeat (first | refine blk_drewN ?_ _ | refine blk_drew ?_ | refine blk_alloc ?_ _)); refine blk_far ?_ NB192_202.out _; (with_reducible repeat (first | refine blk_drewN ?_ _ | refine blk_drew ?_ | refine blk_alloc ?_ _)); exact BK192.out⟩, ⟨by (with_reducible repeat (first | refine blk_drewN ?_ _ | refine blk_drew ?_ | refine blk_alloc ?_ _)); refine blk_far ?_ NB193_202.out _; (with_reducible repeat (first | refine blk_drewN ?_ _ | refine blk_drew ?_ | refine blk_alloc ?_ _)); exact BK193.out⟩, ⟨by (with_reducible repeat (first | refine blk_drewN ?_ _ | refine blk_drew ?_ | refine blk_alloc ?_ _)); refine blk_put (cs := #[.bool false, .slice none 0 0, u203002, .slice Ao28 y199.length co28]) ?_ 2 _ rfl; (with_reducible repeat (first | refine blk_drewN ?_ _ | refine blk_drew ?_ | refine blk_alloc ?_ _)); exact BK202.out⟩, ⟨by exact qS3 HB GE192 GE193 GE202⟩⟩
          ·rw [if_neg c35] at H
           exact absurd H (by simp)
         ·rw [if_neg c34] at H
          have c34b0 : (x10_2 == a1) = false := beq_eq_false_iff_ne.mpr c34
          have c34b1 : (x10_2 != a1) = true := bne_iff_ne.mpr c34
          by_cases c44 : 0 ≤ x10_2
          ·rw [if_pos c44] at H
           have c44b0 : decide (0 ≤ x10_2) = true := decide_eq_true c44
           clear c44
           by_cases c45 : x203002_2.length < 8796093022208
           ·rw [if_pos c45] at H
            have LMc45 := Aside0.mk c45
            clear c45
            obtain ⟨y207, hy207⟩ : ∃ y_ : List ByteArray, y_ = (x203002_2 ++ [rdOf ByteArray.empty l0_2 x10_2]) := ⟨_, rfl⟩
            replace H : (concordref08_Turn.l0 k2 a1 a2 (wrap64 (x10_2 + 1)) a0_0 l0_1 l0_2 l0_3 false y207 y199) = some (r1, r2, r3, r4, r5) := by first | (rw [hy207]; with_reducible exact H) | (have H2_ := (Option.bind_some _ _).symm.trans H; rw [hy207]; with_reducible exact H2_) | (have H2_ := (Option.bind_some _ _).symm.trans H; with_reducible exact H2_) | with_reducible exact H | (rw [hy207]; exact H) | exact H
            have Ny207 := Aside0.mk hy207
            clear hy207
            have H' := Aside0.mk H
            clear H
            have hnb46 := NB192_193.out
            have hnc46 := NB193_192.out
            have hnb47 := NB192_202.out
            have hnc47 := NB202_192.out
            obtain ⟨hcz48_0, hcz48_1, hcz48_2, hcz48_3⟩ := qc4 BK192
            obtain ⟨hfz48_0, hfz48_1, hfz48_2, hfz48_3⟩ := qf4 BK192
            try go_wp2
            have n0_ := Aside0.mk (Kd.R_drew HO_203002.out)
            have n1_ := Aside0.mk (Kd.R_drew HO_203003.out)
            have n2_ := Aside0.mk (blk_drew BK192.out)
            have n3_ := Aside0.mk (blk_drew BK193.out)
            have n4_ := Aside0.mk (blk_drew BK202.out)
            have n5_ := Aside0.mk (below_drew1 HB.out)
            clear HO_203002
            clear HO_203003
            clear BK192
            clear BK193
            clear BK202
            clear HB
            have HO_203002 := n0_
            have HO_203003 := n1_
            have BK192 := n2_
            have BK193 := n3_
            have BK202 := n4_
            have HB := n5_
            clear n0_ n1_ n2_ n3_ n4_ n5_
            have p206 : 0 ≤ (x10_2 : Int) := of_decide_eq_true (by first | (with_reducible assumption) | assumption)
            have q206 : x10_2 < (l0_2.length : Int) := of_decide_eq_true (by first | (with_reducible assumption) | assumption)
            obtain ⟨ad206, e206, hx206_0⟩ := Kd.at_string HR0_2.out x10_2 p206 q206
            have hw206_0 := hx206_0
            cases e206
            replace hx206_0 := (HB.out.cell (World.block_lt_of_cell? w _ hx206_0)).trans hx206_0
            replace p206 := eq_true p206
            replace q206 := eq_true q206
            refine start_ (n := 11) (S := fun w' => w'.cell? ⟨gb202, 0, none⟩ = some (.bool false) ∧ w'.cell? ⟨gb202, 1, none⟩ = some (.slice none 0 0) ∧ w'.cell? ⟨gb202, 2, none⟩ = some (u203002) ∧ w'.cell? ⟨gb202, 3, none⟩ = some (.slice Ao28 y199.length co28) ∧ w'.cell? ⟨gb192, 0, none⟩ = some (.bool a0_0) ∧ w'.cell? ⟨gb192, 1, none⟩ = some (.slice A0_1 l0_1.length c0_1) ∧ w'.cell? ⟨gb192, 2, none⟩ = some (.slice (some ad206) l0_2.length c0_2) ∧ w'.cell? ⟨gb192, 3, none⟩ = some (.slice A0_3 l0_3.length c0_3) ∧ w'.cell? (ad206.add (x10_2).toNat) = some (.string (rdOf ByteArray.empty l0_2 x10_2))) (ds := [10]) #[false,false,false,false,false,false,false,false,false,false,false] (by kernel_rfl) rfl rfl ⟨(blk_cell BK202.out 0).trans rfl, (blk_cell BK202.out 1).trans rfl, (blk_cell BK202.out 2).trans rfl, (blk_cell BK202.out 3).trans rfl, (blk_cell BK192.out 0).trans rfl, (blk_cell BK192.out 1).trans rfl, (blk_cell BK192.out 2).trans rfl, (blk_cell BK192.out 3).trans rfl, ((HB.out.cell (World.block_lt_of_cell? w _ hw206_0)).trans hw206_0)⟩ (fun hHeld => ?_); refine with_tabW concordref08_Turn.tab12 concordref08_Turn.bits12 (fun HT_ HW_ => ?_)
            generalize wr.drew = w49 at HO_203002 HO_203003 BK192 BK193 BK202 HB hx206_0 hHeld ⊢
            refine pure_ (i := 0) (N := some 53) (v := ?_) (a' := ?_) #[true,false,false,false,false,false,false,false,false,false,false] rfl rfl (any_of HT_.out (by kernel_rfl)) (fun _ _ _ h => h) (Or.inl ⟨by rfl, ?_⟩) ?_ ?_
            rotate_left
            ·intro w'
             go_simp
             with_reducible rfl
            rotate_left
            ·simp only [Act.put, List.setIfInBounds_toArray, List.set_cons_zero, List.set_cons_succ, i64_w, i32_w]
             rfl
            refine pure_ (i := 2) (N := some 55) (v := ?_) (a' := ?_) #[true,false,true,false,false,false,false,false,false,false,false] rfl rfl (any_of HT_.out (by kernel_rfl)) (fun _ _ _ h => h) (Or.inl ⟨by rfl, ?_⟩) ?_ ?_
            rotate_left
            ·intro w'
             go_simp
             with_reducible rfl
            rotate_left
            ·simp only [Act.put, List.setIfInBounds_toArray, List.set_cons_zero, List.set_cons_succ, i64_w, i32_w]
             rfl
            refine pure_ (i := 4) (N := some 57) (v := ?_) (a' := ?_) #[true,false,true,false,true,false,false,false,false,false,false] rfl rfl (any_of HT_.out (by kernel_rfl)) (fun _ _ _ h => h) (Or.inl ⟨by rfl, ?_⟩) ?_ ?_
            rotate_left
            ·intro w'
             go_simp
             with_reducible rfl
            rotate_left
            ·simp only [Act.put, List.setIfInBounds_toArray, List.set_cons_zero, List.set_cons_succ, i64_w, i32_w]
             rfl
            refine take_ (i := 1) (N := some 54) (v := ?_) (a' := ?_) #[true,true,true,false,true,false,false,false,false,false,false] rfl rfl (take_ofW HT_.out HW_.out (by kernel_rfl)) (fun _ _ _ h => h) (Or.inl ⟨by rfl, ?_⟩) hHeld ?_ ?_
            rotate_left
            ·rintro w' ⟨s0, s1, s2, s3, s4, s5, s6, s7, s8⟩
             go_simp
             with_reducible rfl
            rotate_left
            ·simp only [Act.put, List.setIfInBounds_toArray, List.set_cons_zero, List.set_cons_succ, i64_w, i32_w]
             rfl
            refine take_ (i := 3) (N := some 56) (v := ?_) (a' := ?_) #[true,true,true,true,true,false,false,false,false,false,false] rfl rfl (take_ofW HT_.out HW_.out (by kernel_rfl)) (fun _ _ _ h => h) (Or.inl ⟨by rfl, ?_⟩) hHeld ?_ ?_
            rotate_left
            ·rintro w' ⟨s0, s1, s2, s3, s4, s5, s6, s7, s8⟩
             go_simp
             with_reducible rfl
            rotate_left
            ·simp only [Act.put, List.setIfInBounds_toArray, List.set_cons_zero, List.set_cons_succ, i64_w, i32_w]
             rfl
            refine pure_ (i := 5) (N := some 58) (v := ?_) (a' := ?_) #[true,true,true,true,true,true,false,false,false,false,false] rfl rfl (any_of HT_.out (by kernel_rfl)) (fun _ _ _ h => h) (Or.inl ⟨by rfl, ?_⟩) ?_ ?_
            rotate_left
            ·intro w'
             go_simp
             with_reducible rfl
            rotate_left
            ·simp only [Act.put, List.setIfInBounds_toArray, List.set_cons_zero, List.set_cons_succ, i64_w, i32_w]
             rfl
            refine take_ (i := 6) (N := some 59) (v := ?_) (a' := ?_) #[true,true,true,true,true,true,true,false,false,false,false] rfl rfl (take_ofW HT_.out HW_.out (by kernel_rfl)) (fun _ _ _ h => h) (Or.inl ⟨by rfl, ?_⟩) hHeld ?_ ?_
            rotate_left
            ·rintro w' ⟨s0, s1, s2, s3, s4, s5, s6, s7, s8⟩
             go_simp
             with_reducible rfl
            rotate_left
            ·simp only [Act.put, List.setIfInBounds_toArray, List.set_cons_zero, List.set_cons_succ, i64_w, i32_w]
             rfl
            refine one_ (i := 7) (N := some 60) #[true,true,true,true,true,true,true,true,false,false,false] rfl rfl (one_of HT_.out (by kernel_rfl)) (by decide) (fun K hK => ?_)
            refine value_ (w1 := ?_) (v := ?_) (by rfl) rfl ?_ ?_
            rotate_left 2
            ·go_simp
             constructor
             ·rfl
             ·rfl
            refine hK.out _ _ ⟨(blk_cell (blk_alloc BK202.out _) 0).trans rfl, (blk_cell (blk_alloc BK202.out _) 1).trans rfl, (blk_cell (blk_alloc BK202.out _) 2).trans rfl, (blk_cell (blk_alloc BK202.out _) 3).trans rfl, (blk_cell (blk_alloc BK192.out _) 0).trans rfl, (blk_cell (blk_alloc BK192.out _) 1).trans rfl, (blk_cell (blk_alloc BK192.out _) 2).trans rfl, (blk_cell (blk_alloc BK192.out _) 3).trans rfl, (World.cell?_alloc_lt _ _ _ (World.block_lt_of_cell? _ _ (((HB.out.cell (World.block_lt_of_cell? w _ hw206_0)).trans hw206_0)))).trans (((HB.out.cell (World.block_lt_of_cell? w _ hw206_0)).trans hw206_0))⟩ (fun hHeld => ?_)
            clear hK K
            refine norm_ (a' := ?_) ?_ ?_
            rotate_left
            ·show Act.put _ (some 60) _ = _
             simp only [Act.put, List.setIfInBounds_toArray, List.set_cons_zero, List.set_cons_succ, i64_w, i32_w]
             rfl
            refine one_ (i := 8) (N := some 61) #[true,true,true,true,true,true,true,true,true,false,false] rfl rfl (one_of HT_.out (by kernel_rfl)) (by decide) (fun K hK => ?_)
            refine Kd.R_append_step Kd.string (w0 := w) w.heap.size (by rfl) (.tmp 54) (.tmp 60) 23 9 (.string ⟨#[]⟩) 16 rfl Try.underlying23 info9 rfl (by decide) (by omega) u203002 x203002_2 (rdOf ByteArray.empty l0_2 x10_2) [.string (rdOf ByteArray.empty l0_2 x10_2)] (fun _ => True) (fun _ => False) rfl rfl ?aP (fun _ hk => hk.elim) ?aF ?aO ?aB ?aS ?aL ?_
            (case aP => exact rfl)
            (case aB => exact (by exact qS3 HB GE192 GE193 GE202))
            (case aF => exact (fun _ _ => trivial))
            (case aO => exact (by (with_reducible repeat (first | apply Kd.R_alloc | apply Kd.R_drewN | apply Kd.R_drew)); exact HO_203002.out))
            (case aS => exact (below_size (by exact qS3 HB GE192 GE193 GE202)))
            (case aL => have := LMc45.out; omega)
            intro v208 w50 ho hb hg hat
            rw [← Ny207.out] at ho
            have n0_ := Aside0.mk (Kd.R_over' (by (with_reducible repeat (first | apply Kd.R_alloc | apply Kd.R_drewN | apply Kd.R_drew)); exact HO_203003.out) (Kd.R_typed (by (with_reducible repeat (first | apply Kd.R_alloc | apply Kd.R_drewN | apply Kd.R_drew)); exact HO_203002.out)) (by decide) hg)
            have n1_ := Aside0.mk (blk_grown (g := gb192) (o := .cells #[.bool a0_0, .slice A0_1 l0_1.length c0_1, .slice (some ad206) l0_2.length c0_2, .slice A0_3 l0_3.length c0_3] 26 (0, 0)) (qB BK192) hg (Kd.R_ne HO_203002.out BK192.out (by decide)))
            have n2_ := Aside0.mk (blk_grown (g := gb193) (o := .cells #[.bool false, .slice none 0 0, .slice none 0 0, .slice none 0 0] 26 (0, 0)) (qB BK193) hg (Kd.R_ne HO_203002.out BK193.out (by decide)))
            have n3_ := Aside0.mk (blk_grown (g := gb202) (o := .cells #[.bool false, .slice none 0 0, u203002, .slice Ao28 y199.length co28] 26 (0, 0)) (qB BK202) hg (Kd.R_ne HO_203002.out BK202.out (by decide)))
            have n4_ := Aside0.mk (hb)
            have n5_ := Aside0.mk (ho)
            clear HO_203003
            clear BK192
            clear BK193
            clear BK202
            clear HB
            clear HO_203002
            have HO_203003 := n0_
            have BK192 := n1_
            have BK193 := n2_
            have BK202 := n3_
            have HB := n4_
            have HO209 := n5_
            clear n0_ n1_ n2_ n3_ n4_ n5_
            clear ho hb hg hat
            obtain ⟨Ao51, co51, eo51⟩ := Kd.R_slice HO209.out
            (first | subst eo51 | (injection eo51 with f1_ f2_ f3_; have f4_ := f1_.symm; have f5_ := f3_.symm; clear f1_ f2_ f3_; subst f4_; subst f5_))
            refine hK.out _ _ ⟨(blk_cell BK202.out 0).trans rfl, (blk_cell BK202.out 1).trans rfl, (blk_cell BK202.out 2).trans rfl, (blk_cell BK202.out 3).trans rfl, (blk_cell BK192.out 0).trans rfl, (blk_cell BK192.out 1).trans rfl, (blk_cell BK192.out 2).trans rfl, (blk_cell BK192.out 3).trans rfl, ((HB.out.cell (World.block_lt_of_cell? w _ hw206_0)).trans hw206_0)⟩ (fun hHeld => ?_)
            clear hK K
            refine norm_ (a' := ?_) ?_ ?_
            rotate_left
            ·show Act.put _ (some 61) _ = _
             simp only [Act.put, List.setIfInBounds_toArray, List.set_cons_zero, List.set_cons_succ, i64_w, i32_w]
             rfl
            refine pure_ (i := 9) (N := some 62) (v := ?_) (a' := ?_) #[true,true,true,true,true,true,true,true,true,true,false] rfl rfl (any_of HT_.out (by kernel_rfl)) (fun _ _ _ h => h) (Or.inl ⟨by rfl, ?_⟩) ?_ ?_
            rotate_left
            ·intro w'
             go_simp
             with_reducible rfl
            rotate_left
            ·simp only [Act.put, List.setIfInBounds_toArray, List.set_cons_zero, List.set_cons_succ, i64_w, i32_w]
             rfl
            refine last_ (i := 10) (N := none) #[true,true,true,true,true,true,true,true,true,true,true] rfl rfl (one_of HT_.out (by kernel_rfl)) (by decide) (fun K hK => ?_)
            have hs52 : w50.cell? ⟨gb202, 2, none⟩ = some (u203002) := (blk_cell BK202.out 2).trans rfl
            have hfs52 := blk_frozen BK202.out 2
            have hns52_0 := NB192_202.out
            have hns52_1 := NB193_202.out
            have hms52_0 := NB202_192.out
            have hms52_1 := NB202_193.out
            refine skip_ (w1 := ?_) (by rfl) rfl ?_ ?_
            rotate_left
            ·go_simp
             rfl
            refine hK.out _ _ ?_
            clear hK K
            refine done_ (done_of HT_.out (by kernel_rfl)) ?_
            try go_wp2
            go_roundg k2
            case measure => have := HJ5.out; have := HK2.out; omega
            case rel => exact ⟨(wrap64 (x10_2 + 1)), (y207), (.slice Ao51 y207.length co51), (by first | rfl | (simp; done) | (simp [*]; done) | (simp only [i64_w]; done)), H', ⟨by have := HJ5.out; have := HK2.out; omega⟩, ⟨by (with_reducible repeat (first | apply Kd.R_alloc | apply Kd.R_drewN | apply Kd.R_drew)); exact Kd.R_mono (Kd.R_far (p := ⟨gb202, 2, none⟩) (Kd.R_types HO209.out BK202.out (by decide)) (fun _ hk => hk.2) (.slice Ao51 y207.length co51)) (fun _ hk => trivial)⟩, ⟨by (with_reducible repeat (first | apply Kd.R_alloc | apply Kd.R_drewN | apply Kd.R_drew)); exact Kd.R_mono (Kd.R_far (p := ⟨gb202, 2, none⟩) (Kd.R_types HO_203003.out BK202.out (by decide)) (fun _ hk => hk.2) (.slice Ao51 y207.length co51)) (fun _ hk => trivial)⟩, ⟨by (with_reducible repeat (first | refine blk_drewN ?_ _ | refine blk_drew ?_ | refine blk_alloc ?_ _)); refine blk_far ?_ NB192_202.out _; (with_reducible repeat (first | refine blk_drewN ?_ _ | refine blk_drew ?_ | refine blk_alloc ?_ _)); exact BK192.out⟩, ⟨by (with_reducible repeat (first | refine blk_drewN ?_ _ | refine blk_drew ?_ | refine blk_alloc ?_ _)); refine blk_far ?_ NB193_202.out _; (with_reducible repeat (first | refine blk_drewN ?_ _ | refine blk_drew ?_ | refine blk_alloc ?_ _)); exact BK193.out⟩, ⟨by (with_reducible repeat (first | refine blk_drewN ?_ _ | refine blk_drew ?_ | refine blk_alloc ?_ _)); refine blk_put (cs := #[.bool false, .slice none 0 0, u203002, .slice Ao28 y199.length co28]) ?_ 2 _ rfl; (with_reducible repeat (first | refine blk_drewN ?_ _ | refine blk_drew ?_ | refine blk_alloc ?_ _)); exact BK202.out⟩, ⟨by exact qS3 HB GE192 GE193 GE202⟩⟩
           ·rw [if_neg c45] at H
            exact absurd H (by simp)
          ·rw [if_neg c44] at H
           exact absurd H (by simp)
        ·rw [if_neg c33] at H
         have c33b0 : decide (x10_2 < (l0_2.length : Int)) = false := decide_eq_false c33
         clear c33
         replace H := Option.bind_eq_some_iff.mp H
         obtain ⟨⟨t210, t211, t214, t217, t220⟩, A530, H⟩ := H
         replace H : (some (t210, t211, t214, t217, t220)) = some (r1, r2, r3, r4, r5) := H
         have A53 := Aside0.mk A530
         clear A530
         simp only [Option.some.injEq, Prod.mk.injEq] at H
         obtain ⟨rfl, rfl, rfl, rfl, rfl⟩ := H
         have hnb54 := NB192_193.out
         have hnc54 := NB193_192.out
         have hnb55 := NB192_202.out
         have hnc55 := NB202_192.out
         obtain ⟨hcz56_0, hcz56_1, hcz56_2, hcz56_3⟩ := qc4 BK192
         obtain ⟨hfz56_0, hfz56_1, hfz56_2, hfz56_3⟩ := qf4 BK192
         have hnb57 := NB202_193.out
         have hnc57 := NB193_202.out
         obtain ⟨hcz58_0, hcz58_1, hcz58_2, hcz58_3⟩ := qc4 BK202
         obtain ⟨hfz58_0, hfz58_1, hfz58_2, hfz58_3⟩ := qf4 BK202
         obtain ⟨Ao59, co59, eo59⟩ := Kd.R_slice HO_203002.out
         subst eo59
         go_wp2_with (first | ((with_reducible refine gate_callee (f := 77) rfl ?_); refine goesL_ (some 64) rfl rfl Try.func77 (by kernel_rfl) rfl #[.agg #[.bool false, .slice none 0 0, .slice Ao59 x203002_2.length co59, .slice Ao28 y199.length co28]] rfl (by (try simp only [List.map_toArray, List.map_cons, List.map_nil]); first | done | rfl | (simp only [List.length_drop, List.length_take]; rfl)) ?_; (refine (concordref08_whole.calls k2 false (fun k_ => some k_ = (.slice none 0 0 : Value).ownBlock) (.slice none 0 0) ([] : List (S66)) (fun k_ => some k_ = (.slice Ao59 x203002_2.length co59 : Value).ownBlock) (.slice Ao59 x203002_2.length co59) x203002_2 (fun k_ => some k_ = (.slice Ao28 y199.length co28 : Value).ownBlock) (.slice Ao28 y199.length co28) y199 t210 t211 t214 t217 t220 w _ ?side1 ?side2 ?side3 ?side4 A53.out).mono ?_); (case side1 => repeat (first | (with_reducible first | exact HB.out | apply below_alloc | apply pw_below_drewN | apply below_drew1 | refine below_set ?_ GE192.out | refine below_set ?_ GE193.out | refine below_set ?_ GE202.out) | exact HB.out)); (case side2 => exact Kd.R_nil _ _ _ _ _); (case side3 => exact Kd.R_tight rfl HO_203002.out); (case side4 => exact Kd.R_tight rfl HO_203003.out); rintro e w60 ⟨v212, v215, v218, rfl, ho0, ho1, ho2, hb, hkp⟩; refine ⟨_, rfl, ?_⟩; have n0_ := Aside0.mk (blk_kept (qB BK192) hkp (fun hs_ => Or.elim hs_ (fun e_ => (fun e_ => by simp [Value.ownBlock] at e_) e_) (fun e_ => Or.elim e_ (fun e_ => (fun e_ => (Kd.R_ne HO_203002.out BK192.out (by decide)) e_) e_) (fun e_ => (fun e_ => (Kd.R_ne HO_203003.out BK192.out (by decide)) e_) e_)))); have n1_ := Aside0.mk (blk_kept (qB BK193) hkp (fun hs_ => Or.elim hs_ (fun e_ => (fun e_ => by simp [Value.ownBlock] at e_) e_) (fun e_ => Or.elim e_ (fun e_ => (fun e_ => (Kd.R_ne HO_203002.out BK193.out (by decide)) e_) e_) (fun e_ => (fun e_ => (Kd.R_ne HO_203003.out BK193.out (by decide)) e_) e_)))); have n2_ := Aside0.mk (blk_kept (qB BK202) hkp (fun hs_ => Or.elim hs_ (fun e_ => (fun e_ => by simp [Value.ownBlock] at e_) e_) (fun e_ => Or.elim e_ (fun e_ => (fun e_ => (Kd.R_ne HO_203002.out BK202.out (by decide)) e_) e_) (fun e_ => (fun e_ => (Kd.R_ne HO_203003.out BK202.out (by decide)) e_) e_)))); have n3_ := Aside0.mk (Kd.R_mono (ok' := fun k_ => True) ho0 (fun k_ hk_ => trivial)); have n4_ := Aside0.mk (Kd.R_mono (ok' := fun k_ => True) ho1 (fun k_ hk_ => trivial)); have n5_ := Aside0.mk (Kd.R_mono (ok' := fun k_ => True) ho2 (fun k_ hk_ => trivial)); have n6_ := Aside0.mk (hb); clear BK192; clear BK193; clear BK202; clear HB; clear HO_203002; clear HO_203003; have BK192 := n0_; have BK193 := n1_; have BK202 := n2_; have HO213 := n3_; have HO216 := n4_; have HO219 := n5_; have HB := n6_; clear n0_ n1_ n2_ n3_ n4_ n5_ n6_; (try clear hb); (try clear hkp); (try clear ho0); (try clear ho1); (try clear ho2); obtain ⟨hcz61_0, hcz61_1, hcz61_2, hcz61_3⟩ := qc4 BK193; obtain ⟨hfz61_0, hfz61_1, hfz61_2, hfz61_3⟩ := qf4 BK193; obtain ⟨Ao62, co62, eo62⟩ := Kd.R_slice HO213.out; subst eo62; obtain ⟨Ao63, co63, eo63⟩ := Kd.R_slice HO216.out; subst eo63; obtain ⟨Ao64, co64, eo64⟩ := Kd.R_slice HO219.out; subst eo64))
         refine bodyPost_ret (results_ct rfl _ _ gb193 26 #[.bool t210, .slice Ao62 t211.length co62, .slice Ao63 t214.length co63, .slice Ao64 t217.length co64] (0, 0) _ rfl (by (with_reducible repeat (first | refine blk_drewN ?_ _ | refine blk_drew ?_ | refine blk_alloc ?_ _)); refine blk_put (cs := #[.bool t210, .slice Ao62 t211.length co62, .slice Ao63 t214.length co63, .slice none 0 0]) ?_ 3 _ rfl; (with_reducible repeat (first | refine blk_drewN ?_ _ | refine blk_drew ?_ | refine blk_alloc ?_ _)); refine blk_put (cs := #[.bool t210, .slice Ao62 t211.length co62, .slice none 0 0, .slice none 0 0]) ?_ 2 _ rfl; (with_reducible repeat (first | refine blk_drewN ?_ _ | refine blk_drew ?_ | refine blk_alloc ?_ _)); refine blk_put (cs := #[.bool t210, .slice none 0 0, .slice none 0 0, .slice none 0 0]) ?_ 1 _ rfl; (with_reducible repeat (first | refine blk_drewN ?_ _ | refine blk_drew ?_ | refine blk_alloc ?_ _)); refine blk_put (cs := #[.bool false, .slice none 0 0, .slice none 0 0, .slice none 0 0]) ?_ 0 _ rfl; (with_reducible repeat (first | refine blk_drewN ?_ _ | refine blk_drew ?_ | refine blk_alloc ?_ _)); exact BK193.out) Try.underlying26 rfl (by kernel_rfl)) rfl ?_
         exact ⟨_, _, _, by first | rfl | (simp [errW_none, errW_some] <;> rfl) | (simp [*, errW_none, errW_some] <;> rfl), by (with_reducible repeat (first | apply Kd.R_alloc | apply Kd.R_drewN | apply Kd.R_drew)); exact Kd.R_mono (Kd.R_far (p := ⟨gb193, 3, none⟩) (Kd.R_far (p := ⟨gb193, 2, none⟩) (Kd.R_far (p := ⟨gb193, 1, none⟩) (Kd.R_far (p := ⟨gb193, 0, none⟩) (Kd.R_types HO213.out BK193.out (by decide)) (fun _ hk => hk.2) (.bool t210)) (fun _ hk => hk.2) (.slice Ao62 t211.length co62)) (fun _ hk => hk.2) (.slice Ao63 t214.length co63)) (fun _ hk => hk.2) (.slice Ao64 t217.length co64)) (fun _ hk => trivial), by (with_reducible repeat (first | apply Kd.R_alloc | apply Kd.R_drewN | apply Kd.R_drew)); exact Kd.R_mono (Kd.R_far (p := ⟨gb193, 3, none⟩) (Kd.R_far (p := ⟨gb193, 2, none⟩) (Kd.R_far (p := ⟨gb193, 1, none⟩) (Kd.R_far (p := ⟨gb193, 0, none⟩) (Kd.R_types HO216.out BK193.out (by decide)) (fun _ hk => hk.2) (.bool t210)) (fun _ hk => hk.2) (.slice Ao62 t211.length co62)) (fun _ hk => hk.2) (.slice Ao63 t214.length co63)) (fun _ hk => hk.2) (.slice Ao64 t217.length co64)) (fun _ hk => trivial), by (with_reducible repeat (first | apply Kd.R_alloc | apply Kd.R_drewN | apply Kd.R_drew)); exact Kd.R_mono (Kd.R_far (p := ⟨gb193, 3, none⟩) (Kd.R_far (p := ⟨gb193, 2, none⟩) (Kd.R_far (p := ⟨gb193, 1, none⟩) (Kd.R_far (p := ⟨gb193, 0, none⟩) (Kd.R_types HO219.out BK193.out (by decide)) (fun _ hk => hk.2) (.bool t210)) (fun _ hk => hk.2) (.slice Ao62 t211.length co62)) (fun _ hk => hk.2) (.slice Ao63 t214.length co63)) (fun _ hk => hk.2) (.slice Ao64 t217.length co64)) (fun _ hk => trivial), by exact qS3 HB GE192 GE193 GE202⟩
     ·rw [if_neg c22] at H
      exact absurd H (by simp)
 ·rw [if_neg c5] at H
  have c5b0 : (t194 == 0) = false := beq_eq_false_iff_ne.mpr c5
  have c5b1 : (t194 != 0) = true := bne_iff_ne.mpr c5
  simp only [Option.some.injEq, Prod.mk.injEq] at H
  obtain ⟨rfl, rfl, rfl, rfl, rfl⟩ := H
  go_enter Try.func48, Try.ntmps48
  go_wp2_with (first | ((with_reducible refine gate_dst (N := 3) rfl ?_); (try (refine gate_guard (by rfl) ?_; dsimp only)); refine box_event ?hg (N := 3) ?hd (cs := #[.bool a0_0, .slice A0_1 l0_1.length c0_1, .slice A0_2 l0_2.length c0_2, .slice A0_3 l0_3.length c0_3]) (t := 26) ?hr ?_; (case hd => rfl); (case hg => rfl); (case hr => first | (go_simp; done) | (go_simp; rfl)); intro gb192 hg w65 hbox hb; have n0_ := sSt HB hb; have n1_ := Aside0.mk (hbox); have n2_ := Aside0.mk ((by rw [hg]; exact (sSz HB) : w.heap.size ≤ gb192)); have n3_ := Aside0.mk ((by rw [hg]; exact (sSz HB) : w.heap.size ≤ gb192)); clear HB; have HB := n0_; have BK192 := n1_; have GW192 := n2_; have GE192 := n3_; clear n0_ n1_ n2_ n3_; clear hb hbox hg) | ((with_reducible refine gate_dst (N := 6) rfl ?_); (try (refine gate_guard (by rfl) ?_; dsimp only)); refine box_event ?hg (N := 6) ?hd (cs := #[.bool false, .slice none 0 0, .slice none 0 0, .slice none 0 0]) (t := 26) ?hr ?_; (case hd => rfl); (case hg => rfl); (case hr => first | (go_simp; done) | (go_simp; rfl)); intro gb193 hg w66 hbox hb; have n0_ := Aside0.mk (blk_below (g := gb192) (o := .cells #[.bool a0_0, .slice A0_1 l0_1.length c0_1, .slice A0_2 l0_2.length c0_2, .slice A0_3 l0_3.length c0_3] 26 (0, 0)) (qB BK192) hb); have n1_ := Aside0.mk (below_step (by exact qS1 HB GE192) hb); have n2_ := Aside0.mk (hbox); have n3_ := Aside0.mk ((by rw [hg]; exact (below_size (by exact qS1 HB GE192)) : w.heap.size ≤ gb193)); have n4_ := Aside0.mk ((by rw [hg]; exact (below_size (by exact qS1 HB GE192)) : w.heap.size ≤ gb193)); have n5_ := Aside0.mk ((by rw [hg]; exact Nat.ne_of_lt (blk_lt (g := gb192) (o := .cells #[.bool a0_0, .slice A0_1 l0_1.length c0_1, .slice A0_2 l0_2.length c0_2, .slice A0_3 l0_3.length c0_3] 26 (0, 0)) (qB BK192)) : gb192 ≠ gb193)); have n6_ := Aside0.mk ((by rw [hg]; exact Nat.ne_of_gt (blk_lt (g := gb192) (o := .cells #[.bool a0_0, .slice A0_1 l0_1.length c0_1, .slice A0_2 l0_2.length c0_2, .slice A0_3 l0_3.length c0_3] 26 (0, 0)) (qB BK192)) : gb193 ≠ gb192)); clear BK192; clear HB; have BK192 := n0_; have HB := n1_; have BK193 := n2_; have GW193 := n3_; have GE193 := n4_; have NB192_193 := n5_; have NB193_192 := n6_; clear n0_ n1_ n2_ n3_ n4_ n5_ n6_; clear hb hbox hg; have hnb67 := NB192_193.out; have hnc67 := NB193_192.out; obtain ⟨hcz68_0, hcz68_1, hcz68_2, hcz68_3⟩ := qc4 BK192; obtain ⟨hfz68_0, hfz68_1, hfz68_2, hfz68_3⟩ := qf4 BK192) | ((with_reducible refine gate_callee (f := 95) rfl ?_); refine goesL_ (some 12) rfl rfl Try.func95 (by kernel_rfl) rfl #[.agg #[.bool a0_0, .slice A0_1 l0_1.length c0_1, .slice A0_2 l0_2.length c0_2, .slice A0_3 l0_3.length c0_3]] rfl (by (try simp only [List.map_toArray, List.map_cons, List.map_nil]); first | done | rfl | (simp only [List.length_drop, List.length_take]; rfl)) ?_; (with_reducible refine (concordref08_branch.calls k a0_0 _ _ l0_1 _ _ l0_2 _ _ l0_3 t194 _ ?side1 ?side2 ?side3 ?side4 ?side5 ?side6 A4.out).mono ?_); (case side1 => exact qC HR0_1 HB); (case side2 => exact HC0_1.out); (case side3 => exact qC HR0_2 HB); (case side4 => exact HC0_2.out); (case side5 => exact qC HR0_3 HB); (case side6 => exact HC0_3.out); rintro e w69 ⟨rfl, hb⟩; refine ⟨_, rfl, ?_⟩; have n0_ := Aside0.mk (blk_below (g := gb192) (o := .cells #[.bool a0_0, .slice A0_1 l0_1.length c0_1, .slice A0_2 l0_2.length c0_2, .slice A0_3 l0_3.length c0_3] 26 (0, 0)) (qB BK192) hb); have n1_ := Aside0.mk (blk_below (g := gb193) (o := .cells #[.bool false, .slice none 0 0, .slice none 0 0, .slice none 0 0] 26 (0, 0)) (qB BK193) hb); have n2_ := Aside0.mk (below_step (by exact qS2 HB GE192 GE193) hb); clear BK192; clear BK193; clear HB; have BK192 := n0_; have BK193 := n1_; have HB := n2_; clear n0_ n1_ n2_; (try clear hb); (try clear hb2); (try clear hk); (try clear hi); obtain ⟨hcz70_0, hcz70_1, hcz70_2, hcz70_3⟩ := qc4 BK193; obtain ⟨hfz70_0, hfz70_1, hfz70_2, hfz70_3⟩ := qf4 BK193))
  refine bodyPost_ret (results_ct rfl _ _ gb193 26 #[.bool false, .slice none 0 0, .slice none 0 0, .slice none 0 0] (0, 0) _ rfl (by (with_reducible repeat (first | refine blk_drewN ?_ _ | refine blk_drew ?_ | refine blk_alloc ?_ _)); refine blk_put (cs := #[.bool false, .slice none 0 0, .slice none 0 0, .slice none 0 0]) ?_ 3 _ rfl; (with_reducible repeat (first | refine blk_drewN ?_ _ | refine blk_drew ?_ | refine blk_alloc ?_ _)); refine blk_put (cs := #[.bool false, .slice none 0 0, .slice none 0 0, .slice none 0 0]) ?_ 2 _ rfl; (with_reducible repeat (first | refine blk_drewN ?_ _ | refine blk_drew ?_ | refine blk_alloc ?_ _)); refine blk_put (cs := #[.bool false, .slice none 0 0, .slice none 0 0, .slice none 0 0]) ?_ 1 _ rfl; (with_reducible repeat (first | refine blk_drewN ?_ _ | refine blk_drew ?_ | refine blk_alloc ?_ _)); refine blk_put (cs := #[.bool false, .slice none 0 0, .slice none 0 0, .slice none 0 0]) ?_ 0 _ rfl; (with_reducible repeat (first | refine blk_drewN ?_ _ | refine blk_drew ?_ | refine blk_alloc ?_ _)); exact BK193.out) Try.underlying26 rfl (by kernel_rfl)) rfl ?_
  exact ⟨_, _, _, by first | rfl | (simp [errW_none, errW_some] <;> rfl) | (simp [*, errW_none, errW_some] <;> rfl), by first | exact Kd.R_nil _ _ _ _ _ | exact Kd.N_nil _ _ _ _ _ | exact Kd.V_nil _ _ _ _ _ | exact Kd.Q_nil _ _ _ _ _ | exact Kd.S_nil _ _ _ _ _, by first | exact Kd.R_nil _ _ _ _ _ | exact Kd.N_nil _ _ _ _ _ | exact Kd.V_nil _ _ _ _ _ | exact Kd.Q_nil _ _ _ _ _ | exact Kd.S_nil _ _ _ _ _, by first | exact Kd.R_nil _ _ _ _ _ | exact Kd.N_nil _ _ _ _ _ | exact Kd.V_nil _ _ _ _ _ | exact Kd.Q_nil _ _ _ _ _ | exact Kd.S_nil _ _ _ _ _, by exact qS2 HB GE192 GE193⟩

end Go.Proofs.Ytdjjpgdhnoibkaa.PB
namespace Go.Proofs.Ytdjjpgdhnoibkaa.My
open Go.RowKit Go.Proofs.YtdjjpgdhnoibkaaW.PrintWords Go.Proofs.YtdjjpgdhnoibkaaW.PrintLast Go.Proofs.YtdjjpgdhnoibkaaW.PrintMore Go.Proofs.Ytdjjpgdhnoibkaa Go.Proofs.Ytdjjpgdhnoibkaa.PZ Go.Proofs.Ytdjjpgdhnoibkaa.PD
set_option linter.unusedSimpArgs false
set_option linter.unusedVariables false
set_option maxRecDepth 100000
set_option maxHeartbeats 6400000
attribute [local go_sem high] conv_rune str_leq str_gtr
def turnV (b : Bool) (cs : List Ce) (ks : List ByteArray) (kids : List Int) (i : Int) (key : ByteArray) : Bool × List Ce × List ByteArray × List Int × Int :=
 if brV b cs ks kids = 0 then (if i < 0 ∨ (ks.length : Int) ≤ i ∨ okK key = false then (false, [], [], [], 1) else wholeV [] (ks.take i.toNat ++ ([key] ++ ks.drop (i.toNat + 1))) kids) else (false, [], [], [], brV b cs ks kids)
theorem turn_calls (W : World) (b : Bool) (B1 : Option Addr) (c1 : Nat) (cs : List Ce) (B2 : Option Addr) (c2 : Nat) (ks : List ByteArray) (B3 : Option Addr) (c3 : Nat) (kids : List Int) (i : Int) (key : ByteArray) (hc1 : cs.length ≤ c1) (hc2 : ks.length ≤ c2) (hc3 : kids.length ≤ c3) (h1 : Kd.C k66 W B1 cs.length cs) (h2 : Kd.C Kd.string W B2 ks.length ks) (h3 : Kd.C (Kd.int .u32) W B3 kids.length kids) (hn : NdOk cs ks kids) (r1 : Bool) (r2 : List Ce) (r3 : List ByteArray) (r4 : List Int) (r5 : Int) (h : turnV b cs ks kids i key = (r1, r2, r3, r4, r5)) :
  Calls Try.prog 46 #[.agg #[.bool b, .slice B1 cs.length c1, .slice B2 ks.length c2, .slice B3 kids.length c3], .int .i64 i, .string key] W fun e w' => ∃ v1_ v2_ v3_ : Value, e = .returned (.tuple #[.agg #[.bool r1, v1_, v2_, v3_], .int .i64 r5]) ∧ Kd.R k66 66 w' W.heap.size (fun _ => True) v1_ r2 ∧ Kd.R Kd.string 9 w' W.heap.size (fun _ => True) v2_ r3 ∧ Kd.R (Kd.int .u32) 45 w' W.heap.size (fun _ => True) v3_ r4 ∧ Below W.heap.size W w' := by
 have hbr := branch_f b cs ks kids hn (2 * (cs.length + ks.length) + kids.length + 60) (Nat.le_refl _)
 generalize hC : brV b cs ks kids = C at hbr
 have H := Aside0.mk h
 have HN := Aside0.mk hn
 clear h hn
 go_enter Try.func46, Try.ntmps46
 go_wp2_with fail
 have hbx : (W.alloc (.cells #[.bool b, .slice B1 cs.length c1, .slice B2 ks.length c2, .slice B3 kids.length c3] 26)).heap[W.heap.size]? = some (.cells #[.bool b, .slice B1 cs.length c1, .slice B2 ks.length c2, .slice B3 kids.length c3] 26 (0, 0)) := blk_new W _
 have hb0 : Below W.heap.size W (W.alloc (.cells #[.bool b, .slice B1 cs.length c1, .slice B2 ks.length c2, .slice B3 kids.length c3] 26)) := (Below.refl _ _).alloc (Nat.le_refl _) _
 have hs1 : (W.alloc (.cells #[.bool b, .slice B1 cs.length c1, .slice B2 ks.length c2, .slice B3 kids.length c3] 26)).heap.size = W.heap.size + 1 := by show (W.heap.push _).size = _; rw [Array.size_push]
 generalize W.alloc (.cells #[.bool b, .slice B1 cs.length c1, .slice B2 ks.length c2, .slice B3 kids.length c3] 26) = wa at *
 have hbo : (wa.alloc (.cells #[.bool false, .slice none 0 0, .slice none 0 0, .slice none 0 0] 26)).heap[wa.heap.size]? = some (.cells #[.bool false, .slice none 0 0, .slice none 0 0, .slice none 0 0] 26 (0, 0)) := blk_new wa _
 have hb1 : Below wa.heap.size wa (wa.alloc (.cells #[.bool false, .slice none 0 0, .slice none 0 0, .slice none 0 0] 26)) := (Below.refl _ _).alloc (Nat.le_refl _) _
 rw [hs1] at hbo
 replace hbx := blk_below hbx hb1
 replace hb0 := below_then hb0 (below_size hb0) hb1
 clear hb1 hs1
 generalize wa.alloc (.cells #[.bool false, .slice none 0 0, .slice none 0 0, .slice none 0 0] 26) = w1 at *
 obtain ⟨go, hgo⟩ : ∃ g, g = W.heap.size + 1 := ⟨_, rfl⟩
 obtain ⟨gn, hgn⟩ : ∃ g, g = W.heap.size := ⟨_, rfl⟩
 rw [← hgo] at hbo ⊢
 rw [← hgn] at hbx ⊢
 have HG2 := Aside0.mk (show W.heap.size ≤ go by omega)
 have HNE := Aside0.mk (show gn ≠ go by omega)
 clear hgo hgn
 have H2 := Aside0.mk h2
 have H3 := Aside0.mk h3
 refine (node_branch.calls _ b B1 c1 cs B2 c2 ks B3 c3 kids C w1 (Kd.C_below h1 hb0) hc1 (Kd.C_below h2 hb0) hc2 (Kd.C_below h3 hb0) hc3 hbr).mono ?_
 rintro e_ w2 ⟨rfl, hb2⟩
 clear h1 h2 h3 hbr
 have HX := Aside0.mk (And.intro (blk_below hbx hb2) (blk_below hbo hb2))
 have HB := Aside0.mk (below_then hb0 (below_size hb0) hb2)
 clear hbx hbo hb0 hb2
 have k0 : w2.cell? ⟨gn, 0, none⟩ = some (.bool b) := (blk_cell HX.out.1 0).trans rfl
 have k1 : w2.cell? ⟨gn, 1, none⟩ = some (.slice B1 cs.length c1) := (blk_cell HX.out.1 1).trans rfl
 have k2 : w2.cell? ⟨gn, 2, none⟩ = some (.slice B2 ks.length c2) := (blk_cell HX.out.1 2).trans rfl
 have k3 : w2.cell? ⟨gn, 3, none⟩ = some (.slice B3 kids.length c3) := (blk_cell HX.out.1 3).trans rfl
 have o0 : w2.cell? ⟨go, 0, none⟩ = some (.bool false) := (blk_cell HX.out.2 0).trans rfl
 have o1 : w2.cell? ⟨go, 1, none⟩ = some (.slice none 0 0) := (blk_cell HX.out.2 1).trans rfl
 have o2 : w2.cell? ⟨go, 2, none⟩ = some (.slice none 0 0) := (blk_cell HX.out.2 2).trans rfl
 have o3 : w2.cell? ⟨go, 3, none⟩ = some (.slice none 0 0) := (blk_cell HX.out.2 3).trans rfl
 have f0 := blk_frozen HX.out.2 0
 have f1 := blk_frozen HX.out.2 1
 have f2 := blk_frozen HX.out.2 2
 have f3 := blk_frozen HX.out.2 3
 have hv := H.out
 unfold turnV at hv
 rw [hC] at hv
 by_cases hC0 : C = 0
 ·subst hC0
  obtain ⟨rfl, hck⟩ := brV_zero hC
  rw [if_pos rfl] at hv
  have hkl : kids.length = ks.length + 1 ∧ ks.length ≤ 2000 := by
   have f1 := (chk_facts hck).1
   have f5 := (chk_facts hck).2.2.2.2
   have f6 := ks_len ks
   unfold shpV at f1
   unfold lngV at f5
   rw [if_neg (by decide)] at f1 f5
   rw [Bool.and_eq_true, Bool.and_eq_true, decide_eq_true_eq] at f1
   omega
  have HKL := Aside0.mk hkl
  clear hkl hC hck
  by_cases hi0 : i < 0
  ·have d1 : decide (i < 0) = true := decide_eq_true hi0
   rw [if_pos (Or.inl hi0)] at hv
   have hp := hv.symm
   clear hv
   injection hp with e1 hp
   injection hp with e2 hp
   injection hp with e3 hp
   injection hp with e4 e5
   subst e1 e2 e3 e4 e5
   go_wp2_with fail
   (try simp only [Exit.inBlock, Exit.then]); refine bodyPost_ret (results_ct rfl _ _ go 26 _ (0, 0) _ rfl (ret_all HX.out.2 _ _ _ _) Try.underlying26 rfl (by kernel_rfl)) rfl ?_
   exact ⟨_, _, _, rfl, Kd.R_nil _ _ _ _ _, Kd.R_nil _ _ _ _ _, Kd.R_nil _ _ _ _ _, below_set (below_set (below_set (below_set HB.out HG2.out) HG2.out) HG2.out) HG2.out⟩
  ·have d1 : decide (i < 0) = false := decide_eq_false hi0
   by_cases hi1 : (ks.length : Int) ≤ i
   ·have d2 : decide (i ≥ (ks.length : Int)) = true := decide_eq_true hi1
    rw [if_pos (Or.inr (Or.inl hi1))] at hv
    have hp := hv.symm
    clear hv
    injection hp with e1 hp
    injection hp with e2 hp
    injection hp with e3 hp
    injection hp with e4 e5
    subst e1 e2 e3 e4 e5
    go_wp2_with fail
    (try simp only [Exit.inBlock, Exit.then]); refine bodyPost_ret (results_ct rfl _ _ go 26 _ (0, 0) _ rfl (ret_all HX.out.2 _ _ _ _) Try.underlying26 rfl (by kernel_rfl)) rfl ?_
    exact ⟨_, _, _, rfl, Kd.R_nil _ _ _ _ _, Kd.R_nil _ _ _ _ _, Kd.R_nil _ _ _ _ _, below_set (below_set (below_set (below_set HB.out HG2.out) HG2.out) HG2.out) HG2.out⟩
   ·have d2 : decide (i ≥ (ks.length : Int)) = false := decide_eq_false hi1
    go_wp2_with fail
    refine (node_keyed.calls key (okK key) _ (keyed_f key)).mono ?_
    rintro e_ w3 ⟨rfl, hd⟩
    have hb := hd.below
    replace HX := Aside0.mk (And.intro (blk_below HX.out.1 hb) (blk_below HX.out.2 hb))
    replace HB := Aside0.mk (below_then HB.out (below_size HB.out) hb)
    clear hd hb k0 k1 k2 k3 o0 o1 o2 o3 f0 f1 f2 f3
    have k0 : w3.cell? ⟨gn, 0, none⟩ = some (.bool false) := (blk_cell HX.out.1 0).trans rfl
    have k1 : w3.cell? ⟨gn, 1, none⟩ = some (.slice B1 cs.length c1) := (blk_cell HX.out.1 1).trans rfl
    have k2 : w3.cell? ⟨gn, 2, none⟩ = some (.slice B2 ks.length c2) := (blk_cell HX.out.1 2).trans rfl
    have k3 : w3.cell? ⟨gn, 3, none⟩ = some (.slice B3 kids.length c3) := (blk_cell HX.out.1 3).trans rfl
    have o0 : w3.cell? ⟨go, 0, none⟩ = some (.bool false) := (blk_cell HX.out.2 0).trans rfl
    have o1 : w3.cell? ⟨go, 1, none⟩ = some (.slice none 0 0) := (blk_cell HX.out.2 1).trans rfl
    have o2 : w3.cell? ⟨go, 2, none⟩ = some (.slice none 0 0) := (blk_cell HX.out.2 2).trans rfl
    have o3 : w3.cell? ⟨go, 3, none⟩ = some (.slice none 0 0) := (blk_cell HX.out.2 3).trans rfl
    have f0 := blk_frozen HX.out.2 0
    have f1 := blk_frozen HX.out.2 1
    have f2 := blk_frozen HX.out.2 2
    have f3 := blk_frozen HX.out.2 3
    by_cases hok : okK key = false
    ·rw [hok]
     rw [if_pos (Or.inr (Or.inr (hok)))] at hv
     have hp := hv.symm
     clear hv
     injection hp with e1 hp
     injection hp with e2 hp
     injection hp with e3 hp
     injection hp with e4 e5
     subst e1 e2 e3 e4 e5
     go_wp2_with fail
     (try simp only [Exit.inBlock, Exit.then]); refine bodyPost_ret (results_ct rfl _ _ go 26 _ (0, 0) _ rfl (ret_all HX.out.2 _ _ _ _) Try.underlying26 rfl (by kernel_rfl)) rfl ?_
     exact ⟨_, _, _, rfl, Kd.R_nil _ _ _ _ _, Kd.R_nil _ _ _ _ _, Kd.R_nil _ _ _ _ _, below_set (below_set (below_set (below_set HB.out HG2.out) HG2.out) HG2.out) HG2.out⟩
    ·replace hok : okK key = true := by simpa using hok
     rw [hok]
     rw [if_neg (by rintro (h | h | h); omega; omega; rw [hok] at h; cases h)] at hv
     have HOK := Aside0.mk hok
     obtain ⟨p, rfl⟩ : ∃ p : Nat, i = (p : Int) := ⟨i.toNat, by omega⟩
     rw [Int.toNat_natCast] at hv
     have HV := Aside0.mk hv
     clear hv hok
     have hpl : p < ks.length := by omega
     clear hi1
     go_wp2_with fail
     clear k0 k1 k2 k3 o0 o1 o2 o3 f0 f1 f2 f3 d1 d2 hi0
     obtain ⟨p1, hp1⟩ : ∃ q, q = p + 1 := ⟨_, rfl⟩
     have ca := cut_to (P := Try.prog) 23 9 .i64 Try.underlying23 (Option.some_get cis0).symm B2 ks.length c2 (p : Int) (by omega) (by omega) hc2
     have cb := cut_from (P := Try.prog) 23 9 .i64 Try.underlying23 (Option.some_get cis0).symm 1 (by kernel_rfl) B2 ks.length c2 (p1 : Int) (by omega) (by omega)
     rw [Int.toNat_natCast] at ca cb
     have R1 := Kd.C_take (m := p) H2.out (by omega)
     have R2 := Kd.C_drop (c := c2) (m := p1) H2.out (by omega) hc2
     change Kd.C Kd.string W (if c2 = p1 then B2 else B2.map (·.add (p1 * 1))) _ _ at R2
     generalize (if c2 = p1 then B2 else B2.map (·.add (p1 * 1))) = B2d at cb R2
     have q1 : (ks.take p).length = p := by rw [List.length_take]; omega
     have q2 : (ks.drop p1).length = ks.length - p1 := List.length_drop
     replace ca := fun W_ => (ca W_).trans (show _ = Result.ok (Value.slice B2 (ks.take p).length c2) W_ by rw [q1])
     replace cb := fun W_ => (cb W_).trans (show _ = Result.ok (Value.slice B2d (ks.drop p1).length (c2 - p1)) W_ by rw [q2])
     have l1 : (ks.take p).length ≤ c2 := by rw [q1]; omega
     have l2 : (ks.drop p1).length ≤ c2 - p1 := by rw [q2]; omega
     have HQ := Aside0.mk (And.intro R1 (And.intro R2 (And.intro l1 l2)))
     have HLn : Aside0 ((ks.take p ++ ([key] ++ ks.drop p1)).length ≤ 1000000 ∧ kids.length ≤ 1000000) := ⟨by rw [List.length_append, List.length_append, q1, q2]; have := HKL.out; simp only [List.length_cons, List.length_nil]; omega⟩
     have hp5 : p < 5000 := by have := HKL.out; omega
     have m1 : wrap64 ((p : Int) + 1) = (p1 : Int) := by rw [hp1]; exact w64S p (Nat.lt_trans hp5 (by decide))
     have HNK : Aside0 (NdOk [] (ks.take p ++ ([key] ++ ks.drop p1)) kids) := ⟨by
      refine ⟨⟨by simp, Nat.lt_of_le_of_lt HLn.out.1 (by decide), Nat.lt_of_le_of_lt HLn.out.2 (by decide)⟩, by simp, ?_⟩
      intro x hx
      rcases List.mem_append.1 hx with hx | hx
      ·exact HN.out.2.2 x (List.mem_of_mem_take hx)
      ·rcases List.mem_append.1 hx with hx | hx
       ·obtain rfl := List.mem_singleton.1 hx
        exact key_size HOK.out
       ·exact HN.out.2.2 x (List.mem_of_mem_drop hx)⟩
     replace HV := Aside0.mk ((show wholeV [] (ks.take p ++ ([key] ++ ks.drop p1)) kids = _ by rw [hp1]).trans HV.out)
     clear R1 R2 l1 l2 q1 q2 hpl hp5 hp1
     generalize ks.take p = K1 at ca HQ HLn HNK HV ⊢
     generalize ks.drop p1 = K2 at cb HQ HLn HNK HV ⊢
     obtain ⟨KK, hKK⟩ : ∃ l, l = K1 ++ ([key] ++ K2) := ⟨_, rfl⟩
     rw [← hKK] at HNK HV
     have k2 : w3.cell? ⟨gn, 2, none⟩ = some (.slice B2 ks.length c2) := (blk_cell HX.out.1 2).trans rfl
     have k3 : w3.cell? ⟨gn, 3, none⟩ = some (.slice B3 kids.length c3) := (blk_cell HX.out.1 3).trans rfl
     refine start_ (n := 22) (S := fun w' => w'.cell? ⟨gn, 2, none⟩ = some (.slice B2 ks.length c2) ∧ w'.cell? ⟨gn, 3, none⟩ = some (.slice B3 kids.length c3)) (ds := []) #[false,false,false,false,false,false,false,false,false,false,false,false,false,false,false,false,false,false,false,false,false,false] (by kernel_rfl) rfl rfl (⟨k2, k3⟩) (fun hHeld => ?_)
     have hb : Below w3.heap.size w3 w3.drew := below_drew (Below.refl _ _)
     replace HX := Aside0.mk (And.intro (blk_below HX.out.1 hb) (blk_below HX.out.2 hb))
     replace HB := Aside0.mk (below_then HB.out (below_size HB.out) hb)
     clear hb k2 k3
     generalize w3.drew = w4 at *
     obtain ⟨B4, hB4⟩ : ∃ B, B = w4.heap.size := ⟨_, rfl⟩
     have HSZ : Aside0 (B4 ≤ w4.heap.size) := ⟨Nat.le_of_eq hB4⟩
     have HB4l : Aside0 (W.heap.size ≤ B4) := ⟨by rw [hB4]; exact HB.out.size⟩
     have HLT : Aside0 (gn < B4 ∧ go < B4) := ⟨by rw [hB4]; exact ⟨blk_lt HX.out.1, blk_lt HX.out.2⟩⟩
     clear hB4
     refine pure_ (i := 0) (N := some 30) (v := ?_) (a' := ?_) #[true,false,false,false,false,false,false,false,false,false,false,false,false,false,false,false,false,false,false,false,false,false] rfl rfl (by kernel_rfl) (fun _ _ _ h => h) (Or.inl ⟨by rfl, ?_⟩) ?_ ?_
     rotate_left
     ·intro w'
      go_simp
      with_reducible rfl
     rotate_left
     ·simp only [Act.put, List.setIfInBounds_toArray, List.set_cons_zero, List.set_cons_succ, i64_w, i32_w]
      rfl
     refine take_ (i := 1) (N := some 31) (v := ?_) (a' := ?_) #[true,true,false,false,false,false,false,false,false,false,false,false,false,false,false,false,false,false,false,false,false,false] rfl rfl (by kernel_rfl) (fun _ _ _ h => h) (Or.inl ⟨by rfl, ?_⟩) hHeld ?_ ?_
     rotate_left
     ·intro w' hS
      go_simp
      with_reducible rfl
     rotate_left
     ·simp only [Act.put, List.setIfInBounds_toArray, List.set_cons_zero, List.set_cons_succ, i64_w, i32_w]
      rfl
     refine pure_ (i := 2) (N := some 32) (v := ?_) (a' := ?_) #[true,true,true,false,false,false,false,false,false,false,false,false,false,false,false,false,false,false,false,false,false,false] rfl rfl (by kernel_rfl) (fun _ _ _ h => h) (Or.inl ⟨by rfl, ?_⟩) ?_ ?_
     rotate_left
     ·intro w'
      go_simp
      with_reducible rfl
     rotate_left
     ·simp only [Act.put, List.setIfInBounds_toArray, List.set_cons_zero, List.set_cons_succ, i64_w, i32_w]
      rfl
     refine pure_ (i := 3) (N := some 33) (v := ?_) (a' := ?_) #[true,true,true,true,false,false,false,false,false,false,false,false,false,false,false,false,false,false,false,false,false,false] rfl rfl (by kernel_rfl) (fun _ _ _ h => h) (Or.inl ⟨by rfl, ?_⟩) ?_ ?_
     rotate_left
     ·intro w'
      go_simp
      with_reducible rfl
     rotate_left
     ·simp only [Act.put, List.setIfInBounds_toArray, List.set_cons_zero, List.set_cons_succ, i64_w, i32_w]
      rfl
     refine pure_ (i := 4) (N := some 34) (v := ?_) (a' := ?_) #[true,true,true,true,true,false,false,false,false,false,false,false,false,false,false,false,false,false,false,false,false,false] rfl rfl (by kernel_rfl) (fun _ _ _ h => h) (Or.inl ⟨by rfl, ?_⟩) ?_ ?_
     rotate_left
     ·intro w'
      go_simp
      with_reducible rfl
     rotate_left
     ·simp only [Act.put, List.setIfInBounds_toArray, List.set_cons_zero, List.set_cons_succ, i64_w, i32_w]
      rfl
     refine pure_ (i := 6) (N := some 36) (v := ?_) (a' := ?_) #[true,true,true,true,true,false,true,false,false,false,false,false,false,false,false,false,false,false,false,false,false,false] rfl rfl (by kernel_rfl) (fun _ _ _ h => h) (Or.inl ⟨by rfl, ?_⟩) ?_ ?_
     rotate_left
     ·intro w'
      go_simp
      with_reducible rfl
     rotate_left
     ·simp only [Act.put, List.setIfInBounds_toArray, List.set_cons_zero, List.set_cons_succ, i64_w, i32_w]
      rfl
     refine take_ (i := 7) (N := some 37) (v := ?_) (a' := ?_) #[true,true,true,true,true,false,true,true,false,false,false,false,false,false,false,false,false,false,false,false,false,false] rfl rfl (by kernel_rfl) (fun _ _ _ h => h) (Or.inl ⟨by rfl, ?_⟩) hHeld ?_ ?_
     rotate_left
     ·intro w' hS
      go_simp
      with_reducible rfl
     rotate_left
     ·simp only [Act.put, List.setIfInBounds_toArray, List.set_cons_zero, List.set_cons_succ, i64_w, i32_w]
      rfl
     refine pure_ (i := 8) (N := some 38) (v := ?_) (a' := ?_) #[true,true,true,true,true,false,true,true,true,false,false,false,false,false,false,false,false,false,false,false,false,false] rfl rfl (by kernel_rfl) (fun _ _ _ h => h) (Or.inl ⟨by rfl, ?_⟩) ?_ ?_
     rotate_left
     ·intro w'
      go_simp
      with_reducible rfl
     rotate_left
     ·simp only [Act.put, List.setIfInBounds_toArray, List.set_cons_zero, List.set_cons_succ, i64_w, i32_w]
      rfl
     refine pure_ (i := 9) (N := some 39) (v := ?_) (a' := ?_) #[true,true,true,true,true,false,true,true,true,true,false,false,false,false,false,false,false,false,false,false,false,false] rfl rfl (by kernel_rfl) (fun _ _ _ h => h) (Or.inl ⟨by rfl, ?_⟩) ?_ ?_
     rotate_left
     ·intro w'
      go_simp
      with_reducible rfl
     rotate_left
     ·simp only [Act.put, List.setIfInBounds_toArray, List.set_cons_zero, List.set_cons_succ, i64_w, i32_w]
      rfl
     refine pure_ (i := 10) (N := some 40) (v := ?_) (a' := ?_) #[true,true,true,true,true,false,true,true,true,true,true,false,false,false,false,false,false,false,false,false,false,false] rfl rfl (by kernel_rfl) (fun _ _ _ h => h) (Or.inl ⟨by rfl, ?_⟩) ?_ ?_
     rotate_left
     ·intro w'
      go_simp
      with_reducible rfl
     rotate_left
     ·simp only [Act.put, List.setIfInBounds_toArray, List.set_cons_zero, List.set_cons_succ, i64_w, i32_w]
      rfl
     refine pure_ (i := 13) (N := some 43) (v := ?_) (a' := ?_) #[true,true,true,true,true,false,true,true,true,true,true,false,false,true,false,false,false,false,false,false,false,false] rfl rfl (by kernel_rfl) (fun _ _ _ h => h) (Or.inl ⟨by rfl, ?_⟩) ?_ ?_
     rotate_left
     ·intro w'
      go_simp
      with_reducible rfl
     rotate_left
     ·simp only [Act.put, List.setIfInBounds_toArray, List.set_cons_zero, List.set_cons_succ, i64_w, i32_w]
      rfl
     refine take_ (i := 14) (N := some 44) (v := ?_) (a' := ?_) #[true,true,true,true,true,false,true,true,true,true,true,false,false,true,true,false,false,false,false,false,false,false] rfl rfl (by kernel_rfl) (fun _ _ _ h => h) (Or.inl ⟨by rfl, ?_⟩) hHeld ?_ ?_
     rotate_left
     ·intro w' hS
      go_simp
      with_reducible rfl
     rotate_left
     ·simp only [Act.put, List.setIfInBounds_toArray, List.set_cons_zero, List.set_cons_succ, i64_w, i32_w]
      rfl
     refine one_ (i := 5) (N := some 35) #[true,true,true,true,true,true,true,true,true,true,true,false,false,true,true,false,false,false,false,false,false,false] rfl rfl (by kernel_rfl) (by decide) (fun K hK => ?_)
     refine value_ (w1 := ?_) (v := ?_) (by rfl) rfl ?_ ?_
     rotate_left 2
     ·go_simp
      constructor
      ·rfl
      ·rfl
     try clear hHeld
     have HL5 : Aside0 ((w4.alloc (.cells #[.string key] 9)).heap[w4.heap.size]? = some (.cells #[.string key] 9 (0, 0))) := ⟨blk_new _ _⟩
     have hb : Below w4.heap.size w4 (w4.alloc (.cells #[.string key] 9)) := (Below.refl _ _).alloc (Nat.le_refl _) _
     replace HSZ := kS HSZ hb
     replace HX := kX HX hb
     replace HB := kB HB hb
     clear hb
     generalize w4.alloc (.cells #[.string key] 9) = w5 at *
     obtain ⟨g5, hg_⟩ : ∃ g, g = w4.heap.size := ⟨_, rfl⟩
     rw [← hg_] at HL5 ⊢
     clear hg_
     refine hK.out _ _ (⟨(blk_cell HX.out.1 2).trans rfl, (blk_cell HX.out.1 3).trans rfl⟩) (fun hHeld => ?_)
     clear hK K
     refine norm_ (a' := ?_) ?_ ?_
     rotate_left
     ·show Act.put _ (some 35) _ = _
      simp only [Act.put, List.setIfInBounds_toArray, List.set_cons_zero, List.set_cons_succ, i64_w, i32_w]
      rfl
     refine one_ (i := 11) (N := some 41) #[true,true,true,true,true,true,true,true,true,true,true,true,false,true,true,false,false,false,false,false,false,false] rfl rfl (by kernel_rfl) (by decide) (fun K hK => ?_)
     refine value_ (w1 := ?_) (v := ?_) (by rfl) rfl ?_ ?_
     rotate_left 2
     ·go_simp
      constructor
      ·rfl
      ·rfl
     try clear hHeld
     have HL10 : Aside0 ((w5.alloc (.cells #[.slice B2 K1.length c2, .slice (some ⟨g5, 0, none⟩) 1 1, .slice B2d K2.length (c2 - p1)] 23)).heap[w5.heap.size]? = some (.cells #[.slice B2 K1.length c2, .slice (some ⟨g5, 0, none⟩) 1 1, .slice B2d K2.length (c2 - p1)] 23 (0, 0))) := ⟨blk_new _ _⟩
     have hb : Below w5.heap.size w5 (w5.alloc (.cells #[.slice B2 K1.length c2, .slice (some ⟨g5, 0, none⟩) 1 1, .slice B2d K2.length (c2 - p1)] 23)) := (Below.refl _ _).alloc (Nat.le_refl _) _
     replace HSZ := kS HSZ hb
     replace HX := kX HX hb
     replace HB := kB HB hb
     replace HL5 := kL HL5 hb
     clear hb
     generalize w5.alloc (.cells #[.slice B2 K1.length c2, .slice (some ⟨g5, 0, none⟩) 1 1, .slice B2d K2.length (c2 - p1)] 23) = w6 at *
     obtain ⟨g10, hg_⟩ : ∃ g, g = w5.heap.size := ⟨_, rfl⟩
     rw [← hg_] at HL10 ⊢
     clear hg_
     refine hK.out _ _ (⟨(blk_cell HX.out.1 2).trans rfl, (blk_cell HX.out.1 3).trans rfl⟩) (fun hHeld => ?_)
     clear hK K
     refine norm_ (a' := ?_) ?_ ?_
     rotate_left
     ·show Act.put _ (some 41) _ = _
      simp only [Act.put, List.setIfInBounds_toArray, List.set_cons_zero, List.set_cons_succ, i64_w, i32_w]
      rfl
     refine one_ (i := 12) (N := some 42) #[true,true,true,true,true,true,true,true,true,true,true,true,true,true,true,false,false,false,false,false,false,false] rfl rfl (by kernel_rfl) (by decide) (fun K hK => ?_)
     refine goes_ Try.func80 (by kernel_rfl) rfl #[.slice (some ⟨g10, 0, none⟩) 3 3] (by rfl) rfl rfl (by (try simp only [List.map_toArray, List.map_cons, List.map_nil]); first | done | rfl) ?_
     have hCO := C_one (d := Kd.string) (x := key) rfl rfl HL5.out
     have hCL := C_lit (d := Kd.string) (e := 9) [(B2, c2, K1), (some ⟨g5, 0, none⟩, 1, [key]), (B2d, c2 - p1, K2)] (by simp) HL10.out (all3 ⟨HQ.out.2.2.1, Kd.C_below HQ.out.1 HB.out⟩ ⟨Nat.le_refl _, hCO⟩ ⟨HQ.out.2.2.2, Kd.C_below HQ.out.2.1 HB.out⟩)
     refine (slices_Concat_string_string.calls (some ⟨g10, 0, none⟩) 3 [K1, [key], K2] (K1 ++ ([key] ++ K2)) w6 hCL (Nat.le_refl _) (by unfold slices_Concat_string_string.f; rw [if_pos ⟨by simp, by simpa using HLn.out.1⟩]; simp)).mono ?_
     rintro e_ w7 ⟨v_, rfl, hr_, hb⟩
     refine ⟨_, rfl, ?_⟩
     try clear hHeld
     clear hCL hCO
     rw [← hKK] at hr_
     have HRK := Aside0.mk (R_from hr_ HSZ.out HB4l.out)
     clear hr_
     replace HSZ := kS HSZ hb
     replace HX := kX HX hb
     replace HB := kB HB hb
     replace HL5 := kL HL5 hb
     replace HL10 := kL HL10 hb
     clear hb
     obtain ⟨vk, ck, e9⟩ := Kd.R_slice HRK.out
     subst e9
     refine hK.out _ _ (⟨(blk_cell HX.out.1 2).trans rfl, (blk_cell HX.out.1 3).trans rfl⟩) (fun hHeld => ?_)
     clear hK K
     refine norm_ (a' := ?_) ?_ ?_
     rotate_left
     ·show Act.put _ (some 42) _ = _
      simp only [Act.put, List.setIfInBounds_toArray, List.set_cons_zero, List.set_cons_succ, i64_w, i32_w]
      rfl
     refine one_ (i := 15) (N := some 45) #[true,true,true,true,true,true,true,true,true,true,true,true,true,true,true,true,false,false,false,false,false,false] rfl rfl (by kernel_rfl) (by decide) (fun K hK => ?_)
     refine goes_ Try.func74 (by kernel_rfl) rfl #[.slice B3 kids.length c3] (by rfl) rfl rfl (by (try simp only [List.map_toArray, List.map_cons, List.map_nil]); first | done | rfl) ?_
     refine (slices_Clone_uint32_uint32.calls B3 c3 kids kids w7 (Kd.C_below H3.out HB.out) hc3 (by unfold slices_Clone_uint32_uint32.f; rw [if_pos (Nat.le_trans HLn.out.2 (by decide))])).mono ?_
     rintro e_ w8 ⟨v_, rfl, hr_, hb⟩
     refine ⟨_, rfl, ?_⟩
     try clear hHeld
     have HRD := Aside0.mk (R_from hr_ HSZ.out HB4l.out)
     clear hr_
     replace HSZ := kS HSZ hb
     replace HX := kX HX hb
     replace HB := kB HB hb
     replace HL5 := kL HL5 hb
     replace HL10 := kL HL10 hb
     replace HRK := kR HRK hb
     clear hb
     obtain ⟨vd, cd_, e9⟩ := Kd.R_slice HRD.out
     subst e9
     refine hK.out _ _ (⟨(blk_cell HX.out.1 2).trans rfl, (blk_cell HX.out.1 3).trans rfl⟩) (fun hHeld => ?_)
     clear hK K
     refine norm_ (a' := ?_) ?_ ?_
     rotate_left
     ·show Act.put _ (some 45) _ = _
      simp only [Act.put, List.setIfInBounds_toArray, List.set_cons_zero, List.set_cons_succ, i64_w, i32_w]
      rfl
     clear hKK
     refine pure_ (i := 16) (N := some 46) (v := ?_) (a' := ?_) #[true,true,true,true,true,true,true,true,true,true,true,true,true,true,true,true,true,false,false,false,false,false] rfl rfl (by kernel_rfl) (fun _ _ _ h => h) (Or.inl ⟨by rfl, ?_⟩) ?_ ?_
     rotate_left
     ·intro w'
      go_simp
      with_reducible rfl
     rotate_left
     ·simp only [Act.put, List.setIfInBounds_toArray, List.set_cons_zero, List.set_cons_succ, i64_w, i32_w]
      rfl
     refine one_ (i := 17) (N := some 47) #[true,true,true,true,true,true,true,true,true,true,true,true,true,true,true,true,true,true,false,false,false,false] rfl rfl (by kernel_rfl) (by decide) (fun K hK => ?_)
     refine goes_ Try.func79 (by kernel_rfl) rfl #[.agg #[.bool false, .slice none 0 0, .slice vk KK.length ck, .slice vd kids.length cd_]] (by (try simp only [List.length_append, List.length_cons, List.length_nil]); rfl) rfl rfl (by (try simp only [List.map_toArray, List.map_cons, List.map_nil]); first | done | rfl) ?_
     refine (node_whole.calls _ false (fun k_ => B4 ≤ k_) (.slice none 0 0) [] (fun k_ => B4 ≤ k_) (.slice vk KK.length ck) KK (fun k_ => B4 ≤ k_) (.slice vd kids.length cd_) kids r1 r2 r3 r4 r5 W w8 HB.out (Kd.R_nil _ _ _ _ _) HRK.out HRD.out ((owhole_f [] KK kids HNK.out _ (Nat.le_refl _)).trans (congrArg some HV.out))).mono ?_
     rintro e_ w9 ⟨v1, v2, v3, rfl, g1, g2, g3, hb, hkp⟩
     refine ⟨_, rfl, ?_⟩
     try clear hHeld
     replace HX := Aside0.mk (And.intro (blk_kept HX.out.1 hkp (fun h => by have := HLT.out.1; rcases h with h | h | h <;> exact absurd (Nat.lt_of_lt_of_le this h) (Nat.lt_irrefl _))) (blk_kept HX.out.2 hkp (fun h => by have := HLT.out.2; rcases h with h | h | h <;> exact absurd (Nat.lt_of_lt_of_le this h) (Nat.lt_irrefl _))))
     replace HB := Aside0.mk hb
     obtain ⟨y1, z1, rfl⟩ := Kd.R_slice g1
     obtain ⟨y2, z2, rfl⟩ := Kd.R_slice g2
     obtain ⟨y3, z3, rfl⟩ := Kd.R_slice g3
     have G1 := Aside0.mk (Kd.R_mono g1 (fun _ _ => True.intro))
     have G2 := Aside0.mk (Kd.R_mono g2 (fun _ _ => True.intro))
     have G3 := Aside0.mk (Kd.R_mono g3 (fun _ _ => True.intro))
     clear g1 g2 g3 hb hkp HRK HRD HV HNK
     refine hK.out _ _ (⟨(blk_cell HX.out.1 2).trans rfl, (blk_cell HX.out.1 3).trans rfl⟩) (fun hHeld => ?_)
     clear hK K
     refine norm_ (a' := ?_) ?_ ?_
     rotate_left
     ·show Act.put _ (some 47) _ = _
      simp only [Act.put, List.setIfInBounds_toArray, List.set_cons_zero, List.set_cons_succ, i64_w, i32_w]
      rfl
     refine pure_ (i := 18) (N := some 48) (v := ?_) (a' := ?_) #[true,true,true,true,true,true,true,true,true,true,true,true,true,true,true,true,true,true,true,false,false,false] rfl rfl (by kernel_rfl) (fun _ _ _ h => h) (Or.inl ⟨by rfl, ?_⟩) ?_ ?_
     rotate_left
     ·intro w'
      go_simp
      with_reducible rfl
     rotate_left
     ·simp only [Act.put, List.setIfInBounds_toArray, List.set_cons_zero, List.set_cons_succ, i64_w, i32_w]
      rfl
     refine pure_ (i := 19) (N := some 49) (v := ?_) (a' := ?_) #[true,true,true,true,true,true,true,true,true,true,true,true,true,true,true,true,true,true,true,true,false,false] rfl rfl (by kernel_rfl) (fun _ _ _ h => h) (Or.inl ⟨by rfl, ?_⟩) ?_ ?_
     rotate_left
     ·intro w'
      go_simp
      with_reducible rfl
     rotate_left
     ·simp only [Act.put, List.setIfInBounds_toArray, List.set_cons_zero, List.set_cons_succ, i64_w, i32_w]
      rfl
     refine one_ (i := 20) (N := none) #[true,true,true,true,true,true,true,true,true,true,true,true,true,true,true,true,true,true,true,true,true,false] rfl rfl (by kernel_rfl) (by decide) (fun K hK => ?_)
     have o0 : w9.cell? ⟨go, 0, none⟩ = some (.bool false) := (blk_cell HX.out.2 0).trans rfl
     have o1 : w9.cell? ⟨go, 1, none⟩ = some (.slice none 0 0) := (blk_cell HX.out.2 1).trans rfl
     have o2 : w9.cell? ⟨go, 2, none⟩ = some (.slice none 0 0) := (blk_cell HX.out.2 2).trans rfl
     have o3 : w9.cell? ⟨go, 3, none⟩ = some (.slice none 0 0) := (blk_cell HX.out.2 3).trans rfl
     have f0 := blk_frozen HX.out.2 0
     have f1 := blk_frozen HX.out.2 1
     have f2 := blk_frozen HX.out.2 2
     have f3 := blk_frozen HX.out.2 3
     refine skip_ (w1 := ?_) (by rfl) rfl ?_ ?_
     rotate_left
     ·go_simp
      rfl
     refine hK.out _ _ ⟨(blk_cell (blk_far (p := ⟨go, 3, none⟩) (blk_far (p := ⟨go, 2, none⟩) (blk_far (p := ⟨go, 1, none⟩) (blk_far (p := ⟨go, 0, none⟩) HX.out.1 HNE.out _) HNE.out _) HNE.out _) HNE.out _) 2).trans rfl, (blk_cell (blk_far (p := ⟨go, 3, none⟩) (blk_far (p := ⟨go, 2, none⟩) (blk_far (p := ⟨go, 1, none⟩) (blk_far (p := ⟨go, 0, none⟩) HX.out.1 HNE.out _) HNE.out _) HNE.out _) HNE.out _) 3).trans rfl⟩ (fun hHeld => ?_)
     clear hK K
     refine pure_ (i := 21) (N := some 7) (v := ?_) (a' := ?_) #[true,true,true,true,true,true,true,true,true,true,true,true,true,true,true,true,true,true,true,true,true,true] rfl rfl (by kernel_rfl) (fun _ _ _ h => h) (Or.inl ⟨by rfl, ?_⟩) ?_ ?_
     rotate_left
     ·intro w'
      go_simp
      with_reducible rfl
     rotate_left
     ·simp only [Act.put, List.setIfInBounds_toArray, List.set_cons_zero, List.set_cons_succ, i64_w, i32_w]
      rfl
     refine done_ (by kernel_rfl) ?_
     try clear hHeld
     try go_wp2
     (try simp only [Exit.inBlock, Exit.then]); refine bodyPost_ret (results_ct rfl _ _ go 26 _ (0, 0) _ rfl (ret_all HX.out.2 _ _ _ _) Try.underlying26 rfl (by kernel_rfl)) rfl ?_
     exact ⟨_, _, _, rfl, R_ret G1.out HX.out.2 (by decide) _ _ _ _, R_ret G2.out HX.out.2 (by decide) _ _ _ _, R_ret G3.out HX.out.2 (by decide) _ _ _ _, below_set (below_set (below_set (below_set HB.out HG2.out) HG2.out) HG2.out) HG2.out⟩
 ·have d1 : (C != 0) = true := by simpa using hC0
  rw [if_neg hC0] at hv
  have hp := hv.symm
  have HC := Aside0.mk hC0
  clear hv hC0 hC
  injection hp with e1 hp
  injection hp with e2 hp
  injection hp with e3 hp
  injection hp with e4 e5
  subst e1 e2 e3 e4 e5
  go_wp2_with fail
  (try simp only [Exit.inBlock, Exit.then]); refine bodyPost_ret (results_ct rfl _ _ go 26 _ (0, 0) _ rfl (ret_all HX.out.2 _ _ _ _) Try.underlying26 rfl (by kernel_rfl)) rfl ?_
  exact ⟨_, _, _, rfl, Kd.R_nil _ _ _ _ _, Kd.R_nil _ _ _ _ _, Kd.R_nil _ _ _ _ _, below_set (below_set (below_set (below_set HB.out HG2.out) HG2.out) HG2.out) HG2.out⟩
end Go.Proofs.Ytdjjpgdhnoibkaa.My
namespace Go.Proofs.Ytdjjpgdhnoibkaa.My
open Go.RowKit Go.Proofs.YtdjjpgdhnoibkaaW.PrintWords Go.Proofs.YtdjjpgdhnoibkaaW.PrintLast Go.Proofs.YtdjjpgdhnoibkaaW.PrintMore Go.Proofs.Ytdjjpgdhnoibkaa Go.Proofs.Ytdjjpgdhnoibkaa.PZ Go.Proofs.Ytdjjpgdhnoibkaa.PB
set_option linter.unusedSimpArgs false
set_option linter.unusedVariables false
section
variable {α : Type}
def tDel (l : List α) (p i : Nat) : List α := if i ≤ p then l.take i else l.take p ++ (l.take i).drop (p + 1)
def tIns (l : List α) (p : Nat) (x : α) (i : Nat) : List α := if i ≤ p then l.take i else l.take p ++ ([x] ++ (l.take i).drop p)
def tAft (l : List α) (p : Nat) (x : α) (i : Nat) : List α := if i ≤ p then l.take i else l.take (p + 1) ++ ([x] ++ (l.take i).drop (p + 1))
def tTrn (l : List α) (p : Nat) (x : α) (i : Nat) : List α := if i ≤ p then l.take i else l.take p ++ ([x] ++ (l.take i).drop (p + 1))
theorem take_drop_snoc (l : List α) (q i : Nat) (hi : i < l.length) (hq : q ≤ i) : (l.take (i + 1)).drop q = (l.take i).drop q ++ [l[i]] := by
  rw [List.take_succ_eq_append_getElem hi, List.drop_append_of_le_length (by rw [List.length_take]; omega)]
theorem tDel_ne (l : List α) (p i : Nat) (hi : i < l.length) (h : i ≠ p) : tDel l p (i + 1) = tDel l p i ++ [l[i]] := by
  unfold tDel
  by_cases h1 : i < p
  · rw [if_pos (by omega), if_pos (by omega), List.take_succ_eq_append_getElem hi]
  · rw [if_neg (by omega), if_neg (by omega), take_drop_snoc l (p + 1) i hi (by omega), List.append_assoc]
theorem tDel_eq (l : List α) (p : Nat) : tDel l p (p + 1) = tDel l p p := by
  unfold tDel
  rw [if_neg (by omega), if_pos (Nat.le_refl _), List.drop_eq_nil_of_le (by rw [List.length_take]; omega), List.append_nil]
theorem tDel_end (l : List α) (p i : Nat) (h : p < i) (hi : l.length ≤ i) : tDel l p i = l.take p ++ l.drop (p + 1) := by
  unfold tDel
  rw [if_neg (by omega), List.take_of_length_le hi]
theorem tDel_len (l : List α) (p i : Nat) : (tDel l p i).length ≤ l.length + l.length := by
  unfold tDel
  split
  · rw [List.length_take]; omega
  · rw [List.length_append, List.length_take, List.length_drop, List.length_take]; omega
theorem tIns_ne (l : List α) (p : Nat) (x : α) (i : Nat) (hi : i < l.length) (h : i ≠ p) : tIns l p x (i + 1) = tIns l p x i ++ [l[i]] := by
  unfold tIns
  by_cases h1 : i < p
  · rw [if_pos (by omega), if_pos (by omega), List.take_succ_eq_append_getElem hi]
  · rw [if_neg (by omega), if_neg (by omega), take_drop_snoc l p i hi (by omega), List.append_assoc, List.append_assoc]
theorem tIns_eq (l : List α) (p : Nat) (x : α) (hp : p < l.length) : tIns l p x (p + 1) = tIns l p x p ++ [x] ++ [l[p]] := by
  unfold tIns
  rw [if_neg (by omega), if_pos (Nat.le_refl _), take_drop_snoc l p p hp (Nat.le_refl _), List.drop_eq_nil_of_le (by rw [List.length_take]; omega), List.nil_append, List.append_assoc]
theorem tIns_past (l : List α) (p : Nat) (x : α) (i : Nat) (hi : l.length ≤ i) (h : p < i) : tIns l p x (i + 1) = tIns l p x i := by
  unfold tIns
  rw [if_neg (by omega), if_neg (by omega), List.take_of_length_le hi, List.take_of_length_le (show l.length ≤ i + 1 by omega)]
theorem tIns_last (l : List α) (p : Nat) (x : α) (hp : l.length = p) : tIns l p x (p + 1) = tIns l p x p ++ [x] := by
  unfold tIns
  rw [if_neg (by omega), if_pos (Nat.le_refl _), List.drop_eq_nil_of_le (by rw [List.length_take]; omega), List.append_nil]
theorem tIns_end (l : List α) (p : Nat) (x : α) (i : Nat) (h : p < i) (hi : l.length ≤ i) : tIns l p x i = l.take p ++ ([x] ++ l.drop p) := by
  unfold tIns
  rw [if_neg (by omega), List.take_of_length_le hi]
theorem tIns_len (l : List α) (p : Nat) (x : α) (i : Nat) : (tIns l p x i).length ≤ l.length + l.length + 1 := by
  unfold tIns
  split
  · rw [List.length_take]; omega
  · rw [List.length_append, List.length_append, List.length_take, List.length_drop, List.length_take, List.length_singleton]; omega
theorem tAft_ne (l : List α) (p : Nat) (x : α) (i : Nat) (hi : i < l.length) (h : i ≠ p) : tAft l p x (i + 1) = tAft l p x i ++ [l[i]] := by
  unfold tAft
  by_cases h1 : i < p
  · rw [if_pos (by omega), if_pos (by omega), List.take_succ_eq_append_getElem hi]
  · rw [if_neg (by omega), if_neg (by omega), take_drop_snoc l (p + 1) i hi (by omega), List.append_assoc, List.append_assoc]
theorem tAft_eq (l : List α) (p : Nat) (x : α) (hp : p < l.length) : tAft l p x (p + 1) = tAft l p x p ++ [l[p]] ++ [x] := by
  unfold tAft
  rw [if_neg (by omega), if_pos (Nat.le_refl _), List.drop_eq_nil_of_le (by rw [List.length_take]; omega), List.append_nil, List.take_succ_eq_append_getElem hp]
theorem tAft_end (l : List α) (p : Nat) (x : α) (i : Nat) (h : p < i) (hi : l.length ≤ i) : tAft l p x i = l.take (p + 1) ++ ([x] ++ l.drop (p + 1)) := by
  unfold tAft
  rw [if_neg (by omega), List.take_of_length_le hi]
theorem tAft_len (l : List α) (p : Nat) (x : α) (i : Nat) : (tAft l p x i).length ≤ l.length + l.length + 1 := by
  unfold tAft
  split
  · rw [List.length_take]; omega
  · rw [List.length_append, List.length_append, List.length_take, List.length_drop, List.length_take, List.length_singleton]; omega
theorem tTrn_ne (l : List α) (p : Nat) (x : α) (i : Nat) (hi : i < l.length) (h : i ≠ p) : tTrn l p x (i + 1) = tTrn l p x i ++ [l[i]] := by
  unfold tTrn
  by_cases h1 : i < p
  · rw [if_pos (by omega), if_pos (by omega), List.take_succ_eq_append_getElem hi]
  · rw [if_neg (by omega), if_neg (by omega), take_drop_snoc l (p + 1) i hi (by omega), List.append_assoc, List.append_assoc]
theorem tTrn_eq (l : List α) (p : Nat) (x : α) : tTrn l p x (p + 1) = tTrn l p x p ++ [x] := by
  unfold tTrn
  rw [if_neg (by omega), if_pos (Nat.le_refl _), List.drop_eq_nil_of_le (by rw [List.length_take]; omega), List.append_nil]
theorem tTrn_end (l : List α) (p : Nat) (x : α) (i : Nat) (h : p < i) (hi : l.length ≤ i) : tTrn l p x i = l.take p ++ ([x] ++ l.drop (p + 1)) := by
  unfold tTrn
  rw [if_neg (by omega), List.take_of_length_le hi]
theorem tTrn_len (l : List α) (p : Nat) (x : α) (i : Nat) : (tTrn l p x i).length ≤ l.length + l.length + 1 := by
  unfold tTrn
  split
  · rw [List.length_take]; omega
  · rw [List.length_append, List.length_append, List.length_take, List.length_drop, List.length_take, List.length_singleton]; omega
end
theorem rbranch_f (b : Bool) (cs : List Ce) (ks : List ByteArray) (kids : List Int) (hn : NdOk cs ks kids) (k : Nat) (hk : 2 * (cs.length + ks.length) + kids.length + 60 ≤ k) : concordref08_branch.f k b cs ks kids = some (brV b cs ks kids) := by
  unfold concordref08_branch.f brV
  rw [rchk_f b cs ks kids hn k hk, Option.bind_some]
  by_cases h : chkV b cs ks kids = 0
  · rw [if_pos h]
    cases b with
    | true => rw [if_pos rfl, if_pos ⟨h, rfl⟩]
    | false => rw [if_neg (by decide), if_neg (by rintro ⟨_, h⟩; cases h)]
  · rw [if_neg h, if_neg (fun h1 => h h1.1)]
/-- A branch whose parts may be. -/
def BrOk (ks : List ByteArray) (kids : List Int) : Prop := ks.length ≤ 10000 ∧ kids.length = ks.length + 1 ∧ ks.all okK = true ∧ ∀ x ∈ kids, x ≠ 0
theorem brOk_of {cs : List Ce} {ks : List ByteArray} {kids : List Int} (h : chkV false cs ks kids = 0) : BrOk ks kids ∧ ks.length ≤ 2000 := by
  have f1 := (chk_facts h).1
  have f3 := (chk_facts h).2.2.1
  have f5 := (chk_facts h).2.2.2.2
  have f6 := ks_len ks
  unfold shpV at f1
  unfold lngV at f5
  rw [if_neg (by decide)] at f1 f5
  rw [Bool.and_eq_true, Bool.and_eq_true, decide_eq_true_eq] at f1
  refine ⟨⟨by omega, f1.2.2, f3, fun x hx h0 => ?_⟩, by omega⟩
  have g := f1.1
  rw [Bool.not_eq_true', List.any_eq_false] at g
  exact g x hx (decide_eq_true h0)
theorem brOk_chk {ks : List ByteArray} {kids : List Int} (h : BrOk ks kids) : chkV false [] ks kids = if rsB ⟨#[]⟩ ks = false then 81 else if 1992 < lngV false [] ks then 82 else 0 := by
  have h1 : shpV false [] ks kids = true := by
    unfold shpV
    rw [if_neg (by decide), Bool.and_eq_true, Bool.and_eq_true]
    refine ⟨?_, rfl, decide_eq_true h.2.1⟩
    rw [Bool.not_eq_true', List.any_eq_false]
    intro x hx hd
    exact h.2.2.2 x hx (of_decide_eq_true hd)
  unfold chkV
  rw [h1, h.2.2.1, if_neg (by decide), if_neg (by decide)]
  rfl
theorem okK_one {x : ByteArray} (h : okK x = true) : 1 ≤ x.size := by
  unfold okK at h
  rw [Bool.and_eq_true, decide_eq_true_eq] at h
  exact h.1
theorem brOk_nd {ks : List ByteArray} {kids : List Int} (h : BrOk ks kids) : NdOk [] ks kids := by
  refine ⟨⟨by simp, ?_, ?_⟩, by simp, fun x hx => key_size (List.all_eq_true.1 h.2.2.1 x hx)⟩
  · have := h.1; omega
  · have := h.1; have := h.2.1; omega
theorem rwhole_f {ks : List ByteArray} {kids : List Int} (h : BrOk ks kids) (k : Nat) (hk : 2 * ks.length + 60 ≤ k) : concordref08_whole.f k false [] ks kids = some (wholeV [] ks kids) := by
  unfold concordref08_whole.f wholeV
  have hl := h.1
  rw [brOk_chk h, rise_f ks (by omega) (fun x hx => okK_one (List.all_eq_true.1 h.2.2.1 x hx)) k (by omega), Option.bind_some]
  cases hr : rsB ⟨#[]⟩ ks with
  | false => rw [if_neg (show ¬ (false = true) by decide), if_pos (show false = false from rfl), if_neg (show ¬ ((81 : Int) = 0) by decide)]
  | true =>
    rw [if_pos (show true = true from rfl), if_neg (show ¬ (true = false) by decide), long_f false [] ks kids (brOk_nd h) rfl h.2.2.1 k (by simp; omega), Option.bind_some]
    by_cases hL : 1992 < lngV false [] ks
    · rw [if_pos (show ((lngV false [] ks : Nat) : Int) > 1992 by omega), if_pos hL, if_neg (show ¬ ((82 : Int) = 0) by decide)]
    · rw [if_neg (show ¬ ((lngV false [] ks : Nat) : Int) > 1992 by omega), if_neg hL, if_pos (show (0 : Int) = 0 from rfl)]
theorem all_ins {ks : List ByteArray} {p q : Nat} {key : ByteArray} (h : ks.all okK = true) (hk : okK key = true) : (ks.take p ++ ([key] ++ ks.drop q)).all okK = true := by
  rw [List.all_eq_true] at h ⊢
  intro x hx
  rcases List.mem_append.1 hx with hx | hx
  · exact h x (List.mem_of_mem_take hx)
  · rcases List.mem_append.1 hx with hx | hx
    · obtain rfl := List.mem_singleton.1 hx
      exact hk
    · exact h x (List.mem_of_mem_drop hx)
theorem rgrow_l0 (b : Bool) (cs : List Ce) (ks : List ByteArray) (kids : List Int) (p : Nat) (key : ByteArray) (kid : Int) (hB : BrOk ks kids) (hl : ks.length ≤ 2000) (hp : p < kids.length) (hkey : okK key = true) (hkid : kid ≠ 0) : ∀ (n i k : Nat), i + n = kids.length → n + 2 * ks.length + 80 ≤ k →
    concordref08_Grow.l0 k (p : Int) key kid (i : Int) b cs ks kids false (tIns ks p key i) (tAft kids p kid i) = some (wholeV [] (ks.take p ++ ([key] ++ ks.drop p)) (kids.take (p + 1) ++ ([kid] ++ kids.drop (p + 1))))
  | 0, i, k, hi, hk => by
    obtain ⟨k, rfl⟩ : ∃ j, k = j + 1 := ⟨k - 1, by omega⟩
    have h2 := hB.2.1
    rw [concordref08_Grow.l0, if_neg (by omega), tIns_end ks p key i (by omega) (by omega), tAft_end kids p kid i (by omega) (by omega)]
    have hB' : BrOk (ks.take p ++ ([key] ++ ks.drop p)) (kids.take (p + 1) ++ ([kid] ++ kids.drop (p + 1))) := by
      refine ⟨?_, ?_, all_ins hB.2.2.1 hkey, fun x hx => ?_⟩
      · rw [List.length_append, List.length_append, List.length_take, List.length_drop, List.length_singleton]; omega
      · rw [List.length_append, List.length_append, List.length_take, List.length_drop, List.length_singleton, List.length_append, List.length_append, List.length_take, List.length_drop, List.length_singleton]; omega
      · rcases List.mem_append.1 hx with hx | hx
        · exact hB.2.2.2 x (List.mem_of_mem_take hx)
        · rcases List.mem_append.1 hx with hx | hx
          · obtain rfl := List.mem_singleton.1 hx
            exact hkid
          · exact hB.2.2.2 x (List.mem_of_mem_drop hx)
    rw [rwhole_f hB' k (by rw [List.length_append, List.length_append, List.length_take, List.length_drop, List.length_singleton]; omega), Option.bind_some]
  | n + 1, i, k, hi, hk => by
    obtain ⟨k, rfl⟩ : ∃ j, k = j + 1 := ⟨k - 1, by omega⟩
    have h2 := hB.2.1
    have hil : i < kids.length := by omega
    have ih := rgrow_l0 b cs ks kids p key kid hB hl hp hkey hkid n (i + 1) k (by omega) (by omega)
    have l1 := tIns_len ks p key i
    have l2 := tAft_len kids p kid i
    rw [concordref08_Grow.l0, if_pos (by omega), if_pos (by omega), if_pos (by omega), rdI_at kids i hil, w64S i (by omega), Option.bind_some]
    by_cases hip : i = p
    · subst hip
      rw [if_pos rfl, if_pos (by rw [List.length_append, List.length_singleton]; omega), Option.bind_some, if_pos (by omega), Option.bind_some]
      rw [tAft_eq kids i kid hil] at ih
      by_cases hin : i < ks.length
      · rw [if_pos (by omega), if_pos (by rw [List.length_append, List.length_singleton]; omega), rdS_at ks i hin]
        rw [tIns_eq ks i key hin] at ih
        exact ih
      · rw [if_neg (by omega)]
        rw [tIns_last ks i key (by omega)] at ih
        exact ih
    · rw [if_neg (by omega)]
      rw [tAft_ne kids p kid i hil hip] at ih
      by_cases hin : i < ks.length
      · rw [if_pos (by omega), if_pos (by omega), rdS_at ks i hin]
        rw [tIns_ne ks p key i hin hip] at ih
        exact ih
      · rw [if_neg (by omega)]
        rw [tIns_past ks p key i (by omega) (by omega)] at ih
        exact ih
theorem rgrow_f (b : Bool) (cs : List Ce) (ks : List ByteArray) (kids : List Int) (i : Int) (key : ByteArray) (kid : Int) (hn : NdOk cs ks kids) (k : Nat) (hk : 4 * (cs.length + ks.length) + 2 * kids.length + 200 ≤ k) : concordref08_Grow.f k b cs ks kids i key kid = some (growV b cs ks kids i key kid) := by
  unfold concordref08_Grow.f growV
  rw [rbranch_f b cs ks kids hn k (by omega), Option.bind_some]
  obtain ⟨k, rfl⟩ : ∃ j, k = j + 1 := ⟨k - 1, by omega⟩
  by_cases hb : brV b cs ks kids = 0
  · rw [if_pos hb, if_pos hb]
    obtain ⟨rfl, hc⟩ := brV_zero hb
    obtain ⟨hB, hl⟩ := brOk_of hc
    by_cases h0 : i < 0
    · rw [if_pos h0, if_pos (Or.inl h0), concordref08_Grow.j0, if_pos rfl]
    · rw [if_neg h0]
      by_cases h1 : (kids.length : Int) ≤ i
      · rw [if_pos (by omega), if_pos (Or.inr (Or.inl h1)), concordref08_Grow.j0, if_pos rfl]
      · rw [if_neg (by omega), keyMay_f, Option.bind_some]
        cases hkey : okK key with
        | false => rw [if_neg (by decide), if_pos (Or.inr (Or.inr (Or.inl rfl))), concordref08_Grow.j0, if_pos rfl]
        | true =>
          rw [if_pos rfl]
          by_cases hd : kid = 0
          · rw [if_pos (Or.inr (Or.inr (Or.inr hd))), concordref08_Grow.j0, if_pos (by simpa using hd)]
          · rw [if_neg (by rintro (h | h | h | h); exact h0 h; exact h1 h; cases h; exact hd h), concordref08_Grow.j0, if_neg (by simpa using hd)]
            obtain ⟨p, rfl⟩ : ∃ p : Nat, i = (p : Int) := ⟨i.toNat, by omega⟩
            rw [Int.toNat_natCast]
            have e := rgrow_l0 false cs ks kids p key kid hB hl (by omega) hkey hd kids.length 0 k (by omega) (by omega)
            have e1 : tIns ks p key 0 = [] := by unfold tIns; rw [if_pos (Nat.zero_le _)]; rfl
            have e2 : tAft kids p kid 0 = [] := by unfold tAft; rw [if_pos (Nat.zero_le _)]; rfl
            rw [e1, e2] at e
            exact e
  · rw [if_neg hb, if_neg hb]
theorem rshrink_l0 (b : Bool) (cs : List Ce) (ks : List ByteArray) (kids : List Int) (p : Nat) (hB : BrOk ks kids) (hl : ks.length ≤ 2000) (hp : p < ks.length) : ∀ (n i k : Nat), i + n = ks.length → n + 1 ≤ k →
    concordref08_Shrink.l0 k (p : Int) (i : Int) b cs ks kids false (tDel ks p i) (tDel kids (p + 1) (i + 1)) = some (false, [], ks.take p ++ ks.drop (p + 1), kids.take (p + 1) ++ kids.drop (p + 2), 0)
  | 0, i, k, hi, hk => by
    obtain ⟨k, rfl⟩ : ∃ j, k = j + 1 := ⟨k - 1, by omega⟩
    have h2 := hB.2.1
    rw [concordref08_Shrink.l0, if_neg (by omega), tDel_end ks p i (by omega) (by omega), tDel_end kids (p + 1) (i + 1) (by omega) (by omega)]
  | n + 1, i, k, hi, hk => by
    obtain ⟨k, rfl⟩ : ∃ j, k = j + 1 := ⟨k - 1, by omega⟩
    have h2 := hB.2.1
    have hil : i < ks.length := by omega
    have hik : i + 1 < kids.length := by omega
    have ih := rshrink_l0 b cs ks kids p hB hl hp n (i + 1) k (by omega) (by omega)
    have l1 := tDel_len ks p i
    have l2 := tDel_len kids (p + 1) (i + 1)
    rw [concordref08_Shrink.l0, if_pos (by omega), w64S i (by omega)]
    by_cases hip : i = p
    · subst hip
      rw [if_pos rfl]
      rw [tDel_eq, tDel_eq] at ih
      exact ih
    · rw [if_neg (by omega), if_pos (by omega), if_pos (by omega), if_pos (by omega), if_pos (by omega), if_pos (by omega), rdS_at ks i hil, rdI_at kids (i + 1) hik]
      rw [tDel_ne ks p i hil hip, tDel_ne kids (p + 1) (i + 1) hik (by omega)] at ih
      exact ih
theorem rshrink_f (b : Bool) (cs : List Ce) (ks : List ByteArray) (kids : List Int) (i : Int) (hn : NdOk cs ks kids) (k : Nat) (hk : 4 * (cs.length + ks.length) + 2 * kids.length + 200 ≤ k) : concordref08_Shrink.f k b cs ks kids i = some (shrinkV b cs ks kids i) := by
  unfold concordref08_Shrink.f shrinkV
  rw [rbranch_f b cs ks kids hn k (by omega), Option.bind_some]
  obtain ⟨k, rfl⟩ : ∃ j, k = j + 1 := ⟨k - 1, by omega⟩
  by_cases hb : brV b cs ks kids = 0
  · rw [if_pos hb, if_pos hb]
    obtain ⟨rfl, hc⟩ := brV_zero hb
    obtain ⟨hB, hl⟩ := brOk_of hc
    have h2 := hB.2.1
    by_cases h0 : i < 0
    · rw [if_pos h0, if_pos (Or.inl h0), concordref08_Shrink.j0, if_pos rfl]
    · rw [if_neg h0]
      by_cases h1 : (ks.length : Int) ≤ i
      · rw [if_pos (Or.inr h1), concordref08_Shrink.j0, if_pos (by simpa using h1)]
      · rw [if_neg (by rintro (h | h); exact h0 h; exact h1 h), concordref08_Shrink.j0, if_neg (by simpa using h1), if_pos (by omega)]
        obtain ⟨p, rfl⟩ : ∃ p : Nat, i = (p : Int) := ⟨i.toNat, by omega⟩
        rw [Int.toNat_natCast]
        have e := rshrink_l0 false cs ks kids p hB hl (by omega) ks.length 0 k (by omega) (by omega)
        have e1 : tDel ks p 0 = [] := by unfold tDel; rw [if_pos (Nat.zero_le _)]; rfl
        have e2 : tDel kids (p + 1) (0 + 1) = [rd kids 0] := by
          unfold tDel
          rw [if_pos (by omega), List.take_succ_eq_append_getElem (by omega), List.take_zero, List.nil_append]
          exact congrArg (fun z => [z]) (rdI_at kids 0 (by omega)).symm
        rw [e1, e2] at e
        exact e
  · rw [if_neg hb, if_neg hb]
theorem rturn_l0 (b : Bool) (cs : List Ce) (ks : List ByteArray) (kids : List Int) (p : Nat) (key : ByteArray) (hB : BrOk ks kids) (hl : ks.length ≤ 2000) (hp : p < ks.length) (hkey : okK key = true) : ∀ (n i k : Nat), i + n = ks.length → n + 2 * ks.length + 80 ≤ k →
    concordref08_Turn.l0 k (p : Int) key (i : Int) b cs ks kids false (tTrn ks p key i) kids = some (wholeV [] (ks.take p ++ ([key] ++ ks.drop (p + 1))) kids)
  | 0, i, k, hi, hk => by
    obtain ⟨k, rfl⟩ : ∃ j, k = j + 1 := ⟨k - 1, by omega⟩
    have h2 := hB.2.1
    rw [concordref08_Turn.l0, if_neg (by omega), tTrn_end ks p key i (by omega) (by omega)]
    have hB' : BrOk (ks.take p ++ ([key] ++ ks.drop (p + 1))) kids := by
      refine ⟨?_, ?_, all_ins hB.2.2.1 hkey, hB.2.2.2⟩
      · rw [List.length_append, List.length_append, List.length_take, List.length_drop, List.length_singleton]; omega
      · rw [List.length_append, List.length_append, List.length_take, List.length_drop, List.length_singleton]; omega
    rw [rwhole_f hB' k (by rw [List.length_append, List.length_append, List.length_take, List.length_drop, List.length_singleton]; omega), Option.bind_some]
  | n + 1, i, k, hi, hk => by
    obtain ⟨k, rfl⟩ : ∃ j, k = j + 1 := ⟨k - 1, by omega⟩
    have h2 := hB.2.1
    have hil : i < ks.length := by omega
    have ih := rturn_l0 b cs ks kids p key hB hl hp hkey n (i + 1) k (by omega) (by omega)
    have l1 := tTrn_len ks p key i
    rw [concordref08_Turn.l0, if_pos (by omega), w64S i (by omega)]
    by_cases hip : i = p
    · subst hip
      rw [if_pos rfl, if_pos (by omega)]
      rw [tTrn_eq] at ih
      exact ih
    · rw [if_neg (by omega), if_pos (by omega), if_pos (by omega), rdS_at ks i hil]
      rw [tTrn_ne ks p key i hil hip] at ih
      exact ih
theorem rturn_f (b : Bool) (cs : List Ce) (ks : List ByteArray) (kids : List Int) (i : Int) (key : ByteArray) (hn : NdOk cs ks kids) (k : Nat) (hk : 4 * (cs.length + ks.length) + 2 * kids.length + 200 ≤ k) : concordref08_Turn.f k b cs ks kids i key = some (turnV b cs ks kids i key) := by
  unfold concordref08_Turn.f turnV
  rw [rbranch_f b cs ks kids hn k (by omega), Option.bind_some]
  obtain ⟨k, rfl⟩ : ∃ j, k = j + 1 := ⟨k - 1, by omega⟩
  by_cases hb : brV b cs ks kids = 0
  · rw [if_pos hb, if_pos hb]
    obtain ⟨rfl, hc⟩ := brV_zero hb
    obtain ⟨hB, hl⟩ := brOk_of hc
    have h2 := hB.2.1
    by_cases h0 : i < 0
    · rw [if_pos h0, if_pos (Or.inl h0), concordref08_Turn.j0, if_pos rfl]
    · rw [if_neg h0]
      by_cases h1 : (ks.length : Int) ≤ i
      · rw [if_pos (by omega), if_pos (Or.inr (Or.inl h1)), concordref08_Turn.j0, if_pos rfl]
      · rw [if_neg (by omega), keyMay_f, Option.bind_some]
        cases hkey : okK key with
        | false => rw [if_pos (Or.inr (Or.inr rfl)), concordref08_Turn.j0, if_pos (show (!false) = true from rfl)]
        | true =>
          rw [if_neg (by rintro (h | h | h); exact h0 h; exact h1 h; cases h), concordref08_Turn.j0, if_neg (show ¬ ((!true) = true) by decide), Option.bind_some, if_pos (by rw [List.length_nil]; omega), List.nil_append]
          obtain ⟨p, rfl⟩ : ∃ p : Nat, i = (p : Int) := ⟨i.toNat, by omega⟩
          rw [Int.toNat_natCast]
          have e := rturn_l0 false cs ks kids p key hB hl (by omega) hkey ks.length 0 k (by omega) (by omega)
          have e1 : tTrn ks p key 0 = [] := by unfold tTrn; rw [if_pos (Nat.zero_le _)]; rfl
          rw [e1] at e
          exact e
  · rw [if_neg hb, if_neg hb]
end Go.Proofs.Ytdjjpgdhnoibkaa.My
