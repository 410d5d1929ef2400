-- written by wip/mp.py of this claim's author, over the print of this machine
import Derived.Test.YtdjjpgdhnoibkaaSq
import Derived.Test.YtdjjpgdhnoibkaaPZx0
import Derived.Test.YtdjjpgdhnoibkaaPZx1
import Derived.Test.YtdjjpgdhnoibkaaPZx2
import Derived.Test.YtdjjpgdhnoibkaaPZx3
import Derived.Test.YtdjjpgdhnoibkaaPZx5
import Derived.Test.YtdjjpgdhnoibkaaNdEnc
import Derived.Test.YtdjjpgdhnoibkaaNdPut
import Derived.Test.YtdjjpgdhnoibkaaNdKid
import Derived.Test.YtdjjpgdhnoibkaaNdCat
import Derived.Test.YtdjjpgdhnoibkaaNdGrC
import Derived.Test.YtdjjpgdhnoibkaaPDy2
import Derived.Test.YtdjjpgdhnoibkaaPDy3
import Derived.Test.YtdjjpgdhnoibkaaPDy4
namespace Go.Proofs.Ytdjjpgdhnoibkaa.PK
open Go.Proofs.Ytdjjpgdhnoibkaa.PZ Go.Proofs.Ytdjjpgdhnoibkaa.PD
open Go.Proofs.Ytdjjpgdhnoibkaa.My
attribute [local go_sem high] conv_rune str_leq str_gtr
open Go.RowKit Go.Proofs.YtdjjpgdhnoibkaaW.PrintWords Go.Proofs.YtdjjpgdhnoibkaaW.PrintLast Go.Proofs.YtdjjpgdhnoibkaaW.PrintMore
attribute [local go_sem] max2_int min2_int max_two min_two max_three min_three max_four min_four   -- for this text's walks alone
set_option linter.unusedVariables false
set_option linter.unusedSimpArgs false
attribute [local go_sem high] eqA66
/-! ### concordlaw08_NodeKids: function 13 -/
mutual
def concordlaw08_NodeKids.j0 : Nat → ByteArray → Int → Bool → Bool → List (S66) → List ByteArray → List Int → Option (Bool)
 | 0, _, _, _, _, _, _, _ => none
 | k + 1, x1, x2, x21, x323000, x323001, x323002, x323003 => if x21 = true then ((concordlaw08_twin.f x323000 x323001 x323002 x323003).bind fun bt325 => ((node_Kid.f bt325.1 bt325.2.1 bt325.2.2.1 bt325.2.2.2 x1).bind fun t335 => (some (t335 == (-1))))) else ((concordlaw08_twin.f x323000 x323001 x323002 x323003).bind fun bt336 => ((node_Kid.f bt336.1 bt336.2.1 bt336.2.2.1 bt336.2.2.2 x1).bind fun t346 => (if t346 < 0 then (concordlaw08_NodeKids.j1 k x1 x2 t346 true x323000 x323001 x323002 x323003) else (concordlaw08_NodeKids.j1 k x1 x2 t346 (decide (t346 > (x323002.length : Int))) x323000 x323001 x323002 x323003))))
def concordlaw08_NodeKids.j1 : Nat → ByteArray → Int → Int → Bool → Bool → List (S66) → List ByteArray → List Int → Option (Bool)
 | 0, _, _, _, _, _, _, _, _ => none
 | k + 1, x1, x2, x7, x39, x323000, x323001, x323002, x323003 => if x39 = true then (some false) else (concordlaw08_NodeKids.l0 k x1 x2 x7 0 x323000 x323001 x323002 x323003)
def concordlaw08_NodeKids.l0 : Nat → ByteArray → Int → Int → Int → Bool → List (S66) → List ByteArray → List Int → Option (Bool)
 | 0, _, _, _, _, _, _, _, _ => none
 | k + 1, x1, x2, x7, x8, x323000, x323001, x323002, x323003 => if x8 < (x323002.length : Int) then (if 0 ≤ x8 then (if ((!(Op.bytesLess x1.toList ((rdOf ByteArray.empty x323002 x8).toList))) != (decide (x8 < x7))) = true then (some false) else (concordlaw08_NodeKids.l0 k x1 x2 x7 (wrap64 (x8 + 1)) x323000 x323001 x323002 x323003)) else (none)) else ((concordlaw08_twin.f x323000 x323001 x323002 x323003).bind fun bt348 => ((node_Grow.f bt348.1 bt348.2.1 bt348.2.2.1 bt348.2.2.2 x7 x1 x2).bind fun bt358 => (if bt358.2.2.2.2 = 0 then ((node_Kid.f bt358.1 bt358.2.1 bt358.2.2.1 bt358.2.2.2.1 x1).bind fun t370 => (if t370 = (wrap64 (x7 + 1)) then (if (bt358.2.2.2.1.length : Int) = (wrap64 ((x323003.length : Int) + 1)) then (if 0 ≤ (wrap64 (x7 + 1)) then (if (wrap64 (x7 + 1)) < (bt358.2.2.2.1.length : Int) then (if (rd bt358.2.2.2.1 (wrap64 (x7 + 1))) = x2 then (if 0 ≤ x7 then (if x7 < (bt358.2.2.1.length : Int) then (concordlaw08_NodeKids.j3 k x7 ((rdOf ByteArray.empty bt358.2.2.1 x7).toList != x1.toList) x323000 x323001 x323002 x323003 bt358.1 bt358.2.1 bt358.2.2.1 bt358.2.2.2.1) else (none)) else (none)) else (concordlaw08_NodeKids.j3 k x7 true x323000 x323001 x323002 x323003 bt358.1 bt358.2.1 bt358.2.2.1 bt358.2.2.2.1)) else (none)) else (none)) else (concordlaw08_NodeKids.j3 k x7 true x323000 x323001 x323002 x323003 bt358.1 bt358.2.1 bt358.2.2.1 bt358.2.2.2.1)) else (concordlaw08_NodeKids.j3 k x7 true x323000 x323001 x323002 x323003 bt358.1 bt358.2.1 bt358.2.2.1 bt358.2.2.2.1))) else (if bt358.2.2.2.2 = 1 then (some true) else (if bt358.2.2.2.2 = 81 then (some true) else (some (bt358.2.2.2.2 == 82)))))))
def concordlaw08_NodeKids.j3 : Nat → Int → Bool → Bool → List (S66) → List ByteArray → List Int → Bool → List (S66) → List ByteArray → List Int → Option (Bool)
 | 0, _, _, _, _, _, _, _, _, _, _ => none
 | k + 1, x7, x113, x323000, x323001, x323002, x323003, x370000, x370001, x370002, x370003 => if x113 = true then (some false) else ((node_Shrink.f x370000 x370001 x370002 x370003 x7).bind fun bt373 => (if bt373.2.2.2.2 = 0 then ((concordref08_Same.f k bt373.1 bt373.2.1 bt373.2.2.1 bt373.2.2.2.1 x323000 x323001 x323002 x323003).bind fun t385 => (some t385)) else (some false)))
end
def concordlaw08_NodeKids.f (k : Nat) (a0_0 : Bool) (l0_1 : List (S66)) (l0_2 : List ByteArray) (l0_3 : List Int) (a1 : ByteArray) (a2 : Int) : Option (Bool) := (concordlaw08_awake.f k).bind fun t323 => (if t323 = true then ((concordref08_Check.f k a0_0 l0_1 l0_2 l0_3).bind fun t324 => (if t324 = 0 then (concordlaw08_NodeKids.j0 k a1 a2 a0_0 a0_0 l0_1 l0_2 l0_3) else (concordlaw08_NodeKids.j0 k a1 a2 true a0_0 l0_1 l0_2 l0_3))) else (some false))
set_option maxHeartbeats 8000000 in
set_option maxRecDepth 100000 in
theorem concordlaw08_NodeKids.calls (k : Nat) (a0_0 : Bool) (A0_1 : Option Addr) (c0_1 : Nat) (l0_1 : List (S66)) (A0_2 : Option Addr) (c0_2 : Nat) (l0_2 : List ByteArray) (A0_3 : Option Addr) (c0_3 : Nat) (l0_3 : List Int) (a1 : ByteArray) (a2 : Int) (r : Bool) (w : World) (hr0_1 : Kd.C k66 w A0_1 l0_1.length l0_1) (hc0_1 : l0_1.length ≤ c0_1) (hr0_2 : Kd.C Kd.string w A0_2 l0_2.length l0_2) (hc0_2 : l0_2.length ≤ c0_2) (hr0_3 : Kd.C (Kd.int .u32) w A0_3 l0_3.length l0_3) (hc0_3 : l0_3.length ≤ c0_3) (ha : concordlaw08_awake.f k ≠ some false) (h : concordlaw08_NodeKids.f k a0_0 l0_1 l0_2 l0_3 a1 a2 = some r) :
  Calls Try.prog 13 #[.agg #[.bool a0_0, .slice A0_1 l0_1.length c0_1, .slice A0_2 l0_2.length c0_2, .slice A0_3 l0_3.length c0_3], .string a1, .int .u32 a2] w fun e w' => e = .returned (.bool r) ∧ Below w.heap.size w w' := by
 have hu26 := Try.underlying26
 have HR0_1 := Aside0.mk hr0_1
 have HC0_1 := Aside0.mk hc0_1
 clear hr0_1 hc0_1
 have HR0_2 := Aside0.mk hr0_2
 have HC0_2 := Aside0.mk hc0_2
 clear hr0_2 hc0_2
 have HR0_3 := Aside0.mk hr0_3
 have HC0_3 := Aside0.mk hc0_3
 clear hr0_3 hc0_3
 have HB := Aside0.mk (Below.refl w.heap.size w)
 have H : ((concordlaw08_awake.f k).bind fun t323 => (if t323 = true then ((concordref08_Check.f k a0_0 l0_1 l0_2 l0_3).bind fun t324 => (if t324 = 0 then (concordlaw08_NodeKids.j0 k a1 a2 a0_0 a0_0 l0_1 l0_2 l0_3) else (concordlaw08_NodeKids.j0 k a1 a2 true a0_0 l0_1 l0_2 l0_3))) else (some false))) = some r := h
 clear h
 replace H := Option.bind_eq_some_iff.mp H
 obtain ⟨t323, A40, H⟩ := H
 replace H : (if t323 = true then ((concordref08_Check.f k a0_0 l0_1 l0_2 l0_3).bind fun t324 => (if t324 = 0 then (concordlaw08_NodeKids.j0 k a1 a2 a0_0 a0_0 l0_1 l0_2 l0_3) else (concordlaw08_NodeKids.j0 k a1 a2 true a0_0 l0_1 l0_2 l0_3))) else (some false)) = some r := H
 have A4 := Aside0.mk A40
 clear A40
 by_cases c5 : t323 = true
 ·subst c5
  have H1 : ((concordref08_Check.f k a0_0 l0_1 l0_2 l0_3).bind fun t324 => (if t324 = 0 then (concordlaw08_NodeKids.j0 k a1 a2 a0_0 a0_0 l0_1 l0_2 l0_3) else (concordlaw08_NodeKids.j0 k a1 a2 true a0_0 l0_1 l0_2 l0_3))) = some r := by rw [if_pos rfl] at H; exact H
  clear H
  have H := H1
  clear H1
  have HC6 := Aside0.mk H
  clear H
  go_enter Try.func13, Try.ntmps13
  go_upto_region 3 with (first | ((with_reducible refine gate_dst (N := 3) rfl ?_); (try (refine gate_guard (by rfl) ?_; dsimp only)); refine box_event ?hg (N := 3) ?hd (cs := #[.bool a0_0, .slice A0_1 l0_1.length c0_1, .slice A0_2 l0_2.length c0_2, .slice A0_3 l0_3.length c0_3]) (t := 26) ?hr ?_; (case hd => rfl); (case hg => rfl); (case hr => first | (go_simp; done) | (go_simp; rfl)); intro gb322 hg w7 hbox hb; have n0_ := sSt HB hb; have n1_ := Aside0.mk (hbox); have n2_ := Aside0.mk ((by rw [hg]; exact (sSz HB) : w.heap.size ≤ gb322)); have n3_ := Aside0.mk ((by rw [hg]; exact (sSz HB) : w.heap.size ≤ gb322)); clear HB; have HB := n0_; have BK322 := n1_; have GW322 := n2_; have GE322 := n3_; clear n0_ n1_ n2_ n3_; clear hb hbox hg) | ((with_reducible refine gate_callee (f := 60) rfl ?_); refine goesL_ (some 13) rfl rfl Try.func60 (by kernel_rfl) rfl #[] rfl (by (try simp only [List.map_toArray, List.map_cons, List.map_nil]); first | done | rfl | (simp only [List.length_drop, List.length_take]; rfl)) ?_; (with_reducible refine (concordlaw08_awake.calls k true _ A4.out rfl).mono ?_); rintro e w8 ⟨rfl, hb⟩; refine ⟨_, rfl, ?_⟩; have n0_ := Aside0.mk (blk_below (g := gb322) (o := .cells #[.bool a0_0, .slice A0_1 l0_1.length c0_1, .slice A0_2 l0_2.length c0_2, .slice A0_3 l0_3.length c0_3] 26 (0, 0)) (qB BK322) hb); have n1_ := Aside0.mk (below_step (by exact qS1 HB GE322) hb); clear BK322; clear HB; have BK322 := n0_; have HB := n1_; clear n0_ n1_; (try clear hb); (try clear hb2); (try clear hk); (try clear hi)))
  (try simp only [Act.put, List.setIfInBounds_toArray, List.set_cons_zero, List.set_cons_succ])
  go_cut [21] (fun v21 wc => ∃ (kq : Nat) (x21_5 : Bool), v21 = .bool x21_5 ∧ Aside0 (concordlaw08_NodeKids.j0 kq a1 a2 x21_5 a0_0 l0_1 l0_2 l0_3 = some r) ∧ Aside0 (kq ≤ k) ∧ Aside0 (wc.heap[gb322]? = some (.cells #[.bool a0_0, (.slice A0_1 l0_1.length c0_1), (.slice A0_2 l0_2.length c0_2), (.slice A0_3 l0_3.length c0_3)] 26 (0, 0))) ∧ Aside0 (Below w.heap.size w wc))
  case first =>
   have H := HC6.out
   clear HC6
   replace H := Option.bind_eq_some_iff.mp H
   obtain ⟨t324, A90, H⟩ := H
   replace H : (if t324 = 0 then (concordlaw08_NodeKids.j0 k a1 a2 a0_0 a0_0 l0_1 l0_2 l0_3) else (concordlaw08_NodeKids.j0 k a1 a2 true a0_0 l0_1 l0_2 l0_3)) = some r := H
   have A9 := Aside0.mk A90
   clear A90
   by_cases c10 : t324 = 0
   ·rw [if_pos c10] at H
    have c10b0 : (t324 == 0) = true := beq_iff_eq.mpr c10
    have c10b1 : (t324 != 0) = false := bne_eq_false_iff_eq.mpr c10
    clear c10
    (first | rw [c10b0] | (simp only [i64_w, i32_w]; rw [c10b0]) | skip)
    have H' := Aside0.mk H
    clear H
    obtain ⟨hcz11_0, hcz11_1, hcz11_2, hcz11_3⟩ := qc4 BK322
    obtain ⟨hfz11_0, hfz11_1, hfz11_2, hfz11_3⟩ := qf4 BK322
    go_wp2_with (first | ((with_reducible refine gate_callee (f := 33) rfl ?_); refine goesL_ (some 16) rfl rfl Try.func33 (by kernel_rfl) rfl #[.agg #[.bool a0_0, .slice A0_1 l0_1.length c0_1, .slice A0_2 l0_2.length c0_2, .slice A0_3 l0_3.length c0_3]] rfl (by (try simp only [List.map_toArray, List.map_cons, List.map_nil]); first | done | rfl | (simp only [List.length_drop, List.length_take]; rfl)) ?_; (with_reducible refine (concordref08_Check.calls k a0_0 _ _ l0_1 _ _ l0_2 _ _ l0_3 t324 _ ?side1 ?side2 ?side3 ?side4 ?side5 ?side6 A9.out).mono ?_); (case side1 => exact qC HR0_1 HB); (case side2 => exact HC0_1.out); (case side3 => exact qC HR0_2 HB); (case side4 => exact HC0_2.out); (case side5 => exact qC HR0_3 HB); (case side6 => exact HC0_3.out); rintro e w12 ⟨rfl, hb⟩; refine ⟨_, rfl, ?_⟩; have n0_ := Aside0.mk (blk_below (g := gb322) (o := .cells #[.bool a0_0, .slice A0_1 l0_1.length c0_1, .slice A0_2 l0_2.length c0_2, .slice A0_3 l0_3.length c0_3] 26 (0, 0)) (qB BK322) hb); have n1_ := Aside0.mk (below_step (by exact qS1 HB GE322) hb); clear BK322; clear HB; have BK322 := n0_; have HB := n1_; clear n0_ n1_; (try clear hb); (try clear hb2); (try clear hk); (try clear hi); obtain ⟨hcz13_0, hcz13_1, hcz13_2, hcz13_3⟩ := qc4 BK322; obtain ⟨hfz13_0, hfz13_1, hfz13_2, hfz13_3⟩ := qf4 BK322))
    go_meet
    case rel => exact ⟨_, (a0_0), (by first | rfl | (simp; done) | (simp [*]; done) | (simp only [i64_w]; done)), H', ⟨by first | omega | exact Nat.le_refl _⟩, ⟨by (with_reducible repeat (first | refine blk_drewN ?_ _ | refine blk_drew ?_ | refine blk_alloc ?_ _)); exact BK322.out⟩, ⟨by exact qS1 HB GE322⟩⟩
   ·rw [if_neg c10] at H
    have c10b0 : (t324 == 0) = false := beq_eq_false_iff_ne.mpr c10
    have c10b1 : (t324 != 0) = true := bne_iff_ne.mpr c10
    (first | rw [c10b0] | (simp only [i64_w, i32_w]; rw [c10b0]) | skip)
    have H' := Aside0.mk H
    clear H
    obtain ⟨hcz14_0, hcz14_1, hcz14_2, hcz14_3⟩ := qc4 BK322
    obtain ⟨hfz14_0, hfz14_1, hfz14_2, hfz14_3⟩ := qf4 BK322
    go_wp2_with (first | ((with_reducible refine gate_callee (f := 33) rfl ?_); refine goesL_ (some 16) rfl rfl Try.func33 (by kernel_rfl) rfl #[.agg #[.bool a0_0, .slice A0_1 l0_1.length c0_1, .slice A0_2 l0_2.length c0_2, .slice A0_3 l0_3.length c0_3]] rfl (by (try simp only [List.map_toArray, List.map_cons, List.map_nil]); first | done | rfl | (simp only [List.length_drop, List.length_take]; rfl)) ?_; (with_reducible refine (concordref08_Check.calls k a0_0 _ _ l0_1 _ _ l0_2 _ _ l0_3 t324 _ ?side1 ?side2 ?side3 ?side4 ?side5 ?side6 A9.out).mono ?_); (case side1 => exact qC HR0_1 HB); (case side2 => exact HC0_1.out); (case side3 => exact qC HR0_2 HB); (case side4 => exact HC0_2.out); (case side5 => exact qC HR0_3 HB); (case side6 => exact HC0_3.out); rintro e w15 ⟨rfl, hb⟩; refine ⟨_, rfl, ?_⟩; have n0_ := Aside0.mk (blk_below (g := gb322) (o := .cells #[.bool a0_0, .slice A0_1 l0_1.length c0_1, .slice A0_2 l0_2.length c0_2, .slice A0_3 l0_3.length c0_3] 26 (0, 0)) (qB BK322) hb); have n1_ := Aside0.mk (below_step (by exact qS1 HB GE322) hb); clear BK322; clear HB; have BK322 := n0_; have HB := n1_; clear n0_ n1_; (try clear hb); (try clear hb2); (try clear hk); (try clear hi)))
    go_meet
    case rel => exact ⟨_, (true), (by first | rfl | (simp; done) | (simp [*]; done) | (simp only [i64_w]; done)), H', ⟨by first | omega | exact Nat.le_refl _⟩, ⟨by (with_reducible repeat (first | refine blk_drewN ?_ _ | refine blk_drew ?_ | refine blk_alloc ?_ _)); exact BK322.out⟩, ⟨by exact qS1 HB GE322⟩⟩
  case rest =>
   clear HC6
   try clear c1
   try clear p2
   try clear c3
   try clear c5
   try clear c6
   try clear c10
   try clear c10b0
   try clear c10b1
   try clear c13
   try clear hcz11_0
   try clear hcz11_1
   try clear hcz11_2
   try clear hcz11_3
   try clear hcz13_0
   try clear hcz13_1
   try clear hcz13_2
   try clear hcz13_3
   try clear hcz14_0
   try clear hcz14_1
   try clear hcz14_2
   try clear hcz14_3
   try clear hfz11_0
   try clear hfz11_1
   try clear hfz11_2
   try clear hfz11_3
   try clear hfz13_0
   try clear hfz13_1
   try clear hfz13_2
   try clear hfz13_3
   try clear hfz14_0
   try clear hfz14_1
   try clear hfz14_2
   try clear hfz14_3
   obtain ⟨kq, x21_5, rfl, HA, HJ5, BK322, HB⟩ := hcut
   cases kq with
   | zero => exact absurd HA.out (by simp [concordlaw08_NodeKids.j0])
   | succ kj5 =>
    have H := HA.out
    clear HA
    simp only [concordlaw08_NodeKids.j0] at H
    by_cases c16 : x21_5 = true
    ·subst c16
     have H1 : ((concordlaw08_twin.f a0_0 l0_1 l0_2 l0_3).bind fun bt325 => ((node_Kid.f bt325.1 bt325.2.1 bt325.2.2.1 bt325.2.2.2 a1).bind fun t335 => (some (t335 == (-1))))) = some r := by rw [if_pos rfl] at H; exact H
     clear H
     have H := H1
     clear H1
     replace H := Option.bind_eq_some_iff.mp H
     obtain ⟨⟨t325, t326, t329, t332⟩, A170, H⟩ := H
     replace H : ((node_Kid.f t325 t326 t329 t332 a1).bind fun t335 => (some (t335 == (-1)))) = some r := H
     have A17 := Aside0.mk A170
     clear A170
     replace H := Option.bind_eq_some_iff.mp H
     obtain ⟨t335, A180, H⟩ := H
     replace H : (some (t335 == (-1))) = some r := H
     have A18 := Aside0.mk A180
     clear A180
     obtain rfl := Option.some.inj H
     obtain ⟨hcz19_0, hcz19_1, hcz19_2, hcz19_3⟩ := qc4 BK322
     obtain ⟨hfz19_0, hfz19_1, hfz19_2, hfz19_3⟩ := qf4 BK322
     go_wp2_with (first | ((with_reducible refine gate_callee (f := 22) rfl ?_); refine goesL_ (some 23) rfl rfl Try.func22 (by kernel_rfl) rfl #[.agg #[.bool a0_0, .slice A0_1 l0_1.length c0_1, .slice A0_2 l0_2.length c0_2, .slice A0_3 l0_3.length c0_3]] rfl (by (try simp only [List.map_toArray, List.map_cons, List.map_nil]); first | done | rfl | (simp only [List.length_drop, List.length_take]; rfl)) ?_; (with_reducible refine (concordlaw08_twin.calls a0_0 _ _ l0_1 _ _ l0_2 _ _ l0_3 t325 t326 t329 t332 _ ?side1 ?side2 ?side3 ?side4 ?side5 ?side6 A17.out).mono ?_); (case side1 => exact qC HR0_1 HB); (case side2 => exact HC0_1.out); (case side3 => exact qC HR0_2 HB); (case side4 => exact HC0_2.out); (case side5 => exact qC HR0_3 HB); (case side6 => exact HC0_3.out); rintro e w20 ⟨v327, v330, v333, rfl, ho0, ho1, ho2, hb⟩; refine ⟨_, rfl, ?_⟩; have n0_ := Aside0.mk (Kd.R_lower ho0 (below_size (by exact qS1 HB GE322))); have n1_ := Aside0.mk (Kd.R_lower ho1 (below_size (by exact qS1 HB GE322))); have n2_ := Aside0.mk (Kd.R_lower ho2 (below_size (by exact qS1 HB GE322))); have n3_ := Aside0.mk (blk_below (g := gb322) (o := .cells #[.bool a0_0, .slice A0_1 l0_1.length c0_1, .slice A0_2 l0_2.length c0_2, .slice A0_3 l0_3.length c0_3] 26 (0, 0)) (qB BK322) hb); have n4_ := Aside0.mk (below_step (by exact qS1 HB GE322) hb); clear BK322; clear HB; have HO328 := n0_; have HO331 := n1_; have HO334 := n2_; have BK322 := n3_; have HB := n4_; clear n0_ n1_ n2_ n3_ n4_; (try clear hb); (try clear hb2); (try clear hk); (try clear hi); (try clear ho0); (try clear ho1); (try clear ho2); obtain ⟨Ao21, co21, eo21⟩ := Kd.R_slice HO328.out; subst eo21; obtain ⟨Ao22, co22, eo22⟩ := Kd.R_slice HO331.out; subst eo22; obtain ⟨Ao23, co23, eo23⟩ := Kd.R_slice HO334.out; subst eo23) | ((with_reducible refine gate_callee (f := 18) rfl ?_); refine goesL_ (some 25) rfl rfl Try.func18 (by kernel_rfl) rfl #[.agg #[.bool t325, .slice Ao21 t326.length co21, .slice Ao22 t329.length co22, .slice Ao23 t332.length co23], .string a1] rfl (by (try simp only [List.map_toArray, List.map_cons, List.map_nil]); first | done | rfl | (simp only [List.length_drop, List.length_take]; rfl)) ?_; (with_reducible refine (node_Kid.calls t325 _ _ t326 _ _ t329 _ _ t332 a1 t335 _ ?side1 ?side2 ?side3 ?side4 ?side5 ?side6 A18.out).mono ?_); (case side1 => exact sC HO328); (case side2 => exact sN HO328); (case side3 => exact sC HO331); (case side4 => exact sN HO331); (case side5 => exact sC HO334); (case side6 => exact sN HO334); rintro e w24 ⟨rfl, hb⟩; refine ⟨_, rfl, ?_⟩; have n0_ := sBe HO328 hb; have n1_ := sBe HO331 hb; have n2_ := sBe HO334 hb; have n3_ := Aside0.mk (blk_below (g := gb322) (o := .cells #[.bool a0_0, .slice A0_1 l0_1.length c0_1, .slice A0_2 l0_2.length c0_2, .slice A0_3 l0_3.length c0_3] 26 (0, 0)) (qB BK322) hb); have n4_ := Aside0.mk (below_step (by exact qS1 HB GE322) hb); clear HO328; clear HO331; clear HO334; clear BK322; clear HB; have HO328 := n0_; have HO331 := n1_; have HO334 := n2_; have BK322 := n3_; have HB := n4_; clear n0_ n1_ n2_ n3_ n4_; (try clear hb); (try clear hb2); (try clear hk); (try clear hi)))
     go_ret
     exact ⟨by first | rfl | (simp [errW_none, errW_some] <;> rfl) | (simp [*, errW_none, errW_some] <;> rfl), by exact qS1 HB GE322⟩
    ·replace c16 := Bool.eq_false_iff.mpr c16
     subst c16
     have H1 : ((concordlaw08_twin.f a0_0 l0_1 l0_2 l0_3).bind fun bt336 => ((node_Kid.f bt336.1 bt336.2.1 bt336.2.2.1 bt336.2.2.2 a1).bind fun t346 => (if t346 < 0 then (concordlaw08_NodeKids.j1 kj5 a1 a2 t346 true a0_0 l0_1 l0_2 l0_3) else (concordlaw08_NodeKids.j1 kj5 a1 a2 t346 (decide (t346 > (l0_2.length : Int))) a0_0 l0_1 l0_2 l0_3)))) = some r := by rw [if_neg (show ¬ (false = true) by decide)] at H; exact H
     clear H
     have H := H1
     clear H1
     replace H := Option.bind_eq_some_iff.mp H
     obtain ⟨⟨t336, t337, t340, t343⟩, A250, H⟩ := H
     replace H : ((node_Kid.f t336 t337 t340 t343 a1).bind fun t346 => (if t346 < 0 then (concordlaw08_NodeKids.j1 kj5 a1 a2 t346 true a0_0 l0_1 l0_2 l0_3) else (concordlaw08_NodeKids.j1 kj5 a1 a2 t346 (decide (t346 > (l0_2.length : Int))) a0_0 l0_1 l0_2 l0_3))) = some r := H
     have A25 := Aside0.mk A250
     clear A250
     replace H := Option.bind_eq_some_iff.mp H
     obtain ⟨t346, A260, H⟩ := H
     replace H : (if t346 < 0 then (concordlaw08_NodeKids.j1 kj5 a1 a2 t346 true a0_0 l0_1 l0_2 l0_3) else (concordlaw08_NodeKids.j1 kj5 a1 a2 t346 (decide (t346 > (l0_2.length : Int))) a0_0 l0_1 l0_2 l0_3)) = some r := H
     have A26 := Aside0.mk A260
     clear A260
     have HC27 := Aside0.mk H
     clear H
     obtain ⟨hcz28_0, hcz28_1, hcz28_2, hcz28_3⟩ := qc4 BK322
     obtain ⟨hfz28_0, hfz28_1, hfz28_2, hfz28_3⟩ := qf4 BK322
     go_upto_region 6 with (first | ((with_reducible refine gate_callee (f := 22) rfl ?_); refine goesL_ (some 28) rfl rfl Try.func22 (by kernel_rfl) rfl #[.agg #[.bool a0_0, .slice A0_1 l0_1.length c0_1, .slice A0_2 l0_2.length c0_2, .slice A0_3 l0_3.length c0_3]] rfl (by (try simp only [List.map_toArray, List.map_cons, List.map_nil]); first | done | rfl | (simp only [List.length_drop, List.length_take]; rfl)) ?_; (with_reducible refine (concordlaw08_twin.calls a0_0 _ _ l0_1 _ _ l0_2 _ _ l0_3 t336 t337 t340 t343 _ ?side1 ?side2 ?side3 ?side4 ?side5 ?side6 A25.out).mono ?_); (case side1 => exact qC HR0_1 HB); (case side2 => exact HC0_1.out); (case side3 => exact qC HR0_2 HB); (case side4 => exact HC0_2.out); (case side5 => exact qC HR0_3 HB); (case side6 => exact HC0_3.out); rintro e w29 ⟨v338, v341, v344, rfl, ho0, ho1, ho2, hb⟩; refine ⟨_, rfl, ?_⟩; have n0_ := Aside0.mk (Kd.R_lower ho0 (below_size (by exact qS1 HB GE322))); have n1_ := Aside0.mk (Kd.R_lower ho1 (below_size (by exact qS1 HB GE322))); have n2_ := Aside0.mk (Kd.R_lower ho2 (below_size (by exact qS1 HB GE322))); have n3_ := Aside0.mk (blk_below (g := gb322) (o := .cells #[.bool a0_0, .slice A0_1 l0_1.length c0_1, .slice A0_2 l0_2.length c0_2, .slice A0_3 l0_3.length c0_3] 26 (0, 0)) (qB BK322) hb); have n4_ := Aside0.mk (below_step (by exact qS1 HB GE322) hb); clear BK322; clear HB; have HO339 := n0_; have HO342 := n1_; have HO345 := n2_; have BK322 := n3_; have HB := n4_; clear n0_ n1_ n2_ n3_ n4_; (try clear hb); (try clear hb2); (try clear hk); (try clear hi); (try clear ho0); (try clear ho1); (try clear ho2); obtain ⟨Ao30, co30, eo30⟩ := Kd.R_slice HO339.out; subst eo30; obtain ⟨Ao31, co31, eo31⟩ := Kd.R_slice HO342.out; subst eo31; obtain ⟨Ao32, co32, eo32⟩ := Kd.R_slice HO345.out; subst eo32) | ((with_reducible refine gate_callee (f := 18) rfl ?_); refine goesL_ (some 30) rfl rfl Try.func18 (by kernel_rfl) rfl #[.agg #[.bool t336, .slice Ao30 t337.length co30, .slice Ao31 t340.length co31, .slice Ao32 t343.length co32], .string a1] rfl (by (try simp only [List.map_toArray, List.map_cons, List.map_nil]); first | done | rfl | (simp only [List.length_drop, List.length_take]; rfl)) ?_; (with_reducible refine (node_Kid.calls t336 _ _ t337 _ _ t340 _ _ t343 a1 t346 _ ?side1 ?side2 ?side3 ?side4 ?side5 ?side6 A26.out).mono ?_); (case side1 => exact sC HO339); (case side2 => exact sN HO339); (case side3 => exact sC HO342); (case side4 => exact sN HO342); (case side5 => exact sC HO345); (case side6 => exact sN HO345); rintro e w33 ⟨rfl, hb⟩; refine ⟨_, rfl, ?_⟩; have n0_ := sBe HO339 hb; have n1_ := sBe HO342 hb; have n2_ := sBe HO345 hb; have n3_ := Aside0.mk (blk_below (g := gb322) (o := .cells #[.bool a0_0, .slice A0_1 l0_1.length c0_1, .slice A0_2 l0_2.length c0_2, .slice A0_3 l0_3.length c0_3] 26 (0, 0)) (qB BK322) hb); have n4_ := Aside0.mk (below_step (by exact qS1 HB GE322) hb); clear HO339; clear HO342; clear HO345; clear BK322; clear HB; have HO339 := n0_; have HO342 := n1_; have HO345 := n2_; have BK322 := n3_; have HB := n4_; clear n0_ n1_ n2_ n3_ n4_; (try clear hb); (try clear hb2); (try clear hk); (try clear hi)))
     (try simp only [Act.put, List.setIfInBounds_toArray, List.set_cons_zero, List.set_cons_succ])
     go_cut [39] (fun v39 wc => ∃ (kq : Nat) (x39_26 : Bool), v39 = .bool x39_26 ∧ Aside0 (concordlaw08_NodeKids.j1 kq a1 a2 t346 x39_26 a0_0 l0_1 l0_2 l0_3 = some r) ∧ Aside0 (kq ≤ kj5) ∧ Aside0 (wc.heap[gb322]? = some (.cells #[.bool a0_0, (.slice A0_1 l0_1.length c0_1), (.slice A0_2 l0_2.length c0_2), (.slice A0_3 l0_3.length c0_3)] 26 (0, 0))) ∧ Aside0 (Below w.heap.size w wc))
     case first =>
      have H := HC27.out
      clear HC27
      by_cases c34 : t346 < 0
      ·rw [if_pos c34] at H
       have c34b0 : decide (t346 < 0) = true := decide_eq_true c34
       clear c34
       (first | rw [c34b0] | (simp only [i64_w, i32_w]; rw [c34b0]) | skip)
       have H' := Aside0.mk H
       clear H
       go_wp2
       go_meet
       case rel => exact ⟨_, (true), (by first | rfl | (simp; done) | (simp [*]; done) | (simp only [i64_w]; done)), H', ⟨by have := HJ5.out; first | omega | exact Nat.le_refl _⟩, ⟨by (with_reducible repeat (first | refine blk_drewN ?_ _ | refine blk_drew ?_ | refine blk_alloc ?_ _)); exact BK322.out⟩, ⟨by exact qS1 HB GE322⟩⟩
      ·rw [if_neg c34] at H
       have c34b0 : decide (t346 < 0) = false := decide_eq_false c34
       clear c34
       (first | rw [c34b0] | (simp only [i64_w, i32_w]; rw [c34b0]) | skip)
       have H' := Aside0.mk H
       clear H
       obtain ⟨hcz35_0, hcz35_1, hcz35_2, hcz35_3⟩ := qc4 BK322
       obtain ⟨hfz35_0, hfz35_1, hfz35_2, hfz35_3⟩ := qf4 BK322
       go_wp2
       go_meet
       case rel => exact ⟨_, (decide (t346 > (l0_2.length : Int))), (by first | rfl | (simp; done) | (simp [*]; done) | (simp only [i64_w]; done)), H', ⟨by have := HJ5.out; first | omega | exact Nat.le_refl _⟩, ⟨by (with_reducible repeat (first | refine blk_drewN ?_ _ | refine blk_drew ?_ | refine blk_alloc ?_ _)); exact BK322.out⟩, ⟨by exact qS1 HB GE322⟩⟩
     case rest =>
      clear HC27
      try clear c1
      try clear c2
      try clear p2
      try clear c3
      try clear c5
      try clear c6
      try clear c10
      try clear c10b0
      try clear c10b1
      try clear c13
      try clear c16
      try clear c18
      try clear c22
      try clear c33
      try clear c34
      try clear c34b0
      try clear hcz11_0
      try clear hcz11_1
      try clear hcz11_2
      try clear hcz11_3
      try clear hcz13_0
      try clear hcz13_1
      try clear hcz13_2
      try clear hcz13_3
      try clear hcz14_0
      try clear hcz14_1
      try clear hcz14_2
      try clear hcz14_3
      try clear hcz19_0
      try clear hcz19_1
      try clear hcz19_2
      try clear hcz19_3
      try clear hcz28_0
      try clear hcz28_1
      try clear hcz28_2
      try clear hcz28_3
      try clear hcz35_0
      try clear hcz35_1
      try clear hcz35_2
      try clear hcz35_3
      try clear hfz11_0
      try clear hfz11_1
      try clear hfz11_2
      try clear hfz11_3
      try clear hfz13_0
      try clear hfz13_1
      try clear hfz13_2
      try clear hfz13_3
      try clear hfz14_0
      try clear hfz14_1
      try clear hfz14_2
      try clear hfz14_3
      try clear hfz19_0
      try clear hfz19_1
      try clear hfz19_2
      try clear hfz19_3
      try clear hfz28_0
      try clear hfz28_1
      try clear hfz28_2
      try clear hfz28_3
      try clear hfz35_0
      try clear hfz35_1
      try clear hfz35_2
      try clear hfz35_3
      try clear p2
      obtain ⟨kq, x39_26, rfl, HA, HJ26, BK322, HB⟩ := hcut
      cases kq with
      | zero => exact absurd HA.out (by simp [concordlaw08_NodeKids.j1])
      | succ kj26 =>
       have H := HA.out
       clear HA
       simp only [concordlaw08_NodeKids.j1] at H
       by_cases c36 : x39_26 = true
       ·subst c36
        have H1 : (some false) = some r := by rw [if_pos rfl] at H; exact H
        clear H
        have H := H1
        clear H1
        obtain rfl := Option.some.inj H
        go_wp2
        go_ret
        exact ⟨by first | rfl | (simp [errW_none, errW_some] <;> rfl) | (simp [*, errW_none, errW_some] <;> rfl), by exact qS1 HB GE322⟩
       ·replace c36 := Bool.eq_false_iff.mpr c36
        subst c36
        have H1 : (concordlaw08_NodeKids.l0 kj26 a1 a2 t346 0 a0_0 l0_1 l0_2 l0_3) = some r := by rw [if_neg (show ¬ (false = true) by decide)] at H; exact H
        clear H
        have H := H1
        clear H1
        have H' := Aside0.mk H
        clear H
        go_wp2
        go_loopg [8] kj26 (fun kq v8 w' => ∃ (x8_3 : Int), v8 = .int .i64 x8_3 ∧ Aside0 (concordlaw08_NodeKids.l0 kq a1 a2 t346 x8_3 a0_0 l0_1 l0_2 l0_3 = some r) ∧ Aside0 (kq ≤ kj26) ∧ Aside0 (w'.heap[gb322]? = some (.cells #[.bool a0_0, (.slice A0_1 l0_1.length c0_1), (.slice A0_2 l0_2.length c0_2), (.slice A0_3 l0_3.length c0_3)] 26 (0, 0))) ∧ Aside0 (Below w.heap.size w w'))
        case atStart => exact ⟨(0), (by first | rfl | (simp; done) | (simp [*]; done) | (simp only [i64_w]; done)), H', ⟨Nat.le_refl _⟩, ⟨by (with_reducible repeat (first | refine blk_drewN ?_ _ | refine blk_drew ?_ | refine blk_alloc ?_ _)); exact BK322.out⟩, ⟨by exact qS1 HB GE322⟩⟩
        case round =>
         clear H'
         try clear c1
         try clear c2
         try clear p2
         try clear c3
         try clear c5
         try clear c6
         try clear c10
         try clear c10b0
         try clear c10b1
         try clear c13
         try clear c16
         try clear c18
         try clear c22
         try clear c33
         try clear c34
         try clear c34b0
         try clear c36
         try clear hcz11_0
         try clear hcz11_1
         try clear hcz11_2
         try clear hcz11_3
         try clear hcz13_0
         try clear hcz13_1
         try clear hcz13_2
         try clear hcz13_3
         try clear hcz14_0
         try clear hcz14_1
         try clear hcz14_2
         try clear hcz14_3
         try clear hcz19_0
         try clear hcz19_1
         try clear hcz19_2
         try clear hcz19_3
         try clear hcz28_0
         try clear hcz28_1
         try clear hcz28_2
         try clear hcz28_3
         try clear hcz35_0
         try clear hcz35_1
         try clear hcz35_2
         try clear hcz35_3
         try clear hfz11_0
         try clear hfz11_1
         try clear hfz11_2
         try clear hfz11_3
         try clear hfz13_0
         try clear hfz13_1
         try clear hfz13_2
         try clear hfz13_3
         try clear hfz14_0
         try clear hfz14_1
         try clear hfz14_2
         try clear hfz14_3
         try clear hfz19_0
         try clear hfz19_1
         try clear hfz19_2
         try clear hfz19_3
         try clear hfz28_0
         try clear hfz28_1
         try clear hfz28_2
         try clear hfz28_3
         try clear hfz35_0
         try clear hfz35_1
         try clear hfz35_2
         try clear hfz35_3
         try clear p2
         obtain ⟨x8_3, rfl, HA, HK3, BK322, HB⟩ := hrel
         cases gk with
         | zero => exact absurd HA.out (by simp [concordlaw08_NodeKids.l0])
         | succ k3 =>
          have H := HA.out
          clear HA
          simp only [concordlaw08_NodeKids.l0] at H
          by_cases c37 : x8_3 < (l0_2.length : Int)
          ·rw [if_pos c37] at H
           have c37b0 : decide (x8_3 < (l0_2.length : Int)) = true := decide_eq_true c37
           clear c37
           by_cases c38 : 0 ≤ x8_3
           ·rw [if_pos c38] at H
            have c38b0 : decide (0 ≤ x8_3) = true := decide_eq_true c38
            clear c38
            by_cases c39 : ((!(Op.bytesLess a1.toList ((rdOf ByteArray.empty l0_2 x8_3).toList))) != (decide (x8_3 < t346))) = true
            ·rw [if_pos c39] at H
             have c39b0 : ((!(Op.bytesLess a1.toList ((rdOf ByteArray.empty l0_2 x8_3).toList))) != (decide (x8_3 < t346))) = true := c39
             (try (have c39b1 : decide ((!(Op.bytesLess a1.toList ((rdOf ByteArray.empty l0_2 x8_3).toList))) = (decide (x8_3 < t346))) = false := by simpa using c39))
             (try (have c39b2 : ((!(Op.bytesLess a1.toList ((rdOf ByteArray.empty l0_2 x8_3).toList))) == (decide (x8_3 < t346))) = false := by simpa using c39))
             (try (have c39b3 : ¬ ((!(Op.bytesLess a1.toList ((rdOf ByteArray.empty l0_2 x8_3).toList))) = (decide (x8_3 < t346))) := by simpa using c39))
             clear c39
             obtain rfl := Option.some.inj H
             obtain ⟨hcz40_0, hcz40_1, hcz40_2, hcz40_3⟩ := qc4 BK322
             obtain ⟨hfz40_0, hfz40_1, hfz40_2, hfz40_3⟩ := qf4 BK322
             have p347 : 0 ≤ (x8_3 : Int) := of_decide_eq_true (by first | (with_reducible assumption) | assumption)
             have q347 : x8_3 < (l0_2.length : Int) := of_decide_eq_true (by first | (with_reducible assumption) | assumption)
             obtain ⟨ad347, e347, hx347_0⟩ := Kd.at_string HR0_2.out x8_3 p347 q347
             cases e347
             replace hx347_0 := (HB.out.cell (World.block_lt_of_cell? w _ hx347_0)).trans hx347_0
             replace p347 := eq_true p347
             replace q347 := eq_true q347
             go_wp2
             go_ret
             exact ⟨by first | rfl | (simp [errW_none, errW_some] <;> rfl) | (simp [*, errW_none, errW_some] <;> rfl), by exact qS1 HB GE322⟩
            ·rw [if_neg c39] at H
             have c39b0 : ((!(Op.bytesLess a1.toList ((rdOf ByteArray.empty l0_2 x8_3).toList))) != (decide (x8_3 < t346))) = false := by simpa using c39
             have c39b9 : ((!(Op.bytesLess a1.toList ((rdOf ByteArray.empty l0_2 x8_3).toList))) == (decide (x8_3 < t346))) = true := by have h_ := c39b0; revert h_; generalize (!(Op.bytesLess a1.toList ((rdOf ByteArray.empty l0_2 x8_3).toList))) = a_; generalize (decide (x8_3 < t346)) = b_; cases a_ <;> cases b_ <;> decide
             (try (have c39b1 : decide ((!(Op.bytesLess a1.toList ((rdOf ByteArray.empty l0_2 x8_3).toList))) = (decide (x8_3 < t346))) = true := by simpa using c39))
             (try (have c39b2 : ((!(Op.bytesLess a1.toList ((rdOf ByteArray.empty l0_2 x8_3).toList))) == (decide (x8_3 < t346))) = true := by simpa using c39))
             clear c39
             have H' := Aside0.mk H
             clear H
             obtain ⟨hcz41_0, hcz41_1, hcz41_2, hcz41_3⟩ := qc4 BK322
             obtain ⟨hfz41_0, hfz41_1, hfz41_2, hfz41_3⟩ := qf4 BK322
             have p347 : 0 ≤ (x8_3 : Int) := of_decide_eq_true (by first | (with_reducible assumption) | assumption)
             have q347 : x8_3 < (l0_2.length : Int) := of_decide_eq_true (by first | (with_reducible assumption) | assumption)
             obtain ⟨ad347, e347, hx347_0⟩ := Kd.at_string HR0_2.out x8_3 p347 q347
             cases e347
             replace hx347_0 := (HB.out.cell (World.block_lt_of_cell? w _ hx347_0)).trans hx347_0
             replace p347 := eq_true p347
             replace q347 := eq_true q347
             go_wp2
             go_roundg k3
             case measure => have := HJ5.out; have := HJ26.out; have := HK3.out; omega
             case rel => exact ⟨(wrap64 (x8_3 + 1)), (by first | rfl | (simp; done) | (simp [*]; done) | (simp only [i64_w]; done)), H', ⟨by have := HJ5.out; have := HJ26.out; have := HK3.out; omega⟩, ⟨by (with_reducible repeat (first | refine blk_drewN ?_ _ | refine blk_drew ?_ | refine blk_alloc ?_ _)); exact BK322.out⟩, ⟨by exact qS1 HB GE322⟩⟩
           ·rw [if_neg c38] at H
            exact absurd H (by simp)
          ·rw [if_neg c37] at H
           have c37b0 : decide (x8_3 < (l0_2.length : Int)) = false := decide_eq_false c37
           clear c37
           replace H := Option.bind_eq_some_iff.mp H
           obtain ⟨⟨t348, t349, t352, t355⟩, A420, H⟩ := H
           replace H : ((node_Grow.f t348 t349 t352 t355 t346 a1 a2).bind fun bt358 => (if bt358.2.2.2.2 = 0 then ((node_Kid.f bt358.1 bt358.2.1 bt358.2.2.1 bt358.2.2.2.1 a1).bind fun t370 => (if t370 = (wrap64 (t346 + 1)) then (if (bt358.2.2.2.1.length : Int) = (wrap64 ((l0_3.length : Int) + 1)) then (if 0 ≤ (wrap64 (t346 + 1)) then (if (wrap64 (t346 + 1)) < (bt358.2.2.2.1.length : Int) then (if (rd bt358.2.2.2.1 (wrap64 (t346 + 1))) = a2 then (if 0 ≤ t346 then (if t346 < (bt358.2.2.1.length : Int) then (concordlaw08_NodeKids.j3 k3 t346 ((rdOf ByteArray.empty bt358.2.2.1 t346).toList != a1.toList) a0_0 l0_1 l0_2 l0_3 bt358.1 bt358.2.1 bt358.2.2.1 bt358.2.2.2.1) else (none)) else (none)) else (concordlaw08_NodeKids.j3 k3 t346 true a0_0 l0_1 l0_2 l0_3 bt358.1 bt358.2.1 bt358.2.2.1 bt358.2.2.2.1)) else (none)) else (none)) else (concordlaw08_NodeKids.j3 k3 t346 true a0_0 l0_1 l0_2 l0_3 bt358.1 bt358.2.1 bt358.2.2.1 bt358.2.2.2.1)) else (concordlaw08_NodeKids.j3 k3 t346 true a0_0 l0_1 l0_2 l0_3 bt358.1 bt358.2.1 bt358.2.2.1 bt358.2.2.2.1))) else (if bt358.2.2.2.2 = 1 then (some true) else (if bt358.2.2.2.2 = 81 then (some true) else (some (bt358.2.2.2.2 == 82)))))) = some r := H
           have A42 := Aside0.mk A420
           clear A420
           replace H := Option.bind_eq_some_iff.mp H
           obtain ⟨⟨t358, t359, t362, t365, t368⟩, A430, H⟩ := H
           replace H : (if t368 = 0 then ((node_Kid.f t358 t359 t362 t365 a1).bind fun t370 => (if t370 = (wrap64 (t346 + 1)) then (if (t365.length : Int) = (wrap64 ((l0_3.length : Int) + 1)) then (if 0 ≤ (wrap64 (t346 + 1)) then (if (wrap64 (t346 + 1)) < (t365.length : Int) then (if (rd t365 (wrap64 (t346 + 1))) = a2 then (if 0 ≤ t346 then (if t346 < (t362.length : Int) then (concordlaw08_NodeKids.j3 k3 t346 ((rdOf ByteArray.empty t362 t346).toList != a1.toList) a0_0 l0_1 l0_2 l0_3 t358 t359 t362 t365) else (none)) else (none)) else (concordlaw08_NodeKids.j3 k3 t346 true a0_0 l0_1 l0_2 l0_3 t358 t359 t362 t365)) else (none)) else (none)) else (concordlaw08_NodeKids.j3 k3 t346 true a0_0 l0_1 l0_2 l0_3 t358 t359 t362 t365)) else (concordlaw08_NodeKids.j3 k3 t346 true a0_0 l0_1 l0_2 l0_3 t358 t359 t362 t365))) else (if t368 = 1 then (some true) else (if t368 = 81 then (some true) else (some (t368 == 82))))) = some r := H
           have A43 := Aside0.mk A430
           clear A430
           by_cases c44 : t368 = 0
           ·rw [if_pos c44] at H
            have c44b0 : (t368 == 0) = true := beq_iff_eq.mpr c44
            have c44b1 : (t368 != 0) = false := bne_eq_false_iff_eq.mpr c44
            clear c44
            have HC45 := Aside0.mk H
            clear H
            obtain ⟨hcz46_0, hcz46_1, hcz46_2, hcz46_3⟩ := qc4 BK322
            obtain ⟨hfz46_0, hfz46_1, hfz46_2, hfz46_3⟩ := qf4 BK322
            go_upto_region 16 with (first | ((with_reducible refine gate_callee (f := 22) rfl ?_); refine goesL_ (some 60) rfl rfl Try.func22 (by kernel_rfl) rfl #[.agg #[.bool a0_0, .slice A0_1 l0_1.length c0_1, .slice A0_2 l0_2.length c0_2, .slice A0_3 l0_3.length c0_3]] rfl (by (try simp only [List.map_toArray, List.map_cons, List.map_nil]); first | done | rfl | (simp only [List.length_drop, List.length_take]; rfl)) ?_; (with_reducible refine (concordlaw08_twin.calls a0_0 _ _ l0_1 _ _ l0_2 _ _ l0_3 t348 t349 t352 t355 _ ?side1 ?side2 ?side3 ?side4 ?side5 ?side6 A42.out).mono ?_); (case side1 => exact qC HR0_1 HB); (case side2 => exact HC0_1.out); (case side3 => exact qC HR0_2 HB); (case side4 => exact HC0_2.out); (case side5 => exact qC HR0_3 HB); (case side6 => exact HC0_3.out); rintro e w47 ⟨v350, v353, v356, rfl, ho0, ho1, ho2, hb⟩; refine ⟨_, rfl, ?_⟩; have n0_ := Aside0.mk (Kd.R_lower ho0 (below_size (by exact qS1 HB GE322))); have n1_ := Aside0.mk (Kd.R_lower ho1 (below_size (by exact qS1 HB GE322))); have n2_ := Aside0.mk (Kd.R_lower ho2 (below_size (by exact qS1 HB GE322))); have n3_ := Aside0.mk (blk_below (g := gb322) (o := .cells #[.bool a0_0, .slice A0_1 l0_1.length c0_1, .slice A0_2 l0_2.length c0_2, .slice A0_3 l0_3.length c0_3] 26 (0, 0)) (qB BK322) hb); have n4_ := Aside0.mk (below_step (by exact qS1 HB GE322) hb); clear BK322; clear HB; have HO351 := n0_; have HO354 := n1_; have HO357 := n2_; have BK322 := n3_; have HB := n4_; clear n0_ n1_ n2_ n3_ n4_; (try clear hb); (try clear hb2); (try clear hk); (try clear hi); (try clear ho0); (try clear ho1); (try clear ho2); obtain ⟨Ao48, co48, eo48⟩ := Kd.R_slice HO351.out; subst eo48; obtain ⟨Ao49, co49, eo49⟩ := Kd.R_slice HO354.out; subst eo49; obtain ⟨Ao50, co50, eo50⟩ := Kd.R_slice HO357.out; subst eo50) | ((with_reducible refine gate_callee (f := 38) rfl ?_); refine goesL_ (some 64) rfl rfl Try.func38 (by kernel_rfl) rfl #[.agg #[.bool t348, .slice Ao48 t349.length co48, .slice Ao49 t352.length co49, .slice Ao50 t355.length co50], .int .i64 t346, .string a1, .int .u32 a2] rfl (by (try simp only [List.map_toArray, List.map_cons, List.map_nil]); first | done | rfl | (simp only [List.length_drop, List.length_take]; rfl)) ?_; (with_reducible refine (node_Grow.calls t348 _ _ t349 _ _ t352 _ _ t355 t346 a1 a2 t358 t359 t362 t365 t368 _ ?side1 ?side2 ?side3 ?side4 ?side5 ?side6 A43.out).mono ?_); (case side1 => exact sC HO351); (case side2 => exact sN HO351); (case side3 => exact sC HO354); (case side4 => exact sN HO354); (case side5 => exact sC HO357); (case side6 => exact sN HO357); rintro e w51 ⟨v360, v363, v366, rfl, ho0, ho1, ho2, hb⟩; refine ⟨_, rfl, ?_⟩; have n0_ := sEl HO351 (Kd.R_base ho0) hb; have n1_ := sEl HO354 (Kd.R_base ho1) hb; have n2_ := sEl HO357 (Kd.R_base ho2) hb; have n3_ := Aside0.mk (Kd.R_lower (Kd.R_new' ho0 (sLt HO351)) (below_size (by exact qS1 HB GE322))); have n4_ := Aside0.mk (Kd.R_lower (Kd.R_new' ho1 (sLt HO354)) (below_size (by exact qS1 HB GE322))); have n5_ := Aside0.mk (Kd.R_lower (Kd.R_new' ho2 (sLt HO357)) (below_size (by exact qS1 HB GE322))); have n6_ := Aside0.mk (blk_below (g := gb322) (o := .cells #[.bool a0_0, .slice A0_1 l0_1.length c0_1, .slice A0_2 l0_2.length c0_2, .slice A0_3 l0_3.length c0_3] 26 (0, 0)) (qB BK322) hb); have n7_ := Aside0.mk (below_step (by exact qS1 HB GE322) hb); clear HO351; clear HO354; clear HO357; clear BK322; clear HB; have HO351 := n0_; have HO354 := n1_; have HO357 := n2_; have HO361 := n3_; have HO364 := n4_; have HO367 := n5_; have BK322 := n6_; have HB := n7_; clear n0_ n1_ n2_ n3_ n4_ n5_ n6_ n7_; (try clear hb); (try clear hb2); (try clear hk); (try clear hi); (try clear ho0); (try clear ho1); (try clear ho2)) | ((with_reducible refine gate_dst (N := 9) rfl ?_); (try (refine gate_guard (by rfl) ?_; dsimp only)); refine box_event ?hg (N := 9) ?hd (cs := #[.bool false, .slice none 0 0, .slice none 0 0, .slice none 0 0]) (t := 26) ?hr ?_; (case hd => rfl); (case hg => rfl); (case hr => first | (go_simp; done) | (go_simp; rfl)); intro gb369 hg w52 hbox hb; have n0_ := sBe HO351 hb; have n1_ := sBe HO354 hb; have n2_ := sBe HO357 hb; have n3_ := sBe HO361 hb; have n4_ := sBe HO364 hb; have n5_ := sBe HO367 hb; have n6_ := Aside0.mk (blk_below (g := gb322) (o := .cells #[.bool a0_0, .slice A0_1 l0_1.length c0_1, .slice A0_2 l0_2.length c0_2, .slice A0_3 l0_3.length c0_3] 26 (0, 0)) (qB BK322) hb); have n7_ := Aside0.mk (below_step (by exact qS1 HB GE322) hb); have n8_ := Aside0.mk (hbox); have n9_ := Aside0.mk ((by rw [hg]; exact (below_size (by exact qS1 HB GE322)) : w.heap.size ≤ gb369)); have n10_ := Aside0.mk ((by rw [hg]; exact (below_size (by exact qS1 HB GE322)) : w.heap.size ≤ gb369)); have n11_ := Aside0.mk ((by rw [hg]; exact Nat.ne_of_lt (blk_lt (g := gb322) (o := .cells #[.bool a0_0, .slice A0_1 l0_1.length c0_1, .slice A0_2 l0_2.length c0_2, .slice A0_3 l0_3.length c0_3] 26 (0, 0)) (qB BK322)) : gb322 ≠ gb369)); have n12_ := Aside0.mk ((by rw [hg]; exact Nat.ne_of_gt (blk_lt (g := gb322) (o := .cells #[.bool a0_0, .slice A0_1 l0_1.length c0_1, .slice A0_2 l0_2.length c0_2, .slice A0_3 l0_3.length c0_3] 26 (0, 0)) (qB BK322)) : gb369 ≠ gb322)); clear HO351; clear HO354; clear HO357; clear HO361; clear HO364; clear HO367; clear BK322; clear HB; have HO351 := n0_; have HO354 := n1_; have HO357 := n2_; have HO361 := n3_; have HO364 := n4_; have HO367 := n5_; have BK322 := n6_; have HB := n7_; have BK369 := n8_; have GW369 := n9_; have GE369 := n10_; have NB322_369 := n11_; have NB369_322 := n12_; clear n0_ n1_ n2_ n3_ n4_ n5_ n6_ n7_ n8_ n9_ n10_ n11_ n12_; clear hb hbox hg; have hnb53 := NB369_322.out; have hnc53 := NB322_369.out; obtain ⟨hcz54_0, hcz54_1, hcz54_2, hcz54_3⟩ := qc4 BK369; obtain ⟨hfz54_0, hfz54_1, hfz54_2, hfz54_3⟩ := qf4 BK369; obtain ⟨Ao55, co55, eo55⟩ := Kd.R_slice HO361.out; subst eo55; obtain ⟨Ao56, co56, eo56⟩ := Kd.R_slice HO364.out; subst eo56; obtain ⟨Ao57, co57, eo57⟩ := Kd.R_slice HO367.out; subst eo57))
            (try simp only [Act.put, List.setIfInBounds_toArray, List.set_cons_zero, List.set_cons_succ])
            go_cut [113] (fun v113 wc => ∃ (kq : Nat) (x113_44 : Bool), v113 = .bool x113_44 ∧ Aside0 (concordlaw08_NodeKids.j3 kq t346 x113_44 a0_0 l0_1 l0_2 l0_3 t358 t359 t362 t365 = some r) ∧ Aside0 (kq ≤ k3) ∧ Aside0 (Kd.R k66 66 wc w.heap.size (fun _ => True) (.slice Ao55 t359.length co55) t359) ∧ Aside0 (Kd.R Kd.string 9 wc w.heap.size (fun _ => True) (.slice Ao56 t362.length co56) t362) ∧ Aside0 (Kd.R (Kd.int .u32) 45 wc w.heap.size (fun _ => True) (.slice Ao57 t365.length co57) t365) ∧ Aside0 (wc.heap[gb322]? = some (.cells #[.bool a0_0, (.slice A0_1 l0_1.length c0_1), (.slice A0_2 l0_2.length c0_2), (.slice A0_3 l0_3.length c0_3)] 26 (0, 0))) ∧ Aside0 (wc.heap[gb369]? = some (.cells #[.bool t358, (.slice Ao55 t359.length co55), (.slice Ao56 t362.length co56), (.slice Ao57 t365.length co57)] 26 (0, 0))) ∧ Aside0 (Below w.heap.size w wc))
            case first =>
             have H := HC45.out
             clear HC45
             replace H := Option.bind_eq_some_iff.mp H
             obtain ⟨t370, A580, H⟩ := H
             replace H : (if t370 = (wrap64 (t346 + 1)) then (if (t365.length : Int) = (wrap64 ((l0_3.length : Int) + 1)) then (if 0 ≤ (wrap64 (t346 + 1)) then (if (wrap64 (t346 + 1)) < (t365.length : Int) then (if (rd t365 (wrap64 (t346 + 1))) = a2 then (if 0 ≤ t346 then (if t346 < (t362.length : Int) then (concordlaw08_NodeKids.j3 k3 t346 ((rdOf ByteArray.empty t362 t346).toList != a1.toList) a0_0 l0_1 l0_2 l0_3 t358 t359 t362 t365) else (none)) else (none)) else (concordlaw08_NodeKids.j3 k3 t346 true a0_0 l0_1 l0_2 l0_3 t358 t359 t362 t365)) else (none)) else (none)) else (concordlaw08_NodeKids.j3 k3 t346 true a0_0 l0_1 l0_2 l0_3 t358 t359 t362 t365)) else (concordlaw08_NodeKids.j3 k3 t346 true a0_0 l0_1 l0_2 l0_3 t358 t359 t362 t365)) = some r := H
             have A58 := Aside0.mk A580
             clear A580
             by_cases c59 : t370 = (wrap64 (t346 + 1))
             ·rw [if_pos c59] at H
              have c59b0 : (t370 == (wrap64 (t346 + 1))) = true := beq_iff_eq.mpr c59
              have c59b1 : (t370 != (wrap64 (t346 + 1))) = false := bne_eq_false_iff_eq.mpr c59
              clear c59
              (first | rw [c59b0] | (simp only [i64_w, i32_w]; rw [c59b0]) | skip)
              by_cases c60 : (t365.length : Int) = (wrap64 ((l0_3.length : Int) + 1))
              ·rw [if_pos c60] at H
               have c60b0 : ((t365.length : Int) == (wrap64 ((l0_3.length : Int) + 1))) = true := beq_iff_eq.mpr c60
               have c60b1 : ((t365.length : Int) != (wrap64 ((l0_3.length : Int) + 1))) = false := bne_eq_false_iff_eq.mpr c60
               clear c60
               obtain ⟨ji61, hji61⟩ : ∃ j_ : Int, (wrap64 (t346 + 1)) = j_ := ⟨_, rfl⟩
               replace H : (if 0 ≤ (ji61) then (if (ji61) < (t365.length : Int) then (if (rd t365 (ji61)) = a2 then (if 0 ≤ t346 then (if t346 < (t362.length : Int) then (concordlaw08_NodeKids.j3 k3 t346 ((rdOf ByteArray.empty t362 t346).toList != a1.toList) a0_0 l0_1 l0_2 l0_3 t358 t359 t362 t365) else (none)) else (none)) else (concordlaw08_NodeKids.j3 k3 t346 true a0_0 l0_1 l0_2 l0_3 t358 t359 t362 t365)) else (none)) else (none)) = some r := by first | (rw [hji61] at H; exact H) | (simp only [hji61] at H ⊢; exact H)
               (try rw [hji61] at c59b0)
               (try rw [hji61] at c59b1)
               (try rw [hji61] at A58)
               have hji61w : (IntKind.i64.wrap (t346 + 1)) = ji61 := (i64_w _).trans hji61
               by_cases c62 : 0 ≤ (ji61)
               ·rw [if_pos c62] at H
                have c62b0 : decide (0 ≤ (ji61)) = true := decide_eq_true c62
                clear c62
                by_cases c63 : (ji61) < (t365.length : Int)
                ·rw [if_pos c63] at H
                 have c63b0 : decide ((ji61) < (t365.length : Int)) = true := decide_eq_true c63
                 clear c63
                 by_cases c64 : (rd t365 (ji61)) = a2
                 ·rw [if_pos c64] at H
                  have c64b0 : ((rd t365 (ji61)) == a2) = true := beq_iff_eq.mpr c64
                  have c64b1 : ((rd t365 (ji61)) != a2) = false := bne_eq_false_iff_eq.mpr c64
                  clear c64
                  by_cases c65 : 0 ≤ t346
                  ·rw [if_pos c65] at H
                   have c65b0 : decide (0 ≤ t346) = true := decide_eq_true c65
                   clear c65
                   by_cases c66 : t346 < (t362.length : Int)
                   ·rw [if_pos c66] at H
                    have c66b0 : decide (t346 < (t362.length : Int)) = true := decide_eq_true c66
                    clear c66
                    have H' := Aside0.mk H
                    clear H
                    have hnb67 := NB369_322.out
                    have hnc67 := NB322_369.out
                    obtain ⟨hcz68_0, hcz68_1, hcz68_2, hcz68_3⟩ := qc4 BK369
                    obtain ⟨hfz68_0, hfz68_1, hfz68_2, hfz68_3⟩ := qf4 BK369
                    go_wp2_with (first | ((with_reducible refine gate_callee (f := 18) rfl ?_); refine goesL_ (some 81) rfl rfl Try.func18 (by kernel_rfl) rfl #[.agg #[.bool t358, .slice Ao55 t359.length co55, .slice Ao56 t362.length co56, .slice Ao57 t365.length co57], .string a1] rfl (by (try simp only [List.map_toArray, List.map_cons, List.map_nil]); first | done | rfl | (simp only [List.length_drop, List.length_take]; rfl)) ?_; (with_reducible refine (node_Kid.calls t358 _ _ t359 _ _ t362 _ _ t365 a1 t370 _ ?side1 ?side2 ?side3 ?side4 ?side5 ?side6 A58.out).mono ?_); (case side1 => refine (Kd.R_reads' (e := 66) (base := w.heap.size) (ok := fun k_ => (True ∧ some k_ ≠ (.slice Ao48 t349.length co48 : Value).ownBlock)) (n := t359.length) (c := co55) ?_).2.2; exact (by (with_reducible repeat (first | apply Kd.R_alloc | apply Kd.R_drewN | apply Kd.R_drew)); exact (Kd.R_mono (Kd.R_far (p := ⟨gb369, 3, none⟩) (Kd.R_far (p := ⟨gb369, 2, none⟩) (Kd.R_far (p := ⟨gb369, 1, none⟩) (Kd.R_far (p := ⟨gb369, 0, none⟩) (Kd.R_types HO361.out BK369.out (by decide)) (fun _ hk => hk.2) (.bool t358)) (fun _ hk => hk.2) (.slice Ao55 t359.length co55)) (fun _ hk => hk.2) (.slice Ao56 t362.length co56)) (fun _ hk => hk.2) (.slice Ao57 t365.length co57)) (fun _ h_ => h_.1)))); (case side2 => exact sN HO361); (case side3 => refine (Kd.R_reads' (e := 9) (base := w.heap.size) (ok := fun k_ => (True ∧ some k_ ≠ (.slice Ao49 t352.length co49 : Value).ownBlock)) (n := t362.length) (c := co56) ?_).2.2; exact (by (with_reducible repeat (first | apply Kd.R_alloc | apply Kd.R_drewN | apply Kd.R_drew)); exact (Kd.R_mono (Kd.R_far (p := ⟨gb369, 3, none⟩) (Kd.R_far (p := ⟨gb369, 2, none⟩) (Kd.R_far (p := ⟨gb369, 1, none⟩) (Kd.R_far (p := ⟨gb369, 0, none⟩) (Kd.R_types HO364.out BK369.out (by decide)) (fun _ hk => hk.2) (.bool t358)) (fun _ hk => hk.2) (.slice Ao55 t359.length co55)) (fun _ hk => hk.2) (.slice Ao56 t362.length co56)) (fun _ hk => hk.2) (.slice Ao57 t365.length co57)) (fun _ h_ => h_.1)))); (case side4 => exact sN HO364); (case side5 => refine (Kd.R_reads' (e := 45) (base := w.heap.size) (ok := fun k_ => (True ∧ some k_ ≠ (.slice Ao50 t355.length co50 : Value).ownBlock)) (n := t365.length) (c := co57) ?_).2.2; exact (by (with_reducible repeat (first | apply Kd.R_alloc | apply Kd.R_drewN | apply Kd.R_drew)); exact (Kd.R_mono (Kd.R_far (p := ⟨gb369, 3, none⟩) (Kd.R_far (p := ⟨gb369, 2, none⟩) (Kd.R_far (p := ⟨gb369, 1, none⟩) (Kd.R_far (p := ⟨gb369, 0, none⟩) (Kd.R_types HO367.out BK369.out (by decide)) (fun _ hk => hk.2) (.bool t358)) (fun _ hk => hk.2) (.slice Ao55 t359.length co55)) (fun _ hk => hk.2) (.slice Ao56 t362.length co56)) (fun _ hk => hk.2) (.slice Ao57 t365.length co57)) (fun _ h_ => h_.1)))); (case side6 => exact sN HO367); rintro e w69 ⟨rfl, hb⟩; refine ⟨_, rfl, ?_⟩; have n0_ := Aside0.mk (Kd.R_below (by (with_reducible repeat (first | apply Kd.R_alloc | apply Kd.R_drewN | apply Kd.R_drew)); exact (Kd.R_mono (Kd.R_far (p := ⟨gb369, 3, none⟩) (Kd.R_far (p := ⟨gb369, 2, none⟩) (Kd.R_far (p := ⟨gb369, 1, none⟩) (Kd.R_far (p := ⟨gb369, 0, none⟩) (Kd.R_types HO351.out BK369.out (by decide)) (fun _ hk => hk.2) (.bool t358)) (fun _ hk => hk.2) (.slice Ao55 t359.length co55)) (fun _ hk => hk.2) (.slice Ao56 t362.length co56)) (fun _ hk => hk.2) (.slice Ao57 t365.length co57)) (fun _ h_ => h_.1))) hb); have n1_ := Aside0.mk (Kd.R_below (by (with_reducible repeat (first | apply Kd.R_alloc | apply Kd.R_drewN | apply Kd.R_drew)); exact (Kd.R_mono (Kd.R_far (p := ⟨gb369, 3, none⟩) (Kd.R_far (p := ⟨gb369, 2, none⟩) (Kd.R_far (p := ⟨gb369, 1, none⟩) (Kd.R_far (p := ⟨gb369, 0, none⟩) (Kd.R_types HO354.out BK369.out (by decide)) (fun _ hk => hk.2) (.bool t358)) (fun _ hk => hk.2) (.slice Ao55 t359.length co55)) (fun _ hk => hk.2) (.slice Ao56 t362.length co56)) (fun _ hk => hk.2) (.slice Ao57 t365.length co57)) (fun _ h_ => h_.1))) hb); have n2_ := Aside0.mk (Kd.R_below (by (with_reducible repeat (first | apply Kd.R_alloc | apply Kd.R_drewN | apply Kd.R_drew)); exact (Kd.R_mono (Kd.R_far (p := ⟨gb369, 3, none⟩) (Kd.R_far (p := ⟨gb369, 2, none⟩) (Kd.R_far (p := ⟨gb369, 1, none⟩) (Kd.R_far (p := ⟨gb369, 0, none⟩) (Kd.R_types HO357.out BK369.out (by decide)) (fun _ hk => hk.2) (.bool t358)) (fun _ hk => hk.2) (.slice Ao55 t359.length co55)) (fun _ hk => hk.2) (.slice Ao56 t362.length co56)) (fun _ hk => hk.2) (.slice Ao57 t365.length co57)) (fun _ h_ => h_.1))) hb); have n3_ := Aside0.mk (Kd.R_below (by (with_reducible repeat (first | apply Kd.R_alloc | apply Kd.R_drewN | apply Kd.R_drew)); exact (Kd.R_mono (Kd.R_far (p := ⟨gb369, 3, none⟩) (Kd.R_far (p := ⟨gb369, 2, none⟩) (Kd.R_far (p := ⟨gb369, 1, none⟩) (Kd.R_far (p := ⟨gb369, 0, none⟩) (Kd.R_types HO361.out BK369.out (by decide)) (fun _ hk => hk.2) (.bool t358)) (fun _ hk => hk.2) (.slice Ao55 t359.length co55)) (fun _ hk => hk.2) (.slice Ao56 t362.length co56)) (fun _ hk => hk.2) (.slice Ao57 t365.length co57)) (fun _ h_ => h_.1))) hb); have n4_ := Aside0.mk (Kd.R_below (by (with_reducible repeat (first | apply Kd.R_alloc | apply Kd.R_drewN | apply Kd.R_drew)); exact (Kd.R_mono (Kd.R_far (p := ⟨gb369, 3, none⟩) (Kd.R_far (p := ⟨gb369, 2, none⟩) (Kd.R_far (p := ⟨gb369, 1, none⟩) (Kd.R_far (p := ⟨gb369, 0, none⟩) (Kd.R_types HO364.out BK369.out (by decide)) (fun _ hk => hk.2) (.bool t358)) (fun _ hk => hk.2) (.slice Ao55 t359.length co55)) (fun _ hk => hk.2) (.slice Ao56 t362.length co56)) (fun _ hk => hk.2) (.slice Ao57 t365.length co57)) (fun _ h_ => h_.1))) hb); have n5_ := Aside0.mk (Kd.R_below (by (with_reducible repeat (first | apply Kd.R_alloc | apply Kd.R_drewN | apply Kd.R_drew)); exact (Kd.R_mono (Kd.R_far (p := ⟨gb369, 3, none⟩) (Kd.R_far (p := ⟨gb369, 2, none⟩) (Kd.R_far (p := ⟨gb369, 1, none⟩) (Kd.R_far (p := ⟨gb369, 0, none⟩) (Kd.R_types HO367.out BK369.out (by decide)) (fun _ hk => hk.2) (.bool t358)) (fun _ hk => hk.2) (.slice Ao55 t359.length co55)) (fun _ hk => hk.2) (.slice Ao56 t362.length co56)) (fun _ hk => hk.2) (.slice Ao57 t365.length co57)) (fun _ h_ => h_.1))) hb); have n6_ := Aside0.mk (blk_below (g := gb322) (o := .cells #[.bool a0_0, .slice A0_1 l0_1.length c0_1, .slice A0_2 l0_2.length c0_2, .slice A0_3 l0_3.length c0_3] 26 (0, 0)) (by (with_reducible repeat (first | refine blk_drewN ?_ _ | refine blk_drew ?_ | refine blk_alloc ?_ _)); refine blk_far ?_ NB322_369.out _; (with_reducible repeat (first | refine blk_drewN ?_ _ | refine blk_drew ?_ | refine blk_alloc ?_ _)); refine blk_far ?_ NB322_369.out _; (with_reducible repeat (first | refine blk_drewN ?_ _ | refine blk_drew ?_ | refine blk_alloc ?_ _)); refine blk_far ?_ NB322_369.out _; (with_reducible repeat (first | refine blk_drewN ?_ _ | refine blk_drew ?_ | refine blk_alloc ?_ _)); refine blk_far ?_ NB322_369.out _; (with_reducible repeat (first | refine blk_drewN ?_ _ | refine blk_drew ?_ | refine blk_alloc ?_ _)); exact BK322.out) hb); have n7_ := Aside0.mk (blk_below (g := gb369) (o := .cells #[.bool t358, .slice Ao55 t359.length co55, .slice Ao56 t362.length co56, .slice Ao57 t365.length co57] 26 (0, 0)) (by (with_reducible repeat (first | refine blk_drewN ?_ _ | refine blk_drew ?_ | refine blk_alloc ?_ _)); refine blk_put (cs := #[.bool t358, .slice Ao55 t359.length co55, .slice Ao56 t362.length co56, .slice none 0 0]) ?_ 3 _ rfl; (with_reducible repeat (first | refine blk_drewN ?_ _ | refine blk_drew ?_ | refine blk_alloc ?_ _)); refine blk_put (cs := #[.bool t358, .slice Ao55 t359.length co55, .slice none 0 0, .slice none 0 0]) ?_ 2 _ rfl; (with_reducible repeat (first | refine blk_drewN ?_ _ | refine blk_drew ?_ | refine blk_alloc ?_ _)); refine blk_put (cs := #[.bool t358, .slice none 0 0, .slice none 0 0, .slice none 0 0]) ?_ 1 _ rfl; (with_reducible repeat (first | refine blk_drewN ?_ _ | refine blk_drew ?_ | refine blk_alloc ?_ _)); refine blk_put (cs := #[.bool false, .slice none 0 0, .slice none 0 0, .slice none 0 0]) ?_ 0 _ rfl; (with_reducible repeat (first | refine blk_drewN ?_ _ | refine blk_drew ?_ | refine blk_alloc ?_ _)); exact BK369.out) hb); have n8_ := Aside0.mk (below_step (by exact qS2 HB GE322 GE369) hb); clear HO351; clear HO354; clear HO357; clear HO361; clear HO364; clear HO367; clear BK322; clear BK369; clear HB; have HO351 := n0_; have HO354 := n1_; have HO357 := n2_; have HO361 := n3_; have HO364 := n4_; have HO367 := n5_; have BK322 := n6_; have BK369 := n7_; have HB := n8_; clear n0_ n1_ n2_ n3_ n4_ n5_ n6_ n7_ n8_; (try clear hb); (try clear hb2); (try clear hk); (try clear hi); obtain ⟨hcz70_0, hcz70_1, hcz70_2, hcz70_3⟩ := qc4 BK369; obtain ⟨hfz70_0, hfz70_1, hfz70_2, hfz70_3⟩ := qf4 BK369; obtain ⟨hcz71_0, hcz71_1, hcz71_2, hcz71_3⟩ := qc4 BK322; obtain ⟨hfz71_0, hfz71_1, hfz71_2, hfz71_3⟩ := qf4 BK322; have p371 : 0 ≤ ((ji61) : Int) := of_decide_eq_true (by first | (with_reducible assumption) | assumption); have q371 : (ji61) < (t365.length : Int) := of_decide_eq_true (by first | (with_reducible assumption) | assumption); obtain ⟨ad371, e371, hx371_0⟩ := Kd.at_int (Kd.R_reads' HO367.out).2.2 (ji61) p371 q371; cases e371; replace p371 := eq_true p371; replace q371 := eq_true q371; have p372 : 0 ≤ (t346 : Int) := of_decide_eq_true (by first | (with_reducible assumption) | assumption); have q372 : t346 < (t362.length : Int) := of_decide_eq_true (by first | (with_reducible assumption) | assumption); obtain ⟨ad372, e372, hx372_0⟩ := Kd.at_string (Kd.R_reads' HO364.out).2.2 t346 p372 q372; cases e372; replace p372 := eq_true p372; replace q372 := eq_true q372))
                    go_meet
                    case rel => exact ⟨_, (((rdOf ByteArray.empty t362 t346).toList != a1.toList)), (by first | rfl | (simp; done) | (simp [*]; done) | (simp only [i64_w]; done)), H', ⟨by have := HJ5.out; have := HJ26.out; have := HK3.out; first | omega | exact Nat.le_refl _⟩, ⟨by (with_reducible repeat (first | apply Kd.R_alloc | apply Kd.R_drewN | apply Kd.R_drew)); exact Kd.R_mono HO361.out (fun _ hk => trivial)⟩, ⟨by (with_reducible repeat (first | apply Kd.R_alloc | apply Kd.R_drewN | apply Kd.R_drew)); exact Kd.R_mono HO364.out (fun _ hk => trivial)⟩, ⟨by (with_reducible repeat (first | apply Kd.R_alloc | apply Kd.R_drewN | apply Kd.R_drew)); exact Kd.R_mono HO367.out (fun _ hk => trivial)⟩, ⟨by (with_reducible repeat (first | refine blk_drewN ?_ _ | refine blk_drew ?_ | refine blk_alloc ?_ _)); exact BK322.out⟩, ⟨by (with_reducible repeat (first | refine blk_drewN ?_ _ | refine blk_drew ?_ | refine blk_alloc ?_ _)); exact BK369.out⟩, ⟨by exact qS2 HB GE322 GE369⟩⟩
                   ·rw [if_neg c66] at H
                    exact absurd H (by simp)
                  ·rw [if_neg c65] at H
                   exact absurd H (by simp)
                 ·rw [if_neg c64] at H
                  have c64b0 : ((rd t365 (ji61)) == a2) = false := beq_eq_false_iff_ne.mpr c64
                  have c64b1 : ((rd t365 (ji61)) != a2) = true := bne_iff_ne.mpr c64
                  have H' := Aside0.mk H
                  clear H
                  have hnb72 := NB369_322.out
                  have hnc72 := NB322_369.out
                  obtain ⟨hcz73_0, hcz73_1, hcz73_2, hcz73_3⟩ := qc4 BK369
                  obtain ⟨hfz73_0, hfz73_1, hfz73_2, hfz73_3⟩ := qf4 BK369
                  go_wp2_with (first | ((with_reducible refine gate_callee (f := 18) rfl ?_); refine goesL_ (some 81) rfl rfl Try.func18 (by kernel_rfl) rfl #[.agg #[.bool t358, .slice Ao55 t359.length co55, .slice Ao56 t362.length co56, .slice Ao57 t365.length co57], .string a1] rfl (by (try simp only [List.map_toArray, List.map_cons, List.map_nil]); first | done | rfl | (simp only [List.length_drop, List.length_take]; rfl)) ?_; (with_reducible refine (node_Kid.calls t358 _ _ t359 _ _ t362 _ _ t365 a1 t370 _ ?side1 ?side2 ?side3 ?side4 ?side5 ?side6 A58.out).mono ?_); (case side1 => refine (Kd.R_reads' (e := 66) (base := w.heap.size) (ok := fun k_ => (True ∧ some k_ ≠ (.slice Ao48 t349.length co48 : Value).ownBlock)) (n := t359.length) (c := co55) ?_).2.2; exact (by (with_reducible repeat (first | apply Kd.R_alloc | apply Kd.R_drewN | apply Kd.R_drew)); exact (Kd.R_mono (Kd.R_far (p := ⟨gb369, 3, none⟩) (Kd.R_far (p := ⟨gb369, 2, none⟩) (Kd.R_far (p := ⟨gb369, 1, none⟩) (Kd.R_far (p := ⟨gb369, 0, none⟩) (Kd.R_types HO361.out BK369.out (by decide)) (fun _ hk => hk.2) (.bool t358)) (fun _ hk => hk.2) (.slice Ao55 t359.length co55)) (fun _ hk => hk.2) (.slice Ao56 t362.length co56)) (fun _ hk => hk.2) (.slice Ao57 t365.length co57)) (fun _ h_ => h_.1)))); (case side2 => exact sN HO361); (case side3 => refine (Kd.R_reads' (e := 9) (base := w.heap.size) (ok := fun k_ => (True ∧ some k_ ≠ (.slice Ao49 t352.length co49 : Value).ownBlock)) (n := t362.length) (c := co56) ?_).2.2; exact (by (with_reducible repeat (first | apply Kd.R_alloc | apply Kd.R_drewN | apply Kd.R_drew)); exact (Kd.R_mono (Kd.R_far (p := ⟨gb369, 3, none⟩) (Kd.R_far (p := ⟨gb369, 2, none⟩) (Kd.R_far (p := ⟨gb369, 1, none⟩) (Kd.R_far (p := ⟨gb369, 0, none⟩) (Kd.R_types HO364.out BK369.out (by decide)) (fun _ hk => hk.2) (.bool t358)) (fun _ hk => hk.2) (.slice Ao55 t359.length co55)) (fun _ hk => hk.2) (.slice Ao56 t362.length co56)) (fun _ hk => hk.2) (.slice Ao57 t365.length co57)) (fun _ h_ => h_.1)))); (case side4 => exact sN HO364); (case side5 => refine (Kd.R_reads' (e := 45) (base := w.heap.size) (ok := fun k_ => (True ∧ some k_ ≠ (.slice Ao50 t355.length co50 : Value).ownBlock)) (n := t365.length) (c := co57) ?_).2.2; exact (by (with_reducible repeat (first | apply Kd.R_alloc | apply Kd.R_drewN | apply Kd.R_drew)); exact (Kd.R_mono (Kd.R_far (p := ⟨gb369, 3, none⟩) (Kd.R_far (p := ⟨gb369, 2, none⟩) (Kd.R_far (p := ⟨gb369, 1, none⟩) (Kd.R_far (p := ⟨gb369, 0, none⟩) (Kd.R_types HO367.out BK369.out (by decide)) (fun _ hk => hk.2) (.bool t358)) (fun _ hk => hk.2) (.slice Ao55 t359.length co55)) (fun _ hk => hk.2) (.slice Ao56 t362.length co56)) (fun _ hk => hk.2) (.slice Ao57 t365.length co57)) (fun _ h_ => h_.1)))); (case side6 => exact sN HO367); rintro e w74 ⟨rfl, hb⟩; refine ⟨_, rfl, ?_⟩; have n0_ := Aside0.mk (Kd.R_below (by (with_reducible repeat (first | apply Kd.R_alloc | apply Kd.R_drewN | apply Kd.R_drew)); exact (Kd.R_mono (Kd.R_far (p := ⟨gb369, 3, none⟩) (Kd.R_far (p := ⟨gb369, 2, none⟩) (Kd.R_far (p := ⟨gb369, 1, none⟩) (Kd.R_far (p := ⟨gb369, 0, none⟩) (Kd.R_types HO351.out BK369.out (by decide)) (fun _ hk => hk.2) (.bool t358)) (fun _ hk => hk.2) (.slice Ao55 t359.length co55)) (fun _ hk => hk.2) (.slice Ao56 t362.length co56)) (fun _ hk => hk.2) (.slice Ao57 t365.length co57)) (fun _ h_ => h_.1))) hb); have n1_ := Aside0.mk (Kd.R_below (by (with_reducible repeat (first | apply Kd.R_alloc | apply Kd.R_drewN | apply Kd.R_drew)); exact (Kd.R_mono (Kd.R_far (p := ⟨gb369, 3, none⟩) (Kd.R_far (p := ⟨gb369, 2, none⟩) (Kd.R_far (p := ⟨gb369, 1, none⟩) (Kd.R_far (p := ⟨gb369, 0, none⟩) (Kd.R_types HO354.out BK369.out (by decide)) (fun _ hk => hk.2) (.bool t358)) (fun _ hk => hk.2) (.slice Ao55 t359.length co55)) (fun _ hk => hk.2) (.slice Ao56 t362.length co56)) (fun _ hk => hk.2) (.slice Ao57 t365.length co57)) (fun _ h_ => h_.1))) hb); have n2_ := Aside0.mk (Kd.R_below (by (with_reducible repeat (first | apply Kd.R_alloc | apply Kd.R_drewN | apply Kd.R_drew)); exact (Kd.R_mono (Kd.R_far (p := ⟨gb369, 3, none⟩) (Kd.R_far (p := ⟨gb369, 2, none⟩) (Kd.R_far (p := ⟨gb369, 1, none⟩) (Kd.R_far (p := ⟨gb369, 0, none⟩) (Kd.R_types HO357.out BK369.out (by decide)) (fun _ hk => hk.2) (.bool t358)) (fun _ hk => hk.2) (.slice Ao55 t359.length co55)) (fun _ hk => hk.2) (.slice Ao56 t362.length co56)) (fun _ hk => hk.2) (.slice Ao57 t365.length co57)) (fun _ h_ => h_.1))) hb); have n3_ := Aside0.mk (Kd.R_below (by (with_reducible repeat (first | apply Kd.R_alloc | apply Kd.R_drewN | apply Kd.R_drew)); exact (Kd.R_mono (Kd.R_far (p := ⟨gb369, 3, none⟩) (Kd.R_far (p := ⟨gb369, 2, none⟩) (Kd.R_far (p := ⟨gb369, 1, none⟩) (Kd.R_far (p := ⟨gb369, 0, none⟩) (Kd.R_types HO361.out BK369.out (by decide)) (fun _ hk => hk.2) (.bool t358)) (fun _ hk => hk.2) (.slice Ao55 t359.length co55)) (fun _ hk => hk.2) (.slice Ao56 t362.length co56)) (fun _ hk => hk.2) (.slice Ao57 t365.length co57)) (fun _ h_ => h_.1))) hb); have n4_ := Aside0.mk (Kd.R_below (by (with_reducible repeat (first | apply Kd.R_alloc | apply Kd.R_drewN | apply Kd.R_drew)); exact (Kd.R_mono (Kd.R_far (p := ⟨gb369, 3, none⟩) (Kd.R_far (p := ⟨gb369, 2, none⟩) (Kd.R_far (p := ⟨gb369, 1, none⟩) (Kd.R_far (p := ⟨gb369, 0, none⟩) (Kd.R_types HO364.out BK369.out (by decide)) (fun _ hk => hk.2) (.bool t358)) (fun _ hk => hk.2) (.slice Ao55 t359.length co55)) (fun _ hk => hk.2) (.slice Ao56 t362.length co56)) (fun _ hk => hk.2) (.slice Ao57 t365.length co57)) (fun _ h_ => h_.1))) hb); have n5_ := Aside0.mk (Kd.R_below (by (with_reducible repeat (first | apply Kd.R_alloc | apply Kd.R_drewN | apply Kd.R_drew)); exact (Kd.R_mono (Kd.R_far (p := ⟨gb369, 3, none⟩) (Kd.R_far (p := ⟨gb369, 2, none⟩) (Kd.R_far (p := ⟨gb369, 1, none⟩) (Kd.R_far (p := ⟨gb369, 0, none⟩) (Kd.R_types HO367.out BK369.out (by decide)) (fun _ hk => hk.2) (.bool t358)) (fun _ hk => hk.2) (.slice Ao55 t359.length co55)) (fun _ hk => hk.2) (.slice Ao56 t362.length co56)) (fun _ hk => hk.2) (.slice Ao57 t365.length co57)) (fun _ h_ => h_.1))) hb); have n6_ := Aside0.mk (blk_below (g := gb322) (o := .cells #[.bool a0_0, .slice A0_1 l0_1.length c0_1, .slice A0_2 l0_2.length c0_2, .slice A0_3 l0_3.length c0_3] 26 (0, 0)) (by (with_reducible repeat (first | refine blk_drewN ?_ _ | refine blk_drew ?_ | refine blk_alloc ?_ _)); refine blk_far ?_ NB322_369.out _; (with_reducible repeat (first | refine blk_drewN ?_ _ | refine blk_drew ?_ | refine blk_alloc ?_ _)); refine blk_far ?_ NB322_369.out _; (with_reducible repeat (first | refine blk_drewN ?_ _ | refine blk_drew ?_ | refine blk_alloc ?_ _)); refine blk_far ?_ NB322_369.out _; (with_reducible repeat (first | refine blk_drewN ?_ _ | refine blk_drew ?_ | refine blk_alloc ?_ _)); refine blk_far ?_ NB322_369.out _; (with_reducible repeat (first | refine blk_drewN ?_ _ | refine blk_drew ?_ | refine blk_alloc ?_ _)); exact BK322.out) hb); have n7_ := Aside0.mk (blk_below (g := gb369) (o := .cells #[.bool t358, .slice Ao55 t359.length co55, .slice Ao56 t362.length co56, .slice Ao57 t365.length co57] 26 (0, 0)) (by (with_reducible repeat (first | refine blk_drewN ?_ _ | refine blk_drew ?_ | refine blk_alloc ?_ _)); refine blk_put (cs := #[.bool t358, .slice Ao55 t359.length co55, .slice Ao56 t362.length co56, .slice none 0 0]) ?_ 3 _ rfl; (with_reducible repeat (first | refine blk_drewN ?_ _ | refine blk_drew ?_ | refine blk_alloc ?_ _)); refine blk_put (cs := #[.bool t358, .slice Ao55 t359.length co55, .slice none 0 0, .slice none 0 0]) ?_ 2 _ rfl; (with_reducible repeat (first | refine blk_drewN ?_ _ | refine blk_drew ?_ | refine blk_alloc ?_ _)); refine blk_put (cs := #[.bool t358, .slice none 0 0, .slice none 0 0, .slice none 0 0]) ?_ 1 _ rfl; (with_reducible repeat (first | refine blk_drewN ?_ _ | refine blk_drew ?_ | refine blk_alloc ?_ _)); refine blk_put (cs := #[.bool false, .slice none 0 0, .slice none 0 0, .slice none 0 0]) ?_ 0 _ rfl; (with_reducible repeat (first | refine blk_drewN ?_ _ | refine blk_drew ?_ | refine blk_alloc ?_ _)); exact BK369.out) hb); have n8_ := Aside0.mk (below_step (by exact qS2 HB GE322 GE369) hb); clear HO351; clear HO354; clear HO357; clear HO361; clear HO364; clear HO367; clear BK322; clear BK369; clear HB; have HO351 := n0_; have HO354 := n1_; have HO357 := n2_; have HO361 := n3_; have HO364 := n4_; have HO367 := n5_; have BK322 := n6_; have BK369 := n7_; have HB := n8_; clear n0_ n1_ n2_ n3_ n4_ n5_ n6_ n7_ n8_; (try clear hb); (try clear hb2); (try clear hk); (try clear hi); obtain ⟨hcz75_0, hcz75_1, hcz75_2, hcz75_3⟩ := qc4 BK369; obtain ⟨hfz75_0, hfz75_1, hfz75_2, hfz75_3⟩ := qf4 BK369; obtain ⟨hcz76_0, hcz76_1, hcz76_2, hcz76_3⟩ := qc4 BK322; obtain ⟨hfz76_0, hfz76_1, hfz76_2, hfz76_3⟩ := qf4 BK322; have p371 : 0 ≤ ((ji61) : Int) := of_decide_eq_true (by first | (with_reducible assumption) | assumption); have q371 : (ji61) < (t365.length : Int) := of_decide_eq_true (by first | (with_reducible assumption) | assumption); obtain ⟨ad371, e371, hx371_0⟩ := Kd.at_int (Kd.R_reads' HO367.out).2.2 (ji61) p371 q371; cases e371; replace p371 := eq_true p371; replace q371 := eq_true q371))
                  go_meet
                  case rel => exact ⟨_, (true), (by first | rfl | (simp; done) | (simp [*]; done) | (simp only [i64_w]; done)), H', ⟨by have := HJ5.out; have := HJ26.out; have := HK3.out; first | omega | exact Nat.le_refl _⟩, ⟨by (with_reducible repeat (first | apply Kd.R_alloc | apply Kd.R_drewN | apply Kd.R_drew)); exact Kd.R_mono HO361.out (fun _ hk => trivial)⟩, ⟨by (with_reducible repeat (first | apply Kd.R_alloc | apply Kd.R_drewN | apply Kd.R_drew)); exact Kd.R_mono HO364.out (fun _ hk => trivial)⟩, ⟨by (with_reducible repeat (first | apply Kd.R_alloc | apply Kd.R_drewN | apply Kd.R_drew)); exact Kd.R_mono HO367.out (fun _ hk => trivial)⟩, ⟨by (with_reducible repeat (first | refine blk_drewN ?_ _ | refine blk_drew ?_ | refine blk_alloc ?_ _)); exact BK322.out⟩, ⟨by (with_reducible repeat (first | refine blk_drewN ?_ _ | refine blk_drew ?_ | refine blk_alloc ?_ _)); exact BK369.out⟩, ⟨by exact qS2 HB GE322 GE369⟩⟩
                ·rw [if_neg c63] at H
                 exact absurd H (by simp)
               ·rw [if_neg c62] at H
                exact absurd H (by simp)
              ·rw [if_neg c60] at H
               have c60b0 : ((t365.length : Int) == (wrap64 ((l0_3.length : Int) + 1))) = false := beq_eq_false_iff_ne.mpr c60
               have c60b1 : ((t365.length : Int) != (wrap64 ((l0_3.length : Int) + 1))) = true := bne_iff_ne.mpr c60
               have H' := Aside0.mk H
               clear H
               have hnb77 := NB369_322.out
               have hnc77 := NB322_369.out
               obtain ⟨hcz78_0, hcz78_1, hcz78_2, hcz78_3⟩ := qc4 BK369
               obtain ⟨hfz78_0, hfz78_1, hfz78_2, hfz78_3⟩ := qf4 BK369
               go_wp2_with (first | ((with_reducible refine gate_callee (f := 18) rfl ?_); refine goesL_ (some 81) rfl rfl Try.func18 (by kernel_rfl) rfl #[.agg #[.bool t358, .slice Ao55 t359.length co55, .slice Ao56 t362.length co56, .slice Ao57 t365.length co57], .string a1] rfl (by (try simp only [List.map_toArray, List.map_cons, List.map_nil]); first | done | rfl | (simp only [List.length_drop, List.length_take]; rfl)) ?_; (with_reducible refine (node_Kid.calls t358 _ _ t359 _ _ t362 _ _ t365 a1 t370 _ ?side1 ?side2 ?side3 ?side4 ?side5 ?side6 A58.out).mono ?_); (case side1 => refine (Kd.R_reads' (e := 66) (base := w.heap.size) (ok := fun k_ => (True ∧ some k_ ≠ (.slice Ao48 t349.length co48 : Value).ownBlock)) (n := t359.length) (c := co55) ?_).2.2; exact (by (with_reducible repeat (first | apply Kd.R_alloc | apply Kd.R_drewN | apply Kd.R_drew)); exact (Kd.R_mono (Kd.R_far (p := ⟨gb369, 3, none⟩) (Kd.R_far (p := ⟨gb369, 2, none⟩) (Kd.R_far (p := ⟨gb369, 1, none⟩) (Kd.R_far (p := ⟨gb369, 0, none⟩) (Kd.R_types HO361.out BK369.out (by decide)) (fun _ hk => hk.2) (.bool t358)) (fun _ hk => hk.2) (.slice Ao55 t359.length co55)) (fun _ hk => hk.2) (.slice Ao56 t362.length co56)) (fun _ hk => hk.2) (.slice Ao57 t365.length co57)) (fun _ h_ => h_.1)))); (case side2 => exact sN HO361); (case side3 => refine (Kd.R_reads' (e := 9) (base := w.heap.size) (ok := fun k_ => (True ∧ some k_ ≠ (.slice Ao49 t352.length co49 : Value).ownBlock)) (n := t362.length) (c := co56) ?_).2.2; exact (by (with_reducible repeat (first | apply Kd.R_alloc | apply Kd.R_drewN | apply Kd.R_drew)); exact (Kd.R_mono (Kd.R_far (p := ⟨gb369, 3, none⟩) (Kd.R_far (p := ⟨gb369, 2, none⟩) (Kd.R_far (p := ⟨gb369, 1, none⟩) (Kd.R_far (p := ⟨gb369, 0, none⟩) (Kd.R_types HO364.out BK369.out (by decide)) (fun _ hk => hk.2) (.bool t358)) (fun _ hk => hk.2) (.slice Ao55 t359.length co55)) (fun _ hk => hk.2) (.slice Ao56 t362.length co56)) (fun _ hk => hk.2) (.slice Ao57 t365.length co57)) (fun _ h_ => h_.1)))); (case side4 => exact sN HO364); (case side5 => refine (Kd.R_reads' (e := 45) (base := w.heap.size) (ok := fun k_ => (True ∧ some k_ ≠ (.slice Ao50 t355.length co50 : Value).ownBlock)) (n := t365.length) (c := co57) ?_).2.2; exact (by (with_reducible repeat (first | apply Kd.R_alloc | apply Kd.R_drewN | apply Kd.R_drew)); exact (Kd.R_mono (Kd.R_far (p := ⟨gb369, 3, none⟩) (Kd.R_far (p := ⟨gb369, 2, none⟩) (Kd.R_far (p := ⟨gb369, 1, none⟩) (Kd.R_far (p := ⟨gb369, 0, none⟩) (Kd.R_types HO367.out BK369.out (by decide)) (fun _ hk => hk.2) (.bool t358)) (fun _ hk => hk.2) (.slice Ao55 t359.length co55)) (fun _ hk => hk.2) (.slice Ao56 t362.length co56)) (fun _ hk => hk.2) (.slice Ao57 t365.length co57)) (fun _ h_ => h_.1)))); (case side6 => exact sN HO367); rintro e w79 ⟨rfl, hb⟩; refine ⟨_, rfl, ?_⟩; have n0_ := Aside0.mk (Kd.R_below (by (with_reducible repeat (first | apply Kd.R_alloc | apply Kd.R_drewN | apply Kd.R_drew)); exact (Kd.R_mono (Kd.R_far (p := ⟨gb369, 3, none⟩) (Kd.R_far (p := ⟨gb369, 2, none⟩) (Kd.R_far (p := ⟨gb369, 1, none⟩) (Kd.R_far (p := ⟨gb369, 0, none⟩) (Kd.R_types HO351.out BK369.out (by decide)) (fun _ hk => hk.2) (.bool t358)) (fun _ hk => hk.2) (.slice Ao55 t359.length co55)) (fun _ hk => hk.2) (.slice Ao56 t362.length co56)) (fun _ hk => hk.2) (.slice Ao57 t365.length co57)) (fun _ h_ => h_.1))) hb); have n1_ := Aside0.mk (Kd.R_below (by (with_reducible repeat (first | apply Kd.R_alloc | apply Kd.R_drewN | apply Kd.R_drew)); exact (Kd.R_mono (Kd.R_far (p := ⟨gb369, 3, none⟩) (Kd.R_far (p := ⟨gb369, 2, none⟩) (Kd.R_far (p := ⟨gb369, 1, none⟩) (Kd.R_far (p := ⟨gb369, 0, none⟩) (Kd.R_types HO354.out BK369.out (by decide)) (fun _ hk => hk.2) (.bool t358)) (fun _ hk => hk.2) (.slice Ao55 t359.length co55)) (fun _ hk => hk.2) (.slice Ao56 t362.length co56)) (fun _ hk => hk.2) (.slice Ao57 t365.length co57)) (fun _ h_ => h_.1))) hb); have n2_ := Aside0.mk (Kd.R_below (by (with_reducible repeat (first | apply Kd.R_alloc | apply Kd.R_drewN | apply Kd.R_drew)); exact (Kd.R_mono (Kd.R_far (p := ⟨gb369, 3, none⟩) (Kd.R_far (p := ⟨gb369, 2, none⟩) (Kd.R_far (p := ⟨gb369, 1, none⟩) (Kd.R_far (p := ⟨gb369, 0, none⟩) (Kd.R_types HO357.out BK369.out (by decide)) (fun _ hk => hk.2) (.bool t358)) (fun _ hk => hk.2) (.slice Ao55 t359.length co55)) (fun _ hk => hk.2) (.slice Ao56 t362.length co56)) (fun _ hk => hk.2) (.slice Ao57 t365.length co57)) (fun _ h_ => h_.1))) hb); have n3_ := Aside0.mk (Kd.R_below (by (with_reducible repeat (first | apply Kd.R_alloc | apply Kd.R_drewN | apply Kd.R_drew)); exact (Kd.R_mono (Kd.R_far (p := ⟨gb369, 3, none⟩) (Kd.R_far (p := ⟨gb369, 2, none⟩) (Kd.R_far (p := ⟨gb369, 1, none⟩) (Kd.R_far (p := ⟨gb369, 0, none⟩) (Kd.R_types HO361.out BK369.out (by decide)) (fun _ hk => hk.2) (.bool t358)) (fun _ hk => hk.2) (.slice Ao55 t359.length co55)) (fun _ hk => hk.2) (.slice Ao56 t362.length co56)) (fun _ hk => hk.2) (.slice Ao57 t365.length co57)) (fun _ h_ => h_.1))) hb); have n4_ := Aside0.mk (Kd.R_below (by (with_reducible repeat (first | apply Kd.R_alloc | apply Kd.R_drewN | apply Kd.R_drew)); exact (Kd.R_mono (Kd.R_far (p := ⟨gb369, 3, none⟩) (Kd.R_far (p := ⟨gb369, 2, none⟩) (Kd.R_far (p := ⟨gb369, 1, none⟩) (Kd.R_far (p := ⟨gb369, 0, none⟩) (Kd.R_types HO364.out BK369.out (by decide)) (fun _ hk => hk.2) (.bool t358)) (fun _ hk => hk.2) (.slice Ao55 t359.length co55)) (fun _ hk => hk.2) (.slice Ao56 t362.length co56)) (fun _ hk => hk.2) (.slice Ao57 t365.length co57)) (fun _ h_ => h_.1))) hb); have n5_ := Aside0.mk (Kd.R_below (by (with_reducible repeat (first | apply Kd.R_alloc | apply Kd.R_drewN | apply Kd.R_drew)); exact (Kd.R_mono (Kd.R_far (p := ⟨gb369, 3, none⟩) (Kd.R_far (p := ⟨gb369, 2, none⟩) (Kd.R_far (p := ⟨gb369, 1, none⟩) (Kd.R_far (p := ⟨gb369, 0, none⟩) (Kd.R_types HO367.out BK369.out (by decide)) (fun _ hk => hk.2) (.bool t358)) (fun _ hk => hk.2) (.slice Ao55 t359.length co55)) (fun _ hk => hk.2) (.slice Ao56 t362.length co56)) (fun _ hk => hk.2) (.slice Ao57 t365.length co57)) (fun _ h_ => h_.1))) hb); have n6_ := Aside0.mk (blk_below (g := gb322) (o := .cells #[.bool a0_0, .slice A0_1 l0_1.length c0_1, .slice A0_2 l0_2.length c0_2, .slice A0_3 l0_3.length c0_3] 26 (0, 0)) (by (with_reducible repeat (first | refine blk_drewN ?_ _ | refine blk_drew ?_ | refine blk_alloc ?_ _)); refine blk_far ?_ NB322_369.out _; (with_reducible repeat (first | refine blk_drewN ?_ _ | refine blk_drew ?_ | refine blk_alloc ?_ _)); refine blk_far ?_ NB322_369.out _; (with_reducible repeat (first | refine blk_drewN ?_ _ | refine blk_drew ?_ | refine blk_alloc ?_ _)); refine blk_far ?_ NB322_369.out _; (with_reducible repeat (first | refine blk_drewN ?_ _ | refine blk_drew ?_ | refine blk_alloc ?_ _)); refine blk_far ?_ NB322_369.out _; (with_reducible repeat (first | refine blk_drewN ?_ _ | refine blk_drew ?_ | refine blk_alloc ?_ _)); exact BK322.out) hb); have n7_ := Aside0.mk (blk_below (g := gb369) (o := .cells #[.bool t358, .slice Ao55 t359.length co55, .slice Ao56 t362.length co56, .slice Ao57 t365.length co57] 26 (0, 0)) (by (with_reducible repeat (first | refine blk_drewN ?_ _ | refine blk_drew ?_ | refine blk_alloc ?_ _)); refine blk_put (cs := #[.bool t358, .slice Ao55 t359.length co55, .slice Ao56 t362.length co56, .slice none 0 0]) ?_ 3 _ rfl; (with_reducible repeat (first | refine blk_drewN ?_ _ | refine blk_drew ?_ | refine blk_alloc ?_ _)); refine blk_put (cs := #[.bool t358, .slice Ao55 t359.length co55, .slice none 0 0, .slice none 0 0]) ?_ 2 _ rfl; (with_reducible repeat (first | refine blk_drewN ?_ _ | refine blk_drew ?_ | refine blk_alloc ?_ _)); refine blk_put (cs := #[.bool t358, .slice none 0 0, .slice none 0 0, .slice none 0 0]) ?_ 1 _ rfl; (with_reducible repeat (first | refine blk_drewN ?_ _ | refine blk_drew ?_ | refine blk_alloc ?_ _)); refine blk_put (cs := #[.bool false, .slice none 0 0, .slice none 0 0, .slice none 0 0]) ?_ 0 _ rfl; (with_reducible repeat (first | refine blk_drewN ?_ _ | refine blk_drew ?_ | refine blk_alloc ?_ _)); exact BK369.out) hb); have n8_ := Aside0.mk (below_step (by exact qS2 HB GE322 GE369) hb); clear HO351; clear HO354; clear HO357; clear HO361; clear HO364; clear HO367; clear BK322; clear BK369; clear HB; have HO351 := n0_; have HO354 := n1_; have HO357 := n2_; have HO361 := n3_; have HO364 := n4_; have HO367 := n5_; have BK322 := n6_; have BK369 := n7_; have HB := n8_; clear n0_ n1_ n2_ n3_ n4_ n5_ n6_ n7_ n8_; (try clear hb); (try clear hb2); (try clear hk); (try clear hi); obtain ⟨hcz80_0, hcz80_1, hcz80_2, hcz80_3⟩ := qc4 BK369; obtain ⟨hfz80_0, hfz80_1, hfz80_2, hfz80_3⟩ := qf4 BK369; obtain ⟨hcz81_0, hcz81_1, hcz81_2, hcz81_3⟩ := qc4 BK322; obtain ⟨hfz81_0, hfz81_1, hfz81_2, hfz81_3⟩ := qf4 BK322))
               go_meet
               case rel => exact ⟨_, (true), (by first | rfl | (simp; done) | (simp [*]; done) | (simp only [i64_w]; done)), H', ⟨by have := HJ5.out; have := HJ26.out; have := HK3.out; first | omega | exact Nat.le_refl _⟩, ⟨by (with_reducible repeat (first | apply Kd.R_alloc | apply Kd.R_drewN | apply Kd.R_drew)); exact Kd.R_mono HO361.out (fun _ hk => trivial)⟩, ⟨by (with_reducible repeat (first | apply Kd.R_alloc | apply Kd.R_drewN | apply Kd.R_drew)); exact Kd.R_mono HO364.out (fun _ hk => trivial)⟩, ⟨by (with_reducible repeat (first | apply Kd.R_alloc | apply Kd.R_drewN | apply Kd.R_drew)); exact Kd.R_mono HO367.out (fun _ hk => trivial)⟩, ⟨by (with_reducible repeat (first | refine blk_drewN ?_ _ | refine blk_drew ?_ | refine blk_alloc ?_ _)); exact BK322.out⟩, ⟨by (with_reducible repeat (first | refine blk_drewN ?_ _ | refine blk_drew ?_ | refine blk_alloc ?_ _)); exact BK369.out⟩, ⟨by exact qS2 HB GE322 GE369⟩⟩
             ·rw [if_neg c59] at H
              have c59b0 : (t370 == (wrap64 (t346 + 1))) = false := beq_eq_false_iff_ne.mpr c59
              have c59b1 : (t370 != (wrap64 (t346 + 1))) = true := bne_iff_ne.mpr c59
              (first | rw [c59b0] | (simp only [i64_w, i32_w]; rw [c59b0]) | skip)
              have H' := Aside0.mk H
              clear H
              have hnb82 := NB369_322.out
              have hnc82 := NB322_369.out
              obtain ⟨hcz83_0, hcz83_1, hcz83_2, hcz83_3⟩ := qc4 BK369
              obtain ⟨hfz83_0, hfz83_1, hfz83_2, hfz83_3⟩ := qf4 BK369
              go_wp2_with (first | ((with_reducible refine gate_callee (f := 18) rfl ?_); refine goesL_ (some 81) rfl rfl Try.func18 (by kernel_rfl) rfl #[.agg #[.bool t358, .slice Ao55 t359.length co55, .slice Ao56 t362.length co56, .slice Ao57 t365.length co57], .string a1] rfl (by (try simp only [List.map_toArray, List.map_cons, List.map_nil]); first | done | rfl | (simp only [List.length_drop, List.length_take]; rfl)) ?_; (with_reducible refine (node_Kid.calls t358 _ _ t359 _ _ t362 _ _ t365 a1 t370 _ ?side1 ?side2 ?side3 ?side4 ?side5 ?side6 A58.out).mono ?_); (case side1 => refine (Kd.R_reads' (e := 66) (base := w.heap.size) (ok := fun k_ => (True ∧ some k_ ≠ (.slice Ao48 t349.length co48 : Value).ownBlock)) (n := t359.length) (c := co55) ?_).2.2; exact (by (with_reducible repeat (first | apply Kd.R_alloc | apply Kd.R_drewN | apply Kd.R_drew)); exact (Kd.R_mono (Kd.R_far (p := ⟨gb369, 3, none⟩) (Kd.R_far (p := ⟨gb369, 2, none⟩) (Kd.R_far (p := ⟨gb369, 1, none⟩) (Kd.R_far (p := ⟨gb369, 0, none⟩) (Kd.R_types HO361.out BK369.out (by decide)) (fun _ hk => hk.2) (.bool t358)) (fun _ hk => hk.2) (.slice Ao55 t359.length co55)) (fun _ hk => hk.2) (.slice Ao56 t362.length co56)) (fun _ hk => hk.2) (.slice Ao57 t365.length co57)) (fun _ h_ => h_.1)))); (case side2 => exact sN HO361); (case side3 => refine (Kd.R_reads' (e := 9) (base := w.heap.size) (ok := fun k_ => (True ∧ some k_ ≠ (.slice Ao49 t352.length co49 : Value).ownBlock)) (n := t362.length) (c := co56) ?_).2.2; exact (by (with_reducible repeat (first | apply Kd.R_alloc | apply Kd.R_drewN | apply Kd.R_drew)); exact (Kd.R_mono (Kd.R_far (p := ⟨gb369, 3, none⟩) (Kd.R_far (p := ⟨gb369, 2, none⟩) (Kd.R_far (p := ⟨gb369, 1, none⟩) (Kd.R_far (p := ⟨gb369, 0, none⟩) (Kd.R_types HO364.out BK369.out (by decide)) (fun _ hk => hk.2) (.bool t358)) (fun _ hk => hk.2) (.slice Ao55 t359.length co55)) (fun _ hk => hk.2) (.slice Ao56 t362.length co56)) (fun _ hk => hk.2) (.slice Ao57 t365.length co57)) (fun _ h_ => h_.1)))); (case side4 => exact sN HO364); (case side5 => refine (Kd.R_reads' (e := 45) (base := w.heap.size) (ok := fun k_ => (True ∧ some k_ ≠ (.slice Ao50 t355.length co50 : Value).ownBlock)) (n := t365.length) (c := co57) ?_).2.2; exact (by (with_reducible repeat (first | apply Kd.R_alloc | apply Kd.R_drewN | apply Kd.R_drew)); exact (Kd.R_mono (Kd.R_far (p := ⟨gb369, 3, none⟩) (Kd.R_far (p := ⟨gb369, 2, none⟩) (Kd.R_far (p := ⟨gb369, 1, none⟩) (Kd.R_far (p := ⟨gb369, 0, none⟩) (Kd.R_types HO367.out BK369.out (by decide)) (fun _ hk => hk.2) (.bool t358)) (fun _ hk => hk.2) (.slice Ao55 t359.length co55)) (fun _ hk => hk.2) (.slice Ao56 t362.length co56)) (fun _ hk => hk.2) (.slice Ao57 t365.length co57)) (fun _ h_ => h_.1)))); (case side6 => exact sN HO367); rintro e w84 ⟨rfl, hb⟩; refine ⟨_, rfl, ?_⟩; have n0_ := Aside0.mk (Kd.R_below (by (with_reducible repeat (first | apply Kd.R_alloc | apply Kd.R_drewN | apply Kd.R_drew)); exact (Kd.R_mono (Kd.R_far (p := ⟨gb369, 3, none⟩) (Kd.R_far (p := ⟨gb369, 2, none⟩) (Kd.R_far (p := ⟨gb369, 1, none⟩) (Kd.R_far (p := ⟨gb369, 0, none⟩) (Kd.R_types HO351.out BK369.out (by decide)) (fun _ hk => hk.2) (.bool t358)) (fun _ hk => hk.2) (.slice Ao55 t359.length co55)) (fun _ hk => hk.2) (.slice Ao56 t362.length co56)) (fun _ hk => hk.2) (.slice Ao57 t365.length co57)) (fun _ h_ => h_.1))) hb); have n1_ := Aside0.mk (Kd.R_below (by (with_reducible repeat (first | apply Kd.R_alloc | apply Kd.R_drewN | apply Kd.R_drew)); exact (Kd.R_mono (Kd.R_far (p := ⟨gb369, 3, none⟩) (Kd.R_far (p := ⟨gb369, 2, none⟩) (Kd.R_far (p := ⟨gb369, 1, none⟩) (Kd.R_far (p := ⟨gb369, 0, none⟩) (Kd.R_types HO354.out BK369.out (by decide)) (fun _ hk => hk.2) (.bool t358)) (fun _ hk => hk.2) (.slice Ao55 t359.length co55)) (fun _ hk => hk.2) (.slice Ao56 t362.length co56)) (fun _ hk => hk.2) (.slice Ao57 t365.length co57)) (fun _ h_ => h_.1))) hb); have n2_ := Aside0.mk (Kd.R_below (by (with_reducible repeat (first | apply Kd.R_alloc | apply Kd.R_drewN | apply Kd.R_drew)); exact (Kd.R_mono (Kd.R_far (p := ⟨gb369, 3, none⟩) (Kd.R_far (p := ⟨gb369, 2, none⟩) (Kd.R_far (p := ⟨gb369, 1, none⟩) (Kd.R_far (p := ⟨gb369, 0, none⟩) (Kd.R_types HO357.out BK369.out (by decide)) (fun _ hk => hk.2) (.bool t358)) (fun _ hk => hk.2) (.slice Ao55 t359.length co55)) (fun _ hk => hk.2) (.slice Ao56 t362.length co56)) (fun _ hk => hk.2) (.slice Ao57 t365.length co57)) (fun _ h_ => h_.1))) hb); have n3_ := Aside0.mk (Kd.R_below (by (with_reducible repeat (first | apply Kd.R_alloc | apply Kd.R_drewN | apply Kd.R_drew)); exact (Kd.R_mono (Kd.R_far (p := ⟨gb369, 3, none⟩) (Kd.R_far (p := ⟨gb369, 2, none⟩) (Kd.R_far (p := ⟨gb369, 1, none⟩) (Kd.R_far (p := ⟨gb369, 0, none⟩) (Kd.R_types HO361.out BK369.out (by decide)) (fun _ hk => hk.2) (.bool t358)) (fun _ hk => hk.2) (.slice Ao55 t359.length co55)) (fun _ hk => hk.2) (.slice Ao56 t362.length co56)) (fun _ hk => hk.2) (.slice Ao57 t365.length co57)) (fun _ h_ => h_.1))) hb); have n4_ := Aside0.mk (Kd.R_below (by (with_reducible repeat (first | apply Kd.R_alloc | apply Kd.R_drewN | apply Kd.R_drew)); exact (Kd.R_mono (Kd.R_far (p := ⟨gb369, 3, none⟩) (Kd.R_far (p := ⟨gb369, 2, none⟩) (Kd.R_far (p := ⟨gb369, 1, none⟩) (Kd.R_far (p := ⟨gb369, 0, none⟩) (Kd.R_types HO364.out BK369.out (by decide)) (fun _ hk => hk.2) (.bool t358)) (fun _ hk => hk.2) (.slice Ao55 t359.length co55)) (fun _ hk => hk.2) (.slice Ao56 t362.length co56)) (fun _ hk => hk.2) (.slice Ao57 t365.length co57)) (fun _ h_ => h_.1))) hb); have n5_ := Aside0.mk (Kd.R_below (by (with_reducible repeat (first | apply Kd.R_alloc | apply Kd.R_drewN | apply Kd.R_drew)); exact (Kd.R_mono (Kd.R_far (p := ⟨gb369, 3, none⟩) (Kd.R_far (p := ⟨gb369, 2, none⟩) (Kd.R_far (p := ⟨gb369, 1, none⟩) (Kd.R_far (p := ⟨gb369, 0, none⟩) (Kd.R_types HO367.out BK369.out (by decide)) (fun _ hk => hk.2) (.bool t358)) (fun _ hk => hk.2) (.slice Ao55 t359.length co55)) (fun _ hk => hk.2) (.slice Ao56 t362.length co56)) (fun _ hk => hk.2) (.slice Ao57 t365.length co57)) (fun _ h_ => h_.1))) hb); have n6_ := Aside0.mk (blk_below (g := gb322) (o := .cells #[.bool a0_0, .slice A0_1 l0_1.length c0_1, .slice A0_2 l0_2.length c0_2, .slice A0_3 l0_3.length c0_3] 26 (0, 0)) (by (with_reducible repeat (first | refine blk_drewN ?_ _ | refine blk_drew ?_ | refine blk_alloc ?_ _)); refine blk_far ?_ NB322_369.out _; (with_reducible repeat (first | refine blk_drewN ?_ _ | refine blk_drew ?_ | refine blk_alloc ?_ _)); refine blk_far ?_ NB322_369.out _; (with_reducible repeat (first | refine blk_drewN ?_ _ | refine blk_drew ?_ | refine blk_alloc ?_ _)); refine blk_far ?_ NB322_369.out _; (with_reducible repeat (first | refine blk_drewN ?_ _ | refine blk_drew ?_ | refine blk_alloc ?_ _)); refine blk_far ?_ NB322_369.out _; (with_reducible repeat (first | refine blk_drewN ?_ _ | refine blk_drew ?_ | refine blk_alloc ?_ _)); exact BK322.out) hb); have n7_ := Aside0.mk (blk_below (g := gb369) (o := .cells #[.bool t358, .slice Ao55 t359.length co55, .slice Ao56 t362.length co56, .slice Ao57 t365.length co57] 26 (0, 0)) (by (with_reducible repeat (first | refine blk_drewN ?_ _ | refine blk_drew ?_ | refine blk_alloc ?_ _)); refine blk_put (cs := #[.bool t358, .slice Ao55 t359.length co55, .slice Ao56 t362.length co56, .slice none 0 0]) ?_ 3 _ rfl; (with_reducible repeat (first | refine blk_drewN ?_ _ | refine blk_drew ?_ | refine blk_alloc ?_ _)); refine blk_put (cs := #[.bool t358, .slice Ao55 t359.length co55, .slice none 0 0, .slice none 0 0]) ?_ 2 _ rfl; (with_reducible repeat (first | refine blk_drewN ?_ _ | refine blk_drew ?_ | refine blk_alloc ?_ _)); refine blk_put (cs := #[.bool t358, .slice none 0 0, .slice none 0 0, .slice none 0 0]) ?_ 1 _ rfl; (with_reducible repeat (first | refine blk_drewN ?_ _ | refine blk_drew ?_ | refine blk_alloc ?_ _)); refine blk_put (cs := #[.bool false, .slice none 0 0, .slice none 0 0, .slice none 0 0]) ?_ 0 _ rfl; (with_reducible repeat (first | refine blk_drewN ?_ _ | refine blk_drew ?_ | refine blk_alloc ?_ _)); exact BK369.out) hb); have n8_ := Aside0.mk (below_step (by exact qS2 HB GE322 GE369) hb); clear HO351; clear HO354; clear HO357; clear HO361; clear HO364; clear HO367; clear BK322; clear BK369; clear HB; have HO351 := n0_; have HO354 := n1_; have HO357 := n2_; have HO361 := n3_; have HO364 := n4_; have HO367 := n5_; have BK322 := n6_; have BK369 := n7_; have HB := n8_; clear n0_ n1_ n2_ n3_ n4_ n5_ n6_ n7_ n8_; (try clear hb); (try clear hb2); (try clear hk); (try clear hi)))
              go_meet
              case rel => exact ⟨_, (true), (by first | rfl | (simp; done) | (simp [*]; done) | (simp only [i64_w]; done)), H', ⟨by have := HJ5.out; have := HJ26.out; have := HK3.out; first | omega | exact Nat.le_refl _⟩, ⟨by (with_reducible repeat (first | apply Kd.R_alloc | apply Kd.R_drewN | apply Kd.R_drew)); exact Kd.R_mono HO361.out (fun _ hk => trivial)⟩, ⟨by (with_reducible repeat (first | apply Kd.R_alloc | apply Kd.R_drewN | apply Kd.R_drew)); exact Kd.R_mono HO364.out (fun _ hk => trivial)⟩, ⟨by (with_reducible repeat (first | apply Kd.R_alloc | apply Kd.R_drewN | apply Kd.R_drew)); exact Kd.R_mono HO367.out (fun _ hk => trivial)⟩, ⟨by (with_reducible repeat (first | refine blk_drewN ?_ _ | refine blk_drew ?_ | refine blk_alloc ?_ _)); exact BK322.out⟩, ⟨by (with_reducible repeat (first | refine blk_drewN ?_ _ | refine blk_drew ?_ | refine blk_alloc ?_ _)); exact BK369.out⟩, ⟨by exact qS2 HB GE322 GE369⟩⟩
            case rest =>
             clear HC45
             try clear c1
             try clear c2
             try clear p2
             try clear c3
             try clear p3
             try clear q3
             try clear hx3
             try clear c4
             try clear c5
             try clear c6
             try clear p6
             try clear c7
             try clear c8
             try clear c10
             try clear c10b0
             try clear c10b1
             try clear c13
             try clear c16
             try clear c18
             try clear c22
             try clear c33
             try clear c34
             try clear c34b0
             try clear p34
             try clear q34
             try clear hx34
             try clear c36
             try clear c37
             try clear c37b0
             try clear p37
             try clear q37
             try clear hx37
             try clear c38
             try clear c38b0
             try clear c39
             try clear c39b0
             try clear c39b1
             try clear c39b2
             try clear c44
             try clear c44b0
             try clear c44b1
             try clear c53
             try clear c59
             try clear c59b0
             try clear c59b1
             try clear c60
             try clear c60b0
             try clear c60b1
             try clear c62
             try clear c62b0
             try clear c63
             try clear c63b0
             try clear c64
             try clear c64b0
             try clear c64b1
             try clear p64
             try clear c65
             try clear c65b0
             try clear c66
             try clear c66b0
             try clear c67
             try clear c72
             try clear c77
             try clear c82
             try clear hcz11_0
             try clear hcz11_1
             try clear hcz11_2
             try clear hcz11_3
             try clear hcz13_0
             try clear hcz13_1
             try clear hcz13_2
             try clear hcz13_3
             try clear hcz14_0
             try clear hcz14_1
             try clear hcz14_2
             try clear hcz14_3
             try clear hcz19_0
             try clear hcz19_1
             try clear hcz19_2
             try clear hcz19_3
             try clear hcz28_0
             try clear hcz28_1
             try clear hcz28_2
             try clear hcz28_3
             try clear hcz35_0
             try clear hcz35_1
             try clear hcz35_2
             try clear hcz35_3
             try clear hcz40_0
             try clear hcz40_1
             try clear hcz40_2
             try clear hcz40_3
             try clear hcz41_0
             try clear hcz41_1
             try clear hcz41_2
             try clear hcz41_3
             try clear hcz46_0
             try clear hcz46_1
             try clear hcz46_2
             try clear hcz46_3
             try clear hcz54_0
             try clear hcz54_1
             try clear hcz54_2
             try clear hcz54_3
             try clear hcz68_0
             try clear hcz68_1
             try clear hcz68_2
             try clear hcz68_3
             try clear hcz70_0
             try clear hcz70_1
             try clear hcz70_2
             try clear hcz70_3
             try clear hcz71_0
             try clear hcz71_1
             try clear hcz71_2
             try clear hcz71_3
             try clear hcz73_0
             try clear hcz73_1
             try clear hcz73_2
             try clear hcz73_3
             try clear hcz75_0
             try clear hcz75_1
             try clear hcz75_2
             try clear hcz75_3
             try clear hcz76_0
             try clear hcz76_1
             try clear hcz76_2
             try clear hcz76_3
             try clear hcz78_0
             try clear hcz78_1
             try clear hcz78_2
             try clear hcz78_3
             try clear hcz80_0
             try clear hcz80_1
             try clear hcz80_2
             try clear hcz80_3
             try clear hcz81_0
             try clear hcz81_1
             try clear hcz81_2
             try clear hcz81_3
             try clear hcz83_0
             try clear hcz83_1
             try clear hcz83_2
             try clear hcz83_3
             try clear hfz11_0
             try clear hfz11_1
             try clear hfz11_2
             try clear hfz11_3
             try clear hfz13_0
             try clear hfz13_1
             try clear hfz13_2
             try clear hfz13_3
             try clear hfz14_0
             try clear hfz14_1
             try clear hfz14_2
             try clear hfz14_3
             try clear hfz19_0
             try clear hfz19_1
             try clear hfz19_2
             try clear hfz19_3
             try clear hfz28_0
             try clear hfz28_1
             try clear hfz28_2
             try clear hfz28_3
             try clear hfz35_0
             try clear hfz35_1
             try clear hfz35_2
             try clear hfz35_3
             try clear hfz40_0
             try clear hfz40_1
             try clear hfz40_2
             try clear hfz40_3
             try clear hfz41_0
             try clear hfz41_1
             try clear hfz41_2
             try clear hfz41_3
             try clear hfz46_0
             try clear hfz46_1
             try clear hfz46_2
             try clear hfz46_3
             try clear hfz54_0
             try clear hfz54_1
             try clear hfz54_2
             try clear hfz54_3
             try clear hfz68_0
             try clear hfz68_1
             try clear hfz68_2
             try clear hfz68_3
             try clear hfz70_0
             try clear hfz70_1
             try clear hfz70_2
             try clear hfz70_3
             try clear hfz71_0
             try clear hfz71_1
             try clear hfz71_2
             try clear hfz71_3
             try clear hfz73_0
             try clear hfz73_1
             try clear hfz73_2
             try clear hfz73_3
             try clear hfz75_0
             try clear hfz75_1
             try clear hfz75_2
             try clear hfz75_3
             try clear hfz76_0
             try clear hfz76_1
             try clear hfz76_2
             try clear hfz76_3
             try clear hfz78_0
             try clear hfz78_1
             try clear hfz78_2
             try clear hfz78_3
             try clear hfz80_0
             try clear hfz80_1
             try clear hfz80_2
             try clear hfz80_3
             try clear hfz81_0
             try clear hfz81_1
             try clear hfz81_2
             try clear hfz81_3
             try clear hfz83_0
             try clear hfz83_1
             try clear hfz83_2
             try clear hfz83_3
             try clear hx347_0
             try clear hx371_0
             try clear hx372_0
             try clear p2
             try clear p347
             try clear p371
             try clear p372
             try clear q347
             try clear q371
             try clear q372
             obtain ⟨kq, x113_44, rfl, HA, HJ44, HO_370001, HO_370002, HO_370003, BK322, BK369, HB⟩ := hcut
             cases kq with
             | zero => exact absurd HA.out (by simp [concordlaw08_NodeKids.j3])
             | succ kj44 =>
              have H := HA.out
              clear HA
              simp only [concordlaw08_NodeKids.j3] at H
              by_cases c85 : x113_44 = true
              ·subst c85
               have H1 : (some false) = some r := by rw [if_pos rfl] at H; exact H
               clear H
               have H := H1
               clear H1
               obtain rfl := Option.some.inj H
               go_wp2
               go_ret
               exact ⟨by first | rfl | (simp [errW_none, errW_some] <;> rfl) | (simp [*, errW_none, errW_some] <;> rfl), by exact qS2 HB GE322 GE369⟩
              ·replace c85 := Bool.eq_false_iff.mpr c85
               subst c85
               have H1 : ((node_Shrink.f t358 t359 t362 t365 t346).bind fun bt373 => (if bt373.2.2.2.2 = 0 then ((concordref08_Same.f kj44 bt373.1 bt373.2.1 bt373.2.2.1 bt373.2.2.2.1 a0_0 l0_1 l0_2 l0_3).bind fun t385 => (some t385)) else (some false))) = some r := by rw [if_neg (show ¬ (false = true) by decide)] at H; exact H
               clear H
               have H := H1
               clear H1
               replace H := Option.bind_eq_some_iff.mp H
               obtain ⟨⟨t373, t374, t377, t380, t383⟩, A860, H⟩ := H
               replace H : (if t383 = 0 then ((concordref08_Same.f kj44 t373 t374 t377 t380 a0_0 l0_1 l0_2 l0_3).bind fun t385 => (some t385)) else (some false)) = some r := H
               have A86 := Aside0.mk A860
               clear A860
               by_cases c87 : t383 = 0
               ·rw [if_pos c87] at H
                have c87b0 : (t383 == 0) = true := beq_iff_eq.mpr c87
                have c87b1 : (t383 != 0) = false := bne_eq_false_iff_eq.mpr c87
                clear c87
                replace H := Option.bind_eq_some_iff.mp H
                obtain ⟨t385, A880, H⟩ := H
                replace H : (some t385) = some r := H
                have A88 := Aside0.mk A880
                clear A880
                obtain rfl := Option.some.inj H
                have hnb89 := NB369_322.out
                have hnc89 := NB322_369.out
                obtain ⟨hcz90_0, hcz90_1, hcz90_2, hcz90_3⟩ := qc4 BK369
                obtain ⟨hfz90_0, hfz90_1, hfz90_2, hfz90_3⟩ := qf4 BK369
                go_wp2_with (first | ((with_reducible refine gate_callee (f := 42) rfl ?_); refine goesL_ (some 117) rfl rfl Try.func42 (by kernel_rfl) rfl #[.agg #[.bool t358, .slice Ao55 t359.length co55, .slice Ao56 t362.length co56, .slice Ao57 t365.length co57], .int .i64 t346] rfl (by (try simp only [List.map_toArray, List.map_cons, List.map_nil]); first | done | rfl | (simp only [List.length_drop, List.length_take]; rfl)) ?_; (with_reducible refine (node_Shrink.calls t358 _ _ t359 _ _ t362 _ _ t365 t346 t373 t374 t377 t380 t383 _ ?side1 ?side2 ?side3 ?side4 ?side5 ?side6 A86.out).mono ?_); (case side1 => exact sC HO_370001); (case side2 => exact sN HO_370001); (case side3 => exact sC HO_370002); (case side4 => exact sN HO_370002); (case side5 => exact sC HO_370003); (case side6 => exact sN HO_370003); rintro e w91 ⟨v375, v378, v381, rfl, ho0, ho1, ho2, hb⟩; refine ⟨_, rfl, ?_⟩; have n0_ := sEl HO_370001 (Kd.R_base ho0) hb; have n1_ := sEl HO_370002 (Kd.R_base ho1) hb; have n2_ := sEl HO_370003 (Kd.R_base ho2) hb; have n3_ := Aside0.mk (Kd.R_lower (Kd.R_new' ho0 (sLt HO_370001)) (below_size (by exact qS2 HB GE322 GE369))); have n4_ := Aside0.mk (Kd.R_lower (Kd.R_new' ho1 (sLt HO_370002)) (below_size (by exact qS2 HB GE322 GE369))); have n5_ := Aside0.mk (Kd.R_lower (Kd.R_new' ho2 (sLt HO_370003)) (below_size (by exact qS2 HB GE322 GE369))); have n6_ := Aside0.mk (blk_below (g := gb322) (o := .cells #[.bool a0_0, .slice A0_1 l0_1.length c0_1, .slice A0_2 l0_2.length c0_2, .slice A0_3 l0_3.length c0_3] 26 (0, 0)) (qB BK322) hb); have n7_ := Aside0.mk (blk_below (g := gb369) (o := .cells #[.bool t358, .slice Ao55 t359.length co55, .slice Ao56 t362.length co56, .slice Ao57 t365.length co57] 26 (0, 0)) (qB BK369) hb); have n8_ := Aside0.mk (below_step (by exact qS2 HB GE322 GE369) hb); clear HO_370001; clear HO_370002; clear HO_370003; clear BK322; clear BK369; clear HB; have HO_370001 := n0_; have HO_370002 := n1_; have HO_370003 := n2_; have HO376 := n3_; have HO379 := n4_; have HO382 := n5_; have BK322 := n6_; have BK369 := n7_; have HB := n8_; clear n0_ n1_ n2_ n3_ n4_ n5_ n6_ n7_ n8_; (try clear hb); (try clear hb2); (try clear hk); (try clear hi); (try clear ho0); (try clear ho1); (try clear ho2)) | ((with_reducible refine gate_dst (N := 11) rfl ?_); (try (refine gate_guard (by rfl) ?_; dsimp only)); refine box_event ?hg (N := 11) ?hd (cs := #[.bool false, .slice none 0 0, .slice none 0 0, .slice none 0 0]) (t := 26) ?hr ?_; (case hd => rfl); (case hg => rfl); (case hr => first | (go_simp; done) | (go_simp; rfl)); intro gb384 hg w92 hbox hb; have n0_ := sBe HO_370001 hb; have n1_ := sBe HO_370002 hb; have n2_ := sBe HO_370003 hb; have n3_ := sBe HO376 hb; have n4_ := sBe HO379 hb; have n5_ := sBe HO382 hb; have n6_ := Aside0.mk (blk_below (g := gb322) (o := .cells #[.bool a0_0, .slice A0_1 l0_1.length c0_1, .slice A0_2 l0_2.length c0_2, .slice A0_3 l0_3.length c0_3] 26 (0, 0)) (qB BK322) hb); have n7_ := Aside0.mk (blk_below (g := gb369) (o := .cells #[.bool t358, .slice Ao55 t359.length co55, .slice Ao56 t362.length co56, .slice Ao57 t365.length co57] 26 (0, 0)) (qB BK369) hb); have n8_ := Aside0.mk (below_step (by exact qS2 HB GE322 GE369) hb); have n9_ := Aside0.mk (hbox); have n10_ := Aside0.mk ((by rw [hg]; exact (below_size (by exact qS2 HB GE322 GE369)) : w.heap.size ≤ gb384)); have n11_ := Aside0.mk ((by rw [hg]; exact (below_size (by exact qS2 HB GE322 GE369)) : w.heap.size ≤ gb384)); have n12_ := Aside0.mk ((by rw [hg]; exact Nat.ne_of_lt (blk_lt (g := gb322) (o := .cells #[.bool a0_0, .slice A0_1 l0_1.length c0_1, .slice A0_2 l0_2.length c0_2, .slice A0_3 l0_3.length c0_3] 26 (0, 0)) (qB BK322)) : gb322 ≠ gb384)); have n13_ := Aside0.mk ((by rw [hg]; exact Nat.ne_of_gt (blk_lt (g := gb322) (o := .cells #[.bool a0_0, .slice A0_1 l0_1.length c0_1, .slice A0_2 l0_2.length c0_2, .slice A0_3 l0_3.length c0_3] 26 (0, 0)) (qB BK322)) : gb384 ≠ gb322)); have n14_ := Aside0.mk ((by rw [hg]; exact Nat.ne_of_lt (blk_lt (g := gb369) (o := .cells #[.bool t358, .slice Ao55 t359.length co55, .slice Ao56 t362.length co56, .slice Ao57 t365.length co57] 26 (0, 0)) (qB BK369)) : gb369 ≠ gb384)); have n15_ := Aside0.mk ((by rw [hg]; exact Nat.ne_of_gt (blk_lt (g := gb369) (o := .cells #[.bool t358, .slice Ao55 t359.length co55, .slice Ao56 t362.length co56, .slice Ao57 t365.length co57] 26 (0, 0)) (qB BK369)) : gb384 ≠ gb369)); clear HO_370001; clear HO_370002; clear HO_370003; clear HO376; clear HO379; clear HO382; clear BK322; clear BK369; clear HB; have HO_370001 := n0_; have HO_370002 := n1_; have HO_370003 := n2_; have HO376 := n3_; have HO379 := n4_; have HO382 := n5_; have BK322 := n6_; have BK369 := n7_; have HB := n8_; have BK384 := n9_; have GW384 := n10_; have GE384 := n11_; have NB322_384 := n12_; have NB384_322 := n13_; have NB369_384 := n14_; have NB384_369 := n15_; clear n0_ n1_ n2_ n3_ n4_ n5_ n6_ n7_ n8_ n9_ n10_ n11_ n12_ n13_ n14_ n15_; clear hb hbox hg; have hnb93 := NB384_322.out; have hnc93 := NB322_384.out; have hnb94 := NB384_369.out; have hnc94 := NB369_384.out; obtain ⟨hcz95_0, hcz95_1, hcz95_2, hcz95_3⟩ := qc4 BK384; obtain ⟨hfz95_0, hfz95_1, hfz95_2, hfz95_3⟩ := qf4 BK384; obtain ⟨Ao96, co96, eo96⟩ := Kd.R_slice HO376.out; subst eo96; obtain ⟨Ao97, co97, eo97⟩ := Kd.R_slice HO379.out; subst eo97; obtain ⟨Ao98, co98, eo98⟩ := Kd.R_slice HO382.out; subst eo98; obtain ⟨hcz99_0, hcz99_1, hcz99_2, hcz99_3⟩ := qc4 BK322; obtain ⟨hfz99_0, hfz99_1, hfz99_2, hfz99_3⟩ := qf4 BK322) | (go_at_call 25; (with_reducible refine (concordref08_Same.calls kj44 t373 _ _ t374 _ _ t377 _ _ t380 a0_0 _ _ l0_1 _ _ l0_2 _ _ l0_3 t385 _ ?side1 ?side2 ?side3 ?side4 ?side5 ?side6 ?side7 ?side8 ?side9 ?side10 ?side11 ?side12 A88.out).mono ?_); (case side1 => refine (Kd.R_reads' (e := 66) (base := w.heap.size) (ok := fun k_ => (True ∧ some k_ ≠ (.slice Ao55 t359.length co55 : Value).ownBlock)) (n := t374.length) (c := co96) ?_).2.2; exact (by (with_reducible repeat (first | apply Kd.R_alloc | apply Kd.R_drewN | apply Kd.R_drew)); exact (Kd.R_mono (Kd.R_far (p := ⟨gb384, 3, none⟩) (Kd.R_far (p := ⟨gb384, 2, none⟩) (Kd.R_far (p := ⟨gb384, 1, none⟩) (Kd.R_far (p := ⟨gb384, 0, none⟩) (Kd.R_types HO376.out BK384.out (by decide)) (fun _ hk => hk.2) (.bool t373)) (fun _ hk => hk.2) (.slice Ao96 t374.length co96)) (fun _ hk => hk.2) (.slice Ao97 t377.length co97)) (fun _ hk => hk.2) (.slice Ao98 t380.length co98)) (fun _ h_ => h_.1)))); (case side2 => exact sN HO376); (case side3 => refine (Kd.R_reads' (e := 9) (base := w.heap.size) (ok := fun k_ => (True ∧ some k_ ≠ (.slice Ao56 t362.length co56 : Value).ownBlock)) (n := t377.length) (c := co97) ?_).2.2; exact (by (with_reducible repeat (first | apply Kd.R_alloc | apply Kd.R_drewN | apply Kd.R_drew)); exact (Kd.R_mono (Kd.R_far (p := ⟨gb384, 3, none⟩) (Kd.R_far (p := ⟨gb384, 2, none⟩) (Kd.R_far (p := ⟨gb384, 1, none⟩) (Kd.R_far (p := ⟨gb384, 0, none⟩) (Kd.R_types HO379.out BK384.out (by decide)) (fun _ hk => hk.2) (.bool t373)) (fun _ hk => hk.2) (.slice Ao96 t374.length co96)) (fun _ hk => hk.2) (.slice Ao97 t377.length co97)) (fun _ hk => hk.2) (.slice Ao98 t380.length co98)) (fun _ h_ => h_.1)))); (case side4 => exact sN HO379); (case side5 => refine (Kd.R_reads' (e := 45) (base := w.heap.size) (ok := fun k_ => (True ∧ some k_ ≠ (.slice Ao57 t365.length co57 : Value).ownBlock)) (n := t380.length) (c := co98) ?_).2.2; exact (by (with_reducible repeat (first | apply Kd.R_alloc | apply Kd.R_drewN | apply Kd.R_drew)); exact (Kd.R_mono (Kd.R_far (p := ⟨gb384, 3, none⟩) (Kd.R_far (p := ⟨gb384, 2, none⟩) (Kd.R_far (p := ⟨gb384, 1, none⟩) (Kd.R_far (p := ⟨gb384, 0, none⟩) (Kd.R_types HO382.out BK384.out (by decide)) (fun _ hk => hk.2) (.bool t373)) (fun _ hk => hk.2) (.slice Ao96 t374.length co96)) (fun _ hk => hk.2) (.slice Ao97 t377.length co97)) (fun _ hk => hk.2) (.slice Ao98 t380.length co98)) (fun _ h_ => h_.1)))); (case side6 => exact sN HO382); (case side7 => exact Kd.C_below HR0_1.out (by exact qS3 HB GE322 GE369 GE384)); (case side8 => exact HC0_1.out); (case side9 => exact Kd.C_below HR0_2.out (by exact qS3 HB GE322 GE369 GE384)); (case side10 => exact HC0_2.out); (case side11 => exact Kd.C_below HR0_3.out (by exact qS3 HB GE322 GE369 GE384)); (case side12 => exact HC0_3.out); rintro e w100 ⟨rfl, hb⟩; have n0_ := Aside0.mk (Kd.R_below (by (with_reducible repeat (first | apply Kd.R_alloc | apply Kd.R_drewN | apply Kd.R_drew)); exact (Kd.R_mono (Kd.R_far (p := ⟨gb384, 3, none⟩) (Kd.R_far (p := ⟨gb384, 2, none⟩) (Kd.R_far (p := ⟨gb384, 1, none⟩) (Kd.R_far (p := ⟨gb384, 0, none⟩) (Kd.R_types HO_370001.out BK384.out (by decide)) (fun _ hk => hk.2) (.bool t373)) (fun _ hk => hk.2) (.slice Ao96 t374.length co96)) (fun _ hk => hk.2) (.slice Ao97 t377.length co97)) (fun _ hk => hk.2) (.slice Ao98 t380.length co98)) (fun _ h_ => h_.1))) hb); have n1_ := Aside0.mk (Kd.R_below (by (with_reducible repeat (first | apply Kd.R_alloc | apply Kd.R_drewN | apply Kd.R_drew)); exact (Kd.R_mono (Kd.R_far (p := ⟨gb384, 3, none⟩) (Kd.R_far (p := ⟨gb384, 2, none⟩) (Kd.R_far (p := ⟨gb384, 1, none⟩) (Kd.R_far (p := ⟨gb384, 0, none⟩) (Kd.R_types HO_370002.out BK384.out (by decide)) (fun _ hk => hk.2) (.bool t373)) (fun _ hk => hk.2) (.slice Ao96 t374.length co96)) (fun _ hk => hk.2) (.slice Ao97 t377.length co97)) (fun _ hk => hk.2) (.slice Ao98 t380.length co98)) (fun _ h_ => h_.1))) hb); have n2_ := Aside0.mk (Kd.R_below (by (with_reducible repeat (first | apply Kd.R_alloc | apply Kd.R_drewN | apply Kd.R_drew)); exact (Kd.R_mono (Kd.R_far (p := ⟨gb384, 3, none⟩) (Kd.R_far (p := ⟨gb384, 2, none⟩) (Kd.R_far (p := ⟨gb384, 1, none⟩) (Kd.R_far (p := ⟨gb384, 0, none⟩) (Kd.R_types HO_370003.out BK384.out (by decide)) (fun _ hk => hk.2) (.bool t373)) (fun _ hk => hk.2) (.slice Ao96 t374.length co96)) (fun _ hk => hk.2) (.slice Ao97 t377.length co97)) (fun _ hk => hk.2) (.slice Ao98 t380.length co98)) (fun _ h_ => h_.1))) hb); have n3_ := Aside0.mk (Kd.R_below (by (with_reducible repeat (first | apply Kd.R_alloc | apply Kd.R_drewN | apply Kd.R_drew)); exact (Kd.R_mono (Kd.R_far (p := ⟨gb384, 3, none⟩) (Kd.R_far (p := ⟨gb384, 2, none⟩) (Kd.R_far (p := ⟨gb384, 1, none⟩) (Kd.R_far (p := ⟨gb384, 0, none⟩) (Kd.R_types HO376.out BK384.out (by decide)) (fun _ hk => hk.2) (.bool t373)) (fun _ hk => hk.2) (.slice Ao96 t374.length co96)) (fun _ hk => hk.2) (.slice Ao97 t377.length co97)) (fun _ hk => hk.2) (.slice Ao98 t380.length co98)) (fun _ h_ => h_.1))) hb); have n4_ := Aside0.mk (Kd.R_below (by (with_reducible repeat (first | apply Kd.R_alloc | apply Kd.R_drewN | apply Kd.R_drew)); exact (Kd.R_mono (Kd.R_far (p := ⟨gb384, 3, none⟩) (Kd.R_far (p := ⟨gb384, 2, none⟩) (Kd.R_far (p := ⟨gb384, 1, none⟩) (Kd.R_far (p := ⟨gb384, 0, none⟩) (Kd.R_types HO379.out BK384.out (by decide)) (fun _ hk => hk.2) (.bool t373)) (fun _ hk => hk.2) (.slice Ao96 t374.length co96)) (fun _ hk => hk.2) (.slice Ao97 t377.length co97)) (fun _ hk => hk.2) (.slice Ao98 t380.length co98)) (fun _ h_ => h_.1))) hb); have n5_ := Aside0.mk (Kd.R_below (by (with_reducible repeat (first | apply Kd.R_alloc | apply Kd.R_drewN | apply Kd.R_drew)); exact (Kd.R_mono (Kd.R_far (p := ⟨gb384, 3, none⟩) (Kd.R_far (p := ⟨gb384, 2, none⟩) (Kd.R_far (p := ⟨gb384, 1, none⟩) (Kd.R_far (p := ⟨gb384, 0, none⟩) (Kd.R_types HO382.out BK384.out (by decide)) (fun _ hk => hk.2) (.bool t373)) (fun _ hk => hk.2) (.slice Ao96 t374.length co96)) (fun _ hk => hk.2) (.slice Ao97 t377.length co97)) (fun _ hk => hk.2) (.slice Ao98 t380.length co98)) (fun _ h_ => h_.1))) hb); have n6_ := Aside0.mk (blk_below (g := gb322) (o := .cells #[.bool a0_0, .slice A0_1 l0_1.length c0_1, .slice A0_2 l0_2.length c0_2, .slice A0_3 l0_3.length c0_3] 26 (0, 0)) (by (with_reducible repeat (first | refine blk_drewN ?_ _ | refine blk_drew ?_ | refine blk_alloc ?_ _)); refine blk_far ?_ NB322_384.out _; (with_reducible repeat (first | refine blk_drewN ?_ _ | refine blk_drew ?_ | refine blk_alloc ?_ _)); refine blk_far ?_ NB322_384.out _; (with_reducible repeat (first | refine blk_drewN ?_ _ | refine blk_drew ?_ | refine blk_alloc ?_ _)); refine blk_far ?_ NB322_384.out _; (with_reducible repeat (first | refine blk_drewN ?_ _ | refine blk_drew ?_ | refine blk_alloc ?_ _)); refine blk_far ?_ NB322_384.out _; (with_reducible repeat (first | refine blk_drewN ?_ _ | refine blk_drew ?_ | refine blk_alloc ?_ _)); exact BK322.out) hb); have n7_ := Aside0.mk (blk_below (g := gb369) (o := .cells #[.bool t358, .slice Ao55 t359.length co55, .slice Ao56 t362.length co56, .slice Ao57 t365.length co57] 26 (0, 0)) (by (with_reducible repeat (first | refine blk_drewN ?_ _ | refine blk_drew ?_ | refine blk_alloc ?_ _)); refine blk_far ?_ NB369_384.out _; (with_reducible repeat (first | refine blk_drewN ?_ _ | refine blk_drew ?_ | refine blk_alloc ?_ _)); refine blk_far ?_ NB369_384.out _; (with_reducible repeat (first | refine blk_drewN ?_ _ | refine blk_drew ?_ | refine blk_alloc ?_ _)); refine blk_far ?_ NB369_384.out _; (with_reducible repeat (first | refine blk_drewN ?_ _ | refine blk_drew ?_ | refine blk_alloc ?_ _)); refine blk_far ?_ NB369_384.out _; (with_reducible repeat (first | refine blk_drewN ?_ _ | refine blk_drew ?_ | refine blk_alloc ?_ _)); exact BK369.out) hb); have n8_ := Aside0.mk (blk_below (g := gb384) (o := .cells #[.bool t373, .slice Ao96 t374.length co96, .slice Ao97 t377.length co97, .slice Ao98 t380.length co98] 26 (0, 0)) (by (with_reducible repeat (first | refine blk_drewN ?_ _ | refine blk_drew ?_ | refine blk_alloc ?_ _)); refine blk_put (cs := #[.bool t373, .slice Ao96 t374.length co96, .slice Ao97 t377.length co97, .slice none 0 0]) ?_ 3 _ rfl; (with_reducible repeat (first | refine blk_drewN ?_ _ | refine blk_drew ?_ | refine blk_alloc ?_ _)); refine blk_put (cs := #[.bool t373, .slice Ao96 t374.length co96, .slice none 0 0, .slice none 0 0]) ?_ 2 _ rfl; (with_reducible repeat (first | refine blk_drewN ?_ _ | refine blk_drew ?_ | refine blk_alloc ?_ _)); refine blk_put (cs := #[.bool t373, .slice none 0 0, .slice none 0 0, .slice none 0 0]) ?_ 1 _ rfl; (with_reducible repeat (first | refine blk_drewN ?_ _ | refine blk_drew ?_ | refine blk_alloc ?_ _)); refine blk_put (cs := #[.bool false, .slice none 0 0, .slice none 0 0, .slice none 0 0]) ?_ 0 _ rfl; (with_reducible repeat (first | refine blk_drewN ?_ _ | refine blk_drew ?_ | refine blk_alloc ?_ _)); exact BK384.out) hb); have n9_ := Aside0.mk (below_step (by exact qS3 HB GE322 GE369 GE384) hb); clear HO_370001; clear HO_370002; clear HO_370003; clear HO376; clear HO379; clear HO382; clear BK322; clear BK369; clear BK384; clear HB; have HO_370001 := n0_; have HO_370002 := n1_; have HO_370003 := n2_; have HO376 := n3_; have HO379 := n4_; have HO382 := n5_; have BK322 := n6_; have BK369 := n7_; have BK384 := n8_; have HB := n9_; clear n0_ n1_ n2_ n3_ n4_ n5_ n6_ n7_ n8_ n9_; (try clear hb); (try clear hb2); (try clear hk); (try clear hi)))
                go_ret
                exact ⟨by first | rfl | (simp [errW_none, errW_some] <;> rfl) | (simp [*, errW_none, errW_some] <;> rfl), by exact qS3 HB GE322 GE369 GE384⟩
               ·rw [if_neg c87] at H
                have c87b0 : (t383 == 0) = false := beq_eq_false_iff_ne.mpr c87
                have c87b1 : (t383 != 0) = true := bne_iff_ne.mpr c87
                obtain rfl := Option.some.inj H
                have hnb101 := NB369_322.out
                have hnc101 := NB322_369.out
                obtain ⟨hcz102_0, hcz102_1, hcz102_2, hcz102_3⟩ := qc4 BK369
                obtain ⟨hfz102_0, hfz102_1, hfz102_2, hfz102_3⟩ := qf4 BK369
                go_wp2_with (first | ((with_reducible refine gate_callee (f := 42) rfl ?_); refine goesL_ (some 117) rfl rfl Try.func42 (by kernel_rfl) rfl #[.agg #[.bool t358, .slice Ao55 t359.length co55, .slice Ao56 t362.length co56, .slice Ao57 t365.length co57], .int .i64 t346] rfl (by (try simp only [List.map_toArray, List.map_cons, List.map_nil]); first | done | rfl | (simp only [List.length_drop, List.length_take]; rfl)) ?_; (with_reducible refine (node_Shrink.calls t358 _ _ t359 _ _ t362 _ _ t365 t346 t373 t374 t377 t380 t383 _ ?side1 ?side2 ?side3 ?side4 ?side5 ?side6 A86.out).mono ?_); (case side1 => exact sC HO_370001); (case side2 => exact sN HO_370001); (case side3 => exact sC HO_370002); (case side4 => exact sN HO_370002); (case side5 => exact sC HO_370003); (case side6 => exact sN HO_370003); rintro e w103 ⟨v375, v378, v381, rfl, ho0, ho1, ho2, hb⟩; refine ⟨_, rfl, ?_⟩; have n0_ := sEl HO_370001 (Kd.R_base ho0) hb; have n1_ := sEl HO_370002 (Kd.R_base ho1) hb; have n2_ := sEl HO_370003 (Kd.R_base ho2) hb; have n3_ := Aside0.mk (Kd.R_lower (Kd.R_new' ho0 (sLt HO_370001)) (below_size (by exact qS2 HB GE322 GE369))); have n4_ := Aside0.mk (Kd.R_lower (Kd.R_new' ho1 (sLt HO_370002)) (below_size (by exact qS2 HB GE322 GE369))); have n5_ := Aside0.mk (Kd.R_lower (Kd.R_new' ho2 (sLt HO_370003)) (below_size (by exact qS2 HB GE322 GE369))); have n6_ := Aside0.mk (blk_below (g := gb322) (o := .cells #[.bool a0_0, .slice A0_1 l0_1.length c0_1, .slice A0_2 l0_2.length c0_2, .slice A0_3 l0_3.length c0_3] 26 (0, 0)) (qB BK322) hb); have n7_ := Aside0.mk (blk_below (g := gb369) (o := .cells #[.bool t358, .slice Ao55 t359.length co55, .slice Ao56 t362.length co56, .slice Ao57 t365.length co57] 26 (0, 0)) (qB BK369) hb); have n8_ := Aside0.mk (below_step (by exact qS2 HB GE322 GE369) hb); clear HO_370001; clear HO_370002; clear HO_370003; clear BK322; clear BK369; clear HB; have HO_370001 := n0_; have HO_370002 := n1_; have HO_370003 := n2_; have HO376 := n3_; have HO379 := n4_; have HO382 := n5_; have BK322 := n6_; have BK369 := n7_; have HB := n8_; clear n0_ n1_ n2_ n3_ n4_ n5_ n6_ n7_ n8_; (try clear hb); (try clear hb2); (try clear hk); (try clear hi); (try clear ho0); (try clear ho1); (try clear ho2)) | ((with_reducible refine gate_dst (N := 11) rfl ?_); (try (refine gate_guard (by rfl) ?_; dsimp only)); refine box_event ?hg (N := 11) ?hd (cs := #[.bool false, .slice none 0 0, .slice none 0 0, .slice none 0 0]) (t := 26) ?hr ?_; (case hd => rfl); (case hg => rfl); (case hr => first | (go_simp; done) | (go_simp; rfl)); intro gb384 hg w104 hbox hb; have n0_ := sBe HO_370001 hb; have n1_ := sBe HO_370002 hb; have n2_ := sBe HO_370003 hb; have n3_ := sBe HO376 hb; have n4_ := sBe HO379 hb; have n5_ := sBe HO382 hb; have n6_ := Aside0.mk (blk_below (g := gb322) (o := .cells #[.bool a0_0, .slice A0_1 l0_1.length c0_1, .slice A0_2 l0_2.length c0_2, .slice A0_3 l0_3.length c0_3] 26 (0, 0)) (qB BK322) hb); have n7_ := Aside0.mk (blk_below (g := gb369) (o := .cells #[.bool t358, .slice Ao55 t359.length co55, .slice Ao56 t362.length co56, .slice Ao57 t365.length co57] 26 (0, 0)) (qB BK369) hb); have n8_ := Aside0.mk (below_step (by exact qS2 HB GE322 GE369) hb); have n9_ := Aside0.mk (hbox); have n10_ := Aside0.mk ((by rw [hg]; exact (below_size (by exact qS2 HB GE322 GE369)) : w.heap.size ≤ gb384)); have n11_ := Aside0.mk ((by rw [hg]; exact (below_size (by exact qS2 HB GE322 GE369)) : w.heap.size ≤ gb384)); have n12_ := Aside0.mk ((by rw [hg]; exact Nat.ne_of_lt (blk_lt (g := gb322) (o := .cells #[.bool a0_0, .slice A0_1 l0_1.length c0_1, .slice A0_2 l0_2.length c0_2, .slice A0_3 l0_3.length c0_3] 26 (0, 0)) (qB BK322)) : gb322 ≠ gb384)); have n13_ := Aside0.mk ((by rw [hg]; exact Nat.ne_of_gt (blk_lt (g := gb322) (o := .cells #[.bool a0_0, .slice A0_1 l0_1.length c0_1, .slice A0_2 l0_2.length c0_2, .slice A0_3 l0_3.length c0_3] 26 (0, 0)) (qB BK322)) : gb384 ≠ gb322)); have n14_ := Aside0.mk ((by rw [hg]; exact Nat.ne_of_lt (blk_lt (g := gb369) (o := .cells #[.bool t358, .slice Ao55 t359.length co55, .slice Ao56 t362.length co56, .slice Ao57 t365.length co57] 26 (0, 0)) (qB BK369)) : gb369 ≠ gb384)); have n15_ := Aside0.mk ((by rw [hg]; exact Nat.ne_of_gt (blk_lt (g := gb369) (o := .cells #[.bool t358, .slice Ao55 t359.length co55, .slice Ao56 t362.length co56, .slice Ao57 t365.length co57] 26 (0, 0)) (qB BK369)) : gb384 ≠ gb369)); clear HO_370001; clear HO_370002; clear HO_370003; clear HO376; clear HO379; clear HO382; clear BK322; clear BK369; clear HB; have HO_370001 := n0_; have HO_370002 := n1_; have HO_370003 := n2_; have HO376 := n3_; have HO379 := n4_; have HO382 := n5_; have BK322 := n6_; have BK369 := n7_; have HB := n8_; have BK384 := n9_; have GW384 := n10_; have GE384 := n11_; have NB322_384 := n12_; have NB384_322 := n13_; have NB369_384 := n14_; have NB384_369 := n15_; clear n0_ n1_ n2_ n3_ n4_ n5_ n6_ n7_ n8_ n9_ n10_ n11_ n12_ n13_ n14_ n15_; clear hb hbox hg; have hnb105 := NB384_322.out; have hnc105 := NB322_384.out; have hnb106 := NB384_369.out; have hnc106 := NB369_384.out; obtain ⟨hcz107_0, hcz107_1, hcz107_2, hcz107_3⟩ := qc4 BK384; obtain ⟨hfz107_0, hfz107_1, hfz107_2, hfz107_3⟩ := qf4 BK384; obtain ⟨Ao108, co108, eo108⟩ := Kd.R_slice HO376.out; subst eo108; obtain ⟨Ao109, co109, eo109⟩ := Kd.R_slice HO379.out; subst eo109; obtain ⟨Ao110, co110, eo110⟩ := Kd.R_slice HO382.out; subst eo110))
                go_ret
                exact ⟨by first | rfl | (simp [errW_none, errW_some] <;> rfl) | (simp [*, errW_none, errW_some] <;> rfl), by exact qS3 HB GE322 GE369 GE384⟩
           ·rw [if_neg c44] at H
            have c44b0 : (t368 == 0) = false := beq_eq_false_iff_ne.mpr c44
            have c44b1 : (t368 != 0) = true := bne_iff_ne.mpr c44
            by_cases c111 : t368 = 1
            ·rw [if_pos c111] at H
             have c111b0 : (t368 == 1) = true := beq_iff_eq.mpr c111
             have c111b1 : (t368 != 1) = false := bne_eq_false_iff_eq.mpr c111
             clear c111
             obtain rfl := Option.some.inj H
             obtain ⟨hcz112_0, hcz112_1, hcz112_2, hcz112_3⟩ := qc4 BK322
             obtain ⟨hfz112_0, hfz112_1, hfz112_2, hfz112_3⟩ := qf4 BK322
             go_wp2_with (first | ((with_reducible refine gate_callee (f := 22) rfl ?_); refine goesL_ (some 60) rfl rfl Try.func22 (by kernel_rfl) rfl #[.agg #[.bool a0_0, .slice A0_1 l0_1.length c0_1, .slice A0_2 l0_2.length c0_2, .slice A0_3 l0_3.length c0_3]] rfl (by (try simp only [List.map_toArray, List.map_cons, List.map_nil]); first | done | rfl | (simp only [List.length_drop, List.length_take]; rfl)) ?_; (with_reducible refine (concordlaw08_twin.calls a0_0 _ _ l0_1 _ _ l0_2 _ _ l0_3 t348 t349 t352 t355 _ ?side1 ?side2 ?side3 ?side4 ?side5 ?side6 A42.out).mono ?_); (case side1 => exact qC HR0_1 HB); (case side2 => exact HC0_1.out); (case side3 => exact qC HR0_2 HB); (case side4 => exact HC0_2.out); (case side5 => exact qC HR0_3 HB); (case side6 => exact HC0_3.out); rintro e w113 ⟨v350, v353, v356, rfl, ho0, ho1, ho2, hb⟩; refine ⟨_, rfl, ?_⟩; have n0_ := Aside0.mk (Kd.R_lower ho0 (below_size (by exact qS1 HB GE322))); have n1_ := Aside0.mk (Kd.R_lower ho1 (below_size (by exact qS1 HB GE322))); have n2_ := Aside0.mk (Kd.R_lower ho2 (below_size (by exact qS1 HB GE322))); have n3_ := Aside0.mk (blk_below (g := gb322) (o := .cells #[.bool a0_0, .slice A0_1 l0_1.length c0_1, .slice A0_2 l0_2.length c0_2, .slice A0_3 l0_3.length c0_3] 26 (0, 0)) (qB BK322) hb); have n4_ := Aside0.mk (below_step (by exact qS1 HB GE322) hb); clear BK322; clear HB; have HO351 := n0_; have HO354 := n1_; have HO357 := n2_; have BK322 := n3_; have HB := n4_; clear n0_ n1_ n2_ n3_ n4_; (try clear hb); (try clear hb2); (try clear hk); (try clear hi); (try clear ho0); (try clear ho1); (try clear ho2); obtain ⟨Ao114, co114, eo114⟩ := Kd.R_slice HO351.out; subst eo114; obtain ⟨Ao115, co115, eo115⟩ := Kd.R_slice HO354.out; subst eo115; obtain ⟨Ao116, co116, eo116⟩ := Kd.R_slice HO357.out; subst eo116) | ((with_reducible refine gate_callee (f := 38) rfl ?_); refine goesL_ (some 64) rfl rfl Try.func38 (by kernel_rfl) rfl #[.agg #[.bool t348, .slice Ao114 t349.length co114, .slice Ao115 t352.length co115, .slice Ao116 t355.length co116], .int .i64 t346, .string a1, .int .u32 a2] rfl (by (try simp only [List.map_toArray, List.map_cons, List.map_nil]); first | done | rfl | (simp only [List.length_drop, List.length_take]; rfl)) ?_; (with_reducible refine (node_Grow.calls t348 _ _ t349 _ _ t352 _ _ t355 t346 a1 a2 t358 t359 t362 t365 t368 _ ?side1 ?side2 ?side3 ?side4 ?side5 ?side6 A43.out).mono ?_); (case side1 => exact sC HO351); (case side2 => exact sN HO351); (case side3 => exact sC HO354); (case side4 => exact sN HO354); (case side5 => exact sC HO357); (case side6 => exact sN HO357); rintro e w117 ⟨v360, v363, v366, rfl, ho0, ho1, ho2, hb⟩; refine ⟨_, rfl, ?_⟩; have n0_ := sEl HO351 (Kd.R_base ho0) hb; have n1_ := sEl HO354 (Kd.R_base ho1) hb; have n2_ := sEl HO357 (Kd.R_base ho2) hb; have n3_ := Aside0.mk (Kd.R_lower (Kd.R_new' ho0 (sLt HO351)) (below_size (by exact qS1 HB GE322))); have n4_ := Aside0.mk (Kd.R_lower (Kd.R_new' ho1 (sLt HO354)) (below_size (by exact qS1 HB GE322))); have n5_ := Aside0.mk (Kd.R_lower (Kd.R_new' ho2 (sLt HO357)) (below_size (by exact qS1 HB GE322))); have n6_ := Aside0.mk (blk_below (g := gb322) (o := .cells #[.bool a0_0, .slice A0_1 l0_1.length c0_1, .slice A0_2 l0_2.length c0_2, .slice A0_3 l0_3.length c0_3] 26 (0, 0)) (qB BK322) hb); have n7_ := Aside0.mk (below_step (by exact qS1 HB GE322) hb); clear HO351; clear HO354; clear HO357; clear BK322; clear HB; have HO351 := n0_; have HO354 := n1_; have HO357 := n2_; have HO361 := n3_; have HO364 := n4_; have HO367 := n5_; have BK322 := n6_; have HB := n7_; clear n0_ n1_ n2_ n3_ n4_ n5_ n6_ n7_; (try clear hb); (try clear hb2); (try clear hk); (try clear hi); (try clear ho0); (try clear ho1); (try clear ho2)) | ((with_reducible refine gate_dst (N := 9) rfl ?_); (try (refine gate_guard (by rfl) ?_; dsimp only)); refine box_event ?hg (N := 9) ?hd (cs := #[.bool false, .slice none 0 0, .slice none 0 0, .slice none 0 0]) (t := 26) ?hr ?_; (case hd => rfl); (case hg => rfl); (case hr => first | (go_simp; done) | (go_simp; rfl)); intro gb369 hg w118 hbox hb; have n0_ := sBe HO351 hb; have n1_ := sBe HO354 hb; have n2_ := sBe HO357 hb; have n3_ := sBe HO361 hb; have n4_ := sBe HO364 hb; have n5_ := sBe HO367 hb; have n6_ := Aside0.mk (blk_below (g := gb322) (o := .cells #[.bool a0_0, .slice A0_1 l0_1.length c0_1, .slice A0_2 l0_2.length c0_2, .slice A0_3 l0_3.length c0_3] 26 (0, 0)) (qB BK322) hb); have n7_ := Aside0.mk (below_step (by exact qS1 HB GE322) hb); have n8_ := Aside0.mk (hbox); have n9_ := Aside0.mk ((by rw [hg]; exact (below_size (by exact qS1 HB GE322)) : w.heap.size ≤ gb369)); have n10_ := Aside0.mk ((by rw [hg]; exact (below_size (by exact qS1 HB GE322)) : w.heap.size ≤ gb369)); have n11_ := Aside0.mk ((by rw [hg]; exact Nat.ne_of_lt (blk_lt (g := gb322) (o := .cells #[.bool a0_0, .slice A0_1 l0_1.length c0_1, .slice A0_2 l0_2.length c0_2, .slice A0_3 l0_3.length c0_3] 26 (0, 0)) (qB BK322)) : gb322 ≠ gb369)); have n12_ := Aside0.mk ((by rw [hg]; exact Nat.ne_of_gt (blk_lt (g := gb322) (o := .cells #[.bool a0_0, .slice A0_1 l0_1.length c0_1, .slice A0_2 l0_2.length c0_2, .slice A0_3 l0_3.length c0_3] 26 (0, 0)) (qB BK322)) : gb369 ≠ gb322)); clear HO351; clear HO354; clear HO357; clear HO361; clear HO364; clear HO367; clear BK322; clear HB; have HO351 := n0_; have HO354 := n1_; have HO357 := n2_; have HO361 := n3_; have HO364 := n4_; have HO367 := n5_; have BK322 := n6_; have HB := n7_; have BK369 := n8_; have GW369 := n9_; have GE369 := n10_; have NB322_369 := n11_; have NB369_322 := n12_; clear n0_ n1_ n2_ n3_ n4_ n5_ n6_ n7_ n8_ n9_ n10_ n11_ n12_; clear hb hbox hg; have hnb119 := NB369_322.out; have hnc119 := NB322_369.out; obtain ⟨hcz120_0, hcz120_1, hcz120_2, hcz120_3⟩ := qc4 BK369; obtain ⟨hfz120_0, hfz120_1, hfz120_2, hfz120_3⟩ := qf4 BK369; obtain ⟨Ao121, co121, eo121⟩ := Kd.R_slice HO361.out; subst eo121; obtain ⟨Ao122, co122, eo122⟩ := Kd.R_slice HO364.out; subst eo122; obtain ⟨Ao123, co123, eo123⟩ := Kd.R_slice HO367.out; subst eo123))
             go_ret
             exact ⟨by first | rfl | (simp [errW_none, errW_some] <;> rfl) | (simp [*, errW_none, errW_some] <;> rfl), by exact qS2 HB GE322 GE369⟩
            ·rw [if_neg c111] at H
             have c111b0 : (t368 == 1) = false := beq_eq_false_iff_ne.mpr c111
             have c111b1 : (t368 != 1) = true := bne_iff_ne.mpr c111
             by_cases c124 : t368 = 81
             ·rw [if_pos c124] at H
              have c124b0 : (t368 == 81) = true := beq_iff_eq.mpr c124
              have c124b1 : (t368 != 81) = false := bne_eq_false_iff_eq.mpr c124
              clear c124
              obtain rfl := Option.some.inj H
              obtain ⟨hcz125_0, hcz125_1, hcz125_2, hcz125_3⟩ := qc4 BK322
              obtain ⟨hfz125_0, hfz125_1, hfz125_2, hfz125_3⟩ := qf4 BK322
              go_wp2_with (first | ((with_reducible refine gate_callee (f := 22) rfl ?_); refine goesL_ (some 60) rfl rfl Try.func22 (by kernel_rfl) rfl #[.agg #[.bool a0_0, .slice A0_1 l0_1.length c0_1, .slice A0_2 l0_2.length c0_2, .slice A0_3 l0_3.length c0_3]] rfl (by (try simp only [List.map_toArray, List.map_cons, List.map_nil]); first | done | rfl | (simp only [List.length_drop, List.length_take]; rfl)) ?_; (with_reducible refine (concordlaw08_twin.calls a0_0 _ _ l0_1 _ _ l0_2 _ _ l0_3 t348 t349 t352 t355 _ ?side1 ?side2 ?side3 ?side4 ?side5 ?side6 A42.out).mono ?_); (case side1 => exact qC HR0_1 HB); (case side2 => exact HC0_1.out); (case side3 => exact qC HR0_2 HB); (case side4 => exact HC0_2.out); (case side5 => exact qC HR0_3 HB); (case side6 => exact HC0_3.out); rintro e w126 ⟨v350, v353, v356, rfl, ho0, ho1, ho2, hb⟩; refine ⟨_, rfl, ?_⟩; have n0_ := Aside0.mk (Kd.R_lower ho0 (below_size (by exact qS1 HB GE322))); have n1_ := Aside0.mk (Kd.R_lower ho1 (below_size (by exact qS1 HB GE322))); have n2_ := Aside0.mk (Kd.R_lower ho2 (below_size (by exact qS1 HB GE322))); have n3_ := Aside0.mk (blk_below (g := gb322) (o := .cells #[.bool a0_0, .slice A0_1 l0_1.length c0_1, .slice A0_2 l0_2.length c0_2, .slice A0_3 l0_3.length c0_3] 26 (0, 0)) (qB BK322) hb); have n4_ := Aside0.mk (below_step (by exact qS1 HB GE322) hb); clear BK322; clear HB; have HO351 := n0_; have HO354 := n1_; have HO357 := n2_; have BK322 := n3_; have HB := n4_; clear n0_ n1_ n2_ n3_ n4_; (try clear hb); (try clear hb2); (try clear hk); (try clear hi); (try clear ho0); (try clear ho1); (try clear ho2); obtain ⟨Ao127, co127, eo127⟩ := Kd.R_slice HO351.out; subst eo127; obtain ⟨Ao128, co128, eo128⟩ := Kd.R_slice HO354.out; subst eo128; obtain ⟨Ao129, co129, eo129⟩ := Kd.R_slice HO357.out; subst eo129) | ((with_reducible refine gate_callee (f := 38) rfl ?_); refine goesL_ (some 64) rfl rfl Try.func38 (by kernel_rfl) rfl #[.agg #[.bool t348, .slice Ao127 t349.length co127, .slice Ao128 t352.length co128, .slice Ao129 t355.length co129], .int .i64 t346, .string a1, .int .u32 a2] rfl (by (try simp only [List.map_toArray, List.map_cons, List.map_nil]); first | done | rfl | (simp only [List.length_drop, List.length_take]; rfl)) ?_; (with_reducible refine (node_Grow.calls t348 _ _ t349 _ _ t352 _ _ t355 t346 a1 a2 t358 t359 t362 t365 t368 _ ?side1 ?side2 ?side3 ?side4 ?side5 ?side6 A43.out).mono ?_); (case side1 => exact sC HO351); (case side2 => exact sN HO351); (case side3 => exact sC HO354); (case side4 => exact sN HO354); (case side5 => exact sC HO357); (case side6 => exact sN HO357); rintro e w130 ⟨v360, v363, v366, rfl, ho0, ho1, ho2, hb⟩; refine ⟨_, rfl, ?_⟩; have n0_ := sEl HO351 (Kd.R_base ho0) hb; have n1_ := sEl HO354 (Kd.R_base ho1) hb; have n2_ := sEl HO357 (Kd.R_base ho2) hb; have n3_ := Aside0.mk (Kd.R_lower (Kd.R_new' ho0 (sLt HO351)) (below_size (by exact qS1 HB GE322))); have n4_ := Aside0.mk (Kd.R_lower (Kd.R_new' ho1 (sLt HO354)) (below_size (by exact qS1 HB GE322))); have n5_ := Aside0.mk (Kd.R_lower (Kd.R_new' ho2 (sLt HO357)) (below_size (by exact qS1 HB GE322))); have n6_ := Aside0.mk (blk_below (g := gb322) (o := .cells #[.bool a0_0, .slice A0_1 l0_1.length c0_1, .slice A0_2 l0_2.length c0_2, .slice A0_3 l0_3.length c0_3] 26 (0, 0)) (qB BK322) hb); have n7_ := Aside0.mk (below_step (by exact qS1 HB GE322) hb); clear HO351; clear HO354; clear HO357; clear BK322; clear HB; have HO351 := n0_; have HO354 := n1_; have HO357 := n2_; have HO361 := n3_; have HO364 := n4_; have HO367 := n5_; have BK322 := n6_; have HB := n7_; clear n0_ n1_ n2_ n3_ n4_ n5_ n6_ n7_; (try clear hb); (try clear hb2); (try clear hk); (try clear hi); (try clear ho0); (try clear ho1); (try clear ho2)) | ((with_reducible refine gate_dst (N := 9) rfl ?_); (try (refine gate_guard (by rfl) ?_; dsimp only)); refine box_event ?hg (N := 9) ?hd (cs := #[.bool false, .slice none 0 0, .slice none 0 0, .slice none 0 0]) (t := 26) ?hr ?_; (case hd => rfl); (case hg => rfl); (case hr => first | (go_simp; done) | (go_simp; rfl)); intro gb369 hg w131 hbox hb; have n0_ := sBe HO351 hb; have n1_ := sBe HO354 hb; have n2_ := sBe HO357 hb; have n3_ := sBe HO361 hb; have n4_ := sBe HO364 hb; have n5_ := sBe HO367 hb; have n6_ := Aside0.mk (blk_below (g := gb322) (o := .cells #[.bool a0_0, .slice A0_1 l0_1.length c0_1, .slice A0_2 l0_2.length c0_2, .slice A0_3 l0_3.length c0_3] 26 (0, 0)) (qB BK322) hb); have n7_ := Aside0.mk (below_step (by exact qS1 HB GE322) hb); have n8_ := Aside0.mk (hbox); have n9_ := Aside0.mk ((by rw [hg]; exact (below_size (by exact qS1 HB GE322)) : w.heap.size ≤ gb369)); have n10_ := Aside0.mk ((by rw [hg]; exact (below_size (by exact qS1 HB GE322)) : w.heap.size ≤ gb369)); have n11_ := Aside0.mk ((by rw [hg]; exact Nat.ne_of_lt (blk_lt (g := gb322) (o := .cells #[.bool a0_0, .slice A0_1 l0_1.length c0_1, .slice A0_2 l0_2.length c0_2, .slice A0_3 l0_3.length c0_3] 26 (0, 0)) (qB BK322)) : gb322 ≠ gb369)); have n12_ := Aside0.mk ((by rw [hg]; exact Nat.ne_of_gt (blk_lt (g := gb322) (o := .cells #[.bool a0_0, .slice A0_1 l0_1.length c0_1, .slice A0_2 l0_2.length c0_2, .slice A0_3 l0_3.length c0_3] 26 (0, 0)) (qB BK322)) : gb369 ≠ gb322)); clear HO351; clear HO354; clear HO357; clear HO361; clear HO364; clear HO367; clear BK322; clear HB; have HO351 := n0_; have HO354 := n1_; have HO357 := n2_; have HO361 := n3_; have HO364 := n4_; have HO367 := n5_; have BK322 := n6_; have HB := n7_; have BK369 := n8_; have GW369 := n9_; have GE369 := n10_; have NB322_369 := n11_; have NB369_322 := n12_; clear n0_ n1_ n2_ n3_ n4_ n5_ n6_ n7_ n8_ n9_ n10_ n11_ n12_; clear hb hbox hg; have hnb132 := NB369_322.out; have hnc132 := NB322_369.out; obtain ⟨hcz133_0, hcz133_1, hcz133_2, hcz133_3⟩ := qc4 BK369; obtain ⟨hfz133_0, hfz133_1, hfz133_2, hfz133_3⟩ := qf4 BK369; obtain ⟨Ao134, co134, eo134⟩ := Kd.R_slice HO361.out; subst eo134; obtain ⟨Ao135, co135, eo135⟩ := Kd.R_slice HO364.out; subst eo135; obtain ⟨Ao136, co136, eo136⟩ := Kd.R_slice HO367.out; subst eo136))
              go_ret
              exact ⟨by first | rfl | (simp [errW_none, errW_some] <;> rfl) | (simp [*, errW_none, errW_some] <;> rfl), by exact qS2 HB GE322 GE369⟩
             ·rw [if_neg c124] at H
              have c124b0 : (t368 == 81) = false := beq_eq_false_iff_ne.mpr c124
              have c124b1 : (t368 != 81) = true := bne_iff_ne.mpr c124
              obtain rfl := Option.some.inj H
              obtain ⟨hcz137_0, hcz137_1, hcz137_2, hcz137_3⟩ := qc4 BK322
              obtain ⟨hfz137_0, hfz137_1, hfz137_2, hfz137_3⟩ := qf4 BK322
              go_wp2_with (first | ((with_reducible refine gate_callee (f := 22) rfl ?_); refine goesL_ (some 60) rfl rfl Try.func22 (by kernel_rfl) rfl #[.agg #[.bool a0_0, .slice A0_1 l0_1.length c0_1, .slice A0_2 l0_2.length c0_2, .slice A0_3 l0_3.length c0_3]] rfl (by (try simp only [List.map_toArray, List.map_cons, List.map_nil]); first | done | rfl | (simp only [List.length_drop, List.length_take]; rfl)) ?_; (with_reducible refine (concordlaw08_twin.calls a0_0 _ _ l0_1 _ _ l0_2 _ _ l0_3 t348 t349 t352 t355 _ ?side1 ?side2 ?side3 ?side4 ?side5 ?side6 A42.out).mono ?_); (case side1 => exact qC HR0_1 HB); (case side2 => exact HC0_1.out); (case side3 => exact qC HR0_2 HB); (case side4 => exact HC0_2.out); (case side5 => exact qC HR0_3 HB); (case side6 => exact HC0_3.out); rintro e w138 ⟨v350, v353, v356, rfl, ho0, ho1, ho2, hb⟩; refine ⟨_, rfl, ?_⟩; have n0_ := Aside0.mk (Kd.R_lower ho0 (below_size (by exact qS1 HB GE322))); have n1_ := Aside0.mk (Kd.R_lower ho1 (below_size (by exact qS1 HB GE322))); have n2_ := Aside0.mk (Kd.R_lower ho2 (below_size (by exact qS1 HB GE322))); have n3_ := Aside0.mk (blk_below (g := gb322) (o := .cells #[.bool a0_0, .slice A0_1 l0_1.length c0_1, .slice A0_2 l0_2.length c0_2, .slice A0_3 l0_3.length c0_3] 26 (0, 0)) (qB BK322) hb); have n4_ := Aside0.mk (below_step (by exact qS1 HB GE322) hb); clear BK322; clear HB; have HO351 := n0_; have HO354 := n1_; have HO357 := n2_; have BK322 := n3_; have HB := n4_; clear n0_ n1_ n2_ n3_ n4_; (try clear hb); (try clear hb2); (try clear hk); (try clear hi); (try clear ho0); (try clear ho1); (try clear ho2); obtain ⟨Ao139, co139, eo139⟩ := Kd.R_slice HO351.out; subst eo139; obtain ⟨Ao140, co140, eo140⟩ := Kd.R_slice HO354.out; subst eo140; obtain ⟨Ao141, co141, eo141⟩ := Kd.R_slice HO357.out; subst eo141) | ((with_reducible refine gate_callee (f := 38) rfl ?_); refine goesL_ (some 64) rfl rfl Try.func38 (by kernel_rfl) rfl #[.agg #[.bool t348, .slice Ao139 t349.length co139, .slice Ao140 t352.length co140, .slice Ao141 t355.length co141], .int .i64 t346, .string a1, .int .u32 a2] rfl (by (try simp only [List.map_toArray, List.map_cons, List.map_nil]); first | done | rfl | (simp only [List.length_drop, List.length_take]; rfl)) ?_; (with_reducible refine (node_Grow.calls t348 _ _ t349 _ _ t352 _ _ t355 t346 a1 a2 t358 t359 t362 t365 t368 _ ?side1 ?side2 ?side3 ?side4 ?side5 ?side6 A43.out).mono ?_); (case side1 => exact sC HO351); (case side2 => exact sN HO351); (case side3 => exact sC HO354); (case side4 => exact sN HO354); (case side5 => exact sC HO357); (case side6 => exact sN HO357); rintro e w142 ⟨v360, v363, v366, rfl, ho0, ho1, ho2, hb⟩; refine ⟨_, rfl, ?_⟩; have n0_ := sEl HO351 (Kd.R_base ho0) hb; have n1_ := sEl HO354 (Kd.R_base ho1) hb; have n2_ := sEl HO357 (Kd.R_base ho2) hb; have n3_ := Aside0.mk (Kd.R_lower (Kd.R_new' ho0 (sLt HO351)) (below_size (by exact qS1 HB GE322))); have n4_ := Aside0.mk (Kd.R_lower (Kd.R_new' ho1 (sLt HO354)) (below_size (by exact qS1 HB GE322))); have n5_ := Aside0.mk (Kd.R_lower (Kd.R_new' ho2 (sLt HO357)) (below_size (by exact qS1 HB GE322))); have n6_ := Aside0.mk (blk_below (g := gb322) (o := .cells #[.bool a0_0, .slice A0_1 l0_1.length c0_1, .slice A0_2 l0_2.length c0_2, .slice A0_3 l0_3.length c0_3] 26 (0, 0)) (qB BK322) hb); have n7_ := Aside0.mk (below_step (by exact qS1 HB GE322) hb); clear HO351; clear HO354; clear HO357; clear BK322; clear HB; have HO351 := n0_; have HO354 := n1_; have HO357 := n2_; have HO361 := n3_; have HO364 := n4_; have HO367 := n5_; have BK322 := n6_; have HB := n7_; clear n0_ n1_ n2_ n3_ n4_ n5_ n6_ n7_; (try clear hb); (try clear hb2); (try clear hk); (try clear hi); (try clear ho0); (try clear ho1); (try clear ho2)) | ((with_reducible refine gate_dst (N := 9) rfl ?_); (try (refine gate_guard (by rfl) ?_; dsimp only)); refine box_event ?hg (N := 9) ?hd (cs := #[.bool false, .slice none 0 0, .slice none 0 0, .slice none 0 0]) (t := 26) ?hr ?_; (case hd => rfl); (case hg => rfl); (case hr => first | (go_simp; done) | (go_simp; rfl)); intro gb369 hg w143 hbox hb; have n0_ := sBe HO351 hb; have n1_ := sBe HO354 hb; have n2_ := sBe HO357 hb; have n3_ := sBe HO361 hb; have n4_ := sBe HO364 hb; have n5_ := sBe HO367 hb; have n6_ := Aside0.mk (blk_below (g := gb322) (o := .cells #[.bool a0_0, .slice A0_1 l0_1.length c0_1, .slice A0_2 l0_2.length c0_2, .slice A0_3 l0_3.length c0_3] 26 (0, 0)) (qB BK322) hb); have n7_ := Aside0.mk (below_step (by exact qS1 HB GE322) hb); have n8_ := Aside0.mk (hbox); have n9_ := Aside0.mk ((by rw [hg]; exact (below_size (by exact qS1 HB GE322)) : w.heap.size ≤ gb369)); have n10_ := Aside0.mk ((by rw [hg]; exact (below_size (by exact qS1 HB GE322)) : w.heap.size ≤ gb369)); have n11_ := Aside0.mk ((by rw [hg]; exact Nat.ne_of_lt (blk_lt (g := gb322) (o := .cells #[.bool a0_0, .slice A0_1 l0_1.length c0_1, .slice A0_2 l0_2.length c0_2, .slice A0_3 l0_3.length c0_3] 26 (0, 0)) (qB BK322)) : gb322 ≠ gb369)); have n12_ := Aside0.mk ((by rw [hg]; exact Nat.ne_of_gt (blk_lt (g := gb322) (o := .cells #[.bool a0_0, .slice A0_1 l0_1.length c0_1, .slice A0_2 l0_2.length c0_2, .slice A0_3 l0_3.length c0_3] 26 (0, 0)) (qB BK322)) : gb369 ≠ gb322)); clear HO351; clear HO354; clear HO357; clear HO361; clear HO364; clear HO367; clear BK322; clear HB; have HO351 := n0_; have HO354 := n1_; have HO357 := n2_; have HO361 := n3_; have HO364 := n4_; have HO367 := n5_; have BK322 := n6_; have HB := n7_; have BK369 := n8_; have GW369 := n9_; have GE369 := n10_; have NB322_369 := n11_; have NB369_322 := n12_; clear n0_ n1_ n2_ n3_ n4_ n5_ n6_ n7_ n8_ n9_ n10_ n11_ n12_; clear hb hbox hg; have hnb144 := NB369_322.out; have hnc144 := NB322_369.out; obtain ⟨hcz145_0, hcz145_1, hcz145_2, hcz145_3⟩ := qc4 BK369; obtain ⟨hfz145_0, hfz145_1, hfz145_2, hfz145_3⟩ := qf4 BK369; obtain ⟨Ao146, co146, eo146⟩ := Kd.R_slice HO361.out; subst eo146; obtain ⟨Ao147, co147, eo147⟩ := Kd.R_slice HO364.out; subst eo147; obtain ⟨Ao148, co148, eo148⟩ := Kd.R_slice HO367.out; subst eo148))
              go_ret
              exact ⟨by first | rfl | (simp [errW_none, errW_some] <;> rfl) | (simp [*, errW_none, errW_some] <;> rfl), by exact qS2 HB GE322 GE369⟩
 ·replace c5 := Bool.eq_false_iff.mpr c5
  subst c5
  exact absurd A4.out ha
end Go.Proofs.Ytdjjpgdhnoibkaa.PK
