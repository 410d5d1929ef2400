-- written by wip/mp.py of this claim's author, over the print of this machine
import Derived.Test.YtdjjpgdhnoibkaaPZx0
import Derived.Test.YtdjjpgdhnoibkaaPZx5
import Derived.Test.YtdjjpgdhnoibkaaPDy1
namespace Go.Proofs.Ytdjjpgdhnoibkaa.PD
open Go.Proofs.Ytdjjpgdhnoibkaa.PZ
open Go.Proofs.Ytdjjpgdhnoibkaa.My
attribute [local go_sem high] conv_rune str_leq str_gtr
open Go.RowKit Go.Proofs.YtdjjpgdhnoibkaaW.PrintWords Go.Proofs.YtdjjpgdhnoibkaaW.PrintLast Go.Proofs.YtdjjpgdhnoibkaaW.PrintMore
attribute [local go_sem] max2_int min2_int max_two min_two max_three min_three max_four min_four   -- for this text's walks alone
set_option linter.unusedVariables false
set_option linter.unusedSimpArgs false
/-! ### node_Decode: function 59 -/
mutual
def node_Decode.j2 : Nat → ByteArray → ByteArray → Int → Int → Bool → List (S66) → List ByteArray → List Int → Option (Bool × (List (S66)) × List ByteArray × List Int × Int)
 | 0, _, _, _, _, _, _, _, _ => none
 | k + 1, x0, x226000, x226001, x226002, x227000, x227001, x227002, x227003 => (wire_Reader_End.f x226000 x226001 x226002).bind fun bt276 => (if bt276.1 = 0 then (if (x0.size : Int) > 996 then (some (false, ([] : List (S66)), ([] : List ByteArray), ([] : List Int), 80)) else ((node_Check.f k x227000 x227001 x227002 x227003).bind fun t280 => (if t280 = 0 then (some (x227000, x227001, x227002, x227003, 0)) else (some (false, ([] : List (S66)), ([] : List ByteArray), ([] : List Int), 80))))) else (some (false, ([] : List (S66)), ([] : List ByteArray), ([] : List Int), 80)))
def node_Decode.l0 : Nat → ByteArray → Int → Int → ByteArray → Int → Int → Bool → List (S66) → Option (Bool × (List (S66)) × List ByteArray × List Int × Int)
 | 0, _, _, _, _, _, _, _, _ => none
 | k + 1, x0, x21, x22, x226000, x226001, x226002, x227000, x227001 => if x22 < x21 then ((wire_Reader_Text.f k x226000 x226001 x226002 320).bind fun bt235 => ((wire_Reader_Text.f k bt235.2.1 bt235.2.2.1 bt235.2.2.2 320).bind fun bt240 => ((wire_Reader_Err.f bt240.2.1 bt240.2.2.1 bt240.2.2.2).bind fun bt244 => (if bt244.1 = 0 then (if x227001.length < 4398046511104 then (node_Decode.l0 k x0 x21 (wrap64 (x22 + 1)) bt244.2.1 bt244.2.2.1 bt244.2.2.2 x227000 (x227001 ++ [(⟨bt235.1, bt240.1⟩ : S66)])) else (none)) else (node_Decode.j2 k x0 bt244.2.1 bt244.2.2.1 bt244.2.2.2 x227000 x227001 ([] : List ByteArray) ([] : List Int)))))) else (node_Decode.j2 k x0 x226000 x226001 x226002 x227000 x227001 ([] : List ByteArray) ([] : List Int))
def node_Decode.l1 : Nat → ByteArray → Int → Int → ByteArray → Int → Int → Bool → List ByteArray → List Int → Option (Bool × (List (S66)) × List ByteArray × List Int × Int)
 | 0, _, _, _, _, _, _, _, _, _ => none
 | k + 1, x0, x50, x51, x226000, x226001, x226002, x227000, x227002, x227003 => if x51 < x50 then ((wire_Reader_Text.f k x226000 x226001 x226002 320).bind fun bt258 => (if x227002.length < 8796093022208 then ((some (x227002 ++ [bt258.1] : List ByteArray)).bind fun y262 => ((wire_Reader_Fixed.f k bt258.2.1 bt258.2.2.1 bt258.2.2.2 4).bind fun bt265 => (if x227003.length < 35184372088832 then ((some (x227003 ++ [(bt265.1) % 4294967296] : List Int)).bind fun y269 => ((wire_Reader_Err.f bt265.2.1 bt265.2.2.1 bt265.2.2.2).bind fun bt272 => (if bt272.1 = 0 then (node_Decode.l1 k x0 x50 (wrap64 (x51 + 1)) bt272.2.1 bt272.2.2.1 bt272.2.2.2 x227000 y262 y269) else (node_Decode.j2 k x0 bt272.2.1 bt272.2.2.1 bt272.2.2.2 x227000 ([] : List (S66)) y262 y269)))) else (none)))) else (none))) else (node_Decode.j2 k x0 x226000 x226001 x226002 x227000 ([] : List (S66)) x227002 x227003)
end
def node_Decode.f (k : Nat) (a0 : ByteArray) : Option (Bool × (List (S66)) × List ByteArray × List Int × Int) := (wire_NewReader.f a0).bind fun bt222 => ((wire_Reader_Byte.f k bt222.1 bt222.2.1 bt222.2.2).bind fun bt227 => ((wire_Reader_Fixed.f k bt227.2.1 bt227.2.2.1 bt227.2.2.2 2).bind fun bt231 => (if bt227.1 = 1 then (node_Decode.l0 k a0 (wrap64 (bt231.1)) 0 bt231.2.1 bt231.2.2.1 bt231.2.2.2 true ([] : List (S66))) else (if bt227.1 = 2 then ((wire_Reader_Fixed.f k bt231.2.1 bt231.2.2.1 bt231.2.2.2 4).bind fun bt251 => (if ([] : List Int).length < 35184372088832 then (node_Decode.l1 k a0 (wrap64 (bt231.1)) 0 bt251.2.1 bt251.2.2.1 bt251.2.2.2 false ([] : List ByteArray) (([] : List Int) ++ [(bt251.1) % 4294967296])) else (none))) else (some (false, ([] : List (S66)), ([] : List ByteArray), ([] : List Int), 80))))))
def node_Decode.T17 : Bool × List (List Nat × List Nat) := (true, [([], []), ([0], [0]), ([], []), ([2], [2]), ([3], [3]), ([4], [4]), ([1, 5, 3], [1, 5]), ([0, 1, 2, 3, 4, 5, 6], []), ([7, 6, 6, 0, 1, 2, 3, 4, 5, 6], [6, 7])])
def node_Decode.B17 : List Nat := [0, 1, 0, 4, 12, 28, 63, 127, 255]
theorem node_Decode.tab17 : rtab .any (opsOf Try.f59 17) = node_Decode.T17 := by kernel_rfl
theorem node_Decode.bits17 : waitsOk node_Decode.T17.2 node_Decode.B17 = true := by kernel_rfl
def node_Decode.T20 : Bool × List (List Nat × List Nat) := (true, [([], []), ([0], [0]), ([], []), ([2], [2]), ([3], [3]), ([1, 4, 3], [1, 4]), ([0, 1, 2, 3, 4, 5], []), ([6, 5, 5, 0, 1, 2, 3, 4, 5], [5, 6])])
def node_Decode.B20 : List Nat := [0, 1, 0, 4, 12, 31, 63, 127]
theorem node_Decode.tab20 : rtab .any (opsOf Try.f59 20) = node_Decode.T20 := by kernel_rfl
theorem node_Decode.bits20 : waitsOk node_Decode.T20.2 node_Decode.B20 = true := by kernel_rfl
def node_Decode.T21 : Bool × List (List Nat × List Nat) := (true, [([], []), ([0], [0]), ([], []), ([2], [2]), ([3], [3]), ([4], [4]), ([1, 5, 3], [1, 5]), ([0, 1, 2, 3, 4, 5, 6], []), ([7, 6, 6, 0, 1, 2, 3, 4, 5, 6], [6, 7])])
def node_Decode.B21 : List Nat := [0, 1, 0, 4, 12, 28, 63, 127, 255]
theorem node_Decode.tab21 : rtab .any (opsOf Try.f59 21) = node_Decode.T21 := by kernel_rfl
theorem node_Decode.bits21 : waitsOk node_Decode.T21.2 node_Decode.B21 = true := by kernel_rfl
set_option maxHeartbeats 8000000 in
set_option maxRecDepth 100000 in
theorem node_Decode.calls (k : Nat) (a0 : ByteArray) (r1 : Bool) (r2 : List (S66)) (r3 : List ByteArray) (r4 : List Int) (r5 : Int) (w : World) (h : node_Decode.f k a0 = some (r1, r2, r3, r4, r5)) :
  Calls Try.prog 59 #[.string a0] w fun e w' => ∃ v1_ v2_ v3_ : Value, e = .returned (.tuple #[.agg #[.bool r1, v1_, v2_, v3_], .int .i64 r5]) ∧ Kd.R k66 66 w' w.heap.size (fun _ => True) v1_ r2 ∧ Kd.R Kd.string 9 w' w.heap.size (fun _ => True) v2_ r3 ∧ Kd.R (Kd.int .u32) 45 w' w.heap.size (fun _ => True) v3_ r4 ∧ Below w.heap.size w w' := by
 have hu26 := Try.underlying26
 have hu66 := Try.underlying66
 have HB := Aside0.mk (Below.refl w.heap.size w)
 have H : ((wire_NewReader.f a0).bind fun bt222 => ((wire_Reader_Byte.f k bt222.1 bt222.2.1 bt222.2.2).bind fun bt227 => ((wire_Reader_Fixed.f k bt227.2.1 bt227.2.2.1 bt227.2.2.2 2).bind fun bt231 => (if bt227.1 = 1 then (node_Decode.l0 k a0 (wrap64 (bt231.1)) 0 bt231.2.1 bt231.2.2.1 bt231.2.2.2 true ([] : List (S66))) else (if bt227.1 = 2 then ((wire_Reader_Fixed.f k bt231.2.1 bt231.2.2.1 bt231.2.2.2 4).bind fun bt251 => (if ([] : List Int).length < 35184372088832 then (node_Decode.l1 k a0 (wrap64 (bt231.1)) 0 bt251.2.1 bt251.2.2.1 bt251.2.2.2 false ([] : List ByteArray) (([] : List Int) ++ [(bt251.1) % 4294967296])) else (none))) else (some (false, ([] : List (S66)), ([] : List ByteArray), ([] : List Int), 80))))))) = some (r1, r2, r3, r4, r5) := h
 clear h
 replace H := Option.bind_eq_some_iff.mp H
 obtain ⟨⟨t222, t223, t224⟩, A20, H⟩ := H
 replace H : ((wire_Reader_Byte.f k t222 t223 t224).bind fun bt227 => ((wire_Reader_Fixed.f k bt227.2.1 bt227.2.2.1 bt227.2.2.2 2).bind fun bt231 => (if bt227.1 = 1 then (node_Decode.l0 k a0 (wrap64 (bt231.1)) 0 bt231.2.1 bt231.2.2.1 bt231.2.2.2 true ([] : List (S66))) else (if bt227.1 = 2 then ((wire_Reader_Fixed.f k bt231.2.1 bt231.2.2.1 bt231.2.2.2 4).bind fun bt251 => (if ([] : List Int).length < 35184372088832 then (node_Decode.l1 k a0 (wrap64 (bt231.1)) 0 bt251.2.1 bt251.2.2.1 bt251.2.2.2 false ([] : List ByteArray) (([] : List Int) ++ [(bt251.1) % 4294967296])) else (none))) else (some (false, ([] : List (S66)), ([] : List ByteArray), ([] : List Int), 80)))))) = some (r1, r2, r3, r4, r5) := H
 have A2 := Aside0.mk A20
 clear A20
 replace H := Option.bind_eq_some_iff.mp H
 obtain ⟨⟨t227, t228, t229, t230⟩, A30, H⟩ := H
 replace H : ((wire_Reader_Fixed.f k t228 t229 t230 2).bind fun bt231 => (if t227 = 1 then (node_Decode.l0 k a0 (wrap64 (bt231.1)) 0 bt231.2.1 bt231.2.2.1 bt231.2.2.2 true ([] : List (S66))) else (if t227 = 2 then ((wire_Reader_Fixed.f k bt231.2.1 bt231.2.2.1 bt231.2.2.2 4).bind fun bt251 => (if ([] : List Int).length < 35184372088832 then (node_Decode.l1 k a0 (wrap64 (bt231.1)) 0 bt251.2.1 bt251.2.2.1 bt251.2.2.2 false ([] : List ByteArray) (([] : List Int) ++ [(bt251.1) % 4294967296])) else (none))) else (some (false, ([] : List (S66)), ([] : List ByteArray), ([] : List Int), 80))))) = some (r1, r2, r3, r4, r5) := H
 have A3 := Aside0.mk A30
 clear A30
 replace H := Option.bind_eq_some_iff.mp H
 obtain ⟨⟨t231, t232, t233, t234⟩, A40, H⟩ := H
 replace H : (if t227 = 1 then (node_Decode.l0 k a0 (wrap64 (t231)) 0 t232 t233 t234 true ([] : List (S66))) else (if t227 = 2 then ((wire_Reader_Fixed.f k t232 t233 t234 4).bind fun bt251 => (if ([] : List Int).length < 35184372088832 then (node_Decode.l1 k a0 (wrap64 (t231)) 0 bt251.2.1 bt251.2.2.1 bt251.2.2.2 false ([] : List ByteArray) (([] : List Int) ++ [(bt251.1) % 4294967296])) else (none))) else (some (false, ([] : List (S66)), ([] : List ByteArray), ([] : List Int), 80)))) = some (r1, r2, r3, r4, r5) := H
 have A4 := Aside0.mk A40
 clear A40
 have HC5 := Aside0.mk H
 clear H
 go_enter Try.func59, Try.ntmps59
 go_upto_block 0 with (first | ((with_reducible refine gate_dst (N := 2) rfl ?_); (try (refine gate_guard (by rfl) ?_; dsimp only)); refine box_event ?hg (N := 2) ?hd (cs := #[.bool false, .slice none 0 0, .slice none 0 0, .slice none 0 0]) (t := 26) ?hr ?_; (case hd => rfl); (case hg => rfl); (case hr => first | (go_simp; done) | (go_simp; rfl)); intro gb221 hg w6 hbox hb; have n0_ := Aside0.mk (below_step (by repeat (first | (with_reducible first | exact HB.out | apply below_alloc | apply pw_below_drewN | apply below_drew1) | exact HB.out)) hb); have n1_ := Aside0.mk (hbox); have n2_ := Aside0.mk ((by rw [hg]; exact (below_size (by repeat (first | (with_reducible first | exact HB.out | apply below_alloc | apply pw_below_drewN | apply below_drew1) | exact HB.out))) : w.heap.size ≤ gb221)); have n3_ := Aside0.mk ((by rw [hg]; exact (below_size (by repeat (first | (with_reducible first | exact HB.out | apply below_alloc | apply pw_below_drewN | apply below_drew1) | exact HB.out))) : w.heap.size ≤ gb221)); clear HB; have HB := n0_; have BK221 := n1_; have GW221 := n2_; have GE221 := n3_; clear n0_ n1_ n2_ n3_; clear hb hbox hg) | ((with_reducible refine gate_callee (f := 98) rfl ?_); refine goesL_ (some 10) rfl rfl Try.func98 (by kernel_rfl) rfl #[.string a0] rfl (by (try simp only [List.map_toArray, List.map_cons, List.map_nil]); first | done | rfl | (simp only [List.length_drop, List.length_take]; rfl)) ?_; (with_reducible refine (wire_NewReader.calls a0 t222 t223 t224 w _ ?side1 A2.out).mono ?_); (case side1 => repeat (first | (with_reducible first | exact HB.out | apply below_alloc | apply pw_below_drewN | apply below_drew1 | refine below_set ?_ GE221.out) | exact HB.out)); rintro e w7 ⟨g225, rfl, hi, hb, hb2⟩; refine ⟨_, rfl, ?_⟩; have n0_ := Aside0.mk (blk_below (g := gb221) (o := .cells #[.bool false, .slice none 0 0, .slice none 0 0, .slice none 0 0] 26 (0, 0)) (by (with_reducible repeat (first | refine blk_drewN ?_ _ | refine blk_drew ?_ | refine blk_alloc ?_ _)); exact BK221.out) hb2); have n1_ := Aside0.mk (hb); have n2_ := Aside0.mk (hi); have n3_ := Aside0.mk (IsS122.ne_blk hi (blk_below (g := gb221) (o := .cells #[.bool false, .slice none 0 0, .slice none 0 0, .slice none 0 0] 26 (0, 0)) (by (with_reducible repeat (first | refine blk_drewN ?_ _ | refine blk_drew ?_ | refine blk_alloc ?_ _)); exact BK221.out) hb2) (by decide)); have n4_ := Aside0.mk (Ne.symm (IsS122.ne_blk hi (blk_below (g := gb221) (o := .cells #[.bool false, .slice none 0 0, .slice none 0 0, .slice none 0 0] 26 (0, 0)) (by (with_reducible repeat (first | refine blk_drewN ?_ _ | refine blk_drew ?_ | refine blk_alloc ?_ _)); exact BK221.out) hb2) (by decide))); clear BK221; clear HB; have BK221 := n0_; have HB := n1_; have HI225 := n2_; have NB225_221 := n3_; have NB221_225 := n4_; clear n0_ n1_ n2_ n3_ n4_; (try clear hb); (try clear hb2); (try clear hk); (try clear hi)) | ((with_reducible refine gate_dst (N := 5) rfl ?_); (try (refine gate_guard (by rfl) ?_; dsimp only)); refine box_event ?hg (N := 5) ?hd (cs := #[.bool false, .slice none 0 0, .slice none 0 0, .slice none 0 0]) (t := 26) ?hr ?_; (case hd => rfl); (case hg => rfl); (case hr => first | (go_simp; done) | (go_simp; rfl)); intro gb226 hg w8 hbox hb; have n0_ := Aside0.mk (blk_below (g := gb221) (o := .cells #[.bool false, .slice none 0 0, .slice none 0 0, .slice none 0 0] 26 (0, 0)) (by (with_reducible repeat (first | refine blk_drewN ?_ _ | refine blk_drew ?_ | refine blk_alloc ?_ _)); exact BK221.out) hb); have n1_ := Aside0.mk (IsS122.below (by repeat (first | (with_reducible first | exact HI225.out | apply IsS122.alloc | apply IsS122.drewN | apply IsS122.drew | apply IsS122.set_0 | apply IsS122.set_1 | apply IsS122.set_2 | refine IsS122.far ?_ NB225_221.out _) | exact HI225.out)) hb); have n2_ := Aside0.mk (below_step (by repeat (first | (with_reducible first | exact HB.out | apply below_alloc | apply pw_below_drewN | apply below_drew1 | refine below_set ?_ (IsS122.ge HI225.out) | refine below_set ?_ GE221.out) | exact HB.out)) hb); have n3_ := Aside0.mk (hbox); have n4_ := Aside0.mk ((by rw [hg]; exact (below_size (by repeat (first | (with_reducible first | exact HB.out | apply below_alloc | apply pw_below_drewN | apply below_drew1 | refine below_set ?_ (IsS122.ge HI225.out) | refine below_set ?_ GE221.out) | exact HB.out))) : w.heap.size ≤ gb226)); have n5_ := Aside0.mk ((by rw [hg]; exact (below_size (by repeat (first | (with_reducible first | exact HB.out | apply below_alloc | apply pw_below_drewN | apply below_drew1 | refine below_set ?_ (IsS122.ge HI225.out) | refine below_set ?_ GE221.out) | exact HB.out))) : w.heap.size ≤ gb226)); have n6_ := Aside0.mk ((by rw [hg]; exact Nat.ne_of_lt (blk_lt (g := gb221) (o := .cells #[.bool false, .slice none 0 0, .slice none 0 0, .slice none 0 0] 26 (0, 0)) (by (with_reducible repeat (first | refine blk_drewN ?_ _ | refine blk_drew ?_ | refine blk_alloc ?_ _)); exact BK221.out)) : gb221 ≠ gb226)); have n7_ := Aside0.mk ((by rw [hg]; exact Nat.ne_of_gt (blk_lt (g := gb221) (o := .cells #[.bool false, .slice none 0 0, .slice none 0 0, .slice none 0 0] 26 (0, 0)) (by (with_reducible repeat (first | refine blk_drewN ?_ _ | refine blk_drew ?_ | refine blk_alloc ?_ _)); exact BK221.out)) : gb226 ≠ gb221)); have n8_ := Aside0.mk ((by rw [hg]; exact Nat.ne_of_lt (IsS122.lt (show IsS122 w _ g225 t222 t223 t224 from by repeat (first | (with_reducible first | exact HI225.out | apply IsS122.alloc | apply IsS122.drewN | apply IsS122.drew | apply IsS122.set_0 | apply IsS122.set_1 | apply IsS122.set_2 | refine IsS122.far ?_ NB225_221.out _) | exact HI225.out))) : g225 ≠ gb226)); have n9_ := Aside0.mk ((by rw [hg]; exact Nat.ne_of_gt (IsS122.lt (show IsS122 w _ g225 t222 t223 t224 from by repeat (first | (with_reducible first | exact HI225.out | apply IsS122.alloc | apply IsS122.drewN | apply IsS122.drew | apply IsS122.set_0 | apply IsS122.set_1 | apply IsS122.set_2 | refine IsS122.far ?_ NB225_221.out _) | exact HI225.out))) : gb226 ≠ g225)); clear BK221; clear HI225; clear HB; have BK221 := n0_; have HI225 := n1_; have HB := n2_; have BK226 := n3_; have GW226 := n4_; have GE226 := n5_; have NB221_226 := n6_; have NB226_221 := n7_; have NB225_226 := n8_; have NB226_225 := n9_; clear n0_ n1_ n2_ n3_ n4_ n5_ n6_ n7_ n8_ n9_; clear hb hbox hg) | ((with_reducible refine gate_callee (f := 99) rfl ?_); refine goesL_ (some 12) rfl rfl Try.func99 (by kernel_rfl) rfl #[.pointer (some ⟨g225, 0, none⟩)] rfl (by (try simp only [List.map_toArray, List.map_cons, List.map_nil]); first | done | rfl | (simp only [List.length_drop, List.length_take]; rfl)) ?_; (with_reducible refine (wire_Reader_Byte.calls k g225 t222 t223 t224 t227 t228 t229 t230 w _ ?side1 ?side2 A3.out).mono ?_); (case side1 => repeat (first | (with_reducible first | exact HI225.out | apply IsS122.alloc | apply IsS122.drewN | apply IsS122.drew | apply IsS122.set_0 | apply IsS122.set_1 | apply IsS122.set_2 | refine IsS122.far ?_ NB225_221.out _ | refine IsS122.far ?_ NB225_226.out _) | exact HI225.out)); (case side2 => repeat (first | (with_reducible first | exact HB.out | apply below_alloc | apply pw_below_drewN | apply below_drew1 | refine below_set ?_ (IsS122.ge HI225.out) | refine below_set ?_ GE221.out | refine below_set ?_ GE226.out) | exact HB.out)); rintro e w9 ⟨rfl, hi, hb, hk⟩; refine ⟨_, rfl, ?_⟩; have n0_ := Aside0.mk (KeepBut.blk hk (g' := gb221) (o := .cells #[.bool false, .slice none 0 0, .slice none 0 0, .slice none 0 0] 26 (0, 0)) (by (with_reducible repeat (first | refine blk_drewN ?_ _ | refine blk_drew ?_ | refine blk_alloc ?_ _)); exact BK221.out) NB221_225.out (by simp)); have n1_ := Aside0.mk (KeepBut.blk hk (g' := gb226) (o := .cells #[.bool false, .slice none 0 0, .slice none 0 0, .slice none 0 0] 26 (0, 0)) (by (with_reducible repeat (first | refine blk_drewN ?_ _ | refine blk_drew ?_ | refine blk_alloc ?_ _)); exact BK226.out) NB226_225.out (by simp)); have n2_ := Aside0.mk (hb); have n3_ := Aside0.mk (hi); clear BK221; clear BK226; clear HB; clear HI225; have BK221 := n0_; have BK226 := n1_; have HB := n2_; have HI225 := n3_; clear n0_ n1_ n2_ n3_; (try clear hb); (try clear hb2); (try clear hk); (try clear hi)) | ((with_reducible refine gate_callee (f := 100) rfl ?_); refine goesL_ (some 14) rfl rfl Try.func100 (by kernel_rfl) rfl #[.pointer (some ⟨g225, 0, none⟩), .int .i64 2] rfl (by (try simp only [List.map_toArray, List.map_cons, List.map_nil]); first | done | rfl | (simp only [List.length_drop, List.length_take]; rfl)) ?_; (with_reducible refine (wire_Reader_Fixed.calls k g225 t228 t229 t230 2 t231 t232 t233 t234 w _ ?side1 ?side2 A4.out).mono ?_); (case side1 => repeat (first | (with_reducible first | exact HI225.out | apply IsS122.alloc | apply IsS122.drewN | apply IsS122.drew | apply IsS122.set_0 | apply IsS122.set_1 | apply IsS122.set_2 | refine IsS122.far ?_ NB225_221.out _ | refine IsS122.far ?_ NB225_226.out _) | exact HI225.out)); (case side2 => repeat (first | (with_reducible first | exact HB.out | apply below_alloc | apply pw_below_drewN | apply below_drew1 | refine below_set ?_ (IsS122.ge HI225.out) | refine below_set ?_ GE221.out | refine below_set ?_ GE226.out) | exact HB.out)); rintro e w10 ⟨rfl, hi, hb, hk⟩; refine ⟨_, rfl, ?_⟩; have n0_ := Aside0.mk (KeepBut.blk hk (g' := gb221) (o := .cells #[.bool false, .slice none 0 0, .slice none 0 0, .slice none 0 0] 26 (0, 0)) (by (with_reducible repeat (first | refine blk_drewN ?_ _ | refine blk_drew ?_ | refine blk_alloc ?_ _)); exact BK221.out) NB221_225.out (by simp)); have n1_ := Aside0.mk (KeepBut.blk hk (g' := gb226) (o := .cells #[.bool false, .slice none 0 0, .slice none 0 0, .slice none 0 0] 26 (0, 0)) (by (with_reducible repeat (first | refine blk_drewN ?_ _ | refine blk_drew ?_ | refine blk_alloc ?_ _)); exact BK226.out) NB226_225.out (by simp)); have n2_ := Aside0.mk (hb); have n3_ := Aside0.mk (hi); clear BK221; clear BK226; clear HB; clear HI225; have BK221 := n0_; have BK226 := n1_; have HB := n2_; have HI225 := n3_; clear n0_ n1_ n2_ n3_; (try clear hb); (try clear hb2); (try clear hk); (try clear hi)))
 (try simp only [Act.put, List.setIfInBounds_toArray, List.set_cons_zero, List.set_cons_succ])
 go_cut [] (fun wc => ∃ (kq : Nat) (x222000_4 : Bool) (x226000_4 : ByteArray) (x226001_4 : Int) (x226002_4 : Int) (x227000_4 : Bool) (x227001_4 : List (S66)) (x227002_4 : List ByteArray) (x227003_4 : List Int) (u227001 : Value) (u227002 : Value) (u227003 : Value), Aside0 (node_Decode.j2 kq a0 x226000_4 x226001_4 x226002_4 x227000_4 x227001_4 x227002_4 x227003_4 = some (r1, r2, r3, r4, r5)) ∧ Aside0 (kq ≤ k) ∧ Aside0 (Kd.R k66 66 wc w.heap.size (fun _ => True) u227001 x227001_4) ∧ Aside0 (Kd.R Kd.string 9 wc w.heap.size (fun _ => True) u227002 x227002_4) ∧ Aside0 (Kd.R (Kd.int .u32) 45 wc w.heap.size (fun _ => True) u227003 x227003_4) ∧ Aside0 (wc.heap[gb221]? = some (.cells #[.bool x222000_4, (.slice none 0 0), (.slice none 0 0), (.slice none 0 0)] 26 (0, 0))) ∧ Aside0 (wc.heap[gb226]? = some (.cells #[.bool x227000_4, u227001, u227002, u227003] 26 (0, 0))) ∧ Aside0 (IsS122 w wc g225 x226000_4 x226001_4 x226002_4) ∧ Aside0 (Below w.heap.size w wc))
 case first =>
  have H := HC5.out
  clear HC5
  by_cases c11 : t227 = 1
  ·rw [if_pos c11] at H
   have c11b0 : (t227 == 1) = true := beq_iff_eq.mpr c11
   have c11b1 : (t227 != 1) = false := bne_eq_false_iff_eq.mpr c11
   clear c11
   (first | rw [c11b0] | (simp only [i64_w, i32_w]; rw [c11b0]) | skip)
   have H' := Aside0.mk H
   clear H
   have hnb12 := NB226_221.out
   have hnc12 := NB221_226.out
   have hnb13 := NB226_225.out
   have hnc13 := NB225_226.out
   have hcz14_0 : w10.cell? ⟨gb226, 0, none⟩ = some (.bool false) := (blk_cell BK226.out 0).trans rfl
   have hcz14_1 : w10.cell? ⟨gb226, 1, none⟩ = some (.slice none 0 0) := (blk_cell BK226.out 1).trans rfl
   have hcz14_2 : w10.cell? ⟨gb226, 2, none⟩ = some (.slice none 0 0) := (blk_cell BK226.out 2).trans rfl
   have hcz14_3 : w10.cell? ⟨gb226, 3, none⟩ = some (.slice none 0 0) := (blk_cell BK226.out 3).trans rfl
   have hfz14_0 := blk_frozen BK226.out 0
   have hfz14_1 := blk_frozen BK226.out 1
   have hfz14_2 := blk_frozen BK226.out 2
   have hfz14_3 := blk_frozen BK226.out 3
   go_wp2
   go_loopg [22] k (fun kq v22 w' => ∃ (x22_1 : Int) (x226000_1 : ByteArray) (x226001_1 : Int) (x226002_1 : Int) (x227001_1 : List (S66)) (u227001 : Value), v22 = .int .i64 x22_1 ∧ Aside0 (node_Decode.l0 kq a0 (wrap64 (t231)) x22_1 x226000_1 x226001_1 x226002_1 true x227001_1 = some (r1, r2, r3, r4, r5)) ∧ Aside0 (kq ≤ k) ∧ Aside0 (Kd.R k66 66 w' w.heap.size (fun _ => True) u227001 x227001_1) ∧ Aside0 (w'.heap[gb221]? = some (.cells #[.bool false, (.slice none 0 0), (.slice none 0 0), (.slice none 0 0)] 26 (0, 0))) ∧ Aside0 (w'.heap[gb226]? = some (.cells #[.bool true, u227001, (.slice none 0 0), (.slice none 0 0)] 26 (0, 0))) ∧ Aside0 (IsS122 w w' g225 x226000_1 x226001_1 x226002_1) ∧ Aside0 (Below w.heap.size w w'))
   case atStart => exact ⟨(0), (t232), (t233), (t234), (([] : List (S66))), (.slice none 0 0), (by first | rfl | (simp; done) | (simp [*]; done) | (simp only [i64_w]; done)), H', ⟨Nat.le_refl _⟩, ⟨by first | exact Kd.R_nil _ _ _ _ _ | exact Kd.N_nil _ _ _ _ _ | exact Kd.V_nil _ _ _ _ _ | exact Kd.Q_nil _ _ _ _ _ | exact Kd.S_nil _ _ _ _ _⟩, ⟨by (with_reducible repeat (first | refine blk_drewN ?_ _ | refine blk_drew ?_ | refine blk_alloc ?_ _)); refine blk_far ?_ NB221_226.out _; (with_reducible repeat (first | refine blk_drewN ?_ _ | refine blk_drew ?_ | refine blk_alloc ?_ _)); exact BK221.out⟩, ⟨by (with_reducible repeat (first | refine blk_drewN ?_ _ | refine blk_drew ?_ | refine blk_alloc ?_ _)); refine blk_put (cs := #[.bool false, .slice none 0 0, .slice none 0 0, .slice none 0 0]) ?_ 0 _ rfl; (with_reducible repeat (first | refine blk_drewN ?_ _ | refine blk_drew ?_ | refine blk_alloc ?_ _)); exact BK226.out⟩, ⟨by repeat (first | (with_reducible first | exact HI225.out | apply IsS122.alloc | apply IsS122.drewN | apply IsS122.drew | apply IsS122.set_0 | apply IsS122.set_1 | apply IsS122.set_2 | refine IsS122.far ?_ NB225_221.out _ | refine IsS122.far ?_ NB225_226.out _) | exact HI225.out)⟩, ⟨by repeat (first | (with_reducible first | exact HB.out | apply below_alloc | apply pw_below_drewN | apply below_drew1 | refine below_set ?_ (IsS122.ge HI225.out) | refine below_set ?_ GE221.out | refine below_set ?_ GE226.out) | exact HB.out)⟩⟩
   case round =>
    clear H'
    try clear c1
    try clear p2
    try clear c5
    try clear p6
    try clear c9
    try clear c10
    try clear c11
    try clear c11b0
    try clear c11b1
    try clear c12
    try clear c13
    try clear hcz14_0
    try clear hcz14_1
    try clear hcz14_2
    try clear hcz14_3
    try clear hfz14_0
    try clear hfz14_1
    try clear hfz14_2
    try clear hfz14_3
    obtain ⟨x22_1, x226000_1, x226001_1, x226002_1, x227001_1, u227001, rfl, HA, HK1, HO_227001, BK221, BK226, HI225, HB⟩ := hrel
    cases gk with
    | zero => exact absurd HA.out (by simp [node_Decode.l0])
    | succ k1 =>
     have H := HA.out
     clear HA
     simp only [node_Decode.l0] at H
     by_cases c15 : x22_1 < (wrap64 (t231))
     ·rw [if_pos c15] at H
      have c15b0 : decide (x22_1 < (wrap64 (t231))) = true := decide_eq_true c15
      clear c15
      replace H := Option.bind_eq_some_iff.mp H
      obtain ⟨⟨t235, t236, t237, t238⟩, A160, H⟩ := H
      replace H : ((wire_Reader_Text.f k1 t236 t237 t238 320).bind fun bt240 => ((wire_Reader_Err.f bt240.2.1 bt240.2.2.1 bt240.2.2.2).bind fun bt244 => (if bt244.1 = 0 then (if x227001_1.length < 4398046511104 then (node_Decode.l0 k1 a0 (wrap64 (t231)) (wrap64 (x22_1 + 1)) bt244.2.1 bt244.2.2.1 bt244.2.2.2 true (x227001_1 ++ [(⟨t235, bt240.1⟩ : S66)])) else (none)) else (node_Decode.j2 k1 a0 bt244.2.1 bt244.2.2.1 bt244.2.2.2 true x227001_1 ([] : List ByteArray) ([] : List Int))))) = some (r1, r2, r3, r4, r5) := H
      have A16 := Aside0.mk A160
      clear A160
      replace H := Option.bind_eq_some_iff.mp H
      obtain ⟨⟨t240, t241, t242, t243⟩, A170, H⟩ := H
      replace H : ((wire_Reader_Err.f t241 t242 t243).bind fun bt244 => (if bt244.1 = 0 then (if x227001_1.length < 4398046511104 then (node_Decode.l0 k1 a0 (wrap64 (t231)) (wrap64 (x22_1 + 1)) bt244.2.1 bt244.2.2.1 bt244.2.2.2 true (x227001_1 ++ [(⟨t235, t240⟩ : S66)])) else (none)) else (node_Decode.j2 k1 a0 bt244.2.1 bt244.2.2.1 bt244.2.2.2 true x227001_1 ([] : List ByteArray) ([] : List Int)))) = some (r1, r2, r3, r4, r5) := H
      have A17 := Aside0.mk A170
      clear A170
      replace H := Option.bind_eq_some_iff.mp H
      obtain ⟨⟨t244, t245, t246, t247⟩, A180, H⟩ := H
      replace H : (if t244 = 0 then (if x227001_1.length < 4398046511104 then (node_Decode.l0 k1 a0 (wrap64 (t231)) (wrap64 (x22_1 + 1)) t245 t246 t247 true (x227001_1 ++ [(⟨t235, t240⟩ : S66)])) else (none)) else (node_Decode.j2 k1 a0 t245 t246 t247 true x227001_1 ([] : List ByteArray) ([] : List Int))) = some (r1, r2, r3, r4, r5) := H
      have A18 := Aside0.mk A180
      clear A180
      by_cases c19 : t244 = 0
      ·rw [if_pos c19] at H
       have c19b0 : (t244 == 0) = true := beq_iff_eq.mpr c19
       have c19b1 : (t244 != 0) = false := bne_eq_false_iff_eq.mpr c19
       clear c19
       by_cases c20 : x227001_1.length < 4398046511104
       ·rw [if_pos c20] at H
        have LMc20 := Aside0.mk c20
        clear c20
        obtain ⟨y248, hy248⟩ : ∃ y_ : List (S66), y_ = (x227001_1 ++ [(⟨t235, t240⟩ : S66)]) := ⟨_, rfl⟩
        replace H : (node_Decode.l0 k1 a0 (wrap64 (t231)) (wrap64 (x22_1 + 1)) t245 t246 t247 true y248) = some (r1, r2, r3, r4, r5) := by first | (rw [hy248]; with_reducible exact H) | (have H2_ := (Option.bind_some _ _).symm.trans H; rw [hy248]; with_reducible exact H2_) | (have H2_ := (Option.bind_some _ _).symm.trans H; with_reducible exact H2_) | with_reducible exact H | (rw [hy248]; exact H) | exact H
        have Ny248 := Aside0.mk hy248
        clear hy248
        have H' := Aside0.mk H
        clear H
        go_wp2_with (first | ((with_reducible refine gate_callee (f := 101) rfl ?_); refine goesL_ (some 25) rfl rfl Try.func101 (by kernel_rfl) rfl #[.pointer (some ⟨g225, 0, none⟩), .int .i64 320] rfl (by (try simp only [List.map_toArray, List.map_cons, List.map_nil]); first | done | rfl | (simp only [List.length_drop, List.length_take]; rfl)) ?_; (with_reducible refine (wire_Reader_Text.calls k1 g225 x226000_1 x226001_1 x226002_1 320 t235 t236 t237 t238 w _ ?side1 ?side2 A16.out).mono ?_); (case side1 => repeat (first | (with_reducible first | exact HI225.out | apply IsS122.alloc | apply IsS122.drewN | apply IsS122.drew | apply IsS122.set_0 | apply IsS122.set_1 | apply IsS122.set_2 | refine IsS122.far ?_ NB225_221.out _ | refine IsS122.far ?_ NB225_226.out _) | exact HI225.out)); (case side2 => repeat (first | (with_reducible first | exact HB.out | apply below_alloc | apply pw_below_drewN | apply below_drew1 | refine below_set ?_ (IsS122.ge HI225.out) | refine below_set ?_ GE221.out | refine below_set ?_ GE226.out) | exact HB.out)); rintro e w21 ⟨rfl, hi, hb, hk⟩; refine ⟨_, rfl, ?_⟩; have n0_ := Aside0.mk (Kd.R_mono (Kd.R_keep (IsS122.apart (show IsS122 w _ g225 x226000_1 x226001_1 x226002_1 from by repeat (first | (with_reducible first | exact HI225.out | apply IsS122.alloc | apply IsS122.drewN | apply IsS122.drew | apply IsS122.set_0 | apply IsS122.set_1 | apply IsS122.set_2 | refine IsS122.far ?_ NB225_221.out _ | refine IsS122.far ?_ NB225_226.out _) | exact HI225.out)) (by (with_reducible repeat (first | apply Kd.R_alloc | apply Kd.R_drewN | apply Kd.R_drew)); exact HO_227001.out) (by decide)) hk (fun _ h => h.2)) (fun _ h => h.1)); have n1_ := Aside0.mk (KeepBut.blk hk (g' := gb221) (o := .cells #[.bool false, .slice none 0 0, .slice none 0 0, .slice none 0 0] 26 (0, 0)) (by (with_reducible repeat (first | refine blk_drewN ?_ _ | refine blk_drew ?_ | refine blk_alloc ?_ _)); exact BK221.out) NB221_225.out (by simp)); have n2_ := Aside0.mk (KeepBut.blk hk (g' := gb226) (o := .cells #[.bool true, u227001, .slice none 0 0, .slice none 0 0] 26 (0, 0)) (by (with_reducible repeat (first | refine blk_drewN ?_ _ | refine blk_drew ?_ | refine blk_alloc ?_ _)); exact BK226.out) NB226_225.out (by simp)); have n3_ := Aside0.mk (hb); have n4_ := Aside0.mk (hi); clear HO_227001; clear BK221; clear BK226; clear HB; clear HI225; have HO_227001 := n0_; have BK221 := n1_; have BK226 := n2_; have HB := n3_; have HI225 := n4_; clear n0_ n1_ n2_ n3_ n4_; (try clear hb); (try clear hb2); (try clear hk); (try clear hi)) | ((with_reducible refine gate_dst (N := 8) rfl ?_); (try (refine gate_guard (by rfl) ?_; dsimp only)); refine box_event ?hg (N := 8) ?hd (cs := #[.string (⟨#[]⟩ : ByteArray), .string (⟨#[]⟩ : ByteArray)]) (t := 66) ?hr ?_; (case hd => rfl); (case hg => rfl); (case hr => first | (go_simp; done) | (go_simp; rfl)); intro gb239 hg w22 hbox hb; have n0_ := Aside0.mk (Kd.R_below (Kd.R_elderB (by (with_reducible repeat (first | apply Kd.R_alloc | apply Kd.R_drewN | apply Kd.R_drew)); exact HO_227001.out) gb239 (Nat.le_of_eq hg.symm)) hb); have n1_ := Aside0.mk (blk_below (g := gb221) (o := .cells #[.bool false, .slice none 0 0, .slice none 0 0, .slice none 0 0] 26 (0, 0)) (by (with_reducible repeat (first | refine blk_drewN ?_ _ | refine blk_drew ?_ | refine blk_alloc ?_ _)); exact BK221.out) hb); have n2_ := Aside0.mk (blk_below (g := gb226) (o := .cells #[.bool true, u227001, .slice none 0 0, .slice none 0 0] 26 (0, 0)) (by (with_reducible repeat (first | refine blk_drewN ?_ _ | refine blk_drew ?_ | refine blk_alloc ?_ _)); exact BK226.out) hb); have n3_ := Aside0.mk (IsS122.below (by repeat (first | (with_reducible first | exact HI225.out | apply IsS122.alloc | apply IsS122.drewN | apply IsS122.drew | apply IsS122.set_0 | apply IsS122.set_1 | apply IsS122.set_2 | refine IsS122.far ?_ NB225_221.out _ | refine IsS122.far ?_ NB225_226.out _) | exact HI225.out)) hb); have n4_ := Aside0.mk (below_step (by repeat (first | (with_reducible first | exact HB.out | apply below_alloc | apply pw_below_drewN | apply below_drew1 | refine below_set ?_ (IsS122.ge HI225.out) | refine below_set ?_ GE221.out | refine below_set ?_ GE226.out) | exact HB.out)) hb); have n5_ := Aside0.mk (hbox); have n6_ := Aside0.mk ((by rw [hg]; exact (below_size (by repeat (first | (with_reducible first | exact HB.out | apply below_alloc | apply pw_below_drewN | apply below_drew1 | refine below_set ?_ (IsS122.ge HI225.out) | refine below_set ?_ GE221.out | refine below_set ?_ GE226.out) | exact HB.out))) : w.heap.size ≤ gb239)); have n7_ := Aside0.mk ((by rw [hg]; exact (below_size (by repeat (first | (with_reducible first | exact HB.out | apply below_alloc | apply pw_below_drewN | apply below_drew1 | refine below_set ?_ (IsS122.ge HI225.out) | refine below_set ?_ GE221.out | refine below_set ?_ GE226.out) | exact HB.out))) : w.heap.size ≤ gb239)); have n8_ := Aside0.mk ((by rw [hg]; exact Nat.ne_of_lt (blk_lt (g := gb221) (o := .cells #[.bool false, .slice none 0 0, .slice none 0 0, .slice none 0 0] 26 (0, 0)) (by (with_reducible repeat (first | refine blk_drewN ?_ _ | refine blk_drew ?_ | refine blk_alloc ?_ _)); exact BK221.out)) : gb221 ≠ gb239)); have n9_ := Aside0.mk ((by rw [hg]; exact Nat.ne_of_gt (blk_lt (g := gb221) (o := .cells #[.bool false, .slice none 0 0, .slice none 0 0, .slice none 0 0] 26 (0, 0)) (by (with_reducible repeat (first | refine blk_drewN ?_ _ | refine blk_drew ?_ | refine blk_alloc ?_ _)); exact BK221.out)) : gb239 ≠ gb221)); have n10_ := Aside0.mk ((by rw [hg]; exact Nat.ne_of_lt (blk_lt (g := gb226) (o := .cells #[.bool true, u227001, .slice none 0 0, .slice none 0 0] 26 (0, 0)) (by (with_reducible repeat (first | refine blk_drewN ?_ _ | refine blk_drew ?_ | refine blk_alloc ?_ _)); exact BK226.out)) : gb226 ≠ gb239)); have n11_ := Aside0.mk ((by rw [hg]; exact Nat.ne_of_gt (blk_lt (g := gb226) (o := .cells #[.bool true, u227001, .slice none 0 0, .slice none 0 0] 26 (0, 0)) (by (with_reducible repeat (first | refine blk_drewN ?_ _ | refine blk_drew ?_ | refine blk_alloc ?_ _)); exact BK226.out)) : gb239 ≠ gb226)); have n12_ := Aside0.mk ((by rw [hg]; exact Nat.ne_of_lt (IsS122.lt (show IsS122 w _ g225 t236 t237 t238 from by repeat (first | (with_reducible first | exact HI225.out | apply IsS122.alloc | apply IsS122.drewN | apply IsS122.drew | apply IsS122.set_0 | apply IsS122.set_1 | apply IsS122.set_2 | refine IsS122.far ?_ NB225_221.out _ | refine IsS122.far ?_ NB225_226.out _) | exact HI225.out))) : g225 ≠ gb239)); have n13_ := Aside0.mk ((by rw [hg]; exact Nat.ne_of_gt (IsS122.lt (show IsS122 w _ g225 t236 t237 t238 from by repeat (first | (with_reducible first | exact HI225.out | apply IsS122.alloc | apply IsS122.drewN | apply IsS122.drew | apply IsS122.set_0 | apply IsS122.set_1 | apply IsS122.set_2 | refine IsS122.far ?_ NB225_221.out _ | refine IsS122.far ?_ NB225_226.out _) | exact HI225.out))) : gb239 ≠ g225)); clear HO_227001; clear BK221; clear BK226; clear HI225; clear HB; have HO_227001 := n0_; have BK221 := n1_; have BK226 := n2_; have HI225 := n3_; have HB := n4_; have BK239 := n5_; have GW239 := n6_; have GE239 := n7_; have NB221_239 := n8_; have NB239_221 := n9_; have NB226_239 := n10_; have NB239_226 := n11_; have NB225_239 := n12_; have NB239_225 := n13_; clear n0_ n1_ n2_ n3_ n4_ n5_ n6_ n7_ n8_ n9_ n10_ n11_ n12_ n13_; clear hb hbox hg; have hnb23 := NB239_221.out; have hnc23 := NB221_239.out; have hnb24 := NB239_226.out; have hnc24 := NB226_239.out; have hnb25 := NB239_225.out; have hnc25 := NB225_239.out; have hcz26_0 : w22.cell? ⟨gb239, 0, none⟩ = some (.string (⟨#[]⟩ : ByteArray)) := (blk_cell BK239.out 0).trans rfl; have hcz26_1 : w22.cell? ⟨gb239, 1, none⟩ = some (.string (⟨#[]⟩ : ByteArray)) := (blk_cell BK239.out 1).trans rfl; have hfz26_0 := blk_frozen BK239.out 0; have hfz26_1 := blk_frozen BK239.out 1) | ((with_reducible refine gate_callee (f := 101) rfl ?_); refine goesL_ (some 28) rfl rfl Try.func101 (by kernel_rfl) rfl #[.pointer (some ⟨g225, 0, none⟩), .int .i64 320] rfl (by (try simp only [List.map_toArray, List.map_cons, List.map_nil]); first | done | rfl | (simp only [List.length_drop, List.length_take]; rfl)) ?_; (with_reducible refine (wire_Reader_Text.calls k1 g225 t236 t237 t238 320 t240 t241 t242 t243 w _ ?side1 ?side2 A17.out).mono ?_); (case side1 => repeat (first | (with_reducible first | exact HI225.out | apply IsS122.alloc | apply IsS122.drewN | apply IsS122.drew | apply IsS122.set_0 | apply IsS122.set_1 | apply IsS122.set_2 | refine IsS122.far ?_ NB225_221.out _ | refine IsS122.far ?_ NB225_226.out _ | refine IsS122.far ?_ NB225_239.out _) | exact HI225.out)); (case side2 => repeat (first | (with_reducible first | exact HB.out | apply below_alloc | apply pw_below_drewN | apply below_drew1 | refine below_set ?_ (IsS122.ge HI225.out) | refine below_set ?_ GE221.out | refine below_set ?_ GE226.out | refine below_set ?_ GE239.out) | exact HB.out)); rintro e w27 ⟨rfl, hi, hb, hk⟩; refine ⟨_, rfl, ?_⟩; have n0_ := Aside0.mk (Kd.R_mono (Kd.R_keep (IsS122.apart (show IsS122 w _ g225 t236 t237 t238 from by repeat (first | (with_reducible first | exact HI225.out | apply IsS122.alloc | apply IsS122.drewN | apply IsS122.drew | apply IsS122.set_0 | apply IsS122.set_1 | apply IsS122.set_2 | refine IsS122.far ?_ NB225_221.out _ | refine IsS122.far ?_ NB225_226.out _ | refine IsS122.far ?_ NB225_239.out _) | exact HI225.out)) (by (with_reducible repeat (first | apply Kd.R_alloc | apply Kd.R_drewN | apply Kd.R_drew)); exact (Kd.R_mono (Kd.R_far (p := ⟨gb239, 1, none⟩) (Kd.R_far (p := ⟨gb239, 0, none⟩) (Kd.R_mono HO_227001.out (fun k_ hk => (⟨hk, hk.2⟩ : _ ∧ k_ ≠ gb239))) (fun _ hk => hk.2) (.string t235)) (fun _ hk => hk.2) (.string (⟨#[]⟩ : ByteArray))) (fun _ h_ => h_.1))) (by decide)) hk (fun _ h => h.2)) (fun _ h => h.1)); have n1_ := Aside0.mk (KeepBut.blk hk (g' := gb221) (o := .cells #[.bool false, .slice none 0 0, .slice none 0 0, .slice none 0 0] 26 (0, 0)) (by (with_reducible repeat (first | refine blk_drewN ?_ _ | refine blk_drew ?_ | refine blk_alloc ?_ _)); refine blk_far ?_ NB221_239.out _; (with_reducible repeat (first | refine blk_drewN ?_ _ | refine blk_drew ?_ | refine blk_alloc ?_ _)); refine blk_far ?_ NB221_239.out _; (with_reducible repeat (first | refine blk_drewN ?_ _ | refine blk_drew ?_ | refine blk_alloc ?_ _)); exact BK221.out) NB221_225.out (by simp)); have n2_ := Aside0.mk (KeepBut.blk hk (g' := gb226) (o := .cells #[.bool true, u227001, .slice none 0 0, .slice none 0 0] 26 (0, 0)) (by (with_reducible repeat (first | refine blk_drewN ?_ _ | refine blk_drew ?_ | refine blk_alloc ?_ _)); refine blk_far ?_ NB226_239.out _; (with_reducible repeat (first | refine blk_drewN ?_ _ | refine blk_drew ?_ | refine blk_alloc ?_ _)); refine blk_far ?_ NB226_239.out _; (with_reducible repeat (first | refine blk_drewN ?_ _ | refine blk_drew ?_ | refine blk_alloc ?_ _)); exact BK226.out) NB226_225.out (by simp)); have n3_ := Aside0.mk (KeepBut.blk hk (g' := gb239) (o := .cells #[.string t235, .string (⟨#[]⟩ : ByteArray)] 66 (0, 0)) (by (with_reducible repeat (first | refine blk_drewN ?_ _ | refine blk_drew ?_ | refine blk_alloc ?_ _)); refine blk_put (cs := #[.string t235, .string (⟨#[]⟩ : ByteArray)]) ?_ 1 _ rfl; (with_reducible repeat (first | refine blk_drewN ?_ _ | refine blk_drew ?_ | refine blk_alloc ?_ _)); refine blk_put (cs := #[.string (⟨#[]⟩ : ByteArray), .string (⟨#[]⟩ : ByteArray)]) ?_ 0 _ rfl; (with_reducible repeat (first | refine blk_drewN ?_ _ | refine blk_drew ?_ | refine blk_alloc ?_ _)); exact BK239.out) NB239_225.out (by simp)); have n4_ := Aside0.mk (hb); have n5_ := Aside0.mk (hi); clear HO_227001; clear BK221; clear BK226; clear BK239; clear HB; clear HI225; have HO_227001 := n0_; have BK221 := n1_; have BK226 := n2_; have BK239 := n3_; have HB := n4_; have HI225 := n5_; clear n0_ n1_ n2_ n3_ n4_ n5_; (try clear hb); (try clear hb2); (try clear hk); (try clear hi); have hcz28_0 : w27.cell? ⟨gb239, 0, none⟩ = some (.string t235) := (blk_cell BK239.out 0).trans rfl; have hcz28_1 : w27.cell? ⟨gb239, 1, none⟩ = some (.string (⟨#[]⟩ : ByteArray)) := (blk_cell BK239.out 1).trans rfl; have hfz28_0 := blk_frozen BK239.out 0; have hfz28_1 := blk_frozen BK239.out 1) | ((with_reducible refine gate_callee (f := 102) rfl ?_); refine goesL_ (some 31) rfl rfl Try.func102 (by kernel_rfl) rfl #[.pointer (some ⟨g225, 0, none⟩)] rfl (by (try simp only [List.map_toArray, List.map_cons, List.map_nil]); first | done | rfl | (simp only [List.length_drop, List.length_take]; rfl)) ?_; (with_reducible refine (wire_Reader_Err.calls g225 t241 t242 t243 t244 t245 t246 t247 w _ ?side1 ?side2 A18.out).mono ?_); (case side1 => repeat (first | (with_reducible first | exact HI225.out | apply IsS122.alloc | apply IsS122.drewN | apply IsS122.drew | apply IsS122.set_0 | apply IsS122.set_1 | apply IsS122.set_2 | refine IsS122.far ?_ NB225_221.out _ | refine IsS122.far ?_ NB225_226.out _ | refine IsS122.far ?_ NB225_239.out _) | exact HI225.out)); (case side2 => repeat (first | (with_reducible first | exact HB.out | apply below_alloc | apply pw_below_drewN | apply below_drew1 | refine below_set ?_ (IsS122.ge HI225.out) | refine below_set ?_ GE221.out | refine below_set ?_ GE226.out | refine below_set ?_ GE239.out) | exact HB.out)); rintro e w29 ⟨rfl, hi, hb, hk⟩; refine ⟨_, rfl, ?_⟩; have n0_ := Aside0.mk (Kd.R_mono (Kd.R_keep (IsS122.apart (show IsS122 w _ g225 t241 t242 t243 from by repeat (first | (with_reducible first | exact HI225.out | apply IsS122.alloc | apply IsS122.drewN | apply IsS122.drew | apply IsS122.set_0 | apply IsS122.set_1 | apply IsS122.set_2 | refine IsS122.far ?_ NB225_221.out _ | refine IsS122.far ?_ NB225_226.out _ | refine IsS122.far ?_ NB225_239.out _) | exact HI225.out)) (by (with_reducible repeat (first | apply Kd.R_alloc | apply Kd.R_drewN | apply Kd.R_drew)); exact (Kd.R_mono (Kd.R_far (p := ⟨gb239, 1, none⟩) (Kd.R_mono HO_227001.out (fun k_ hk => (⟨hk, hk.2⟩ : _ ∧ k_ ≠ gb239))) (fun _ hk => hk.2) (.string t240)) (fun _ h_ => h_.1))) (by decide)) hk (fun _ h => h.2)) (fun _ h => h.1)); have n1_ := Aside0.mk (KeepBut.blk hk (g' := gb221) (o := .cells #[.bool false, .slice none 0 0, .slice none 0 0, .slice none 0 0] 26 (0, 0)) (by (with_reducible repeat (first | refine blk_drewN ?_ _ | refine blk_drew ?_ | refine blk_alloc ?_ _)); refine blk_far ?_ NB221_239.out _; (with_reducible repeat (first | refine blk_drewN ?_ _ | refine blk_drew ?_ | refine blk_alloc ?_ _)); exact BK221.out) NB221_225.out (by simp)); have n2_ := Aside0.mk (KeepBut.blk hk (g' := gb226) (o := .cells #[.bool true, u227001, .slice none 0 0, .slice none 0 0] 26 (0, 0)) (by (with_reducible repeat (first | refine blk_drewN ?_ _ | refine blk_drew ?_ | refine blk_alloc ?_ _)); refine blk_far ?_ NB226_239.out _; (with_reducible repeat (first | refine blk_drewN ?_ _ | refine blk_drew ?_ | refine blk_alloc ?_ _)); exact BK226.out) NB226_225.out (by simp)); have n3_ := Aside0.mk (KeepBut.blk hk (g' := gb239) (o := .cells #[.string t235, .string t240] 66 (0, 0)) (by (with_reducible repeat (first | refine blk_drewN ?_ _ | refine blk_drew ?_ | refine blk_alloc ?_ _)); refine blk_put (cs := #[.string t235, .string (⟨#[]⟩ : ByteArray)]) ?_ 1 _ rfl; (with_reducible repeat (first | refine blk_drewN ?_ _ | refine blk_drew ?_ | refine blk_alloc ?_ _)); exact BK239.out) NB239_225.out (by simp)); have n4_ := Aside0.mk (hb); have n5_ := Aside0.mk (hi); clear HO_227001; clear BK221; clear BK226; clear BK239; clear HB; clear HI225; have HO_227001 := n0_; have BK221 := n1_; have BK226 := n2_; have BK239 := n3_; have HB := n4_; have HI225 := n5_; clear n0_ n1_ n2_ n3_ n4_ n5_; (try clear hb); (try clear hb2); (try clear hk); (try clear hi); have hnb30 := NB226_221.out; have hnc30 := NB221_226.out; have hnb31 := NB226_225.out; have hnc31 := NB225_226.out; have hcz32_0 : w29.cell? ⟨gb226, 0, none⟩ = some (.bool true) := (blk_cell BK226.out 0).trans rfl; have hcz32_1 : w29.cell? ⟨gb226, 1, none⟩ = some (u227001) := (blk_cell BK226.out 1).trans rfl; have hcz32_2 : w29.cell? ⟨gb226, 2, none⟩ = some (.slice none 0 0) := (blk_cell BK226.out 2).trans rfl; have hcz32_3 : w29.cell? ⟨gb226, 3, none⟩ = some (.slice none 0 0) := (blk_cell BK226.out 3).trans rfl; have hfz32_0 := blk_frozen BK226.out 0; have hfz32_1 := blk_frozen BK226.out 1; have hfz32_2 := blk_frozen BK226.out 2; have hfz32_3 := blk_frozen BK226.out 3; have hcz33_0 : w29.cell? ⟨gb239, 0, none⟩ = some (.string t235) := (blk_cell BK239.out 0).trans rfl; have hcz33_1 : w29.cell? ⟨gb239, 1, none⟩ = some (.string t240) := (blk_cell BK239.out 1).trans rfl; have hfz33_0 := blk_frozen BK239.out 0; have hfz33_1 := blk_frozen BK239.out 1) | ((with_reducible refine gate_builtin (b := .append) (xs := #[.tmp 34, .tmp 36]) rfl ?_); (try (refine gate_guard (by rfl) ?_; dsimp only)); at_builtin; refine Kd.R_append k66 (w0 := w) w.heap.size rfl (.tmp 34) (.tmp 36) 22 66 (.agg #[(.string ⟨#[]⟩), (.string ⟨#[]⟩)]) 32 rfl Try.underlying22 info66 rfl (by decide) (by omega) u227001 x227001_1 (⟨t235, t240⟩ : S66) [.string t235, .string t240] (fun k_ => k_ ≠ gb239) (fun _ => False) rfl rfl ?aP (fun _ hk => hk.elim) ?aF ?aO ?aB ?aS ?aL ?_; (case aP => exact k66_mkM _ _ _ (⟨t235, t240⟩ : S66)); (case aB => exact (by repeat (first | (with_reducible first | exact HB.out | apply below_alloc | apply pw_below_drewN | apply below_drew1 | refine below_set ?_ (IsS122.ge HI225.out) | refine below_set ?_ GE221.out | refine below_set ?_ GE226.out | refine below_set ?_ GE239.out) | exact HB.out))); (case aF => exact (fun k_ hk => Kd.freshB (g := gb239) (o := .cells #[.string t235, .string t240] 66 (0, 0)) (by (with_reducible repeat (first | refine blk_drewN ?_ _ | refine blk_drew ?_ | refine blk_alloc ?_ _)); exact BK239.out) k_ hk)); (case aO => exact (by (with_reducible repeat (first | apply Kd.R_alloc | apply Kd.R_drewN | apply Kd.R_drew)); exact Kd.R_mono HO_227001.out (fun _ hk => hk.2))); (case aS => exact (below_size (by repeat (first | (with_reducible first | exact HB.out | apply below_alloc | apply pw_below_drewN | apply below_drew1 | refine below_set ?_ (IsS122.ge HI225.out) | refine below_set ?_ GE221.out | refine below_set ?_ GE226.out | refine below_set ?_ GE239.out) | exact HB.out)))); (case aL => have := LMc20.out; omega); intro v249 w34 ho hb hg hat; rw [← Ny248.out] at ho; have n0_ := Aside0.mk (blk_grown (g := gb221) (o := .cells #[.bool false, .slice none 0 0, .slice none 0 0, .slice none 0 0] 26 (0, 0)) (by (with_reducible repeat (first | refine blk_drewN ?_ _ | refine blk_drew ?_ | refine blk_alloc ?_ _)); exact BK221.out) hg (Kd.R_ne HO_227001.out BK221.out (by decide))); have n1_ := Aside0.mk (blk_grown (g := gb226) (o := .cells #[.bool true, u227001, .slice none 0 0, .slice none 0 0] 26 (0, 0)) (by (with_reducible repeat (first | refine blk_drewN ?_ _ | refine blk_drew ?_ | refine blk_alloc ?_ _)); exact BK226.out) hg (Kd.R_ne HO_227001.out BK226.out (by decide))); have n2_ := Aside0.mk (IsS122.grown (by repeat (first | (with_reducible first | exact HI225.out | apply IsS122.alloc | apply IsS122.drewN | apply IsS122.drew | apply IsS122.set_0 | apply IsS122.set_1 | apply IsS122.set_2 | refine IsS122.far ?_ NB225_221.out _ | refine IsS122.far ?_ NB225_226.out _ | refine IsS122.far ?_ NB225_239.out _) | exact HI225.out)) hg (IsS122.own_ne HI225.out HO_227001.out (by decide))); have n3_ := Aside0.mk (blk_grown (g := gb239) (o := .cells #[.string t235, .string t240] 66 (0, 0)) (by (with_reducible repeat (first | refine blk_drewN ?_ _ | refine blk_drew ?_ | refine blk_alloc ?_ _)); exact BK239.out) hg (Kd.R_away HO_227001.out (fun _ hk => hk.2))); have n4_ := Aside0.mk (hb); have n5_ := Aside0.mk (ho); clear BK221; clear BK226; clear HI225; clear BK239; clear HB; clear HO_227001; have BK221 := n0_; have BK226 := n1_; have HI225 := n2_; have BK239 := n3_; have HB := n4_; have HO250 := n5_; clear n0_ n1_ n2_ n3_ n4_ n5_; clear ho hb hg hat; obtain ⟨Ao35, co35, eo35⟩ := Kd.R_slice HO250.out; subst eo35; have hcz36_0 : w34.cell? ⟨gb226, 0, none⟩ = some (.bool true) := (blk_cell BK226.out 0).trans rfl; have hcz36_1 : w34.cell? ⟨gb226, 1, none⟩ = some (u227001) := (blk_cell BK226.out 1).trans rfl; have hcz36_2 : w34.cell? ⟨gb226, 2, none⟩ = some (.slice none 0 0) := (blk_cell BK226.out 2).trans rfl; have hcz36_3 : w34.cell? ⟨gb226, 3, none⟩ = some (.slice none 0 0) := (blk_cell BK226.out 3).trans rfl; have hfz36_0 := blk_frozen BK226.out 0; have hfz36_1 := blk_frozen BK226.out 1; have hfz36_2 := blk_frozen BK226.out 2; have hfz36_3 := blk_frozen BK226.out 3))
        go_roundg k1
        case measure => have := HK1.out; omega
        case rel => exact ⟨(wrap64 (x22_1 + 1)), (t245), (t246), (t247), (y248), (.slice Ao35 y248.length co35), (by first | rfl | (simp; done) | (simp [*]; done) | (simp only [i64_w]; done)), H', ⟨by have := HK1.out; omega⟩, ⟨by (with_reducible repeat (first | apply Kd.R_alloc | apply Kd.R_drewN | apply Kd.R_drew)); exact Kd.R_mono (Kd.R_far (p := ⟨gb226, 1, none⟩) (Kd.R_types HO250.out BK226.out (by decide)) (fun _ hk => hk.2) (.slice Ao35 y248.length co35)) (fun _ hk => trivial)⟩, ⟨by (with_reducible repeat (first | refine blk_drewN ?_ _ | refine blk_drew ?_ | refine blk_alloc ?_ _)); refine blk_far ?_ NB221_226.out _; (with_reducible repeat (first | refine blk_drewN ?_ _ | refine blk_drew ?_ | refine blk_alloc ?_ _)); exact BK221.out⟩, ⟨by (with_reducible repeat (first | refine blk_drewN ?_ _ | refine blk_drew ?_ | refine blk_alloc ?_ _)); refine blk_put (cs := #[.bool true, u227001, .slice none 0 0, .slice none 0 0]) ?_ 1 _ rfl; (with_reducible repeat (first | refine blk_drewN ?_ _ | refine blk_drew ?_ | refine blk_alloc ?_ _)); exact BK226.out⟩, ⟨by repeat (first | (with_reducible first | exact HI225.out | apply IsS122.alloc | apply IsS122.drewN | apply IsS122.drew | apply IsS122.set_0 | apply IsS122.set_1 | apply IsS122.set_2 | refine IsS122.far ?_ NB225_221.out _ | refine IsS122.far ?_ NB225_226.out _ | refine IsS122.far ?_ NB225_239.out _) | exact HI225.out)⟩, ⟨by repeat (first | (with_reducible first | exact HB.out | apply below_alloc | apply pw_below_drewN | apply below_drew1 | refine below_set ?_ (IsS122.ge HI225.out) | refine below_set ?_ GE221.out | refine below_set ?_ GE226.out | refine below_set ?_ GE239.out) | exact HB.out)⟩⟩
       ·rw [if_neg c20] at H
        exact absurd H (by simp)
      ·rw [if_neg c19] at H
       have c19b0 : (t244 == 0) = false := beq_eq_false_iff_ne.mpr c19
       have c19b1 : (t244 != 0) = true := bne_iff_ne.mpr c19
       have H' := Aside0.mk H
       clear H
       go_wp2_with (first | ((with_reducible refine gate_callee (f := 101) rfl ?_); refine goesL_ (some 25) rfl rfl Try.func101 (by kernel_rfl) rfl #[.pointer (some ⟨g225, 0, none⟩), .int .i64 320] rfl (by (try simp only [List.map_toArray, List.map_cons, List.map_nil]); first | done | rfl | (simp only [List.length_drop, List.length_take]; rfl)) ?_; (with_reducible refine (wire_Reader_Text.calls k1 g225 x226000_1 x226001_1 x226002_1 320 t235 t236 t237 t238 w _ ?side1 ?side2 A16.out).mono ?_); (case side1 => repeat (first | (with_reducible first | exact HI225.out | apply IsS122.alloc | apply IsS122.drewN | apply IsS122.drew | apply IsS122.set_0 | apply IsS122.set_1 | apply IsS122.set_2 | refine IsS122.far ?_ NB225_221.out _ | refine IsS122.far ?_ NB225_226.out _) | exact HI225.out)); (case side2 => repeat (first | (with_reducible first | exact HB.out | apply below_alloc | apply pw_below_drewN | apply below_drew1 | refine below_set ?_ (IsS122.ge HI225.out) | refine below_set ?_ GE221.out | refine below_set ?_ GE226.out) | exact HB.out)); rintro e w37 ⟨rfl, hi, hb, hk⟩; refine ⟨_, rfl, ?_⟩; have n0_ := Aside0.mk (Kd.R_mono (Kd.R_keep (IsS122.apart (show IsS122 w _ g225 x226000_1 x226001_1 x226002_1 from by repeat (first | (with_reducible first | exact HI225.out | apply IsS122.alloc | apply IsS122.drewN | apply IsS122.drew | apply IsS122.set_0 | apply IsS122.set_1 | apply IsS122.set_2 | refine IsS122.far ?_ NB225_221.out _ | refine IsS122.far ?_ NB225_226.out _) | exact HI225.out)) (by (with_reducible repeat (first | apply Kd.R_alloc | apply Kd.R_drewN | apply Kd.R_drew)); exact HO_227001.out) (by decide)) hk (fun _ h => h.2)) (fun _ h => h.1)); have n1_ := Aside0.mk (KeepBut.blk hk (g' := gb221) (o := .cells #[.bool false, .slice none 0 0, .slice none 0 0, .slice none 0 0] 26 (0, 0)) (by (with_reducible repeat (first | refine blk_drewN ?_ _ | refine blk_drew ?_ | refine blk_alloc ?_ _)); exact BK221.out) NB221_225.out (by simp)); have n2_ := Aside0.mk (KeepBut.blk hk (g' := gb226) (o := .cells #[.bool true, u227001, .slice none 0 0, .slice none 0 0] 26 (0, 0)) (by (with_reducible repeat (first | refine blk_drewN ?_ _ | refine blk_drew ?_ | refine blk_alloc ?_ _)); exact BK226.out) NB226_225.out (by simp)); have n3_ := Aside0.mk (hb); have n4_ := Aside0.mk (hi); clear HO_227001; clear BK221; clear BK226; clear HB; clear HI225; have HO_227001 := n0_; have BK221 := n1_; have BK226 := n2_; have HB := n3_; have HI225 := n4_; clear n0_ n1_ n2_ n3_ n4_; (try clear hb); (try clear hb2); (try clear hk); (try clear hi)) | ((with_reducible refine gate_dst (N := 8) rfl ?_); (try (refine gate_guard (by rfl) ?_; dsimp only)); refine box_event ?hg (N := 8) ?hd (cs := #[.string (⟨#[]⟩ : ByteArray), .string (⟨#[]⟩ : ByteArray)]) (t := 66) ?hr ?_; (case hd => rfl); (case hg => rfl); (case hr => first | (go_simp; done) | (go_simp; rfl)); intro gb239 hg w38 hbox hb; have n0_ := Aside0.mk (Kd.R_below (Kd.R_elderB (by (with_reducible repeat (first | apply Kd.R_alloc | apply Kd.R_drewN | apply Kd.R_drew)); exact HO_227001.out) gb239 (Nat.le_of_eq hg.symm)) hb); have n1_ := Aside0.mk (blk_below (g := gb221) (o := .cells #[.bool false, .slice none 0 0, .slice none 0 0, .slice none 0 0] 26 (0, 0)) (by (with_reducible repeat (first | refine blk_drewN ?_ _ | refine blk_drew ?_ | refine blk_alloc ?_ _)); exact BK221.out) hb); have n2_ := Aside0.mk (blk_below (g := gb226) (o := .cells #[.bool true, u227001, .slice none 0 0, .slice none 0 0] 26 (0, 0)) (by (with_reducible repeat (first | refine blk_drewN ?_ _ | refine blk_drew ?_ | refine blk_alloc ?_ _)); exact BK226.out) hb); have n3_ := Aside0.mk (IsS122.below (by repeat (first | (with_reducible first | exact HI225.out | apply IsS122.alloc | apply IsS122.drewN | apply IsS122.drew | apply IsS122.set_0 | apply IsS122.set_1 | apply IsS122.set_2 | refine IsS122.far ?_ NB225_221.out _ | refine IsS122.far ?_ NB225_226.out _) | exact HI225.out)) hb); have n4_ := Aside0.mk (below_step (by repeat (first | (with_reducible first | exact HB.out | apply below_alloc | apply pw_below_drewN | apply below_drew1 | refine below_set ?_ (IsS122.ge HI225.out) | refine below_set ?_ GE221.out | refine below_set ?_ GE226.out) | exact HB.out)) hb); have n5_ := Aside0.mk (hbox); have n6_ := Aside0.mk ((by rw [hg]; exact (below_size (by repeat (first | (with_reducible first | exact HB.out | apply below_alloc | apply pw_below_drewN | apply below_drew1 | refine below_set ?_ (IsS122.ge HI225.out) | refine below_set ?_ GE221.out | refine below_set ?_ GE226.out) | exact HB.out))) : w.heap.size ≤ gb239)); have n7_ := Aside0.mk ((by rw [hg]; exact (below_size (by repeat (first | (with_reducible first | exact HB.out | apply below_alloc | apply pw_below_drewN | apply below_drew1 | refine below_set ?_ (IsS122.ge HI225.out) | refine below_set ?_ GE221.out | refine below_set ?_ GE226.out) | exact HB.out))) : w.heap.size ≤ gb239)); have n8_ := Aside0.mk ((by rw [hg]; exact Nat.ne_of_lt (blk_lt (g := gb221) (o := .cells #[.bool false, .slice none 0 0, .slice none 0 0, .slice none 0 0] 26 (0, 0)) (by (with_reducible repeat (first | refine blk_drewN ?_ _ | refine blk_drew ?_ | refine blk_alloc ?_ _)); exact BK221.out)) : gb221 ≠ gb239)); have n9_ := Aside0.mk ((by rw [hg]; exact Nat.ne_of_gt (blk_lt (g := gb221) (o := .cells #[.bool false, .slice none 0 0, .slice none 0 0, .slice none 0 0] 26 (0, 0)) (by (with_reducible repeat (first | refine blk_drewN ?_ _ | refine blk_drew ?_ | refine blk_alloc ?_ _)); exact BK221.out)) : gb239 ≠ gb221)); have n10_ := Aside0.mk ((by rw [hg]; exact Nat.ne_of_lt (blk_lt (g := gb226) (o := .cells #[.bool true, u227001, .slice none 0 0, .slice none 0 0] 26 (0, 0)) (by (with_reducible repeat (first | refine blk_drewN ?_ _ | refine blk_drew ?_ | refine blk_alloc ?_ _)); exact BK226.out)) : gb226 ≠ gb239)); have n11_ := Aside0.mk ((by rw [hg]; exact Nat.ne_of_gt (blk_lt (g := gb226) (o := .cells #[.bool true, u227001, .slice none 0 0, .slice none 0 0] 26 (0, 0)) (by (with_reducible repeat (first | refine blk_drewN ?_ _ | refine blk_drew ?_ | refine blk_alloc ?_ _)); exact BK226.out)) : gb239 ≠ gb226)); have n12_ := Aside0.mk ((by rw [hg]; exact Nat.ne_of_lt (IsS122.lt (show IsS122 w _ g225 t236 t237 t238 from by repeat (first | (with_reducible first | exact HI225.out | apply IsS122.alloc | apply IsS122.drewN | apply IsS122.drew | apply IsS122.set_0 | apply IsS122.set_1 | apply IsS122.set_2 | refine IsS122.far ?_ NB225_221.out _ | refine IsS122.far ?_ NB225_226.out _) | exact HI225.out))) : g225 ≠ gb239)); have n13_ := Aside0.mk ((by rw [hg]; exact Nat.ne_of_gt (IsS122.lt (show IsS122 w _ g225 t236 t237 t238 from by repeat (first | (with_reducible first | exact HI225.out | apply IsS122.alloc | apply IsS122.drewN | apply IsS122.drew | apply IsS122.set_0 | apply IsS122.set_1 | apply IsS122.set_2 | refine IsS122.far ?_ NB225_221.out _ | refine IsS122.far ?_ NB225_226.out _) | exact HI225.out))) : gb239 ≠ g225)); clear HO_227001; clear BK221; clear BK226; clear HI225; clear HB; have HO_227001 := n0_; have BK221 := n1_; have BK226 := n2_; have HI225 := n3_; have HB := n4_; have BK239 := n5_; have GW239 := n6_; have GE239 := n7_; have NB221_239 := n8_; have NB239_221 := n9_; have NB226_239 := n10_; have NB239_226 := n11_; have NB225_239 := n12_; have NB239_225 := n13_; clear n0_ n1_ n2_ n3_ n4_ n5_ n6_ n7_ n8_ n9_ n10_ n11_ n12_ n13_; clear hb hbox hg; have hnb39 := NB239_221.out; have hnc39 := NB221_239.out; have hnb40 := NB239_226.out; have hnc40 := NB226_239.out; have hnb41 := NB239_225.out; have hnc41 := NB225_239.out; have hcz42_0 : w38.cell? ⟨gb239, 0, none⟩ = some (.string (⟨#[]⟩ : ByteArray)) := (blk_cell BK239.out 0).trans rfl; have hcz42_1 : w38.cell? ⟨gb239, 1, none⟩ = some (.string (⟨#[]⟩ : ByteArray)) := (blk_cell BK239.out 1).trans rfl; have hfz42_0 := blk_frozen BK239.out 0; have hfz42_1 := blk_frozen BK239.out 1) | ((with_reducible refine gate_callee (f := 101) rfl ?_); refine goesL_ (some 28) rfl rfl Try.func101 (by kernel_rfl) rfl #[.pointer (some ⟨g225, 0, none⟩), .int .i64 320] rfl (by (try simp only [List.map_toArray, List.map_cons, List.map_nil]); first | done | rfl | (simp only [List.length_drop, List.length_take]; rfl)) ?_; (with_reducible refine (wire_Reader_Text.calls k1 g225 t236 t237 t238 320 t240 t241 t242 t243 w _ ?side1 ?side2 A17.out).mono ?_); (case side1 => repeat (first | (with_reducible first | exact HI225.out | apply IsS122.alloc | apply IsS122.drewN | apply IsS122.drew | apply IsS122.set_0 | apply IsS122.set_1 | apply IsS122.set_2 | refine IsS122.far ?_ NB225_221.out _ | refine IsS122.far ?_ NB225_226.out _ | refine IsS122.far ?_ NB225_239.out _) | exact HI225.out)); (case side2 => repeat (first | (with_reducible first | exact HB.out | apply below_alloc | apply pw_below_drewN | apply below_drew1 | refine below_set ?_ (IsS122.ge HI225.out) | refine below_set ?_ GE221.out | refine below_set ?_ GE226.out | refine below_set ?_ GE239.out) | exact HB.out)); rintro e w43 ⟨rfl, hi, hb, hk⟩; refine ⟨_, rfl, ?_⟩; have n0_ := Aside0.mk (Kd.R_mono (Kd.R_keep (IsS122.apart (show IsS122 w _ g225 t236 t237 t238 from by repeat (first | (with_reducible first | exact HI225.out | apply IsS122.alloc | apply IsS122.drewN | apply IsS122.drew | apply IsS122.set_0 | apply IsS122.set_1 | apply IsS122.set_2 | refine IsS122.far ?_ NB225_221.out _ | refine IsS122.far ?_ NB225_226.out _ | refine IsS122.far ?_ NB225_239.out _) | exact HI225.out)) (by (with_reducible repeat (first | apply Kd.R_alloc | apply Kd.R_drewN | apply Kd.R_drew)); exact (Kd.R_mono (Kd.R_far (p := ⟨gb239, 1, none⟩) (Kd.R_far (p := ⟨gb239, 0, none⟩) (Kd.R_mono HO_227001.out (fun k_ hk => (⟨hk, hk.2⟩ : _ ∧ k_ ≠ gb239))) (fun _ hk => hk.2) (.string t235)) (fun _ hk => hk.2) (.string (⟨#[]⟩ : ByteArray))) (fun _ h_ => h_.1))) (by decide)) hk (fun _ h => h.2)) (fun _ h => h.1)); have n1_ := Aside0.mk (KeepBut.blk hk (g' := gb221) (o := .cells #[.bool false, .slice none 0 0, .slice none 0 0, .slice none 0 0] 26 (0, 0)) (by (with_reducible repeat (first | refine blk_drewN ?_ _ | refine blk_drew ?_ | refine blk_alloc ?_ _)); refine blk_far ?_ NB221_239.out _; (with_reducible repeat (first | refine blk_drewN ?_ _ | refine blk_drew ?_ | refine blk_alloc ?_ _)); refine blk_far ?_ NB221_239.out _; (with_reducible repeat (first | refine blk_drewN ?_ _ | refine blk_drew ?_ | refine blk_alloc ?_ _)); exact BK221.out) NB221_225.out (by simp)); have n2_ := Aside0.mk (KeepBut.blk hk (g' := gb226) (o := .cells #[.bool true, u227001, .slice none 0 0, .slice none 0 0] 26 (0, 0)) (by (with_reducible repeat (first | refine blk_drewN ?_ _ | refine blk_drew ?_ | refine blk_alloc ?_ _)); refine blk_far ?_ NB226_239.out _; (with_reducible repeat (first | refine blk_drewN ?_ _ | refine blk_drew ?_ | refine blk_alloc ?_ _)); refine blk_far ?_ NB226_239.out _; (with_reducible repeat (first | refine blk_drewN ?_ _ | refine blk_drew ?_ | refine blk_alloc ?_ _)); exact BK226.out) NB226_225.out (by simp)); have n3_ := Aside0.mk (KeepBut.blk hk (g' := gb239) (o := .cells #[.string t235, .string (⟨#[]⟩ : ByteArray)] 66 (0, 0)) (by (with_reducible repeat (first | refine blk_drewN ?_ _ | refine blk_drew ?_ | refine blk_alloc ?_ _)); refine blk_put (cs := #[.string t235, .string (⟨#[]⟩ : ByteArray)]) ?_ 1 _ rfl; (with_reducible repeat (first | refine blk_drewN ?_ _ | refine blk_drew ?_ | refine blk_alloc ?_ _)); refine blk_put (cs := #[.string (⟨#[]⟩ : ByteArray), .string (⟨#[]⟩ : ByteArray)]) ?_ 0 _ rfl; (with_reducible repeat (first | refine blk_drewN ?_ _ | refine blk_drew ?_ | refine blk_alloc ?_ _)); exact BK239.out) NB239_225.out (by simp)); have n4_ := Aside0.mk (hb); have n5_ := Aside0.mk (hi); clear HO_227001; clear BK221; clear BK226; clear BK239; clear HB; clear HI225; have HO_227001 := n0_; have BK221 := n1_; have BK226 := n2_; have BK239 := n3_; have HB := n4_; have HI225 := n5_; clear n0_ n1_ n2_ n3_ n4_ n5_; (try clear hb); (try clear hb2); (try clear hk); (try clear hi); have hcz44_0 : w43.cell? ⟨gb239, 0, none⟩ = some (.string t235) := (blk_cell BK239.out 0).trans rfl; have hcz44_1 : w43.cell? ⟨gb239, 1, none⟩ = some (.string (⟨#[]⟩ : ByteArray)) := (blk_cell BK239.out 1).trans rfl; have hfz44_0 := blk_frozen BK239.out 0; have hfz44_1 := blk_frozen BK239.out 1) | ((with_reducible refine gate_callee (f := 102) rfl ?_); refine goesL_ (some 31) rfl rfl Try.func102 (by kernel_rfl) rfl #[.pointer (some ⟨g225, 0, none⟩)] rfl (by (try simp only [List.map_toArray, List.map_cons, List.map_nil]); first | done | rfl | (simp only [List.length_drop, List.length_take]; rfl)) ?_; (with_reducible refine (wire_Reader_Err.calls g225 t241 t242 t243 t244 t245 t246 t247 w _ ?side1 ?side2 A18.out).mono ?_); (case side1 => repeat (first | (with_reducible first | exact HI225.out | apply IsS122.alloc | apply IsS122.drewN | apply IsS122.drew | apply IsS122.set_0 | apply IsS122.set_1 | apply IsS122.set_2 | refine IsS122.far ?_ NB225_221.out _ | refine IsS122.far ?_ NB225_226.out _ | refine IsS122.far ?_ NB225_239.out _) | exact HI225.out)); (case side2 => repeat (first | (with_reducible first | exact HB.out | apply below_alloc | apply pw_below_drewN | apply below_drew1 | refine below_set ?_ (IsS122.ge HI225.out) | refine below_set ?_ GE221.out | refine below_set ?_ GE226.out | refine below_set ?_ GE239.out) | exact HB.out)); rintro e w45 ⟨rfl, hi, hb, hk⟩; refine ⟨_, rfl, ?_⟩; have n0_ := Aside0.mk (Kd.R_mono (Kd.R_keep (IsS122.apart (show IsS122 w _ g225 t241 t242 t243 from by repeat (first | (with_reducible first | exact HI225.out | apply IsS122.alloc | apply IsS122.drewN | apply IsS122.drew | apply IsS122.set_0 | apply IsS122.set_1 | apply IsS122.set_2 | refine IsS122.far ?_ NB225_221.out _ | refine IsS122.far ?_ NB225_226.out _ | refine IsS122.far ?_ NB225_239.out _) | exact HI225.out)) (by (with_reducible repeat (first | apply Kd.R_alloc | apply Kd.R_drewN | apply Kd.R_drew)); exact (Kd.R_mono (Kd.R_far (p := ⟨gb239, 1, none⟩) (Kd.R_mono HO_227001.out (fun k_ hk => (⟨hk, hk.2⟩ : _ ∧ k_ ≠ gb239))) (fun _ hk => hk.2) (.string t240)) (fun _ h_ => h_.1))) (by decide)) hk (fun _ h => h.2)) (fun _ h => h.1)); have n1_ := Aside0.mk (KeepBut.blk hk (g' := gb221) (o := .cells #[.bool false, .slice none 0 0, .slice none 0 0, .slice none 0 0] 26 (0, 0)) (by (with_reducible repeat (first | refine blk_drewN ?_ _ | refine blk_drew ?_ | refine blk_alloc ?_ _)); refine blk_far ?_ NB221_239.out _; (with_reducible repeat (first | refine blk_drewN ?_ _ | refine blk_drew ?_ | refine blk_alloc ?_ _)); exact BK221.out) NB221_225.out (by simp)); have n2_ := Aside0.mk (KeepBut.blk hk (g' := gb226) (o := .cells #[.bool true, u227001, .slice none 0 0, .slice none 0 0] 26 (0, 0)) (by (with_reducible repeat (first | refine blk_drewN ?_ _ | refine blk_drew ?_ | refine blk_alloc ?_ _)); refine blk_far ?_ NB226_239.out _; (with_reducible repeat (first | refine blk_drewN ?_ _ | refine blk_drew ?_ | refine blk_alloc ?_ _)); exact BK226.out) NB226_225.out (by simp)); have n3_ := Aside0.mk (KeepBut.blk hk (g' := gb239) (o := .cells #[.string t235, .string t240] 66 (0, 0)) (by (with_reducible repeat (first | refine blk_drewN ?_ _ | refine blk_drew ?_ | refine blk_alloc ?_ _)); refine blk_put (cs := #[.string t235, .string (⟨#[]⟩ : ByteArray)]) ?_ 1 _ rfl; (with_reducible repeat (first | refine blk_drewN ?_ _ | refine blk_drew ?_ | refine blk_alloc ?_ _)); exact BK239.out) NB239_225.out (by simp)); have n4_ := Aside0.mk (hb); have n5_ := Aside0.mk (hi); clear HO_227001; clear BK221; clear BK226; clear BK239; clear HB; clear HI225; have HO_227001 := n0_; have BK221 := n1_; have BK226 := n2_; have BK239 := n3_; have HB := n4_; have HI225 := n5_; clear n0_ n1_ n2_ n3_ n4_ n5_; (try clear hb); (try clear hb2); (try clear hk); (try clear hi)))
       go_meet
       case rel => exact ⟨_, (false), (t245), (t246), (t247), (true), (x227001_1), (([] : List ByteArray)), (([] : List Int)), (u227001), (.slice none 0 0), (.slice none 0 0), H', ⟨by have := HK1.out; first | omega | exact Nat.le_refl _⟩, ⟨by (with_reducible repeat (first | apply Kd.R_alloc | apply Kd.R_drewN | apply Kd.R_drew)); exact Kd.R_mono HO_227001.out (fun _ hk => trivial)⟩, ⟨by first | exact Kd.R_nil _ _ _ _ _ | exact Kd.N_nil _ _ _ _ _ | exact Kd.V_nil _ _ _ _ _ | exact Kd.Q_nil _ _ _ _ _ | exact Kd.S_nil _ _ _ _ _⟩, ⟨by first | exact Kd.R_nil _ _ _ _ _ | exact Kd.N_nil _ _ _ _ _ | exact Kd.V_nil _ _ _ _ _ | exact Kd.Q_nil _ _ _ _ _ | exact Kd.S_nil _ _ _ _ _⟩, ⟨by (with_reducible repeat (first | refine blk_drewN ?_ _ | refine blk_drew ?_ | refine blk_alloc ?_ _)); exact BK221.out⟩, ⟨by (with_reducible repeat (first | refine blk_drewN ?_ _ | refine blk_drew ?_ | refine blk_alloc ?_ _)); exact BK226.out⟩, ⟨by repeat (first | (with_reducible first | exact HI225.out | apply IsS122.alloc | apply IsS122.drewN | apply IsS122.drew | apply IsS122.set_0 | apply IsS122.set_1 | apply IsS122.set_2 | refine IsS122.far ?_ NB225_221.out _ | refine IsS122.far ?_ NB225_226.out _ | refine IsS122.far ?_ NB225_239.out _) | exact HI225.out)⟩, ⟨by repeat (first | (with_reducible first | exact HB.out | apply below_alloc | apply pw_below_drewN | apply below_drew1 | refine below_set ?_ (IsS122.ge HI225.out) | refine below_set ?_ GE221.out | refine below_set ?_ GE226.out | refine below_set ?_ GE239.out) | exact HB.out)⟩⟩
     ·rw [if_neg c15] at H
      have c15b0 : decide (x22_1 < (wrap64 (t231))) = false := decide_eq_false c15
      clear c15
      have H' := Aside0.mk H
      clear H
      go_wp2
      go_meet
      case rel => exact ⟨_, (false), (x226000_1), (x226001_1), (x226002_1), (true), (x227001_1), (([] : List ByteArray)), (([] : List Int)), (u227001), (.slice none 0 0), (.slice none 0 0), H', ⟨by have := HK1.out; first | omega | exact Nat.le_refl _⟩, ⟨by (with_reducible repeat (first | apply Kd.R_alloc | apply Kd.R_drewN | apply Kd.R_drew)); exact HO_227001.out⟩, ⟨by first | exact Kd.R_nil _ _ _ _ _ | exact Kd.N_nil _ _ _ _ _ | exact Kd.V_nil _ _ _ _ _ | exact Kd.Q_nil _ _ _ _ _ | exact Kd.S_nil _ _ _ _ _⟩, ⟨by first | exact Kd.R_nil _ _ _ _ _ | exact Kd.N_nil _ _ _ _ _ | exact Kd.V_nil _ _ _ _ _ | exact Kd.Q_nil _ _ _ _ _ | exact Kd.S_nil _ _ _ _ _⟩, ⟨by (with_reducible repeat (first | refine blk_drewN ?_ _ | refine blk_drew ?_ | refine blk_alloc ?_ _)); exact BK221.out⟩, ⟨by (with_reducible repeat (first | refine blk_drewN ?_ _ | refine blk_drew ?_ | refine blk_alloc ?_ _)); exact BK226.out⟩, ⟨by repeat (first | (with_reducible first | exact HI225.out | apply IsS122.alloc | apply IsS122.drewN | apply IsS122.drew | apply IsS122.set_0 | apply IsS122.set_1 | apply IsS122.set_2 | refine IsS122.far ?_ NB225_221.out _ | refine IsS122.far ?_ NB225_226.out _) | exact HI225.out)⟩, ⟨by repeat (first | (with_reducible first | exact HB.out | apply below_alloc | apply pw_below_drewN | apply below_drew1 | refine below_set ?_ (IsS122.ge HI225.out) | refine below_set ?_ GE221.out | refine below_set ?_ GE226.out) | exact HB.out)⟩⟩
  ·rw [if_neg c11] at H
   have c11b0 : (t227 == 1) = false := beq_eq_false_iff_ne.mpr c11
   have c11b1 : (t227 != 1) = true := bne_iff_ne.mpr c11
   (first | rw [c11b0] | (simp only [i64_w, i32_w]; rw [c11b0]) | skip)
   by_cases c46 : t227 = 2
   ·rw [if_pos c46] at H
    have c46b0 : (t227 == 2) = true := beq_iff_eq.mpr c46
    have c46b1 : (t227 != 2) = false := bne_eq_false_iff_eq.mpr c46
    clear c46
    replace H := Option.bind_eq_some_iff.mp H
    obtain ⟨⟨t251, t252, t253, t254⟩, A470, H⟩ := H
    replace H : (if ([] : List Int).length < 35184372088832 then (node_Decode.l1 k a0 (wrap64 (t231)) 0 t252 t253 t254 false ([] : List ByteArray) (([] : List Int) ++ [(t251) % 4294967296])) else (none)) = some (r1, r2, r3, r4, r5) := H
    have A47 := Aside0.mk A470
    clear A470
    by_cases c48 : ([] : List Int).length < 35184372088832
    ·rw [if_pos c48] at H
     have LMc48 := Aside0.mk c48
     clear c48
     obtain ⟨y255, hy255⟩ : ∃ y_ : List Int, y_ = (([] : List Int) ++ [(t251) % 4294967296]) := ⟨_, rfl⟩
     replace H : (node_Decode.l1 k a0 (wrap64 (t231)) 0 t252 t253 t254 false ([] : List ByteArray) y255) = some (r1, r2, r3, r4, r5) := by first | (rw [hy255]; with_reducible exact H) | (have H2_ := (Option.bind_some _ _).symm.trans H; rw [hy255]; with_reducible exact H2_) | (have H2_ := (Option.bind_some _ _).symm.trans H; with_reducible exact H2_) | with_reducible exact H | (rw [hy255]; exact H) | exact H
     have Ny255 := Aside0.mk hy255
     clear hy255
     have H' := Aside0.mk H
     clear H
     try go_wp2
     have n0_ := Aside0.mk (blk_drew BK221.out)
     have n1_ := Aside0.mk (blk_drew BK226.out)
     have n2_ := Aside0.mk (IsS122.drew HI225.out)
     have n3_ := Aside0.mk (below_drew1 HB.out)
     clear BK221
     clear BK226
     clear HI225
     clear HB
     have BK221 := n0_
     have BK226 := n1_
     have HI225 := n2_
     have HB := n3_
     clear n0_ n1_ n2_ n3_
     refine start_ (n := 9) (S := fun w' => w'.cell? ⟨gb226, 0, none⟩ = some (.bool false) ∧ w'.cell? ⟨gb226, 1, none⟩ = some (.slice none 0 0) ∧ w'.cell? ⟨gb226, 2, none⟩ = some (.slice none 0 0) ∧ w'.cell? ⟨gb226, 3, none⟩ = some (.slice none 0 0)) (ds := [8]) #[false,false,false,false,false,false,false,false,false] (by kernel_rfl) rfl rfl ⟨(blk_cell BK226.out 0).trans rfl, (blk_cell BK226.out 1).trans rfl, (blk_cell BK226.out 2).trans rfl, (blk_cell BK226.out 3).trans rfl⟩ (fun hHeld => ?_); refine with_tabW node_Decode.tab17 node_Decode.bits17 (fun HT_ HW_ => ?_)
     generalize w10.drew = w49 at BK221 BK226 HI225 HB hHeld ⊢
     refine pure_ (i := 0) (N := some 42) (v := ?_) (a' := ?_) #[true,false,false,false,false,false,false,false,false] rfl rfl (any_of HT_.out (by kernel_rfl)) (fun _ _ _ h => h) (Or.inl ⟨by rfl, ?_⟩) ?_ ?_
     rotate_left
     ·intro w'
      go_simp
      with_reducible rfl
     rotate_left
     ·simp only [Act.put, List.setIfInBounds_toArray, List.set_cons_zero, List.set_cons_succ, i64_w, i32_w]
      rfl
     refine pure_ (i := 2) (N := some 44) (v := ?_) (a' := ?_) #[true,false,true,false,false,false,false,false,false] rfl rfl (any_of HT_.out (by kernel_rfl)) (fun _ _ _ h => h) (Or.inl ⟨by rfl, ?_⟩) ?_ ?_
     rotate_left
     ·intro w'
      go_simp
      with_reducible rfl
     rotate_left
     ·simp only [Act.put, List.setIfInBounds_toArray, List.set_cons_zero, List.set_cons_succ, i64_w, i32_w]
      rfl
     refine take_ (i := 1) (N := some 43) (v := ?_) (a' := ?_) #[true,true,true,false,false,false,false,false,false] rfl rfl (take_ofW HT_.out HW_.out (by kernel_rfl)) (fun _ _ _ h => h) (Or.inl ⟨by rfl, ?_⟩) hHeld ?_ ?_
     rotate_left
     ·rintro w' ⟨s0, s1, s2, s3⟩
      go_simp
      with_reducible rfl
     rotate_left
     ·simp only [Act.put, List.setIfInBounds_toArray, List.set_cons_zero, List.set_cons_succ, i64_w, i32_w]
      rfl
     refine one_ (i := 3) (N := some 45) #[true,true,true,true,false,false,false,false,false] rfl rfl (one_of HT_.out (by kernel_rfl)) (by decide) (fun K hK => ?_)
     refine goes_ Try.func100 (by kernel_rfl) rfl #[.pointer (some ⟨g225, 0, none⟩), .int .i64 4] (by rfl) rfl rfl (by (try simp only [List.map_toArray, List.map_cons, List.map_nil]); first | done | rfl | (simp only [List.length_drop, List.length_take]; rfl)) ?_
     with_reducible refine (wire_Reader_Fixed.calls k g225 t232 t233 t234 4 t251 t252 t253 t254 w _ ?side1 ?side2 A47.out).mono ?_
     (case side1 => repeat (first | (with_reducible first | exact HI225.out | apply IsS122.alloc | apply IsS122.drewN | apply IsS122.drew | apply IsS122.set_0 | apply IsS122.set_1 | apply IsS122.set_2 | refine IsS122.far ?_ NB225_221.out _ | refine IsS122.far ?_ NB225_226.out _) | exact HI225.out))
     (case side2 => repeat (first | (with_reducible first | exact HB.out | apply below_alloc | apply pw_below_drewN | apply below_drew1 | refine below_set ?_ (IsS122.ge HI225.out) | refine below_set ?_ GE221.out | refine below_set ?_ GE226.out) | exact HB.out))
     rintro e w50 ⟨rfl, hi, hb, hk⟩
     refine ⟨_, rfl, ?_⟩
     have n0_ := Aside0.mk (KeepBut.blk hk (g' := gb221) (o := .cells #[.bool false, .slice none 0 0, .slice none 0 0, .slice none 0 0] 26 (0, 0)) (by (with_reducible repeat (first | refine blk_drewN ?_ _ | refine blk_drew ?_ | refine blk_alloc ?_ _)); exact BK221.out) NB221_225.out (by simp))
     have n1_ := Aside0.mk (KeepBut.blk hk (g' := gb226) (o := .cells #[.bool false, .slice none 0 0, .slice none 0 0, .slice none 0 0] 26 (0, 0)) (by (with_reducible repeat (first | refine blk_drewN ?_ _ | refine blk_drew ?_ | refine blk_alloc ?_ _)); exact BK226.out) NB226_225.out (by simp))
     have n2_ := Aside0.mk (hb)
     have n3_ := Aside0.mk (hi)
     clear BK221
     clear BK226
     clear HB
     clear HI225
     have BK221 := n0_
     have BK226 := n1_
     have HB := n2_
     have HI225 := n3_
     clear n0_ n1_ n2_ n3_
     (try clear hb)
     (try clear hb2)
     (try clear hk)
     (try clear hi)
     refine hK.out _ _ ⟨(blk_cell BK226.out 0).trans rfl, (blk_cell BK226.out 1).trans rfl, (blk_cell BK226.out 2).trans rfl, (blk_cell BK226.out 3).trans rfl⟩ (fun hHeld => ?_)
     clear hK K
     refine norm_ (a' := ?_) ?_ ?_
     rotate_left
     ·show Act.put _ (some 45) _ = _
      simp only [Act.put, List.setIfInBounds_toArray, List.set_cons_zero, List.set_cons_succ, i64_w, i32_w]
      rfl
     refine pure_ (i := 4) (N := some 46) (v := ?_) (a' := ?_) #[true,true,true,true,true,false,false,false,false] rfl rfl (any_of HT_.out (by kernel_rfl)) (fun _ _ _ h => h) (Or.inl ⟨by rfl, ?_⟩) ?_ ?_
     rotate_left
     ·intro w'
      go_simp
      with_reducible rfl
     rotate_left
     ·simp only [Act.put, List.setIfInBounds_toArray, List.set_cons_zero, List.set_cons_succ, i64_w, i32_w]
      rfl
     refine one_ (i := 5) (N := some 47) #[true,true,true,true,true,true,false,false,false] rfl rfl (one_of HT_.out (by kernel_rfl)) (by decide) (fun K hK => ?_)
     refine value_ (w1 := ?_) (v := ?_) (by rfl) rfl ?_ ?_
     rotate_left 2
     ·go_simp
      constructor
      ·rfl
      ·rfl
     refine hK.out _ _ ⟨(blk_cell (blk_alloc BK226.out _) 0).trans rfl, (blk_cell (blk_alloc BK226.out _) 1).trans rfl, (blk_cell (blk_alloc BK226.out _) 2).trans rfl, (blk_cell (blk_alloc BK226.out _) 3).trans rfl⟩ (fun hHeld => ?_)
     clear hK K
     refine norm_ (a' := ?_) ?_ ?_
     rotate_left
     ·show Act.put _ (some 47) _ = _
      simp only [Act.put, List.setIfInBounds_toArray, List.set_cons_zero, List.set_cons_succ, i64_w, i32_w]
      rfl
     refine one_ (i := 6) (N := some 48) #[true,true,true,true,true,true,true,false,false] rfl rfl (one_of HT_.out (by kernel_rfl)) (by decide) (fun K hK => ?_)
     refine Kd.R_append_step (Kd.int .u32) (w0 := w) w.heap.size (by rfl) (.tmp 43) (.tmp 47) 24 45 (.int .u32 0) 4 rfl Try.underlying24 info45 rfl (by decide) (by omega) (.slice none 0 0) ([] : List Int) ((t251) % 4294967296) [.int .u32 ((t251) % 4294967296)] (fun _ => True) (fun _ => False) rfl rfl ?aP (fun _ hk => hk.elim) ?aF ?aO ?aB ?aS ?aL ?_
     (case aP => exact rfl)
     (case aB => exact (by repeat (first | (with_reducible first | exact HB.out | apply below_alloc | apply pw_below_drewN | apply below_drew1 | refine below_set ?_ (IsS122.ge HI225.out) | refine below_set ?_ GE221.out | refine below_set ?_ GE226.out) | exact HB.out)))
     (case aF => exact (fun _ _ => trivial))
     (case aO => exact ((Kd.R_nil _ _ _ _ (fun _ => True))))
     (case aS => exact (below_size (by repeat (first | (with_reducible first | exact HB.out | apply below_alloc | apply pw_below_drewN | apply below_drew1 | refine below_set ?_ (IsS122.ge HI225.out) | refine below_set ?_ GE221.out | refine below_set ?_ GE226.out) | exact HB.out))))
     (case aL => have := LMc48.out; omega)
     intro v256 w51 ho hb hg hat
     rw [← Ny255.out] at ho
     have n0_ := Aside0.mk (blk_grown (g := gb221) (o := .cells #[.bool false, .slice none 0 0, .slice none 0 0, .slice none 0 0] 26 (0, 0)) (by (with_reducible repeat (first | refine blk_drewN ?_ _ | refine blk_drew ?_ | refine blk_alloc ?_ _)); exact BK221.out) hg (by simp [Value.ownBlock]))
     have n1_ := Aside0.mk (IsS122.grown (by repeat (first | (with_reducible first | exact HI225.out | apply IsS122.alloc | apply IsS122.drewN | apply IsS122.drew | apply IsS122.set_0 | apply IsS122.set_1 | apply IsS122.set_2 | refine IsS122.far ?_ NB225_221.out _ | refine IsS122.far ?_ NB225_226.out _) | exact HI225.out)) hg (by simp [Value.ownBlock]))
     have n2_ := Aside0.mk (blk_grown (g := gb226) (o := .cells #[.bool false, .slice none 0 0, .slice none 0 0, .slice none 0 0] 26 (0, 0)) (by (with_reducible repeat (first | refine blk_drewN ?_ _ | refine blk_drew ?_ | refine blk_alloc ?_ _)); exact BK226.out) hg (by simp [Value.ownBlock]))
     have n3_ := Aside0.mk (hb)
     have n4_ := Aside0.mk (ho)
     clear BK221
     clear HI225
     clear BK226
     clear HB
     have BK221 := n0_
     have HI225 := n1_
     have BK226 := n2_
     have HB := n3_
     have HO257 := n4_
     clear n0_ n1_ n2_ n3_ n4_
     clear ho hb hg hat
     obtain ⟨Ao52, co52, eo52⟩ := Kd.R_slice HO257.out
     (first | subst eo52 | (injection eo52 with f1_ f2_ f3_; have f4_ := f1_.symm; have f5_ := f3_.symm; clear f1_ f2_ f3_; subst f4_; subst f5_))
     refine hK.out _ _ ⟨(blk_cell BK226.out 0).trans rfl, (blk_cell BK226.out 1).trans rfl, (blk_cell BK226.out 2).trans rfl, (blk_cell BK226.out 3).trans rfl⟩ (fun hHeld => ?_)
     clear hK K
     refine norm_ (a' := ?_) ?_ ?_
     rotate_left
     ·show Act.put _ (some 48) _ = _
      simp only [Act.put, List.setIfInBounds_toArray, List.set_cons_zero, List.set_cons_succ, i64_w, i32_w]
      rfl
     refine pure_ (i := 7) (N := some 49) (v := ?_) (a' := ?_) #[true,true,true,true,true,true,true,true,false] rfl rfl (any_of HT_.out (by kernel_rfl)) (fun _ _ _ h => h) (Or.inl ⟨by rfl, ?_⟩) ?_ ?_
     rotate_left
     ·intro w'
      go_simp
      with_reducible rfl
     rotate_left
     ·simp only [Act.put, List.setIfInBounds_toArray, List.set_cons_zero, List.set_cons_succ, i64_w, i32_w]
      rfl
     refine last_ (i := 8) (N := none) #[true,true,true,true,true,true,true,true,true] rfl rfl (one_of HT_.out (by kernel_rfl)) (by decide) (fun K hK => ?_)
     have hs53 : w51.cell? ⟨gb226, 3, none⟩ = some (.slice none 0 0) := (blk_cell BK226.out 3).trans rfl
     have hfs53 := blk_frozen BK226.out 3
     have hns53_0 := NB221_226.out
     have hms53_0 := NB226_221.out
     refine skip_ (w1 := ?_) (by rfl) rfl ?_ ?_
     rotate_left
     ·go_simp
      rfl
     refine hK.out _ _ ?_
     clear hK K
     refine done_ (done_of HT_.out (by kernel_rfl)) ?_
     try go_wp2
     go_loopg [51] k (fun kq v51 w' => ∃ (x51_1 : Int) (x226000_1 : ByteArray) (x226001_1 : Int) (x226002_1 : Int) (x227002_1 : List ByteArray) (x227003_1 : List Int) (u227002 : Value) (u227003 : Value), v51 = .int .i64 x51_1 ∧ Aside0 (node_Decode.l1 kq a0 (wrap64 (t231)) x51_1 x226000_1 x226001_1 x226002_1 false x227002_1 x227003_1 = some (r1, r2, r3, r4, r5)) ∧ Aside0 (kq ≤ k) ∧ Aside0 (Kd.R Kd.string 9 w' w.heap.size (fun _ => True) u227002 x227002_1) ∧ Aside0 (Kd.R (Kd.int .u32) 45 w' w.heap.size (fun _ => True) u227003 x227003_1) ∧ Aside0 (w'.heap[gb221]? = some (.cells #[.bool false, (.slice none 0 0), (.slice none 0 0), (.slice none 0 0)] 26 (0, 0))) ∧ Aside0 (w'.heap[gb226]? = some (.cells #[.bool false, (.slice none 0 0), u227002, u227003] 26 (0, 0))) ∧ Aside0 (IsS122 w w' g225 x226000_1 x226001_1 x226002_1) ∧ Aside0 (Below w.heap.size w w'))
     case atStart => exact ⟨(0), (t252), (t253), (t254), (([] : List ByteArray)), (y255), (.slice none 0 0), (.slice Ao52 y255.length co52), (by first | rfl | (simp; done) | (simp [*]; done) | (simp only [i64_w]; done)), H', ⟨Nat.le_refl _⟩, ⟨by first | exact Kd.R_nil _ _ _ _ _ | exact Kd.N_nil _ _ _ _ _ | exact Kd.V_nil _ _ _ _ _ | exact Kd.Q_nil _ _ _ _ _ | exact Kd.S_nil _ _ _ _ _⟩, ⟨by (with_reducible repeat (first | apply Kd.R_alloc | apply Kd.R_drewN | apply Kd.R_drew)); exact Kd.R_mono (Kd.R_far (p := ⟨gb226, 3, none⟩) (Kd.R_types HO257.out BK226.out (by decide)) (fun _ hk => hk.2) (.slice Ao52 y255.length co52)) (fun _ hk => trivial)⟩, ⟨by (with_reducible repeat (first | refine blk_drewN ?_ _ | refine blk_drew ?_ | refine blk_alloc ?_ _)); refine blk_far ?_ NB221_226.out _; (with_reducible repeat (first | refine blk_drewN ?_ _ | refine blk_drew ?_ | refine blk_alloc ?_ _)); exact BK221.out⟩, ⟨by (with_reducible repeat (first | refine blk_drewN ?_ _ | refine blk_drew ?_ | refine blk_alloc ?_ _)); refine blk_put (cs := #[.bool false, .slice none 0 0, .slice none 0 0, .slice none 0 0]) ?_ 3 _ rfl; (with_reducible repeat (first | refine blk_drewN ?_ _ | refine blk_drew ?_ | refine blk_alloc ?_ _)); exact BK226.out⟩, ⟨by repeat (first | (with_reducible first | exact HI225.out | apply IsS122.alloc | apply IsS122.drewN | apply IsS122.drew | apply IsS122.set_0 | apply IsS122.set_1 | apply IsS122.set_2 | refine IsS122.far ?_ NB225_221.out _ | refine IsS122.far ?_ NB225_226.out _) | exact HI225.out)⟩, ⟨by repeat (first | (with_reducible first | exact HB.out | apply below_alloc | apply pw_below_drewN | apply below_drew1 | refine below_set ?_ (IsS122.ge HI225.out) | refine below_set ?_ GE221.out | refine below_set ?_ GE226.out) | exact HB.out)⟩⟩
     case round =>
      clear H'
      try clear c1
      try clear c2
      try clear p2
      try clear c3
      try clear c4
      try clear c5
      try clear p6
      try clear c9
      try clear c10
      try clear c11
      try clear c11b0
      try clear c11b1
      try clear c12
      try clear c13
      try clear c15
      try clear c15b0
      try clear c19
      try clear c19b0
      try clear c19b1
      try clear c20
      try clear c23
      try clear c24
      try clear c25
      try clear c30
      try clear c31
      try clear c39
      try clear c40
      try clear c41
      try clear c46
      try clear c46b0
      try clear c46b1
      try clear c48
      try clear hcz14_0
      try clear hcz14_1
      try clear hcz14_2
      try clear hcz14_3
      try clear hcz26_0
      try clear hcz26_1
      try clear hcz28_0
      try clear hcz28_1
      try clear hcz32_0
      try clear hcz32_1
      try clear hcz32_2
      try clear hcz32_3
      try clear hcz33_0
      try clear hcz33_1
      try clear hcz36_0
      try clear hcz36_1
      try clear hcz36_2
      try clear hcz36_3
      try clear hcz42_0
      try clear hcz42_1
      try clear hcz44_0
      try clear hcz44_1
      try clear hfz14_0
      try clear hfz14_1
      try clear hfz14_2
      try clear hfz14_3
      try clear hfz26_0
      try clear hfz26_1
      try clear hfz28_0
      try clear hfz28_1
      try clear hfz32_0
      try clear hfz32_1
      try clear hfz32_2
      try clear hfz32_3
      try clear hfz33_0
      try clear hfz33_1
      try clear hfz36_0
      try clear hfz36_1
      try clear hfz36_2
      try clear hfz36_3
      try clear hfz42_0
      try clear hfz42_1
      try clear hfz44_0
      try clear hfz44_1
      try clear p2
      try clear p6
      obtain ⟨x51_1, x226000_1, x226001_1, x226002_1, x227002_1, x227003_1, u227002, u227003, rfl, HA, HK1, HO_227002, HO_227003, BK221, BK226, HI225, HB⟩ := hrel
      cases gk with
      | zero => exact absurd HA.out (by simp [node_Decode.l1])
      | succ k1 =>
       have H := HA.out
       clear HA
       simp only [node_Decode.l1] at H
       by_cases c54 : x51_1 < (wrap64 (t231))
       ·rw [if_pos c54] at H
        have c54b0 : decide (x51_1 < (wrap64 (t231))) = true := decide_eq_true c54
        clear c54
        replace H := Option.bind_eq_some_iff.mp H
        obtain ⟨⟨t258, t259, t260, t261⟩, A550, H⟩ := H
        replace H : (if x227002_1.length < 8796093022208 then ((some (x227002_1 ++ [t258] : List ByteArray)).bind fun y262 => ((wire_Reader_Fixed.f k1 t259 t260 t261 4).bind fun bt265 => (if x227003_1.length < 35184372088832 then ((some (x227003_1 ++ [(bt265.1) % 4294967296] : List Int)).bind fun y269 => ((wire_Reader_Err.f bt265.2.1 bt265.2.2.1 bt265.2.2.2).bind fun bt272 => (if bt272.1 = 0 then (node_Decode.l1 k1 a0 (wrap64 (t231)) (wrap64 (x51_1 + 1)) bt272.2.1 bt272.2.2.1 bt272.2.2.2 false y262 y269) else (node_Decode.j2 k1 a0 bt272.2.1 bt272.2.2.1 bt272.2.2.2 false ([] : List (S66)) y262 y269)))) else (none)))) else (none)) = some (r1, r2, r3, r4, r5) := H
        have A55 := Aside0.mk A550
        clear A550
        by_cases c56 : x227002_1.length < 8796093022208
        ·rw [if_pos c56] at H
         have LMc56 := Aside0.mk c56
         clear c56
         obtain ⟨y262, hy262⟩ : ∃ y_ : List ByteArray, y_ = (x227002_1 ++ [t258]) := ⟨_, rfl⟩
         replace H : ((wire_Reader_Fixed.f k1 t259 t260 t261 4).bind fun bt265 => (if x227003_1.length < 35184372088832 then ((some (x227003_1 ++ [(bt265.1) % 4294967296] : List Int)).bind fun y269 => ((wire_Reader_Err.f bt265.2.1 bt265.2.2.1 bt265.2.2.2).bind fun bt272 => (if bt272.1 = 0 then (node_Decode.l1 k1 a0 (wrap64 (t231)) (wrap64 (x51_1 + 1)) bt272.2.1 bt272.2.2.1 bt272.2.2.2 false y262 y269) else (node_Decode.j2 k1 a0 bt272.2.1 bt272.2.2.1 bt272.2.2.2 false ([] : List (S66)) y262 y269)))) else (none))) = some (r1, r2, r3, r4, r5) := by first | (rw [hy262]; with_reducible exact H) | (have H2_ := (Option.bind_some _ _).symm.trans H; rw [hy262]; with_reducible exact H2_) | (have H2_ := (Option.bind_some _ _).symm.trans H; with_reducible exact H2_) | with_reducible exact H | (rw [hy262]; exact H) | exact H
         have Ny262 := Aside0.mk hy262
         clear hy262
         replace H := Option.bind_eq_some_iff.mp H
         obtain ⟨⟨t265, t266, t267, t268⟩, A570, H⟩ := H
         replace H : (if x227003_1.length < 35184372088832 then ((some (x227003_1 ++ [(t265) % 4294967296] : List Int)).bind fun y269 => ((wire_Reader_Err.f t266 t267 t268).bind fun bt272 => (if bt272.1 = 0 then (node_Decode.l1 k1 a0 (wrap64 (t231)) (wrap64 (x51_1 + 1)) bt272.2.1 bt272.2.2.1 bt272.2.2.2 false y262 y269) else (node_Decode.j2 k1 a0 bt272.2.1 bt272.2.2.1 bt272.2.2.2 false ([] : List (S66)) y262 y269)))) else (none)) = some (r1, r2, r3, r4, r5) := H
         have A57 := Aside0.mk A570
         clear A570
         by_cases c58 : x227003_1.length < 35184372088832
         ·rw [if_pos c58] at H
          have LMc58 := Aside0.mk c58
          clear c58
          obtain ⟨y269, hy269⟩ : ∃ y_ : List Int, y_ = (x227003_1 ++ [(t265) % 4294967296]) := ⟨_, rfl⟩
          replace H : ((wire_Reader_Err.f t266 t267 t268).bind fun bt272 => (if bt272.1 = 0 then (node_Decode.l1 k1 a0 (wrap64 (t231)) (wrap64 (x51_1 + 1)) bt272.2.1 bt272.2.2.1 bt272.2.2.2 false y262 y269) else (node_Decode.j2 k1 a0 bt272.2.1 bt272.2.2.1 bt272.2.2.2 false ([] : List (S66)) y262 y269))) = some (r1, r2, r3, r4, r5) := by first | (rw [hy269]; with_reducible exact H) | (have H2_ := (Option.bind_some _ _).symm.trans H; rw [hy269]; with_reducible exact H2_) | (have H2_ := (Option.bind_some _ _).symm.trans H; with_reducible exact H2_) | with_reducible exact H | (rw [hy269]; exact H) | exact H
          have Ny269 := Aside0.mk hy269
          clear hy269
          replace H := Option.bind_eq_some_iff.mp H
          obtain ⟨⟨t272, t273, t274, t275⟩, A590, H⟩ := H
          replace H : (if t272 = 0 then (node_Decode.l1 k1 a0 (wrap64 (t231)) (wrap64 (x51_1 + 1)) t273 t274 t275 false y262 y269) else (node_Decode.j2 k1 a0 t273 t274 t275 false ([] : List (S66)) y262 y269)) = some (r1, r2, r3, r4, r5) := H
          have A59 := Aside0.mk A590
          clear A590
          by_cases c60 : t272 = 0
          ·rw [if_pos c60] at H
           have c60b0 : (t272 == 0) = true := beq_iff_eq.mpr c60
           have c60b1 : (t272 != 0) = false := bne_eq_false_iff_eq.mpr c60
           clear c60
           have H' := Aside0.mk H
           clear H
           try go_wp2
           have n0_ := Aside0.mk (Kd.R_drew HO_227002.out)
           have n1_ := Aside0.mk (Kd.R_drew HO_227003.out)
           have n2_ := Aside0.mk (blk_drew BK221.out)
           have n3_ := Aside0.mk (blk_drew BK226.out)
           have n4_ := Aside0.mk (IsS122.drew HI225.out)
           have n5_ := Aside0.mk (below_drew1 HB.out)
           clear HO_227002
           clear HO_227003
           clear BK221
           clear BK226
           clear HI225
           clear HB
           have HO_227002 := n0_
           have HO_227003 := n1_
           have BK221 := n2_
           have BK226 := n3_
           have HI225 := n4_
           have HB := n5_
           clear n0_ n1_ n2_ n3_ n4_ n5_
           refine start_ (n := 8) (S := fun w' => w'.cell? ⟨gb226, 0, none⟩ = some (.bool false) ∧ w'.cell? ⟨gb226, 1, none⟩ = some (.slice none 0 0) ∧ w'.cell? ⟨gb226, 2, none⟩ = some (u227002) ∧ w'.cell? ⟨gb226, 3, none⟩ = some (u227003)) (ds := [7]) #[false,false,false,false,false,false,false,false] (by kernel_rfl) rfl rfl ⟨(blk_cell BK226.out 0).trans rfl, (blk_cell BK226.out 1).trans rfl, (blk_cell BK226.out 2).trans rfl, (blk_cell BK226.out 3).trans rfl⟩ (fun hHeld => ?_); refine with_tabW node_Decode.tab20 node_Decode.bits20 (fun HT_ HW_ => ?_)
           generalize wr.drew = w61 at HO_227002 HO_227003 BK221 BK226 HI225 HB hHeld ⊢
           refine pure_ (i := 0) (N := some 53) (v := ?_) (a' := ?_) #[true,false,false,false,false,false,false,false] rfl rfl (any_of HT_.out (by kernel_rfl)) (fun _ _ _ h => h) (Or.inl ⟨by rfl, ?_⟩) ?_ ?_
           rotate_left
           ·intro w'
            go_simp
            with_reducible rfl
           rotate_left
           ·simp only [Act.put, List.setIfInBounds_toArray, List.set_cons_zero, List.set_cons_succ, i64_w, i32_w]
            rfl
           refine pure_ (i := 2) (N := some 55) (v := ?_) (a' := ?_) #[true,false,true,false,false,false,false,false] rfl rfl (any_of HT_.out (by kernel_rfl)) (fun _ _ _ h => h) (Or.inl ⟨by rfl, ?_⟩) ?_ ?_
           rotate_left
           ·intro w'
            go_simp
            with_reducible rfl
           rotate_left
           ·simp only [Act.put, List.setIfInBounds_toArray, List.set_cons_zero, List.set_cons_succ, i64_w, i32_w]
            rfl
           refine take_ (i := 1) (N := some 54) (v := ?_) (a' := ?_) #[true,true,true,false,false,false,false,false] rfl rfl (take_ofW HT_.out HW_.out (by kernel_rfl)) (fun _ _ _ h => h) (Or.inl ⟨by rfl, ?_⟩) hHeld ?_ ?_
           rotate_left
           ·rintro w' ⟨s0, s1, s2, s3⟩
            go_simp
            with_reducible rfl
           rotate_left
           ·simp only [Act.put, List.setIfInBounds_toArray, List.set_cons_zero, List.set_cons_succ, i64_w, i32_w]
            rfl
           refine one_ (i := 3) (N := some 56) #[true,true,true,true,false,false,false,false] rfl rfl (one_of HT_.out (by kernel_rfl)) (by decide) (fun K hK => ?_)
           refine goes_ Try.func101 (by kernel_rfl) rfl #[.pointer (some ⟨g225, 0, none⟩), .int .i64 320] (by rfl) rfl rfl (by (try simp only [List.map_toArray, List.map_cons, List.map_nil]); first | done | rfl | (simp only [List.length_drop, List.length_take]; rfl)) ?_
           with_reducible refine (wire_Reader_Text.calls k1 g225 x226000_1 x226001_1 x226002_1 320 t258 t259 t260 t261 w _ ?side1 ?side2 A55.out).mono ?_
           (case side1 => repeat (first | (with_reducible first | exact HI225.out | apply IsS122.alloc | apply IsS122.drewN | apply IsS122.drew | apply IsS122.set_0 | apply IsS122.set_1 | apply IsS122.set_2 | refine IsS122.far ?_ NB225_221.out _ | refine IsS122.far ?_ NB225_226.out _) | exact HI225.out))
           (case side2 => repeat (first | (with_reducible first | exact HB.out | apply below_alloc | apply pw_below_drewN | apply below_drew1 | refine below_set ?_ (IsS122.ge HI225.out) | refine below_set ?_ GE221.out | refine below_set ?_ GE226.out) | exact HB.out))
           rintro e w62 ⟨rfl, hi, hb, hk⟩
           refine ⟨_, rfl, ?_⟩
           have n0_ := Aside0.mk (Kd.R_mono (Kd.R_keep (IsS122.apart (show IsS122 w _ g225 x226000_1 x226001_1 x226002_1 from by repeat (first | (with_reducible first | exact HI225.out | apply IsS122.alloc | apply IsS122.drewN | apply IsS122.drew | apply IsS122.set_0 | apply IsS122.set_1 | apply IsS122.set_2 | refine IsS122.far ?_ NB225_221.out _ | refine IsS122.far ?_ NB225_226.out _) | exact HI225.out)) (by (with_reducible repeat (first | apply Kd.R_alloc | apply Kd.R_drewN | apply Kd.R_drew)); exact HO_227002.out) (by decide)) hk (fun _ h => h.2)) (fun _ h => h.1))
           have n1_ := Aside0.mk (Kd.R_mono (Kd.R_keep (IsS122.apart (show IsS122 w _ g225 x226000_1 x226001_1 x226002_1 from by repeat (first | (with_reducible first | exact HI225.out | apply IsS122.alloc | apply IsS122.drewN | apply IsS122.drew | apply IsS122.set_0 | apply IsS122.set_1 | apply IsS122.set_2 | refine IsS122.far ?_ NB225_221.out _ | refine IsS122.far ?_ NB225_226.out _) | exact HI225.out)) (by (with_reducible repeat (first | apply Kd.R_alloc | apply Kd.R_drewN | apply Kd.R_drew)); exact HO_227003.out) (by decide)) hk (fun _ h => h.2)) (fun _ h => h.1))
           have n2_ := Aside0.mk (KeepBut.blk hk (g' := gb221) (o := .cells #[.bool false, .slice none 0 0, .slice none 0 0, .slice none 0 0] 26 (0, 0)) (by (with_reducible repeat (first | refine blk_drewN ?_ _ | refine blk_drew ?_ | refine blk_alloc ?_ _)); exact BK221.out) NB221_225.out (by simp))
           have n3_ := Aside0.mk (KeepBut.blk hk (g' := gb226) (o := .cells #[.bool false, .slice none 0 0, u227002, u227003] 26 (0, 0)) (by (with_reducible repeat (first | refine blk_drewN ?_ _ | refine blk_drew ?_ | refine blk_alloc ?_ _)); exact BK226.out) NB226_225.out (by simp))
           have n4_ := Aside0.mk (hb)
           have n5_ := Aside0.mk (hi)
           clear HO_227002
           clear HO_227003
           clear BK221
           clear BK226
           clear HB
           clear HI225
           have HO_227002 := n0_
           have HO_227003 := n1_
           have BK221 := n2_
           have BK226 := n3_
           have HB := n4_
           have HI225 := n5_
           clear n0_ n1_ n2_ n3_ n4_ n5_
           (try clear hb)
           (try clear hb2)
           (try clear hk)
           (try clear hi)
           refine hK.out _ _ ⟨(blk_cell BK226.out 0).trans rfl, (blk_cell BK226.out 1).trans rfl, (blk_cell BK226.out 2).trans rfl, (blk_cell BK226.out 3).trans rfl⟩ (fun hHeld => ?_)
           clear hK K
           refine norm_ (a' := ?_) ?_ ?_
           rotate_left
           ·show Act.put _ (some 56) _ = _
            simp only [Act.put, List.setIfInBounds_toArray, List.set_cons_zero, List.set_cons_succ, i64_w, i32_w]
            rfl
           refine one_ (i := 4) (N := some 57) #[true,true,true,true,true,false,false,false] rfl rfl (one_of HT_.out (by kernel_rfl)) (by decide) (fun K hK => ?_)
           refine value_ (w1 := ?_) (v := ?_) (by rfl) rfl ?_ ?_
           rotate_left 2
           ·go_simp
            constructor
            ·rfl
            ·rfl
           refine hK.out _ _ ⟨(blk_cell (blk_alloc BK226.out _) 0).trans rfl, (blk_cell (blk_alloc BK226.out _) 1).trans rfl, (blk_cell (blk_alloc BK226.out _) 2).trans rfl, (blk_cell (blk_alloc BK226.out _) 3).trans rfl⟩ (fun hHeld => ?_)
           clear hK K
           refine norm_ (a' := ?_) ?_ ?_
           rotate_left
           ·show Act.put _ (some 57) _ = _
            simp only [Act.put, List.setIfInBounds_toArray, List.set_cons_zero, List.set_cons_succ, i64_w, i32_w]
            rfl
           refine one_ (i := 5) (N := some 58) #[true,true,true,true,true,true,false,false] rfl rfl (one_of HT_.out (by kernel_rfl)) (by decide) (fun K hK => ?_)
           refine Kd.R_append_step Kd.string (w0 := w) w.heap.size (by rfl) (.tmp 54) (.tmp 57) 23 9 (.string ⟨#[]⟩) 16 rfl Try.underlying23 info9 rfl (by decide) (by omega) u227002 x227002_1 t258 [.string t258] (fun _ => True) (fun _ => False) rfl rfl ?aP (fun _ hk => hk.elim) ?aF ?aO ?aB ?aS ?aL ?_
           (case aP => exact rfl)
           (case aB => exact (by repeat (first | (with_reducible first | exact HB.out | apply below_alloc | apply pw_below_drewN | apply below_drew1 | refine below_set ?_ (IsS122.ge HI225.out) | refine below_set ?_ GE221.out | refine below_set ?_ GE226.out) | exact HB.out)))
           (case aF => exact (fun _ _ => trivial))
           (case aO => exact (by (with_reducible repeat (first | apply Kd.R_alloc | apply Kd.R_drewN | apply Kd.R_drew)); exact HO_227002.out))
           (case aS => exact (below_size (by repeat (first | (with_reducible first | exact HB.out | apply below_alloc | apply pw_below_drewN | apply below_drew1 | refine below_set ?_ (IsS122.ge HI225.out) | refine below_set ?_ GE221.out | refine below_set ?_ GE226.out) | exact HB.out))))
           (case aL => have := LMc56.out; omega)
           intro v263 w63 ho hb hg hat
           rw [← Ny262.out] at ho
           have n0_ := Aside0.mk (Kd.R_over' (by (with_reducible repeat (first | apply Kd.R_alloc | apply Kd.R_drewN | apply Kd.R_drew)); exact HO_227003.out) (Kd.R_typed (by (with_reducible repeat (first | apply Kd.R_alloc | apply Kd.R_drewN | apply Kd.R_drew)); exact HO_227002.out)) (by decide) hg)
           have n1_ := Aside0.mk (blk_grown (g := gb221) (o := .cells #[.bool false, .slice none 0 0, .slice none 0 0, .slice none 0 0] 26 (0, 0)) (by (with_reducible repeat (first | refine blk_drewN ?_ _ | refine blk_drew ?_ | refine blk_alloc ?_ _)); exact BK221.out) hg (Kd.R_ne HO_227002.out BK221.out (by decide)))
           have n2_ := Aside0.mk (blk_grown (g := gb226) (o := .cells #[.bool false, .slice none 0 0, u227002, u227003] 26 (0, 0)) (by (with_reducible repeat (first | refine blk_drewN ?_ _ | refine blk_drew ?_ | refine blk_alloc ?_ _)); exact BK226.out) hg (Kd.R_ne HO_227002.out BK226.out (by decide)))
           have n3_ := Aside0.mk (IsS122.grown (by repeat (first | (with_reducible first | exact HI225.out | apply IsS122.alloc | apply IsS122.drewN | apply IsS122.drew | apply IsS122.set_0 | apply IsS122.set_1 | apply IsS122.set_2 | refine IsS122.far ?_ NB225_221.out _ | refine IsS122.far ?_ NB225_226.out _) | exact HI225.out)) hg (IsS122.own_ne HI225.out HO_227002.out (by decide)))
           have n4_ := Aside0.mk (hb)
           have n5_ := Aside0.mk (ho)
           clear HO_227003
           clear BK221
           clear BK226
           clear HI225
           clear HB
           clear HO_227002
           have HO_227003 := n0_
           have BK221 := n1_
           have BK226 := n2_
           have HI225 := n3_
           have HB := n4_
           have HO264 := n5_
           clear n0_ n1_ n2_ n3_ n4_ n5_
           clear ho hb hg hat
           obtain ⟨Ao64, co64, eo64⟩ := Kd.R_slice HO264.out
           (first | subst eo64 | (injection eo64 with f1_ f2_ f3_; have f4_ := f1_.symm; have f5_ := f3_.symm; clear f1_ f2_ f3_; subst f4_; subst f5_))
           refine hK.out _ _ ⟨(blk_cell BK226.out 0).trans rfl, (blk_cell BK226.out 1).trans rfl, (blk_cell BK226.out 2).trans rfl, (blk_cell BK226.out 3).trans rfl⟩ (fun hHeld => ?_)
           clear hK K
           refine norm_ (a' := ?_) ?_ ?_
           rotate_left
           ·show Act.put _ (some 58) _ = _
            simp only [Act.put, List.setIfInBounds_toArray, List.set_cons_zero, List.set_cons_succ, i64_w, i32_w]
            rfl
           refine pure_ (i := 6) (N := some 59) (v := ?_) (a' := ?_) #[true,true,true,true,true,true,true,false] rfl rfl (any_of HT_.out (by kernel_rfl)) (fun _ _ _ h => h) (Or.inl ⟨by rfl, ?_⟩) ?_ ?_
           rotate_left
           ·intro w'
            go_simp
            with_reducible rfl
           rotate_left
           ·simp only [Act.put, List.setIfInBounds_toArray, List.set_cons_zero, List.set_cons_succ, i64_w, i32_w]
            rfl
           refine last_ (i := 7) (N := none) #[true,true,true,true,true,true,true,true] rfl rfl (one_of HT_.out (by kernel_rfl)) (by decide) (fun K hK => ?_)
           have hs65 : w63.cell? ⟨gb226, 2, none⟩ = some (u227002) := (blk_cell BK226.out 2).trans rfl
           have hfs65 := blk_frozen BK226.out 2
           have hns65_0 := NB221_226.out
           have hms65_0 := NB226_221.out
           refine skip_ (w1 := ?_) (by rfl) rfl ?_ ?_
           rotate_left
           ·go_simp
            rfl
           refine hK.out _ _ ?_
           clear hK K
           refine done_ (done_of HT_.out (by kernel_rfl)) ?_
           try go_wp2
           have n0_ : Aside0 (Kd.R (Kd.int .u32) 45 (w63.setCell ⟨gb226, 2, none⟩ (.slice Ao64 y262.length co64)) w.heap.size (fun _ => True) u227003 x227003_1) := ⟨by (with_reducible repeat (first | apply Kd.R_alloc | apply Kd.R_drewN | apply Kd.R_drew)); exact Kd.R_mono (Kd.R_far (p := ⟨gb226, 2, none⟩) (Kd.R_types HO_227003.out BK226.out (by decide)) (fun _ hk => hk.2) (.slice Ao64 y262.length co64)) (fun _ hk => trivial)⟩
           have n1_ : Aside0 (Kd.R Kd.string 9 (w63.setCell ⟨gb226, 2, none⟩ (.slice Ao64 y262.length co64)) w.heap.size (fun _ => True) (.slice Ao64 y262.length co64) y262) := ⟨by (with_reducible repeat (first | apply Kd.R_alloc | apply Kd.R_drewN | apply Kd.R_drew)); exact Kd.R_mono (Kd.R_far (p := ⟨gb226, 2, none⟩) (Kd.R_types HO264.out BK226.out (by decide)) (fun _ hk => hk.2) (.slice Ao64 y262.length co64)) (fun _ hk => trivial)⟩
           have n2_ : Aside0 ((w63.setCell ⟨gb226, 2, none⟩ (.slice Ao64 y262.length co64)).heap[gb221]? = some (.cells #[.bool false, .slice none 0 0, .slice none 0 0, .slice none 0 0] 26 (0, 0))) := ⟨by (with_reducible repeat (first | refine blk_drewN ?_ _ | refine blk_drew ?_ | refine blk_alloc ?_ _)); refine blk_far ?_ NB221_226.out _; (with_reducible repeat (first | refine blk_drewN ?_ _ | refine blk_drew ?_ | refine blk_alloc ?_ _)); exact BK221.out⟩
           have n3_ : Aside0 ((w63.setCell ⟨gb226, 2, none⟩ (.slice Ao64 y262.length co64)).heap[gb226]? = some (.cells #[.bool false, .slice none 0 0, .slice Ao64 y262.length co64, u227003] 26 (0, 0))) := ⟨by (with_reducible repeat (first | refine blk_drewN ?_ _ | refine blk_drew ?_ | refine blk_alloc ?_ _)); refine blk_put (cs := #[.bool false, .slice none 0 0, u227002, u227003]) ?_ 2 _ rfl; (with_reducible repeat (first | refine blk_drewN ?_ _ | refine blk_drew ?_ | refine blk_alloc ?_ _)); exact BK226.out⟩
           have n4_ : Aside0 (IsS122 w (w63.setCell ⟨gb226, 2, none⟩ (.slice Ao64 y262.length co64)) g225 t259 t260 t261) := ⟨by repeat (first | (with_reducible first | exact HI225.out | apply IsS122.alloc | apply IsS122.drewN | apply IsS122.drew | apply IsS122.set_0 | apply IsS122.set_1 | apply IsS122.set_2 | refine IsS122.far ?_ NB225_221.out _ | refine IsS122.far ?_ NB225_226.out _) | exact HI225.out)⟩
           have n5_ : Aside0 (Below w.heap.size w (w63.setCell ⟨gb226, 2, none⟩ (.slice Ao64 y262.length co64))) := ⟨by repeat (first | (with_reducible first | exact HB.out | apply below_alloc | apply pw_below_drewN | apply below_drew1 | refine below_set ?_ (IsS122.ge HI225.out) | refine below_set ?_ GE221.out | refine below_set ?_ GE226.out) | exact HB.out)⟩
           (try clear HO_227003)
           (try clear HO264)
           (try clear BK221)
           (try clear BK226)
           (try clear HI225)
           (try clear HB)
           generalize (w63.setCell ⟨gb226, 2, none⟩ (.slice Ao64 y262.length co64)) = w66 at n0_ n1_ n2_ n3_ n4_ n5_ ⊢
           have HO_227003 := n0_
           have HO264 := n1_
           have BK221 := n2_
           have BK226 := n3_
           have HI225 := n4_
           have HB := n5_
           clear n0_ n1_ n2_ n3_ n4_ n5_
           have n0_ := Aside0.mk (Kd.R_drew HO_227003.out)
           have n1_ := Aside0.mk (Kd.R_drew HO264.out)
           have n2_ := Aside0.mk (blk_drew BK221.out)
           have n3_ := Aside0.mk (blk_drew BK226.out)
           have n4_ := Aside0.mk (IsS122.drew HI225.out)
           have n5_ := Aside0.mk (below_drew1 HB.out)
           clear HO_227003
           clear HO264
           clear BK221
           clear BK226
           clear HI225
           clear HB
           have HO_227003 := n0_
           have HO264 := n1_
           have BK221 := n2_
           have BK226 := n3_
           have HI225 := n4_
           have HB := n5_
           clear n0_ n1_ n2_ n3_ n4_ n5_
           refine start_ (n := 9) (S := fun w' => w'.cell? ⟨gb226, 0, none⟩ = some (.bool false) ∧ w'.cell? ⟨gb226, 1, none⟩ = some (.slice none 0 0) ∧ w'.cell? ⟨gb226, 2, none⟩ = some (.slice Ao64 y262.length co64) ∧ w'.cell? ⟨gb226, 3, none⟩ = some (u227003)) (ds := [8]) #[false,false,false,false,false,false,false,false,false] (by kernel_rfl) rfl rfl ⟨(blk_cell BK226.out 0).trans rfl, (blk_cell BK226.out 1).trans rfl, (blk_cell BK226.out 2).trans rfl, (blk_cell BK226.out 3).trans rfl⟩ (fun hHeld => ?_); refine with_tabW node_Decode.tab21 node_Decode.bits21 (fun HT_ HW_ => ?_)
           generalize w66.drew = w67 at HO_227003 HO264 BK221 BK226 HI225 HB hHeld ⊢
           refine pure_ (i := 0) (N := some 60) (v := ?_) (a' := ?_) #[true,false,false,false,false,false,false,false,false] rfl rfl (any_of HT_.out (by kernel_rfl)) (fun _ _ _ h => h) (Or.inl ⟨by rfl, ?_⟩) ?_ ?_
           rotate_left
           ·intro w'
            go_simp
            with_reducible rfl
           rotate_left
           ·simp only [Act.put, List.setIfInBounds_toArray, List.set_cons_zero, List.set_cons_succ, i64_w, i32_w]
            rfl
           refine pure_ (i := 2) (N := some 62) (v := ?_) (a' := ?_) #[true,false,true,false,false,false,false,false,false] rfl rfl (any_of HT_.out (by kernel_rfl)) (fun _ _ _ h => h) (Or.inl ⟨by rfl, ?_⟩) ?_ ?_
           rotate_left
           ·intro w'
            go_simp
            with_reducible rfl
           rotate_left
           ·simp only [Act.put, List.setIfInBounds_toArray, List.set_cons_zero, List.set_cons_succ, i64_w, i32_w]
            rfl
           refine take_ (i := 1) (N := some 61) (v := ?_) (a' := ?_) #[true,true,true,false,false,false,false,false,false] rfl rfl (take_ofW HT_.out HW_.out (by kernel_rfl)) (fun _ _ _ h => h) (Or.inl ⟨by rfl, ?_⟩) hHeld ?_ ?_
           rotate_left
           ·rintro w' ⟨s0, s1, s2, s3⟩
            go_simp
            with_reducible rfl
           rotate_left
           ·simp only [Act.put, List.setIfInBounds_toArray, List.set_cons_zero, List.set_cons_succ, i64_w, i32_w]
            rfl
           refine one_ (i := 3) (N := some 63) #[true,true,true,true,false,false,false,false,false] rfl rfl (one_of HT_.out (by kernel_rfl)) (by decide) (fun K hK => ?_)
           refine goes_ Try.func100 (by kernel_rfl) rfl #[.pointer (some ⟨g225, 0, none⟩), .int .i64 4] (by rfl) rfl rfl (by (try simp only [List.map_toArray, List.map_cons, List.map_nil]); first | done | rfl | (simp only [List.length_drop, List.length_take]; rfl)) ?_
           with_reducible refine (wire_Reader_Fixed.calls k1 g225 t259 t260 t261 4 t265 t266 t267 t268 w _ ?side1 ?side2 A57.out).mono ?_
           (case side1 => repeat (first | (with_reducible first | exact HI225.out | apply IsS122.alloc | apply IsS122.drewN | apply IsS122.drew | apply IsS122.set_0 | apply IsS122.set_1 | apply IsS122.set_2 | refine IsS122.far ?_ NB225_221.out _ | refine IsS122.far ?_ NB225_226.out _) | exact HI225.out))
           (case side2 => repeat (first | (with_reducible first | exact HB.out | apply below_alloc | apply pw_below_drewN | apply below_drew1 | refine below_set ?_ (IsS122.ge HI225.out) | refine below_set ?_ GE221.out | refine below_set ?_ GE226.out) | exact HB.out))
           rintro e w68 ⟨rfl, hi, hb, hk⟩
           refine ⟨_, rfl, ?_⟩
           have n0_ := Aside0.mk (Kd.R_mono (Kd.R_keep (IsS122.apart (show IsS122 w _ g225 t259 t260 t261 from by repeat (first | (with_reducible first | exact HI225.out | apply IsS122.alloc | apply IsS122.drewN | apply IsS122.drew | apply IsS122.set_0 | apply IsS122.set_1 | apply IsS122.set_2 | refine IsS122.far ?_ NB225_221.out _ | refine IsS122.far ?_ NB225_226.out _) | exact HI225.out)) (by (with_reducible repeat (first | apply Kd.R_alloc | apply Kd.R_drewN | apply Kd.R_drew)); exact HO_227003.out) (by decide)) hk (fun _ h => h.2)) (fun _ h => h.1))
           have n1_ := Aside0.mk (KeepBut.blk hk (g' := gb221) (o := .cells #[.bool false, .slice none 0 0, .slice none 0 0, .slice none 0 0] 26 (0, 0)) (by (with_reducible repeat (first | refine blk_drewN ?_ _ | refine blk_drew ?_ | refine blk_alloc ?_ _)); exact BK221.out) NB221_225.out (by simp))
           have n2_ := Aside0.mk (KeepBut.blk hk (g' := gb226) (o := .cells #[.bool false, .slice none 0 0, .slice Ao64 y262.length co64, u227003] 26 (0, 0)) (by (with_reducible repeat (first | refine blk_drewN ?_ _ | refine blk_drew ?_ | refine blk_alloc ?_ _)); exact BK226.out) NB226_225.out (by simp))
           have n3_ := Aside0.mk (Kd.R_mono (Kd.R_keep (IsS122.apart (show IsS122 w _ g225 t259 t260 t261 from by repeat (first | (with_reducible first | exact HI225.out | apply IsS122.alloc | apply IsS122.drewN | apply IsS122.drew | apply IsS122.set_0 | apply IsS122.set_1 | apply IsS122.set_2 | refine IsS122.far ?_ NB225_221.out _ | refine IsS122.far ?_ NB225_226.out _) | exact HI225.out)) (by (with_reducible repeat (first | apply Kd.R_alloc | apply Kd.R_drewN | apply Kd.R_drew)); exact HO264.out) (by decide)) hk (fun _ h => h.2)) (fun _ h => h.1))
           have n4_ := Aside0.mk (hb)
           have n5_ := Aside0.mk (hi)
           clear HO_227003
           clear BK221
           clear BK226
           clear HO264
           clear HB
           clear HI225
           have HO_227003 := n0_
           have BK221 := n1_
           have BK226 := n2_
           have HO264 := n3_
           have HB := n4_
           have HI225 := n5_
           clear n0_ n1_ n2_ n3_ n4_ n5_
           (try clear hb)
           (try clear hb2)
           (try clear hk)
           (try clear hi)
           refine hK.out _ _ ⟨(blk_cell BK226.out 0).trans rfl, (blk_cell BK226.out 1).trans rfl, (blk_cell BK226.out 2).trans rfl, (blk_cell BK226.out 3).trans rfl⟩ (fun hHeld => ?_)
           clear hK K
           refine norm_ (a' := ?_) ?_ ?_
           rotate_left
           ·show Act.put _ (some 63) _ = _
            simp only [Act.put, List.setIfInBounds_toArray, List.set_cons_zero, List.set_cons_succ, i64_w, i32_w]
            rfl
           refine pure_ (i := 4) (N := some 64) (v := ?_) (a' := ?_) #[true,true,true,true,true,false,false,false,false] rfl rfl (any_of HT_.out (by kernel_rfl)) (fun _ _ _ h => h) (Or.inl ⟨by rfl, ?_⟩) ?_ ?_
           rotate_left
           ·intro w'
            go_simp
            with_reducible rfl
           rotate_left
           ·simp only [Act.put, List.setIfInBounds_toArray, List.set_cons_zero, List.set_cons_succ, i64_w, i32_w]
            rfl
           refine one_ (i := 5) (N := some 65) #[true,true,true,true,true,true,false,false,false] rfl rfl (one_of HT_.out (by kernel_rfl)) (by decide) (fun K hK => ?_)
           refine value_ (w1 := ?_) (v := ?_) (by rfl) rfl ?_ ?_
           rotate_left 2
           ·go_simp
            constructor
            ·rfl
            ·rfl
           refine hK.out _ _ ⟨(blk_cell (blk_alloc BK226.out _) 0).trans rfl, (blk_cell (blk_alloc BK226.out _) 1).trans rfl, (blk_cell (blk_alloc BK226.out _) 2).trans rfl, (blk_cell (blk_alloc BK226.out _) 3).trans rfl⟩ (fun hHeld => ?_)
           clear hK K
           refine norm_ (a' := ?_) ?_ ?_
           rotate_left
           ·show Act.put _ (some 65) _ = _
            simp only [Act.put, List.setIfInBounds_toArray, List.set_cons_zero, List.set_cons_succ, i64_w, i32_w]
            rfl
           refine one_ (i := 6) (N := some 66) #[true,true,true,true,true,true,true,false,false] rfl rfl (one_of HT_.out (by kernel_rfl)) (by decide) (fun K hK => ?_)
           refine Kd.R_append_step (Kd.int .u32) (w0 := w) w.heap.size (by rfl) (.tmp 61) (.tmp 65) 24 45 (.int .u32 0) 4 rfl Try.underlying24 info45 rfl (by decide) (by omega) u227003 x227003_1 ((t265) % 4294967296) [.int .u32 ((t265) % 4294967296)] (fun _ => True) (fun _ => False) rfl rfl ?aP (fun _ hk => hk.elim) ?aF ?aO ?aB ?aS ?aL ?_
           (case aP => exact rfl)
           (case aB => exact (by repeat (first | (with_reducible first | exact HB.out | apply below_alloc | apply pw_below_drewN | apply below_drew1 | refine below_set ?_ (IsS122.ge HI225.out) | refine below_set ?_ GE221.out | refine below_set ?_ GE226.out) | exact HB.out)))
           (case aF => exact (fun _ _ => trivial))
           (case aO => exact (by (with_reducible repeat (first | apply Kd.R_alloc | apply Kd.R_drewN | apply Kd.R_drew)); exact HO_227003.out))
           (case aS => exact (below_size (by repeat (first | (with_reducible first | exact HB.out | apply below_alloc | apply pw_below_drewN | apply below_drew1 | refine below_set ?_ (IsS122.ge HI225.out) | refine below_set ?_ GE221.out | refine below_set ?_ GE226.out) | exact HB.out))))
           (case aL => have := LMc58.out; omega)
           intro v270 w69 ho hb hg hat
           rw [← Ny269.out] at ho
           have n0_ := Aside0.mk (blk_grown (g := gb221) (o := .cells #[.bool false, .slice none 0 0, .slice none 0 0, .slice none 0 0] 26 (0, 0)) (by (with_reducible repeat (first | refine blk_drewN ?_ _ | refine blk_drew ?_ | refine blk_alloc ?_ _)); exact BK221.out) hg (Kd.R_ne HO_227003.out BK221.out (by decide)))
           have n1_ := Aside0.mk (blk_grown (g := gb226) (o := .cells #[.bool false, .slice none 0 0, .slice Ao64 y262.length co64, u227003] 26 (0, 0)) (by (with_reducible repeat (first | refine blk_drewN ?_ _ | refine blk_drew ?_ | refine blk_alloc ?_ _)); exact BK226.out) hg (Kd.R_ne HO_227003.out BK226.out (by decide)))
           have n2_ := Aside0.mk (IsS122.grown (by repeat (first | (with_reducible first | exact HI225.out | apply IsS122.alloc | apply IsS122.drewN | apply IsS122.drew | apply IsS122.set_0 | apply IsS122.set_1 | apply IsS122.set_2 | refine IsS122.far ?_ NB225_221.out _ | refine IsS122.far ?_ NB225_226.out _) | exact HI225.out)) hg (IsS122.own_ne HI225.out HO_227003.out (by decide)))
           have n3_ := Aside0.mk (Kd.R_over' (by (with_reducible repeat (first | apply Kd.R_alloc | apply Kd.R_drewN | apply Kd.R_drew)); exact HO264.out) (Kd.R_typed (by (with_reducible repeat (first | apply Kd.R_alloc | apply Kd.R_drewN | apply Kd.R_drew)); exact HO_227003.out)) (by decide) hg)
           have n4_ := Aside0.mk (hb)
           have n5_ := Aside0.mk (ho)
           clear BK221
           clear BK226
           clear HI225
           clear HO264
           clear HB
           clear HO_227003
           have BK221 := n0_
           have BK226 := n1_
           have HI225 := n2_
           have HO264 := n3_
           have HB := n4_
           have HO271 := n5_
           clear n0_ n1_ n2_ n3_ n4_ n5_
           clear ho hb hg hat
           obtain ⟨Ao70, co70, eo70⟩ := Kd.R_slice HO271.out
           (first | subst eo70 | (injection eo70 with f1_ f2_ f3_; have f4_ := f1_.symm; have f5_ := f3_.symm; clear f1_ f2_ f3_; subst f4_; subst f5_))
           refine hK.out _ _ ⟨(blk_cell BK226.out 0).trans rfl, (blk_cell BK226.out 1).trans rfl, (blk_cell BK226.out 2).trans rfl, (blk_cell BK226.out 3).trans rfl⟩ (fun hHeld => ?_)
           clear hK K
           refine norm_ (a' := ?_) ?_ ?_
           rotate_left
           ·show Act.put _ (some 66) _ = _
            simp only [Act.put, List.setIfInBounds_toArray, List.set_cons_zero, List.set_cons_succ, i64_w, i32_w]
            rfl
           refine pure_ (i := 7) (N := some 67) (v := ?_) (a' := ?_) #[true,true,true,true,true,true,true,true,false] rfl rfl (any_of HT_.out (by kernel_rfl)) (fun _ _ _ h => h) (Or.inl ⟨by rfl, ?_⟩) ?_ ?_
           rotate_left
           ·intro w'
            go_simp
            with_reducible rfl
           rotate_left
           ·simp only [Act.put, List.setIfInBounds_toArray, List.set_cons_zero, List.set_cons_succ, i64_w, i32_w]
            rfl
           refine last_ (i := 8) (N := none) #[true,true,true,true,true,true,true,true,true] rfl rfl (one_of HT_.out (by kernel_rfl)) (by decide) (fun K hK => ?_)
           have hs71 : w69.cell? ⟨gb226, 3, none⟩ = some (u227003) := (blk_cell BK226.out 3).trans rfl
           have hfs71 := blk_frozen BK226.out 3
           have hns71_0 := NB221_226.out
           have hms71_0 := NB226_221.out
           refine skip_ (w1 := ?_) (by rfl) rfl ?_ ?_
           rotate_left
           ·go_simp
            rfl
           refine hK.out _ _ ?_
           clear hK K
           refine done_ (done_of HT_.out (by kernel_rfl)) ?_
           try go_wp2_with (first | ((with_reducible refine gate_callee (f := 102) rfl ?_); refine goesL_ (some 69) rfl rfl Try.func102 (by kernel_rfl) rfl #[.pointer (some ⟨g225, 0, none⟩)] rfl (by (try simp only [List.map_toArray, List.map_cons, List.map_nil]); first | done | rfl | (simp only [List.length_drop, List.length_take]; rfl)) ?_; (with_reducible refine (wire_Reader_Err.calls g225 t266 t267 t268 t272 t273 t274 t275 w _ ?side1 ?side2 A59.out).mono ?_); (case side1 => repeat (first | (with_reducible first | exact HI225.out | apply IsS122.alloc | apply IsS122.drewN | apply IsS122.drew | apply IsS122.set_0 | apply IsS122.set_1 | apply IsS122.set_2 | refine IsS122.far ?_ NB225_221.out _ | refine IsS122.far ?_ NB225_226.out _) | exact HI225.out)); (case side2 => repeat (first | (with_reducible first | exact HB.out | apply below_alloc | apply pw_below_drewN | apply below_drew1 | refine below_set ?_ (IsS122.ge HI225.out) | refine below_set ?_ GE221.out | refine below_set ?_ GE226.out) | exact HB.out)); rintro e w72 ⟨rfl, hi, hb, hk⟩; refine ⟨_, rfl, ?_⟩; have n0_ := Aside0.mk (KeepBut.blk hk (g' := gb221) (o := .cells #[.bool false, .slice none 0 0, .slice none 0 0, .slice none 0 0] 26 (0, 0)) (by (with_reducible repeat (first | refine blk_drewN ?_ _ | refine blk_drew ?_ | refine blk_alloc ?_ _)); refine blk_far ?_ NB221_226.out _; (with_reducible repeat (first | refine blk_drewN ?_ _ | refine blk_drew ?_ | refine blk_alloc ?_ _)); exact BK221.out) NB221_225.out (by simp)); have n1_ := Aside0.mk (KeepBut.blk hk (g' := gb226) (o := .cells #[.bool false, .slice none 0 0, .slice Ao64 y262.length co64, .slice Ao70 y269.length co70] 26 (0, 0)) (by (with_reducible repeat (first | refine blk_drewN ?_ _ | refine blk_drew ?_ | refine blk_alloc ?_ _)); refine blk_put (cs := #[.bool false, .slice none 0 0, .slice Ao64 y262.length co64, u227003]) ?_ 3 _ rfl; (with_reducible repeat (first | refine blk_drewN ?_ _ | refine blk_drew ?_ | refine blk_alloc ?_ _)); exact BK226.out) NB226_225.out (by simp)); have n2_ := Aside0.mk (Kd.R_mono (Kd.R_keep (IsS122.apart (show IsS122 w _ g225 t266 t267 t268 from by repeat (first | (with_reducible first | exact HI225.out | apply IsS122.alloc | apply IsS122.drewN | apply IsS122.drew | apply IsS122.set_0 | apply IsS122.set_1 | apply IsS122.set_2 | refine IsS122.far ?_ NB225_221.out _ | refine IsS122.far ?_ NB225_226.out _) | exact HI225.out)) (by (with_reducible repeat (first | apply Kd.R_alloc | apply Kd.R_drewN | apply Kd.R_drew)); exact (Kd.R_mono (Kd.R_far (p := ⟨gb226, 3, none⟩) (Kd.R_types HO264.out BK226.out (by decide)) (fun _ hk => hk.2) (.slice Ao70 y269.length co70)) (fun _ h_ => h_.1))) (by decide)) hk (fun _ h => h.2)) (fun _ h => h.1)); have n3_ := Aside0.mk (Kd.R_mono (Kd.R_keep (IsS122.apart (show IsS122 w _ g225 t266 t267 t268 from by repeat (first | (with_reducible first | exact HI225.out | apply IsS122.alloc | apply IsS122.drewN | apply IsS122.drew | apply IsS122.set_0 | apply IsS122.set_1 | apply IsS122.set_2 | refine IsS122.far ?_ NB225_221.out _ | refine IsS122.far ?_ NB225_226.out _) | exact HI225.out)) (by (with_reducible repeat (first | apply Kd.R_alloc | apply Kd.R_drewN | apply Kd.R_drew)); exact (Kd.R_mono (Kd.R_far (p := ⟨gb226, 3, none⟩) (Kd.R_types HO271.out BK226.out (by decide)) (fun _ hk => hk.2) (.slice Ao70 y269.length co70)) (fun _ h_ => h_.1))) (by decide)) hk (fun _ h => h.2)) (fun _ h => h.1)); have n4_ := Aside0.mk (hb); have n5_ := Aside0.mk (hi); clear BK221; clear BK226; clear HO264; clear HO271; clear HB; clear HI225; have BK221 := n0_; have BK226 := n1_; have HO264 := n2_; have HO271 := n3_; have HB := n4_; have HI225 := n5_; clear n0_ n1_ n2_ n3_ n4_ n5_; (try clear hb); (try clear hb2); (try clear hk); (try clear hi)))
           go_roundg k1
           case measure => have := HK1.out; omega
           case rel => exact ⟨(wrap64 (x51_1 + 1)), (t273), (t274), (t275), (y262), (y269), (.slice Ao64 y262.length co64), (.slice Ao70 y269.length co70), (by first | rfl | (simp; done) | (simp [*]; done) | (simp only [i64_w]; done)), H', ⟨by have := HK1.out; omega⟩, ⟨by (with_reducible repeat (first | apply Kd.R_alloc | apply Kd.R_drewN | apply Kd.R_drew)); exact HO264.out⟩, ⟨by (with_reducible repeat (first | apply Kd.R_alloc | apply Kd.R_drewN | apply Kd.R_drew)); exact HO271.out⟩, ⟨by (with_reducible repeat (first | refine blk_drewN ?_ _ | refine blk_drew ?_ | refine blk_alloc ?_ _)); exact BK221.out⟩, ⟨by (with_reducible repeat (first | refine blk_drewN ?_ _ | refine blk_drew ?_ | refine blk_alloc ?_ _)); exact BK226.out⟩, ⟨by repeat (first | (with_reducible first | exact HI225.out | apply IsS122.alloc | apply IsS122.drewN | apply IsS122.drew | apply IsS122.set_0 | apply IsS122.set_1 | apply IsS122.set_2 | refine IsS122.far ?_ NB225_221.out _ | refine IsS122.far ?_ NB225_226.out _) | exact HI225.out)⟩, ⟨by repeat (first | (with_reducible first | exact HB.out | apply below_alloc | apply pw_below_drewN | apply below_drew1 | refine below_set ?_ (IsS122.ge HI225.out) | refine below_set ?_ GE221.out | refine below_set ?_ GE226.out) | exact HB.out)⟩⟩
          ·rw [if_neg c60] at H
           have c60b0 : (t272 == 0) = false := beq_eq_false_iff_ne.mpr c60
           have c60b1 : (t272 != 0) = true := bne_iff_ne.mpr c60
           have H' := Aside0.mk H
           clear H
           try go_wp2
           have n0_ := Aside0.mk (Kd.R_drew HO_227002.out)
           have n1_ := Aside0.mk (Kd.R_drew HO_227003.out)
           have n2_ := Aside0.mk (blk_drew BK221.out)
           have n3_ := Aside0.mk (blk_drew BK226.out)
           have n4_ := Aside0.mk (IsS122.drew HI225.out)
           have n5_ := Aside0.mk (below_drew1 HB.out)
           clear HO_227002
           clear HO_227003
           clear BK221
           clear BK226
           clear HI225
           clear HB
           have HO_227002 := n0_
           have HO_227003 := n1_
           have BK221 := n2_
           have BK226 := n3_
           have HI225 := n4_
           have HB := n5_
           clear n0_ n1_ n2_ n3_ n4_ n5_
           refine start_ (n := 8) (S := fun w' => w'.cell? ⟨gb226, 0, none⟩ = some (.bool false) ∧ w'.cell? ⟨gb226, 1, none⟩ = some (.slice none 0 0) ∧ w'.cell? ⟨gb226, 2, none⟩ = some (u227002) ∧ w'.cell? ⟨gb226, 3, none⟩ = some (u227003)) (ds := [7]) #[false,false,false,false,false,false,false,false] (by kernel_rfl) rfl rfl ⟨(blk_cell BK226.out 0).trans rfl, (blk_cell BK226.out 1).trans rfl, (blk_cell BK226.out 2).trans rfl, (blk_cell BK226.out 3).trans rfl⟩ (fun hHeld => ?_); refine with_tabW node_Decode.tab20 node_Decode.bits20 (fun HT_ HW_ => ?_)
           generalize wr.drew = w73 at HO_227002 HO_227003 BK221 BK226 HI225 HB hHeld ⊢
           refine pure_ (i := 0) (N := some 53) (v := ?_) (a' := ?_) #[true,false,false,false,false,false,false,false] rfl rfl (any_of HT_.out (by kernel_rfl)) (fun _ _ _ h => h) (Or.inl ⟨by rfl, ?_⟩) ?_ ?_
           rotate_left
           ·intro w'
            go_simp
            with_reducible rfl
           rotate_left
           ·simp only [Act.put, List.setIfInBounds_toArray, List.set_cons_zero, List.set_cons_succ, i64_w, i32_w]
            rfl
           refine pure_ (i := 2) (N := some 55) (v := ?_) (a' := ?_) #[true,false,true,false,false,false,false,false] rfl rfl (any_of HT_.out (by kernel_rfl)) (fun _ _ _ h => h) (Or.inl ⟨by rfl, ?_⟩) ?_ ?_
           rotate_left
           ·intro w'
            go_simp
            with_reducible rfl
           rotate_left
           ·simp only [Act.put, List.setIfInBounds_toArray, List.set_cons_zero, List.set_cons_succ, i64_w, i32_w]
            rfl
           refine take_ (i := 1) (N := some 54) (v := ?_) (a' := ?_) #[true,true,true,false,false,false,false,false] rfl rfl (take_ofW HT_.out HW_.out (by kernel_rfl)) (fun _ _ _ h => h) (Or.inl ⟨by rfl, ?_⟩) hHeld ?_ ?_
           rotate_left
           ·rintro w' ⟨s0, s1, s2, s3⟩
            go_simp
            with_reducible rfl
           rotate_left
           ·simp only [Act.put, List.setIfInBounds_toArray, List.set_cons_zero, List.set_cons_succ, i64_w, i32_w]
            rfl
           refine one_ (i := 3) (N := some 56) #[true,true,true,true,false,false,false,false] rfl rfl (one_of HT_.out (by kernel_rfl)) (by decide) (fun K hK => ?_)
           refine goes_ Try.func101 (by kernel_rfl) rfl #[.pointer (some ⟨g225, 0, none⟩), .int .i64 320] (by rfl) rfl rfl (by (try simp only [List.map_toArray, List.map_cons, List.map_nil]); first | done | rfl | (simp only [List.length_drop, List.length_take]; rfl)) ?_
           with_reducible refine (wire_Reader_Text.calls k1 g225 x226000_1 x226001_1 x226002_1 320 t258 t259 t260 t261 w _ ?side1 ?side2 A55.out).mono ?_
           (case side1 => repeat (first | (with_reducible first | exact HI225.out | apply IsS122.alloc | apply IsS122.drewN | apply IsS122.drew | apply IsS122.set_0 | apply IsS122.set_1 | apply IsS122.set_2 | refine IsS122.far ?_ NB225_221.out _ | refine IsS122.far ?_ NB225_226.out _) | exact HI225.out))
           (case side2 => repeat (first | (with_reducible first | exact HB.out | apply below_alloc | apply pw_below_drewN | apply below_drew1 | refine below_set ?_ (IsS122.ge HI225.out) | refine below_set ?_ GE221.out | refine below_set ?_ GE226.out) | exact HB.out))
           rintro e w74 ⟨rfl, hi, hb, hk⟩
           refine ⟨_, rfl, ?_⟩
           have n0_ := Aside0.mk (Kd.R_mono (Kd.R_keep (IsS122.apart (show IsS122 w _ g225 x226000_1 x226001_1 x226002_1 from by repeat (first | (with_reducible first | exact HI225.out | apply IsS122.alloc | apply IsS122.drewN | apply IsS122.drew | apply IsS122.set_0 | apply IsS122.set_1 | apply IsS122.set_2 | refine IsS122.far ?_ NB225_221.out _ | refine IsS122.far ?_ NB225_226.out _) | exact HI225.out)) (by (with_reducible repeat (first | apply Kd.R_alloc | apply Kd.R_drewN | apply Kd.R_drew)); exact HO_227002.out) (by decide)) hk (fun _ h => h.2)) (fun _ h => h.1))
           have n1_ := Aside0.mk (Kd.R_mono (Kd.R_keep (IsS122.apart (show IsS122 w _ g225 x226000_1 x226001_1 x226002_1 from by repeat (first | (with_reducible first | exact HI225.out | apply IsS122.alloc | apply IsS122.drewN | apply IsS122.drew | apply IsS122.set_0 | apply IsS122.set_1 | apply IsS122.set_2 | refine IsS122.far ?_ NB225_221.out _ | refine IsS122.far ?_ NB225_226.out _) | exact HI225.out)) (by (with_reducible repeat (first | apply Kd.R_alloc | apply Kd.R_drewN | apply Kd.R_drew)); exact HO_227003.out) (by decide)) hk (fun _ h => h.2)) (fun _ h => h.1))
           have n2_ := Aside0.mk (KeepBut.blk hk (g' := gb221) (o := .cells #[.bool false, .slice none 0 0, .slice none 0 0, .slice none 0 0] 26 (0, 0)) (by (with_reducible repeat (first | refine blk_drewN ?_ _ | refine blk_drew ?_ | refine blk_alloc ?_ _)); exact BK221.out) NB221_225.out (by simp))
           have n3_ := Aside0.mk (KeepBut.blk hk (g' := gb226) (o := .cells #[.bool false, .slice none 0 0, u227002, u227003] 26 (0, 0)) (by (with_reducible repeat (first | refine blk_drewN ?_ _ | refine blk_drew ?_ | refine blk_alloc ?_ _)); exact BK226.out) NB226_225.out (by simp))
           have n4_ := Aside0.mk (hb)
           have n5_ := Aside0.mk (hi)
           clear HO_227002
           clear HO_227003
           clear BK221
           clear BK226
           clear HB
           clear HI225
           have HO_227002 := n0_
           have HO_227003 := n1_
           have BK221 := n2_
           have BK226 := n3_
           have HB := n4_
           have HI225 := n5_
           clear n0_ n1_ n2_ n3_ n4_ n5_
           (try clear hb)
           (try clear hb2)
           (try clear hk)
           (try clear hi)
           refine hK.out _ _ ⟨(blk_cell BK226.out 0).trans rfl, (blk_cell BK226.out 1).trans rfl, (blk_cell BK226.out 2).trans rfl, (blk_cell BK226.out 3).trans rfl⟩ (fun hHeld => ?_)
           clear hK K
           refine norm_ (a' := ?_) ?_ ?_
           rotate_left
           ·show Act.put _ (some 56) _ = _
            simp only [Act.put, List.setIfInBounds_toArray, List.set_cons_zero, List.set_cons_succ, i64_w, i32_w]
            rfl
           refine one_ (i := 4) (N := some 57) #[true,true,true,true,true,false,false,false] rfl rfl (one_of HT_.out (by kernel_rfl)) (by decide) (fun K hK => ?_)
           refine value_ (w1 := ?_) (v := ?_) (by rfl) rfl ?_ ?_
           rotate_left 2
           ·go_simp
            constructor
            ·rfl
            ·rfl
           refine hK.out _ _ ⟨(blk_cell (blk_alloc BK226.out _) 0).trans rfl, (blk_cell (blk_alloc BK226.out _) 1).trans rfl, (blk_cell (blk_alloc BK226.out _) 2).trans rfl, (blk_cell (blk_alloc BK226.out _) 3).trans rfl⟩ (fun hHeld => ?_)
           clear hK K
           refine norm_ (a' := ?_) ?_ ?_
           rotate_left
           ·show Act.put _ (some 57) _ = _
            simp only [Act.put, List.setIfInBounds_toArray, List.set_cons_zero, List.set_cons_succ, i64_w, i32_w]
            rfl
           refine one_ (i := 5) (N := some 58) #[true,true,true,true,true,true,false,false] rfl rfl (one_of HT_.out (by kernel_rfl)) (by decide) (fun K hK => ?_)
           refine Kd.R_append_step Kd.string (w0 := w) w.heap.size (by rfl) (.tmp 54) (.tmp 57) 23 9 (.string ⟨#[]⟩) 16 rfl Try.underlying23 info9 rfl (by decide) (by omega) u227002 x227002_1 t258 [.string t258] (fun _ => True) (fun _ => False) rfl rfl ?aP (fun _ hk => hk.elim) ?aF ?aO ?aB ?aS ?aL ?_
           (case aP => exact rfl)
           (case aB => exact (by repeat (first | (with_reducible first | exact HB.out | apply below_alloc | apply pw_below_drewN | apply below_drew1 | refine below_set ?_ (IsS122.ge HI225.out) | refine below_set ?_ GE221.out | refine below_set ?_ GE226.out) | exact HB.out)))
           (case aF => exact (fun _ _ => trivial))
           (case aO => exact (by (with_reducible repeat (first | apply Kd.R_alloc | apply Kd.R_drewN | apply Kd.R_drew)); exact HO_227002.out))
           (case aS => exact (below_size (by repeat (first | (with_reducible first | exact HB.out | apply below_alloc | apply pw_below_drewN | apply below_drew1 | refine below_set ?_ (IsS122.ge HI225.out) | refine below_set ?_ GE221.out | refine below_set ?_ GE226.out) | exact HB.out))))
           (case aL => have := LMc56.out; omega)
           intro v263 w75 ho hb hg hat
           rw [← Ny262.out] at ho
           have n0_ := Aside0.mk (Kd.R_over' (by (with_reducible repeat (first | apply Kd.R_alloc | apply Kd.R_drewN | apply Kd.R_drew)); exact HO_227003.out) (Kd.R_typed (by (with_reducible repeat (first | apply Kd.R_alloc | apply Kd.R_drewN | apply Kd.R_drew)); exact HO_227002.out)) (by decide) hg)
           have n1_ := Aside0.mk (blk_grown (g := gb221) (o := .cells #[.bool false, .slice none 0 0, .slice none 0 0, .slice none 0 0] 26 (0, 0)) (by (with_reducible repeat (first | refine blk_drewN ?_ _ | refine blk_drew ?_ | refine blk_alloc ?_ _)); exact BK221.out) hg (Kd.R_ne HO_227002.out BK221.out (by decide)))
           have n2_ := Aside0.mk (blk_grown (g := gb226) (o := .cells #[.bool false, .slice none 0 0, u227002, u227003] 26 (0, 0)) (by (with_reducible repeat (first | refine blk_drewN ?_ _ | refine blk_drew ?_ | refine blk_alloc ?_ _)); exact BK226.out) hg (Kd.R_ne HO_227002.out BK226.out (by decide)))
           have n3_ := Aside0.mk (IsS122.grown (by repeat (first | (with_reducible first | exact HI225.out | apply IsS122.alloc | apply IsS122.drewN | apply IsS122.drew | apply IsS122.set_0 | apply IsS122.set_1 | apply IsS122.set_2 | refine IsS122.far ?_ NB225_221.out _ | refine IsS122.far ?_ NB225_226.out _) | exact HI225.out)) hg (IsS122.own_ne HI225.out HO_227002.out (by decide)))
           have n4_ := Aside0.mk (hb)
           have n5_ := Aside0.mk (ho)
           clear HO_227003
           clear BK221
           clear BK226
           clear HI225
           clear HB
           clear HO_227002
           have HO_227003 := n0_
           have BK221 := n1_
           have BK226 := n2_
           have HI225 := n3_
           have HB := n4_
           have HO264 := n5_
           clear n0_ n1_ n2_ n3_ n4_ n5_
           clear ho hb hg hat
           obtain ⟨Ao76, co76, eo76⟩ := Kd.R_slice HO264.out
           (first | subst eo76 | (injection eo76 with f1_ f2_ f3_; have f4_ := f1_.symm; have f5_ := f3_.symm; clear f1_ f2_ f3_; subst f4_; subst f5_))
           refine hK.out _ _ ⟨(blk_cell BK226.out 0).trans rfl, (blk_cell BK226.out 1).trans rfl, (blk_cell BK226.out 2).trans rfl, (blk_cell BK226.out 3).trans rfl⟩ (fun hHeld => ?_)
           clear hK K
           refine norm_ (a' := ?_) ?_ ?_
           rotate_left
           ·show Act.put _ (some 58) _ = _
            simp only [Act.put, List.setIfInBounds_toArray, List.set_cons_zero, List.set_cons_succ, i64_w, i32_w]
            rfl
           refine pure_ (i := 6) (N := some 59) (v := ?_) (a' := ?_) #[true,true,true,true,true,true,true,false] rfl rfl (any_of HT_.out (by kernel_rfl)) (fun _ _ _ h => h) (Or.inl ⟨by rfl, ?_⟩) ?_ ?_
           rotate_left
           ·intro w'
            go_simp
            with_reducible rfl
           rotate_left
           ·simp only [Act.put, List.setIfInBounds_toArray, List.set_cons_zero, List.set_cons_succ, i64_w, i32_w]
            rfl
           refine last_ (i := 7) (N := none) #[true,true,true,true,true,true,true,true] rfl rfl (one_of HT_.out (by kernel_rfl)) (by decide) (fun K hK => ?_)
           have hs77 : w75.cell? ⟨gb226, 2, none⟩ = some (u227002) := (blk_cell BK226.out 2).trans rfl
           have hfs77 := blk_frozen BK226.out 2
           have hns77_0 := NB221_226.out
           have hms77_0 := NB226_221.out
           refine skip_ (w1 := ?_) (by rfl) rfl ?_ ?_
           rotate_left
           ·go_simp
            rfl
           refine hK.out _ _ ?_
           clear hK K
           refine done_ (done_of HT_.out (by kernel_rfl)) ?_
           try go_wp2
           have n0_ : Aside0 (Kd.R (Kd.int .u32) 45 (w75.setCell ⟨gb226, 2, none⟩ (.slice Ao76 y262.length co76)) w.heap.size (fun _ => True) u227003 x227003_1) := ⟨by (with_reducible repeat (first | apply Kd.R_alloc | apply Kd.R_drewN | apply Kd.R_drew)); exact Kd.R_mono (Kd.R_far (p := ⟨gb226, 2, none⟩) (Kd.R_types HO_227003.out BK226.out (by decide)) (fun _ hk => hk.2) (.slice Ao76 y262.length co76)) (fun _ hk => trivial)⟩
           have n1_ : Aside0 (Kd.R Kd.string 9 (w75.setCell ⟨gb226, 2, none⟩ (.slice Ao76 y262.length co76)) w.heap.size (fun _ => True) (.slice Ao76 y262.length co76) y262) := ⟨by (with_reducible repeat (first | apply Kd.R_alloc | apply Kd.R_drewN | apply Kd.R_drew)); exact Kd.R_mono (Kd.R_far (p := ⟨gb226, 2, none⟩) (Kd.R_types HO264.out BK226.out (by decide)) (fun _ hk => hk.2) (.slice Ao76 y262.length co76)) (fun _ hk => trivial)⟩
           have n2_ : Aside0 ((w75.setCell ⟨gb226, 2, none⟩ (.slice Ao76 y262.length co76)).heap[gb221]? = some (.cells #[.bool false, .slice none 0 0, .slice none 0 0, .slice none 0 0] 26 (0, 0))) := ⟨by (with_reducible repeat (first | refine blk_drewN ?_ _ | refine blk_drew ?_ | refine blk_alloc ?_ _)); refine blk_far ?_ NB221_226.out _; (with_reducible repeat (first | refine blk_drewN ?_ _ | refine blk_drew ?_ | refine blk_alloc ?_ _)); exact BK221.out⟩
           have n3_ : Aside0 ((w75.setCell ⟨gb226, 2, none⟩ (.slice Ao76 y262.length co76)).heap[gb226]? = some (.cells #[.bool false, .slice none 0 0, .slice Ao76 y262.length co76, u227003] 26 (0, 0))) := ⟨by (with_reducible repeat (first | refine blk_drewN ?_ _ | refine blk_drew ?_ | refine blk_alloc ?_ _)); refine blk_put (cs := #[.bool false, .slice none 0 0, u227002, u227003]) ?_ 2 _ rfl; (with_reducible repeat (first | refine blk_drewN ?_ _ | refine blk_drew ?_ | refine blk_alloc ?_ _)); exact BK226.out⟩
           have n4_ : Aside0 (IsS122 w (w75.setCell ⟨gb226, 2, none⟩ (.slice Ao76 y262.length co76)) g225 t259 t260 t261) := ⟨by repeat (first | (with_reducible first | exact HI225.out | apply IsS122.alloc | apply IsS122.drewN | apply IsS122.drew | apply IsS122.set_0 | apply IsS122.set_1 | apply IsS122.set_2 | refine IsS122.far ?_ NB225_221.out _ | refine IsS122.far ?_ NB225_226.out _) | exact HI225.out)⟩
           have n5_ : Aside0 (Below w.heap.size w (w75.setCell ⟨gb226, 2, none⟩ (.slice Ao76 y262.length co76))) := ⟨by repeat (first | (with_reducible first | exact HB.out | apply below_alloc | apply pw_below_drewN | apply below_drew1 | refine below_set ?_ (IsS122.ge HI225.out) | refine below_set ?_ GE221.out | refine below_set ?_ GE226.out) | exact HB.out)⟩
           (try clear HO_227003)
           (try clear HO264)
           (try clear BK221)
           (try clear BK226)
           (try clear HI225)
           (try clear HB)
           generalize (w75.setCell ⟨gb226, 2, none⟩ (.slice Ao76 y262.length co76)) = w78 at n0_ n1_ n2_ n3_ n4_ n5_ ⊢
           have HO_227003 := n0_
           have HO264 := n1_
           have BK221 := n2_
           have BK226 := n3_
           have HI225 := n4_
           have HB := n5_
           clear n0_ n1_ n2_ n3_ n4_ n5_
           have n0_ := Aside0.mk (Kd.R_drew HO_227003.out)
           have n1_ := Aside0.mk (Kd.R_drew HO264.out)
           have n2_ := Aside0.mk (blk_drew BK221.out)
           have n3_ := Aside0.mk (blk_drew BK226.out)
           have n4_ := Aside0.mk (IsS122.drew HI225.out)
           have n5_ := Aside0.mk (below_drew1 HB.out)
           clear HO_227003
           clear HO264
           clear BK221
           clear BK226
           clear HI225
           clear HB
           have HO_227003 := n0_
           have HO264 := n1_
           have BK221 := n2_
           have BK226 := n3_
           have HI225 := n4_
           have HB := n5_
           clear n0_ n1_ n2_ n3_ n4_ n5_
           refine start_ (n := 9) (S := fun w' => w'.cell? ⟨gb226, 0, none⟩ = some (.bool false) ∧ w'.cell? ⟨gb226, 1, none⟩ = some (.slice none 0 0) ∧ w'.cell? ⟨gb226, 2, none⟩ = some (.slice Ao76 y262.length co76) ∧ w'.cell? ⟨gb226, 3, none⟩ = some (u227003)) (ds := [8]) #[false,false,false,false,false,false,false,false,false] (by kernel_rfl) rfl rfl ⟨(blk_cell BK226.out 0).trans rfl, (blk_cell BK226.out 1).trans rfl, (blk_cell BK226.out 2).trans rfl, (blk_cell BK226.out 3).trans rfl⟩ (fun hHeld => ?_); refine with_tabW node_Decode.tab21 node_Decode.bits21 (fun HT_ HW_ => ?_)
           generalize w78.drew = w79 at HO_227003 HO264 BK221 BK226 HI225 HB hHeld ⊢
           refine pure_ (i := 0) (N := some 60) (v := ?_) (a' := ?_) #[true,false,false,false,false,false,false,false,false] rfl rfl (any_of HT_.out (by kernel_rfl)) (fun _ _ _ h => h) (Or.inl ⟨by rfl, ?_⟩) ?_ ?_
           rotate_left
           ·intro w'
            go_simp
            with_reducible rfl
           rotate_left
           ·simp only [Act.put, List.setIfInBounds_toArray, List.set_cons_zero, List.set_cons_succ, i64_w, i32_w]
            rfl
           refine pure_ (i := 2) (N := some 62) (v := ?_) (a' := ?_) #[true,false,true,false,false,false,false,false,false] rfl rfl (any_of HT_.out (by kernel_rfl)) (fun _ _ _ h => h) (Or.inl ⟨by rfl, ?_⟩) ?_ ?_
           rotate_left
           ·intro w'
            go_simp
            with_reducible rfl
           rotate_left
           ·simp only [Act.put, List.setIfInBounds_toArray, List.set_cons_zero, List.set_cons_succ, i64_w, i32_w]
            rfl
           refine take_ (i := 1) (N := some 61) (v := ?_) (a' := ?_) #[true,true,true,false,false,false,false,false,false] rfl rfl (take_ofW HT_.out HW_.out (by kernel_rfl)) (fun _ _ _ h => h) (Or.inl ⟨by rfl, ?_⟩) hHeld ?_ ?_
           rotate_left
           ·rintro w' ⟨s0, s1, s2, s3⟩
            go_simp
            with_reducible rfl
           rotate_left
           ·simp only [Act.put, List.setIfInBounds_toArray, List.set_cons_zero, List.set_cons_succ, i64_w, i32_w]
            rfl
           refine one_ (i := 3) (N := some 63) #[true,true,true,true,false,false,false,false,false] rfl rfl (one_of HT_.out (by kernel_rfl)) (by decide) (fun K hK => ?_)
           refine goes_ Try.func100 (by kernel_rfl) rfl #[.pointer (some ⟨g225, 0, none⟩), .int .i64 4] (by rfl) rfl rfl (by (try simp only [List.map_toArray, List.map_cons, List.map_nil]); first | done | rfl | (simp only [List.length_drop, List.length_take]; rfl)) ?_
           with_reducible refine (wire_Reader_Fixed.calls k1 g225 t259 t260 t261 4 t265 t266 t267 t268 w _ ?side1 ?side2 A57.out).mono ?_
           (case side1 => repeat (first | (with_reducible first | exact HI225.out | apply IsS122.alloc | apply IsS122.drewN | apply IsS122.drew | apply IsS122.set_0 | apply IsS122.set_1 | apply IsS122.set_2 | refine IsS122.far ?_ NB225_221.out _ | refine IsS122.far ?_ NB225_226.out _) | exact HI225.out))
           (case side2 => repeat (first | (with_reducible first | exact HB.out | apply below_alloc | apply pw_below_drewN | apply below_drew1 | refine below_set ?_ (IsS122.ge HI225.out) | refine below_set ?_ GE221.out | refine below_set ?_ GE226.out) | exact HB.out))
           rintro e w80 ⟨rfl, hi, hb, hk⟩
           refine ⟨_, rfl, ?_⟩
           have n0_ := Aside0.mk (Kd.R_mono (Kd.R_keep (IsS122.apart (show IsS122 w _ g225 t259 t260 t261 from by repeat (first | (with_reducible first | exact HI225.out | apply IsS122.alloc | apply IsS122.drewN | apply IsS122.drew | apply IsS122.set_0 | apply IsS122.set_1 | apply IsS122.set_2 | refine IsS122.far ?_ NB225_221.out _ | refine IsS122.far ?_ NB225_226.out _) | exact HI225.out)) (by (with_reducible repeat (first | apply Kd.R_alloc | apply Kd.R_drewN | apply Kd.R_drew)); exact HO_227003.out) (by decide)) hk (fun _ h => h.2)) (fun _ h => h.1))
           have n1_ := Aside0.mk (KeepBut.blk hk (g' := gb221) (o := .cells #[.bool false, .slice none 0 0, .slice none 0 0, .slice none 0 0] 26 (0, 0)) (by (with_reducible repeat (first | refine blk_drewN ?_ _ | refine blk_drew ?_ | refine blk_alloc ?_ _)); exact BK221.out) NB221_225.out (by simp))
           have n2_ := Aside0.mk (KeepBut.blk hk (g' := gb226) (o := .cells #[.bool false, .slice none 0 0, .slice Ao76 y262.length co76, u227003] 26 (0, 0)) (by (with_reducible repeat (first | refine blk_drewN ?_ _ | refine blk_drew ?_ | refine blk_alloc ?_ _)); exact BK226.out) NB226_225.out (by simp))
           have n3_ := Aside0.mk (Kd.R_mono (Kd.R_keep (IsS122.apart (show IsS122 w _ g225 t259 t260 t261 from by repeat (first | (with_reducible first | exact HI225.out | apply IsS122.alloc | apply IsS122.drewN | apply IsS122.drew | apply IsS122.set_0 | apply IsS122.set_1 | apply IsS122.set_2 | refine IsS122.far ?_ NB225_221.out _ | refine IsS122.far ?_ NB225_226.out _) | exact HI225.out)) (by (with_reducible repeat (first | apply Kd.R_alloc | apply Kd.R_drewN | apply Kd.R_drew)); exact HO264.out) (by decide)) hk (fun _ h => h.2)) (fun _ h => h.1))
           have n4_ := Aside0.mk (hb)
           have n5_ := Aside0.mk (hi)
           clear HO_227003
           clear BK221
           clear BK226
           clear HO264
           clear HB
           clear HI225
           have HO_227003 := n0_
           have BK221 := n1_
           have BK226 := n2_
           have HO264 := n3_
           have HB := n4_
           have HI225 := n5_
           clear n0_ n1_ n2_ n3_ n4_ n5_
           (try clear hb)
           (try clear hb2)
           (try clear hk)
           (try clear hi)
           refine hK.out _ _ ⟨(blk_cell BK226.out 0).trans rfl, (blk_cell BK226.out 1).trans rfl, (blk_cell BK226.out 2).trans rfl, (blk_cell BK226.out 3).trans rfl⟩ (fun hHeld => ?_)
           clear hK K
           refine norm_ (a' := ?_) ?_ ?_
           rotate_left
           ·show Act.put _ (some 63) _ = _
            simp only [Act.put, List.setIfInBounds_toArray, List.set_cons_zero, List.set_cons_succ, i64_w, i32_w]
            rfl
           refine pure_ (i := 4) (N := some 64) (v := ?_) (a' := ?_) #[true,true,true,true,true,false,false,false,false] rfl rfl (any_of HT_.out (by kernel_rfl)) (fun _ _ _ h => h) (Or.inl ⟨by rfl, ?_⟩) ?_ ?_
           rotate_left
           ·intro w'
            go_simp
            with_reducible rfl
           rotate_left
           ·simp only [Act.put, List.setIfInBounds_toArray, List.set_cons_zero, List.set_cons_succ, i64_w, i32_w]
            rfl
           refine one_ (i := 5) (N := some 65) #[true,true,true,true,true,true,false,false,false] rfl rfl (one_of HT_.out (by kernel_rfl)) (by decide) (fun K hK => ?_)
           refine value_ (w1 := ?_) (v := ?_) (by rfl) rfl ?_ ?_
           rotate_left 2
           ·go_simp
            constructor
            ·rfl
            ·rfl
           refine hK.out _ _ ⟨(blk_cell (blk_alloc BK226.out _) 0).trans rfl, (blk_cell (blk_alloc BK226.out _) 1).trans rfl, (blk_cell (blk_alloc BK226.out _) 2).trans rfl, (blk_cell (blk_alloc BK226.out _) 3).trans rfl⟩ (fun hHeld => ?_)
           clear hK K
           refine norm_ (a' := ?_) ?_ ?_
           rotate_left
           ·show Act.put _ (some 65) _ = _
            simp only [Act.put, List.setIfInBounds_toArray, List.set_cons_zero, List.set_cons_succ, i64_w, i32_w]
            rfl
           refine one_ (i := 6) (N := some 66) #[true,true,true,true,true,true,true,false,false] rfl rfl (one_of HT_.out (by kernel_rfl)) (by decide) (fun K hK => ?_)
           refine Kd.R_append_step (Kd.int .u32) (w0 := w) w.heap.size (by rfl) (.tmp 61) (.tmp 65) 24 45 (.int .u32 0) 4 rfl Try.underlying24 info45 rfl (by decide) (by omega) u227003 x227003_1 ((t265) % 4294967296) [.int .u32 ((t265) % 4294967296)] (fun _ => True) (fun _ => False) rfl rfl ?aP (fun _ hk => hk.elim) ?aF ?aO ?aB ?aS ?aL ?_
           (case aP => exact rfl)
           (case aB => exact (by repeat (first | (with_reducible first | exact HB.out | apply below_alloc | apply pw_below_drewN | apply below_drew1 | refine below_set ?_ (IsS122.ge HI225.out) | refine below_set ?_ GE221.out | refine below_set ?_ GE226.out) | exact HB.out)))
           (case aF => exact (fun _ _ => trivial))
           (case aO => exact (by (with_reducible repeat (first | apply Kd.R_alloc | apply Kd.R_drewN | apply Kd.R_drew)); exact HO_227003.out))
           (case aS => exact (below_size (by repeat (first | (with_reducible first | exact HB.out | apply below_alloc | apply pw_below_drewN | apply below_drew1 | refine below_set ?_ (IsS122.ge HI225.out) | refine below_set ?_ GE221.out | refine below_set ?_ GE226.out) | exact HB.out))))
           (case aL => have := LMc58.out; omega)
           intro v270 w81 ho hb hg hat
           rw [← Ny269.out] at ho
           have n0_ := Aside0.mk (blk_grown (g := gb221) (o := .cells #[.bool false, .slice none 0 0, .slice none 0 0, .slice none 0 0] 26 (0, 0)) (by (with_reducible repeat (first | refine blk_drewN ?_ _ | refine blk_drew ?_ | refine blk_alloc ?_ _)); exact BK221.out) hg (Kd.R_ne HO_227003.out BK221.out (by decide)))
           have n1_ := Aside0.mk (blk_grown (g := gb226) (o := .cells #[.bool false, .slice none 0 0, .slice Ao76 y262.length co76, u227003] 26 (0, 0)) (by (with_reducible repeat (first | refine blk_drewN ?_ _ | refine blk_drew ?_ | refine blk_alloc ?_ _)); exact BK226.out) hg (Kd.R_ne HO_227003.out BK226.out (by decide)))
           have n2_ := Aside0.mk (IsS122.grown (by repeat (first | (with_reducible first | exact HI225.out | apply IsS122.alloc | apply IsS122.drewN | apply IsS122.drew | apply IsS122.set_0 | apply IsS122.set_1 | apply IsS122.set_2 | refine IsS122.far ?_ NB225_221.out _ | refine IsS122.far ?_ NB225_226.out _) | exact HI225.out)) hg (IsS122.own_ne HI225.out HO_227003.out (by decide)))
           have n3_ := Aside0.mk (Kd.R_over' (by (with_reducible repeat (first | apply Kd.R_alloc | apply Kd.R_drewN | apply Kd.R_drew)); exact HO264.out) (Kd.R_typed (by (with_reducible repeat (first | apply Kd.R_alloc | apply Kd.R_drewN | apply Kd.R_drew)); exact HO_227003.out)) (by decide) hg)
           have n4_ := Aside0.mk (hb)
           have n5_ := Aside0.mk (ho)
           clear BK221
           clear BK226
           clear HI225
           clear HO264
           clear HB
           clear HO_227003
           have BK221 := n0_
           have BK226 := n1_
           have HI225 := n2_
           have HO264 := n3_
           have HB := n4_
           have HO271 := n5_
           clear n0_ n1_ n2_ n3_ n4_ n5_
           clear ho hb hg hat
           obtain ⟨Ao82, co82, eo82⟩ := Kd.R_slice HO271.out
           (first | subst eo82 | (injection eo82 with f1_ f2_ f3_; have f4_ := f1_.symm; have f5_ := f3_.symm; clear f1_ f2_ f3_; subst f4_; subst f5_))
           refine hK.out _ _ ⟨(blk_cell BK226.out 0).trans rfl, (blk_cell BK226.out 1).trans rfl, (blk_cell BK226.out 2).trans rfl, (blk_cell BK226.out 3).trans rfl⟩ (fun hHeld => ?_)
           clear hK K
           refine norm_ (a' := ?_) ?_ ?_
           rotate_left
           ·show Act.put _ (some 66) _ = _
            simp only [Act.put, List.setIfInBounds_toArray, List.set_cons_zero, List.set_cons_succ, i64_w, i32_w]
            rfl
           refine pure_ (i := 7) (N := some 67) (v := ?_) (a' := ?_) #[true,true,true,true,true,true,true,true,false] rfl rfl (any_of HT_.out (by kernel_rfl)) (fun _ _ _ h => h) (Or.inl ⟨by rfl, ?_⟩) ?_ ?_
           rotate_left
           ·intro w'
            go_simp
            with_reducible rfl
           rotate_left
           ·simp only [Act.put, List.setIfInBounds_toArray, List.set_cons_zero, List.set_cons_succ, i64_w, i32_w]
            rfl
           refine last_ (i := 8) (N := none) #[true,true,true,true,true,true,true,true,true] rfl rfl (one_of HT_.out (by kernel_rfl)) (by decide) (fun K hK => ?_)
           have hs83 : w81.cell? ⟨gb226, 3, none⟩ = some (u227003) := (blk_cell BK226.out 3).trans rfl
           have hfs83 := blk_frozen BK226.out 3
           have hns83_0 := NB221_226.out
           have hms83_0 := NB226_221.out
           refine skip_ (w1 := ?_) (by rfl) rfl ?_ ?_
           rotate_left
           ·go_simp
            rfl
           refine hK.out _ _ ?_
           clear hK K
           refine done_ (done_of HT_.out (by kernel_rfl)) ?_
           try go_wp2_with (first | ((with_reducible refine gate_callee (f := 102) rfl ?_); refine goesL_ (some 69) rfl rfl Try.func102 (by kernel_rfl) rfl #[.pointer (some ⟨g225, 0, none⟩)] rfl (by (try simp only [List.map_toArray, List.map_cons, List.map_nil]); first | done | rfl | (simp only [List.length_drop, List.length_take]; rfl)) ?_; (with_reducible refine (wire_Reader_Err.calls g225 t266 t267 t268 t272 t273 t274 t275 w _ ?side1 ?side2 A59.out).mono ?_); (case side1 => repeat (first | (with_reducible first | exact HI225.out | apply IsS122.alloc | apply IsS122.drewN | apply IsS122.drew | apply IsS122.set_0 | apply IsS122.set_1 | apply IsS122.set_2 | refine IsS122.far ?_ NB225_221.out _ | refine IsS122.far ?_ NB225_226.out _) | exact HI225.out)); (case side2 => repeat (first | (with_reducible first | exact HB.out | apply below_alloc | apply pw_below_drewN | apply below_drew1 | refine below_set ?_ (IsS122.ge HI225.out) | refine below_set ?_ GE221.out | refine below_set ?_ GE226.out) | exact HB.out)); rintro e w84 ⟨rfl, hi, hb, hk⟩; refine ⟨_, rfl, ?_⟩; have n0_ := Aside0.mk (KeepBut.blk hk (g' := gb221) (o := .cells #[.bool false, .slice none 0 0, .slice none 0 0, .slice none 0 0] 26 (0, 0)) (by (with_reducible repeat (first | refine blk_drewN ?_ _ | refine blk_drew ?_ | refine blk_alloc ?_ _)); refine blk_far ?_ NB221_226.out _; (with_reducible repeat (first | refine blk_drewN ?_ _ | refine blk_drew ?_ | refine blk_alloc ?_ _)); exact BK221.out) NB221_225.out (by simp)); have n1_ := Aside0.mk (KeepBut.blk hk (g' := gb226) (o := .cells #[.bool false, .slice none 0 0, .slice Ao76 y262.length co76, .slice Ao82 y269.length co82] 26 (0, 0)) (by (with_reducible repeat (first | refine blk_drewN ?_ _ | refine blk_drew ?_ | refine blk_alloc ?_ _)); refine blk_put (cs := #[.bool false, .slice none 0 0, .slice Ao76 y262.length co76, u227003]) ?_ 3 _ rfl; (with_reducible repeat (first | refine blk_drewN ?_ _ | refine blk_drew ?_ | refine blk_alloc ?_ _)); exact BK226.out) NB226_225.out (by simp)); have n2_ := Aside0.mk (Kd.R_mono (Kd.R_keep (IsS122.apart (show IsS122 w _ g225 t266 t267 t268 from by repeat (first | (with_reducible first | exact HI225.out | apply IsS122.alloc | apply IsS122.drewN | apply IsS122.drew | apply IsS122.set_0 | apply IsS122.set_1 | apply IsS122.set_2 | refine IsS122.far ?_ NB225_221.out _ | refine IsS122.far ?_ NB225_226.out _) | exact HI225.out)) (by (with_reducible repeat (first | apply Kd.R_alloc | apply Kd.R_drewN | apply Kd.R_drew)); exact (Kd.R_mono (Kd.R_far (p := ⟨gb226, 3, none⟩) (Kd.R_types HO264.out BK226.out (by decide)) (fun _ hk => hk.2) (.slice Ao82 y269.length co82)) (fun _ h_ => h_.1))) (by decide)) hk (fun _ h => h.2)) (fun _ h => h.1)); have n3_ := Aside0.mk (Kd.R_mono (Kd.R_keep (IsS122.apart (show IsS122 w _ g225 t266 t267 t268 from by repeat (first | (with_reducible first | exact HI225.out | apply IsS122.alloc | apply IsS122.drewN | apply IsS122.drew | apply IsS122.set_0 | apply IsS122.set_1 | apply IsS122.set_2 | refine IsS122.far ?_ NB225_221.out _ | refine IsS122.far ?_ NB225_226.out _) | exact HI225.out)) (by (with_reducible repeat (first | apply Kd.R_alloc | apply Kd.R_drewN | apply Kd.R_drew)); exact (Kd.R_mono (Kd.R_far (p := ⟨gb226, 3, none⟩) (Kd.R_types HO271.out BK226.out (by decide)) (fun _ hk => hk.2) (.slice Ao82 y269.length co82)) (fun _ h_ => h_.1))) (by decide)) hk (fun _ h => h.2)) (fun _ h => h.1)); have n4_ := Aside0.mk (hb); have n5_ := Aside0.mk (hi); clear BK221; clear BK226; clear HO264; clear HO271; clear HB; clear HI225; have BK221 := n0_; have BK226 := n1_; have HO264 := n2_; have HO271 := n3_; have HB := n4_; have HI225 := n5_; clear n0_ n1_ n2_ n3_ n4_ n5_; (try clear hb); (try clear hb2); (try clear hk); (try clear hi)))
           go_meet
           case rel => exact ⟨_, (false), (t273), (t274), (t275), (false), (([] : List (S66))), (y262), (y269), (.slice none 0 0), (.slice Ao76 y262.length co76), (.slice Ao82 y269.length co82), H', ⟨by have := HK1.out; first | omega | exact Nat.le_refl _⟩, ⟨by first | exact Kd.R_nil _ _ _ _ _ | exact Kd.N_nil _ _ _ _ _ | exact Kd.V_nil _ _ _ _ _ | exact Kd.Q_nil _ _ _ _ _ | exact Kd.S_nil _ _ _ _ _⟩, ⟨by (with_reducible repeat (first | apply Kd.R_alloc | apply Kd.R_drewN | apply Kd.R_drew)); exact HO264.out⟩, ⟨by (with_reducible repeat (first | apply Kd.R_alloc | apply Kd.R_drewN | apply Kd.R_drew)); exact HO271.out⟩, ⟨by (with_reducible repeat (first | refine blk_drewN ?_ _ | refine blk_drew ?_ | refine blk_alloc ?_ _)); exact BK221.out⟩, ⟨by (with_reducible repeat (first | refine blk_drewN ?_ _ | refine blk_drew ?_ | refine blk_alloc ?_ _)); exact BK226.out⟩, ⟨by repeat (first | (with_reducible first | exact HI225.out | apply IsS122.alloc | apply IsS122.drewN | apply IsS122.drew | apply IsS122.set_0 | apply IsS122.set_1 | apply IsS122.set_2 | refine IsS122.far ?_ NB225_221.out _ | refine IsS122.far ?_ NB225_226.out _) | exact HI225.out)⟩, ⟨by repeat (first | (with_reducible first | exact HB.out | apply below_alloc | apply pw_below_drewN | apply below_drew1 | refine below_set ?_ (IsS122.ge HI225.out) | refine below_set ?_ GE221.out | refine below_set ?_ GE226.out) | exact HB.out)⟩⟩
         ·rw [if_neg c58] at H
          exact absurd H (by simp)
        ·rw [if_neg c56] at H
         exact absurd H (by simp)
       ·rw [if_neg c54] at H
        have c54b0 : decide (x51_1 < (wrap64 (t231))) = false := decide_eq_false c54
        clear c54
        have H' := Aside0.mk H
        clear H
        go_wp2
        go_meet
        case rel => exact ⟨_, (false), (x226000_1), (x226001_1), (x226002_1), (false), (([] : List (S66))), (x227002_1), (x227003_1), (.slice none 0 0), (u227002), (u227003), H', ⟨by have := HK1.out; first | omega | exact Nat.le_refl _⟩, ⟨by first | exact Kd.R_nil _ _ _ _ _ | exact Kd.N_nil _ _ _ _ _ | exact Kd.V_nil _ _ _ _ _ | exact Kd.Q_nil _ _ _ _ _ | exact Kd.S_nil _ _ _ _ _⟩, ⟨by (with_reducible repeat (first | apply Kd.R_alloc | apply Kd.R_drewN | apply Kd.R_drew)); exact HO_227002.out⟩, ⟨by (with_reducible repeat (first | apply Kd.R_alloc | apply Kd.R_drewN | apply Kd.R_drew)); exact HO_227003.out⟩, ⟨by (with_reducible repeat (first | refine blk_drewN ?_ _ | refine blk_drew ?_ | refine blk_alloc ?_ _)); exact BK221.out⟩, ⟨by (with_reducible repeat (first | refine blk_drewN ?_ _ | refine blk_drew ?_ | refine blk_alloc ?_ _)); exact BK226.out⟩, ⟨by repeat (first | (with_reducible first | exact HI225.out | apply IsS122.alloc | apply IsS122.drewN | apply IsS122.drew | apply IsS122.set_0 | apply IsS122.set_1 | apply IsS122.set_2 | refine IsS122.far ?_ NB225_221.out _ | refine IsS122.far ?_ NB225_226.out _) | exact HI225.out)⟩, ⟨by repeat (first | (with_reducible first | exact HB.out | apply below_alloc | apply pw_below_drewN | apply below_drew1 | refine below_set ?_ (IsS122.ge HI225.out) | refine below_set ?_ GE221.out | refine below_set ?_ GE226.out) | exact HB.out)⟩⟩
    ·rw [if_neg c48] at H
     exact absurd H (by simp)
   ·rw [if_neg c46] at H
    have c46b0 : (t227 == 2) = false := beq_eq_false_iff_ne.mpr c46
    have c46b1 : (t227 != 2) = true := bne_iff_ne.mpr c46
    simp only [Option.some.injEq, Prod.mk.injEq] at H
    obtain ⟨rfl, rfl, rfl, rfl, rfl⟩ := H
    have hnb85 := NB221_226.out
    have hnc85 := NB226_221.out
    have hnb86 := NB221_225.out
    have hnc86 := NB225_221.out
    have hcz87_0 : w10.cell? ⟨gb221, 0, none⟩ = some (.bool false) := (blk_cell BK221.out 0).trans rfl
    have hcz87_1 : w10.cell? ⟨gb221, 1, none⟩ = some (.slice none 0 0) := (blk_cell BK221.out 1).trans rfl
    have hcz87_2 : w10.cell? ⟨gb221, 2, none⟩ = some (.slice none 0 0) := (blk_cell BK221.out 2).trans rfl
    have hcz87_3 : w10.cell? ⟨gb221, 3, none⟩ = some (.slice none 0 0) := (blk_cell BK221.out 3).trans rfl
    have hfz87_0 := blk_frozen BK221.out 0
    have hfz87_1 := blk_frozen BK221.out 1
    have hfz87_2 := blk_frozen BK221.out 2
    have hfz87_3 := blk_frozen BK221.out 3
    go_wp2
    refine bodyPost_ret (results_ct rfl _ _ gb221 26 #[.bool false, .slice none 0 0, .slice none 0 0, .slice none 0 0] (0, 0) _ rfl (by (with_reducible repeat (first | refine blk_drewN ?_ _ | refine blk_drew ?_ | refine blk_alloc ?_ _)); refine blk_put (cs := #[.bool false, .slice none 0 0, .slice none 0 0, .slice none 0 0]) ?_ 3 _ rfl; (with_reducible repeat (first | refine blk_drewN ?_ _ | refine blk_drew ?_ | refine blk_alloc ?_ _)); refine blk_put (cs := #[.bool false, .slice none 0 0, .slice none 0 0, .slice none 0 0]) ?_ 2 _ rfl; (with_reducible repeat (first | refine blk_drewN ?_ _ | refine blk_drew ?_ | refine blk_alloc ?_ _)); refine blk_put (cs := #[.bool false, .slice none 0 0, .slice none 0 0, .slice none 0 0]) ?_ 1 _ rfl; (with_reducible repeat (first | refine blk_drewN ?_ _ | refine blk_drew ?_ | refine blk_alloc ?_ _)); refine blk_put (cs := #[.bool false, .slice none 0 0, .slice none 0 0, .slice none 0 0]) ?_ 0 _ rfl; (with_reducible repeat (first | refine blk_drewN ?_ _ | refine blk_drew ?_ | refine blk_alloc ?_ _)); exact BK221.out) Try.underlying26 rfl (by kernel_rfl)) rfl ?_
    exact ⟨_, _, _, by first | rfl | (simp [errW_none, errW_some] <;> rfl) | (simp [*, errW_none, errW_some] <;> rfl), by first | exact Kd.R_nil _ _ _ _ _ | exact Kd.N_nil _ _ _ _ _ | exact Kd.V_nil _ _ _ _ _ | exact Kd.Q_nil _ _ _ _ _ | exact Kd.S_nil _ _ _ _ _, by first | exact Kd.R_nil _ _ _ _ _ | exact Kd.N_nil _ _ _ _ _ | exact Kd.V_nil _ _ _ _ _ | exact Kd.Q_nil _ _ _ _ _ | exact Kd.S_nil _ _ _ _ _, by first | exact Kd.R_nil _ _ _ _ _ | exact Kd.N_nil _ _ _ _ _ | exact Kd.V_nil _ _ _ _ _ | exact Kd.Q_nil _ _ _ _ _ | exact Kd.S_nil _ _ _ _ _, by repeat (first | (with_reducible first | exact HB.out | apply below_alloc | apply pw_below_drewN | apply below_drew1 | refine below_set ?_ (IsS122.ge HI225.out) | refine below_set ?_ GE221.out | refine below_set ?_ GE226.out) | exact HB.out)⟩
 case rest =>
  clear HC5
  try clear c1
  try clear p2
  try clear c4
  try clear c5
  try clear c6
  try clear p6
  try clear c8
  try clear c10
  try clear c46
  try clear c46b0
  try clear c46b1
  try clear c48
  try clear c54
  try clear c54b0
  try clear c56
  try clear c58
  try clear c60
  try clear c60b0
  try clear c60b1
  try clear p64
  try clear c85
  try clear c86
  try clear hcz87_0
  try clear hcz87_1
  try clear hcz87_2
  try clear hcz87_3
  try clear hfz87_0
  try clear hfz87_1
  try clear hfz87_2
  try clear hfz87_3
  obtain ⟨kq, x222000_4, x226000_4, x226001_4, x226002_4, x227000_4, x227001_4, x227002_4, x227003_4, u227001, u227002, u227003, HA, HJ4, HO_227001, HO_227002, HO_227003, BK221, BK226, HI225, HB⟩ := hcut
  cases kq with
  | zero => exact absurd HA.out (by simp [node_Decode.j2])
  | succ kj4 =>
   have H := HA.out
   clear HA
   simp only [node_Decode.j2] at H
   replace H := Option.bind_eq_some_iff.mp H
   obtain ⟨⟨t276, t277, t278, t279⟩, A880, H⟩ := H
   replace H : (if t276 = 0 then (if (a0.size : Int) > 996 then (some (false, ([] : List (S66)), ([] : List ByteArray), ([] : List Int), 80)) else ((node_Check.f kj4 x227000_4 x227001_4 x227002_4 x227003_4).bind fun t280 => (if t280 = 0 then (some (x227000_4, x227001_4, x227002_4, x227003_4, 0)) else (some (false, ([] : List (S66)), ([] : List ByteArray), ([] : List Int), 80))))) else (some (false, ([] : List (S66)), ([] : List ByteArray), ([] : List Int), 80))) = some (r1, r2, r3, r4, r5) := H
   have A88 := Aside0.mk A880
   clear A880
   by_cases c89 : t276 = 0
   ·rw [if_pos c89] at H
    have c89b0 : (t276 == 0) = true := beq_iff_eq.mpr c89
    have c89b1 : (t276 != 0) = false := bne_eq_false_iff_eq.mpr c89
    clear c89
    by_cases c90 : (a0.size : Int) > 996
    ·rw [if_pos c90] at H
     have c90b0 : decide (996 < (a0.size : Int)) = true := decide_eq_true c90
     have c90b1 : decide (996 < a0.size) = true := decide_eq_true (by omega)
     clear c90
     simp only [Option.some.injEq, Prod.mk.injEq] at H
     obtain ⟨rfl, rfl, rfl, rfl, rfl⟩ := H
     go_wp2_with (first | ((with_reducible refine gate_callee (f := 103) rfl ?_); refine goesL_ (some 73) rfl rfl Try.func103 (by kernel_rfl) rfl #[.pointer (some ⟨g225, 0, none⟩)] rfl (by (try simp only [List.map_toArray, List.map_cons, List.map_nil]); first | done | rfl | (simp only [List.length_drop, List.length_take]; rfl)) ?_; (with_reducible refine (wire_Reader_End.calls g225 x226000_4 x226001_4 x226002_4 t276 t277 t278 t279 w _ ?side1 ?side2 A88.out).mono ?_); (case side1 => repeat (first | (with_reducible first | exact HI225.out | apply IsS122.alloc | apply IsS122.drewN | apply IsS122.drew | apply IsS122.set_0 | apply IsS122.set_1 | apply IsS122.set_2 | refine IsS122.far ?_ NB225_221.out _ | refine IsS122.far ?_ NB225_226.out _) | exact HI225.out)); (case side2 => repeat (first | (with_reducible first | exact HB.out | apply below_alloc | apply pw_below_drewN | apply below_drew1 | refine below_set ?_ (IsS122.ge HI225.out) | refine below_set ?_ GE221.out | refine below_set ?_ GE226.out) | exact HB.out)); rintro e w91 ⟨rfl, hi, hb, hk⟩; refine ⟨_, rfl, ?_⟩; have n0_ := Aside0.mk (Kd.R_mono (Kd.R_keep (IsS122.apart (show IsS122 w _ g225 x226000_4 x226001_4 x226002_4 from by repeat (first | (with_reducible first | exact HI225.out | apply IsS122.alloc | apply IsS122.drewN | apply IsS122.drew | apply IsS122.set_0 | apply IsS122.set_1 | apply IsS122.set_2 | refine IsS122.far ?_ NB225_221.out _ | refine IsS122.far ?_ NB225_226.out _) | exact HI225.out)) (by (with_reducible repeat (first | apply Kd.R_alloc | apply Kd.R_drewN | apply Kd.R_drew)); exact HO_227001.out) (by decide)) hk (fun _ h => h.2)) (fun _ h => h.1)); have n1_ := Aside0.mk (Kd.R_mono (Kd.R_keep (IsS122.apart (show IsS122 w _ g225 x226000_4 x226001_4 x226002_4 from by repeat (first | (with_reducible first | exact HI225.out | apply IsS122.alloc | apply IsS122.drewN | apply IsS122.drew | apply IsS122.set_0 | apply IsS122.set_1 | apply IsS122.set_2 | refine IsS122.far ?_ NB225_221.out _ | refine IsS122.far ?_ NB225_226.out _) | exact HI225.out)) (by (with_reducible repeat (first | apply Kd.R_alloc | apply Kd.R_drewN | apply Kd.R_drew)); exact HO_227002.out) (by decide)) hk (fun _ h => h.2)) (fun _ h => h.1)); have n2_ := Aside0.mk (Kd.R_mono (Kd.R_keep (IsS122.apart (show IsS122 w _ g225 x226000_4 x226001_4 x226002_4 from by repeat (first | (with_reducible first | exact HI225.out | apply IsS122.alloc | apply IsS122.drewN | apply IsS122.drew | apply IsS122.set_0 | apply IsS122.set_1 | apply IsS122.set_2 | refine IsS122.far ?_ NB225_221.out _ | refine IsS122.far ?_ NB225_226.out _) | exact HI225.out)) (by (with_reducible repeat (first | apply Kd.R_alloc | apply Kd.R_drewN | apply Kd.R_drew)); exact HO_227003.out) (by decide)) hk (fun _ h => h.2)) (fun _ h => h.1)); have n3_ := Aside0.mk (KeepBut.blk hk (g' := gb221) (o := .cells #[.bool x222000_4, .slice none 0 0, .slice none 0 0, .slice none 0 0] 26 (0, 0)) (by (with_reducible repeat (first | refine blk_drewN ?_ _ | refine blk_drew ?_ | refine blk_alloc ?_ _)); exact BK221.out) NB221_225.out (by simp)); have n4_ := Aside0.mk (KeepBut.blk hk (g' := gb226) (o := .cells #[.bool x227000_4, u227001, u227002, u227003] 26 (0, 0)) (by (with_reducible repeat (first | refine blk_drewN ?_ _ | refine blk_drew ?_ | refine blk_alloc ?_ _)); exact BK226.out) NB226_225.out (by simp)); have n5_ := Aside0.mk (hb); have n6_ := Aside0.mk (hi); clear HO_227001; clear HO_227002; clear HO_227003; clear BK221; clear BK226; clear HB; clear HI225; have HO_227001 := n0_; have HO_227002 := n1_; have HO_227003 := n2_; have BK221 := n3_; have BK226 := n4_; have HB := n5_; have HI225 := n6_; clear n0_ n1_ n2_ n3_ n4_ n5_ n6_; (try clear hb); (try clear hb2); (try clear hk); (try clear hi); have hnb92 := NB221_226.out; have hnc92 := NB226_221.out; have hnb93 := NB221_225.out; have hnc93 := NB225_221.out; have hcz94_0 : w91.cell? ⟨gb221, 0, none⟩ = some (.bool x222000_4) := (blk_cell BK221.out 0).trans rfl; have hcz94_1 : w91.cell? ⟨gb221, 1, none⟩ = some (.slice none 0 0) := (blk_cell BK221.out 1).trans rfl; have hcz94_2 : w91.cell? ⟨gb221, 2, none⟩ = some (.slice none 0 0) := (blk_cell BK221.out 2).trans rfl; have hcz94_3 : w91.cell? ⟨gb221, 3, none⟩ = some (.slice none 0 0) := (blk_cell BK221.out 3).trans rfl; have hfz94_0 := blk_frozen BK221.out 0; have hfz94_1 := blk_frozen BK221.out 1; have hfz94_2 := blk_frozen BK221.out 2; have hfz94_3 := blk_frozen BK221.out 3))
     refine bodyPost_ret (results_ct rfl _ _ gb221 26 #[.bool false, .slice none 0 0, .slice none 0 0, .slice none 0 0] (0, 0) _ rfl (by (with_reducible repeat (first | refine blk_drewN ?_ _ | refine blk_drew ?_ | refine blk_alloc ?_ _)); refine blk_put (cs := #[.bool false, .slice none 0 0, .slice none 0 0, .slice none 0 0]) ?_ 3 _ rfl; (with_reducible repeat (first | refine blk_drewN ?_ _ | refine blk_drew ?_ | refine blk_alloc ?_ _)); refine blk_put (cs := #[.bool false, .slice none 0 0, .slice none 0 0, .slice none 0 0]) ?_ 2 _ rfl; (with_reducible repeat (first | refine blk_drewN ?_ _ | refine blk_drew ?_ | refine blk_alloc ?_ _)); refine blk_put (cs := #[.bool false, .slice none 0 0, .slice none 0 0, .slice none 0 0]) ?_ 1 _ rfl; (with_reducible repeat (first | refine blk_drewN ?_ _ | refine blk_drew ?_ | refine blk_alloc ?_ _)); refine blk_put (cs := #[.bool x222000_4, .slice none 0 0, .slice none 0 0, .slice none 0 0]) ?_ 0 _ rfl; (with_reducible repeat (first | refine blk_drewN ?_ _ | refine blk_drew ?_ | refine blk_alloc ?_ _)); exact BK221.out) Try.underlying26 rfl (by kernel_rfl)) rfl ?_
     exact ⟨_, _, _, by first | rfl | (simp [errW_none, errW_some] <;> rfl) | (simp [*, errW_none, errW_some] <;> rfl), by first | exact Kd.R_nil _ _ _ _ _ | exact Kd.N_nil _ _ _ _ _ | exact Kd.V_nil _ _ _ _ _ | exact Kd.Q_nil _ _ _ _ _ | exact Kd.S_nil _ _ _ _ _, by first | exact Kd.R_nil _ _ _ _ _ | exact Kd.N_nil _ _ _ _ _ | exact Kd.V_nil _ _ _ _ _ | exact Kd.Q_nil _ _ _ _ _ | exact Kd.S_nil _ _ _ _ _, by first | exact Kd.R_nil _ _ _ _ _ | exact Kd.N_nil _ _ _ _ _ | exact Kd.V_nil _ _ _ _ _ | exact Kd.Q_nil _ _ _ _ _ | exact Kd.S_nil _ _ _ _ _, by repeat (first | (with_reducible first | exact HB.out | apply below_alloc | apply pw_below_drewN | apply below_drew1 | refine below_set ?_ (IsS122.ge HI225.out) | refine below_set ?_ GE221.out | refine below_set ?_ GE226.out) | exact HB.out)⟩
    ·rw [if_neg c90] at H
     have c90b0 : decide (996 < (a0.size : Int)) = false := decide_eq_false c90
     have c90b1 : decide (996 < a0.size) = false := decide_eq_false (by omega)
     clear c90
     replace H := Option.bind_eq_some_iff.mp H
     obtain ⟨t280, A950, H⟩ := H
     replace H : (if t280 = 0 then (some (x227000_4, x227001_4, x227002_4, x227003_4, 0)) else (some (false, ([] : List (S66)), ([] : List ByteArray), ([] : List Int), 80))) = some (r1, r2, r3, r4, r5) := H
     have A95 := Aside0.mk A950
     clear A950
     by_cases c96 : t280 = 0
     ·rw [if_pos c96] at H
      have c96b0 : (t280 == 0) = true := beq_iff_eq.mpr c96
      have c96b1 : (t280 != 0) = false := bne_eq_false_iff_eq.mpr c96
      clear c96
      simp only [Option.some.injEq, Prod.mk.injEq] at H
      obtain ⟨rfl, rfl, rfl, rfl, rfl⟩ := H
      go_wp2_with (first | ((with_reducible refine gate_callee (f := 103) rfl ?_); refine goesL_ (some 73) rfl rfl Try.func103 (by kernel_rfl) rfl #[.pointer (some ⟨g225, 0, none⟩)] rfl (by (try simp only [List.map_toArray, List.map_cons, List.map_nil]); first | done | rfl | (simp only [List.length_drop, List.length_take]; rfl)) ?_; (with_reducible refine (wire_Reader_End.calls g225 x226000_4 x226001_4 x226002_4 t276 t277 t278 t279 w _ ?side1 ?side2 A88.out).mono ?_); (case side1 => repeat (first | (with_reducible first | exact HI225.out | apply IsS122.alloc | apply IsS122.drewN | apply IsS122.drew | apply IsS122.set_0 | apply IsS122.set_1 | apply IsS122.set_2 | refine IsS122.far ?_ NB225_221.out _ | refine IsS122.far ?_ NB225_226.out _) | exact HI225.out)); (case side2 => repeat (first | (with_reducible first | exact HB.out | apply below_alloc | apply pw_below_drewN | apply below_drew1 | refine below_set ?_ (IsS122.ge HI225.out) | refine below_set ?_ GE221.out | refine below_set ?_ GE226.out) | exact HB.out)); rintro e w97 ⟨rfl, hi, hb, hk⟩; refine ⟨_, rfl, ?_⟩; have n0_ := Aside0.mk (Kd.R_mono (Kd.R_keep (IsS122.apart (show IsS122 w _ g225 x226000_4 x226001_4 x226002_4 from by repeat (first | (with_reducible first | exact HI225.out | apply IsS122.alloc | apply IsS122.drewN | apply IsS122.drew | apply IsS122.set_0 | apply IsS122.set_1 | apply IsS122.set_2 | refine IsS122.far ?_ NB225_221.out _ | refine IsS122.far ?_ NB225_226.out _) | exact HI225.out)) (by (with_reducible repeat (first | apply Kd.R_alloc | apply Kd.R_drewN | apply Kd.R_drew)); exact HO_227001.out) (by decide)) hk (fun _ h => h.2)) (fun _ h => h.1)); have n1_ := Aside0.mk (Kd.R_mono (Kd.R_keep (IsS122.apart (show IsS122 w _ g225 x226000_4 x226001_4 x226002_4 from by repeat (first | (with_reducible first | exact HI225.out | apply IsS122.alloc | apply IsS122.drewN | apply IsS122.drew | apply IsS122.set_0 | apply IsS122.set_1 | apply IsS122.set_2 | refine IsS122.far ?_ NB225_221.out _ | refine IsS122.far ?_ NB225_226.out _) | exact HI225.out)) (by (with_reducible repeat (first | apply Kd.R_alloc | apply Kd.R_drewN | apply Kd.R_drew)); exact HO_227002.out) (by decide)) hk (fun _ h => h.2)) (fun _ h => h.1)); have n2_ := Aside0.mk (Kd.R_mono (Kd.R_keep (IsS122.apart (show IsS122 w _ g225 x226000_4 x226001_4 x226002_4 from by repeat (first | (with_reducible first | exact HI225.out | apply IsS122.alloc | apply IsS122.drewN | apply IsS122.drew | apply IsS122.set_0 | apply IsS122.set_1 | apply IsS122.set_2 | refine IsS122.far ?_ NB225_221.out _ | refine IsS122.far ?_ NB225_226.out _) | exact HI225.out)) (by (with_reducible repeat (first | apply Kd.R_alloc | apply Kd.R_drewN | apply Kd.R_drew)); exact HO_227003.out) (by decide)) hk (fun _ h => h.2)) (fun _ h => h.1)); have n3_ := Aside0.mk (KeepBut.blk hk (g' := gb221) (o := .cells #[.bool x222000_4, .slice none 0 0, .slice none 0 0, .slice none 0 0] 26 (0, 0)) (by (with_reducible repeat (first | refine blk_drewN ?_ _ | refine blk_drew ?_ | refine blk_alloc ?_ _)); exact BK221.out) NB221_225.out (by simp)); have n4_ := Aside0.mk (KeepBut.blk hk (g' := gb226) (o := .cells #[.bool x227000_4, u227001, u227002, u227003] 26 (0, 0)) (by (with_reducible repeat (first | refine blk_drewN ?_ _ | refine blk_drew ?_ | refine blk_alloc ?_ _)); exact BK226.out) NB226_225.out (by simp)); have n5_ := Aside0.mk (hb); have n6_ := Aside0.mk (hi); clear HO_227001; clear HO_227002; clear HO_227003; clear BK221; clear BK226; clear HB; clear HI225; have HO_227001 := n0_; have HO_227002 := n1_; have HO_227003 := n2_; have BK221 := n3_; have BK226 := n4_; have HB := n5_; have HI225 := n6_; clear n0_ n1_ n2_ n3_ n4_ n5_ n6_; (try clear hb); (try clear hb2); (try clear hk); (try clear hi); have hnb98 := NB226_221.out; have hnc98 := NB221_226.out; have hnb99 := NB226_225.out; have hnc99 := NB225_226.out; have hcz100_0 : w97.cell? ⟨gb226, 0, none⟩ = some (.bool x227000_4) := (blk_cell BK226.out 0).trans rfl; have hcz100_1 : w97.cell? ⟨gb226, 1, none⟩ = some (u227001) := (blk_cell BK226.out 1).trans rfl; have hcz100_2 : w97.cell? ⟨gb226, 2, none⟩ = some (u227002) := (blk_cell BK226.out 2).trans rfl; have hcz100_3 : w97.cell? ⟨gb226, 3, none⟩ = some (u227003) := (blk_cell BK226.out 3).trans rfl; have hfz100_0 := blk_frozen BK226.out 0; have hfz100_1 := blk_frozen BK226.out 1; have hfz100_2 := blk_frozen BK226.out 2; have hfz100_3 := blk_frozen BK226.out 3; obtain ⟨Ao101, co101, eo101⟩ := Kd.R_slice HO_227001.out; subst eo101; obtain ⟨Ao102, co102, eo102⟩ := Kd.R_slice HO_227002.out; subst eo102; obtain ⟨Ao103, co103, eo103⟩ := Kd.R_slice HO_227003.out; subst eo103) | (go_at_call 32; (with_reducible refine (node_Check.calls kj4 x227000_4 _ _ x227001_4 _ _ x227002_4 _ _ x227003_4 t280 _ ?side1 ?side2 ?side3 ?side4 ?side5 ?side6 A95.out).mono ?_); (case side1 => repeat (first | exact (Kd.R_reads' HO_227001.out).2.2 | (with_reducible refine Kd.C_alloc ?_ _) | (with_reducible refine Kd.C_drewN ?_ _) | (with_reducible refine Kd.C_drew ?_))); (case side2 => exact (Kd.R_reads' HO_227001.out).2.1); (case side3 => repeat (first | exact (Kd.R_reads' HO_227002.out).2.2 | (with_reducible refine Kd.C_alloc ?_ _) | (with_reducible refine Kd.C_drewN ?_ _) | (with_reducible refine Kd.C_drew ?_))); (case side4 => exact (Kd.R_reads' HO_227002.out).2.1); (case side5 => repeat (first | exact (Kd.R_reads' HO_227003.out).2.2 | (with_reducible refine Kd.C_alloc ?_ _) | (with_reducible refine Kd.C_drewN ?_ _) | (with_reducible refine Kd.C_drew ?_))); (case side6 => exact (Kd.R_reads' HO_227003.out).2.1); rintro e w104 ⟨rfl, hb⟩; have n0_ := Aside0.mk (Kd.R_below (by (with_reducible repeat (first | apply Kd.R_alloc | apply Kd.R_drewN | apply Kd.R_drew)); exact HO_227001.out) hb); have n1_ := Aside0.mk (Kd.R_below (by (with_reducible repeat (first | apply Kd.R_alloc | apply Kd.R_drewN | apply Kd.R_drew)); exact HO_227002.out) hb); have n2_ := Aside0.mk (Kd.R_below (by (with_reducible repeat (first | apply Kd.R_alloc | apply Kd.R_drewN | apply Kd.R_drew)); exact HO_227003.out) hb); have n3_ := Aside0.mk (blk_below (g := gb221) (o := .cells #[.bool x222000_4, .slice none 0 0, .slice none 0 0, .slice none 0 0] 26 (0, 0)) (by (with_reducible repeat (first | refine blk_drewN ?_ _ | refine blk_drew ?_ | refine blk_alloc ?_ _)); exact BK221.out) hb); have n4_ := Aside0.mk (blk_below (g := gb226) (o := .cells #[.bool x227000_4, .slice Ao101 x227001_4.length co101, .slice Ao102 x227002_4.length co102, .slice Ao103 x227003_4.length co103] 26 (0, 0)) (by (with_reducible repeat (first | refine blk_drewN ?_ _ | refine blk_drew ?_ | refine blk_alloc ?_ _)); exact BK226.out) hb); have n5_ := Aside0.mk (IsS122.below (by repeat (first | (with_reducible first | exact HI225.out | apply IsS122.alloc | apply IsS122.drewN | apply IsS122.drew | apply IsS122.set_0 | apply IsS122.set_1 | apply IsS122.set_2 | refine IsS122.far ?_ NB225_221.out _ | refine IsS122.far ?_ NB225_226.out _) | exact HI225.out)) hb); have n6_ := Aside0.mk (below_step (by repeat (first | (with_reducible first | exact HB.out | apply below_alloc | apply pw_below_drewN | apply below_drew1 | refine below_set ?_ (IsS122.ge HI225.out) | refine below_set ?_ GE221.out | refine below_set ?_ GE226.out) | exact HB.out)) hb); clear HO_227001; clear HO_227002; clear HO_227003; clear BK221; clear BK226; clear HI225; clear HB; have HO_227001 := n0_; have HO_227002 := n1_; have HO_227003 := n2_; have BK221 := n3_; have BK226 := n4_; have HI225 := n5_; have HB := n6_; clear n0_ n1_ n2_ n3_ n4_ n5_ n6_; (try clear hb); (try clear hb2); (try clear hk); (try clear hi); have hcz105_0 : w104.cell? ⟨gb226, 0, none⟩ = some (.bool x227000_4) := (blk_cell BK226.out 0).trans rfl; have hcz105_1 : w104.cell? ⟨gb226, 1, none⟩ = some (.slice Ao101 x227001_4.length co101) := (blk_cell BK226.out 1).trans rfl; have hcz105_2 : w104.cell? ⟨gb226, 2, none⟩ = some (.slice Ao102 x227002_4.length co102) := (blk_cell BK226.out 2).trans rfl; have hcz105_3 : w104.cell? ⟨gb226, 3, none⟩ = some (.slice Ao103 x227003_4.length co103) := (blk_cell BK226.out 3).trans rfl; have hfz105_0 := blk_frozen BK226.out 0; have hfz105_1 := blk_frozen BK226.out 1; have hfz105_2 := blk_frozen BK226.out 2; have hfz105_3 := blk_frozen BK226.out 3; have hnb106 := NB221_225.out; have hnc106 := NB225_221.out; have hcz107_0 : w104.cell? ⟨gb221, 0, none⟩ = some (.bool x222000_4) := (blk_cell BK221.out 0).trans rfl; have hcz107_1 : w104.cell? ⟨gb221, 1, none⟩ = some (.slice none 0 0) := (blk_cell BK221.out 1).trans rfl; have hcz107_2 : w104.cell? ⟨gb221, 2, none⟩ = some (.slice none 0 0) := (blk_cell BK221.out 2).trans rfl; have hcz107_3 : w104.cell? ⟨gb221, 3, none⟩ = some (.slice none 0 0) := (blk_cell BK221.out 3).trans rfl; have hfz107_0 := blk_frozen BK221.out 0; have hfz107_1 := blk_frozen BK221.out 1; have hfz107_2 := blk_frozen BK221.out 2; have hfz107_3 := blk_frozen BK221.out 3))
      refine bodyPost_ret (results_ct rfl _ _ gb221 26 #[.bool x227000_4, .slice Ao101 x227001_4.length co101, .slice Ao102 x227002_4.length co102, .slice Ao103 x227003_4.length co103] (0, 0) _ rfl (by (with_reducible repeat (first | refine blk_drewN ?_ _ | refine blk_drew ?_ | refine blk_alloc ?_ _)); refine blk_put (cs := #[.bool x227000_4, .slice Ao101 x227001_4.length co101, .slice Ao102 x227002_4.length co102, .slice none 0 0]) ?_ 3 _ rfl; (with_reducible repeat (first | refine blk_drewN ?_ _ | refine blk_drew ?_ | refine blk_alloc ?_ _)); refine blk_put (cs := #[.bool x227000_4, .slice Ao101 x227001_4.length co101, .slice none 0 0, .slice none 0 0]) ?_ 2 _ rfl; (with_reducible repeat (first | refine blk_drewN ?_ _ | refine blk_drew ?_ | refine blk_alloc ?_ _)); refine blk_put (cs := #[.bool x227000_4, .slice none 0 0, .slice none 0 0, .slice none 0 0]) ?_ 1 _ rfl; (with_reducible repeat (first | refine blk_drewN ?_ _ | refine blk_drew ?_ | refine blk_alloc ?_ _)); refine blk_put (cs := #[.bool x222000_4, .slice none 0 0, .slice none 0 0, .slice none 0 0]) ?_ 0 _ rfl; (with_reducible repeat (first | refine blk_drewN ?_ _ | refine blk_drew ?_ | refine blk_alloc ?_ _)); exact BK221.out) Try.underlying26 rfl (by kernel_rfl)) rfl ?_
      exact ⟨_, _, _, by first | rfl | (simp [errW_none, errW_some] <;> rfl) | (simp [*, errW_none, errW_some] <;> rfl), by (with_reducible repeat (first | apply Kd.R_alloc | apply Kd.R_drewN | apply Kd.R_drew)); exact Kd.R_mono (Kd.R_far (p := ⟨gb221, 3, none⟩) (Kd.R_far (p := ⟨gb221, 2, none⟩) (Kd.R_far (p := ⟨gb221, 1, none⟩) (Kd.R_far (p := ⟨gb221, 0, none⟩) (Kd.R_types HO_227001.out BK221.out (by decide)) (fun _ hk => hk.2) (.bool x227000_4)) (fun _ hk => hk.2) (.slice Ao101 x227001_4.length co101)) (fun _ hk => hk.2) (.slice Ao102 x227002_4.length co102)) (fun _ hk => hk.2) (.slice Ao103 x227003_4.length co103)) (fun _ hk => trivial), by (with_reducible repeat (first | apply Kd.R_alloc | apply Kd.R_drewN | apply Kd.R_drew)); exact Kd.R_mono (Kd.R_far (p := ⟨gb221, 3, none⟩) (Kd.R_far (p := ⟨gb221, 2, none⟩) (Kd.R_far (p := ⟨gb221, 1, none⟩) (Kd.R_far (p := ⟨gb221, 0, none⟩) (Kd.R_types HO_227002.out BK221.out (by decide)) (fun _ hk => hk.2) (.bool x227000_4)) (fun _ hk => hk.2) (.slice Ao101 x227001_4.length co101)) (fun _ hk => hk.2) (.slice Ao102 x227002_4.length co102)) (fun _ hk => hk.2) (.slice Ao103 x227003_4.length co103)) (fun _ hk => trivial), by (with_reducible repeat (first | apply Kd.R_alloc | apply Kd.R_drewN | apply Kd.R_drew)); exact Kd.R_mono (Kd.R_far (p := ⟨gb221, 3, none⟩) (Kd.R_far (p := ⟨gb221, 2, none⟩) (Kd.R_far (p := ⟨gb221, 1, none⟩) (Kd.R_far (p := ⟨gb221, 0, none⟩) (Kd.R_types HO_227003.out BK221.out (by decide)) (fun _ hk => hk.2) (.bool x227000_4)) (fun _ hk => hk.2) (.slice Ao101 x227001_4.length co101)) (fun _ hk => hk.2) (.slice Ao102 x227002_4.length co102)) (fun _ hk => hk.2) (.slice Ao103 x227003_4.length co103)) (fun _ hk => trivial), by repeat (first | (with_reducible first | exact HB.out | apply below_alloc | apply pw_below_drewN | apply below_drew1 | refine below_set ?_ (IsS122.ge HI225.out) | refine below_set ?_ GE221.out | refine below_set ?_ GE226.out) | exact HB.out)⟩
     ·rw [if_neg c96] at H
      have c96b0 : (t280 == 0) = false := beq_eq_false_iff_ne.mpr c96
      have c96b1 : (t280 != 0) = true := bne_iff_ne.mpr c96
      simp only [Option.some.injEq, Prod.mk.injEq] at H
      obtain ⟨rfl, rfl, rfl, rfl, rfl⟩ := H
      go_wp2_with (first | ((with_reducible refine gate_callee (f := 103) rfl ?_); refine goesL_ (some 73) rfl rfl Try.func103 (by kernel_rfl) rfl #[.pointer (some ⟨g225, 0, none⟩)] rfl (by (try simp only [List.map_toArray, List.map_cons, List.map_nil]); first | done | rfl | (simp only [List.length_drop, List.length_take]; rfl)) ?_; (with_reducible refine (wire_Reader_End.calls g225 x226000_4 x226001_4 x226002_4 t276 t277 t278 t279 w _ ?side1 ?side2 A88.out).mono ?_); (case side1 => repeat (first | (with_reducible first | exact HI225.out | apply IsS122.alloc | apply IsS122.drewN | apply IsS122.drew | apply IsS122.set_0 | apply IsS122.set_1 | apply IsS122.set_2 | refine IsS122.far ?_ NB225_221.out _ | refine IsS122.far ?_ NB225_226.out _) | exact HI225.out)); (case side2 => repeat (first | (with_reducible first | exact HB.out | apply below_alloc | apply pw_below_drewN | apply below_drew1 | refine below_set ?_ (IsS122.ge HI225.out) | refine below_set ?_ GE221.out | refine below_set ?_ GE226.out) | exact HB.out)); rintro e w108 ⟨rfl, hi, hb, hk⟩; refine ⟨_, rfl, ?_⟩; have n0_ := Aside0.mk (Kd.R_mono (Kd.R_keep (IsS122.apart (show IsS122 w _ g225 x226000_4 x226001_4 x226002_4 from by repeat (first | (with_reducible first | exact HI225.out | apply IsS122.alloc | apply IsS122.drewN | apply IsS122.drew | apply IsS122.set_0 | apply IsS122.set_1 | apply IsS122.set_2 | refine IsS122.far ?_ NB225_221.out _ | refine IsS122.far ?_ NB225_226.out _) | exact HI225.out)) (by (with_reducible repeat (first | apply Kd.R_alloc | apply Kd.R_drewN | apply Kd.R_drew)); exact HO_227001.out) (by decide)) hk (fun _ h => h.2)) (fun _ h => h.1)); have n1_ := Aside0.mk (Kd.R_mono (Kd.R_keep (IsS122.apart (show IsS122 w _ g225 x226000_4 x226001_4 x226002_4 from by repeat (first | (with_reducible first | exact HI225.out | apply IsS122.alloc | apply IsS122.drewN | apply IsS122.drew | apply IsS122.set_0 | apply IsS122.set_1 | apply IsS122.set_2 | refine IsS122.far ?_ NB225_221.out _ | refine IsS122.far ?_ NB225_226.out _) | exact HI225.out)) (by (with_reducible repeat (first | apply Kd.R_alloc | apply Kd.R_drewN | apply Kd.R_drew)); exact HO_227002.out) (by decide)) hk (fun _ h => h.2)) (fun _ h => h.1)); have n2_ := Aside0.mk (Kd.R_mono (Kd.R_keep (IsS122.apart (show IsS122 w _ g225 x226000_4 x226001_4 x226002_4 from by repeat (first | (with_reducible first | exact HI225.out | apply IsS122.alloc | apply IsS122.drewN | apply IsS122.drew | apply IsS122.set_0 | apply IsS122.set_1 | apply IsS122.set_2 | refine IsS122.far ?_ NB225_221.out _ | refine IsS122.far ?_ NB225_226.out _) | exact HI225.out)) (by (with_reducible repeat (first | apply Kd.R_alloc | apply Kd.R_drewN | apply Kd.R_drew)); exact HO_227003.out) (by decide)) hk (fun _ h => h.2)) (fun _ h => h.1)); have n3_ := Aside0.mk (KeepBut.blk hk (g' := gb221) (o := .cells #[.bool x222000_4, .slice none 0 0, .slice none 0 0, .slice none 0 0] 26 (0, 0)) (by (with_reducible repeat (first | refine blk_drewN ?_ _ | refine blk_drew ?_ | refine blk_alloc ?_ _)); exact BK221.out) NB221_225.out (by simp)); have n4_ := Aside0.mk (KeepBut.blk hk (g' := gb226) (o := .cells #[.bool x227000_4, u227001, u227002, u227003] 26 (0, 0)) (by (with_reducible repeat (first | refine blk_drewN ?_ _ | refine blk_drew ?_ | refine blk_alloc ?_ _)); exact BK226.out) NB226_225.out (by simp)); have n5_ := Aside0.mk (hb); have n6_ := Aside0.mk (hi); clear HO_227001; clear HO_227002; clear HO_227003; clear BK221; clear BK226; clear HB; clear HI225; have HO_227001 := n0_; have HO_227002 := n1_; have HO_227003 := n2_; have BK221 := n3_; have BK226 := n4_; have HB := n5_; have HI225 := n6_; clear n0_ n1_ n2_ n3_ n4_ n5_ n6_; (try clear hb); (try clear hb2); (try clear hk); (try clear hi); have hnb109 := NB226_221.out; have hnc109 := NB221_226.out; have hnb110 := NB226_225.out; have hnc110 := NB225_226.out; have hcz111_0 : w108.cell? ⟨gb226, 0, none⟩ = some (.bool x227000_4) := (blk_cell BK226.out 0).trans rfl; have hcz111_1 : w108.cell? ⟨gb226, 1, none⟩ = some (u227001) := (blk_cell BK226.out 1).trans rfl; have hcz111_2 : w108.cell? ⟨gb226, 2, none⟩ = some (u227002) := (blk_cell BK226.out 2).trans rfl; have hcz111_3 : w108.cell? ⟨gb226, 3, none⟩ = some (u227003) := (blk_cell BK226.out 3).trans rfl; have hfz111_0 := blk_frozen BK226.out 0; have hfz111_1 := blk_frozen BK226.out 1; have hfz111_2 := blk_frozen BK226.out 2; have hfz111_3 := blk_frozen BK226.out 3; obtain ⟨Ao112, co112, eo112⟩ := Kd.R_slice HO_227001.out; subst eo112; obtain ⟨Ao113, co113, eo113⟩ := Kd.R_slice HO_227002.out; subst eo113; obtain ⟨Ao114, co114, eo114⟩ := Kd.R_slice HO_227003.out; subst eo114) | (go_at_call 32; (with_reducible refine (node_Check.calls kj4 x227000_4 _ _ x227001_4 _ _ x227002_4 _ _ x227003_4 t280 _ ?side1 ?side2 ?side3 ?side4 ?side5 ?side6 A95.out).mono ?_); (case side1 => repeat (first | exact (Kd.R_reads' HO_227001.out).2.2 | (with_reducible refine Kd.C_alloc ?_ _) | (with_reducible refine Kd.C_drewN ?_ _) | (with_reducible refine Kd.C_drew ?_))); (case side2 => exact (Kd.R_reads' HO_227001.out).2.1); (case side3 => repeat (first | exact (Kd.R_reads' HO_227002.out).2.2 | (with_reducible refine Kd.C_alloc ?_ _) | (with_reducible refine Kd.C_drewN ?_ _) | (with_reducible refine Kd.C_drew ?_))); (case side4 => exact (Kd.R_reads' HO_227002.out).2.1); (case side5 => repeat (first | exact (Kd.R_reads' HO_227003.out).2.2 | (with_reducible refine Kd.C_alloc ?_ _) | (with_reducible refine Kd.C_drewN ?_ _) | (with_reducible refine Kd.C_drew ?_))); (case side6 => exact (Kd.R_reads' HO_227003.out).2.1); rintro e w115 ⟨rfl, hb⟩; have n0_ := Aside0.mk (Kd.R_below (by (with_reducible repeat (first | apply Kd.R_alloc | apply Kd.R_drewN | apply Kd.R_drew)); exact HO_227001.out) hb); have n1_ := Aside0.mk (Kd.R_below (by (with_reducible repeat (first | apply Kd.R_alloc | apply Kd.R_drewN | apply Kd.R_drew)); exact HO_227002.out) hb); have n2_ := Aside0.mk (Kd.R_below (by (with_reducible repeat (first | apply Kd.R_alloc | apply Kd.R_drewN | apply Kd.R_drew)); exact HO_227003.out) hb); have n3_ := Aside0.mk (blk_below (g := gb221) (o := .cells #[.bool x222000_4, .slice none 0 0, .slice none 0 0, .slice none 0 0] 26 (0, 0)) (by (with_reducible repeat (first | refine blk_drewN ?_ _ | refine blk_drew ?_ | refine blk_alloc ?_ _)); exact BK221.out) hb); have n4_ := Aside0.mk (blk_below (g := gb226) (o := .cells #[.bool x227000_4, .slice Ao112 x227001_4.length co112, .slice Ao113 x227002_4.length co113, .slice Ao114 x227003_4.length co114] 26 (0, 0)) (by (with_reducible repeat (first | refine blk_drewN ?_ _ | refine blk_drew ?_ | refine blk_alloc ?_ _)); exact BK226.out) hb); have n5_ := Aside0.mk (IsS122.below (by repeat (first | (with_reducible first | exact HI225.out | apply IsS122.alloc | apply IsS122.drewN | apply IsS122.drew | apply IsS122.set_0 | apply IsS122.set_1 | apply IsS122.set_2 | refine IsS122.far ?_ NB225_221.out _ | refine IsS122.far ?_ NB225_226.out _) | exact HI225.out)) hb); have n6_ := Aside0.mk (below_step (by repeat (first | (with_reducible first | exact HB.out | apply below_alloc | apply pw_below_drewN | apply below_drew1 | refine below_set ?_ (IsS122.ge HI225.out) | refine below_set ?_ GE221.out | refine below_set ?_ GE226.out) | exact HB.out)) hb); clear HO_227001; clear HO_227002; clear HO_227003; clear BK221; clear BK226; clear HI225; clear HB; have HO_227001 := n0_; have HO_227002 := n1_; have HO_227003 := n2_; have BK221 := n3_; have BK226 := n4_; have HI225 := n5_; have HB := n6_; clear n0_ n1_ n2_ n3_ n4_ n5_ n6_; (try clear hb); (try clear hb2); (try clear hk); (try clear hi); have hnb116 := NB221_225.out; have hnc116 := NB225_221.out; have hcz117_0 : w115.cell? ⟨gb221, 0, none⟩ = some (.bool x222000_4) := (blk_cell BK221.out 0).trans rfl; have hcz117_1 : w115.cell? ⟨gb221, 1, none⟩ = some (.slice none 0 0) := (blk_cell BK221.out 1).trans rfl; have hcz117_2 : w115.cell? ⟨gb221, 2, none⟩ = some (.slice none 0 0) := (blk_cell BK221.out 2).trans rfl; have hcz117_3 : w115.cell? ⟨gb221, 3, none⟩ = some (.slice none 0 0) := (blk_cell BK221.out 3).trans rfl; have hfz117_0 := blk_frozen BK221.out 0; have hfz117_1 := blk_frozen BK221.out 1; have hfz117_2 := blk_frozen BK221.out 2; have hfz117_3 := blk_frozen BK221.out 3))
      refine bodyPost_ret (results_ct rfl _ _ gb221 26 #[.bool false, .slice none 0 0, .slice none 0 0, .slice none 0 0] (0, 0) _ rfl (by (with_reducible repeat (first | refine blk_drewN ?_ _ | refine blk_drew ?_ | refine blk_alloc ?_ _)); refine blk_put (cs := #[.bool false, .slice none 0 0, .slice none 0 0, .slice none 0 0]) ?_ 3 _ rfl; (with_reducible repeat (first | refine blk_drewN ?_ _ | refine blk_drew ?_ | refine blk_alloc ?_ _)); refine blk_put (cs := #[.bool false, .slice none 0 0, .slice none 0 0, .slice none 0 0]) ?_ 2 _ rfl; (with_reducible repeat (first | refine blk_drewN ?_ _ | refine blk_drew ?_ | refine blk_alloc ?_ _)); refine blk_put (cs := #[.bool false, .slice none 0 0, .slice none 0 0, .slice none 0 0]) ?_ 1 _ rfl; (with_reducible repeat (first | refine blk_drewN ?_ _ | refine blk_drew ?_ | refine blk_alloc ?_ _)); refine blk_put (cs := #[.bool x222000_4, .slice none 0 0, .slice none 0 0, .slice none 0 0]) ?_ 0 _ rfl; (with_reducible repeat (first | refine blk_drewN ?_ _ | refine blk_drew ?_ | refine blk_alloc ?_ _)); exact BK221.out) Try.underlying26 rfl (by kernel_rfl)) rfl ?_
      exact ⟨_, _, _, by first | rfl | (simp [errW_none, errW_some] <;> rfl) | (simp [*, errW_none, errW_some] <;> rfl), by first | exact Kd.R_nil _ _ _ _ _ | exact Kd.N_nil _ _ _ _ _ | exact Kd.V_nil _ _ _ _ _ | exact Kd.Q_nil _ _ _ _ _ | exact Kd.S_nil _ _ _ _ _, by first | exact Kd.R_nil _ _ _ _ _ | exact Kd.N_nil _ _ _ _ _ | exact Kd.V_nil _ _ _ _ _ | exact Kd.Q_nil _ _ _ _ _ | exact Kd.S_nil _ _ _ _ _, by first | exact Kd.R_nil _ _ _ _ _ | exact Kd.N_nil _ _ _ _ _ | exact Kd.V_nil _ _ _ _ _ | exact Kd.Q_nil _ _ _ _ _ | exact Kd.S_nil _ _ _ _ _, by repeat (first | (with_reducible first | exact HB.out | apply below_alloc | apply pw_below_drewN | apply below_drew1 | refine below_set ?_ (IsS122.ge HI225.out) | refine below_set ?_ GE221.out | refine below_set ?_ GE226.out) | exact HB.out)⟩
   ·rw [if_neg c89] at H
    have c89b0 : (t276 == 0) = false := beq_eq_false_iff_ne.mpr c89
    have c89b1 : (t276 != 0) = true := bne_iff_ne.mpr c89
    simp only [Option.some.injEq, Prod.mk.injEq] at H
    obtain ⟨rfl, rfl, rfl, rfl, rfl⟩ := H
    go_wp2_with (first | ((with_reducible refine gate_callee (f := 103) rfl ?_); refine goesL_ (some 73) rfl rfl Try.func103 (by kernel_rfl) rfl #[.pointer (some ⟨g225, 0, none⟩)] rfl (by (try simp only [List.map_toArray, List.map_cons, List.map_nil]); first | done | rfl | (simp only [List.length_drop, List.length_take]; rfl)) ?_; (with_reducible refine (wire_Reader_End.calls g225 x226000_4 x226001_4 x226002_4 t276 t277 t278 t279 w _ ?side1 ?side2 A88.out).mono ?_); (case side1 => repeat (first | (with_reducible first | exact HI225.out | apply IsS122.alloc | apply IsS122.drewN | apply IsS122.drew | apply IsS122.set_0 | apply IsS122.set_1 | apply IsS122.set_2 | refine IsS122.far ?_ NB225_221.out _ | refine IsS122.far ?_ NB225_226.out _) | exact HI225.out)); (case side2 => repeat (first | (with_reducible first | exact HB.out | apply below_alloc | apply pw_below_drewN | apply below_drew1 | refine below_set ?_ (IsS122.ge HI225.out) | refine below_set ?_ GE221.out | refine below_set ?_ GE226.out) | exact HB.out)); rintro e w118 ⟨rfl, hi, hb, hk⟩; refine ⟨_, rfl, ?_⟩; have n0_ := Aside0.mk (Kd.R_mono (Kd.R_keep (IsS122.apart (show IsS122 w _ g225 x226000_4 x226001_4 x226002_4 from by repeat (first | (with_reducible first | exact HI225.out | apply IsS122.alloc | apply IsS122.drewN | apply IsS122.drew | apply IsS122.set_0 | apply IsS122.set_1 | apply IsS122.set_2 | refine IsS122.far ?_ NB225_221.out _ | refine IsS122.far ?_ NB225_226.out _) | exact HI225.out)) (by (with_reducible repeat (first | apply Kd.R_alloc | apply Kd.R_drewN | apply Kd.R_drew)); exact HO_227001.out) (by decide)) hk (fun _ h => h.2)) (fun _ h => h.1)); have n1_ := Aside0.mk (Kd.R_mono (Kd.R_keep (IsS122.apart (show IsS122 w _ g225 x226000_4 x226001_4 x226002_4 from by repeat (first | (with_reducible first | exact HI225.out | apply IsS122.alloc | apply IsS122.drewN | apply IsS122.drew | apply IsS122.set_0 | apply IsS122.set_1 | apply IsS122.set_2 | refine IsS122.far ?_ NB225_221.out _ | refine IsS122.far ?_ NB225_226.out _) | exact HI225.out)) (by (with_reducible repeat (first | apply Kd.R_alloc | apply Kd.R_drewN | apply Kd.R_drew)); exact HO_227002.out) (by decide)) hk (fun _ h => h.2)) (fun _ h => h.1)); have n2_ := Aside0.mk (Kd.R_mono (Kd.R_keep (IsS122.apart (show IsS122 w _ g225 x226000_4 x226001_4 x226002_4 from by repeat (first | (with_reducible first | exact HI225.out | apply IsS122.alloc | apply IsS122.drewN | apply IsS122.drew | apply IsS122.set_0 | apply IsS122.set_1 | apply IsS122.set_2 | refine IsS122.far ?_ NB225_221.out _ | refine IsS122.far ?_ NB225_226.out _) | exact HI225.out)) (by (with_reducible repeat (first | apply Kd.R_alloc | apply Kd.R_drewN | apply Kd.R_drew)); exact HO_227003.out) (by decide)) hk (fun _ h => h.2)) (fun _ h => h.1)); have n3_ := Aside0.mk (KeepBut.blk hk (g' := gb221) (o := .cells #[.bool x222000_4, .slice none 0 0, .slice none 0 0, .slice none 0 0] 26 (0, 0)) (by (with_reducible repeat (first | refine blk_drewN ?_ _ | refine blk_drew ?_ | refine blk_alloc ?_ _)); exact BK221.out) NB221_225.out (by simp)); have n4_ := Aside0.mk (KeepBut.blk hk (g' := gb226) (o := .cells #[.bool x227000_4, u227001, u227002, u227003] 26 (0, 0)) (by (with_reducible repeat (first | refine blk_drewN ?_ _ | refine blk_drew ?_ | refine blk_alloc ?_ _)); exact BK226.out) NB226_225.out (by simp)); have n5_ := Aside0.mk (hb); have n6_ := Aside0.mk (hi); clear HO_227001; clear HO_227002; clear HO_227003; clear BK221; clear BK226; clear HB; clear HI225; have HO_227001 := n0_; have HO_227002 := n1_; have HO_227003 := n2_; have BK221 := n3_; have BK226 := n4_; have HB := n5_; have HI225 := n6_; clear n0_ n1_ n2_ n3_ n4_ n5_ n6_; (try clear hb); (try clear hb2); (try clear hk); (try clear hi); have hnb119 := NB221_226.out; have hnc119 := NB226_221.out; have hnb120 := NB221_225.out; have hnc120 := NB225_221.out; have hcz121_0 : w118.cell? ⟨gb221, 0, none⟩ = some (.bool x222000_4) := (blk_cell BK221.out 0).trans rfl; have hcz121_1 : w118.cell? ⟨gb221, 1, none⟩ = some (.slice none 0 0) := (blk_cell BK221.out 1).trans rfl; have hcz121_2 : w118.cell? ⟨gb221, 2, none⟩ = some (.slice none 0 0) := (blk_cell BK221.out 2).trans rfl; have hcz121_3 : w118.cell? ⟨gb221, 3, none⟩ = some (.slice none 0 0) := (blk_cell BK221.out 3).trans rfl; have hfz121_0 := blk_frozen BK221.out 0; have hfz121_1 := blk_frozen BK221.out 1; have hfz121_2 := blk_frozen BK221.out 2; have hfz121_3 := blk_frozen BK221.out 3))
    refine bodyPost_ret (results_ct rfl _ _ gb221 26 #[.bool false, .slice none 0 0, .slice none 0 0, .slice none 0 0] (0, 0) _ rfl (by (with_reducible repeat (first | refine blk_drewN ?_ _ | refine blk_drew ?_ | refine blk_alloc ?_ _)); refine blk_put (cs := #[.bool false, .slice none 0 0, .slice none 0 0, .slice none 0 0]) ?_ 3 _ rfl; (with_reducible repeat (first | refine blk_drewN ?_ _ | refine blk_drew ?_ | refine blk_alloc ?_ _)); refine blk_put (cs := #[.bool false, .slice none 0 0, .slice none 0 0, .slice none 0 0]) ?_ 2 _ rfl; (with_reducible repeat (first | refine blk_drewN ?_ _ | refine blk_drew ?_ | refine blk_alloc ?_ _)); refine blk_put (cs := #[.bool false, .slice none 0 0, .slice none 0 0, .slice none 0 0]) ?_ 1 _ rfl; (with_reducible repeat (first | refine blk_drewN ?_ _ | refine blk_drew ?_ | refine blk_alloc ?_ _)); refine blk_put (cs := #[.bool x222000_4, .slice none 0 0, .slice none 0 0, .slice none 0 0]) ?_ 0 _ rfl; (with_reducible repeat (first | refine blk_drewN ?_ _ | refine blk_drew ?_ | refine blk_alloc ?_ _)); exact BK221.out) Try.underlying26 rfl (by kernel_rfl)) rfl ?_
    exact ⟨_, _, _, by first | rfl | (simp [errW_none, errW_some] <;> rfl) | (simp [*, errW_none, errW_some] <;> rfl), by first | exact Kd.R_nil _ _ _ _ _ | exact Kd.N_nil _ _ _ _ _ | exact Kd.V_nil _ _ _ _ _ | exact Kd.Q_nil _ _ _ _ _ | exact Kd.S_nil _ _ _ _ _, by first | exact Kd.R_nil _ _ _ _ _ | exact Kd.N_nil _ _ _ _ _ | exact Kd.V_nil _ _ _ _ _ | exact Kd.Q_nil _ _ _ _ _ | exact Kd.S_nil _ _ _ _ _, by first | exact Kd.R_nil _ _ _ _ _ | exact Kd.N_nil _ _ _ _ _ | exact Kd.V_nil _ _ _ _ _ | exact Kd.Q_nil _ _ _ _ _ | exact Kd.S_nil _ _ _ _ _, by repeat (first | (with_reducible first | exact HB.out | apply below_alloc | apply pw_below_drewN | apply below_drew1 | refine below_set ?_ (IsS122.ge HI225.out) | refine below_set ?_ GE221.out | refine below_set ?_ GE226.out) | exact HB.out)⟩

end Go.Proofs.Ytdjjpgdhnoibkaa.PD
