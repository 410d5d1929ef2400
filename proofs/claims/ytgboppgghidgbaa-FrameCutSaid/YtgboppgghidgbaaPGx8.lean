-- written by wip/mp.py of this claim's author, over the print of this machine
import Derived.Test.YtgboppgghidgbaaPGx0
import Derived.Test.YtgboppgghidgbaaPGx1
import Derived.Test.YtgboppgghidgbaaPGx5
namespace Go.Proofs.Ytgboppgghidgbaa.PG
open Go.Proofs.Ytgboppgghidgbaa.My
open Go.RowKit Go.Proofs.YtgboppgghidgbaaW.PrintWords Go.Proofs.YtgboppgghidgbaaW.PrintLast Go.Proofs.YtgboppgghidgbaaW.PrintMore
attribute [local go_sem] max2_int min2_int max_two min_two max_three min_three max_four min_four   -- for this text's walks alone
set_option linter.unusedVariables false
set_option linter.unusedSimpArgs false

attribute [local go_sem high] eqA28
/-! ### concordlaw21_alive: function 13 -/
def concordlaw21_alive.f  : Option (Bool) := (concordlaw21_one.f).bind fun bt180 => ((frame_Encode.f bt180.1 bt180.2.1 bt180.2.2.1 bt180.2.2.2.1 bt180.2.2.2.2.1 bt180.2.2.2.2.2.1 bt180.2.2.2.2.2.2.1 bt180.2.2.2.2.2.2.2.1 bt180.2.2.2.2.2.2.2.2).bind fun bt189 => ((frame_Decode.f bt189.1).bind fun bt191 => (if bt189.2 = 0 then (if bt191.2.2.2.2.2.2.2.2.2 = 0 then ((concordlaw21_one.f).bind fun bt202 => (if (bt191.1 == bt202.1 && (bt191.2.1 == bt202.2.1 && ((bt191.2.2.1 == bt202.2.2.1 && (bt191.2.2.2.1 == bt202.2.2.2.1 && (bt191.2.2.2.2.1 == bt202.2.2.2.2.1))) && (bt191.2.2.2.2.2.1 == bt202.2.2.2.2.2.1 && (bt191.2.2.2.2.2.2.1 == bt202.2.2.2.2.2.2.1 && (bt191.2.2.2.2.2.2.2.1 == bt202.2.2.2.2.2.2.2.1 && (bt191.2.2.2.2.2.2.2.2.1.toList == bt202.2.2.2.2.2.2.2.2.toList))))))) = true then (if (bt189.1.size : Int) = 36 then (if 0 ≤ 4 then (if 4 ≤ (bt189.1.size : Int) then (some ((bt189.1.extract 0 4).toList == ([157, 227, 0, 36] : List UInt8))) else (none)) else (none)) else (some false)) else (some false))) else (some false)) else (some false))))
def concordlaw21_alive.T3 : Bool × List (List Nat × List Nat) := (true, [([], []), ([0], [0]), ([1], [1]), ([2], [2]), ([3, 2], [2, 3]), ([2, 4], [2, 4]), ([5, 2], [5]), ([6], [6]), ([6, 6], [6]), ([7, 8, 6], [6, 7, 8]), ([6, 9], [6, 9]), ([10, 8], [10]), ([11], [11]), ([12, 11], [11, 12]), ([13, 11], [11, 13]), ([11, 14], [11, 14]), ([15, 11], [15]), ([16], [16]), ([17, 16], [16, 17]), ([18, 16], [16, 18]), ([16, 19], [16, 19]), ([20, 16, 0, 1, 2, 3, 4, 5, 6, 7, 8, 9, 10, 11, 12, 13, 14, 15, 16, 17, 18, 19, 20], [20])])
def concordlaw21_alive.B3 : List Nat := [0, 1, 3, 7, 15, 31, 63, 127, 127, 511, 1023, 2047, 4095, 8191, 16383, 32767, 65535, 131071, 262143, 524287, 1048575, 2097151]
theorem concordlaw21_alive.tab3 : rtab .any (opsOf Try.f13 3) = concordlaw21_alive.T3 := by kernel_rfl
theorem concordlaw21_alive.bits3 : waitsOk concordlaw21_alive.T3.2 concordlaw21_alive.B3 = true := by kernel_rfl
set_option maxHeartbeats 8000000 in
set_option maxRecDepth 100000 in
theorem concordlaw21_alive.calls  (r : Bool) (w : World) (h : concordlaw21_alive.f  = some r) (hr : r = true) :
  Calls Try.prog 13 #[] w fun e w' => e = .returned (.bool r) ∧ Below w.heap.size w w' := by
 have hu28 := Try.underlying28
 have HB := Aside0.mk (Below.refl w.heap.size w)
 have H : ((concordlaw21_one.f).bind fun bt180 => ((frame_Encode.f bt180.1 bt180.2.1 bt180.2.2.1 bt180.2.2.2.1 bt180.2.2.2.2.1 bt180.2.2.2.2.2.1 bt180.2.2.2.2.2.2.1 bt180.2.2.2.2.2.2.2.1 bt180.2.2.2.2.2.2.2.2).bind fun bt189 => ((frame_Decode.f bt189.1).bind fun bt191 => (if bt189.2 = 0 then (if bt191.2.2.2.2.2.2.2.2.2 = 0 then ((concordlaw21_one.f).bind fun bt202 => (if (bt191.1 == bt202.1 && (bt191.2.1 == bt202.2.1 && ((bt191.2.2.1 == bt202.2.2.1 && (bt191.2.2.2.1 == bt202.2.2.2.1 && (bt191.2.2.2.2.1 == bt202.2.2.2.2.1))) && (bt191.2.2.2.2.2.1 == bt202.2.2.2.2.2.1 && (bt191.2.2.2.2.2.2.1 == bt202.2.2.2.2.2.2.1 && (bt191.2.2.2.2.2.2.2.1 == bt202.2.2.2.2.2.2.2.1 && (bt191.2.2.2.2.2.2.2.2.1.toList == bt202.2.2.2.2.2.2.2.2.toList))))))) = true then (if (bt189.1.size : Int) = 36 then (if 0 ≤ 4 then (if 4 ≤ (bt189.1.size : Int) then (some ((bt189.1.extract 0 4).toList == ([157, 227, 0, 36] : List UInt8))) else (none)) else (none)) else (some false)) else (some false))) else (some false)) else (some false))))) = some r := h
 clear h
 replace H := Option.bind_eq_some_iff.mp H
 obtain ⟨⟨t180, t181, t182, t183, t184, t185, t186, t187, t188⟩, A10, H⟩ := H
 replace H : ((frame_Encode.f t180 t181 t182 t183 t184 t185 t186 t187 t188).bind fun bt189 => ((frame_Decode.f bt189.1).bind fun bt191 => (if bt189.2 = 0 then (if bt191.2.2.2.2.2.2.2.2.2 = 0 then ((concordlaw21_one.f).bind fun bt202 => (if (bt191.1 == bt202.1 && (bt191.2.1 == bt202.2.1 && ((bt191.2.2.1 == bt202.2.2.1 && (bt191.2.2.2.1 == bt202.2.2.2.1 && (bt191.2.2.2.2.1 == bt202.2.2.2.2.1))) && (bt191.2.2.2.2.2.1 == bt202.2.2.2.2.2.1 && (bt191.2.2.2.2.2.2.1 == bt202.2.2.2.2.2.2.1 && (bt191.2.2.2.2.2.2.2.1 == bt202.2.2.2.2.2.2.2.1 && (bt191.2.2.2.2.2.2.2.2.1.toList == bt202.2.2.2.2.2.2.2.2.toList))))))) = true then (if (bt189.1.size : Int) = 36 then (if 0 ≤ 4 then (if 4 ≤ (bt189.1.size : Int) then (some ((bt189.1.extract 0 4).toList == ([157, 227, 0, 36] : List UInt8))) else (none)) else (none)) else (some false)) else (some false))) else (some false)) else (some false)))) = some r := H
 have A1 := Aside0.mk A10
 clear A10
 replace H := Option.bind_eq_some_iff.mp H
 obtain ⟨⟨t189, t190⟩, A20, H⟩ := H
 replace H : ((frame_Decode.f t189).bind fun bt191 => (if t190 = 0 then (if bt191.2.2.2.2.2.2.2.2.2 = 0 then ((concordlaw21_one.f).bind fun bt202 => (if (bt191.1 == bt202.1 && (bt191.2.1 == bt202.2.1 && ((bt191.2.2.1 == bt202.2.2.1 && (bt191.2.2.2.1 == bt202.2.2.2.1 && (bt191.2.2.2.2.1 == bt202.2.2.2.2.1))) && (bt191.2.2.2.2.2.1 == bt202.2.2.2.2.2.1 && (bt191.2.2.2.2.2.2.1 == bt202.2.2.2.2.2.2.1 && (bt191.2.2.2.2.2.2.2.1 == bt202.2.2.2.2.2.2.2.1 && (bt191.2.2.2.2.2.2.2.2.1.toList == bt202.2.2.2.2.2.2.2.2.toList))))))) = true then (if (t189.size : Int) = 36 then (if 0 ≤ 4 then (if 4 ≤ (t189.size : Int) then (some ((t189.extract 0 4).toList == ([157, 227, 0, 36] : List UInt8))) else (none)) else (none)) else (some false)) else (some false))) else (some false)) else (some false))) = some r := H
 have A2 := Aside0.mk A20
 clear A20
 replace H := Option.bind_eq_some_iff.mp H
 obtain ⟨⟨t191, t192, t193, t194, t195, t196, t197, t198, t199, t200⟩, A30, H⟩ := H
 replace H : (if t190 = 0 then (if t200 = 0 then ((concordlaw21_one.f).bind fun bt202 => (if (t191 == bt202.1 && (t192 == bt202.2.1 && ((t193 == bt202.2.2.1 && (t194 == bt202.2.2.2.1 && (t195 == bt202.2.2.2.2.1))) && (t196 == bt202.2.2.2.2.2.1 && (t197 == bt202.2.2.2.2.2.2.1 && (t198 == bt202.2.2.2.2.2.2.2.1 && (t199.toList == bt202.2.2.2.2.2.2.2.2.toList))))))) = true then (if (t189.size : Int) = 36 then (if 0 ≤ 4 then (if 4 ≤ (t189.size : Int) then (some ((t189.extract 0 4).toList == ([157, 227, 0, 36] : List UInt8))) else (none)) else (none)) else (some false)) else (some false))) else (some false)) else (some false)) = some r := H
 have A3 := Aside0.mk A30
 clear A30
 by_cases c4 : t190 = 0
 ·rw [if_pos c4] at H
  have c4b0 : (t190 == 0) = true := beq_iff_eq.mpr c4
  have c4b1 : (t190 != 0) = false := bne_eq_false_iff_eq.mpr c4
  clear c4
  by_cases c5 : t200 = 0
  ·rw [if_pos c5] at H
   have c5b0 : (t200 == 0) = true := beq_iff_eq.mpr c5
   have c5b1 : (t200 != 0) = false := bne_eq_false_iff_eq.mpr c5
   clear c5
   replace H := Option.bind_eq_some_iff.mp H
   obtain ⟨⟨t202, t203, t204, t205, t206, t207, t208, t209, t210⟩, A60, H⟩ := H
   replace H : (if (t191 == t202 && (t192 == t203 && ((t193 == t204 && (t194 == t205 && (t195 == t206))) && (t196 == t207 && (t197 == t208 && (t198 == t209 && (t199.toList == t210.toList))))))) = true then (if (t189.size : Int) = 36 then (if 0 ≤ 4 then (if 4 ≤ (t189.size : Int) then (some ((t189.extract 0 4).toList == ([157, 227, 0, 36] : List UInt8))) else (none)) else (none)) else (some false)) else (some false)) = some r := H
   have A6 := Aside0.mk A60
   clear A60
   by_cases c7 : (t191 == t202 && (t192 == t203 && ((t193 == t204 && (t194 == t205 && (t195 == t206))) && (t196 == t207 && (t197 == t208 && (t198 == t209 && (t199.toList == t210.toList))))))) = true
   ·rw [if_pos c7] at H
    have c7b0 : (t191 == t202 && (t192 == t203 && ((t193 == t204 && (t194 == t205 && (t195 == t206))) && (t196 == t207 && (t197 == t208 && (t198 == t209 && (t199.toList == t210.toList))))))) = true := c7
    (try (have c7b1 : decide (t191 = t202 && (t192 == t203 && ((t193 == t204 && (t194 == t205 && (t195 == t206))) && (t196 == t207 && (t197 == t208 && (t198 == t209 && (t199.toList == t210.toList))))))) = true := by simpa using c7))
    (try (have c7b2 : (t191 == t202 && (t192 == t203 && ((t193 == t204 && (t194 == t205 && (t195 == t206))) && (t196 == t207 && (t197 == t208 && (t198 == t209 && (t199.toList == t210.toList))))))) = true := by simpa using c7))
    clear c7
    by_cases c8 : (t189.size : Int) = 36
    ·rw [if_pos c8] at H
     have c8b0 : ((t189.size : Int) == 36) = true := beq_iff_eq.mpr c8
     have c8b1 : ((t189.size : Int) != 36) = false := bne_eq_false_iff_eq.mpr c8
     clear c8
     by_cases c9 : 0 ≤ 4
     ·rw [if_pos c9] at H
      have c9b0 := eq_true c9
      have c9b1 : decide (0 ≤ 4) = true := decide_eq_true c9
      clear c9
      by_cases c10 : 4 ≤ (t189.size : Int)
      ·rw [if_pos c10] at H
       have c10b0 := eq_true c10
       have c10b1 : decide (4 ≤ (t189.size : Int)) = true := decide_eq_true c10
       clear c10
       obtain rfl := Option.some.inj H
       go_enter Try.func13, Try.ntmps13
       try go_wp2_with (first | ((with_reducible refine gate_callee (f := 28) rfl ?_); refine goesL_ (some 6) rfl rfl Try.func28 (by kernel_rfl) rfl #[] rfl (by (try simp only [List.map_toArray, List.map_cons, List.map_nil]); first | done | rfl | (simp only [List.length_drop, List.length_take]; rfl)) ?_; (with_reducible refine (concordlaw21_one.calls  t180 t181 t182 t183 t184 t185 t186 t187 t188 _ A1.out).mono ?_); rintro e w11 ⟨rfl, hb⟩; refine ⟨_, rfl, ?_⟩; have n0_ := Aside0.mk (below_step (by repeat (first | (with_reducible first | exact HB.out | apply below_alloc | apply pw_below_drewN | apply below_drew1) | exact HB.out | exact Below.refl _ _)) hb); clear HB; have HB := n0_; clear n0_; (try clear hb); (try clear hb2); (try clear hk); (try clear hi)) | ((with_reducible refine gate_callee (f := 11) rfl ?_); refine goesL_ (some 7) rfl rfl Try.func11 (by kernel_rfl) rfl #[.agg #[.int .u8 t180, .int .u8 t181, .int .u8 t182, .int .u16 t183, .int .u32 t184, .int .u64 t185, .int .u32 t186, .bool t187, .string t188]] rfl (by (try simp only [List.map_toArray, List.map_cons, List.map_nil]); first | done | rfl | (simp only [List.length_drop, List.length_take]; rfl)) ?_; (with_reducible refine (frame_Encode.calls t180 t181 t182 t183 t184 t185 t186 t187 t188 t189 t190 _ A2.out).mono ?_); rintro e w12 ⟨rfl, hb⟩; refine ⟨_, rfl, ?_⟩; have n0_ := Aside0.mk (below_step (by repeat (first | (with_reducible first | exact HB.out | apply below_alloc | apply pw_below_drewN | apply below_drew1) | exact HB.out | exact Below.refl _ _)) hb); clear HB; have HB := n0_; clear n0_; (try clear hb); (try clear hb2); (try clear hk); (try clear hi)) | ((with_reducible refine gate_callee (f := 14) rfl ?_); refine goesL_ (some 12) rfl rfl Try.func14 (by kernel_rfl) rfl #[.string t189] rfl (by (try simp only [List.map_toArray, List.map_cons, List.map_nil]); first | done | rfl | (simp only [List.length_drop, List.length_take]; rfl)) ?_; (with_reducible refine (frame_Decode.calls t189 t191 t192 t193 t194 t195 t196 t197 t198 t199 t200 _ A3.out).mono ?_); rintro e w13 ⟨rfl, hb⟩; refine ⟨_, rfl, ?_⟩; have n0_ := Aside0.mk (below_step (by repeat (first | (with_reducible first | exact HB.out | apply below_alloc | apply pw_below_drewN | apply below_drew1) | exact HB.out | exact Below.refl _ _)) hb); clear HB; have HB := n0_; clear n0_; (try clear hb); (try clear hb2); (try clear hk); (try clear hi)) | ((with_reducible refine gate_dst (N := 3) rfl ?_); (try (refine gate_guard (by rfl) ?_; dsimp only)); refine box_event ?hg (N := 3) ?hd (cs := #[.int .u8 0, .int .u8 0, .int .u8 0, .int .u16 0, .int .u32 0, .int .u64 0, .int .u32 0, .bool false, .string (⟨#[]⟩ : ByteArray)]) (t := 28) ?hr ?_; (case hd => rfl); (case hg => rfl); (case hr => first | (go_simp; done) | (go_simp; rfl)); intro gb201 hg w14 hbox hb; have n0_ := Aside0.mk (below_step (by repeat (first | (with_reducible first | exact HB.out | apply below_alloc | apply pw_below_drewN | apply below_drew1) | exact HB.out | exact Below.refl _ _)) hb); have n1_ := Aside0.mk (hbox); have n2_ := Aside0.mk ((by rw [hg]; exact (below_size (by repeat (first | (with_reducible first | exact HB.out | apply below_alloc | apply pw_below_drewN | apply below_drew1) | exact HB.out | exact Below.refl _ _))) : w.heap.size ≤ gb201)); have n3_ := Aside0.mk ((by rw [hg]; exact (below_size (by repeat (first | (with_reducible first | exact HB.out | apply below_alloc | apply pw_below_drewN | apply below_drew1) | exact HB.out | exact Below.refl _ _))) : w.heap.size ≤ gb201)); clear HB; have HB := n0_; have BK201 := n1_; have GW201 := n2_; have GE201 := n3_; clear n0_ n1_ n2_ n3_; clear hb hbox hg; have hcz15_0 : w14.cell? ⟨gb201, 0, none⟩ = some (.int .u8 0) := (blk_cell BK201.out 0).trans rfl; have hcz15_1 : w14.cell? ⟨gb201, 1, none⟩ = some (.int .u8 0) := (blk_cell BK201.out 1).trans rfl; have hcz15_2 : w14.cell? ⟨gb201, 2, none⟩ = some (.int .u8 0) := (blk_cell BK201.out 2).trans rfl; have hcz15_3 : w14.cell? ⟨gb201, 3, none⟩ = some (.int .u16 0) := (blk_cell BK201.out 3).trans rfl; have hcz15_4 : w14.cell? ⟨gb201, 4, none⟩ = some (.int .u32 0) := (blk_cell BK201.out 4).trans rfl; have hcz15_5 : w14.cell? ⟨gb201, 5, none⟩ = some (.int .u64 0) := (blk_cell BK201.out 5).trans rfl; have hcz15_6 : w14.cell? ⟨gb201, 6, none⟩ = some (.int .u32 0) := (blk_cell BK201.out 6).trans rfl; have hcz15_7 : w14.cell? ⟨gb201, 7, none⟩ = some (.bool false) := (blk_cell BK201.out 7).trans rfl; have hcz15_8 : w14.cell? ⟨gb201, 8, none⟩ = some (.string (⟨#[]⟩ : ByteArray)) := (blk_cell BK201.out 8).trans rfl; have hfz15_0 := blk_frozen BK201.out 0; have hfz15_1 := blk_frozen BK201.out 1; have hfz15_2 := blk_frozen BK201.out 2; have hfz15_3 := blk_frozen BK201.out 3; have hfz15_4 := blk_frozen BK201.out 4; have hfz15_5 := blk_frozen BK201.out 5; have hfz15_6 := blk_frozen BK201.out 6; have hfz15_7 := blk_frozen BK201.out 7; have hfz15_8 := blk_frozen BK201.out 8))
       have n0_ : Aside0 ((((((((((w14.setCell ⟨gb201, 0, none⟩ (.int .u8 t191)).setCell ⟨gb201, 1, none⟩ (.int .u8 t192)).setCell ⟨gb201, 2, none⟩ (.int .u8 t193)).setCell ⟨gb201, 3, none⟩ (.int .u16 t194)).setCell ⟨gb201, 4, none⟩ (.int .u32 t195)).setCell ⟨gb201, 5, none⟩ (.int .u64 t196)).setCell ⟨gb201, 6, none⟩ (.int .u32 t197)).setCell ⟨gb201, 7, none⟩ (.bool t198)).setCell ⟨gb201, 8, none⟩ (.string t199)).heap[gb201]? = some (.cells #[.int .u8 t191, .int .u8 t192, .int .u8 t193, .int .u16 t194, .int .u32 t195, .int .u64 t196, .int .u32 t197, .bool t198, .string t199] 28 (0, 0))) := ⟨by (with_reducible repeat (first | refine blk_drewN ?_ _ | refine blk_drew ?_ | refine blk_alloc ?_ _)); refine blk_put (cs := #[.int .u8 t191, .int .u8 t192, .int .u8 t193, .int .u16 t194, .int .u32 t195, .int .u64 t196, .int .u32 t197, .bool t198, .string (⟨#[]⟩ : ByteArray)]) ?_ 8 _ rfl; (with_reducible repeat (first | refine blk_drewN ?_ _ | refine blk_drew ?_ | refine blk_alloc ?_ _)); refine blk_put (cs := #[.int .u8 t191, .int .u8 t192, .int .u8 t193, .int .u16 t194, .int .u32 t195, .int .u64 t196, .int .u32 t197, .bool false, .string (⟨#[]⟩ : ByteArray)]) ?_ 7 _ rfl; (with_reducible repeat (first | refine blk_drewN ?_ _ | refine blk_drew ?_ | refine blk_alloc ?_ _)); refine blk_put (cs := #[.int .u8 t191, .int .u8 t192, .int .u8 t193, .int .u16 t194, .int .u32 t195, .int .u64 t196, .int .u32 0, .bool false, .string (⟨#[]⟩ : ByteArray)]) ?_ 6 _ rfl; (with_reducible repeat (first | refine blk_drewN ?_ _ | refine blk_drew ?_ | refine blk_alloc ?_ _)); refine blk_put (cs := #[.int .u8 t191, .int .u8 t192, .int .u8 t193, .int .u16 t194, .int .u32 t195, .int .u64 0, .int .u32 0, .bool false, .string (⟨#[]⟩ : ByteArray)]) ?_ 5 _ rfl; (with_reducible repeat (first | refine blk_drewN ?_ _ | refine blk_drew ?_ | refine blk_alloc ?_ _)); refine blk_put (cs := #[.int .u8 t191, .int .u8 t192, .int .u8 t193, .int .u16 t194, .int .u32 0, .int .u64 0, .int .u32 0, .bool false, .string (⟨#[]⟩ : ByteArray)]) ?_ 4 _ rfl; (with_reducible repeat (first | refine blk_drewN ?_ _ | refine blk_drew ?_ | refine blk_alloc ?_ _)); refine blk_put (cs := #[.int .u8 t191, .int .u8 t192, .int .u8 t193, .int .u16 0, .int .u32 0, .int .u64 0, .int .u32 0, .bool false, .string (⟨#[]⟩ : ByteArray)]) ?_ 3 _ rfl; (with_reducible repeat (first | refine blk_drewN ?_ _ | refine blk_drew ?_ | refine blk_alloc ?_ _)); refine blk_put (cs := #[.int .u8 t191, .int .u8 t192, .int .u8 0, .int .u16 0, .int .u32 0, .int .u64 0, .int .u32 0, .bool false, .string (⟨#[]⟩ : ByteArray)]) ?_ 2 _ rfl; (with_reducible repeat (first | refine blk_drewN ?_ _ | refine blk_drew ?_ | refine blk_alloc ?_ _)); refine blk_put (cs := #[.int .u8 t191, .int .u8 0, .int .u8 0, .int .u16 0, .int .u32 0, .int .u64 0, .int .u32 0, .bool false, .string (⟨#[]⟩ : ByteArray)]) ?_ 1 _ rfl; (with_reducible repeat (first | refine blk_drewN ?_ _ | refine blk_drew ?_ | refine blk_alloc ?_ _)); refine blk_put (cs := #[.int .u8 0, .int .u8 0, .int .u8 0, .int .u16 0, .int .u32 0, .int .u64 0, .int .u32 0, .bool false, .string (⟨#[]⟩ : ByteArray)]) ?_ 0 _ rfl; (with_reducible repeat (first | refine blk_drewN ?_ _ | refine blk_drew ?_ | refine blk_alloc ?_ _)); exact BK201.out⟩
       have n1_ : Aside0 (Below w.heap.size w (((((((((w14.setCell ⟨gb201, 0, none⟩ (.int .u8 t191)).setCell ⟨gb201, 1, none⟩ (.int .u8 t192)).setCell ⟨gb201, 2, none⟩ (.int .u8 t193)).setCell ⟨gb201, 3, none⟩ (.int .u16 t194)).setCell ⟨gb201, 4, none⟩ (.int .u32 t195)).setCell ⟨gb201, 5, none⟩ (.int .u64 t196)).setCell ⟨gb201, 6, none⟩ (.int .u32 t197)).setCell ⟨gb201, 7, none⟩ (.bool t198)).setCell ⟨gb201, 8, none⟩ (.string t199))) := ⟨by repeat (first | (with_reducible first | exact HB.out | apply below_alloc | apply pw_below_drewN | apply below_drew1 | refine below_set ?_ GE201.out) | exact HB.out)⟩
       (try clear BK201)
       (try clear HB)
       generalize (((((((((w14.setCell ⟨gb201, 0, none⟩ (.int .u8 t191)).setCell ⟨gb201, 1, none⟩ (.int .u8 t192)).setCell ⟨gb201, 2, none⟩ (.int .u8 t193)).setCell ⟨gb201, 3, none⟩ (.int .u16 t194)).setCell ⟨gb201, 4, none⟩ (.int .u32 t195)).setCell ⟨gb201, 5, none⟩ (.int .u64 t196)).setCell ⟨gb201, 6, none⟩ (.int .u32 t197)).setCell ⟨gb201, 7, none⟩ (.bool t198)).setCell ⟨gb201, 8, none⟩ (.string t199)) = w16 at n0_ n1_ ⊢
       have BK201 := n0_
       have HB := n1_
       clear n0_ n1_
       have n0_ := Aside0.mk (blk_drew BK201.out)
       have n1_ := Aside0.mk (below_drew1 HB.out)
       clear BK201
       clear HB
       have BK201 := n0_
       have HB := n1_
       clear n0_ n1_
       refine start_ (n := 22) (S := fun w' => w'.cell? ⟨gb201, 0, none⟩ = some (.int .u8 t191) ∧ w'.cell? ⟨gb201, 1, none⟩ = some (.int .u8 t192) ∧ w'.cell? ⟨gb201, 2, none⟩ = some (.int .u8 t193) ∧ w'.cell? ⟨gb201, 3, none⟩ = some (.int .u16 t194) ∧ w'.cell? ⟨gb201, 4, none⟩ = some (.int .u32 t195) ∧ w'.cell? ⟨gb201, 5, none⟩ = some (.int .u64 t196) ∧ w'.cell? ⟨gb201, 6, none⟩ = some (.int .u32 t197) ∧ w'.cell? ⟨gb201, 7, none⟩ = some (.bool t198) ∧ w'.cell? ⟨gb201, 8, none⟩ = some (.string t199)) (ds := []) #[false, false, false, false, false, false, false, false, false, false, false, false, false, false, false, false, false, false, false, false, false, false] (by kernel_rfl) rfl rfl ⟨(blk_cell BK201.out 0).trans rfl, (blk_cell BK201.out 1).trans rfl, (blk_cell BK201.out 2).trans rfl, (blk_cell BK201.out 3).trans rfl, (blk_cell BK201.out 4).trans rfl, (blk_cell BK201.out 5).trans rfl, (blk_cell BK201.out 6).trans rfl, (blk_cell BK201.out 7).trans rfl, (blk_cell BK201.out 8).trans rfl⟩ (fun hHeld => ?_); refine with_tabW concordlaw21_alive.tab3 concordlaw21_alive.bits3 (fun HT_ HW_ => ?_)
       generalize w16.drew = w17 at BK201 HB hHeld ⊢
       refine pure_ (i := 0) (N := some 15) (v := ?_) (a' := ?_) #[true, false, false, false, false, false, false, false, false, false, false, false, false, false, false, false, false, false, false, false, false, false] rfl rfl (any_of HT_.out (by kernel_rfl)) (fun _ _ _ h => h) (Or.inl ⟨by rfl, ?_⟩) ?_ ?_
       rotate_left
       ·intro w'
        go_simp
        with_reducible rfl
       rotate_left
       ·simp only [Act.put, List.setIfInBounds_toArray, List.set_cons_zero, List.set_cons_succ, i64_w, i32_w]
        rfl
       refine pure_ (i := 1) (N := some 16) (v := ?_) (a' := ?_) #[true, true, false, false, false, false, false, false, false, false, false, false, false, false, false, false, false, false, false, false, false, false] rfl rfl (any_of HT_.out (by kernel_rfl)) (fun _ _ _ h => h) (Or.inl ⟨by rfl, ?_⟩) ?_ ?_
       rotate_left
       ·intro w'
        go_simp
        with_reducible rfl
       rotate_left
       ·simp only [Act.put, List.setIfInBounds_toArray, List.set_cons_zero, List.set_cons_succ, i64_w, i32_w]
        rfl
       refine pure_ (i := 2) (N := some 17) (v := ?_) (a' := ?_) #[true, true, true, false, false, false, false, false, false, false, false, false, false, false, false, false, false, false, false, false, false, false] rfl rfl (any_of HT_.out (by kernel_rfl)) (fun _ _ _ h => h) (Or.inl ⟨by rfl, ?_⟩) ?_ ?_
       rotate_left
       ·intro w'
        go_simp
        with_reducible rfl
       rotate_left
       ·simp only [Act.put, List.setIfInBounds_toArray, List.set_cons_zero, List.set_cons_succ, i64_w, i32_w]
        rfl
       refine pure_ (i := 3) (N := some 18) (v := ?_) (a' := ?_) #[true, true, true, true, false, false, false, false, false, false, false, false, false, false, false, false, false, false, false, false, false, false] rfl rfl (any_of HT_.out (by kernel_rfl)) (fun _ _ _ h => h) (Or.inl ⟨by rfl, ?_⟩) ?_ ?_
       rotate_left
       ·intro w'
        go_simp
        with_reducible rfl
       rotate_left
       ·simp only [Act.put, List.setIfInBounds_toArray, List.set_cons_zero, List.set_cons_succ, i64_w, i32_w]
        rfl
       refine pure_ (i := 4) (N := some 19) (v := ?_) (a' := ?_) #[true, true, true, true, true, false, false, false, false, false, false, false, false, false, false, false, false, false, false, false, false, false] rfl rfl (any_of HT_.out (by kernel_rfl)) (fun _ _ _ h => h) (Or.inl ⟨by rfl, ?_⟩) ?_ ?_
       rotate_left
       ·intro w'
        go_simp
        with_reducible rfl
       rotate_left
       ·simp only [Act.put, List.setIfInBounds_toArray, List.set_cons_zero, List.set_cons_succ, i64_w, i32_w]
        rfl
       refine pure_ (i := 5) (N := some 20) (v := ?_) (a' := ?_) #[true, true, true, true, true, true, false, false, false, false, false, false, false, false, false, false, false, false, false, false, false, false] rfl rfl (any_of HT_.out (by kernel_rfl)) (fun _ _ _ h => h) (Or.inl ⟨by rfl, ?_⟩) ?_ ?_
       rotate_left
       ·intro w'
        go_simp
        with_reducible rfl
       rotate_left
       ·simp only [Act.put, List.setIfInBounds_toArray, List.set_cons_zero, List.set_cons_succ, i64_w, i32_w]
        rfl
       refine pure_ (i := 6) (N := some 21) (v := ?_) (a' := ?_) #[true, true, true, true, true, true, true, false, false, false, false, false, false, false, false, false, false, false, false, false, false, false] rfl rfl (any_of HT_.out (by kernel_rfl)) (fun _ _ _ h => h) (Or.inl ⟨by rfl, ?_⟩) ?_ ?_
       rotate_left
       ·intro w'
        go_simp
        with_reducible rfl
       rotate_left
       ·simp only [Act.put, List.setIfInBounds_toArray, List.set_cons_zero, List.set_cons_succ, i64_w, i32_w]
        rfl
       refine take_ (i := 7) (N := some 22) (v := ?_) (a' := ?_) #[true, true, true, true, true, true, true, true, false, false, false, false, false, false, false, false, false, false, false, false, false, false] rfl rfl (take_ofW HT_.out HW_.out (by kernel_rfl)) (fun _ _ _ h => h) (Or.inl ⟨by rfl, ?_⟩) hHeld ?_ ?_
       rotate_left
       ·rintro w' ⟨s0, s1, s2, s3, s4, s5, s6, s7, s8⟩
        go_simp
        with_reducible rfl
       rotate_left
       ·simp only [Act.put, List.setIfInBounds_toArray, List.set_cons_zero, List.set_cons_succ, i64_w, i32_w]
        rfl
       refine one_ (i := 8) (N := some 23) #[true, true, true, true, true, true, true, true, true, false, false, false, false, false, false, false, false, false, false, false, false, false] rfl rfl (one_of HT_.out (by kernel_rfl)) (by decide) (fun K hK => ?_)
       refine goes_ Try.func28 (by kernel_rfl) rfl #[] (by rfl) rfl rfl (by (try simp only [List.map_toArray, List.map_cons, List.map_nil]); first | done | rfl | (simp only [List.length_drop, List.length_take]; rfl)) ?_
       with_reducible refine (concordlaw21_one.calls  t202 t203 t204 t205 t206 t207 t208 t209 t210 _ A6.out).mono ?_
       rintro e w18 ⟨rfl, hb⟩
       refine ⟨_, rfl, ?_⟩
       have n0_ := Aside0.mk (blk_below (g := gb201) (o := .cells #[.int .u8 t191, .int .u8 t192, .int .u8 t193, .int .u16 t194, .int .u32 t195, .int .u64 t196, .int .u32 t197, .bool t198, .string t199] 28 (0, 0)) (by (with_reducible repeat (first | refine blk_drewN ?_ _ | refine blk_drew ?_ | refine blk_alloc ?_ _)); exact BK201.out) hb)
       have n1_ := Aside0.mk (below_step (by repeat (first | (with_reducible first | exact HB.out | apply below_alloc | apply pw_below_drewN | apply below_drew1 | refine below_set ?_ GE201.out) | exact HB.out)) hb)
       clear BK201
       clear HB
       have BK201 := n0_
       have HB := n1_
       clear n0_ n1_
       (try clear hb)
       (try clear hb2)
       (try clear hk)
       (try clear hi)
       refine hK.out _ _ ⟨(blk_cell BK201.out 0).trans rfl, (blk_cell BK201.out 1).trans rfl, (blk_cell BK201.out 2).trans rfl, (blk_cell BK201.out 3).trans rfl, (blk_cell BK201.out 4).trans rfl, (blk_cell BK201.out 5).trans rfl, (blk_cell BK201.out 6).trans rfl, (blk_cell BK201.out 7).trans rfl, (blk_cell BK201.out 8).trans rfl⟩ (fun hHeld => ?_)
       clear hK K
       refine norm_ (a' := ?_) ?_ ?_
       rotate_left
       ·show Act.put _ (some 23) _ = _
        simp only [Act.put, List.setIfInBounds_toArray, List.set_cons_zero, List.set_cons_succ, i64_w, i32_w]
        rfl
       refine pure_ (i := 9) (N := some 24) (v := ?_) (a' := ?_) #[true, true, true, true, true, true, true, true, true, true, false, false, false, false, false, false, false, false, false, false, false, false] rfl rfl (any_of HT_.out (by kernel_rfl)) (fun _ _ _ h => h) (Or.inl ⟨by rfl, ?_⟩) ?_ ?_
       rotate_left
       ·intro w'
        go_simp
        with_reducible rfl
       rotate_left
       ·simp only [Act.put, List.setIfInBounds_toArray, List.set_cons_zero, List.set_cons_succ, i64_w, i32_w]
        rfl
       refine pure_ (i := 10) (N := some 25) (v := ?_) (a' := ?_) #[true, true, true, true, true, true, true, true, true, true, true, false, false, false, false, false, false, false, false, false, false, false] rfl rfl (any_of HT_.out (by kernel_rfl)) (fun _ _ _ h => h) (Or.inl ⟨by rfl, ?_⟩) ?_ ?_
       rotate_left
       ·intro w'
        go_simp
        with_reducible rfl
       rotate_left
       ·simp only [Act.put, List.setIfInBounds_toArray, List.set_cons_zero, List.set_cons_succ, i64_w, i32_w]
        rfl
       refine pure_ (i := 11) (N := some 26) (v := ?_) (a' := ?_) #[true, true, true, true, true, true, true, true, true, true, true, true, false, false, false, false, false, false, false, false, false, false] rfl rfl (any_of HT_.out (by kernel_rfl)) (fun _ _ _ h => h) (Or.inl ⟨by rfl, ?_⟩) ?_ ?_
       rotate_left
       ·intro w'
        go_simp
        with_reducible rfl
       rotate_left
       ·simp only [Act.put, List.setIfInBounds_toArray, List.set_cons_zero, List.set_cons_succ, i64_w, i32_w]
        rfl
       refine pure_ (i := 12) (N := some 27) (v := ?_) (a' := ?_) #[true, true, true, true, true, true, true, true, true, true, true, true, true, false, false, false, false, false, false, false, false, false] rfl rfl (any_of HT_.out (by kernel_rfl)) (fun _ _ _ h => h) (Or.inl ⟨by rfl, ?_⟩) ?_ ?_
       rotate_left
       ·intro w'
        go_simp
        with_reducible rfl
       rotate_left
       ·simp only [Act.put, List.setIfInBounds_toArray, List.set_cons_zero, List.set_cons_succ, i64_w, i32_w]
        rfl
       refine pure_ (i := 13) (N := some 28) (v := ?_) (a' := ?_) #[true, true, true, true, true, true, true, true, true, true, true, true, true, true, false, false, false, false, false, false, false, false] rfl rfl (any_of HT_.out (by kernel_rfl)) (fun _ _ _ h => h) (Or.inl ⟨by rfl, ?_⟩) ?_ ?_
       rotate_left
       ·intro w'
        go_simp
        with_reducible rfl
       rotate_left
       ·simp only [Act.put, List.setIfInBounds_toArray, List.set_cons_zero, List.set_cons_succ, i64_w, i32_w]
        rfl
       refine pure_ (i := 14) (N := some 29) (v := ?_) (a' := ?_) #[true, true, true, true, true, true, true, true, true, true, true, true, true, true, true, false, false, false, false, false, false, false] rfl rfl (any_of HT_.out (by kernel_rfl)) (fun _ _ _ h => h) (Or.inl ⟨by rfl, ?_⟩) ?_ ?_
       rotate_left
       ·intro w'
        go_simp
        with_reducible rfl
       rotate_left
       ·simp only [Act.put, List.setIfInBounds_toArray, List.set_cons_zero, List.set_cons_succ, i64_w, i32_w]
        rfl
       refine pure_ (i := 15) (N := some 30) (v := ?_) (a' := ?_) #[true, true, true, true, true, true, true, true, true, true, true, true, true, true, true, true, false, false, false, false, false, false] rfl rfl (any_of HT_.out (by kernel_rfl)) (fun _ _ _ h => h) (Or.inl ⟨by rfl, ?_⟩) ?_ ?_
       rotate_left
       ·intro w'
        go_simp
        with_reducible rfl
       rotate_left
       ·simp only [Act.put, List.setIfInBounds_toArray, List.set_cons_zero, List.set_cons_succ, i64_w, i32_w]
        rfl
       refine pure_ (i := 16) (N := some 31) (v := ?_) (a' := ?_) #[true, true, true, true, true, true, true, true, true, true, true, true, true, true, true, true, true, false, false, false, false, false] rfl rfl (any_of HT_.out (by kernel_rfl)) (fun _ _ _ h => h) (Or.inl ⟨by rfl, ?_⟩) ?_ ?_
       rotate_left
       ·intro w'
        go_simp
        with_reducible rfl
       rotate_left
       ·simp only [Act.put, List.setIfInBounds_toArray, List.set_cons_zero, List.set_cons_succ, i64_w, i32_w]
        rfl
       refine pure_ (i := 17) (N := some 32) (v := ?_) (a' := ?_) #[true, true, true, true, true, true, true, true, true, true, true, true, true, true, true, true, true, true, false, false, false, false] rfl rfl (any_of HT_.out (by kernel_rfl)) (fun _ _ _ h => h) (Or.inl ⟨by rfl, ?_⟩) ?_ ?_
       rotate_left
       ·intro w'
        go_simp
        with_reducible rfl
       rotate_left
       ·simp only [Act.put, List.setIfInBounds_toArray, List.set_cons_zero, List.set_cons_succ, i64_w, i32_w]
        rfl
       refine pure_ (i := 18) (N := some 33) (v := ?_) (a' := ?_) #[true, true, true, true, true, true, true, true, true, true, true, true, true, true, true, true, true, true, true, false, false, false] rfl rfl (any_of HT_.out (by kernel_rfl)) (fun _ _ _ h => h) (Or.inl ⟨by rfl, ?_⟩) ?_ ?_
       rotate_left
       ·intro w'
        go_simp
        with_reducible rfl
       rotate_left
       ·simp only [Act.put, List.setIfInBounds_toArray, List.set_cons_zero, List.set_cons_succ, i64_w, i32_w]
        rfl
       refine pure_ (i := 19) (N := some 34) (v := ?_) (a' := ?_) #[true, true, true, true, true, true, true, true, true, true, true, true, true, true, true, true, true, true, true, true, false, false] rfl rfl (any_of HT_.out (by kernel_rfl)) (fun _ _ _ h => h) (Or.inl ⟨by rfl, ?_⟩) ?_ ?_
       rotate_left
       ·intro w'
        go_simp
        with_reducible rfl
       rotate_left
       ·simp only [Act.put, List.setIfInBounds_toArray, List.set_cons_zero, List.set_cons_succ, i64_w, i32_w]
        rfl
       refine pure_ (i := 20) (N := some 35) (v := ?_) (a' := ?_) #[true, true, true, true, true, true, true, true, true, true, true, true, true, true, true, true, true, true, true, true, true, false] rfl rfl (any_of HT_.out (by kernel_rfl)) (fun _ _ _ h => h) (Or.inl ⟨by rfl, ?_⟩) ?_ ?_
       rotate_left
       ·intro w'
        go_simp
        with_reducible rfl
       rotate_left
       ·simp only [Act.put, List.setIfInBounds_toArray, List.set_cons_zero, List.set_cons_succ, i64_w, i32_w]
        rfl
       refine pure_ (i := 21) (N := some 0) (v := ?_) (a' := ?_) #[true, true, true, true, true, true, true, true, true, true, true, true, true, true, true, true, true, true, true, true, true, true] rfl rfl (any_of HT_.out (by kernel_rfl)) (fun _ _ _ h => h) (Or.inl ⟨by rfl, ?_⟩) ?_ ?_
       rotate_left
       ·intro w'
        go_simp
        with_reducible rfl
       rotate_left
       ·simp only [Act.put, List.setIfInBounds_toArray, List.set_cons_zero, List.set_cons_succ, i64_w, i32_w]
        rfl
       refine done_ (done_of HT_.out (by kernel_rfl)) ?_
       try go_wp2
       go_ret
       exact ⟨by first | rfl | (simp [errW_none, errW_some] <;> rfl) | (simp [*, errW_none, errW_some] <;> rfl), by repeat (first | (with_reducible first | exact HB.out | apply below_alloc | apply pw_below_drewN | apply below_drew1 | refine below_set ?_ GE201.out) | exact HB.out)⟩
      ·rw [if_neg c10] at H
       exact absurd H (by simp)
     ·rw [if_neg c9] at H
      exact absurd H (by simp)
    ·rw [if_neg c8] at H
     exact absurd (Option.some.inj H) (by rw [hr]; decide)
   ·rw [if_neg c7] at H
    exact absurd (Option.some.inj H) (by rw [hr]; decide)
  ·rw [if_neg c5] at H
   exact absurd (Option.some.inj H) (by rw [hr]; decide)
 ·rw [if_neg c4] at H
  exact absurd (Option.some.inj H) (by rw [hr]; decide)
end Go.Proofs.Ytgboppgghidgbaa.PG
