-- written by wip/mp.py of this claim's author, over the print of this machine
import Derived.Test.YtgboppgghidgbaaPGx0
import Derived.Test.YtgboppgghidgbaaPGx2
namespace Go.Proofs.Ytgboppgghidgbaa.PG
open Go.Proofs.Ytgboppgghidgbaa.My
open Go.RowKit Go.Proofs.YtgboppgghidgbaaW.PrintWords Go.Proofs.YtgboppgghidgbaaW.PrintLast Go.Proofs.YtgboppgghidgbaaW.PrintMore
attribute [local go_sem] max2_int min2_int max_two min_two max_three min_three max_four min_four   -- for this text's walks alone
set_option linter.unusedVariables false
set_option linter.unusedSimpArgs false

/-! ### concordref21_Encode: function 12 -/
def concordref21_Encode.f (k : Nat) (a0_0 : Int) (a0_1 : Int) (a0_2 : Int) (a0_3 : Int) (a0_4 : Int) (a0_5 : Int) (a0_6 : Int) (a0_7 : Bool) (a0_8 : ByteArray) : Option (ByteArray × Int) := (concordref21_May.f a0_0 a0_1 a0_2 a0_3 a0_4 a0_5 a0_6 a0_7 a0_8).bind fun t110 => (if t110 = true then ((concordref01_Fixed.f k (IntKind.u64.wrap (wrap64 ((a0_8.size : Int) + 34))) 2).bind fun t111 => (if 2 + t111.size ≤ 9223372036854775807 then ((concordref01_Sum.f ((⟨#[157, 227]⟩ : ByteArray) ++ t111)).bind fun t112 => ((concordref01_Fixed.f k (IntKind.u64.wrap (t112)) 4).bind fun t113 => (if ((⟨#[157, 227]⟩ : ByteArray) ++ t111).size + t113.size ≤ 9223372036854775807 then ((some (([a0_0, a0_1, a0_2] : List Int) : List Int)).bind fun y114 => (if (((⟨#[157, 227]⟩ : ByteArray) ++ t111) ++ t113).size + (strOfNums y114).size ≤ 9223372036854775807 then ((concordref01_Fixed.f k (IntKind.u64.wrap (a0_3)) 2).bind fun t117 => (if ((((⟨#[157, 227]⟩ : ByteArray) ++ t111) ++ t113) ++ (strOfNums y114)).size + t117.size ≤ 9223372036854775807 then ((concordref01_Fixed.f k (IntKind.u64.wrap (a0_4)) 4).bind fun t118 => (if (((((⟨#[157, 227]⟩ : ByteArray) ++ t111) ++ t113) ++ (strOfNums y114)) ++ t117).size + t118.size ≤ 9223372036854775807 then ((concordref01_Fixed.f k a0_5 8).bind fun t119 => (if ((((((⟨#[157, 227]⟩ : ByteArray) ++ t111) ++ t113) ++ (strOfNums y114)) ++ t117) ++ t118).size + t119.size ≤ 9223372036854775807 then ((concordref01_Fixed.f k (IntKind.u64.wrap (a0_6)) 4).bind fun t120 => (if (((((((⟨#[157, 227]⟩ : ByteArray) ++ t111) ++ t113) ++ (strOfNums y114)) ++ t117) ++ t118) ++ t119).size + t120.size ≤ 9223372036854775807 then (if a0_7 = true then (if ((((((((⟨#[157, 227]⟩ : ByteArray) ++ t111) ++ t113) ++ (strOfNums y114)) ++ t117) ++ t118) ++ t119) ++ t120).size + 1 ≤ 9223372036854775807 then (if (((((((((⟨#[157, 227]⟩ : ByteArray) ++ t111) ++ t113) ++ (strOfNums y114)) ++ t117) ++ t118) ++ t119) ++ t120) ++ (⟨#[1]⟩ : ByteArray)).size + a0_8.size ≤ 9223372036854775807 then ((concordref01_Sum.f ((((((((((⟨#[157, 227]⟩ : ByteArray) ++ t111) ++ t113) ++ (strOfNums y114)) ++ t117) ++ t118) ++ t119) ++ t120) ++ (⟨#[1]⟩ : ByteArray)) ++ a0_8)).bind fun t121 => ((concordref01_Fixed.f k (IntKind.u64.wrap (t121)) 4).bind fun t122 => (if ((((((((((⟨#[157, 227]⟩ : ByteArray) ++ t111) ++ t113) ++ (strOfNums y114)) ++ t117) ++ t118) ++ t119) ++ t120) ++ (⟨#[1]⟩ : ByteArray)) ++ a0_8).size + t122.size ≤ 9223372036854775807 then (some (((((((((((⟨#[157, 227]⟩ : ByteArray) ++ t111) ++ t113) ++ (strOfNums y114)) ++ t117) ++ t118) ++ t119) ++ t120) ++ (⟨#[1]⟩ : ByteArray)) ++ a0_8) ++ t122, 0)) else (none)))) else (none)) else (none)) else (if ((((((((⟨#[157, 227]⟩ : ByteArray) ++ t111) ++ t113) ++ (strOfNums y114)) ++ t117) ++ t118) ++ t119) ++ t120).size + 1 ≤ 9223372036854775807 then (if (((((((((⟨#[157, 227]⟩ : ByteArray) ++ t111) ++ t113) ++ (strOfNums y114)) ++ t117) ++ t118) ++ t119) ++ t120) ++ (⟨#[0]⟩ : ByteArray)).size + a0_8.size ≤ 9223372036854775807 then ((concordref01_Sum.f ((((((((((⟨#[157, 227]⟩ : ByteArray) ++ t111) ++ t113) ++ (strOfNums y114)) ++ t117) ++ t118) ++ t119) ++ t120) ++ (⟨#[0]⟩ : ByteArray)) ++ a0_8)).bind fun t123 => ((concordref01_Fixed.f k (IntKind.u64.wrap (t123)) 4).bind fun t124 => (if ((((((((((⟨#[157, 227]⟩ : ByteArray) ++ t111) ++ t113) ++ (strOfNums y114)) ++ t117) ++ t118) ++ t119) ++ t120) ++ (⟨#[0]⟩ : ByteArray)) ++ a0_8).size + t124.size ≤ 9223372036854775807 then (some (((((((((((⟨#[157, 227]⟩ : ByteArray) ++ t111) ++ t113) ++ (strOfNums y114)) ++ t117) ++ t118) ++ t119) ++ t120) ++ (⟨#[0]⟩ : ByteArray)) ++ a0_8) ++ t124, 0)) else (none)))) else (none)) else (none))) else (none))) else (none))) else (none))) else (none))) else (none))) else (none)))) else (none))) else (some ((⟨#[]⟩ : ByteArray), 210)))
theorem concordref21_Encode.mono : ∀ a0 a1 a2 a3 a4 a5 a6 a7 a8 k, LeO (concordref21_Encode.f k a0 a1 a2 a3 a4 a5 a6 a7 a8) (concordref21_Encode.f (k + 1) a0 a1 a2 a3 a4 a5 a6 a7 a8) := by
 intro a0 a1 a2 a3 a4 a5 a6 a7 a8 k
 unfold concordref21_Encode.f
 repeat' first
   | (with_reducible exact concordref01_Fixed.mono _ _ _)
   | (with_reducible exact LeO.refl _)
   | (with_reducible exact LeO.none _)
   | (with_reducible refine LeO.ite ?_ ?_)
   | (with_reducible refine LeO.bind ?_ (fun _ => ?_))
   | exact concordref01_Fixed.mono _ _ _
   | exact LeO.none _
   | refine LeO.ite ?_ ?_
   | refine LeO.bind ?_ (fun _ => ?_)
def concordref21_Encode.T5 : Bool × List (List Nat × List Nat) := (true, [([], []), ([], []), ([1], [1]), ([], []), ([3], [3]), ([], []), ([5], [5]), ([6], [6]), ([2, 4, 7], [2, 4, 7]), ([8], [8]), ([0, 9], [0, 9]), ([], []), ([11], [11]), ([12], [12]), ([13], [13]), ([14], [14]), ([10, 15], [10, 15]), ([], []), ([17], [17]), ([18], [18]), ([19], [19]), ([20, 15], [20]), ([16, 21], [16, 21]), ([22, 21, 0, 1, 2, 3, 4, 5, 6, 7, 8, 9, 10, 11, 12, 13, 14, 15, 16, 17, 18, 19, 20, 21, 22], [0, 22])])
def concordref21_Encode.B5 : List Nat := [0, 0, 2, 0, 8, 0, 32, 96, 254, 510, 1023, 0, 2048, 6144, 14336, 30720, 65535, 0, 131072, 393216, 917504, 2029568, 4194303, 8388607]
theorem concordref21_Encode.tab5 : rtab .any (opsOf Try.f12 5) = concordref21_Encode.T5 := by kernel_rfl
theorem concordref21_Encode.bits5 : waitsOk concordref21_Encode.T5.2 concordref21_Encode.B5 = true := by kernel_rfl
def concordref21_Encode.T6 : Bool × List (List Nat × List Nat) := (true, [([], []), ([], []), ([1], [1]), ([2], [2]), ([0, 3], [0, 3]), ([], []), ([5], [5]), ([6], [6]), ([7, 3], [7]), ([4, 8], [4, 8]), ([9, 8, 0, 1, 2, 3, 4, 5, 6, 7, 8, 9], [0, 9])])
def concordref21_Encode.B6 : List Nat := [0, 0, 2, 6, 15, 0, 32, 96, 238, 511, 1023]
theorem concordref21_Encode.tab6 : rtab .any (opsOf Try.f12 6) = concordref21_Encode.T6 := by kernel_rfl
theorem concordref21_Encode.bits6 : waitsOk concordref21_Encode.T6.2 concordref21_Encode.B6 = true := by kernel_rfl
set_option maxHeartbeats 8000000 in
set_option maxRecDepth 100000 in
theorem concordref21_Encode.calls (k : Nat) (a0_0 : Int) (a0_1 : Int) (a0_2 : Int) (a0_3 : Int) (a0_4 : Int) (a0_5 : Int) (a0_6 : Int) (a0_7 : Bool) (a0_8 : ByteArray) (r1 : ByteArray) (r2 : Int) (w : World) (h : concordref21_Encode.f k a0_0 a0_1 a0_2 a0_3 a0_4 a0_5 a0_6 a0_7 a0_8 = some (r1, r2)) :
  Calls Try.prog 12 #[.agg #[.int .u8 a0_0, .int .u8 a0_1, .int .u8 a0_2, .int .u16 a0_3, .int .u32 a0_4, .int .u64 a0_5, .int .u32 a0_6, .bool a0_7, .string a0_8]] w fun e w' => e = .returned (.tuple #[.string r1, .int .i64 r2]) ∧ Below w.heap.size w w' := by
 have hu28 := Try.underlying28
 have HB := Aside0.mk (Below.refl w.heap.size w)
 have H : ((concordref21_May.f a0_0 a0_1 a0_2 a0_3 a0_4 a0_5 a0_6 a0_7 a0_8).bind fun t110 => (if t110 = true then ((concordref01_Fixed.f k (IntKind.u64.wrap (wrap64 ((a0_8.size : Int) + 34))) 2).bind fun t111 => (if 2 + t111.size ≤ 9223372036854775807 then ((concordref01_Sum.f ((⟨#[157, 227]⟩ : ByteArray) ++ t111)).bind fun t112 => ((concordref01_Fixed.f k (IntKind.u64.wrap (t112)) 4).bind fun t113 => (if ((⟨#[157, 227]⟩ : ByteArray) ++ t111).size + t113.size ≤ 9223372036854775807 then ((some (([a0_0, a0_1, a0_2] : List Int) : List Int)).bind fun y114 => (if (((⟨#[157, 227]⟩ : ByteArray) ++ t111) ++ t113).size + (strOfNums y114).size ≤ 9223372036854775807 then ((concordref01_Fixed.f k (IntKind.u64.wrap (a0_3)) 2).bind fun t117 => (if ((((⟨#[157, 227]⟩ : ByteArray) ++ t111) ++ t113) ++ (strOfNums y114)).size + t117.size ≤ 9223372036854775807 then ((concordref01_Fixed.f k (IntKind.u64.wrap (a0_4)) 4).bind fun t118 => (if (((((⟨#[157, 227]⟩ : ByteArray) ++ t111) ++ t113) ++ (strOfNums y114)) ++ t117).size + t118.size ≤ 9223372036854775807 then ((concordref01_Fixed.f k a0_5 8).bind fun t119 => (if ((((((⟨#[157, 227]⟩ : ByteArray) ++ t111) ++ t113) ++ (strOfNums y114)) ++ t117) ++ t118).size + t119.size ≤ 9223372036854775807 then ((concordref01_Fixed.f k (IntKind.u64.wrap (a0_6)) 4).bind fun t120 => (if (((((((⟨#[157, 227]⟩ : ByteArray) ++ t111) ++ t113) ++ (strOfNums y114)) ++ t117) ++ t118) ++ t119).size + t120.size ≤ 9223372036854775807 then (if a0_7 = true then (if ((((((((⟨#[157, 227]⟩ : ByteArray) ++ t111) ++ t113) ++ (strOfNums y114)) ++ t117) ++ t118) ++ t119) ++ t120).size + 1 ≤ 9223372036854775807 then (if (((((((((⟨#[157, 227]⟩ : ByteArray) ++ t111) ++ t113) ++ (strOfNums y114)) ++ t117) ++ t118) ++ t119) ++ t120) ++ (⟨#[1]⟩ : ByteArray)).size + a0_8.size ≤ 9223372036854775807 then ((concordref01_Sum.f ((((((((((⟨#[157, 227]⟩ : ByteArray) ++ t111) ++ t113) ++ (strOfNums y114)) ++ t117) ++ t118) ++ t119) ++ t120) ++ (⟨#[1]⟩ : ByteArray)) ++ a0_8)).bind fun t121 => ((concordref01_Fixed.f k (IntKind.u64.wrap (t121)) 4).bind fun t122 => (if ((((((((((⟨#[157, 227]⟩ : ByteArray) ++ t111) ++ t113) ++ (strOfNums y114)) ++ t117) ++ t118) ++ t119) ++ t120) ++ (⟨#[1]⟩ : ByteArray)) ++ a0_8).size + t122.size ≤ 9223372036854775807 then (some (((((((((((⟨#[157, 227]⟩ : ByteArray) ++ t111) ++ t113) ++ (strOfNums y114)) ++ t117) ++ t118) ++ t119) ++ t120) ++ (⟨#[1]⟩ : ByteArray)) ++ a0_8) ++ t122, 0)) else (none)))) else (none)) else (none)) else (if ((((((((⟨#[157, 227]⟩ : ByteArray) ++ t111) ++ t113) ++ (strOfNums y114)) ++ t117) ++ t118) ++ t119) ++ t120).size + 1 ≤ 9223372036854775807 then (if (((((((((⟨#[157, 227]⟩ : ByteArray) ++ t111) ++ t113) ++ (strOfNums y114)) ++ t117) ++ t118) ++ t119) ++ t120) ++ (⟨#[0]⟩ : ByteArray)).size + a0_8.size ≤ 9223372036854775807 then ((concordref01_Sum.f ((((((((((⟨#[157, 227]⟩ : ByteArray) ++ t111) ++ t113) ++ (strOfNums y114)) ++ t117) ++ t118) ++ t119) ++ t120) ++ (⟨#[0]⟩ : ByteArray)) ++ a0_8)).bind fun t123 => ((concordref01_Fixed.f k (IntKind.u64.wrap (t123)) 4).bind fun t124 => (if ((((((((((⟨#[157, 227]⟩ : ByteArray) ++ t111) ++ t113) ++ (strOfNums y114)) ++ t117) ++ t118) ++ t119) ++ t120) ++ (⟨#[0]⟩ : ByteArray)) ++ a0_8).size + t124.size ≤ 9223372036854775807 then (some (((((((((((⟨#[157, 227]⟩ : ByteArray) ++ t111) ++ t113) ++ (strOfNums y114)) ++ t117) ++ t118) ++ t119) ++ t120) ++ (⟨#[0]⟩ : ByteArray)) ++ a0_8) ++ t124, 0)) else (none)))) else (none)) else (none))) else (none))) else (none))) else (none))) else (none))) else (none))) else (none)))) else (none))) else (some ((⟨#[]⟩ : ByteArray), 210)))) = some (r1, r2) := h
 clear h
 replace H := Option.bind_eq_some_iff.mp H
 obtain ⟨t110, A20, H⟩ := H
 replace H : (if t110 = true then ((concordref01_Fixed.f k (IntKind.u64.wrap (wrap64 ((a0_8.size : Int) + 34))) 2).bind fun t111 => (if 2 + t111.size ≤ 9223372036854775807 then ((concordref01_Sum.f ((⟨#[157, 227]⟩ : ByteArray) ++ t111)).bind fun t112 => ((concordref01_Fixed.f k (IntKind.u64.wrap (t112)) 4).bind fun t113 => (if ((⟨#[157, 227]⟩ : ByteArray) ++ t111).size + t113.size ≤ 9223372036854775807 then ((some (([a0_0, a0_1, a0_2] : List Int) : List Int)).bind fun y114 => (if (((⟨#[157, 227]⟩ : ByteArray) ++ t111) ++ t113).size + (strOfNums y114).size ≤ 9223372036854775807 then ((concordref01_Fixed.f k (IntKind.u64.wrap (a0_3)) 2).bind fun t117 => (if ((((⟨#[157, 227]⟩ : ByteArray) ++ t111) ++ t113) ++ (strOfNums y114)).size + t117.size ≤ 9223372036854775807 then ((concordref01_Fixed.f k (IntKind.u64.wrap (a0_4)) 4).bind fun t118 => (if (((((⟨#[157, 227]⟩ : ByteArray) ++ t111) ++ t113) ++ (strOfNums y114)) ++ t117).size + t118.size ≤ 9223372036854775807 then ((concordref01_Fixed.f k a0_5 8).bind fun t119 => (if ((((((⟨#[157, 227]⟩ : ByteArray) ++ t111) ++ t113) ++ (strOfNums y114)) ++ t117) ++ t118).size + t119.size ≤ 9223372036854775807 then ((concordref01_Fixed.f k (IntKind.u64.wrap (a0_6)) 4).bind fun t120 => (if (((((((⟨#[157, 227]⟩ : ByteArray) ++ t111) ++ t113) ++ (strOfNums y114)) ++ t117) ++ t118) ++ t119).size + t120.size ≤ 9223372036854775807 then (if a0_7 = true then (if ((((((((⟨#[157, 227]⟩ : ByteArray) ++ t111) ++ t113) ++ (strOfNums y114)) ++ t117) ++ t118) ++ t119) ++ t120).size + 1 ≤ 9223372036854775807 then (if (((((((((⟨#[157, 227]⟩ : ByteArray) ++ t111) ++ t113) ++ (strOfNums y114)) ++ t117) ++ t118) ++ t119) ++ t120) ++ (⟨#[1]⟩ : ByteArray)).size + a0_8.size ≤ 9223372036854775807 then ((concordref01_Sum.f ((((((((((⟨#[157, 227]⟩ : ByteArray) ++ t111) ++ t113) ++ (strOfNums y114)) ++ t117) ++ t118) ++ t119) ++ t120) ++ (⟨#[1]⟩ : ByteArray)) ++ a0_8)).bind fun t121 => ((concordref01_Fixed.f k (IntKind.u64.wrap (t121)) 4).bind fun t122 => (if ((((((((((⟨#[157, 227]⟩ : ByteArray) ++ t111) ++ t113) ++ (strOfNums y114)) ++ t117) ++ t118) ++ t119) ++ t120) ++ (⟨#[1]⟩ : ByteArray)) ++ a0_8).size + t122.size ≤ 9223372036854775807 then (some (((((((((((⟨#[157, 227]⟩ : ByteArray) ++ t111) ++ t113) ++ (strOfNums y114)) ++ t117) ++ t118) ++ t119) ++ t120) ++ (⟨#[1]⟩ : ByteArray)) ++ a0_8) ++ t122, 0)) else (none)))) else (none)) else (none)) else (if ((((((((⟨#[157, 227]⟩ : ByteArray) ++ t111) ++ t113) ++ (strOfNums y114)) ++ t117) ++ t118) ++ t119) ++ t120).size + 1 ≤ 9223372036854775807 then (if (((((((((⟨#[157, 227]⟩ : ByteArray) ++ t111) ++ t113) ++ (strOfNums y114)) ++ t117) ++ t118) ++ t119) ++ t120) ++ (⟨#[0]⟩ : ByteArray)).size + a0_8.size ≤ 9223372036854775807 then ((concordref01_Sum.f ((((((((((⟨#[157, 227]⟩ : ByteArray) ++ t111) ++ t113) ++ (strOfNums y114)) ++ t117) ++ t118) ++ t119) ++ t120) ++ (⟨#[0]⟩ : ByteArray)) ++ a0_8)).bind fun t123 => ((concordref01_Fixed.f k (IntKind.u64.wrap (t123)) 4).bind fun t124 => (if ((((((((((⟨#[157, 227]⟩ : ByteArray) ++ t111) ++ t113) ++ (strOfNums y114)) ++ t117) ++ t118) ++ t119) ++ t120) ++ (⟨#[0]⟩ : ByteArray)) ++ a0_8).size + t124.size ≤ 9223372036854775807 then (some (((((((((((⟨#[157, 227]⟩ : ByteArray) ++ t111) ++ t113) ++ (strOfNums y114)) ++ t117) ++ t118) ++ t119) ++ t120) ++ (⟨#[0]⟩ : ByteArray)) ++ a0_8) ++ t124, 0)) else (none)))) else (none)) else (none))) else (none))) else (none))) else (none))) else (none))) else (none))) else (none)))) else (none))) else (some ((⟨#[]⟩ : ByteArray), 210))) = some (r1, r2) := H
 have A2 := Aside0.mk A20
 clear A20
 by_cases c3 : t110 = true
 ·subst c3
  have H1 : ((concordref01_Fixed.f k (IntKind.u64.wrap (wrap64 ((a0_8.size : Int) + 34))) 2).bind fun t111 => (if 2 + t111.size ≤ 9223372036854775807 then ((concordref01_Sum.f ((⟨#[157, 227]⟩ : ByteArray) ++ t111)).bind fun t112 => ((concordref01_Fixed.f k (IntKind.u64.wrap (t112)) 4).bind fun t113 => (if ((⟨#[157, 227]⟩ : ByteArray) ++ t111).size + t113.size ≤ 9223372036854775807 then ((some (([a0_0, a0_1, a0_2] : List Int) : List Int)).bind fun y114 => (if (((⟨#[157, 227]⟩ : ByteArray) ++ t111) ++ t113).size + (strOfNums y114).size ≤ 9223372036854775807 then ((concordref01_Fixed.f k (IntKind.u64.wrap (a0_3)) 2).bind fun t117 => (if ((((⟨#[157, 227]⟩ : ByteArray) ++ t111) ++ t113) ++ (strOfNums y114)).size + t117.size ≤ 9223372036854775807 then ((concordref01_Fixed.f k (IntKind.u64.wrap (a0_4)) 4).bind fun t118 => (if (((((⟨#[157, 227]⟩ : ByteArray) ++ t111) ++ t113) ++ (strOfNums y114)) ++ t117).size + t118.size ≤ 9223372036854775807 then ((concordref01_Fixed.f k a0_5 8).bind fun t119 => (if ((((((⟨#[157, 227]⟩ : ByteArray) ++ t111) ++ t113) ++ (strOfNums y114)) ++ t117) ++ t118).size + t119.size ≤ 9223372036854775807 then ((concordref01_Fixed.f k (IntKind.u64.wrap (a0_6)) 4).bind fun t120 => (if (((((((⟨#[157, 227]⟩ : ByteArray) ++ t111) ++ t113) ++ (strOfNums y114)) ++ t117) ++ t118) ++ t119).size + t120.size ≤ 9223372036854775807 then (if a0_7 = true then (if ((((((((⟨#[157, 227]⟩ : ByteArray) ++ t111) ++ t113) ++ (strOfNums y114)) ++ t117) ++ t118) ++ t119) ++ t120).size + 1 ≤ 9223372036854775807 then (if (((((((((⟨#[157, 227]⟩ : ByteArray) ++ t111) ++ t113) ++ (strOfNums y114)) ++ t117) ++ t118) ++ t119) ++ t120) ++ (⟨#[1]⟩ : ByteArray)).size + a0_8.size ≤ 9223372036854775807 then ((concordref01_Sum.f ((((((((((⟨#[157, 227]⟩ : ByteArray) ++ t111) ++ t113) ++ (strOfNums y114)) ++ t117) ++ t118) ++ t119) ++ t120) ++ (⟨#[1]⟩ : ByteArray)) ++ a0_8)).bind fun t121 => ((concordref01_Fixed.f k (IntKind.u64.wrap (t121)) 4).bind fun t122 => (if ((((((((((⟨#[157, 227]⟩ : ByteArray) ++ t111) ++ t113) ++ (strOfNums y114)) ++ t117) ++ t118) ++ t119) ++ t120) ++ (⟨#[1]⟩ : ByteArray)) ++ a0_8).size + t122.size ≤ 9223372036854775807 then (some (((((((((((⟨#[157, 227]⟩ : ByteArray) ++ t111) ++ t113) ++ (strOfNums y114)) ++ t117) ++ t118) ++ t119) ++ t120) ++ (⟨#[1]⟩ : ByteArray)) ++ a0_8) ++ t122, 0)) else (none)))) else (none)) else (none)) else (if ((((((((⟨#[157, 227]⟩ : ByteArray) ++ t111) ++ t113) ++ (strOfNums y114)) ++ t117) ++ t118) ++ t119) ++ t120).size + 1 ≤ 9223372036854775807 then (if (((((((((⟨#[157, 227]⟩ : ByteArray) ++ t111) ++ t113) ++ (strOfNums y114)) ++ t117) ++ t118) ++ t119) ++ t120) ++ (⟨#[0]⟩ : ByteArray)).size + a0_8.size ≤ 9223372036854775807 then ((concordref01_Sum.f ((((((((((⟨#[157, 227]⟩ : ByteArray) ++ t111) ++ t113) ++ (strOfNums y114)) ++ t117) ++ t118) ++ t119) ++ t120) ++ (⟨#[0]⟩ : ByteArray)) ++ a0_8)).bind fun t123 => ((concordref01_Fixed.f k (IntKind.u64.wrap (t123)) 4).bind fun t124 => (if ((((((((((⟨#[157, 227]⟩ : ByteArray) ++ t111) ++ t113) ++ (strOfNums y114)) ++ t117) ++ t118) ++ t119) ++ t120) ++ (⟨#[0]⟩ : ByteArray)) ++ a0_8).size + t124.size ≤ 9223372036854775807 then (some (((((((((((⟨#[157, 227]⟩ : ByteArray) ++ t111) ++ t113) ++ (strOfNums y114)) ++ t117) ++ t118) ++ t119) ++ t120) ++ (⟨#[0]⟩ : ByteArray)) ++ a0_8) ++ t124, 0)) else (none)))) else (none)) else (none))) else (none))) else (none))) else (none))) else (none))) else (none))) else (none)))) else (none))) = some (r1, r2) := by rw [if_pos rfl] at H; exact H
  clear H
  have H := H1
  clear H1
  replace H := Option.bind_eq_some_iff.mp H
  obtain ⟨t111, A40, H⟩ := H
  replace H : (if 2 + t111.size ≤ 9223372036854775807 then ((concordref01_Sum.f ((⟨#[157, 227]⟩ : ByteArray) ++ t111)).bind fun t112 => ((concordref01_Fixed.f k (IntKind.u64.wrap (t112)) 4).bind fun t113 => (if ((⟨#[157, 227]⟩ : ByteArray) ++ t111).size + t113.size ≤ 9223372036854775807 then ((some (([a0_0, a0_1, a0_2] : List Int) : List Int)).bind fun y114 => (if (((⟨#[157, 227]⟩ : ByteArray) ++ t111) ++ t113).size + (strOfNums y114).size ≤ 9223372036854775807 then ((concordref01_Fixed.f k (IntKind.u64.wrap (a0_3)) 2).bind fun t117 => (if ((((⟨#[157, 227]⟩ : ByteArray) ++ t111) ++ t113) ++ (strOfNums y114)).size + t117.size ≤ 9223372036854775807 then ((concordref01_Fixed.f k (IntKind.u64.wrap (a0_4)) 4).bind fun t118 => (if (((((⟨#[157, 227]⟩ : ByteArray) ++ t111) ++ t113) ++ (strOfNums y114)) ++ t117).size + t118.size ≤ 9223372036854775807 then ((concordref01_Fixed.f k a0_5 8).bind fun t119 => (if ((((((⟨#[157, 227]⟩ : ByteArray) ++ t111) ++ t113) ++ (strOfNums y114)) ++ t117) ++ t118).size + t119.size ≤ 9223372036854775807 then ((concordref01_Fixed.f k (IntKind.u64.wrap (a0_6)) 4).bind fun t120 => (if (((((((⟨#[157, 227]⟩ : ByteArray) ++ t111) ++ t113) ++ (strOfNums y114)) ++ t117) ++ t118) ++ t119).size + t120.size ≤ 9223372036854775807 then (if a0_7 = true then (if ((((((((⟨#[157, 227]⟩ : ByteArray) ++ t111) ++ t113) ++ (strOfNums y114)) ++ t117) ++ t118) ++ t119) ++ t120).size + 1 ≤ 9223372036854775807 then (if (((((((((⟨#[157, 227]⟩ : ByteArray) ++ t111) ++ t113) ++ (strOfNums y114)) ++ t117) ++ t118) ++ t119) ++ t120) ++ (⟨#[1]⟩ : ByteArray)).size + a0_8.size ≤ 9223372036854775807 then ((concordref01_Sum.f ((((((((((⟨#[157, 227]⟩ : ByteArray) ++ t111) ++ t113) ++ (strOfNums y114)) ++ t117) ++ t118) ++ t119) ++ t120) ++ (⟨#[1]⟩ : ByteArray)) ++ a0_8)).bind fun t121 => ((concordref01_Fixed.f k (IntKind.u64.wrap (t121)) 4).bind fun t122 => (if ((((((((((⟨#[157, 227]⟩ : ByteArray) ++ t111) ++ t113) ++ (strOfNums y114)) ++ t117) ++ t118) ++ t119) ++ t120) ++ (⟨#[1]⟩ : ByteArray)) ++ a0_8).size + t122.size ≤ 9223372036854775807 then (some (((((((((((⟨#[157, 227]⟩ : ByteArray) ++ t111) ++ t113) ++ (strOfNums y114)) ++ t117) ++ t118) ++ t119) ++ t120) ++ (⟨#[1]⟩ : ByteArray)) ++ a0_8) ++ t122, 0)) else (none)))) else (none)) else (none)) else (if ((((((((⟨#[157, 227]⟩ : ByteArray) ++ t111) ++ t113) ++ (strOfNums y114)) ++ t117) ++ t118) ++ t119) ++ t120).size + 1 ≤ 9223372036854775807 then (if (((((((((⟨#[157, 227]⟩ : ByteArray) ++ t111) ++ t113) ++ (strOfNums y114)) ++ t117) ++ t118) ++ t119) ++ t120) ++ (⟨#[0]⟩ : ByteArray)).size + a0_8.size ≤ 9223372036854775807 then ((concordref01_Sum.f ((((((((((⟨#[157, 227]⟩ : ByteArray) ++ t111) ++ t113) ++ (strOfNums y114)) ++ t117) ++ t118) ++ t119) ++ t120) ++ (⟨#[0]⟩ : ByteArray)) ++ a0_8)).bind fun t123 => ((concordref01_Fixed.f k (IntKind.u64.wrap (t123)) 4).bind fun t124 => (if ((((((((((⟨#[157, 227]⟩ : ByteArray) ++ t111) ++ t113) ++ (strOfNums y114)) ++ t117) ++ t118) ++ t119) ++ t120) ++ (⟨#[0]⟩ : ByteArray)) ++ a0_8).size + t124.size ≤ 9223372036854775807 then (some (((((((((((⟨#[157, 227]⟩ : ByteArray) ++ t111) ++ t113) ++ (strOfNums y114)) ++ t117) ++ t118) ++ t119) ++ t120) ++ (⟨#[0]⟩ : ByteArray)) ++ a0_8) ++ t124, 0)) else (none)))) else (none)) else (none))) else (none))) else (none))) else (none))) else (none))) else (none))) else (none)))) else (none)) = some (r1, r2) := H
  have A4 := Aside0.mk A40
  clear A40
  by_cases c5 : 2 + t111.size ≤ 9223372036854775807
  ·rw [if_pos c5] at H
   have c5b0 := eq_true c5
   have c5b1 : decide (2 + t111.size ≤ 9223372036854775807) = true := decide_eq_true c5
   try have c5b2 : (9223372036854775807 < 2 + t111.size) = False := eq_false (Nat.not_lt.2 c5)
   try (have c5b3 := c5b2; simp only [ByteArray.size_append] at c5b3)
   try (have c5b4 := c5b3; simp only [lsz1, lsz2] at c5b4)
   replace H := Option.bind_eq_some_iff.mp H
   obtain ⟨t112, A60, H⟩ := H
   replace H : ((concordref01_Fixed.f k (IntKind.u64.wrap (t112)) 4).bind fun t113 => (if ((⟨#[157, 227]⟩ : ByteArray) ++ t111).size + t113.size ≤ 9223372036854775807 then ((some (([a0_0, a0_1, a0_2] : List Int) : List Int)).bind fun y114 => (if (((⟨#[157, 227]⟩ : ByteArray) ++ t111) ++ t113).size + (strOfNums y114).size ≤ 9223372036854775807 then ((concordref01_Fixed.f k (IntKind.u64.wrap (a0_3)) 2).bind fun t117 => (if ((((⟨#[157, 227]⟩ : ByteArray) ++ t111) ++ t113) ++ (strOfNums y114)).size + t117.size ≤ 9223372036854775807 then ((concordref01_Fixed.f k (IntKind.u64.wrap (a0_4)) 4).bind fun t118 => (if (((((⟨#[157, 227]⟩ : ByteArray) ++ t111) ++ t113) ++ (strOfNums y114)) ++ t117).size + t118.size ≤ 9223372036854775807 then ((concordref01_Fixed.f k a0_5 8).bind fun t119 => (if ((((((⟨#[157, 227]⟩ : ByteArray) ++ t111) ++ t113) ++ (strOfNums y114)) ++ t117) ++ t118).size + t119.size ≤ 9223372036854775807 then ((concordref01_Fixed.f k (IntKind.u64.wrap (a0_6)) 4).bind fun t120 => (if (((((((⟨#[157, 227]⟩ : ByteArray) ++ t111) ++ t113) ++ (strOfNums y114)) ++ t117) ++ t118) ++ t119).size + t120.size ≤ 9223372036854775807 then (if a0_7 = true then (if ((((((((⟨#[157, 227]⟩ : ByteArray) ++ t111) ++ t113) ++ (strOfNums y114)) ++ t117) ++ t118) ++ t119) ++ t120).size + 1 ≤ 9223372036854775807 then (if (((((((((⟨#[157, 227]⟩ : ByteArray) ++ t111) ++ t113) ++ (strOfNums y114)) ++ t117) ++ t118) ++ t119) ++ t120) ++ (⟨#[1]⟩ : ByteArray)).size + a0_8.size ≤ 9223372036854775807 then ((concordref01_Sum.f ((((((((((⟨#[157, 227]⟩ : ByteArray) ++ t111) ++ t113) ++ (strOfNums y114)) ++ t117) ++ t118) ++ t119) ++ t120) ++ (⟨#[1]⟩ : ByteArray)) ++ a0_8)).bind fun t121 => ((concordref01_Fixed.f k (IntKind.u64.wrap (t121)) 4).bind fun t122 => (if ((((((((((⟨#[157, 227]⟩ : ByteArray) ++ t111) ++ t113) ++ (strOfNums y114)) ++ t117) ++ t118) ++ t119) ++ t120) ++ (⟨#[1]⟩ : ByteArray)) ++ a0_8).size + t122.size ≤ 9223372036854775807 then (some (((((((((((⟨#[157, 227]⟩ : ByteArray) ++ t111) ++ t113) ++ (strOfNums y114)) ++ t117) ++ t118) ++ t119) ++ t120) ++ (⟨#[1]⟩ : ByteArray)) ++ a0_8) ++ t122, 0)) else (none)))) else (none)) else (none)) else (if ((((((((⟨#[157, 227]⟩ : ByteArray) ++ t111) ++ t113) ++ (strOfNums y114)) ++ t117) ++ t118) ++ t119) ++ t120).size + 1 ≤ 9223372036854775807 then (if (((((((((⟨#[157, 227]⟩ : ByteArray) ++ t111) ++ t113) ++ (strOfNums y114)) ++ t117) ++ t118) ++ t119) ++ t120) ++ (⟨#[0]⟩ : ByteArray)).size + a0_8.size ≤ 9223372036854775807 then ((concordref01_Sum.f ((((((((((⟨#[157, 227]⟩ : ByteArray) ++ t111) ++ t113) ++ (strOfNums y114)) ++ t117) ++ t118) ++ t119) ++ t120) ++ (⟨#[0]⟩ : ByteArray)) ++ a0_8)).bind fun t123 => ((concordref01_Fixed.f k (IntKind.u64.wrap (t123)) 4).bind fun t124 => (if ((((((((((⟨#[157, 227]⟩ : ByteArray) ++ t111) ++ t113) ++ (strOfNums y114)) ++ t117) ++ t118) ++ t119) ++ t120) ++ (⟨#[0]⟩ : ByteArray)) ++ a0_8).size + t124.size ≤ 9223372036854775807 then (some (((((((((((⟨#[157, 227]⟩ : ByteArray) ++ t111) ++ t113) ++ (strOfNums y114)) ++ t117) ++ t118) ++ t119) ++ t120) ++ (⟨#[0]⟩ : ByteArray)) ++ a0_8) ++ t124, 0)) else (none)))) else (none)) else (none))) else (none))) else (none))) else (none))) else (none))) else (none))) else (none))) = some (r1, r2) := H
   have A6 := Aside0.mk A60
   clear A60
   replace H := Option.bind_eq_some_iff.mp H
   obtain ⟨t113, A70, H⟩ := H
   replace H : (if ((⟨#[157, 227]⟩ : ByteArray) ++ t111).size + t113.size ≤ 9223372036854775807 then ((some (([a0_0, a0_1, a0_2] : List Int) : List Int)).bind fun y114 => (if (((⟨#[157, 227]⟩ : ByteArray) ++ t111) ++ t113).size + (strOfNums y114).size ≤ 9223372036854775807 then ((concordref01_Fixed.f k (IntKind.u64.wrap (a0_3)) 2).bind fun t117 => (if ((((⟨#[157, 227]⟩ : ByteArray) ++ t111) ++ t113) ++ (strOfNums y114)).size + t117.size ≤ 9223372036854775807 then ((concordref01_Fixed.f k (IntKind.u64.wrap (a0_4)) 4).bind fun t118 => (if (((((⟨#[157, 227]⟩ : ByteArray) ++ t111) ++ t113) ++ (strOfNums y114)) ++ t117).size + t118.size ≤ 9223372036854775807 then ((concordref01_Fixed.f k a0_5 8).bind fun t119 => (if ((((((⟨#[157, 227]⟩ : ByteArray) ++ t111) ++ t113) ++ (strOfNums y114)) ++ t117) ++ t118).size + t119.size ≤ 9223372036854775807 then ((concordref01_Fixed.f k (IntKind.u64.wrap (a0_6)) 4).bind fun t120 => (if (((((((⟨#[157, 227]⟩ : ByteArray) ++ t111) ++ t113) ++ (strOfNums y114)) ++ t117) ++ t118) ++ t119).size + t120.size ≤ 9223372036854775807 then (if a0_7 = true then (if ((((((((⟨#[157, 227]⟩ : ByteArray) ++ t111) ++ t113) ++ (strOfNums y114)) ++ t117) ++ t118) ++ t119) ++ t120).size + 1 ≤ 9223372036854775807 then (if (((((((((⟨#[157, 227]⟩ : ByteArray) ++ t111) ++ t113) ++ (strOfNums y114)) ++ t117) ++ t118) ++ t119) ++ t120) ++ (⟨#[1]⟩ : ByteArray)).size + a0_8.size ≤ 9223372036854775807 then ((concordref01_Sum.f ((((((((((⟨#[157, 227]⟩ : ByteArray) ++ t111) ++ t113) ++ (strOfNums y114)) ++ t117) ++ t118) ++ t119) ++ t120) ++ (⟨#[1]⟩ : ByteArray)) ++ a0_8)).bind fun t121 => ((concordref01_Fixed.f k (IntKind.u64.wrap (t121)) 4).bind fun t122 => (if ((((((((((⟨#[157, 227]⟩ : ByteArray) ++ t111) ++ t113) ++ (strOfNums y114)) ++ t117) ++ t118) ++ t119) ++ t120) ++ (⟨#[1]⟩ : ByteArray)) ++ a0_8).size + t122.size ≤ 9223372036854775807 then (some (((((((((((⟨#[157, 227]⟩ : ByteArray) ++ t111) ++ t113) ++ (strOfNums y114)) ++ t117) ++ t118) ++ t119) ++ t120) ++ (⟨#[1]⟩ : ByteArray)) ++ a0_8) ++ t122, 0)) else (none)))) else (none)) else (none)) else (if ((((((((⟨#[157, 227]⟩ : ByteArray) ++ t111) ++ t113) ++ (strOfNums y114)) ++ t117) ++ t118) ++ t119) ++ t120).size + 1 ≤ 9223372036854775807 then (if (((((((((⟨#[157, 227]⟩ : ByteArray) ++ t111) ++ t113) ++ (strOfNums y114)) ++ t117) ++ t118) ++ t119) ++ t120) ++ (⟨#[0]⟩ : ByteArray)).size + a0_8.size ≤ 9223372036854775807 then ((concordref01_Sum.f ((((((((((⟨#[157, 227]⟩ : ByteArray) ++ t111) ++ t113) ++ (strOfNums y114)) ++ t117) ++ t118) ++ t119) ++ t120) ++ (⟨#[0]⟩ : ByteArray)) ++ a0_8)).bind fun t123 => ((concordref01_Fixed.f k (IntKind.u64.wrap (t123)) 4).bind fun t124 => (if ((((((((((⟨#[157, 227]⟩ : ByteArray) ++ t111) ++ t113) ++ (strOfNums y114)) ++ t117) ++ t118) ++ t119) ++ t120) ++ (⟨#[0]⟩ : ByteArray)) ++ a0_8).size + t124.size ≤ 9223372036854775807 then (some (((((((((((⟨#[157, 227]⟩ : ByteArray) ++ t111) ++ t113) ++ (strOfNums y114)) ++ t117) ++ t118) ++ t119) ++ t120) ++ (⟨#[0]⟩ : ByteArray)) ++ a0_8) ++ t124, 0)) else (none)))) else (none)) else (none))) else (none))) else (none))) else (none))) else (none))) else (none))) else (none)) = some (r1, r2) := H
   have A7 := Aside0.mk A70
   clear A70
   by_cases c8 : ((⟨#[157, 227]⟩ : ByteArray) ++ t111).size + t113.size ≤ 9223372036854775807
   ·rw [if_pos c8] at H
    have c8b0 := eq_true c8
    have c8b1 : decide (((⟨#[157, 227]⟩ : ByteArray) ++ t111).size + t113.size ≤ 9223372036854775807) = true := decide_eq_true c8
    try have c8b2 : (9223372036854775807 < ((⟨#[157, 227]⟩ : ByteArray) ++ t111).size + t113.size) = False := eq_false (Nat.not_lt.2 c8)
    try (have c8b3 := c8b2; simp only [ByteArray.size_append] at c8b3)
    try (have c8b4 := c8b3; simp only [lsz1, lsz2] at c8b4)
    obtain ⟨y114, hy114⟩ : ∃ y_ : List Int, y_ = (([a0_0, a0_1, a0_2] : List Int)) := ⟨_, rfl⟩
    replace H : (if (((⟨#[157, 227]⟩ : ByteArray) ++ t111) ++ t113).size + (strOfNums y114).size ≤ 9223372036854775807 then ((concordref01_Fixed.f k (IntKind.u64.wrap (a0_3)) 2).bind fun t117 => (if ((((⟨#[157, 227]⟩ : ByteArray) ++ t111) ++ t113) ++ (strOfNums y114)).size + t117.size ≤ 9223372036854775807 then ((concordref01_Fixed.f k (IntKind.u64.wrap (a0_4)) 4).bind fun t118 => (if (((((⟨#[157, 227]⟩ : ByteArray) ++ t111) ++ t113) ++ (strOfNums y114)) ++ t117).size + t118.size ≤ 9223372036854775807 then ((concordref01_Fixed.f k a0_5 8).bind fun t119 => (if ((((((⟨#[157, 227]⟩ : ByteArray) ++ t111) ++ t113) ++ (strOfNums y114)) ++ t117) ++ t118).size + t119.size ≤ 9223372036854775807 then ((concordref01_Fixed.f k (IntKind.u64.wrap (a0_6)) 4).bind fun t120 => (if (((((((⟨#[157, 227]⟩ : ByteArray) ++ t111) ++ t113) ++ (strOfNums y114)) ++ t117) ++ t118) ++ t119).size + t120.size ≤ 9223372036854775807 then (if a0_7 = true then (if ((((((((⟨#[157, 227]⟩ : ByteArray) ++ t111) ++ t113) ++ (strOfNums y114)) ++ t117) ++ t118) ++ t119) ++ t120).size + 1 ≤ 9223372036854775807 then (if (((((((((⟨#[157, 227]⟩ : ByteArray) ++ t111) ++ t113) ++ (strOfNums y114)) ++ t117) ++ t118) ++ t119) ++ t120) ++ (⟨#[1]⟩ : ByteArray)).size + a0_8.size ≤ 9223372036854775807 then ((concordref01_Sum.f ((((((((((⟨#[157, 227]⟩ : ByteArray) ++ t111) ++ t113) ++ (strOfNums y114)) ++ t117) ++ t118) ++ t119) ++ t120) ++ (⟨#[1]⟩ : ByteArray)) ++ a0_8)).bind fun t121 => ((concordref01_Fixed.f k (IntKind.u64.wrap (t121)) 4).bind fun t122 => (if ((((((((((⟨#[157, 227]⟩ : ByteArray) ++ t111) ++ t113) ++ (strOfNums y114)) ++ t117) ++ t118) ++ t119) ++ t120) ++ (⟨#[1]⟩ : ByteArray)) ++ a0_8).size + t122.size ≤ 9223372036854775807 then (some (((((((((((⟨#[157, 227]⟩ : ByteArray) ++ t111) ++ t113) ++ (strOfNums y114)) ++ t117) ++ t118) ++ t119) ++ t120) ++ (⟨#[1]⟩ : ByteArray)) ++ a0_8) ++ t122, 0)) else (none)))) else (none)) else (none)) else (if ((((((((⟨#[157, 227]⟩ : ByteArray) ++ t111) ++ t113) ++ (strOfNums y114)) ++ t117) ++ t118) ++ t119) ++ t120).size + 1 ≤ 9223372036854775807 then (if (((((((((⟨#[157, 227]⟩ : ByteArray) ++ t111) ++ t113) ++ (strOfNums y114)) ++ t117) ++ t118) ++ t119) ++ t120) ++ (⟨#[0]⟩ : ByteArray)).size + a0_8.size ≤ 9223372036854775807 then ((concordref01_Sum.f ((((((((((⟨#[157, 227]⟩ : ByteArray) ++ t111) ++ t113) ++ (strOfNums y114)) ++ t117) ++ t118) ++ t119) ++ t120) ++ (⟨#[0]⟩ : ByteArray)) ++ a0_8)).bind fun t123 => ((concordref01_Fixed.f k (IntKind.u64.wrap (t123)) 4).bind fun t124 => (if ((((((((((⟨#[157, 227]⟩ : ByteArray) ++ t111) ++ t113) ++ (strOfNums y114)) ++ t117) ++ t118) ++ t119) ++ t120) ++ (⟨#[0]⟩ : ByteArray)) ++ a0_8).size + t124.size ≤ 9223372036854775807 then (some (((((((((((⟨#[157, 227]⟩ : ByteArray) ++ t111) ++ t113) ++ (strOfNums y114)) ++ t117) ++ t118) ++ t119) ++ t120) ++ (⟨#[0]⟩ : ByteArray)) ++ a0_8) ++ t124, 0)) else (none)))) else (none)) else (none))) else (none))) else (none))) else (none))) else (none))) else (none)) = some (r1, r2) := by first | (rw [hy114]; with_reducible exact H) | (have H2_ := (Option.bind_some _ _).symm.trans H; rw [hy114]; with_reducible exact H2_) | (have H2_ := (Option.bind_some _ _).symm.trans H; with_reducible exact H2_) | with_reducible exact H | (rw [hy114]; exact H) | exact H
    have Ny114 := Aside0.mk hy114
    clear hy114
    by_cases c9 : (((⟨#[157, 227]⟩ : ByteArray) ++ t111) ++ t113).size + (strOfNums y114).size ≤ 9223372036854775807
    ·rw [if_pos c9] at H
     have c9b0 := eq_true c9
     have c9b1 : decide ((((⟨#[157, 227]⟩ : ByteArray) ++ t111) ++ t113).size + (strOfNums y114).size ≤ 9223372036854775807) = true := decide_eq_true c9
     try have c9b2 : (9223372036854775807 < (((⟨#[157, 227]⟩ : ByteArray) ++ t111) ++ t113).size + (strOfNums y114).size) = False := eq_false (Nat.not_lt.2 c9)
     try (have c9b3 := c9b2; simp only [ByteArray.size_append] at c9b3)
     try (have c9b4 := c9b3; simp only [lsz1, lsz2] at c9b4)
     replace H := Option.bind_eq_some_iff.mp H
     obtain ⟨t117, A100, H⟩ := H
     replace H : (if ((((⟨#[157, 227]⟩ : ByteArray) ++ t111) ++ t113) ++ (strOfNums y114)).size + t117.size ≤ 9223372036854775807 then ((concordref01_Fixed.f k (IntKind.u64.wrap (a0_4)) 4).bind fun t118 => (if (((((⟨#[157, 227]⟩ : ByteArray) ++ t111) ++ t113) ++ (strOfNums y114)) ++ t117).size + t118.size ≤ 9223372036854775807 then ((concordref01_Fixed.f k a0_5 8).bind fun t119 => (if ((((((⟨#[157, 227]⟩ : ByteArray) ++ t111) ++ t113) ++ (strOfNums y114)) ++ t117) ++ t118).size + t119.size ≤ 9223372036854775807 then ((concordref01_Fixed.f k (IntKind.u64.wrap (a0_6)) 4).bind fun t120 => (if (((((((⟨#[157, 227]⟩ : ByteArray) ++ t111) ++ t113) ++ (strOfNums y114)) ++ t117) ++ t118) ++ t119).size + t120.size ≤ 9223372036854775807 then (if a0_7 = true then (if ((((((((⟨#[157, 227]⟩ : ByteArray) ++ t111) ++ t113) ++ (strOfNums y114)) ++ t117) ++ t118) ++ t119) ++ t120).size + 1 ≤ 9223372036854775807 then (if (((((((((⟨#[157, 227]⟩ : ByteArray) ++ t111) ++ t113) ++ (strOfNums y114)) ++ t117) ++ t118) ++ t119) ++ t120) ++ (⟨#[1]⟩ : ByteArray)).size + a0_8.size ≤ 9223372036854775807 then ((concordref01_Sum.f ((((((((((⟨#[157, 227]⟩ : ByteArray) ++ t111) ++ t113) ++ (strOfNums y114)) ++ t117) ++ t118) ++ t119) ++ t120) ++ (⟨#[1]⟩ : ByteArray)) ++ a0_8)).bind fun t121 => ((concordref01_Fixed.f k (IntKind.u64.wrap (t121)) 4).bind fun t122 => (if ((((((((((⟨#[157, 227]⟩ : ByteArray) ++ t111) ++ t113) ++ (strOfNums y114)) ++ t117) ++ t118) ++ t119) ++ t120) ++ (⟨#[1]⟩ : ByteArray)) ++ a0_8).size + t122.size ≤ 9223372036854775807 then (some (((((((((((⟨#[157, 227]⟩ : ByteArray) ++ t111) ++ t113) ++ (strOfNums y114)) ++ t117) ++ t118) ++ t119) ++ t120) ++ (⟨#[1]⟩ : ByteArray)) ++ a0_8) ++ t122, 0)) else (none)))) else (none)) else (none)) else (if ((((((((⟨#[157, 227]⟩ : ByteArray) ++ t111) ++ t113) ++ (strOfNums y114)) ++ t117) ++ t118) ++ t119) ++ t120).size + 1 ≤ 9223372036854775807 then (if (((((((((⟨#[157, 227]⟩ : ByteArray) ++ t111) ++ t113) ++ (strOfNums y114)) ++ t117) ++ t118) ++ t119) ++ t120) ++ (⟨#[0]⟩ : ByteArray)).size + a0_8.size ≤ 9223372036854775807 then ((concordref01_Sum.f ((((((((((⟨#[157, 227]⟩ : ByteArray) ++ t111) ++ t113) ++ (strOfNums y114)) ++ t117) ++ t118) ++ t119) ++ t120) ++ (⟨#[0]⟩ : ByteArray)) ++ a0_8)).bind fun t123 => ((concordref01_Fixed.f k (IntKind.u64.wrap (t123)) 4).bind fun t124 => (if ((((((((((⟨#[157, 227]⟩ : ByteArray) ++ t111) ++ t113) ++ (strOfNums y114)) ++ t117) ++ t118) ++ t119) ++ t120) ++ (⟨#[0]⟩ : ByteArray)) ++ a0_8).size + t124.size ≤ 9223372036854775807 then (some (((((((((((⟨#[157, 227]⟩ : ByteArray) ++ t111) ++ t113) ++ (strOfNums y114)) ++ t117) ++ t118) ++ t119) ++ t120) ++ (⟨#[0]⟩ : ByteArray)) ++ a0_8) ++ t124, 0)) else (none)))) else (none)) else (none))) else (none))) else (none))) else (none))) else (none)) = some (r1, r2) := H
     have A10 := Aside0.mk A100
     clear A100
     by_cases c11 : ((((⟨#[157, 227]⟩ : ByteArray) ++ t111) ++ t113) ++ (strOfNums y114)).size + t117.size ≤ 9223372036854775807
     ·rw [if_pos c11] at H
      have c11b0 := eq_true c11
      have c11b1 : decide (((((⟨#[157, 227]⟩ : ByteArray) ++ t111) ++ t113) ++ (strOfNums y114)).size + t117.size ≤ 9223372036854775807) = true := decide_eq_true c11
      try have c11b2 : (9223372036854775807 < ((((⟨#[157, 227]⟩ : ByteArray) ++ t111) ++ t113) ++ (strOfNums y114)).size + t117.size) = False := eq_false (Nat.not_lt.2 c11)
      try (have c11b3 := c11b2; simp only [ByteArray.size_append] at c11b3)
      try (have c11b4 := c11b3; simp only [lsz1, lsz2] at c11b4)
      replace H := Option.bind_eq_some_iff.mp H
      obtain ⟨t118, A120, H⟩ := H
      replace H : (if (((((⟨#[157, 227]⟩ : ByteArray) ++ t111) ++ t113) ++ (strOfNums y114)) ++ t117).size + t118.size ≤ 9223372036854775807 then ((concordref01_Fixed.f k a0_5 8).bind fun t119 => (if ((((((⟨#[157, 227]⟩ : ByteArray) ++ t111) ++ t113) ++ (strOfNums y114)) ++ t117) ++ t118).size + t119.size ≤ 9223372036854775807 then ((concordref01_Fixed.f k (IntKind.u64.wrap (a0_6)) 4).bind fun t120 => (if (((((((⟨#[157, 227]⟩ : ByteArray) ++ t111) ++ t113) ++ (strOfNums y114)) ++ t117) ++ t118) ++ t119).size + t120.size ≤ 9223372036854775807 then (if a0_7 = true then (if ((((((((⟨#[157, 227]⟩ : ByteArray) ++ t111) ++ t113) ++ (strOfNums y114)) ++ t117) ++ t118) ++ t119) ++ t120).size + 1 ≤ 9223372036854775807 then (if (((((((((⟨#[157, 227]⟩ : ByteArray) ++ t111) ++ t113) ++ (strOfNums y114)) ++ t117) ++ t118) ++ t119) ++ t120) ++ (⟨#[1]⟩ : ByteArray)).size + a0_8.size ≤ 9223372036854775807 then ((concordref01_Sum.f ((((((((((⟨#[157, 227]⟩ : ByteArray) ++ t111) ++ t113) ++ (strOfNums y114)) ++ t117) ++ t118) ++ t119) ++ t120) ++ (⟨#[1]⟩ : ByteArray)) ++ a0_8)).bind fun t121 => ((concordref01_Fixed.f k (IntKind.u64.wrap (t121)) 4).bind fun t122 => (if ((((((((((⟨#[157, 227]⟩ : ByteArray) ++ t111) ++ t113) ++ (strOfNums y114)) ++ t117) ++ t118) ++ t119) ++ t120) ++ (⟨#[1]⟩ : ByteArray)) ++ a0_8).size + t122.size ≤ 9223372036854775807 then (some (((((((((((⟨#[157, 227]⟩ : ByteArray) ++ t111) ++ t113) ++ (strOfNums y114)) ++ t117) ++ t118) ++ t119) ++ t120) ++ (⟨#[1]⟩ : ByteArray)) ++ a0_8) ++ t122, 0)) else (none)))) else (none)) else (none)) else (if ((((((((⟨#[157, 227]⟩ : ByteArray) ++ t111) ++ t113) ++ (strOfNums y114)) ++ t117) ++ t118) ++ t119) ++ t120).size + 1 ≤ 9223372036854775807 then (if (((((((((⟨#[157, 227]⟩ : ByteArray) ++ t111) ++ t113) ++ (strOfNums y114)) ++ t117) ++ t118) ++ t119) ++ t120) ++ (⟨#[0]⟩ : ByteArray)).size + a0_8.size ≤ 9223372036854775807 then ((concordref01_Sum.f ((((((((((⟨#[157, 227]⟩ : ByteArray) ++ t111) ++ t113) ++ (strOfNums y114)) ++ t117) ++ t118) ++ t119) ++ t120) ++ (⟨#[0]⟩ : ByteArray)) ++ a0_8)).bind fun t123 => ((concordref01_Fixed.f k (IntKind.u64.wrap (t123)) 4).bind fun t124 => (if ((((((((((⟨#[157, 227]⟩ : ByteArray) ++ t111) ++ t113) ++ (strOfNums y114)) ++ t117) ++ t118) ++ t119) ++ t120) ++ (⟨#[0]⟩ : ByteArray)) ++ a0_8).size + t124.size ≤ 9223372036854775807 then (some (((((((((((⟨#[157, 227]⟩ : ByteArray) ++ t111) ++ t113) ++ (strOfNums y114)) ++ t117) ++ t118) ++ t119) ++ t120) ++ (⟨#[0]⟩ : ByteArray)) ++ a0_8) ++ t124, 0)) else (none)))) else (none)) else (none))) else (none))) else (none))) else (none)) = some (r1, r2) := H
      have A12 := Aside0.mk A120
      clear A120
      by_cases c13 : (((((⟨#[157, 227]⟩ : ByteArray) ++ t111) ++ t113) ++ (strOfNums y114)) ++ t117).size + t118.size ≤ 9223372036854775807
      ·rw [if_pos c13] at H
       have c13b0 := eq_true c13
       have c13b1 : decide ((((((⟨#[157, 227]⟩ : ByteArray) ++ t111) ++ t113) ++ (strOfNums y114)) ++ t117).size + t118.size ≤ 9223372036854775807) = true := decide_eq_true c13
       try have c13b2 : (9223372036854775807 < (((((⟨#[157, 227]⟩ : ByteArray) ++ t111) ++ t113) ++ (strOfNums y114)) ++ t117).size + t118.size) = False := eq_false (Nat.not_lt.2 c13)
       try (have c13b3 := c13b2; simp only [ByteArray.size_append] at c13b3)
       try (have c13b4 := c13b3; simp only [lsz1, lsz2] at c13b4)
       replace H := Option.bind_eq_some_iff.mp H
       obtain ⟨t119, A140, H⟩ := H
       replace H : (if ((((((⟨#[157, 227]⟩ : ByteArray) ++ t111) ++ t113) ++ (strOfNums y114)) ++ t117) ++ t118).size + t119.size ≤ 9223372036854775807 then ((concordref01_Fixed.f k (IntKind.u64.wrap (a0_6)) 4).bind fun t120 => (if (((((((⟨#[157, 227]⟩ : ByteArray) ++ t111) ++ t113) ++ (strOfNums y114)) ++ t117) ++ t118) ++ t119).size + t120.size ≤ 9223372036854775807 then (if a0_7 = true then (if ((((((((⟨#[157, 227]⟩ : ByteArray) ++ t111) ++ t113) ++ (strOfNums y114)) ++ t117) ++ t118) ++ t119) ++ t120).size + 1 ≤ 9223372036854775807 then (if (((((((((⟨#[157, 227]⟩ : ByteArray) ++ t111) ++ t113) ++ (strOfNums y114)) ++ t117) ++ t118) ++ t119) ++ t120) ++ (⟨#[1]⟩ : ByteArray)).size + a0_8.size ≤ 9223372036854775807 then ((concordref01_Sum.f ((((((((((⟨#[157, 227]⟩ : ByteArray) ++ t111) ++ t113) ++ (strOfNums y114)) ++ t117) ++ t118) ++ t119) ++ t120) ++ (⟨#[1]⟩ : ByteArray)) ++ a0_8)).bind fun t121 => ((concordref01_Fixed.f k (IntKind.u64.wrap (t121)) 4).bind fun t122 => (if ((((((((((⟨#[157, 227]⟩ : ByteArray) ++ t111) ++ t113) ++ (strOfNums y114)) ++ t117) ++ t118) ++ t119) ++ t120) ++ (⟨#[1]⟩ : ByteArray)) ++ a0_8).size + t122.size ≤ 9223372036854775807 then (some (((((((((((⟨#[157, 227]⟩ : ByteArray) ++ t111) ++ t113) ++ (strOfNums y114)) ++ t117) ++ t118) ++ t119) ++ t120) ++ (⟨#[1]⟩ : ByteArray)) ++ a0_8) ++ t122, 0)) else (none)))) else (none)) else (none)) else (if ((((((((⟨#[157, 227]⟩ : ByteArray) ++ t111) ++ t113) ++ (strOfNums y114)) ++ t117) ++ t118) ++ t119) ++ t120).size + 1 ≤ 9223372036854775807 then (if (((((((((⟨#[157, 227]⟩ : ByteArray) ++ t111) ++ t113) ++ (strOfNums y114)) ++ t117) ++ t118) ++ t119) ++ t120) ++ (⟨#[0]⟩ : ByteArray)).size + a0_8.size ≤ 9223372036854775807 then ((concordref01_Sum.f ((((((((((⟨#[157, 227]⟩ : ByteArray) ++ t111) ++ t113) ++ (strOfNums y114)) ++ t117) ++ t118) ++ t119) ++ t120) ++ (⟨#[0]⟩ : ByteArray)) ++ a0_8)).bind fun t123 => ((concordref01_Fixed.f k (IntKind.u64.wrap (t123)) 4).bind fun t124 => (if ((((((((((⟨#[157, 227]⟩ : ByteArray) ++ t111) ++ t113) ++ (strOfNums y114)) ++ t117) ++ t118) ++ t119) ++ t120) ++ (⟨#[0]⟩ : ByteArray)) ++ a0_8).size + t124.size ≤ 9223372036854775807 then (some (((((((((((⟨#[157, 227]⟩ : ByteArray) ++ t111) ++ t113) ++ (strOfNums y114)) ++ t117) ++ t118) ++ t119) ++ t120) ++ (⟨#[0]⟩ : ByteArray)) ++ a0_8) ++ t124, 0)) else (none)))) else (none)) else (none))) else (none))) else (none)) = some (r1, r2) := H
       have A14 := Aside0.mk A140
       clear A140
       by_cases c15 : ((((((⟨#[157, 227]⟩ : ByteArray) ++ t111) ++ t113) ++ (strOfNums y114)) ++ t117) ++ t118).size + t119.size ≤ 9223372036854775807
       ·rw [if_pos c15] at H
        have c15b0 := eq_true c15
        have c15b1 : decide (((((((⟨#[157, 227]⟩ : ByteArray) ++ t111) ++ t113) ++ (strOfNums y114)) ++ t117) ++ t118).size + t119.size ≤ 9223372036854775807) = true := decide_eq_true c15
        try have c15b2 : (9223372036854775807 < ((((((⟨#[157, 227]⟩ : ByteArray) ++ t111) ++ t113) ++ (strOfNums y114)) ++ t117) ++ t118).size + t119.size) = False := eq_false (Nat.not_lt.2 c15)
        try (have c15b3 := c15b2; simp only [ByteArray.size_append] at c15b3)
        try (have c15b4 := c15b3; simp only [lsz1, lsz2] at c15b4)
        replace H := Option.bind_eq_some_iff.mp H
        obtain ⟨t120, A160, H⟩ := H
        replace H : (if (((((((⟨#[157, 227]⟩ : ByteArray) ++ t111) ++ t113) ++ (strOfNums y114)) ++ t117) ++ t118) ++ t119).size + t120.size ≤ 9223372036854775807 then (if a0_7 = true then (if ((((((((⟨#[157, 227]⟩ : ByteArray) ++ t111) ++ t113) ++ (strOfNums y114)) ++ t117) ++ t118) ++ t119) ++ t120).size + 1 ≤ 9223372036854775807 then (if (((((((((⟨#[157, 227]⟩ : ByteArray) ++ t111) ++ t113) ++ (strOfNums y114)) ++ t117) ++ t118) ++ t119) ++ t120) ++ (⟨#[1]⟩ : ByteArray)).size + a0_8.size ≤ 9223372036854775807 then ((concordref01_Sum.f ((((((((((⟨#[157, 227]⟩ : ByteArray) ++ t111) ++ t113) ++ (strOfNums y114)) ++ t117) ++ t118) ++ t119) ++ t120) ++ (⟨#[1]⟩ : ByteArray)) ++ a0_8)).bind fun t121 => ((concordref01_Fixed.f k (IntKind.u64.wrap (t121)) 4).bind fun t122 => (if ((((((((((⟨#[157, 227]⟩ : ByteArray) ++ t111) ++ t113) ++ (strOfNums y114)) ++ t117) ++ t118) ++ t119) ++ t120) ++ (⟨#[1]⟩ : ByteArray)) ++ a0_8).size + t122.size ≤ 9223372036854775807 then (some (((((((((((⟨#[157, 227]⟩ : ByteArray) ++ t111) ++ t113) ++ (strOfNums y114)) ++ t117) ++ t118) ++ t119) ++ t120) ++ (⟨#[1]⟩ : ByteArray)) ++ a0_8) ++ t122, 0)) else (none)))) else (none)) else (none)) else (if ((((((((⟨#[157, 227]⟩ : ByteArray) ++ t111) ++ t113) ++ (strOfNums y114)) ++ t117) ++ t118) ++ t119) ++ t120).size + 1 ≤ 9223372036854775807 then (if (((((((((⟨#[157, 227]⟩ : ByteArray) ++ t111) ++ t113) ++ (strOfNums y114)) ++ t117) ++ t118) ++ t119) ++ t120) ++ (⟨#[0]⟩ : ByteArray)).size + a0_8.size ≤ 9223372036854775807 then ((concordref01_Sum.f ((((((((((⟨#[157, 227]⟩ : ByteArray) ++ t111) ++ t113) ++ (strOfNums y114)) ++ t117) ++ t118) ++ t119) ++ t120) ++ (⟨#[0]⟩ : ByteArray)) ++ a0_8)).bind fun t123 => ((concordref01_Fixed.f k (IntKind.u64.wrap (t123)) 4).bind fun t124 => (if ((((((((((⟨#[157, 227]⟩ : ByteArray) ++ t111) ++ t113) ++ (strOfNums y114)) ++ t117) ++ t118) ++ t119) ++ t120) ++ (⟨#[0]⟩ : ByteArray)) ++ a0_8).size + t124.size ≤ 9223372036854775807 then (some (((((((((((⟨#[157, 227]⟩ : ByteArray) ++ t111) ++ t113) ++ (strOfNums y114)) ++ t117) ++ t118) ++ t119) ++ t120) ++ (⟨#[0]⟩ : ByteArray)) ++ a0_8) ++ t124, 0)) else (none)))) else (none)) else (none))) else (none)) = some (r1, r2) := H
        have A16 := Aside0.mk A160
        clear A160
        by_cases c17 : (((((((⟨#[157, 227]⟩ : ByteArray) ++ t111) ++ t113) ++ (strOfNums y114)) ++ t117) ++ t118) ++ t119).size + t120.size ≤ 9223372036854775807
        ·rw [if_pos c17] at H
         have c17b0 := eq_true c17
         have c17b1 : decide ((((((((⟨#[157, 227]⟩ : ByteArray) ++ t111) ++ t113) ++ (strOfNums y114)) ++ t117) ++ t118) ++ t119).size + t120.size ≤ 9223372036854775807) = true := decide_eq_true c17
         try have c17b2 : (9223372036854775807 < (((((((⟨#[157, 227]⟩ : ByteArray) ++ t111) ++ t113) ++ (strOfNums y114)) ++ t117) ++ t118) ++ t119).size + t120.size) = False := eq_false (Nat.not_lt.2 c17)
         try (have c17b3 := c17b2; simp only [ByteArray.size_append] at c17b3)
         try (have c17b4 := c17b3; simp only [lsz1, lsz2] at c17b4)
         by_cases c18 : a0_7 = true
         ·subst c18
          have H1 : (if ((((((((⟨#[157, 227]⟩ : ByteArray) ++ t111) ++ t113) ++ (strOfNums y114)) ++ t117) ++ t118) ++ t119) ++ t120).size + 1 ≤ 9223372036854775807 then (if (((((((((⟨#[157, 227]⟩ : ByteArray) ++ t111) ++ t113) ++ (strOfNums y114)) ++ t117) ++ t118) ++ t119) ++ t120) ++ (⟨#[1]⟩ : ByteArray)).size + a0_8.size ≤ 9223372036854775807 then ((concordref01_Sum.f ((((((((((⟨#[157, 227]⟩ : ByteArray) ++ t111) ++ t113) ++ (strOfNums y114)) ++ t117) ++ t118) ++ t119) ++ t120) ++ (⟨#[1]⟩ : ByteArray)) ++ a0_8)).bind fun t121 => ((concordref01_Fixed.f k (IntKind.u64.wrap (t121)) 4).bind fun t122 => (if ((((((((((⟨#[157, 227]⟩ : ByteArray) ++ t111) ++ t113) ++ (strOfNums y114)) ++ t117) ++ t118) ++ t119) ++ t120) ++ (⟨#[1]⟩ : ByteArray)) ++ a0_8).size + t122.size ≤ 9223372036854775807 then (some (((((((((((⟨#[157, 227]⟩ : ByteArray) ++ t111) ++ t113) ++ (strOfNums y114)) ++ t117) ++ t118) ++ t119) ++ t120) ++ (⟨#[1]⟩ : ByteArray)) ++ a0_8) ++ t122, 0)) else (none)))) else (none)) else (none)) = some (r1, r2) := by rw [if_pos rfl] at H; exact H
          clear H
          have H := H1
          clear H1
          by_cases c19 : ((((((((⟨#[157, 227]⟩ : ByteArray) ++ t111) ++ t113) ++ (strOfNums y114)) ++ t117) ++ t118) ++ t119) ++ t120).size + 1 ≤ 9223372036854775807
          ·rw [if_pos c19] at H
           have c19b0 := eq_true c19
           have c19b1 : decide (((((((((⟨#[157, 227]⟩ : ByteArray) ++ t111) ++ t113) ++ (strOfNums y114)) ++ t117) ++ t118) ++ t119) ++ t120).size + 1 ≤ 9223372036854775807) = true := decide_eq_true c19
           try have c19b2 : (9223372036854775807 < ((((((((⟨#[157, 227]⟩ : ByteArray) ++ t111) ++ t113) ++ (strOfNums y114)) ++ t117) ++ t118) ++ t119) ++ t120).size + 1) = False := eq_false (Nat.not_lt.2 c19)
           try (have c19b3 := c19b2; simp only [ByteArray.size_append] at c19b3)
           try (have c19b4 := c19b3; simp only [lsz1, lsz2] at c19b4)
           by_cases c20 : (((((((((⟨#[157, 227]⟩ : ByteArray) ++ t111) ++ t113) ++ (strOfNums y114)) ++ t117) ++ t118) ++ t119) ++ t120) ++ (⟨#[1]⟩ : ByteArray)).size + a0_8.size ≤ 9223372036854775807
           ·rw [if_pos c20] at H
            have c20b0 := eq_true c20
            have c20b1 : decide ((((((((((⟨#[157, 227]⟩ : ByteArray) ++ t111) ++ t113) ++ (strOfNums y114)) ++ t117) ++ t118) ++ t119) ++ t120) ++ (⟨#[1]⟩ : ByteArray)).size + a0_8.size ≤ 9223372036854775807) = true := decide_eq_true c20
            try have c20b2 : (9223372036854775807 < (((((((((⟨#[157, 227]⟩ : ByteArray) ++ t111) ++ t113) ++ (strOfNums y114)) ++ t117) ++ t118) ++ t119) ++ t120) ++ (⟨#[1]⟩ : ByteArray)).size + a0_8.size) = False := eq_false (Nat.not_lt.2 c20)
            try (have c20b3 := c20b2; simp only [ByteArray.size_append] at c20b3)
            try (have c20b4 := c20b3; simp only [lsz1, lsz2] at c20b4)
            replace H := Option.bind_eq_some_iff.mp H
            obtain ⟨t121, A210, H⟩ := H
            replace H : ((concordref01_Fixed.f k (IntKind.u64.wrap (t121)) 4).bind fun t122 => (if ((((((((((⟨#[157, 227]⟩ : ByteArray) ++ t111) ++ t113) ++ (strOfNums y114)) ++ t117) ++ t118) ++ t119) ++ t120) ++ (⟨#[1]⟩ : ByteArray)) ++ a0_8).size + t122.size ≤ 9223372036854775807 then (some (((((((((((⟨#[157, 227]⟩ : ByteArray) ++ t111) ++ t113) ++ (strOfNums y114)) ++ t117) ++ t118) ++ t119) ++ t120) ++ (⟨#[1]⟩ : ByteArray)) ++ a0_8) ++ t122, 0)) else (none))) = some (r1, r2) := H
            have A21 := Aside0.mk A210
            clear A210
            replace H := Option.bind_eq_some_iff.mp H
            obtain ⟨t122, A220, H⟩ := H
            replace H : (if ((((((((((⟨#[157, 227]⟩ : ByteArray) ++ t111) ++ t113) ++ (strOfNums y114)) ++ t117) ++ t118) ++ t119) ++ t120) ++ (⟨#[1]⟩ : ByteArray)) ++ a0_8).size + t122.size ≤ 9223372036854775807 then (some (((((((((((⟨#[157, 227]⟩ : ByteArray) ++ t111) ++ t113) ++ (strOfNums y114)) ++ t117) ++ t118) ++ t119) ++ t120) ++ (⟨#[1]⟩ : ByteArray)) ++ a0_8) ++ t122, 0)) else (none)) = some (r1, r2) := H
            have A22 := Aside0.mk A220
            clear A220
            by_cases c23 : ((((((((((⟨#[157, 227]⟩ : ByteArray) ++ t111) ++ t113) ++ (strOfNums y114)) ++ t117) ++ t118) ++ t119) ++ t120) ++ (⟨#[1]⟩ : ByteArray)) ++ a0_8).size + t122.size ≤ 9223372036854775807
            ·rw [if_pos c23] at H
             have c23b0 := eq_true c23
             have c23b1 : decide (((((((((((⟨#[157, 227]⟩ : ByteArray) ++ t111) ++ t113) ++ (strOfNums y114)) ++ t117) ++ t118) ++ t119) ++ t120) ++ (⟨#[1]⟩ : ByteArray)) ++ a0_8).size + t122.size ≤ 9223372036854775807) = true := decide_eq_true c23
             try have c23b2 : (9223372036854775807 < ((((((((((⟨#[157, 227]⟩ : ByteArray) ++ t111) ++ t113) ++ (strOfNums y114)) ++ t117) ++ t118) ++ t119) ++ t120) ++ (⟨#[1]⟩ : ByteArray)) ++ a0_8).size + t122.size) = False := eq_false (Nat.not_lt.2 c23)
             try (have c23b3 := c23b2; simp only [ByteArray.size_append] at c23b3)
             try (have c23b4 := c23b3; simp only [lsz1, lsz2] at c23b4)
             simp only [Option.some.injEq, Prod.mk.injEq] at H
             obtain ⟨rfl, rfl⟩ := H
             go_enter Try.func12, Try.ntmps12
             try go_wp2_with (first | ((with_reducible refine gate_dst (N := 1) rfl ?_); refine box_event ?hg (N := 1) ?hd (cs := #[.int .u8 a0_0, .int .u8 a0_1, .int .u8 a0_2, .int .u16 a0_3, .int .u32 a0_4, .int .u64 a0_5, .int .u32 a0_6, .bool true, .string a0_8]) (t := 28) ?hr ?_; (case hd => rfl); (case hg => rfl); (case hr => first | (go_simp; done) | (go_simp; rfl)); intro gb109 hg w24 hbox hb; have n0_ := Aside0.mk (below_step (by repeat (first | (with_reducible first | exact HB.out | apply below_alloc | apply pw_below_drewN | apply below_drew1) | exact HB.out | exact Below.refl _ _)) hb); have n1_ := Aside0.mk (hbox); have n2_ := Aside0.mk ((by rw [hg]; exact (below_size (by repeat (first | (with_reducible first | exact HB.out | apply below_alloc | apply pw_below_drewN | apply below_drew1) | exact HB.out | exact Below.refl _ _))) : w.heap.size ≤ gb109)); have n3_ := Aside0.mk ((by rw [hg]; exact (below_size (by repeat (first | (with_reducible first | exact HB.out | apply below_alloc | apply pw_below_drewN | apply below_drew1) | exact HB.out | exact Below.refl _ _))) : w.heap.size ≤ gb109)); clear HB; have HB := n0_; have BK109 := n1_; have GW109 := n2_; have GE109 := n3_; clear n0_ n1_ n2_ n3_; clear hb hbox hg; have hcz25_0 : w24.cell? ⟨gb109, 0, none⟩ = some (.int .u8 a0_0) := (blk_cell BK109.out 0).trans rfl; have hcz25_1 : w24.cell? ⟨gb109, 1, none⟩ = some (.int .u8 a0_1) := (blk_cell BK109.out 1).trans rfl; have hcz25_2 : w24.cell? ⟨gb109, 2, none⟩ = some (.int .u8 a0_2) := (blk_cell BK109.out 2).trans rfl; have hcz25_3 : w24.cell? ⟨gb109, 3, none⟩ = some (.int .u16 a0_3) := (blk_cell BK109.out 3).trans rfl; have hcz25_4 : w24.cell? ⟨gb109, 4, none⟩ = some (.int .u32 a0_4) := (blk_cell BK109.out 4).trans rfl; have hcz25_5 : w24.cell? ⟨gb109, 5, none⟩ = some (.int .u64 a0_5) := (blk_cell BK109.out 5).trans rfl; have hcz25_6 : w24.cell? ⟨gb109, 6, none⟩ = some (.int .u32 a0_6) := (blk_cell BK109.out 6).trans rfl; have hcz25_7 : w24.cell? ⟨gb109, 7, none⟩ = some (.bool true) := (blk_cell BK109.out 7).trans rfl; have hcz25_8 : w24.cell? ⟨gb109, 8, none⟩ = some (.string a0_8) := (blk_cell BK109.out 8).trans rfl; have hfz25_0 := blk_frozen BK109.out 0; have hfz25_1 := blk_frozen BK109.out 1; have hfz25_2 := blk_frozen BK109.out 2; have hfz25_3 := blk_frozen BK109.out 3; have hfz25_4 := blk_frozen BK109.out 4; have hfz25_5 := blk_frozen BK109.out 5; have hfz25_6 := blk_frozen BK109.out 6; have hfz25_7 := blk_frozen BK109.out 7; have hfz25_8 := blk_frozen BK109.out 8) | ((with_reducible refine gate_callee (f := 36) rfl ?_); refine goesL_ (some 7) rfl rfl Try.func36 (by kernel_rfl) rfl #[.agg #[.int .u8 a0_0, .int .u8 a0_1, .int .u8 a0_2, .int .u16 a0_3, .int .u32 a0_4, .int .u64 a0_5, .int .u32 a0_6, .bool true, .string a0_8]] rfl (by (try simp only [List.map_toArray, List.map_cons, List.map_nil]); first | done | rfl | (simp only [List.length_drop, List.length_take]; rfl)) ?_; (with_reducible refine (concordref21_May.calls a0_0 a0_1 a0_2 a0_3 a0_4 a0_5 a0_6 true a0_8 true _ A2.out).mono ?_); rintro e w26 ⟨rfl, hb⟩; refine ⟨_, rfl, ?_⟩; have n0_ := Aside0.mk (blk_below (g := gb109) (o := .cells #[.int .u8 a0_0, .int .u8 a0_1, .int .u8 a0_2, .int .u16 a0_3, .int .u32 a0_4, .int .u64 a0_5, .int .u32 a0_6, .bool true, .string a0_8] 28 (0, 0)) (by (with_reducible repeat (first | refine blk_drewN ?_ _ | refine blk_drew ?_ | refine blk_alloc ?_ _)); exact BK109.out) hb); have n1_ := Aside0.mk (below_step (by repeat (first | (with_reducible first | exact HB.out | apply below_alloc | apply pw_below_drewN | apply below_drew1 | refine below_set ?_ GE109.out) | exact HB.out)) hb); clear BK109; clear HB; have BK109 := n0_; have HB := n1_; clear n0_ n1_; (try clear hb); (try clear hb2); (try clear hk); (try clear hi); have hcz27_0 : w26.cell? ⟨gb109, 0, none⟩ = some (.int .u8 a0_0) := (blk_cell BK109.out 0).trans rfl; have hcz27_1 : w26.cell? ⟨gb109, 1, none⟩ = some (.int .u8 a0_1) := (blk_cell BK109.out 1).trans rfl; have hcz27_2 : w26.cell? ⟨gb109, 2, none⟩ = some (.int .u8 a0_2) := (blk_cell BK109.out 2).trans rfl; have hcz27_3 : w26.cell? ⟨gb109, 3, none⟩ = some (.int .u16 a0_3) := (blk_cell BK109.out 3).trans rfl; have hcz27_4 : w26.cell? ⟨gb109, 4, none⟩ = some (.int .u32 a0_4) := (blk_cell BK109.out 4).trans rfl; have hcz27_5 : w26.cell? ⟨gb109, 5, none⟩ = some (.int .u64 a0_5) := (blk_cell BK109.out 5).trans rfl; have hcz27_6 : w26.cell? ⟨gb109, 6, none⟩ = some (.int .u32 a0_6) := (blk_cell BK109.out 6).trans rfl; have hcz27_7 : w26.cell? ⟨gb109, 7, none⟩ = some (.bool true) := (blk_cell BK109.out 7).trans rfl; have hcz27_8 : w26.cell? ⟨gb109, 8, none⟩ = some (.string a0_8) := (blk_cell BK109.out 8).trans rfl; have hfz27_0 := blk_frozen BK109.out 0; have hfz27_1 := blk_frozen BK109.out 1; have hfz27_2 := blk_frozen BK109.out 2; have hfz27_3 := blk_frozen BK109.out 3; have hfz27_4 := blk_frozen BK109.out 4; have hfz27_5 := blk_frozen BK109.out 5; have hfz27_6 := blk_frozen BK109.out 6; have hfz27_7 := blk_frozen BK109.out 7; have hfz27_8 := blk_frozen BK109.out 8) | ((with_reducible refine gate_callee (f := 37) rfl ?_); refine goesL_ (some 14) rfl rfl Try.func37 (by kernel_rfl) rfl #[.int .u64 (IntKind.u64.wrap (wrap64 ((a0_8.size : Int) + 34))), .int .i64 2] rfl (by (try simp only [List.map_toArray, List.map_cons, List.map_nil]); first | done | rfl | (simp only [List.length_drop, List.length_take]; rfl)) ?_; (with_reducible refine (concordref01_Fixed.calls k (IntKind.u64.wrap (wrap64 ((a0_8.size : Int) + 34))) 2 t111 _ A4.out).mono ?_); rintro e w28 ⟨rfl, hb⟩; refine ⟨_, rfl, ?_⟩; have n0_ := Aside0.mk (blk_below (g := gb109) (o := .cells #[.int .u8 a0_0, .int .u8 a0_1, .int .u8 a0_2, .int .u16 a0_3, .int .u32 a0_4, .int .u64 a0_5, .int .u32 a0_6, .bool true, .string a0_8] 28 (0, 0)) (by (with_reducible repeat (first | refine blk_drewN ?_ _ | refine blk_drew ?_ | refine blk_alloc ?_ _)); exact BK109.out) hb); have n1_ := Aside0.mk (below_step (by repeat (first | (with_reducible first | exact HB.out | apply below_alloc | apply pw_below_drewN | apply below_drew1 | refine below_set ?_ GE109.out) | exact HB.out)) hb); clear BK109; clear HB; have BK109 := n0_; have HB := n1_; clear n0_ n1_; (try clear hb); (try clear hb2); (try clear hk); (try clear hi)) | ((with_reducible refine gate_callee (f := 38) rfl ?_); refine goesL_ (some 18) rfl rfl Try.func38 (by kernel_rfl) rfl #[.string ((⟨#[157, 227]⟩ : ByteArray) ++ t111)] rfl (by (try simp only [List.map_toArray, List.map_cons, List.map_nil]); first | done | rfl | (simp only [List.length_drop, List.length_take]; rfl)) ?_; (with_reducible refine (concordref01_Sum.calls ((⟨#[157, 227]⟩ : ByteArray) ++ t111) t112 _ A6.out).mono ?_); rintro e w' ⟨rfl, ⟨nd, rfl⟩⟩; refine ⟨_, rfl, ?_⟩) | ((with_reducible refine gate_callee (f := 37) rfl ?_); refine goesL_ (some 20) rfl rfl Try.func37 (by kernel_rfl) rfl #[.int .u64 (IntKind.u64.wrap (t112)), .int .i64 4] rfl (by (try simp only [List.map_toArray, List.map_cons, List.map_nil]); first | done | rfl | (simp only [List.length_drop, List.length_take]; rfl)) ?_; (with_reducible refine (concordref01_Fixed.calls k (IntKind.u64.wrap (t112)) 4 t113 _ A7.out).mono ?_); rintro e w29 ⟨rfl, hb⟩; refine ⟨_, rfl, ?_⟩; have n0_ := Aside0.mk (blk_below (g := gb109) (o := .cells #[.int .u8 a0_0, .int .u8 a0_1, .int .u8 a0_2, .int .u16 a0_3, .int .u32 a0_4, .int .u64 a0_5, .int .u32 a0_6, .bool true, .string a0_8] 28 (0, 0)) (by (with_reducible repeat (first | refine blk_drewN ?_ _ | refine blk_drew ?_ | refine blk_alloc ?_ _)); exact BK109.out) hb); have n1_ := Aside0.mk (below_step (by repeat (first | (with_reducible first | exact HB.out | apply below_alloc | apply pw_below_drewN | apply below_drew1 | refine below_set ?_ GE109.out) | exact HB.out)) hb); clear BK109; clear HB; have BK109 := n0_; have HB := n1_; clear n0_ n1_; (try clear hb); (try clear hb2); (try clear hk); (try clear hi)))
             have n0_ := Aside0.mk (blk_drew BK109.out)
             have n1_ := Aside0.mk (below_drew1 HB.out)
             clear BK109
             clear HB
             have BK109 := n0_
             have HB := n1_
             clear n0_ n1_
             refine start_ (n := 24) (S := fun w' => w'.cell? ⟨gb109, 0, none⟩ = some (.int .u8 a0_0) ∧ w'.cell? ⟨gb109, 1, none⟩ = some (.int .u8 a0_1) ∧ w'.cell? ⟨gb109, 2, none⟩ = some (.int .u8 a0_2) ∧ w'.cell? ⟨gb109, 3, none⟩ = some (.int .u16 a0_3) ∧ w'.cell? ⟨gb109, 4, none⟩ = some (.int .u32 a0_4) ∧ w'.cell? ⟨gb109, 5, none⟩ = some (.int .u64 a0_5) ∧ w'.cell? ⟨gb109, 6, none⟩ = some (.int .u32 a0_6) ∧ w'.cell? ⟨gb109, 7, none⟩ = some (.bool true) ∧ w'.cell? ⟨gb109, 8, none⟩ = some (.string a0_8)) (ds := []) #[false, false, false, false, false, false, false, false, false, false, false, false, false, false, false, false, false, false, false, false, false, false, false, false] (by kernel_rfl) rfl rfl ⟨(blk_cell BK109.out 0).trans rfl, (blk_cell BK109.out 1).trans rfl, (blk_cell BK109.out 2).trans rfl, (blk_cell BK109.out 3).trans rfl, (blk_cell BK109.out 4).trans rfl, (blk_cell BK109.out 5).trans rfl, (blk_cell BK109.out 6).trans rfl, (blk_cell BK109.out 7).trans rfl, (blk_cell BK109.out 8).trans rfl⟩ (fun hHeld => ?_); refine with_tabW concordref21_Encode.tab5 concordref21_Encode.bits5 (fun HT_ HW_ => ?_)
             generalize w29.drew = w30 at BK109 HB hHeld ⊢
             refine pure_ (i := 0) (N := some 22) (v := ?_) (a' := ?_) #[true, false, false, false, false, false, false, false, false, false, false, false, false, false, false, false, false, false, false, false, false, false, false, false] rfl rfl (any_of HT_.out (by kernel_rfl)) (fun _ _ _ h => h) (Or.inl ⟨by rfl, ?_⟩) ?_ ?_
             rotate_left
             ·intro w'
              go_simp
              with_reducible rfl
             rotate_left
             ·simp only [Act.put, List.setIfInBounds_toArray, List.set_cons_zero, List.set_cons_succ, i64_w, i32_w]
              rfl
             refine pure_ (i := 1) (N := some 23) (v := ?_) (a' := ?_) #[true, true, false, false, false, false, false, false, false, false, false, false, false, false, false, false, false, false, false, false, false, false, false, false] rfl rfl (any_of HT_.out (by kernel_rfl)) (fun _ _ _ h => h) (Or.inl ⟨by rfl, ?_⟩) ?_ ?_
             rotate_left
             ·intro w'
              go_simp
              with_reducible rfl
             rotate_left
             ·simp only [Act.put, List.setIfInBounds_toArray, List.set_cons_zero, List.set_cons_succ, i64_w, i32_w]
              rfl
             refine pure_ (i := 3) (N := some 25) (v := ?_) (a' := ?_) #[true, true, false, true, false, false, false, false, false, false, false, false, false, false, false, false, false, false, false, false, false, false, false, false] rfl rfl (any_of HT_.out (by kernel_rfl)) (fun _ _ _ h => h) (Or.inl ⟨by rfl, ?_⟩) ?_ ?_
             rotate_left
             ·intro w'
              go_simp
              with_reducible rfl
             rotate_left
             ·simp only [Act.put, List.setIfInBounds_toArray, List.set_cons_zero, List.set_cons_succ, i64_w, i32_w]
              rfl
             refine pure_ (i := 5) (N := some 27) (v := ?_) (a' := ?_) #[true, true, false, true, false, true, false, false, false, false, false, false, false, false, false, false, false, false, false, false, false, false, false, false] rfl rfl (any_of HT_.out (by kernel_rfl)) (fun _ _ _ h => h) (Or.inl ⟨by rfl, ?_⟩) ?_ ?_
             rotate_left
             ·intro w'
              go_simp
              with_reducible rfl
             rotate_left
             ·simp only [Act.put, List.setIfInBounds_toArray, List.set_cons_zero, List.set_cons_succ, i64_w, i32_w]
              rfl
             refine pure_ (i := 6) (N := some 28) (v := ?_) (a' := ?_) #[true, true, false, true, false, true, true, false, false, false, false, false, false, false, false, false, false, false, false, false, false, false, false, false] rfl rfl (any_of HT_.out (by kernel_rfl)) (fun _ _ _ h => h) (Or.inl ⟨by rfl, ?_⟩) ?_ ?_
             rotate_left
             ·intro w'
              go_simp
              with_reducible rfl
             rotate_left
             ·simp only [Act.put, List.setIfInBounds_toArray, List.set_cons_zero, List.set_cons_succ, i64_w, i32_w]
              rfl
             refine pure_ (i := 11) (N := some 33) (v := ?_) (a' := ?_) #[true, true, false, true, false, true, true, false, false, false, false, true, false, false, false, false, false, false, false, false, false, false, false, false] rfl rfl (any_of HT_.out (by kernel_rfl)) (fun _ _ _ h => h) (Or.inl ⟨by rfl, ?_⟩) ?_ ?_
             rotate_left
             ·intro w'
              go_simp
              with_reducible rfl
             rotate_left
             ·simp only [Act.put, List.setIfInBounds_toArray, List.set_cons_zero, List.set_cons_succ, i64_w, i32_w]
              rfl
             refine pure_ (i := 12) (N := some 34) (v := ?_) (a' := ?_) #[true, true, false, true, false, true, true, false, false, false, false, true, true, false, false, false, false, false, false, false, false, false, false, false] rfl rfl (any_of HT_.out (by kernel_rfl)) (fun _ _ _ h => h) (Or.inl ⟨by rfl, ?_⟩) ?_ ?_
             rotate_left
             ·intro w'
              go_simp
              with_reducible rfl
             rotate_left
             ·simp only [Act.put, List.setIfInBounds_toArray, List.set_cons_zero, List.set_cons_succ, i64_w, i32_w]
              rfl
             refine pure_ (i := 17) (N := some 39) (v := ?_) (a' := ?_) #[true, true, false, true, false, true, true, false, false, false, false, true, true, false, false, false, false, true, false, false, false, false, false, false] rfl rfl (any_of HT_.out (by kernel_rfl)) (fun _ _ _ h => h) (Or.inl ⟨by rfl, ?_⟩) ?_ ?_
             rotate_left
             ·intro w'
              go_simp
              with_reducible rfl
             rotate_left
             ·simp only [Act.put, List.setIfInBounds_toArray, List.set_cons_zero, List.set_cons_succ, i64_w, i32_w]
              rfl
             refine pure_ (i := 18) (N := some 40) (v := ?_) (a' := ?_) #[true, true, false, true, false, true, true, false, false, false, false, true, true, false, false, false, false, true, true, false, false, false, false, false] rfl rfl (any_of HT_.out (by kernel_rfl)) (fun _ _ _ h => h) (Or.inl ⟨by rfl, ?_⟩) ?_ ?_
             rotate_left
             ·intro w'
              go_simp
              with_reducible rfl
             rotate_left
             ·simp only [Act.put, List.setIfInBounds_toArray, List.set_cons_zero, List.set_cons_succ, i64_w, i32_w]
              rfl
             refine take_ (i := 2) (N := some 24) (v := ?_) (a' := ?_) #[true, true, true, true, false, true, true, false, false, false, false, true, true, false, false, false, false, true, true, false, false, false, false, false] rfl rfl (take_ofW HT_.out HW_.out (by kernel_rfl)) (fun _ _ _ h => h) (Or.inl ⟨by rfl, ?_⟩) hHeld ?_ ?_
             rotate_left
             ·rintro w' ⟨s0, s1, s2, s3, s4, s5, s6, s7, s8⟩
              go_simp
              with_reducible rfl
             rotate_left
             ·simp only [Act.put, List.setIfInBounds_toArray, List.set_cons_zero, List.set_cons_succ, i64_w, i32_w]
              rfl
             refine take_ (i := 4) (N := some 26) (v := ?_) (a' := ?_) #[true, true, true, true, true, true, true, false, false, false, false, true, true, false, false, false, false, true, true, false, false, false, false, false] rfl rfl (take_ofW HT_.out HW_.out (by kernel_rfl)) (fun _ _ _ h => h) (Or.inl ⟨by rfl, ?_⟩) hHeld ?_ ?_
             rotate_left
             ·rintro w' ⟨s0, s1, s2, s3, s4, s5, s6, s7, s8⟩
              go_simp
              with_reducible rfl
             rotate_left
             ·simp only [Act.put, List.setIfInBounds_toArray, List.set_cons_zero, List.set_cons_succ, i64_w, i32_w]
              rfl
             refine take_ (i := 7) (N := some 29) (v := ?_) (a' := ?_) #[true, true, true, true, true, true, true, true, false, false, false, true, true, false, false, false, false, true, true, false, false, false, false, false] rfl rfl (take_ofW HT_.out HW_.out (by kernel_rfl)) (fun _ _ _ h => h) (Or.inl ⟨by rfl, ?_⟩) hHeld ?_ ?_
             rotate_left
             ·rintro w' ⟨s0, s1, s2, s3, s4, s5, s6, s7, s8⟩
              go_simp
              with_reducible rfl
             rotate_left
             ·simp only [Act.put, List.setIfInBounds_toArray, List.set_cons_zero, List.set_cons_succ, i64_w, i32_w]
              rfl
             refine take_ (i := 13) (N := some 35) (v := ?_) (a' := ?_) #[true, true, true, true, true, true, true, true, false, false, false, true, true, true, false, false, false, true, true, false, false, false, false, false] rfl rfl (take_ofW HT_.out HW_.out (by kernel_rfl)) (fun _ _ _ h => h) (Or.inl ⟨by rfl, ?_⟩) hHeld ?_ ?_
             rotate_left
             ·rintro w' ⟨s0, s1, s2, s3, s4, s5, s6, s7, s8⟩
              go_simp
              with_reducible rfl
             rotate_left
             ·simp only [Act.put, List.setIfInBounds_toArray, List.set_cons_zero, List.set_cons_succ, i64_w, i32_w]
              rfl
             refine pure_ (i := 14) (N := some 36) (v := ?_) (a' := ?_) #[true, true, true, true, true, true, true, true, false, false, false, true, true, true, true, false, false, true, true, false, false, false, false, false] rfl rfl (any_of HT_.out (by kernel_rfl)) (fun _ _ _ h => h) (Or.inl ⟨by rfl, ?_⟩) ?_ ?_
             rotate_left
             ·intro w'
              go_simp
              with_reducible rfl
             rotate_left
             ·simp only [Act.put, List.setIfInBounds_toArray, List.set_cons_zero, List.set_cons_succ, i64_w, i32_w]
              rfl
             refine take_ (i := 19) (N := some 41) (v := ?_) (a' := ?_) #[true, true, true, true, true, true, true, true, false, false, false, true, true, true, true, false, false, true, true, true, false, false, false, false] rfl rfl (take_ofW HT_.out HW_.out (by kernel_rfl)) (fun _ _ _ h => h) (Or.inl ⟨by rfl, ?_⟩) hHeld ?_ ?_
             rotate_left
             ·rintro w' ⟨s0, s1, s2, s3, s4, s5, s6, s7, s8⟩
              go_simp
              with_reducible rfl
             rotate_left
             ·simp only [Act.put, List.setIfInBounds_toArray, List.set_cons_zero, List.set_cons_succ, i64_w, i32_w]
              rfl
             refine pure_ (i := 20) (N := some 42) (v := ?_) (a' := ?_) #[true, true, true, true, true, true, true, true, false, false, false, true, true, true, true, false, false, true, true, true, true, false, false, false] rfl rfl (any_of HT_.out (by kernel_rfl)) (fun _ _ _ h => h) (Or.inl ⟨by rfl, ?_⟩) ?_ ?_
             rotate_left
             ·intro w'
              go_simp
              with_reducible rfl
             rotate_left
             ·simp only [Act.put, List.setIfInBounds_toArray, List.set_cons_zero, List.set_cons_succ, i64_w, i32_w]
              rfl
             refine join_ (σ := Value) 2 #[true, true, true, true, true, true, true, true, true, true, true, true, true, true, true, true, true, true, true, true, true, true, false, false] (fun s_ => [(30, s_), (31, .string (strOfNums y114)), (37, .string t117), (43, .string t118), (32, .string ((((⟨#[157, 227]⟩ : ByteArray) ++ t111) ++ t113) ++ (strOfNums y114))), (38, .string (((((⟨#[157, 227]⟩ : ByteArray) ++ t111) ++ t113) ++ (strOfNums y114)) ++ t117))]) (fun s_ w' => (w'.cell? ⟨gb109, 0, none⟩ = some (.int .u8 a0_0) ∧ w'.cell? ⟨gb109, 1, none⟩ = some (.int .u8 a0_1) ∧ w'.cell? ⟨gb109, 2, none⟩ = some (.int .u8 a0_2) ∧ w'.cell? ⟨gb109, 3, none⟩ = some (.int .u16 a0_3) ∧ w'.cell? ⟨gb109, 4, none⟩ = some (.int .u32 a0_4) ∧ w'.cell? ⟨gb109, 5, none⟩ = some (.int .u64 a0_5) ∧ w'.cell? ⟨gb109, 6, none⟩ = some (.int .u32 a0_6) ∧ w'.cell? ⟨gb109, 7, none⟩ = some (.bool true) ∧ w'.cell? ⟨gb109, 8, none⟩ = some (.string a0_8)) ∧ (Kd.R (Kd.int .u8) 5 w' w.heap.size (fun _ => True) s_ y114) ∧ (w'.heap[gb109]? = some (.cells #[.int .u8 a0_0, .int .u8 a0_1, .int .u8 a0_2, .int .u16 a0_3, .int .u32 a0_4, .int .u64 a0_5, .int .u32 a0_6, .bool true, .string a0_8] 28 (0, 0))) ∧ (Below w.heap.size w w')) ?_ ?_
             rotate_left
             ·intro hJ8_9_15_21
              refine join_ (σ := Value) 3 #[true, true, true, true, true, true, true, true, true, true, true, true, true, true, true, true, true, true, true, true, true, false, false, false] (fun s_ => [(30, s_), (31, .string (strOfNums y114)), (37, .string t117), (32, .string ((((⟨#[157, 227]⟩ : ByteArray) ++ t111) ++ t113) ++ (strOfNums y114))), (38, .string (((((⟨#[157, 227]⟩ : ByteArray) ++ t111) ++ t113) ++ (strOfNums y114)) ++ t117))]) (fun s_ w' => (w'.cell? ⟨gb109, 0, none⟩ = some (.int .u8 a0_0) ∧ w'.cell? ⟨gb109, 1, none⟩ = some (.int .u8 a0_1) ∧ w'.cell? ⟨gb109, 2, none⟩ = some (.int .u8 a0_2) ∧ w'.cell? ⟨gb109, 3, none⟩ = some (.int .u16 a0_3) ∧ w'.cell? ⟨gb109, 4, none⟩ = some (.int .u32 a0_4) ∧ w'.cell? ⟨gb109, 5, none⟩ = some (.int .u64 a0_5) ∧ w'.cell? ⟨gb109, 6, none⟩ = some (.int .u32 a0_6) ∧ w'.cell? ⟨gb109, 7, none⟩ = some (.bool true) ∧ w'.cell? ⟨gb109, 8, none⟩ = some (.string a0_8)) ∧ (Kd.R (Kd.int .u8) 5 w' w.heap.size (fun _ => True) s_ y114) ∧ (w'.heap[gb109]? = some (.cells #[.int .u8 a0_0, .int .u8 a0_1, .int .u8 a0_2, .int .u16 a0_3, .int .u32 a0_4, .int .u64 a0_5, .int .u32 a0_6, .bool true, .string a0_8] 28 (0, 0))) ∧ (Below w.heap.size w w')) ?_ ?_
              rotate_left
              ·intro hJ8_9_15
               refine join_ (σ := Value) 5 #[true, true, true, true, true, true, true, true, true, false, false, true, true, true, true, true, false, true, true, true, true, true, false, false] (fun s_ => [(30, s_), (37, .string t117), (43, .string t118)]) (fun s_ w' => (w'.cell? ⟨gb109, 0, none⟩ = some (.int .u8 a0_0) ∧ w'.cell? ⟨gb109, 1, none⟩ = some (.int .u8 a0_1) ∧ w'.cell? ⟨gb109, 2, none⟩ = some (.int .u8 a0_2) ∧ w'.cell? ⟨gb109, 3, none⟩ = some (.int .u16 a0_3) ∧ w'.cell? ⟨gb109, 4, none⟩ = some (.int .u32 a0_4) ∧ w'.cell? ⟨gb109, 5, none⟩ = some (.int .u64 a0_5) ∧ w'.cell? ⟨gb109, 6, none⟩ = some (.int .u32 a0_6) ∧ w'.cell? ⟨gb109, 7, none⟩ = some (.bool true) ∧ w'.cell? ⟨gb109, 8, none⟩ = some (.string a0_8)) ∧ (Kd.R (Kd.int .u8) 5 w' w.heap.size (fun _ => True) s_ y114) ∧ (w'.heap[gb109]? = some (.cells #[.int .u8 a0_0, .int .u8 a0_1, .int .u8 a0_2, .int .u16 a0_3, .int .u32 a0_4, .int .u64 a0_5, .int .u32 a0_6, .bool true, .string a0_8] 28 (0, 0))) ∧ (Below w.heap.size w w')) ?_ ?_
               rotate_left
               ·intro hJ8_15_21
                refine join_ (σ := Value) 5 #[true, true, true, true, true, true, true, true, true, true, true, true, true, true, true, false, false, true, true, true, true, false, false, false] (fun s_ => [(30, s_), (31, .string (strOfNums y114)), (32, .string ((((⟨#[157, 227]⟩ : ByteArray) ++ t111) ++ t113) ++ (strOfNums y114)))]) (fun s_ w' => (w'.cell? ⟨gb109, 0, none⟩ = some (.int .u8 a0_0) ∧ w'.cell? ⟨gb109, 1, none⟩ = some (.int .u8 a0_1) ∧ w'.cell? ⟨gb109, 2, none⟩ = some (.int .u8 a0_2) ∧ w'.cell? ⟨gb109, 3, none⟩ = some (.int .u16 a0_3) ∧ w'.cell? ⟨gb109, 4, none⟩ = some (.int .u32 a0_4) ∧ w'.cell? ⟨gb109, 5, none⟩ = some (.int .u64 a0_5) ∧ w'.cell? ⟨gb109, 6, none⟩ = some (.int .u32 a0_6) ∧ w'.cell? ⟨gb109, 7, none⟩ = some (.bool true) ∧ w'.cell? ⟨gb109, 8, none⟩ = some (.string a0_8)) ∧ (Kd.R (Kd.int .u8) 5 w' w.heap.size (fun _ => True) s_ y114) ∧ (w'.heap[gb109]? = some (.cells #[.int .u8 a0_0, .int .u8 a0_1, .int .u8 a0_2, .int .u16 a0_3, .int .u32 a0_4, .int .u64 a0_5, .int .u32 a0_6, .bool true, .string a0_8] 28 (0, 0))) ∧ (Below w.heap.size w w')) ?_ ?_
                rotate_left
                ·intro hJ8_9
                 refine join_ (σ := Value) 6 #[true, true, true, true, true, true, true, true, true, false, false, true, true, true, true, true, false, true, true, true, true, false, false, false] (fun s_ => [(30, s_), (37, .string t117)]) (fun s_ w' => (w'.cell? ⟨gb109, 0, none⟩ = some (.int .u8 a0_0) ∧ w'.cell? ⟨gb109, 1, none⟩ = some (.int .u8 a0_1) ∧ w'.cell? ⟨gb109, 2, none⟩ = some (.int .u8 a0_2) ∧ w'.cell? ⟨gb109, 3, none⟩ = some (.int .u16 a0_3) ∧ w'.cell? ⟨gb109, 4, none⟩ = some (.int .u32 a0_4) ∧ w'.cell? ⟨gb109, 5, none⟩ = some (.int .u64 a0_5) ∧ w'.cell? ⟨gb109, 6, none⟩ = some (.int .u32 a0_6) ∧ w'.cell? ⟨gb109, 7, none⟩ = some (.bool true) ∧ w'.cell? ⟨gb109, 8, none⟩ = some (.string a0_8)) ∧ (Kd.R (Kd.int .u8) 5 w' w.heap.size (fun _ => True) s_ y114) ∧ (w'.heap[gb109]? = some (.cells #[.int .u8 a0_0, .int .u8 a0_1, .int .u8 a0_2, .int .u16 a0_3, .int .u32 a0_4, .int .u64 a0_5, .int .u32 a0_6, .bool true, .string a0_8] 28 (0, 0))) ∧ (Below w.heap.size w w')) ?_ ?_
                 rotate_left
                 ·intro hJ8_15
                  refine join_ (σ := Unit) 6 #[true, true, true, true, true, true, true, true, false, false, false, true, true, true, true, true, false, true, true, true, true, true, false, false] (fun s_ => [(37, .string t117), (43, .string t118)]) (fun s_ w' => (w'.cell? ⟨gb109, 0, none⟩ = some (.int .u8 a0_0) ∧ w'.cell? ⟨gb109, 1, none⟩ = some (.int .u8 a0_1) ∧ w'.cell? ⟨gb109, 2, none⟩ = some (.int .u8 a0_2) ∧ w'.cell? ⟨gb109, 3, none⟩ = some (.int .u16 a0_3) ∧ w'.cell? ⟨gb109, 4, none⟩ = some (.int .u32 a0_4) ∧ w'.cell? ⟨gb109, 5, none⟩ = some (.int .u64 a0_5) ∧ w'.cell? ⟨gb109, 6, none⟩ = some (.int .u32 a0_6) ∧ w'.cell? ⟨gb109, 7, none⟩ = some (.bool true) ∧ w'.cell? ⟨gb109, 8, none⟩ = some (.string a0_8)) ∧ (w'.heap[gb109]? = some (.cells #[.int .u8 a0_0, .int .u8 a0_1, .int .u8 a0_2, .int .u16 a0_3, .int .u32 a0_4, .int .u64 a0_5, .int .u32 a0_6, .bool true, .string a0_8] 28 (0, 0))) ∧ (Below w.heap.size w w')) ?_ ?_
                  rotate_left
                  ·intro hJ15_21
                   refine join_ (σ := Value) 7 #[true, true, true, true, true, true, true, true, true, false, false, true, true, true, true, false, false, true, true, true, true, false, false, false] (fun s_ => [(30, s_)]) (fun s_ w' => (w'.cell? ⟨gb109, 0, none⟩ = some (.int .u8 a0_0) ∧ w'.cell? ⟨gb109, 1, none⟩ = some (.int .u8 a0_1) ∧ w'.cell? ⟨gb109, 2, none⟩ = some (.int .u8 a0_2) ∧ w'.cell? ⟨gb109, 3, none⟩ = some (.int .u16 a0_3) ∧ w'.cell? ⟨gb109, 4, none⟩ = some (.int .u32 a0_4) ∧ w'.cell? ⟨gb109, 5, none⟩ = some (.int .u64 a0_5) ∧ w'.cell? ⟨gb109, 6, none⟩ = some (.int .u32 a0_6) ∧ w'.cell? ⟨gb109, 7, none⟩ = some (.bool true) ∧ w'.cell? ⟨gb109, 8, none⟩ = some (.string a0_8)) ∧ (Kd.R (Kd.int .u8) 5 w' w.heap.size (fun _ => True) s_ y114) ∧ (w'.heap[gb109]? = some (.cells #[.int .u8 a0_0, .int .u8 a0_1, .int .u8 a0_2, .int .u16 a0_3, .int .u32 a0_4, .int .u64 a0_5, .int .u32 a0_6, .bool true, .string a0_8] 28 (0, 0))) ∧ (Below w.heap.size w w')) ?_ ?_
                   rotate_left
                   ·intro hJ8
                    refine join_ (σ := Unit) 7 #[true, true, true, true, true, true, true, true, false, false, false, true, true, true, true, true, false, true, true, true, true, false, false, false] (fun s_ => [(37, .string t117)]) (fun s_ w' => (w'.cell? ⟨gb109, 0, none⟩ = some (.int .u8 a0_0) ∧ w'.cell? ⟨gb109, 1, none⟩ = some (.int .u8 a0_1) ∧ w'.cell? ⟨gb109, 2, none⟩ = some (.int .u8 a0_2) ∧ w'.cell? ⟨gb109, 3, none⟩ = some (.int .u16 a0_3) ∧ w'.cell? ⟨gb109, 4, none⟩ = some (.int .u32 a0_4) ∧ w'.cell? ⟨gb109, 5, none⟩ = some (.int .u64 a0_5) ∧ w'.cell? ⟨gb109, 6, none⟩ = some (.int .u32 a0_6) ∧ w'.cell? ⟨gb109, 7, none⟩ = some (.bool true) ∧ w'.cell? ⟨gb109, 8, none⟩ = some (.string a0_8)) ∧ (w'.heap[gb109]? = some (.cells #[.int .u8 a0_0, .int .u8 a0_1, .int .u8 a0_2, .int .u16 a0_3, .int .u32 a0_4, .int .u64 a0_5, .int .u32 a0_6, .bool true, .string a0_8] 28 (0, 0))) ∧ (Below w.heap.size w w')) ?_ ?_
                    rotate_left
                    ·intro hJ15
                     refine two_ (i := 8) (j := 15) (Ni := some 30) (Nj := some 37) #[true, true, true, true, true, true, true, true, true, false, false, true, true, true, true, false, false, true, true, true, true, false, false, false] #[true, true, true, true, true, true, true, true, false, false, false, true, true, true, true, true, false, true, true, true, true, false, false, false] rfl rfl rfl rfl (two_of HT_.out (by kernel_rfl)) (by decide) (by decide) (fun K hK => ?_) (fun K hK => ?_)
                     ·skip
                      refine Kd.R_lit_step (Kd.int .u8) _ 5 ?hg (N := 30) ?hd (xs := ([a0_0, a0_1, a0_2] : List Int)) (inner := [.int .u8 a0_0, .int .u8 a0_1, .int .u8 a0_2]) (ok := fun _ => True) (okp := fun _ => True) ?hr ?hp (fun _ hk => hk) trivial (Below.refl _ _) (Nat.le_refl _) (by simp) ?_; (case hd => rfl); (case hg => rfl); (case hr => first | (go_simp; done) | (go_simp; rfl)); (case hp => exact (Reps.one (show Kd.M (Kd.int .u8) _ _ _ a0_0 [.int .u8 a0_0] from rfl) (Reps.one (show Kd.M (Kd.int .u8) _ _ _ a0_1 [.int .u8 a0_1] from rfl) (Reps.one (show Kd.M (Kd.int .u8) _ _ _ a0_2 [.int .u8 a0_2] from rfl) (Reps.none _ _)))))
                      intro v115 w31 ho32 hb hg_ hnew_
                      clear hg_ hnew_
                      (first | rw [← Ny114.out] at ho32 | (simp only [Int.reduceToNat] at ho32; rw [← Ny114.out] at ho32))
                      have n0_ := Aside0.mk (Kd.R_lower ho32 (below_size (by repeat (first | (with_reducible first | exact HB.out | apply below_alloc | apply pw_below_drewN | apply below_drew1 | refine below_set ?_ GE109.out) | exact HB.out))))
                      have n1_ := Aside0.mk (blk_below (g := gb109) (o := .cells #[.int .u8 a0_0, .int .u8 a0_1, .int .u8 a0_2, .int .u16 a0_3, .int .u32 a0_4, .int .u64 a0_5, .int .u32 a0_6, .bool true, .string a0_8] 28 (0, 0)) (by (with_reducible repeat (first | refine blk_drewN ?_ _ | refine blk_drew ?_ | refine blk_alloc ?_ _)); exact BK109.out) hb)
                      have n2_ := Aside0.mk (below_step (by repeat (first | (with_reducible first | exact HB.out | apply below_alloc | apply pw_below_drewN | apply below_drew1 | refine below_set ?_ GE109.out) | exact HB.out)) hb)
                      clear BK109
                      clear HB
                      have HO116 := n0_
                      have BK109 := n1_
                      have HB := n2_
                      clear n0_ n1_ n2_
                      clear hb ho32
                      refine hK.out _ _ ⟨(blk_cell BK109.out 0).trans rfl, (blk_cell BK109.out 1).trans rfl, (blk_cell BK109.out 2).trans rfl, (blk_cell BK109.out 3).trans rfl, (blk_cell BK109.out 4).trans rfl, (blk_cell BK109.out 5).trans rfl, (blk_cell BK109.out 6).trans rfl, (blk_cell BK109.out 7).trans rfl, (blk_cell BK109.out 8).trans rfl⟩ (fun hHeld => ?_)
                      clear hK K
                      refine norm_ (a' := ?_) ?_ ?_
                      rotate_left
                      ·show Act.put _ (some 30) _ = _
                       simp only [Act.put, List.setIfInBounds_toArray, List.set_cons_zero, List.set_cons_succ, i64_w, i32_w]
                       rfl
                      exact norm_ (by first | (simp only [putAll, Act.put, List.setIfInBounds_toArray, List.set_cons_zero, List.set_cons_succ]; done) | (simp only [putAll, Act.put, List.setIfInBounds_toArray, List.set_cons_zero, List.set_cons_succ]; rfl)) (hJ8 (v115) _ ⟨hHeld, (by (with_reducible repeat (first | apply Kd.R_alloc | apply Kd.R_drewN | apply Kd.R_drew)); exact HO116.out), (by (with_reducible repeat (first | refine blk_drewN ?_ _ | refine blk_drew ?_ | refine blk_alloc ?_ _)); exact BK109.out), (by repeat (first | (with_reducible first | exact HB.out | apply below_alloc | apply pw_below_drewN | apply below_drew1 | refine below_set ?_ GE109.out) | exact HB.out))⟩)
                     ·skip
                      refine goes_ Try.func37 (by kernel_rfl) rfl #[.int .u64 (IntKind.u64.wrap (a0_3)), .int .i64 2] (by rfl) rfl rfl (by (try simp only [List.map_toArray, List.map_cons, List.map_nil]); first | done | rfl | (simp only [List.length_drop, List.length_take]; rfl)) ?_
                      with_reducible refine (concordref01_Fixed.calls k (IntKind.u64.wrap (a0_3)) 2 t117 _ A10.out).mono ?_
                      rintro e w31 ⟨rfl, hb⟩
                      refine ⟨_, rfl, ?_⟩
                      have n0_ := Aside0.mk (blk_below (g := gb109) (o := .cells #[.int .u8 a0_0, .int .u8 a0_1, .int .u8 a0_2, .int .u16 a0_3, .int .u32 a0_4, .int .u64 a0_5, .int .u32 a0_6, .bool true, .string a0_8] 28 (0, 0)) (by (with_reducible repeat (first | refine blk_drewN ?_ _ | refine blk_drew ?_ | refine blk_alloc ?_ _)); exact BK109.out) hb)
                      have n1_ := Aside0.mk (below_step (by repeat (first | (with_reducible first | exact HB.out | apply below_alloc | apply pw_below_drewN | apply below_drew1 | refine below_set ?_ GE109.out) | exact HB.out)) hb)
                      clear BK109
                      clear HB
                      have BK109 := n0_
                      have HB := n1_
                      clear n0_ n1_
                      (try clear hb)
                      (try clear hb2)
                      (try clear hk)
                      (try clear hi)
                      refine hK.out _ _ ⟨(blk_cell BK109.out 0).trans rfl, (blk_cell BK109.out 1).trans rfl, (blk_cell BK109.out 2).trans rfl, (blk_cell BK109.out 3).trans rfl, (blk_cell BK109.out 4).trans rfl, (blk_cell BK109.out 5).trans rfl, (blk_cell BK109.out 6).trans rfl, (blk_cell BK109.out 7).trans rfl, (blk_cell BK109.out 8).trans rfl⟩ (fun hHeld => ?_)
                      clear hK K
                      refine norm_ (a' := ?_) ?_ ?_
                      rotate_left
                      ·show Act.put _ (some 37) _ = _
                       simp only [Act.put, List.setIfInBounds_toArray, List.set_cons_zero, List.set_cons_succ, i64_w, i32_w]
                       rfl
                      exact norm_ (by first | (simp only [putAll, Act.put, List.setIfInBounds_toArray, List.set_cons_zero, List.set_cons_succ]; done) | (simp only [putAll, Act.put, List.setIfInBounds_toArray, List.set_cons_zero, List.set_cons_succ]; rfl)) (hJ15 () _ ⟨hHeld, (by (with_reducible repeat (first | refine blk_drewN ?_ _ | refine blk_drew ?_ | refine blk_alloc ?_ _)); exact BK109.out), (by repeat (first | (with_reducible first | exact HB.out | apply below_alloc | apply pw_below_drewN | apply below_drew1 | refine below_set ?_ GE109.out) | exact HB.out))⟩)
                    ·skip
                     rintro _ w32 ⟨hS_, h0_, h1_⟩
                     have n0_ : Aside0 (w32.heap[gb109]? = some (.cells #[.int .u8 a0_0, .int .u8 a0_1, .int .u8 a0_2, .int .u16 a0_3, .int .u32 a0_4, .int .u64 a0_5, .int .u32 a0_6, .bool true, .string a0_8] 28 (0, 0))) := ⟨h0_⟩
                     have n1_ : Aside0 (Below w.heap.size w w32) := ⟨h1_⟩
                     clear BK109
                     clear HB
                     clear h0_ h1_
                     have BK109 := n0_
                     have HB := n1_
                     clear n0_ n1_
                     have hHeld : w32.cell? ⟨gb109, 0, none⟩ = some (.int .u8 a0_0) ∧ w32.cell? ⟨gb109, 1, none⟩ = some (.int .u8 a0_1) ∧ w32.cell? ⟨gb109, 2, none⟩ = some (.int .u8 a0_2) ∧ w32.cell? ⟨gb109, 3, none⟩ = some (.int .u16 a0_3) ∧ w32.cell? ⟨gb109, 4, none⟩ = some (.int .u32 a0_4) ∧ w32.cell? ⟨gb109, 5, none⟩ = some (.int .u64 a0_5) ∧ w32.cell? ⟨gb109, 6, none⟩ = some (.int .u32 a0_6) ∧ w32.cell? ⟨gb109, 7, none⟩ = some (.bool true) ∧ w32.cell? ⟨gb109, 8, none⟩ = some (.string a0_8) := hS_
                     refine norm_ (a' := ?_) ?_ ?_
                     rotate_left
                     ·simp only [putAll, Act.put, List.setIfInBounds_toArray, List.set_cons_zero, List.set_cons_succ]
                      rfl
                     refine two_ (i := 8) (j := 21) (Ni := some 30) (Nj := some 43) #[true, true, true, true, true, true, true, true, true, false, false, true, true, true, true, true, false, true, true, true, true, false, false, false] #[true, true, true, true, true, true, true, true, false, false, false, true, true, true, true, true, false, true, true, true, true, true, false, false] rfl rfl rfl rfl (two_of HT_.out (by kernel_rfl)) (by decide) (by decide) (fun K hK => ?_) (fun K hK => ?_)
                     ·skip
                      refine Kd.R_lit_step (Kd.int .u8) _ 5 ?hg (N := 30) ?hd (xs := ([a0_0, a0_1, a0_2] : List Int)) (inner := [.int .u8 a0_0, .int .u8 a0_1, .int .u8 a0_2]) (ok := fun _ => True) (okp := fun _ => True) ?hr ?hp (fun _ hk => hk) trivial (Below.refl _ _) (Nat.le_refl _) (by simp) ?_; (case hd => rfl); (case hg => rfl); (case hr => first | (go_simp; done) | (go_simp; rfl)); (case hp => exact (Reps.one (show Kd.M (Kd.int .u8) _ _ _ a0_0 [.int .u8 a0_0] from rfl) (Reps.one (show Kd.M (Kd.int .u8) _ _ _ a0_1 [.int .u8 a0_1] from rfl) (Reps.one (show Kd.M (Kd.int .u8) _ _ _ a0_2 [.int .u8 a0_2] from rfl) (Reps.none _ _)))))
                      intro v115 w33 ho34 hb hg_ hnew_
                      clear hg_ hnew_
                      (first | rw [← Ny114.out] at ho34 | (simp only [Int.reduceToNat] at ho34; rw [← Ny114.out] at ho34))
                      have n0_ := Aside0.mk (Kd.R_lower ho34 (below_size (by repeat (first | (with_reducible first | exact HB.out | apply below_alloc | apply pw_below_drewN | apply below_drew1 | refine below_set ?_ GE109.out) | exact HB.out))))
                      have n1_ := Aside0.mk (blk_below (g := gb109) (o := .cells #[.int .u8 a0_0, .int .u8 a0_1, .int .u8 a0_2, .int .u16 a0_3, .int .u32 a0_4, .int .u64 a0_5, .int .u32 a0_6, .bool true, .string a0_8] 28 (0, 0)) (by (with_reducible repeat (first | refine blk_drewN ?_ _ | refine blk_drew ?_ | refine blk_alloc ?_ _)); exact BK109.out) hb)
                      have n2_ := Aside0.mk (below_step (by repeat (first | (with_reducible first | exact HB.out | apply below_alloc | apply pw_below_drewN | apply below_drew1 | refine below_set ?_ GE109.out) | exact HB.out)) hb)
                      clear BK109
                      clear HB
                      have HO116 := n0_
                      have BK109 := n1_
                      have HB := n2_
                      clear n0_ n1_ n2_
                      clear hb ho34
                      refine hK.out _ _ ⟨(blk_cell BK109.out 0).trans rfl, (blk_cell BK109.out 1).trans rfl, (blk_cell BK109.out 2).trans rfl, (blk_cell BK109.out 3).trans rfl, (blk_cell BK109.out 4).trans rfl, (blk_cell BK109.out 5).trans rfl, (blk_cell BK109.out 6).trans rfl, (blk_cell BK109.out 7).trans rfl, (blk_cell BK109.out 8).trans rfl⟩ (fun hHeld => ?_)
                      clear hK K
                      refine norm_ (a' := ?_) ?_ ?_
                      rotate_left
                      ·show Act.put _ (some 30) _ = _
                       simp only [Act.put, List.setIfInBounds_toArray, List.set_cons_zero, List.set_cons_succ, i64_w, i32_w]
                       rfl
                      exact norm_ (by first | (simp only [putAll, Act.put, List.setIfInBounds_toArray, List.set_cons_zero, List.set_cons_succ]; done) | (simp only [putAll, Act.put, List.setIfInBounds_toArray, List.set_cons_zero, List.set_cons_succ]; rfl)) (hJ8_15 (v115) _ ⟨hHeld, (by (with_reducible repeat (first | apply Kd.R_alloc | apply Kd.R_drewN | apply Kd.R_drew)); exact HO116.out), (by (with_reducible repeat (first | refine blk_drewN ?_ _ | refine blk_drew ?_ | refine blk_alloc ?_ _)); exact BK109.out), (by repeat (first | (with_reducible first | exact HB.out | apply below_alloc | apply pw_below_drewN | apply below_drew1 | refine below_set ?_ GE109.out) | exact HB.out))⟩)
                     ·skip
                      refine goes_ Try.func37 (by kernel_rfl) rfl #[.int .u64 (IntKind.u64.wrap (a0_4)), .int .i64 4] (by rfl) rfl rfl (by (try simp only [List.map_toArray, List.map_cons, List.map_nil]); first | done | rfl | (simp only [List.length_drop, List.length_take]; rfl)) ?_
                      with_reducible refine (concordref01_Fixed.calls k (IntKind.u64.wrap (a0_4)) 4 t118 _ A12.out).mono ?_
                      rintro e w33 ⟨rfl, hb⟩
                      refine ⟨_, rfl, ?_⟩
                      have n0_ := Aside0.mk (blk_below (g := gb109) (o := .cells #[.int .u8 a0_0, .int .u8 a0_1, .int .u8 a0_2, .int .u16 a0_3, .int .u32 a0_4, .int .u64 a0_5, .int .u32 a0_6, .bool true, .string a0_8] 28 (0, 0)) (by (with_reducible repeat (first | refine blk_drewN ?_ _ | refine blk_drew ?_ | refine blk_alloc ?_ _)); exact BK109.out) hb)
                      have n1_ := Aside0.mk (below_step (by repeat (first | (with_reducible first | exact HB.out | apply below_alloc | apply pw_below_drewN | apply below_drew1 | refine below_set ?_ GE109.out) | exact HB.out)) hb)
                      clear BK109
                      clear HB
                      have BK109 := n0_
                      have HB := n1_
                      clear n0_ n1_
                      (try clear hb)
                      (try clear hb2)
                      (try clear hk)
                      (try clear hi)
                      refine hK.out _ _ ⟨(blk_cell BK109.out 0).trans rfl, (blk_cell BK109.out 1).trans rfl, (blk_cell BK109.out 2).trans rfl, (blk_cell BK109.out 3).trans rfl, (blk_cell BK109.out 4).trans rfl, (blk_cell BK109.out 5).trans rfl, (blk_cell BK109.out 6).trans rfl, (blk_cell BK109.out 7).trans rfl, (blk_cell BK109.out 8).trans rfl⟩ (fun hHeld => ?_)
                      clear hK K
                      refine norm_ (a' := ?_) ?_ ?_
                      rotate_left
                      ·show Act.put _ (some 43) _ = _
                       simp only [Act.put, List.setIfInBounds_toArray, List.set_cons_zero, List.set_cons_succ, i64_w, i32_w]
                       rfl
                      exact norm_ (by first | (simp only [putAll, Act.put, List.setIfInBounds_toArray, List.set_cons_zero, List.set_cons_succ]; done) | (simp only [putAll, Act.put, List.setIfInBounds_toArray, List.set_cons_zero, List.set_cons_succ]; rfl)) (hJ15_21 () _ ⟨hHeld, (by (with_reducible repeat (first | refine blk_drewN ?_ _ | refine blk_drew ?_ | refine blk_alloc ?_ _)); exact BK109.out), (by repeat (first | (with_reducible first | exact HB.out | apply below_alloc | apply pw_below_drewN | apply below_drew1 | refine below_set ?_ GE109.out) | exact HB.out))⟩)
                   ·skip
                    rintro v115 w33 ⟨hS_, h0_, h1_, h2_⟩
                    have n0_ : Aside0 (Kd.R (Kd.int .u8) 5 w33 w.heap.size (fun _ => True) v115 y114) := ⟨h0_⟩
                    have n1_ : Aside0 (w33.heap[gb109]? = some (.cells #[.int .u8 a0_0, .int .u8 a0_1, .int .u8 a0_2, .int .u16 a0_3, .int .u32 a0_4, .int .u64 a0_5, .int .u32 a0_6, .bool true, .string a0_8] 28 (0, 0))) := ⟨h1_⟩
                    have n2_ : Aside0 (Below w.heap.size w w33) := ⟨h2_⟩
                    clear BK109
                    clear HB
                    clear h0_ h1_ h2_
                    have HO116 := n0_
                    have BK109 := n1_
                    have HB := n2_
                    clear n0_ n1_ n2_
                    have hHeld : w33.cell? ⟨gb109, 0, none⟩ = some (.int .u8 a0_0) ∧ w33.cell? ⟨gb109, 1, none⟩ = some (.int .u8 a0_1) ∧ w33.cell? ⟨gb109, 2, none⟩ = some (.int .u8 a0_2) ∧ w33.cell? ⟨gb109, 3, none⟩ = some (.int .u16 a0_3) ∧ w33.cell? ⟨gb109, 4, none⟩ = some (.int .u32 a0_4) ∧ w33.cell? ⟨gb109, 5, none⟩ = some (.int .u64 a0_5) ∧ w33.cell? ⟨gb109, 6, none⟩ = some (.int .u32 a0_6) ∧ w33.cell? ⟨gb109, 7, none⟩ = some (.bool true) ∧ w33.cell? ⟨gb109, 8, none⟩ = some (.string a0_8) := hS_
                    refine norm_ (a' := ?_) ?_ ?_
                    rotate_left
                    ·simp only [putAll, Act.put, List.setIfInBounds_toArray, List.set_cons_zero, List.set_cons_succ]
                     rfl
                    refine two_ (i := 9) (j := 15) (Ni := some 31) (Nj := some 37) #[true, true, true, true, true, true, true, true, true, true, false, true, true, true, true, false, false, true, true, true, true, false, false, false] #[true, true, true, true, true, true, true, true, true, false, false, true, true, true, true, true, false, true, true, true, true, false, false, false] rfl rfl rfl rfl (two_of HT_.out (by kernel_rfl)) (by decide) (by decide) (fun K hK => ?_) (fun K hK => ?_)
                    ·skip
                     have hcv34 := own_string (P := Try.prog) Try.underlying39 Try.underlying5 Try.underlying9 (Kd.own_of_R HO116.out)
                     refine value_ (w1 := ?_) (v := ?_) (by rfl) rfl ?_ ?_
                     rotate_left 2
                     ·go_simp
                      constructor
                      ·rfl
                      ·rfl
                     clear hcv34
                     refine hK.out _ _ ⟨(blk_cell BK109.out 0).trans rfl, (blk_cell BK109.out 1).trans rfl, (blk_cell BK109.out 2).trans rfl, (blk_cell BK109.out 3).trans rfl, (blk_cell BK109.out 4).trans rfl, (blk_cell BK109.out 5).trans rfl, (blk_cell BK109.out 6).trans rfl, (blk_cell BK109.out 7).trans rfl, (blk_cell BK109.out 8).trans rfl⟩ (fun hHeld => ?_)
                     clear hK K
                     refine norm_ (a' := ?_) ?_ ?_
                     rotate_left
                     ·show Act.put _ (some 31) _ = _
                      simp only [Act.put, List.setIfInBounds_toArray, List.set_cons_zero, List.set_cons_succ, i64_w, i32_w]
                      rfl
                     refine pure_ (i := 10) (N := some 32) (v := ?_) (a' := ?_) #[true, true, true, true, true, true, true, true, true, true, true, true, true, true, true, false, false, true, true, true, true, false, false, false] rfl rfl (any_of HT_.out (by kernel_rfl)) (fun _ _ _ h => h) (Or.inl ⟨by rfl, ?_⟩) ?_ ?_
                     rotate_left
                     ·intro w'
                      go_simp
                      with_reducible rfl
                     rotate_left
                     ·simp only [Act.put, List.setIfInBounds_toArray, List.set_cons_zero, List.set_cons_succ, i64_w, i32_w]
                      rfl
                     exact norm_ (by first | (simp only [putAll, Act.put, List.setIfInBounds_toArray, List.set_cons_zero, List.set_cons_succ]; done) | (simp only [putAll, Act.put, List.setIfInBounds_toArray, List.set_cons_zero, List.set_cons_succ]; rfl)) (hJ8_9 (v115) _ ⟨hHeld, (by (with_reducible repeat (first | apply Kd.R_alloc | apply Kd.R_drewN | apply Kd.R_drew)); exact HO116.out), (by (with_reducible repeat (first | refine blk_drewN ?_ _ | refine blk_drew ?_ | refine blk_alloc ?_ _)); exact BK109.out), (by repeat (first | (with_reducible first | exact HB.out | apply below_alloc | apply pw_below_drewN | apply below_drew1 | refine below_set ?_ GE109.out) | exact HB.out))⟩)
                    ·skip
                     refine goes_ Try.func37 (by kernel_rfl) rfl #[.int .u64 (IntKind.u64.wrap (a0_3)), .int .i64 2] (by rfl) rfl rfl (by (try simp only [List.map_toArray, List.map_cons, List.map_nil]); first | done | rfl | (simp only [List.length_drop, List.length_take]; rfl)) ?_
                     with_reducible refine (concordref01_Fixed.calls k (IntKind.u64.wrap (a0_3)) 2 t117 _ A10.out).mono ?_
                     rintro e w34 ⟨rfl, hb⟩
                     refine ⟨_, rfl, ?_⟩
                     have n0_ := Aside0.mk (Kd.R_below (by (with_reducible repeat (first | apply Kd.R_alloc | apply Kd.R_drewN | apply Kd.R_drew)); exact HO116.out) hb)
                     have n1_ := Aside0.mk (blk_below (g := gb109) (o := .cells #[.int .u8 a0_0, .int .u8 a0_1, .int .u8 a0_2, .int .u16 a0_3, .int .u32 a0_4, .int .u64 a0_5, .int .u32 a0_6, .bool true, .string a0_8] 28 (0, 0)) (by (with_reducible repeat (first | refine blk_drewN ?_ _ | refine blk_drew ?_ | refine blk_alloc ?_ _)); exact BK109.out) hb)
                     have n2_ := Aside0.mk (below_step (by repeat (first | (with_reducible first | exact HB.out | apply below_alloc | apply pw_below_drewN | apply below_drew1 | refine below_set ?_ GE109.out) | exact HB.out)) hb)
                     clear HO116
                     clear BK109
                     clear HB
                     have HO116 := n0_
                     have BK109 := n1_
                     have HB := n2_
                     clear n0_ n1_ n2_
                     (try clear hb)
                     (try clear hb2)
                     (try clear hk)
                     (try clear hi)
                     refine hK.out _ _ ⟨(blk_cell BK109.out 0).trans rfl, (blk_cell BK109.out 1).trans rfl, (blk_cell BK109.out 2).trans rfl, (blk_cell BK109.out 3).trans rfl, (blk_cell BK109.out 4).trans rfl, (blk_cell BK109.out 5).trans rfl, (blk_cell BK109.out 6).trans rfl, (blk_cell BK109.out 7).trans rfl, (blk_cell BK109.out 8).trans rfl⟩ (fun hHeld => ?_)
                     clear hK K
                     refine norm_ (a' := ?_) ?_ ?_
                     rotate_left
                     ·show Act.put _ (some 37) _ = _
                      simp only [Act.put, List.setIfInBounds_toArray, List.set_cons_zero, List.set_cons_succ, i64_w, i32_w]
                      rfl
                     exact norm_ (by first | (simp only [putAll, Act.put, List.setIfInBounds_toArray, List.set_cons_zero, List.set_cons_succ]; done) | (simp only [putAll, Act.put, List.setIfInBounds_toArray, List.set_cons_zero, List.set_cons_succ]; rfl)) (hJ8_15 (v115) _ ⟨hHeld, (by (with_reducible repeat (first | apply Kd.R_alloc | apply Kd.R_drewN | apply Kd.R_drew)); exact HO116.out), (by (with_reducible repeat (first | refine blk_drewN ?_ _ | refine blk_drew ?_ | refine blk_alloc ?_ _)); exact BK109.out), (by repeat (first | (with_reducible first | exact HB.out | apply below_alloc | apply pw_below_drewN | apply below_drew1 | refine below_set ?_ GE109.out) | exact HB.out))⟩)
                  ·skip
                   rintro _ w33 ⟨hS_, h0_, h1_⟩
                   have n0_ : Aside0 (w33.heap[gb109]? = some (.cells #[.int .u8 a0_0, .int .u8 a0_1, .int .u8 a0_2, .int .u16 a0_3, .int .u32 a0_4, .int .u64 a0_5, .int .u32 a0_6, .bool true, .string a0_8] 28 (0, 0))) := ⟨h0_⟩
                   have n1_ : Aside0 (Below w.heap.size w w33) := ⟨h1_⟩
                   clear BK109
                   clear HB
                   clear h0_ h1_
                   have BK109 := n0_
                   have HB := n1_
                   clear n0_ n1_
                   have hHeld : w33.cell? ⟨gb109, 0, none⟩ = some (.int .u8 a0_0) ∧ w33.cell? ⟨gb109, 1, none⟩ = some (.int .u8 a0_1) ∧ w33.cell? ⟨gb109, 2, none⟩ = some (.int .u8 a0_2) ∧ w33.cell? ⟨gb109, 3, none⟩ = some (.int .u16 a0_3) ∧ w33.cell? ⟨gb109, 4, none⟩ = some (.int .u32 a0_4) ∧ w33.cell? ⟨gb109, 5, none⟩ = some (.int .u64 a0_5) ∧ w33.cell? ⟨gb109, 6, none⟩ = some (.int .u32 a0_6) ∧ w33.cell? ⟨gb109, 7, none⟩ = some (.bool true) ∧ w33.cell? ⟨gb109, 8, none⟩ = some (.string a0_8) := hS_
                   refine norm_ (a' := ?_) ?_ ?_
                   rotate_left
                   ·simp only [putAll, Act.put, List.setIfInBounds_toArray, List.set_cons_zero, List.set_cons_succ]
                    rfl
                   refine one_ (i := 8) (N := some 30) #[true, true, true, true, true, true, true, true, true, false, false, true, true, true, true, true, false, true, true, true, true, true, false, false] rfl rfl (one_of HT_.out (by kernel_rfl)) (by decide) (fun K hK => ?_)
                   refine Kd.R_lit_step (Kd.int .u8) _ 5 ?hg (N := 30) ?hd (xs := ([a0_0, a0_1, a0_2] : List Int)) (inner := [.int .u8 a0_0, .int .u8 a0_1, .int .u8 a0_2]) (ok := fun _ => True) (okp := fun _ => True) ?hr ?hp (fun _ hk => hk) trivial (Below.refl _ _) (Nat.le_refl _) (by simp) ?_; (case hd => rfl); (case hg => rfl); (case hr => first | (go_simp; done) | (go_simp; rfl)); (case hp => exact (Reps.one (show Kd.M (Kd.int .u8) _ _ _ a0_0 [.int .u8 a0_0] from rfl) (Reps.one (show Kd.M (Kd.int .u8) _ _ _ a0_1 [.int .u8 a0_1] from rfl) (Reps.one (show Kd.M (Kd.int .u8) _ _ _ a0_2 [.int .u8 a0_2] from rfl) (Reps.none _ _)))))
                   intro v115 w34 ho35 hb hg_ hnew_
                   clear hg_ hnew_
                   (first | rw [← Ny114.out] at ho35 | (simp only [Int.reduceToNat] at ho35; rw [← Ny114.out] at ho35))
                   have n0_ := Aside0.mk (Kd.R_lower ho35 (below_size (by repeat (first | (with_reducible first | exact HB.out | apply below_alloc | apply pw_below_drewN | apply below_drew1 | refine below_set ?_ GE109.out) | exact HB.out))))
                   have n1_ := Aside0.mk (blk_below (g := gb109) (o := .cells #[.int .u8 a0_0, .int .u8 a0_1, .int .u8 a0_2, .int .u16 a0_3, .int .u32 a0_4, .int .u64 a0_5, .int .u32 a0_6, .bool true, .string a0_8] 28 (0, 0)) (by (with_reducible repeat (first | refine blk_drewN ?_ _ | refine blk_drew ?_ | refine blk_alloc ?_ _)); exact BK109.out) hb)
                   have n2_ := Aside0.mk (below_step (by repeat (first | (with_reducible first | exact HB.out | apply below_alloc | apply pw_below_drewN | apply below_drew1 | refine below_set ?_ GE109.out) | exact HB.out)) hb)
                   clear BK109
                   clear HB
                   have HO116 := n0_
                   have BK109 := n1_
                   have HB := n2_
                   clear n0_ n1_ n2_
                   clear hb ho35
                   refine hK.out _ _ ⟨(blk_cell BK109.out 0).trans rfl, (blk_cell BK109.out 1).trans rfl, (blk_cell BK109.out 2).trans rfl, (blk_cell BK109.out 3).trans rfl, (blk_cell BK109.out 4).trans rfl, (blk_cell BK109.out 5).trans rfl, (blk_cell BK109.out 6).trans rfl, (blk_cell BK109.out 7).trans rfl, (blk_cell BK109.out 8).trans rfl⟩ (fun hHeld => ?_)
                   clear hK K
                   refine norm_ (a' := ?_) ?_ ?_
                   rotate_left
                   ·show Act.put _ (some 30) _ = _
                    simp only [Act.put, List.setIfInBounds_toArray, List.set_cons_zero, List.set_cons_succ, i64_w, i32_w]
                    rfl
                   exact norm_ (by first | (simp only [putAll, Act.put, List.setIfInBounds_toArray, List.set_cons_zero, List.set_cons_succ]; done) | (simp only [putAll, Act.put, List.setIfInBounds_toArray, List.set_cons_zero, List.set_cons_succ]; rfl)) (hJ8_15_21 (v115) _ ⟨hHeld, (by (with_reducible repeat (first | apply Kd.R_alloc | apply Kd.R_drewN | apply Kd.R_drew)); exact HO116.out), (by (with_reducible repeat (first | refine blk_drewN ?_ _ | refine blk_drew ?_ | refine blk_alloc ?_ _)); exact BK109.out), (by repeat (first | (with_reducible first | exact HB.out | apply below_alloc | apply pw_below_drewN | apply below_drew1 | refine below_set ?_ GE109.out) | exact HB.out))⟩)
                 ·skip
                  rintro v115 w34 ⟨hS_, h0_, h1_, h2_⟩
                  have n0_ : Aside0 (Kd.R (Kd.int .u8) 5 w34 w.heap.size (fun _ => True) v115 y114) := ⟨h0_⟩
                  have n1_ : Aside0 (w34.heap[gb109]? = some (.cells #[.int .u8 a0_0, .int .u8 a0_1, .int .u8 a0_2, .int .u16 a0_3, .int .u32 a0_4, .int .u64 a0_5, .int .u32 a0_6, .bool true, .string a0_8] 28 (0, 0))) := ⟨h1_⟩
                  have n2_ : Aside0 (Below w.heap.size w w34) := ⟨h2_⟩
                  clear BK109
                  clear HB
                  clear h0_ h1_ h2_
                  have HO116 := n0_
                  have BK109 := n1_
                  have HB := n2_
                  clear n0_ n1_ n2_
                  have hHeld : w34.cell? ⟨gb109, 0, none⟩ = some (.int .u8 a0_0) ∧ w34.cell? ⟨gb109, 1, none⟩ = some (.int .u8 a0_1) ∧ w34.cell? ⟨gb109, 2, none⟩ = some (.int .u8 a0_2) ∧ w34.cell? ⟨gb109, 3, none⟩ = some (.int .u16 a0_3) ∧ w34.cell? ⟨gb109, 4, none⟩ = some (.int .u32 a0_4) ∧ w34.cell? ⟨gb109, 5, none⟩ = some (.int .u64 a0_5) ∧ w34.cell? ⟨gb109, 6, none⟩ = some (.int .u32 a0_6) ∧ w34.cell? ⟨gb109, 7, none⟩ = some (.bool true) ∧ w34.cell? ⟨gb109, 8, none⟩ = some (.string a0_8) := hS_
                  refine norm_ (a' := ?_) ?_ ?_
                  rotate_left
                  ·simp only [putAll, Act.put, List.setIfInBounds_toArray, List.set_cons_zero, List.set_cons_succ]
                   rfl
                  refine two_ (i := 9) (j := 21) (Ni := some 31) (Nj := some 43) #[true, true, true, true, true, true, true, true, true, true, false, true, true, true, true, true, false, true, true, true, true, false, false, false] #[true, true, true, true, true, true, true, true, true, false, false, true, true, true, true, true, false, true, true, true, true, true, false, false] rfl rfl rfl rfl (two_of HT_.out (by kernel_rfl)) (by decide) (by decide) (fun K hK => ?_) (fun K hK => ?_)
                  ·skip
                   have hcv35 := own_string (P := Try.prog) Try.underlying39 Try.underlying5 Try.underlying9 (Kd.own_of_R HO116.out)
                   refine value_ (w1 := ?_) (v := ?_) (by rfl) rfl ?_ ?_
                   rotate_left 2
                   ·go_simp
                    constructor
                    ·rfl
                    ·rfl
                   clear hcv35
                   refine hK.out _ _ ⟨(blk_cell BK109.out 0).trans rfl, (blk_cell BK109.out 1).trans rfl, (blk_cell BK109.out 2).trans rfl, (blk_cell BK109.out 3).trans rfl, (blk_cell BK109.out 4).trans rfl, (blk_cell BK109.out 5).trans rfl, (blk_cell BK109.out 6).trans rfl, (blk_cell BK109.out 7).trans rfl, (blk_cell BK109.out 8).trans rfl⟩ (fun hHeld => ?_)
                   clear hK K
                   refine norm_ (a' := ?_) ?_ ?_
                   rotate_left
                   ·show Act.put _ (some 31) _ = _
                    simp only [Act.put, List.setIfInBounds_toArray, List.set_cons_zero, List.set_cons_succ, i64_w, i32_w]
                    rfl
                   refine pure_ (i := 10) (N := some 32) (v := ?_) (a' := ?_) #[true, true, true, true, true, true, true, true, true, true, true, true, true, true, true, true, false, true, true, true, true, false, false, false] rfl rfl (any_of HT_.out (by kernel_rfl)) (fun _ _ _ h => h) (Or.inl ⟨by rfl, ?_⟩) ?_ ?_
                   rotate_left
                   ·intro w'
                    go_simp
                    with_reducible rfl
                   rotate_left
                   ·simp only [Act.put, List.setIfInBounds_toArray, List.set_cons_zero, List.set_cons_succ, i64_w, i32_w]
                    rfl
                   refine pure_ (i := 16) (N := some 38) (v := ?_) (a' := ?_) #[true, true, true, true, true, true, true, true, true, true, true, true, true, true, true, true, true, true, true, true, true, false, false, false] rfl rfl (any_of HT_.out (by kernel_rfl)) (fun _ _ _ h => h) (Or.inl ⟨by rfl, ?_⟩) ?_ ?_
                   rotate_left
                   ·intro w'
                    go_simp
                    with_reducible rfl
                   rotate_left
                   ·simp only [Act.put, List.setIfInBounds_toArray, List.set_cons_zero, List.set_cons_succ, i64_w, i32_w]
                    rfl
                   exact norm_ (by first | (simp only [putAll, Act.put, List.setIfInBounds_toArray, List.set_cons_zero, List.set_cons_succ]; done) | (simp only [putAll, Act.put, List.setIfInBounds_toArray, List.set_cons_zero, List.set_cons_succ]; rfl)) (hJ8_9_15 (v115) _ ⟨hHeld, (by (with_reducible repeat (first | apply Kd.R_alloc | apply Kd.R_drewN | apply Kd.R_drew)); exact HO116.out), (by (with_reducible repeat (first | refine blk_drewN ?_ _ | refine blk_drew ?_ | refine blk_alloc ?_ _)); exact BK109.out), (by repeat (first | (with_reducible first | exact HB.out | apply below_alloc | apply pw_below_drewN | apply below_drew1 | refine below_set ?_ GE109.out) | exact HB.out))⟩)
                  ·skip
                   refine goes_ Try.func37 (by kernel_rfl) rfl #[.int .u64 (IntKind.u64.wrap (a0_4)), .int .i64 4] (by rfl) rfl rfl (by (try simp only [List.map_toArray, List.map_cons, List.map_nil]); first | done | rfl | (simp only [List.length_drop, List.length_take]; rfl)) ?_
                   with_reducible refine (concordref01_Fixed.calls k (IntKind.u64.wrap (a0_4)) 4 t118 _ A12.out).mono ?_
                   rintro e w35 ⟨rfl, hb⟩
                   refine ⟨_, rfl, ?_⟩
                   have n0_ := Aside0.mk (Kd.R_below (by (with_reducible repeat (first | apply Kd.R_alloc | apply Kd.R_drewN | apply Kd.R_drew)); exact HO116.out) hb)
                   have n1_ := Aside0.mk (blk_below (g := gb109) (o := .cells #[.int .u8 a0_0, .int .u8 a0_1, .int .u8 a0_2, .int .u16 a0_3, .int .u32 a0_4, .int .u64 a0_5, .int .u32 a0_6, .bool true, .string a0_8] 28 (0, 0)) (by (with_reducible repeat (first | refine blk_drewN ?_ _ | refine blk_drew ?_ | refine blk_alloc ?_ _)); exact BK109.out) hb)
                   have n2_ := Aside0.mk (below_step (by repeat (first | (with_reducible first | exact HB.out | apply below_alloc | apply pw_below_drewN | apply below_drew1 | refine below_set ?_ GE109.out) | exact HB.out)) hb)
                   clear HO116
                   clear BK109
                   clear HB
                   have HO116 := n0_
                   have BK109 := n1_
                   have HB := n2_
                   clear n0_ n1_ n2_
                   (try clear hb)
                   (try clear hb2)
                   (try clear hk)
                   (try clear hi)
                   refine hK.out _ _ ⟨(blk_cell BK109.out 0).trans rfl, (blk_cell BK109.out 1).trans rfl, (blk_cell BK109.out 2).trans rfl, (blk_cell BK109.out 3).trans rfl, (blk_cell BK109.out 4).trans rfl, (blk_cell BK109.out 5).trans rfl, (blk_cell BK109.out 6).trans rfl, (blk_cell BK109.out 7).trans rfl, (blk_cell BK109.out 8).trans rfl⟩ (fun hHeld => ?_)
                   clear hK K
                   refine norm_ (a' := ?_) ?_ ?_
                   rotate_left
                   ·show Act.put _ (some 43) _ = _
                    simp only [Act.put, List.setIfInBounds_toArray, List.set_cons_zero, List.set_cons_succ, i64_w, i32_w]
                    rfl
                   exact norm_ (by first | (simp only [putAll, Act.put, List.setIfInBounds_toArray, List.set_cons_zero, List.set_cons_succ]; done) | (simp only [putAll, Act.put, List.setIfInBounds_toArray, List.set_cons_zero, List.set_cons_succ]; rfl)) (hJ8_15_21 (v115) _ ⟨hHeld, (by (with_reducible repeat (first | apply Kd.R_alloc | apply Kd.R_drewN | apply Kd.R_drew)); exact HO116.out), (by (with_reducible repeat (first | refine blk_drewN ?_ _ | refine blk_drew ?_ | refine blk_alloc ?_ _)); exact BK109.out), (by repeat (first | (with_reducible first | exact HB.out | apply below_alloc | apply pw_below_drewN | apply below_drew1 | refine below_set ?_ GE109.out) | exact HB.out))⟩)
                ·skip
                 rintro v115 w34 ⟨hS_, h0_, h1_, h2_⟩
                 have n0_ : Aside0 (Kd.R (Kd.int .u8) 5 w34 w.heap.size (fun _ => True) v115 y114) := ⟨h0_⟩
                 have n1_ : Aside0 (w34.heap[gb109]? = some (.cells #[.int .u8 a0_0, .int .u8 a0_1, .int .u8 a0_2, .int .u16 a0_3, .int .u32 a0_4, .int .u64 a0_5, .int .u32 a0_6, .bool true, .string a0_8] 28 (0, 0))) := ⟨h1_⟩
                 have n2_ : Aside0 (Below w.heap.size w w34) := ⟨h2_⟩
                 clear BK109
                 clear HB
                 clear h0_ h1_ h2_
                 have HO116 := n0_
                 have BK109 := n1_
                 have HB := n2_
                 clear n0_ n1_ n2_
                 have hHeld : w34.cell? ⟨gb109, 0, none⟩ = some (.int .u8 a0_0) ∧ w34.cell? ⟨gb109, 1, none⟩ = some (.int .u8 a0_1) ∧ w34.cell? ⟨gb109, 2, none⟩ = some (.int .u8 a0_2) ∧ w34.cell? ⟨gb109, 3, none⟩ = some (.int .u16 a0_3) ∧ w34.cell? ⟨gb109, 4, none⟩ = some (.int .u32 a0_4) ∧ w34.cell? ⟨gb109, 5, none⟩ = some (.int .u64 a0_5) ∧ w34.cell? ⟨gb109, 6, none⟩ = some (.int .u32 a0_6) ∧ w34.cell? ⟨gb109, 7, none⟩ = some (.bool true) ∧ w34.cell? ⟨gb109, 8, none⟩ = some (.string a0_8) := hS_
                 refine norm_ (a' := ?_) ?_ ?_
                 rotate_left
                 ·simp only [putAll, Act.put, List.setIfInBounds_toArray, List.set_cons_zero, List.set_cons_succ]
                  rfl
                 refine one_ (i := 15) (N := some 37) #[true, true, true, true, true, true, true, true, true, true, true, true, true, true, true, true, false, true, true, true, true, false, false, false] rfl rfl (one_of HT_.out (by kernel_rfl)) (by decide) (fun K hK => ?_)
                 refine goes_ Try.func37 (by kernel_rfl) rfl #[.int .u64 (IntKind.u64.wrap (a0_3)), .int .i64 2] (by rfl) rfl rfl (by (try simp only [List.map_toArray, List.map_cons, List.map_nil]); first | done | rfl | (simp only [List.length_drop, List.length_take]; rfl)) ?_
                 with_reducible refine (concordref01_Fixed.calls k (IntKind.u64.wrap (a0_3)) 2 t117 _ A10.out).mono ?_
                 rintro e w35 ⟨rfl, hb⟩
                 refine ⟨_, rfl, ?_⟩
                 have n0_ := Aside0.mk (Kd.R_below (by (with_reducible repeat (first | apply Kd.R_alloc | apply Kd.R_drewN | apply Kd.R_drew)); exact HO116.out) hb)
                 have n1_ := Aside0.mk (blk_below (g := gb109) (o := .cells #[.int .u8 a0_0, .int .u8 a0_1, .int .u8 a0_2, .int .u16 a0_3, .int .u32 a0_4, .int .u64 a0_5, .int .u32 a0_6, .bool true, .string a0_8] 28 (0, 0)) (by (with_reducible repeat (first | refine blk_drewN ?_ _ | refine blk_drew ?_ | refine blk_alloc ?_ _)); exact BK109.out) hb)
                 have n2_ := Aside0.mk (below_step (by repeat (first | (with_reducible first | exact HB.out | apply below_alloc | apply pw_below_drewN | apply below_drew1 | refine below_set ?_ GE109.out) | exact HB.out)) hb)
                 clear HO116
                 clear BK109
                 clear HB
                 have HO116 := n0_
                 have BK109 := n1_
                 have HB := n2_
                 clear n0_ n1_ n2_
                 (try clear hb)
                 (try clear hb2)
                 (try clear hk)
                 (try clear hi)
                 refine hK.out _ _ ⟨(blk_cell BK109.out 0).trans rfl, (blk_cell BK109.out 1).trans rfl, (blk_cell BK109.out 2).trans rfl, (blk_cell BK109.out 3).trans rfl, (blk_cell BK109.out 4).trans rfl, (blk_cell BK109.out 5).trans rfl, (blk_cell BK109.out 6).trans rfl, (blk_cell BK109.out 7).trans rfl, (blk_cell BK109.out 8).trans rfl⟩ (fun hHeld => ?_)
                 clear hK K
                 refine norm_ (a' := ?_) ?_ ?_
                 rotate_left
                 ·show Act.put _ (some 37) _ = _
                  simp only [Act.put, List.setIfInBounds_toArray, List.set_cons_zero, List.set_cons_succ, i64_w, i32_w]
                  rfl
                 refine pure_ (i := 16) (N := some 38) (v := ?_) (a' := ?_) #[true, true, true, true, true, true, true, true, true, true, true, true, true, true, true, true, true, true, true, true, true, false, false, false] rfl rfl (any_of HT_.out (by kernel_rfl)) (fun _ _ _ h => h) (Or.inl ⟨by rfl, ?_⟩) ?_ ?_
                 rotate_left
                 ·intro w'
                  go_simp
                  with_reducible rfl
                 rotate_left
                 ·simp only [Act.put, List.setIfInBounds_toArray, List.set_cons_zero, List.set_cons_succ, i64_w, i32_w]
                  rfl
                 exact norm_ (by first | (simp only [putAll, Act.put, List.setIfInBounds_toArray, List.set_cons_zero, List.set_cons_succ]; done) | (simp only [putAll, Act.put, List.setIfInBounds_toArray, List.set_cons_zero, List.set_cons_succ]; rfl)) (hJ8_9_15 (v115) _ ⟨hHeld, (by (with_reducible repeat (first | apply Kd.R_alloc | apply Kd.R_drewN | apply Kd.R_drew)); exact HO116.out), (by (with_reducible repeat (first | refine blk_drewN ?_ _ | refine blk_drew ?_ | refine blk_alloc ?_ _)); exact BK109.out), (by repeat (first | (with_reducible first | exact HB.out | apply below_alloc | apply pw_below_drewN | apply below_drew1 | refine below_set ?_ GE109.out) | exact HB.out))⟩)
               ·skip
                rintro v115 w35 ⟨hS_, h0_, h1_, h2_⟩
                have n0_ : Aside0 (Kd.R (Kd.int .u8) 5 w35 w.heap.size (fun _ => True) v115 y114) := ⟨h0_⟩
                have n1_ : Aside0 (w35.heap[gb109]? = some (.cells #[.int .u8 a0_0, .int .u8 a0_1, .int .u8 a0_2, .int .u16 a0_3, .int .u32 a0_4, .int .u64 a0_5, .int .u32 a0_6, .bool true, .string a0_8] 28 (0, 0))) := ⟨h1_⟩
                have n2_ : Aside0 (Below w.heap.size w w35) := ⟨h2_⟩
                clear BK109
                clear HB
                clear h0_ h1_ h2_
                have HO116 := n0_
                have BK109 := n1_
                have HB := n2_
                clear n0_ n1_ n2_
                have hHeld : w35.cell? ⟨gb109, 0, none⟩ = some (.int .u8 a0_0) ∧ w35.cell? ⟨gb109, 1, none⟩ = some (.int .u8 a0_1) ∧ w35.cell? ⟨gb109, 2, none⟩ = some (.int .u8 a0_2) ∧ w35.cell? ⟨gb109, 3, none⟩ = some (.int .u16 a0_3) ∧ w35.cell? ⟨gb109, 4, none⟩ = some (.int .u32 a0_4) ∧ w35.cell? ⟨gb109, 5, none⟩ = some (.int .u64 a0_5) ∧ w35.cell? ⟨gb109, 6, none⟩ = some (.int .u32 a0_6) ∧ w35.cell? ⟨gb109, 7, none⟩ = some (.bool true) ∧ w35.cell? ⟨gb109, 8, none⟩ = some (.string a0_8) := hS_
                refine norm_ (a' := ?_) ?_ ?_
                rotate_left
                ·simp only [putAll, Act.put, List.setIfInBounds_toArray, List.set_cons_zero, List.set_cons_succ]
                 rfl
                refine one_ (i := 9) (N := some 31) #[true, true, true, true, true, true, true, true, true, true, false, true, true, true, true, true, false, true, true, true, true, true, false, false] rfl rfl (one_of HT_.out (by kernel_rfl)) (by decide) (fun K hK => ?_)
                have hcv36 := own_string (P := Try.prog) Try.underlying39 Try.underlying5 Try.underlying9 (Kd.own_of_R HO116.out)
                refine value_ (w1 := ?_) (v := ?_) (by rfl) rfl ?_ ?_
                rotate_left 2
                ·go_simp
                 constructor
                 ·rfl
                 ·rfl
                clear hcv36
                refine hK.out _ _ ⟨(blk_cell BK109.out 0).trans rfl, (blk_cell BK109.out 1).trans rfl, (blk_cell BK109.out 2).trans rfl, (blk_cell BK109.out 3).trans rfl, (blk_cell BK109.out 4).trans rfl, (blk_cell BK109.out 5).trans rfl, (blk_cell BK109.out 6).trans rfl, (blk_cell BK109.out 7).trans rfl, (blk_cell BK109.out 8).trans rfl⟩ (fun hHeld => ?_)
                clear hK K
                refine norm_ (a' := ?_) ?_ ?_
                rotate_left
                ·show Act.put _ (some 31) _ = _
                 simp only [Act.put, List.setIfInBounds_toArray, List.set_cons_zero, List.set_cons_succ, i64_w, i32_w]
                 rfl
                refine pure_ (i := 10) (N := some 32) (v := ?_) (a' := ?_) #[true, true, true, true, true, true, true, true, true, true, true, true, true, true, true, true, false, true, true, true, true, true, false, false] rfl rfl (any_of HT_.out (by kernel_rfl)) (fun _ _ _ h => h) (Or.inl ⟨by rfl, ?_⟩) ?_ ?_
                rotate_left
                ·intro w'
                 go_simp
                 with_reducible rfl
                rotate_left
                ·simp only [Act.put, List.setIfInBounds_toArray, List.set_cons_zero, List.set_cons_succ, i64_w, i32_w]
                 rfl
                refine pure_ (i := 16) (N := some 38) (v := ?_) (a' := ?_) #[true, true, true, true, true, true, true, true, true, true, true, true, true, true, true, true, true, true, true, true, true, true, false, false] rfl rfl (any_of HT_.out (by kernel_rfl)) (fun _ _ _ h => h) (Or.inl ⟨by rfl, ?_⟩) ?_ ?_
                rotate_left
                ·intro w'
                 go_simp
                 with_reducible rfl
                rotate_left
                ·simp only [Act.put, List.setIfInBounds_toArray, List.set_cons_zero, List.set_cons_succ, i64_w, i32_w]
                 rfl
                exact norm_ (by first | (simp only [putAll, Act.put, List.setIfInBounds_toArray, List.set_cons_zero, List.set_cons_succ]; done) | (simp only [putAll, Act.put, List.setIfInBounds_toArray, List.set_cons_zero, List.set_cons_succ]; rfl)) (hJ8_9_15_21 (v115) _ ⟨hHeld, (by (with_reducible repeat (first | apply Kd.R_alloc | apply Kd.R_drewN | apply Kd.R_drew)); exact HO116.out), (by (with_reducible repeat (first | refine blk_drewN ?_ _ | refine blk_drew ?_ | refine blk_alloc ?_ _)); exact BK109.out), (by repeat (first | (with_reducible first | exact HB.out | apply below_alloc | apply pw_below_drewN | apply below_drew1 | refine below_set ?_ GE109.out) | exact HB.out))⟩)
              ·skip
               rintro v115 w35 ⟨hS_, h0_, h1_, h2_⟩
               have n0_ : Aside0 (Kd.R (Kd.int .u8) 5 w35 w.heap.size (fun _ => True) v115 y114) := ⟨h0_⟩
               have n1_ : Aside0 (w35.heap[gb109]? = some (.cells #[.int .u8 a0_0, .int .u8 a0_1, .int .u8 a0_2, .int .u16 a0_3, .int .u32 a0_4, .int .u64 a0_5, .int .u32 a0_6, .bool true, .string a0_8] 28 (0, 0))) := ⟨h1_⟩
               have n2_ : Aside0 (Below w.heap.size w w35) := ⟨h2_⟩
               clear BK109
               clear HB
               clear h0_ h1_ h2_
               have HO116 := n0_
               have BK109 := n1_
               have HB := n2_
               clear n0_ n1_ n2_
               have hHeld : w35.cell? ⟨gb109, 0, none⟩ = some (.int .u8 a0_0) ∧ w35.cell? ⟨gb109, 1, none⟩ = some (.int .u8 a0_1) ∧ w35.cell? ⟨gb109, 2, none⟩ = some (.int .u8 a0_2) ∧ w35.cell? ⟨gb109, 3, none⟩ = some (.int .u16 a0_3) ∧ w35.cell? ⟨gb109, 4, none⟩ = some (.int .u32 a0_4) ∧ w35.cell? ⟨gb109, 5, none⟩ = some (.int .u64 a0_5) ∧ w35.cell? ⟨gb109, 6, none⟩ = some (.int .u32 a0_6) ∧ w35.cell? ⟨gb109, 7, none⟩ = some (.bool true) ∧ w35.cell? ⟨gb109, 8, none⟩ = some (.string a0_8) := hS_
               refine norm_ (a' := ?_) ?_ ?_
               rotate_left
               ·simp only [putAll, Act.put, List.setIfInBounds_toArray, List.set_cons_zero, List.set_cons_succ]
                rfl
               refine one_ (i := 21) (N := some 43) #[true, true, true, true, true, true, true, true, true, true, true, true, true, true, true, true, true, true, true, true, true, true, false, false] rfl rfl (one_of HT_.out (by kernel_rfl)) (by decide) (fun K hK => ?_)
               refine goes_ Try.func37 (by kernel_rfl) rfl #[.int .u64 (IntKind.u64.wrap (a0_4)), .int .i64 4] (by rfl) rfl rfl (by (try simp only [List.map_toArray, List.map_cons, List.map_nil]); first | done | rfl | (simp only [List.length_drop, List.length_take]; rfl)) ?_
               with_reducible refine (concordref01_Fixed.calls k (IntKind.u64.wrap (a0_4)) 4 t118 _ A12.out).mono ?_
               rintro e w36 ⟨rfl, hb⟩
               refine ⟨_, rfl, ?_⟩
               have n0_ := Aside0.mk (Kd.R_below (by (with_reducible repeat (first | apply Kd.R_alloc | apply Kd.R_drewN | apply Kd.R_drew)); exact HO116.out) hb)
               have n1_ := Aside0.mk (blk_below (g := gb109) (o := .cells #[.int .u8 a0_0, .int .u8 a0_1, .int .u8 a0_2, .int .u16 a0_3, .int .u32 a0_4, .int .u64 a0_5, .int .u32 a0_6, .bool true, .string a0_8] 28 (0, 0)) (by (with_reducible repeat (first | refine blk_drewN ?_ _ | refine blk_drew ?_ | refine blk_alloc ?_ _)); exact BK109.out) hb)
               have n2_ := Aside0.mk (below_step (by repeat (first | (with_reducible first | exact HB.out | apply below_alloc | apply pw_below_drewN | apply below_drew1 | refine below_set ?_ GE109.out) | exact HB.out)) hb)
               clear HO116
               clear BK109
               clear HB
               have HO116 := n0_
               have BK109 := n1_
               have HB := n2_
               clear n0_ n1_ n2_
               (try clear hb)
               (try clear hb2)
               (try clear hk)
               (try clear hi)
               refine hK.out _ _ ⟨(blk_cell BK109.out 0).trans rfl, (blk_cell BK109.out 1).trans rfl, (blk_cell BK109.out 2).trans rfl, (blk_cell BK109.out 3).trans rfl, (blk_cell BK109.out 4).trans rfl, (blk_cell BK109.out 5).trans rfl, (blk_cell BK109.out 6).trans rfl, (blk_cell BK109.out 7).trans rfl, (blk_cell BK109.out 8).trans rfl⟩ (fun hHeld => ?_)
               clear hK K
               refine norm_ (a' := ?_) ?_ ?_
               rotate_left
               ·show Act.put _ (some 43) _ = _
                simp only [Act.put, List.setIfInBounds_toArray, List.set_cons_zero, List.set_cons_succ, i64_w, i32_w]
                rfl
               exact norm_ (by first | (simp only [putAll, Act.put, List.setIfInBounds_toArray, List.set_cons_zero, List.set_cons_succ]; done) | (simp only [putAll, Act.put, List.setIfInBounds_toArray, List.set_cons_zero, List.set_cons_succ]; rfl)) (hJ8_9_15_21 (v115) _ ⟨hHeld, (by (with_reducible repeat (first | apply Kd.R_alloc | apply Kd.R_drewN | apply Kd.R_drew)); exact HO116.out), (by (with_reducible repeat (first | refine blk_drewN ?_ _ | refine blk_drew ?_ | refine blk_alloc ?_ _)); exact BK109.out), (by repeat (first | (with_reducible first | exact HB.out | apply below_alloc | apply pw_below_drewN | apply below_drew1 | refine below_set ?_ GE109.out) | exact HB.out))⟩)
             rintro v115 w36 ⟨hS_, h0_, h1_, h2_⟩
             have n0_ : Aside0 (Kd.R (Kd.int .u8) 5 w36 w.heap.size (fun _ => True) v115 y114) := ⟨h0_⟩
             have n1_ : Aside0 (w36.heap[gb109]? = some (.cells #[.int .u8 a0_0, .int .u8 a0_1, .int .u8 a0_2, .int .u16 a0_3, .int .u32 a0_4, .int .u64 a0_5, .int .u32 a0_6, .bool true, .string a0_8] 28 (0, 0))) := ⟨h1_⟩
             have n2_ : Aside0 (Below w.heap.size w w36) := ⟨h2_⟩
             clear BK109
             clear HB
             clear h0_ h1_ h2_
             have HO116 := n0_
             have BK109 := n1_
             have HB := n2_
             clear n0_ n1_ n2_
             have hHeld : w36.cell? ⟨gb109, 0, none⟩ = some (.int .u8 a0_0) ∧ w36.cell? ⟨gb109, 1, none⟩ = some (.int .u8 a0_1) ∧ w36.cell? ⟨gb109, 2, none⟩ = some (.int .u8 a0_2) ∧ w36.cell? ⟨gb109, 3, none⟩ = some (.int .u16 a0_3) ∧ w36.cell? ⟨gb109, 4, none⟩ = some (.int .u32 a0_4) ∧ w36.cell? ⟨gb109, 5, none⟩ = some (.int .u64 a0_5) ∧ w36.cell? ⟨gb109, 6, none⟩ = some (.int .u32 a0_6) ∧ w36.cell? ⟨gb109, 7, none⟩ = some (.bool true) ∧ w36.cell? ⟨gb109, 8, none⟩ = some (.string a0_8) := hS_
             refine norm_ (a' := ?_) ?_ ?_
             rotate_left
             ·simp only [putAll, Act.put, List.setIfInBounds_toArray, List.set_cons_zero, List.set_cons_succ]
              rfl
             refine pure_ (i := 22) (N := some 44) (v := ?_) (a' := ?_) #[true, true, true, true, true, true, true, true, true, true, true, true, true, true, true, true, true, true, true, true, true, true, true, false] rfl rfl (any_of HT_.out (by kernel_rfl)) (fun _ _ _ h => h) (Or.inl ⟨by rfl, ?_⟩) ?_ ?_
             rotate_left
             ·intro w'
              go_simp
              with_reducible rfl
             rotate_left
             ·simp only [Act.put, List.setIfInBounds_toArray, List.set_cons_zero, List.set_cons_succ, i64_w, i32_w]
              rfl
             refine pure_ (i := 23) (N := some 5) (v := ?_) (a' := ?_) #[true, true, true, true, true, true, true, true, true, true, true, true, true, true, true, true, true, true, true, true, true, true, true, true] rfl rfl (any_of HT_.out (by kernel_rfl)) (fun _ _ _ h => h) (Or.inl ⟨by rfl, ?_⟩) ?_ ?_
             rotate_left
             ·intro w'
              go_simp
              with_reducible rfl
             rotate_left
             ·simp only [Act.put, List.setIfInBounds_toArray, List.set_cons_zero, List.set_cons_succ, i64_w, i32_w]
              rfl
             refine done_ (done_of HT_.out (by kernel_rfl)) ?_
             try go_wp2
             have n0_ := Aside0.mk (Kd.R_drew HO116.out)
             have n1_ := Aside0.mk (blk_drew BK109.out)
             have n2_ := Aside0.mk (below_drew1 HB.out)
             clear HO116
             clear BK109
             clear HB
             have HO116 := n0_
             have BK109 := n1_
             have HB := n2_
             clear n0_ n1_ n2_
             refine start_ (n := 11) (S := fun w' => w'.cell? ⟨gb109, 0, none⟩ = some (.int .u8 a0_0) ∧ w'.cell? ⟨gb109, 1, none⟩ = some (.int .u8 a0_1) ∧ w'.cell? ⟨gb109, 2, none⟩ = some (.int .u8 a0_2) ∧ w'.cell? ⟨gb109, 3, none⟩ = some (.int .u16 a0_3) ∧ w'.cell? ⟨gb109, 4, none⟩ = some (.int .u32 a0_4) ∧ w'.cell? ⟨gb109, 5, none⟩ = some (.int .u64 a0_5) ∧ w'.cell? ⟨gb109, 6, none⟩ = some (.int .u32 a0_6) ∧ w'.cell? ⟨gb109, 7, none⟩ = some (.bool true) ∧ w'.cell? ⟨gb109, 8, none⟩ = some (.string a0_8)) (ds := []) #[false, false, false, false, false, false, false, false, false, false, false] (by kernel_rfl) rfl rfl ⟨(blk_cell BK109.out 0).trans rfl, (blk_cell BK109.out 1).trans rfl, (blk_cell BK109.out 2).trans rfl, (blk_cell BK109.out 3).trans rfl, (blk_cell BK109.out 4).trans rfl, (blk_cell BK109.out 5).trans rfl, (blk_cell BK109.out 6).trans rfl, (blk_cell BK109.out 7).trans rfl, (blk_cell BK109.out 8).trans rfl⟩ (fun hHeld => ?_); refine with_tabW concordref21_Encode.tab6 concordref21_Encode.bits6 (fun HT_ HW_ => ?_)
             generalize w36.drew = w37 at HO116 BK109 HB hHeld ⊢
             refine pure_ (i := 0) (N := some 45) (v := ?_) (a' := ?_) #[true, false, false, false, false, false, false, false, false, false, false] rfl rfl (any_of HT_.out (by kernel_rfl)) (fun _ _ _ h => h) (Or.inl ⟨by rfl, ?_⟩) ?_ ?_
             rotate_left
             ·intro w'
              go_simp
              with_reducible rfl
             rotate_left
             ·simp only [Act.put, List.setIfInBounds_toArray, List.set_cons_zero, List.set_cons_succ, i64_w, i32_w]
              rfl
             refine pure_ (i := 1) (N := some 46) (v := ?_) (a' := ?_) #[true, true, false, false, false, false, false, false, false, false, false] rfl rfl (any_of HT_.out (by kernel_rfl)) (fun _ _ _ h => h) (Or.inl ⟨by rfl, ?_⟩) ?_ ?_
             rotate_left
             ·intro w'
              go_simp
              with_reducible rfl
             rotate_left
             ·simp only [Act.put, List.setIfInBounds_toArray, List.set_cons_zero, List.set_cons_succ, i64_w, i32_w]
              rfl
             refine pure_ (i := 5) (N := some 50) (v := ?_) (a' := ?_) #[true, true, false, false, false, true, false, false, false, false, false] rfl rfl (any_of HT_.out (by kernel_rfl)) (fun _ _ _ h => h) (Or.inl ⟨by rfl, ?_⟩) ?_ ?_
             rotate_left
             ·intro w'
              go_simp
              with_reducible rfl
             rotate_left
             ·simp only [Act.put, List.setIfInBounds_toArray, List.set_cons_zero, List.set_cons_succ, i64_w, i32_w]
              rfl
             refine take_ (i := 2) (N := some 47) (v := ?_) (a' := ?_) #[true, true, true, false, false, true, false, false, false, false, false] rfl rfl (take_ofW HT_.out HW_.out (by kernel_rfl)) (fun _ _ _ h => h) (Or.inl ⟨by rfl, ?_⟩) hHeld ?_ ?_
             rotate_left
             ·rintro w' ⟨s0, s1, s2, s3, s4, s5, s6, s7, s8⟩
              go_simp
              with_reducible rfl
             rotate_left
             ·simp only [Act.put, List.setIfInBounds_toArray, List.set_cons_zero, List.set_cons_succ, i64_w, i32_w]
              rfl
             refine take_ (i := 6) (N := some 51) (v := ?_) (a' := ?_) #[true, true, true, false, false, true, true, false, false, false, false] rfl rfl (take_ofW HT_.out HW_.out (by kernel_rfl)) (fun _ _ _ h => h) (Or.inl ⟨by rfl, ?_⟩) hHeld ?_ ?_
             rotate_left
             ·rintro w' ⟨s0, s1, s2, s3, s4, s5, s6, s7, s8⟩
              go_simp
              with_reducible rfl
             rotate_left
             ·simp only [Act.put, List.setIfInBounds_toArray, List.set_cons_zero, List.set_cons_succ, i64_w, i32_w]
              rfl
             refine pure_ (i := 7) (N := some 52) (v := ?_) (a' := ?_) #[true, true, true, false, false, true, true, true, false, false, false] rfl rfl (any_of HT_.out (by kernel_rfl)) (fun _ _ _ h => h) (Or.inl ⟨by rfl, ?_⟩) ?_ ?_
             rotate_left
             ·intro w'
              go_simp
              with_reducible rfl
             rotate_left
             ·simp only [Act.put, List.setIfInBounds_toArray, List.set_cons_zero, List.set_cons_succ, i64_w, i32_w]
              rfl
             refine one_ (i := 3) (N := some 48) #[true, true, true, true, false, true, true, true, false, false, false] rfl rfl (one_of HT_.out (by kernel_rfl)) (by decide) (fun K hK => ?_)
             refine goes_ Try.func37 (by kernel_rfl) rfl #[.int .u64 a0_5, .int .i64 8] (by rfl) rfl rfl (by (try simp only [List.map_toArray, List.map_cons, List.map_nil]); first | done | rfl | (simp only [List.length_drop, List.length_take]; rfl)) ?_
             with_reducible refine (concordref01_Fixed.calls k a0_5 8 t119 _ A14.out).mono ?_
             rintro e w38 ⟨rfl, hb⟩
             refine ⟨_, rfl, ?_⟩
             have n0_ := Aside0.mk (Kd.R_below (by (with_reducible repeat (first | apply Kd.R_alloc | apply Kd.R_drewN | apply Kd.R_drew)); exact HO116.out) hb)
             have n1_ := Aside0.mk (blk_below (g := gb109) (o := .cells #[.int .u8 a0_0, .int .u8 a0_1, .int .u8 a0_2, .int .u16 a0_3, .int .u32 a0_4, .int .u64 a0_5, .int .u32 a0_6, .bool true, .string a0_8] 28 (0, 0)) (by (with_reducible repeat (first | refine blk_drewN ?_ _ | refine blk_drew ?_ | refine blk_alloc ?_ _)); exact BK109.out) hb)
             have n2_ := Aside0.mk (below_step (by repeat (first | (with_reducible first | exact HB.out | apply below_alloc | apply pw_below_drewN | apply below_drew1 | refine below_set ?_ GE109.out) | exact HB.out)) hb)
             clear HO116
             clear BK109
             clear HB
             have HO116 := n0_
             have BK109 := n1_
             have HB := n2_
             clear n0_ n1_ n2_
             (try clear hb)
             (try clear hb2)
             (try clear hk)
             (try clear hi)
             refine hK.out _ _ ⟨(blk_cell BK109.out 0).trans rfl, (blk_cell BK109.out 1).trans rfl, (blk_cell BK109.out 2).trans rfl, (blk_cell BK109.out 3).trans rfl, (blk_cell BK109.out 4).trans rfl, (blk_cell BK109.out 5).trans rfl, (blk_cell BK109.out 6).trans rfl, (blk_cell BK109.out 7).trans rfl, (blk_cell BK109.out 8).trans rfl⟩ (fun hHeld => ?_)
             clear hK K
             refine norm_ (a' := ?_) ?_ ?_
             rotate_left
             ·show Act.put _ (some 48) _ = _
              simp only [Act.put, List.setIfInBounds_toArray, List.set_cons_zero, List.set_cons_succ, i64_w, i32_w]
              rfl
             refine pure_ (i := 4) (N := some 49) (v := ?_) (a' := ?_) #[true, true, true, true, true, true, true, true, false, false, false] rfl rfl (any_of HT_.out (by kernel_rfl)) (fun _ _ _ h => h) (Or.inl ⟨by rfl, ?_⟩) ?_ ?_
             rotate_left
             ·intro w'
              go_simp
              with_reducible rfl
             rotate_left
             ·simp only [Act.put, List.setIfInBounds_toArray, List.set_cons_zero, List.set_cons_succ, i64_w, i32_w]
              rfl
             refine one_ (i := 8) (N := some 53) #[true, true, true, true, true, true, true, true, true, false, false] rfl rfl (one_of HT_.out (by kernel_rfl)) (by decide) (fun K hK => ?_)
             refine goes_ Try.func37 (by kernel_rfl) rfl #[.int .u64 (IntKind.u64.wrap (a0_6)), .int .i64 4] (by rfl) rfl rfl (by (try simp only [List.map_toArray, List.map_cons, List.map_nil]); first | done | rfl | (simp only [List.length_drop, List.length_take]; rfl)) ?_
             with_reducible refine (concordref01_Fixed.calls k (IntKind.u64.wrap (a0_6)) 4 t120 _ A16.out).mono ?_
             rintro e w39 ⟨rfl, hb⟩
             refine ⟨_, rfl, ?_⟩
             have n0_ := Aside0.mk (Kd.R_below (by (with_reducible repeat (first | apply Kd.R_alloc | apply Kd.R_drewN | apply Kd.R_drew)); exact HO116.out) hb)
             have n1_ := Aside0.mk (blk_below (g := gb109) (o := .cells #[.int .u8 a0_0, .int .u8 a0_1, .int .u8 a0_2, .int .u16 a0_3, .int .u32 a0_4, .int .u64 a0_5, .int .u32 a0_6, .bool true, .string a0_8] 28 (0, 0)) (by (with_reducible repeat (first | refine blk_drewN ?_ _ | refine blk_drew ?_ | refine blk_alloc ?_ _)); exact BK109.out) hb)
             have n2_ := Aside0.mk (below_step (by repeat (first | (with_reducible first | exact HB.out | apply below_alloc | apply pw_below_drewN | apply below_drew1 | refine below_set ?_ GE109.out) | exact HB.out)) hb)
             clear HO116
             clear BK109
             clear HB
             have HO116 := n0_
             have BK109 := n1_
             have HB := n2_
             clear n0_ n1_ n2_
             (try clear hb)
             (try clear hb2)
             (try clear hk)
             (try clear hi)
             refine hK.out _ _ ⟨(blk_cell BK109.out 0).trans rfl, (blk_cell BK109.out 1).trans rfl, (blk_cell BK109.out 2).trans rfl, (blk_cell BK109.out 3).trans rfl, (blk_cell BK109.out 4).trans rfl, (blk_cell BK109.out 5).trans rfl, (blk_cell BK109.out 6).trans rfl, (blk_cell BK109.out 7).trans rfl, (blk_cell BK109.out 8).trans rfl⟩ (fun hHeld => ?_)
             clear hK K
             refine norm_ (a' := ?_) ?_ ?_
             rotate_left
             ·show Act.put _ (some 53) _ = _
              simp only [Act.put, List.setIfInBounds_toArray, List.set_cons_zero, List.set_cons_succ, i64_w, i32_w]
              rfl
             refine pure_ (i := 9) (N := some 54) (v := ?_) (a' := ?_) #[true, true, true, true, true, true, true, true, true, true, false] rfl rfl (any_of HT_.out (by kernel_rfl)) (fun _ _ _ h => h) (Or.inl ⟨by rfl, ?_⟩) ?_ ?_
             rotate_left
             ·intro w'
              go_simp
              with_reducible rfl
             rotate_left
             ·simp only [Act.put, List.setIfInBounds_toArray, List.set_cons_zero, List.set_cons_succ, i64_w, i32_w]
              rfl
             refine pure_ (i := 10) (N := some 5) (v := ?_) (a' := ?_) #[true, true, true, true, true, true, true, true, true, true, true] rfl rfl (any_of HT_.out (by kernel_rfl)) (fun _ _ _ h => h) (Or.inl ⟨by rfl, ?_⟩) ?_ ?_
             rotate_left
             ·intro w'
              go_simp
              with_reducible rfl
             rotate_left
             ·simp only [Act.put, List.setIfInBounds_toArray, List.set_cons_zero, List.set_cons_succ, i64_w, i32_w]
              rfl
             refine done_ (done_of HT_.out (by kernel_rfl)) ?_
             have hcz40_0 : w39.cell? ⟨gb109, 0, none⟩ = some (.int .u8 a0_0) := (blk_cell BK109.out 0).trans rfl
             have hcz40_1 : w39.cell? ⟨gb109, 1, none⟩ = some (.int .u8 a0_1) := (blk_cell BK109.out 1).trans rfl
             have hcz40_2 : w39.cell? ⟨gb109, 2, none⟩ = some (.int .u8 a0_2) := (blk_cell BK109.out 2).trans rfl
             have hcz40_3 : w39.cell? ⟨gb109, 3, none⟩ = some (.int .u16 a0_3) := (blk_cell BK109.out 3).trans rfl
             have hcz40_4 : w39.cell? ⟨gb109, 4, none⟩ = some (.int .u32 a0_4) := (blk_cell BK109.out 4).trans rfl
             have hcz40_5 : w39.cell? ⟨gb109, 5, none⟩ = some (.int .u64 a0_5) := (blk_cell BK109.out 5).trans rfl
             have hcz40_6 : w39.cell? ⟨gb109, 6, none⟩ = some (.int .u32 a0_6) := (blk_cell BK109.out 6).trans rfl
             have hcz40_7 : w39.cell? ⟨gb109, 7, none⟩ = some (.bool true) := (blk_cell BK109.out 7).trans rfl
             have hcz40_8 : w39.cell? ⟨gb109, 8, none⟩ = some (.string a0_8) := (blk_cell BK109.out 8).trans rfl
             have hfz40_0 := blk_frozen BK109.out 0
             have hfz40_1 := blk_frozen BK109.out 1
             have hfz40_2 := blk_frozen BK109.out 2
             have hfz40_3 := blk_frozen BK109.out 3
             have hfz40_4 := blk_frozen BK109.out 4
             have hfz40_5 := blk_frozen BK109.out 5
             have hfz40_6 := blk_frozen BK109.out 6
             have hfz40_7 := blk_frozen BK109.out 7
             have hfz40_8 := blk_frozen BK109.out 8
             try go_wp2_with (first | ((with_reducible refine gate_callee (f := 38) rfl ?_); refine goesL_ (some 67) rfl rfl Try.func38 (by kernel_rfl) rfl #[.string ((((((((((⟨#[157, 227]⟩ : ByteArray) ++ t111) ++ t113) ++ (strOfNums y114)) ++ t117) ++ t118) ++ t119) ++ t120) ++ (⟨#[1]⟩ : ByteArray)) ++ a0_8)] rfl (by (try simp only [List.map_toArray, List.map_cons, List.map_nil]); first | done | rfl | (simp only [List.length_drop, List.length_take]; rfl)) ?_; (with_reducible refine (concordref01_Sum.calls ((((((((((⟨#[157, 227]⟩ : ByteArray) ++ t111) ++ t113) ++ (strOfNums y114)) ++ t117) ++ t118) ++ t119) ++ t120) ++ (⟨#[1]⟩ : ByteArray)) ++ a0_8) t121 _ A21.out).mono ?_); rintro e w' ⟨rfl, ⟨nd, rfl⟩⟩; refine ⟨_, rfl, ?_⟩) | ((with_reducible refine gate_callee (f := 37) rfl ?_); refine goesL_ (some 69) rfl rfl Try.func37 (by kernel_rfl) rfl #[.int .u64 (IntKind.u64.wrap (t121)), .int .i64 4] rfl (by (try simp only [List.map_toArray, List.map_cons, List.map_nil]); first | done | rfl | (simp only [List.length_drop, List.length_take]; rfl)) ?_; (with_reducible refine (concordref01_Fixed.calls k (IntKind.u64.wrap (t121)) 4 t122 _ A22.out).mono ?_); rintro e w41 ⟨rfl, hb⟩; refine ⟨_, rfl, ?_⟩; have n0_ := Aside0.mk (Kd.R_below (by (with_reducible repeat (first | apply Kd.R_alloc | apply Kd.R_drewN | apply Kd.R_drew)); exact HO116.out) hb); have n1_ := Aside0.mk (blk_below (g := gb109) (o := .cells #[.int .u8 a0_0, .int .u8 a0_1, .int .u8 a0_2, .int .u16 a0_3, .int .u32 a0_4, .int .u64 a0_5, .int .u32 a0_6, .bool true, .string a0_8] 28 (0, 0)) (by (with_reducible repeat (first | refine blk_drewN ?_ _ | refine blk_drew ?_ | refine blk_alloc ?_ _)); exact BK109.out) hb); have n2_ := Aside0.mk (below_step (by repeat (first | (with_reducible first | exact HB.out | apply below_alloc | apply pw_below_drewN | apply below_drew1 | refine below_set ?_ GE109.out) | exact HB.out)) hb); clear HO116; clear BK109; clear HB; have HO116 := n0_; have BK109 := n1_; have HB := n2_; clear n0_ n1_ n2_; (try clear hb); (try clear hb2); (try clear hk); (try clear hi)))
             go_ret2
             exact ⟨by first | rfl | (simp [errW_none, errW_some] <;> rfl) | (simp [*, errW_none, errW_some] <;> rfl), by repeat (first | (with_reducible first | exact HB.out | apply below_alloc | apply pw_below_drewN | apply below_drew1 | refine below_set ?_ GE109.out) | exact HB.out)⟩
            ·rw [if_neg c23] at H
             exact absurd H (by simp)
           ·rw [if_neg c20] at H
            exact absurd H (by simp)
          ·rw [if_neg c19] at H
           exact absurd H (by simp)
         ·replace c18 := Bool.eq_false_iff.mpr c18
          subst c18
          have H1 : (if ((((((((⟨#[157, 227]⟩ : ByteArray) ++ t111) ++ t113) ++ (strOfNums y114)) ++ t117) ++ t118) ++ t119) ++ t120).size + 1 ≤ 9223372036854775807 then (if (((((((((⟨#[157, 227]⟩ : ByteArray) ++ t111) ++ t113) ++ (strOfNums y114)) ++ t117) ++ t118) ++ t119) ++ t120) ++ (⟨#[0]⟩ : ByteArray)).size + a0_8.size ≤ 9223372036854775807 then ((concordref01_Sum.f ((((((((((⟨#[157, 227]⟩ : ByteArray) ++ t111) ++ t113) ++ (strOfNums y114)) ++ t117) ++ t118) ++ t119) ++ t120) ++ (⟨#[0]⟩ : ByteArray)) ++ a0_8)).bind fun t123 => ((concordref01_Fixed.f k (IntKind.u64.wrap (t123)) 4).bind fun t124 => (if ((((((((((⟨#[157, 227]⟩ : ByteArray) ++ t111) ++ t113) ++ (strOfNums y114)) ++ t117) ++ t118) ++ t119) ++ t120) ++ (⟨#[0]⟩ : ByteArray)) ++ a0_8).size + t124.size ≤ 9223372036854775807 then (some (((((((((((⟨#[157, 227]⟩ : ByteArray) ++ t111) ++ t113) ++ (strOfNums y114)) ++ t117) ++ t118) ++ t119) ++ t120) ++ (⟨#[0]⟩ : ByteArray)) ++ a0_8) ++ t124, 0)) else (none)))) else (none)) else (none)) = some (r1, r2) := by rw [if_neg (show ¬ (false = true) by decide)] at H; exact H
          clear H
          have H := H1
          clear H1
          by_cases c42 : ((((((((⟨#[157, 227]⟩ : ByteArray) ++ t111) ++ t113) ++ (strOfNums y114)) ++ t117) ++ t118) ++ t119) ++ t120).size + 1 ≤ 9223372036854775807
          ·rw [if_pos c42] at H
           have c42b0 := eq_true c42
           have c42b1 : decide (((((((((⟨#[157, 227]⟩ : ByteArray) ++ t111) ++ t113) ++ (strOfNums y114)) ++ t117) ++ t118) ++ t119) ++ t120).size + 1 ≤ 9223372036854775807) = true := decide_eq_true c42
           try have c42b2 : (9223372036854775807 < ((((((((⟨#[157, 227]⟩ : ByteArray) ++ t111) ++ t113) ++ (strOfNums y114)) ++ t117) ++ t118) ++ t119) ++ t120).size + 1) = False := eq_false (Nat.not_lt.2 c42)
           try (have c42b3 := c42b2; simp only [ByteArray.size_append] at c42b3)
           try (have c42b4 := c42b3; simp only [lsz1, lsz2] at c42b4)
           by_cases c43 : (((((((((⟨#[157, 227]⟩ : ByteArray) ++ t111) ++ t113) ++ (strOfNums y114)) ++ t117) ++ t118) ++ t119) ++ t120) ++ (⟨#[0]⟩ : ByteArray)).size + a0_8.size ≤ 9223372036854775807
           ·rw [if_pos c43] at H
            have c43b0 := eq_true c43
            have c43b1 : decide ((((((((((⟨#[157, 227]⟩ : ByteArray) ++ t111) ++ t113) ++ (strOfNums y114)) ++ t117) ++ t118) ++ t119) ++ t120) ++ (⟨#[0]⟩ : ByteArray)).size + a0_8.size ≤ 9223372036854775807) = true := decide_eq_true c43
            try have c43b2 : (9223372036854775807 < (((((((((⟨#[157, 227]⟩ : ByteArray) ++ t111) ++ t113) ++ (strOfNums y114)) ++ t117) ++ t118) ++ t119) ++ t120) ++ (⟨#[0]⟩ : ByteArray)).size + a0_8.size) = False := eq_false (Nat.not_lt.2 c43)
            try (have c43b3 := c43b2; simp only [ByteArray.size_append] at c43b3)
            try (have c43b4 := c43b3; simp only [lsz1, lsz2] at c43b4)
            replace H := Option.bind_eq_some_iff.mp H
            obtain ⟨t123, A440, H⟩ := H
            replace H : ((concordref01_Fixed.f k (IntKind.u64.wrap (t123)) 4).bind fun t124 => (if ((((((((((⟨#[157, 227]⟩ : ByteArray) ++ t111) ++ t113) ++ (strOfNums y114)) ++ t117) ++ t118) ++ t119) ++ t120) ++ (⟨#[0]⟩ : ByteArray)) ++ a0_8).size + t124.size ≤ 9223372036854775807 then (some (((((((((((⟨#[157, 227]⟩ : ByteArray) ++ t111) ++ t113) ++ (strOfNums y114)) ++ t117) ++ t118) ++ t119) ++ t120) ++ (⟨#[0]⟩ : ByteArray)) ++ a0_8) ++ t124, 0)) else (none))) = some (r1, r2) := H
            have A44 := Aside0.mk A440
            clear A440
            replace H := Option.bind_eq_some_iff.mp H
            obtain ⟨t124, A450, H⟩ := H
            replace H : (if ((((((((((⟨#[157, 227]⟩ : ByteArray) ++ t111) ++ t113) ++ (strOfNums y114)) ++ t117) ++ t118) ++ t119) ++ t120) ++ (⟨#[0]⟩ : ByteArray)) ++ a0_8).size + t124.size ≤ 9223372036854775807 then (some (((((((((((⟨#[157, 227]⟩ : ByteArray) ++ t111) ++ t113) ++ (strOfNums y114)) ++ t117) ++ t118) ++ t119) ++ t120) ++ (⟨#[0]⟩ : ByteArray)) ++ a0_8) ++ t124, 0)) else (none)) = some (r1, r2) := H
            have A45 := Aside0.mk A450
            clear A450
            by_cases c46 : ((((((((((⟨#[157, 227]⟩ : ByteArray) ++ t111) ++ t113) ++ (strOfNums y114)) ++ t117) ++ t118) ++ t119) ++ t120) ++ (⟨#[0]⟩ : ByteArray)) ++ a0_8).size + t124.size ≤ 9223372036854775807
            ·rw [if_pos c46] at H
             have c46b0 := eq_true c46
             have c46b1 : decide (((((((((((⟨#[157, 227]⟩ : ByteArray) ++ t111) ++ t113) ++ (strOfNums y114)) ++ t117) ++ t118) ++ t119) ++ t120) ++ (⟨#[0]⟩ : ByteArray)) ++ a0_8).size + t124.size ≤ 9223372036854775807) = true := decide_eq_true c46
             try have c46b2 : (9223372036854775807 < ((((((((((⟨#[157, 227]⟩ : ByteArray) ++ t111) ++ t113) ++ (strOfNums y114)) ++ t117) ++ t118) ++ t119) ++ t120) ++ (⟨#[0]⟩ : ByteArray)) ++ a0_8).size + t124.size) = False := eq_false (Nat.not_lt.2 c46)
             try (have c46b3 := c46b2; simp only [ByteArray.size_append] at c46b3)
             try (have c46b4 := c46b3; simp only [lsz1, lsz2] at c46b4)
             simp only [Option.some.injEq, Prod.mk.injEq] at H
             obtain ⟨rfl, rfl⟩ := H
             go_enter Try.func12, Try.ntmps12
             try go_wp2_with (first | ((with_reducible refine gate_dst (N := 1) rfl ?_); refine box_event ?hg (N := 1) ?hd (cs := #[.int .u8 a0_0, .int .u8 a0_1, .int .u8 a0_2, .int .u16 a0_3, .int .u32 a0_4, .int .u64 a0_5, .int .u32 a0_6, .bool false, .string a0_8]) (t := 28) ?hr ?_; (case hd => rfl); (case hg => rfl); (case hr => first | (go_simp; done) | (go_simp; rfl)); intro gb109 hg w47 hbox hb; have n0_ := Aside0.mk (below_step (by repeat (first | (with_reducible first | exact HB.out | apply below_alloc | apply pw_below_drewN | apply below_drew1) | exact HB.out | exact Below.refl _ _)) hb); have n1_ := Aside0.mk (hbox); have n2_ := Aside0.mk ((by rw [hg]; exact (below_size (by repeat (first | (with_reducible first | exact HB.out | apply below_alloc | apply pw_below_drewN | apply below_drew1) | exact HB.out | exact Below.refl _ _))) : w.heap.size ≤ gb109)); have n3_ := Aside0.mk ((by rw [hg]; exact (below_size (by repeat (first | (with_reducible first | exact HB.out | apply below_alloc | apply pw_below_drewN | apply below_drew1) | exact HB.out | exact Below.refl _ _))) : w.heap.size ≤ gb109)); clear HB; have HB := n0_; have BK109 := n1_; have GW109 := n2_; have GE109 := n3_; clear n0_ n1_ n2_ n3_; clear hb hbox hg; have hcz48_0 : w47.cell? ⟨gb109, 0, none⟩ = some (.int .u8 a0_0) := (blk_cell BK109.out 0).trans rfl; have hcz48_1 : w47.cell? ⟨gb109, 1, none⟩ = some (.int .u8 a0_1) := (blk_cell BK109.out 1).trans rfl; have hcz48_2 : w47.cell? ⟨gb109, 2, none⟩ = some (.int .u8 a0_2) := (blk_cell BK109.out 2).trans rfl; have hcz48_3 : w47.cell? ⟨gb109, 3, none⟩ = some (.int .u16 a0_3) := (blk_cell BK109.out 3).trans rfl; have hcz48_4 : w47.cell? ⟨gb109, 4, none⟩ = some (.int .u32 a0_4) := (blk_cell BK109.out 4).trans rfl; have hcz48_5 : w47.cell? ⟨gb109, 5, none⟩ = some (.int .u64 a0_5) := (blk_cell BK109.out 5).trans rfl; have hcz48_6 : w47.cell? ⟨gb109, 6, none⟩ = some (.int .u32 a0_6) := (blk_cell BK109.out 6).trans rfl; have hcz48_7 : w47.cell? ⟨gb109, 7, none⟩ = some (.bool false) := (blk_cell BK109.out 7).trans rfl; have hcz48_8 : w47.cell? ⟨gb109, 8, none⟩ = some (.string a0_8) := (blk_cell BK109.out 8).trans rfl; have hfz48_0 := blk_frozen BK109.out 0; have hfz48_1 := blk_frozen BK109.out 1; have hfz48_2 := blk_frozen BK109.out 2; have hfz48_3 := blk_frozen BK109.out 3; have hfz48_4 := blk_frozen BK109.out 4; have hfz48_5 := blk_frozen BK109.out 5; have hfz48_6 := blk_frozen BK109.out 6; have hfz48_7 := blk_frozen BK109.out 7; have hfz48_8 := blk_frozen BK109.out 8) | ((with_reducible refine gate_callee (f := 36) rfl ?_); refine goesL_ (some 7) rfl rfl Try.func36 (by kernel_rfl) rfl #[.agg #[.int .u8 a0_0, .int .u8 a0_1, .int .u8 a0_2, .int .u16 a0_3, .int .u32 a0_4, .int .u64 a0_5, .int .u32 a0_6, .bool false, .string a0_8]] rfl (by (try simp only [List.map_toArray, List.map_cons, List.map_nil]); first | done | rfl | (simp only [List.length_drop, List.length_take]; rfl)) ?_; (with_reducible refine (concordref21_May.calls a0_0 a0_1 a0_2 a0_3 a0_4 a0_5 a0_6 false a0_8 true _ A2.out).mono ?_); rintro e w49 ⟨rfl, hb⟩; refine ⟨_, rfl, ?_⟩; have n0_ := Aside0.mk (blk_below (g := gb109) (o := .cells #[.int .u8 a0_0, .int .u8 a0_1, .int .u8 a0_2, .int .u16 a0_3, .int .u32 a0_4, .int .u64 a0_5, .int .u32 a0_6, .bool false, .string a0_8] 28 (0, 0)) (by (with_reducible repeat (first | refine blk_drewN ?_ _ | refine blk_drew ?_ | refine blk_alloc ?_ _)); exact BK109.out) hb); have n1_ := Aside0.mk (below_step (by repeat (first | (with_reducible first | exact HB.out | apply below_alloc | apply pw_below_drewN | apply below_drew1 | refine below_set ?_ GE109.out) | exact HB.out)) hb); clear BK109; clear HB; have BK109 := n0_; have HB := n1_; clear n0_ n1_; (try clear hb); (try clear hb2); (try clear hk); (try clear hi); have hcz50_0 : w49.cell? ⟨gb109, 0, none⟩ = some (.int .u8 a0_0) := (blk_cell BK109.out 0).trans rfl; have hcz50_1 : w49.cell? ⟨gb109, 1, none⟩ = some (.int .u8 a0_1) := (blk_cell BK109.out 1).trans rfl; have hcz50_2 : w49.cell? ⟨gb109, 2, none⟩ = some (.int .u8 a0_2) := (blk_cell BK109.out 2).trans rfl; have hcz50_3 : w49.cell? ⟨gb109, 3, none⟩ = some (.int .u16 a0_3) := (blk_cell BK109.out 3).trans rfl; have hcz50_4 : w49.cell? ⟨gb109, 4, none⟩ = some (.int .u32 a0_4) := (blk_cell BK109.out 4).trans rfl; have hcz50_5 : w49.cell? ⟨gb109, 5, none⟩ = some (.int .u64 a0_5) := (blk_cell BK109.out 5).trans rfl; have hcz50_6 : w49.cell? ⟨gb109, 6, none⟩ = some (.int .u32 a0_6) := (blk_cell BK109.out 6).trans rfl; have hcz50_7 : w49.cell? ⟨gb109, 7, none⟩ = some (.bool false) := (blk_cell BK109.out 7).trans rfl; have hcz50_8 : w49.cell? ⟨gb109, 8, none⟩ = some (.string a0_8) := (blk_cell BK109.out 8).trans rfl; have hfz50_0 := blk_frozen BK109.out 0; have hfz50_1 := blk_frozen BK109.out 1; have hfz50_2 := blk_frozen BK109.out 2; have hfz50_3 := blk_frozen BK109.out 3; have hfz50_4 := blk_frozen BK109.out 4; have hfz50_5 := blk_frozen BK109.out 5; have hfz50_6 := blk_frozen BK109.out 6; have hfz50_7 := blk_frozen BK109.out 7; have hfz50_8 := blk_frozen BK109.out 8) | ((with_reducible refine gate_callee (f := 37) rfl ?_); refine goesL_ (some 14) rfl rfl Try.func37 (by kernel_rfl) rfl #[.int .u64 (IntKind.u64.wrap (wrap64 ((a0_8.size : Int) + 34))), .int .i64 2] rfl (by (try simp only [List.map_toArray, List.map_cons, List.map_nil]); first | done | rfl | (simp only [List.length_drop, List.length_take]; rfl)) ?_; (with_reducible refine (concordref01_Fixed.calls k (IntKind.u64.wrap (wrap64 ((a0_8.size : Int) + 34))) 2 t111 _ A4.out).mono ?_); rintro e w51 ⟨rfl, hb⟩; refine ⟨_, rfl, ?_⟩; have n0_ := Aside0.mk (blk_below (g := gb109) (o := .cells #[.int .u8 a0_0, .int .u8 a0_1, .int .u8 a0_2, .int .u16 a0_3, .int .u32 a0_4, .int .u64 a0_5, .int .u32 a0_6, .bool false, .string a0_8] 28 (0, 0)) (by (with_reducible repeat (first | refine blk_drewN ?_ _ | refine blk_drew ?_ | refine blk_alloc ?_ _)); exact BK109.out) hb); have n1_ := Aside0.mk (below_step (by repeat (first | (with_reducible first | exact HB.out | apply below_alloc | apply pw_below_drewN | apply below_drew1 | refine below_set ?_ GE109.out) | exact HB.out)) hb); clear BK109; clear HB; have BK109 := n0_; have HB := n1_; clear n0_ n1_; (try clear hb); (try clear hb2); (try clear hk); (try clear hi)) | ((with_reducible refine gate_callee (f := 38) rfl ?_); refine goesL_ (some 18) rfl rfl Try.func38 (by kernel_rfl) rfl #[.string ((⟨#[157, 227]⟩ : ByteArray) ++ t111)] rfl (by (try simp only [List.map_toArray, List.map_cons, List.map_nil]); first | done | rfl | (simp only [List.length_drop, List.length_take]; rfl)) ?_; (with_reducible refine (concordref01_Sum.calls ((⟨#[157, 227]⟩ : ByteArray) ++ t111) t112 _ A6.out).mono ?_); rintro e w' ⟨rfl, ⟨nd, rfl⟩⟩; refine ⟨_, rfl, ?_⟩) | ((with_reducible refine gate_callee (f := 37) rfl ?_); refine goesL_ (some 20) rfl rfl Try.func37 (by kernel_rfl) rfl #[.int .u64 (IntKind.u64.wrap (t112)), .int .i64 4] rfl (by (try simp only [List.map_toArray, List.map_cons, List.map_nil]); first | done | rfl | (simp only [List.length_drop, List.length_take]; rfl)) ?_; (with_reducible refine (concordref01_Fixed.calls k (IntKind.u64.wrap (t112)) 4 t113 _ A7.out).mono ?_); rintro e w52 ⟨rfl, hb⟩; refine ⟨_, rfl, ?_⟩; have n0_ := Aside0.mk (blk_below (g := gb109) (o := .cells #[.int .u8 a0_0, .int .u8 a0_1, .int .u8 a0_2, .int .u16 a0_3, .int .u32 a0_4, .int .u64 a0_5, .int .u32 a0_6, .bool false, .string a0_8] 28 (0, 0)) (by (with_reducible repeat (first | refine blk_drewN ?_ _ | refine blk_drew ?_ | refine blk_alloc ?_ _)); exact BK109.out) hb); have n1_ := Aside0.mk (below_step (by repeat (first | (with_reducible first | exact HB.out | apply below_alloc | apply pw_below_drewN | apply below_drew1 | refine below_set ?_ GE109.out) | exact HB.out)) hb); clear BK109; clear HB; have BK109 := n0_; have HB := n1_; clear n0_ n1_; (try clear hb); (try clear hb2); (try clear hk); (try clear hi)))
             have n0_ := Aside0.mk (blk_drew BK109.out)
             have n1_ := Aside0.mk (below_drew1 HB.out)
             clear BK109
             clear HB
             have BK109 := n0_
             have HB := n1_
             clear n0_ n1_
             refine start_ (n := 24) (S := fun w' => w'.cell? ⟨gb109, 0, none⟩ = some (.int .u8 a0_0) ∧ w'.cell? ⟨gb109, 1, none⟩ = some (.int .u8 a0_1) ∧ w'.cell? ⟨gb109, 2, none⟩ = some (.int .u8 a0_2) ∧ w'.cell? ⟨gb109, 3, none⟩ = some (.int .u16 a0_3) ∧ w'.cell? ⟨gb109, 4, none⟩ = some (.int .u32 a0_4) ∧ w'.cell? ⟨gb109, 5, none⟩ = some (.int .u64 a0_5) ∧ w'.cell? ⟨gb109, 6, none⟩ = some (.int .u32 a0_6) ∧ w'.cell? ⟨gb109, 7, none⟩ = some (.bool false) ∧ w'.cell? ⟨gb109, 8, none⟩ = some (.string a0_8)) (ds := []) #[false, false, false, false, false, false, false, false, false, false, false, false, false, false, false, false, false, false, false, false, false, false, false, false] (by kernel_rfl) rfl rfl ⟨(blk_cell BK109.out 0).trans rfl, (blk_cell BK109.out 1).trans rfl, (blk_cell BK109.out 2).trans rfl, (blk_cell BK109.out 3).trans rfl, (blk_cell BK109.out 4).trans rfl, (blk_cell BK109.out 5).trans rfl, (blk_cell BK109.out 6).trans rfl, (blk_cell BK109.out 7).trans rfl, (blk_cell BK109.out 8).trans rfl⟩ (fun hHeld => ?_); refine with_tabW concordref21_Encode.tab5 concordref21_Encode.bits5 (fun HT_ HW_ => ?_)
             generalize w52.drew = w53 at BK109 HB hHeld ⊢
             refine pure_ (i := 0) (N := some 22) (v := ?_) (a' := ?_) #[true, false, false, false, false, false, false, false, false, false, false, false, false, false, false, false, false, false, false, false, false, false, false, false] rfl rfl (any_of HT_.out (by kernel_rfl)) (fun _ _ _ h => h) (Or.inl ⟨by rfl, ?_⟩) ?_ ?_
             rotate_left
             ·intro w'
              go_simp
              with_reducible rfl
             rotate_left
             ·simp only [Act.put, List.setIfInBounds_toArray, List.set_cons_zero, List.set_cons_succ, i64_w, i32_w]
              rfl
             refine pure_ (i := 1) (N := some 23) (v := ?_) (a' := ?_) #[true, true, false, false, false, false, false, false, false, false, false, false, false, false, false, false, false, false, false, false, false, false, false, false] rfl rfl (any_of HT_.out (by kernel_rfl)) (fun _ _ _ h => h) (Or.inl ⟨by rfl, ?_⟩) ?_ ?_
             rotate_left
             ·intro w'
              go_simp
              with_reducible rfl
             rotate_left
             ·simp only [Act.put, List.setIfInBounds_toArray, List.set_cons_zero, List.set_cons_succ, i64_w, i32_w]
              rfl
             refine pure_ (i := 3) (N := some 25) (v := ?_) (a' := ?_) #[true, true, false, true, false, false, false, false, false, false, false, false, false, false, false, false, false, false, false, false, false, false, false, false] rfl rfl (any_of HT_.out (by kernel_rfl)) (fun _ _ _ h => h) (Or.inl ⟨by rfl, ?_⟩) ?_ ?_
             rotate_left
             ·intro w'
              go_simp
              with_reducible rfl
             rotate_left
             ·simp only [Act.put, List.setIfInBounds_toArray, List.set_cons_zero, List.set_cons_succ, i64_w, i32_w]
              rfl
             refine pure_ (i := 5) (N := some 27) (v := ?_) (a' := ?_) #[true, true, false, true, false, true, false, false, false, false, false, false, false, false, false, false, false, false, false, false, false, false, false, false] rfl rfl (any_of HT_.out (by kernel_rfl)) (fun _ _ _ h => h) (Or.inl ⟨by rfl, ?_⟩) ?_ ?_
             rotate_left
             ·intro w'
              go_simp
              with_reducible rfl
             rotate_left
             ·simp only [Act.put, List.setIfInBounds_toArray, List.set_cons_zero, List.set_cons_succ, i64_w, i32_w]
              rfl
             refine pure_ (i := 6) (N := some 28) (v := ?_) (a' := ?_) #[true, true, false, true, false, true, true, false, false, false, false, false, false, false, false, false, false, false, false, false, false, false, false, false] rfl rfl (any_of HT_.out (by kernel_rfl)) (fun _ _ _ h => h) (Or.inl ⟨by rfl, ?_⟩) ?_ ?_
             rotate_left
             ·intro w'
              go_simp
              with_reducible rfl
             rotate_left
             ·simp only [Act.put, List.setIfInBounds_toArray, List.set_cons_zero, List.set_cons_succ, i64_w, i32_w]
              rfl
             refine pure_ (i := 11) (N := some 33) (v := ?_) (a' := ?_) #[true, true, false, true, false, true, true, false, false, false, false, true, false, false, false, false, false, false, false, false, false, false, false, false] rfl rfl (any_of HT_.out (by kernel_rfl)) (fun _ _ _ h => h) (Or.inl ⟨by rfl, ?_⟩) ?_ ?_
             rotate_left
             ·intro w'
              go_simp
              with_reducible rfl
             rotate_left
             ·simp only [Act.put, List.setIfInBounds_toArray, List.set_cons_zero, List.set_cons_succ, i64_w, i32_w]
              rfl
             refine pure_ (i := 12) (N := some 34) (v := ?_) (a' := ?_) #[true, true, false, true, false, true, true, false, false, false, false, true, true, false, false, false, false, false, false, false, false, false, false, false] rfl rfl (any_of HT_.out (by kernel_rfl)) (fun _ _ _ h => h) (Or.inl ⟨by rfl, ?_⟩) ?_ ?_
             rotate_left
             ·intro w'
              go_simp
              with_reducible rfl
             rotate_left
             ·simp only [Act.put, List.setIfInBounds_toArray, List.set_cons_zero, List.set_cons_succ, i64_w, i32_w]
              rfl
             refine pure_ (i := 17) (N := some 39) (v := ?_) (a' := ?_) #[true, true, false, true, false, true, true, false, false, false, false, true, true, false, false, false, false, true, false, false, false, false, false, false] rfl rfl (any_of HT_.out (by kernel_rfl)) (fun _ _ _ h => h) (Or.inl ⟨by rfl, ?_⟩) ?_ ?_
             rotate_left
             ·intro w'
              go_simp
              with_reducible rfl
             rotate_left
             ·simp only [Act.put, List.setIfInBounds_toArray, List.set_cons_zero, List.set_cons_succ, i64_w, i32_w]
              rfl
             refine pure_ (i := 18) (N := some 40) (v := ?_) (a' := ?_) #[true, true, false, true, false, true, true, false, false, false, false, true, true, false, false, false, false, true, true, false, false, false, false, false] rfl rfl (any_of HT_.out (by kernel_rfl)) (fun _ _ _ h => h) (Or.inl ⟨by rfl, ?_⟩) ?_ ?_
             rotate_left
             ·intro w'
              go_simp
              with_reducible rfl
             rotate_left
             ·simp only [Act.put, List.setIfInBounds_toArray, List.set_cons_zero, List.set_cons_succ, i64_w, i32_w]
              rfl
             refine take_ (i := 2) (N := some 24) (v := ?_) (a' := ?_) #[true, true, true, true, false, true, true, false, false, false, false, true, true, false, false, false, false, true, true, false, false, false, false, false] rfl rfl (take_ofW HT_.out HW_.out (by kernel_rfl)) (fun _ _ _ h => h) (Or.inl ⟨by rfl, ?_⟩) hHeld ?_ ?_
             rotate_left
             ·rintro w' ⟨s0, s1, s2, s3, s4, s5, s6, s7, s8⟩
              go_simp
              with_reducible rfl
             rotate_left
             ·simp only [Act.put, List.setIfInBounds_toArray, List.set_cons_zero, List.set_cons_succ, i64_w, i32_w]
              rfl
             refine take_ (i := 4) (N := some 26) (v := ?_) (a' := ?_) #[true, true, true, true, true, true, true, false, false, false, false, true, true, false, false, false, false, true, true, false, false, false, false, false] rfl rfl (take_ofW HT_.out HW_.out (by kernel_rfl)) (fun _ _ _ h => h) (Or.inl ⟨by rfl, ?_⟩) hHeld ?_ ?_
             rotate_left
             ·rintro w' ⟨s0, s1, s2, s3, s4, s5, s6, s7, s8⟩
              go_simp
              with_reducible rfl
             rotate_left
             ·simp only [Act.put, List.setIfInBounds_toArray, List.set_cons_zero, List.set_cons_succ, i64_w, i32_w]
              rfl
             refine take_ (i := 7) (N := some 29) (v := ?_) (a' := ?_) #[true, true, true, true, true, true, true, true, false, false, false, true, true, false, false, false, false, true, true, false, false, false, false, false] rfl rfl (take_ofW HT_.out HW_.out (by kernel_rfl)) (fun _ _ _ h => h) (Or.inl ⟨by rfl, ?_⟩) hHeld ?_ ?_
             rotate_left
             ·rintro w' ⟨s0, s1, s2, s3, s4, s5, s6, s7, s8⟩
              go_simp
              with_reducible rfl
             rotate_left
             ·simp only [Act.put, List.setIfInBounds_toArray, List.set_cons_zero, List.set_cons_succ, i64_w, i32_w]
              rfl
             refine take_ (i := 13) (N := some 35) (v := ?_) (a' := ?_) #[true, true, true, true, true, true, true, true, false, false, false, true, true, true, false, false, false, true, true, false, false, false, false, false] rfl rfl (take_ofW HT_.out HW_.out (by kernel_rfl)) (fun _ _ _ h => h) (Or.inl ⟨by rfl, ?_⟩) hHeld ?_ ?_
             rotate_left
             ·rintro w' ⟨s0, s1, s2, s3, s4, s5, s6, s7, s8⟩
              go_simp
              with_reducible rfl
             rotate_left
             ·simp only [Act.put, List.setIfInBounds_toArray, List.set_cons_zero, List.set_cons_succ, i64_w, i32_w]
              rfl
             refine pure_ (i := 14) (N := some 36) (v := ?_) (a' := ?_) #[true, true, true, true, true, true, true, true, false, false, false, true, true, true, true, false, false, true, true, false, false, false, false, false] rfl rfl (any_of HT_.out (by kernel_rfl)) (fun _ _ _ h => h) (Or.inl ⟨by rfl, ?_⟩) ?_ ?_
             rotate_left
             ·intro w'
              go_simp
              with_reducible rfl
             rotate_left
             ·simp only [Act.put, List.setIfInBounds_toArray, List.set_cons_zero, List.set_cons_succ, i64_w, i32_w]
              rfl
             refine take_ (i := 19) (N := some 41) (v := ?_) (a' := ?_) #[true, true, true, true, true, true, true, true, false, false, false, true, true, true, true, false, false, true, true, true, false, false, false, false] rfl rfl (take_ofW HT_.out HW_.out (by kernel_rfl)) (fun _ _ _ h => h) (Or.inl ⟨by rfl, ?_⟩) hHeld ?_ ?_
             rotate_left
             ·rintro w' ⟨s0, s1, s2, s3, s4, s5, s6, s7, s8⟩
              go_simp
              with_reducible rfl
             rotate_left
             ·simp only [Act.put, List.setIfInBounds_toArray, List.set_cons_zero, List.set_cons_succ, i64_w, i32_w]
              rfl
             refine pure_ (i := 20) (N := some 42) (v := ?_) (a' := ?_) #[true, true, true, true, true, true, true, true, false, false, false, true, true, true, true, false, false, true, true, true, true, false, false, false] rfl rfl (any_of HT_.out (by kernel_rfl)) (fun _ _ _ h => h) (Or.inl ⟨by rfl, ?_⟩) ?_ ?_
             rotate_left
             ·intro w'
              go_simp
              with_reducible rfl
             rotate_left
             ·simp only [Act.put, List.setIfInBounds_toArray, List.set_cons_zero, List.set_cons_succ, i64_w, i32_w]
              rfl
             refine join_ (σ := Value) 2 #[true, true, true, true, true, true, true, true, true, true, true, true, true, true, true, true, true, true, true, true, true, true, false, false] (fun s_ => [(30, s_), (31, .string (strOfNums y114)), (37, .string t117), (43, .string t118), (32, .string ((((⟨#[157, 227]⟩ : ByteArray) ++ t111) ++ t113) ++ (strOfNums y114))), (38, .string (((((⟨#[157, 227]⟩ : ByteArray) ++ t111) ++ t113) ++ (strOfNums y114)) ++ t117))]) (fun s_ w' => (w'.cell? ⟨gb109, 0, none⟩ = some (.int .u8 a0_0) ∧ w'.cell? ⟨gb109, 1, none⟩ = some (.int .u8 a0_1) ∧ w'.cell? ⟨gb109, 2, none⟩ = some (.int .u8 a0_2) ∧ w'.cell? ⟨gb109, 3, none⟩ = some (.int .u16 a0_3) ∧ w'.cell? ⟨gb109, 4, none⟩ = some (.int .u32 a0_4) ∧ w'.cell? ⟨gb109, 5, none⟩ = some (.int .u64 a0_5) ∧ w'.cell? ⟨gb109, 6, none⟩ = some (.int .u32 a0_6) ∧ w'.cell? ⟨gb109, 7, none⟩ = some (.bool false) ∧ w'.cell? ⟨gb109, 8, none⟩ = some (.string a0_8)) ∧ (Kd.R (Kd.int .u8) 5 w' w.heap.size (fun _ => True) s_ y114) ∧ (w'.heap[gb109]? = some (.cells #[.int .u8 a0_0, .int .u8 a0_1, .int .u8 a0_2, .int .u16 a0_3, .int .u32 a0_4, .int .u64 a0_5, .int .u32 a0_6, .bool false, .string a0_8] 28 (0, 0))) ∧ (Below w.heap.size w w')) ?_ ?_
             rotate_left
             ·intro hJ8_9_15_21
              refine join_ (σ := Value) 3 #[true, true, true, true, true, true, true, true, true, true, true, true, true, true, true, true, true, true, true, true, true, false, false, false] (fun s_ => [(30, s_), (31, .string (strOfNums y114)), (37, .string t117), (32, .string ((((⟨#[157, 227]⟩ : ByteArray) ++ t111) ++ t113) ++ (strOfNums y114))), (38, .string (((((⟨#[157, 227]⟩ : ByteArray) ++ t111) ++ t113) ++ (strOfNums y114)) ++ t117))]) (fun s_ w' => (w'.cell? ⟨gb109, 0, none⟩ = some (.int .u8 a0_0) ∧ w'.cell? ⟨gb109, 1, none⟩ = some (.int .u8 a0_1) ∧ w'.cell? ⟨gb109, 2, none⟩ = some (.int .u8 a0_2) ∧ w'.cell? ⟨gb109, 3, none⟩ = some (.int .u16 a0_3) ∧ w'.cell? ⟨gb109, 4, none⟩ = some (.int .u32 a0_4) ∧ w'.cell? ⟨gb109, 5, none⟩ = some (.int .u64 a0_5) ∧ w'.cell? ⟨gb109, 6, none⟩ = some (.int .u32 a0_6) ∧ w'.cell? ⟨gb109, 7, none⟩ = some (.bool false) ∧ w'.cell? ⟨gb109, 8, none⟩ = some (.string a0_8)) ∧ (Kd.R (Kd.int .u8) 5 w' w.heap.size (fun _ => True) s_ y114) ∧ (w'.heap[gb109]? = some (.cells #[.int .u8 a0_0, .int .u8 a0_1, .int .u8 a0_2, .int .u16 a0_3, .int .u32 a0_4, .int .u64 a0_5, .int .u32 a0_6, .bool false, .string a0_8] 28 (0, 0))) ∧ (Below w.heap.size w w')) ?_ ?_
              rotate_left
              ·intro hJ8_9_15
               refine join_ (σ := Value) 5 #[true, true, true, true, true, true, true, true, true, false, false, true, true, true, true, true, false, true, true, true, true, true, false, false] (fun s_ => [(30, s_), (37, .string t117), (43, .string t118)]) (fun s_ w' => (w'.cell? ⟨gb109, 0, none⟩ = some (.int .u8 a0_0) ∧ w'.cell? ⟨gb109, 1, none⟩ = some (.int .u8 a0_1) ∧ w'.cell? ⟨gb109, 2, none⟩ = some (.int .u8 a0_2) ∧ w'.cell? ⟨gb109, 3, none⟩ = some (.int .u16 a0_3) ∧ w'.cell? ⟨gb109, 4, none⟩ = some (.int .u32 a0_4) ∧ w'.cell? ⟨gb109, 5, none⟩ = some (.int .u64 a0_5) ∧ w'.cell? ⟨gb109, 6, none⟩ = some (.int .u32 a0_6) ∧ w'.cell? ⟨gb109, 7, none⟩ = some (.bool false) ∧ w'.cell? ⟨gb109, 8, none⟩ = some (.string a0_8)) ∧ (Kd.R (Kd.int .u8) 5 w' w.heap.size (fun _ => True) s_ y114) ∧ (w'.heap[gb109]? = some (.cells #[.int .u8 a0_0, .int .u8 a0_1, .int .u8 a0_2, .int .u16 a0_3, .int .u32 a0_4, .int .u64 a0_5, .int .u32 a0_6, .bool false, .string a0_8] 28 (0, 0))) ∧ (Below w.heap.size w w')) ?_ ?_
               rotate_left
               ·intro hJ8_15_21
                refine join_ (σ := Value) 5 #[true, true, true, true, true, true, true, true, true, true, true, true, true, true, true, false, false, true, true, true, true, false, false, false] (fun s_ => [(30, s_), (31, .string (strOfNums y114)), (32, .string ((((⟨#[157, 227]⟩ : ByteArray) ++ t111) ++ t113) ++ (strOfNums y114)))]) (fun s_ w' => (w'.cell? ⟨gb109, 0, none⟩ = some (.int .u8 a0_0) ∧ w'.cell? ⟨gb109, 1, none⟩ = some (.int .u8 a0_1) ∧ w'.cell? ⟨gb109, 2, none⟩ = some (.int .u8 a0_2) ∧ w'.cell? ⟨gb109, 3, none⟩ = some (.int .u16 a0_3) ∧ w'.cell? ⟨gb109, 4, none⟩ = some (.int .u32 a0_4) ∧ w'.cell? ⟨gb109, 5, none⟩ = some (.int .u64 a0_5) ∧ w'.cell? ⟨gb109, 6, none⟩ = some (.int .u32 a0_6) ∧ w'.cell? ⟨gb109, 7, none⟩ = some (.bool false) ∧ w'.cell? ⟨gb109, 8, none⟩ = some (.string a0_8)) ∧ (Kd.R (Kd.int .u8) 5 w' w.heap.size (fun _ => True) s_ y114) ∧ (w'.heap[gb109]? = some (.cells #[.int .u8 a0_0, .int .u8 a0_1, .int .u8 a0_2, .int .u16 a0_3, .int .u32 a0_4, .int .u64 a0_5, .int .u32 a0_6, .bool false, .string a0_8] 28 (0, 0))) ∧ (Below w.heap.size w w')) ?_ ?_
                rotate_left
                ·intro hJ8_9
                 refine join_ (σ := Value) 6 #[true, true, true, true, true, true, true, true, true, false, false, true, true, true, true, true, false, true, true, true, true, false, false, false] (fun s_ => [(30, s_), (37, .string t117)]) (fun s_ w' => (w'.cell? ⟨gb109, 0, none⟩ = some (.int .u8 a0_0) ∧ w'.cell? ⟨gb109, 1, none⟩ = some (.int .u8 a0_1) ∧ w'.cell? ⟨gb109, 2, none⟩ = some (.int .u8 a0_2) ∧ w'.cell? ⟨gb109, 3, none⟩ = some (.int .u16 a0_3) ∧ w'.cell? ⟨gb109, 4, none⟩ = some (.int .u32 a0_4) ∧ w'.cell? ⟨gb109, 5, none⟩ = some (.int .u64 a0_5) ∧ w'.cell? ⟨gb109, 6, none⟩ = some (.int .u32 a0_6) ∧ w'.cell? ⟨gb109, 7, none⟩ = some (.bool false) ∧ w'.cell? ⟨gb109, 8, none⟩ = some (.string a0_8)) ∧ (Kd.R (Kd.int .u8) 5 w' w.heap.size (fun _ => True) s_ y114) ∧ (w'.heap[gb109]? = some (.cells #[.int .u8 a0_0, .int .u8 a0_1, .int .u8 a0_2, .int .u16 a0_3, .int .u32 a0_4, .int .u64 a0_5, .int .u32 a0_6, .bool false, .string a0_8] 28 (0, 0))) ∧ (Below w.heap.size w w')) ?_ ?_
                 rotate_left
                 ·intro hJ8_15
                  refine join_ (σ := Unit) 6 #[true, true, true, true, true, true, true, true, false, false, false, true, true, true, true, true, false, true, true, true, true, true, false, false] (fun s_ => [(37, .string t117), (43, .string t118)]) (fun s_ w' => (w'.cell? ⟨gb109, 0, none⟩ = some (.int .u8 a0_0) ∧ w'.cell? ⟨gb109, 1, none⟩ = some (.int .u8 a0_1) ∧ w'.cell? ⟨gb109, 2, none⟩ = some (.int .u8 a0_2) ∧ w'.cell? ⟨gb109, 3, none⟩ = some (.int .u16 a0_3) ∧ w'.cell? ⟨gb109, 4, none⟩ = some (.int .u32 a0_4) ∧ w'.cell? ⟨gb109, 5, none⟩ = some (.int .u64 a0_5) ∧ w'.cell? ⟨gb109, 6, none⟩ = some (.int .u32 a0_6) ∧ w'.cell? ⟨gb109, 7, none⟩ = some (.bool false) ∧ w'.cell? ⟨gb109, 8, none⟩ = some (.string a0_8)) ∧ (w'.heap[gb109]? = some (.cells #[.int .u8 a0_0, .int .u8 a0_1, .int .u8 a0_2, .int .u16 a0_3, .int .u32 a0_4, .int .u64 a0_5, .int .u32 a0_6, .bool false, .string a0_8] 28 (0, 0))) ∧ (Below w.heap.size w w')) ?_ ?_
                  rotate_left
                  ·intro hJ15_21
                   refine join_ (σ := Value) 7 #[true, true, true, true, true, true, true, true, true, false, false, true, true, true, true, false, false, true, true, true, true, false, false, false] (fun s_ => [(30, s_)]) (fun s_ w' => (w'.cell? ⟨gb109, 0, none⟩ = some (.int .u8 a0_0) ∧ w'.cell? ⟨gb109, 1, none⟩ = some (.int .u8 a0_1) ∧ w'.cell? ⟨gb109, 2, none⟩ = some (.int .u8 a0_2) ∧ w'.cell? ⟨gb109, 3, none⟩ = some (.int .u16 a0_3) ∧ w'.cell? ⟨gb109, 4, none⟩ = some (.int .u32 a0_4) ∧ w'.cell? ⟨gb109, 5, none⟩ = some (.int .u64 a0_5) ∧ w'.cell? ⟨gb109, 6, none⟩ = some (.int .u32 a0_6) ∧ w'.cell? ⟨gb109, 7, none⟩ = some (.bool false) ∧ w'.cell? ⟨gb109, 8, none⟩ = some (.string a0_8)) ∧ (Kd.R (Kd.int .u8) 5 w' w.heap.size (fun _ => True) s_ y114) ∧ (w'.heap[gb109]? = some (.cells #[.int .u8 a0_0, .int .u8 a0_1, .int .u8 a0_2, .int .u16 a0_3, .int .u32 a0_4, .int .u64 a0_5, .int .u32 a0_6, .bool false, .string a0_8] 28 (0, 0))) ∧ (Below w.heap.size w w')) ?_ ?_
                   rotate_left
                   ·intro hJ8
                    refine join_ (σ := Unit) 7 #[true, true, true, true, true, true, true, true, false, false, false, true, true, true, true, true, false, true, true, true, true, false, false, false] (fun s_ => [(37, .string t117)]) (fun s_ w' => (w'.cell? ⟨gb109, 0, none⟩ = some (.int .u8 a0_0) ∧ w'.cell? ⟨gb109, 1, none⟩ = some (.int .u8 a0_1) ∧ w'.cell? ⟨gb109, 2, none⟩ = some (.int .u8 a0_2) ∧ w'.cell? ⟨gb109, 3, none⟩ = some (.int .u16 a0_3) ∧ w'.cell? ⟨gb109, 4, none⟩ = some (.int .u32 a0_4) ∧ w'.cell? ⟨gb109, 5, none⟩ = some (.int .u64 a0_5) ∧ w'.cell? ⟨gb109, 6, none⟩ = some (.int .u32 a0_6) ∧ w'.cell? ⟨gb109, 7, none⟩ = some (.bool false) ∧ w'.cell? ⟨gb109, 8, none⟩ = some (.string a0_8)) ∧ (w'.heap[gb109]? = some (.cells #[.int .u8 a0_0, .int .u8 a0_1, .int .u8 a0_2, .int .u16 a0_3, .int .u32 a0_4, .int .u64 a0_5, .int .u32 a0_6, .bool false, .string a0_8] 28 (0, 0))) ∧ (Below w.heap.size w w')) ?_ ?_
                    rotate_left
                    ·intro hJ15
                     refine two_ (i := 8) (j := 15) (Ni := some 30) (Nj := some 37) #[true, true, true, true, true, true, true, true, true, false, false, true, true, true, true, false, false, true, true, true, true, false, false, false] #[true, true, true, true, true, true, true, true, false, false, false, true, true, true, true, true, false, true, true, true, true, false, false, false] rfl rfl rfl rfl (two_of HT_.out (by kernel_rfl)) (by decide) (by decide) (fun K hK => ?_) (fun K hK => ?_)
                     ·skip
                      refine Kd.R_lit_step (Kd.int .u8) _ 5 ?hg (N := 30) ?hd (xs := ([a0_0, a0_1, a0_2] : List Int)) (inner := [.int .u8 a0_0, .int .u8 a0_1, .int .u8 a0_2]) (ok := fun _ => True) (okp := fun _ => True) ?hr ?hp (fun _ hk => hk) trivial (Below.refl _ _) (Nat.le_refl _) (by simp) ?_; (case hd => rfl); (case hg => rfl); (case hr => first | (go_simp; done) | (go_simp; rfl)); (case hp => exact (Reps.one (show Kd.M (Kd.int .u8) _ _ _ a0_0 [.int .u8 a0_0] from rfl) (Reps.one (show Kd.M (Kd.int .u8) _ _ _ a0_1 [.int .u8 a0_1] from rfl) (Reps.one (show Kd.M (Kd.int .u8) _ _ _ a0_2 [.int .u8 a0_2] from rfl) (Reps.none _ _)))))
                      intro v115 w54 ho55 hb hg_ hnew_
                      clear hg_ hnew_
                      (first | rw [← Ny114.out] at ho55 | (simp only [Int.reduceToNat] at ho55; rw [← Ny114.out] at ho55))
                      have n0_ := Aside0.mk (Kd.R_lower ho55 (below_size (by repeat (first | (with_reducible first | exact HB.out | apply below_alloc | apply pw_below_drewN | apply below_drew1 | refine below_set ?_ GE109.out) | exact HB.out))))
                      have n1_ := Aside0.mk (blk_below (g := gb109) (o := .cells #[.int .u8 a0_0, .int .u8 a0_1, .int .u8 a0_2, .int .u16 a0_3, .int .u32 a0_4, .int .u64 a0_5, .int .u32 a0_6, .bool false, .string a0_8] 28 (0, 0)) (by (with_reducible repeat (first | refine blk_drewN ?_ _ | refine blk_drew ?_ | refine blk_alloc ?_ _)); exact BK109.out) hb)
                      have n2_ := Aside0.mk (below_step (by repeat (first | (with_reducible first | exact HB.out | apply below_alloc | apply pw_below_drewN | apply below_drew1 | refine below_set ?_ GE109.out) | exact HB.out)) hb)
                      clear BK109
                      clear HB
                      have HO116 := n0_
                      have BK109 := n1_
                      have HB := n2_
                      clear n0_ n1_ n2_
                      clear hb ho55
                      refine hK.out _ _ ⟨(blk_cell BK109.out 0).trans rfl, (blk_cell BK109.out 1).trans rfl, (blk_cell BK109.out 2).trans rfl, (blk_cell BK109.out 3).trans rfl, (blk_cell BK109.out 4).trans rfl, (blk_cell BK109.out 5).trans rfl, (blk_cell BK109.out 6).trans rfl, (blk_cell BK109.out 7).trans rfl, (blk_cell BK109.out 8).trans rfl⟩ (fun hHeld => ?_)
                      clear hK K
                      refine norm_ (a' := ?_) ?_ ?_
                      rotate_left
                      ·show Act.put _ (some 30) _ = _
                       simp only [Act.put, List.setIfInBounds_toArray, List.set_cons_zero, List.set_cons_succ, i64_w, i32_w]
                       rfl
                      exact norm_ (by first | (simp only [putAll, Act.put, List.setIfInBounds_toArray, List.set_cons_zero, List.set_cons_succ]; done) | (simp only [putAll, Act.put, List.setIfInBounds_toArray, List.set_cons_zero, List.set_cons_succ]; rfl)) (hJ8 (v115) _ ⟨hHeld, (by (with_reducible repeat (first | apply Kd.R_alloc | apply Kd.R_drewN | apply Kd.R_drew)); exact HO116.out), (by (with_reducible repeat (first | refine blk_drewN ?_ _ | refine blk_drew ?_ | refine blk_alloc ?_ _)); exact BK109.out), (by repeat (first | (with_reducible first | exact HB.out | apply below_alloc | apply pw_below_drewN | apply below_drew1 | refine below_set ?_ GE109.out) | exact HB.out))⟩)
                     ·skip
                      refine goes_ Try.func37 (by kernel_rfl) rfl #[.int .u64 (IntKind.u64.wrap (a0_3)), .int .i64 2] (by rfl) rfl rfl (by (try simp only [List.map_toArray, List.map_cons, List.map_nil]); first | done | rfl | (simp only [List.length_drop, List.length_take]; rfl)) ?_
                      with_reducible refine (concordref01_Fixed.calls k (IntKind.u64.wrap (a0_3)) 2 t117 _ A10.out).mono ?_
                      rintro e w54 ⟨rfl, hb⟩
                      refine ⟨_, rfl, ?_⟩
                      have n0_ := Aside0.mk (blk_below (g := gb109) (o := .cells #[.int .u8 a0_0, .int .u8 a0_1, .int .u8 a0_2, .int .u16 a0_3, .int .u32 a0_4, .int .u64 a0_5, .int .u32 a0_6, .bool false, .string a0_8] 28 (0, 0)) (by (with_reducible repeat (first | refine blk_drewN ?_ _ | refine blk_drew ?_ | refine blk_alloc ?_ _)); exact BK109.out) hb)
                      have n1_ := Aside0.mk (below_step (by repeat (first | (with_reducible first | exact HB.out | apply below_alloc | apply pw_below_drewN | apply below_drew1 | refine below_set ?_ GE109.out) | exact HB.out)) hb)
                      clear BK109
                      clear HB
                      have BK109 := n0_
                      have HB := n1_
                      clear n0_ n1_
                      (try clear hb)
                      (try clear hb2)
                      (try clear hk)
                      (try clear hi)
                      refine hK.out _ _ ⟨(blk_cell BK109.out 0).trans rfl, (blk_cell BK109.out 1).trans rfl, (blk_cell BK109.out 2).trans rfl, (blk_cell BK109.out 3).trans rfl, (blk_cell BK109.out 4).trans rfl, (blk_cell BK109.out 5).trans rfl, (blk_cell BK109.out 6).trans rfl, (blk_cell BK109.out 7).trans rfl, (blk_cell BK109.out 8).trans rfl⟩ (fun hHeld => ?_)
                      clear hK K
                      refine norm_ (a' := ?_) ?_ ?_
                      rotate_left
                      ·show Act.put _ (some 37) _ = _
                       simp only [Act.put, List.setIfInBounds_toArray, List.set_cons_zero, List.set_cons_succ, i64_w, i32_w]
                       rfl
                      exact norm_ (by first | (simp only [putAll, Act.put, List.setIfInBounds_toArray, List.set_cons_zero, List.set_cons_succ]; done) | (simp only [putAll, Act.put, List.setIfInBounds_toArray, List.set_cons_zero, List.set_cons_succ]; rfl)) (hJ15 () _ ⟨hHeld, (by (with_reducible repeat (first | refine blk_drewN ?_ _ | refine blk_drew ?_ | refine blk_alloc ?_ _)); exact BK109.out), (by repeat (first | (with_reducible first | exact HB.out | apply below_alloc | apply pw_below_drewN | apply below_drew1 | refine below_set ?_ GE109.out) | exact HB.out))⟩)
                    ·skip
                     rintro _ w55 ⟨hS_, h0_, h1_⟩
                     have n0_ : Aside0 (w55.heap[gb109]? = some (.cells #[.int .u8 a0_0, .int .u8 a0_1, .int .u8 a0_2, .int .u16 a0_3, .int .u32 a0_4, .int .u64 a0_5, .int .u32 a0_6, .bool false, .string a0_8] 28 (0, 0))) := ⟨h0_⟩
                     have n1_ : Aside0 (Below w.heap.size w w55) := ⟨h1_⟩
                     clear BK109
                     clear HB
                     clear h0_ h1_
                     have BK109 := n0_
                     have HB := n1_
                     clear n0_ n1_
                     have hHeld : w55.cell? ⟨gb109, 0, none⟩ = some (.int .u8 a0_0) ∧ w55.cell? ⟨gb109, 1, none⟩ = some (.int .u8 a0_1) ∧ w55.cell? ⟨gb109, 2, none⟩ = some (.int .u8 a0_2) ∧ w55.cell? ⟨gb109, 3, none⟩ = some (.int .u16 a0_3) ∧ w55.cell? ⟨gb109, 4, none⟩ = some (.int .u32 a0_4) ∧ w55.cell? ⟨gb109, 5, none⟩ = some (.int .u64 a0_5) ∧ w55.cell? ⟨gb109, 6, none⟩ = some (.int .u32 a0_6) ∧ w55.cell? ⟨gb109, 7, none⟩ = some (.bool false) ∧ w55.cell? ⟨gb109, 8, none⟩ = some (.string a0_8) := hS_
                     refine norm_ (a' := ?_) ?_ ?_
                     rotate_left
                     ·simp only [putAll, Act.put, List.setIfInBounds_toArray, List.set_cons_zero, List.set_cons_succ]
                      rfl
                     refine two_ (i := 8) (j := 21) (Ni := some 30) (Nj := some 43) #[true, true, true, true, true, true, true, true, true, false, false, true, true, true, true, true, false, true, true, true, true, false, false, false] #[true, true, true, true, true, true, true, true, false, false, false, true, true, true, true, true, false, true, true, true, true, true, false, false] rfl rfl rfl rfl (two_of HT_.out (by kernel_rfl)) (by decide) (by decide) (fun K hK => ?_) (fun K hK => ?_)
                     ·skip
                      refine Kd.R_lit_step (Kd.int .u8) _ 5 ?hg (N := 30) ?hd (xs := ([a0_0, a0_1, a0_2] : List Int)) (inner := [.int .u8 a0_0, .int .u8 a0_1, .int .u8 a0_2]) (ok := fun _ => True) (okp := fun _ => True) ?hr ?hp (fun _ hk => hk) trivial (Below.refl _ _) (Nat.le_refl _) (by simp) ?_; (case hd => rfl); (case hg => rfl); (case hr => first | (go_simp; done) | (go_simp; rfl)); (case hp => exact (Reps.one (show Kd.M (Kd.int .u8) _ _ _ a0_0 [.int .u8 a0_0] from rfl) (Reps.one (show Kd.M (Kd.int .u8) _ _ _ a0_1 [.int .u8 a0_1] from rfl) (Reps.one (show Kd.M (Kd.int .u8) _ _ _ a0_2 [.int .u8 a0_2] from rfl) (Reps.none _ _)))))
                      intro v115 w56 ho57 hb hg_ hnew_
                      clear hg_ hnew_
                      (first | rw [← Ny114.out] at ho57 | (simp only [Int.reduceToNat] at ho57; rw [← Ny114.out] at ho57))
                      have n0_ := Aside0.mk (Kd.R_lower ho57 (below_size (by repeat (first | (with_reducible first | exact HB.out | apply below_alloc | apply pw_below_drewN | apply below_drew1 | refine below_set ?_ GE109.out) | exact HB.out))))
                      have n1_ := Aside0.mk (blk_below (g := gb109) (o := .cells #[.int .u8 a0_0, .int .u8 a0_1, .int .u8 a0_2, .int .u16 a0_3, .int .u32 a0_4, .int .u64 a0_5, .int .u32 a0_6, .bool false, .string a0_8] 28 (0, 0)) (by (with_reducible repeat (first | refine blk_drewN ?_ _ | refine blk_drew ?_ | refine blk_alloc ?_ _)); exact BK109.out) hb)
                      have n2_ := Aside0.mk (below_step (by repeat (first | (with_reducible first | exact HB.out | apply below_alloc | apply pw_below_drewN | apply below_drew1 | refine below_set ?_ GE109.out) | exact HB.out)) hb)
                      clear BK109
                      clear HB
                      have HO116 := n0_
                      have BK109 := n1_
                      have HB := n2_
                      clear n0_ n1_ n2_
                      clear hb ho57
                      refine hK.out _ _ ⟨(blk_cell BK109.out 0).trans rfl, (blk_cell BK109.out 1).trans rfl, (blk_cell BK109.out 2).trans rfl, (blk_cell BK109.out 3).trans rfl, (blk_cell BK109.out 4).trans rfl, (blk_cell BK109.out 5).trans rfl, (blk_cell BK109.out 6).trans rfl, (blk_cell BK109.out 7).trans rfl, (blk_cell BK109.out 8).trans rfl⟩ (fun hHeld => ?_)
                      clear hK K
                      refine norm_ (a' := ?_) ?_ ?_
                      rotate_left
                      ·show Act.put _ (some 30) _ = _
                       simp only [Act.put, List.setIfInBounds_toArray, List.set_cons_zero, List.set_cons_succ, i64_w, i32_w]
                       rfl
                      exact norm_ (by first | (simp only [putAll, Act.put, List.setIfInBounds_toArray, List.set_cons_zero, List.set_cons_succ]; done) | (simp only [putAll, Act.put, List.setIfInBounds_toArray, List.set_cons_zero, List.set_cons_succ]; rfl)) (hJ8_15 (v115) _ ⟨hHeld, (by (with_reducible repeat (first | apply Kd.R_alloc | apply Kd.R_drewN | apply Kd.R_drew)); exact HO116.out), (by (with_reducible repeat (first | refine blk_drewN ?_ _ | refine blk_drew ?_ | refine blk_alloc ?_ _)); exact BK109.out), (by repeat (first | (with_reducible first | exact HB.out | apply below_alloc | apply pw_below_drewN | apply below_drew1 | refine below_set ?_ GE109.out) | exact HB.out))⟩)
                     ·skip
                      refine goes_ Try.func37 (by kernel_rfl) rfl #[.int .u64 (IntKind.u64.wrap (a0_4)), .int .i64 4] (by rfl) rfl rfl (by (try simp only [List.map_toArray, List.map_cons, List.map_nil]); first | done | rfl | (simp only [List.length_drop, List.length_take]; rfl)) ?_
                      with_reducible refine (concordref01_Fixed.calls k (IntKind.u64.wrap (a0_4)) 4 t118 _ A12.out).mono ?_
                      rintro e w56 ⟨rfl, hb⟩
                      refine ⟨_, rfl, ?_⟩
                      have n0_ := Aside0.mk (blk_below (g := gb109) (o := .cells #[.int .u8 a0_0, .int .u8 a0_1, .int .u8 a0_2, .int .u16 a0_3, .int .u32 a0_4, .int .u64 a0_5, .int .u32 a0_6, .bool false, .string a0_8] 28 (0, 0)) (by (with_reducible repeat (first | refine blk_drewN ?_ _ | refine blk_drew ?_ | refine blk_alloc ?_ _)); exact BK109.out) hb)
                      have n1_ := Aside0.mk (below_step (by repeat (first | (with_reducible first | exact HB.out | apply below_alloc | apply pw_below_drewN | apply below_drew1 | refine below_set ?_ GE109.out) | exact HB.out)) hb)
                      clear BK109
                      clear HB
                      have BK109 := n0_
                      have HB := n1_
                      clear n0_ n1_
                      (try clear hb)
                      (try clear hb2)
                      (try clear hk)
                      (try clear hi)
                      refine hK.out _ _ ⟨(blk_cell BK109.out 0).trans rfl, (blk_cell BK109.out 1).trans rfl, (blk_cell BK109.out 2).trans rfl, (blk_cell BK109.out 3).trans rfl, (blk_cell BK109.out 4).trans rfl, (blk_cell BK109.out 5).trans rfl, (blk_cell BK109.out 6).trans rfl, (blk_cell BK109.out 7).trans rfl, (blk_cell BK109.out 8).trans rfl⟩ (fun hHeld => ?_)
                      clear hK K
                      refine norm_ (a' := ?_) ?_ ?_
                      rotate_left
                      ·show Act.put _ (some 43) _ = _
                       simp only [Act.put, List.setIfInBounds_toArray, List.set_cons_zero, List.set_cons_succ, i64_w, i32_w]
                       rfl
                      exact norm_ (by first | (simp only [putAll, Act.put, List.setIfInBounds_toArray, List.set_cons_zero, List.set_cons_succ]; done) | (simp only [putAll, Act.put, List.setIfInBounds_toArray, List.set_cons_zero, List.set_cons_succ]; rfl)) (hJ15_21 () _ ⟨hHeld, (by (with_reducible repeat (first | refine blk_drewN ?_ _ | refine blk_drew ?_ | refine blk_alloc ?_ _)); exact BK109.out), (by repeat (first | (with_reducible first | exact HB.out | apply below_alloc | apply pw_below_drewN | apply below_drew1 | refine below_set ?_ GE109.out) | exact HB.out))⟩)
                   ·skip
                    rintro v115 w56 ⟨hS_, h0_, h1_, h2_⟩
                    have n0_ : Aside0 (Kd.R (Kd.int .u8) 5 w56 w.heap.size (fun _ => True) v115 y114) := ⟨h0_⟩
                    have n1_ : Aside0 (w56.heap[gb109]? = some (.cells #[.int .u8 a0_0, .int .u8 a0_1, .int .u8 a0_2, .int .u16 a0_3, .int .u32 a0_4, .int .u64 a0_5, .int .u32 a0_6, .bool false, .string a0_8] 28 (0, 0))) := ⟨h1_⟩
                    have n2_ : Aside0 (Below w.heap.size w w56) := ⟨h2_⟩
                    clear BK109
                    clear HB
                    clear h0_ h1_ h2_
                    have HO116 := n0_
                    have BK109 := n1_
                    have HB := n2_
                    clear n0_ n1_ n2_
                    have hHeld : w56.cell? ⟨gb109, 0, none⟩ = some (.int .u8 a0_0) ∧ w56.cell? ⟨gb109, 1, none⟩ = some (.int .u8 a0_1) ∧ w56.cell? ⟨gb109, 2, none⟩ = some (.int .u8 a0_2) ∧ w56.cell? ⟨gb109, 3, none⟩ = some (.int .u16 a0_3) ∧ w56.cell? ⟨gb109, 4, none⟩ = some (.int .u32 a0_4) ∧ w56.cell? ⟨gb109, 5, none⟩ = some (.int .u64 a0_5) ∧ w56.cell? ⟨gb109, 6, none⟩ = some (.int .u32 a0_6) ∧ w56.cell? ⟨gb109, 7, none⟩ = some (.bool false) ∧ w56.cell? ⟨gb109, 8, none⟩ = some (.string a0_8) := hS_
                    refine norm_ (a' := ?_) ?_ ?_
                    rotate_left
                    ·simp only [putAll, Act.put, List.setIfInBounds_toArray, List.set_cons_zero, List.set_cons_succ]
                     rfl
                    refine two_ (i := 9) (j := 15) (Ni := some 31) (Nj := some 37) #[true, true, true, true, true, true, true, true, true, true, false, true, true, true, true, false, false, true, true, true, true, false, false, false] #[true, true, true, true, true, true, true, true, true, false, false, true, true, true, true, true, false, true, true, true, true, false, false, false] rfl rfl rfl rfl (two_of HT_.out (by kernel_rfl)) (by decide) (by decide) (fun K hK => ?_) (fun K hK => ?_)
                    ·skip
                     have hcv57 := own_string (P := Try.prog) Try.underlying39 Try.underlying5 Try.underlying9 (Kd.own_of_R HO116.out)
                     refine value_ (w1 := ?_) (v := ?_) (by rfl) rfl ?_ ?_
                     rotate_left 2
                     ·go_simp
                      constructor
                      ·rfl
                      ·rfl
                     clear hcv57
                     refine hK.out _ _ ⟨(blk_cell BK109.out 0).trans rfl, (blk_cell BK109.out 1).trans rfl, (blk_cell BK109.out 2).trans rfl, (blk_cell BK109.out 3).trans rfl, (blk_cell BK109.out 4).trans rfl, (blk_cell BK109.out 5).trans rfl, (blk_cell BK109.out 6).trans rfl, (blk_cell BK109.out 7).trans rfl, (blk_cell BK109.out 8).trans rfl⟩ (fun hHeld => ?_)
                     clear hK K
                     refine norm_ (a' := ?_) ?_ ?_
                     rotate_left
                     ·show Act.put _ (some 31) _ = _
                      simp only [Act.put, List.setIfInBounds_toArray, List.set_cons_zero, List.set_cons_succ, i64_w, i32_w]
                      rfl
                     refine pure_ (i := 10) (N := some 32) (v := ?_) (a' := ?_) #[true, true, true, true, true, true, true, true, true, true, true, true, true, true, true, false, false, true, true, true, true, false, false, false] rfl rfl (any_of HT_.out (by kernel_rfl)) (fun _ _ _ h => h) (Or.inl ⟨by rfl, ?_⟩) ?_ ?_
                     rotate_left
                     ·intro w'
                      go_simp
                      with_reducible rfl
                     rotate_left
                     ·simp only [Act.put, List.setIfInBounds_toArray, List.set_cons_zero, List.set_cons_succ, i64_w, i32_w]
                      rfl
                     exact norm_ (by first | (simp only [putAll, Act.put, List.setIfInBounds_toArray, List.set_cons_zero, List.set_cons_succ]; done) | (simp only [putAll, Act.put, List.setIfInBounds_toArray, List.set_cons_zero, List.set_cons_succ]; rfl)) (hJ8_9 (v115) _ ⟨hHeld, (by (with_reducible repeat (first | apply Kd.R_alloc | apply Kd.R_drewN | apply Kd.R_drew)); exact HO116.out), (by (with_reducible repeat (first | refine blk_drewN ?_ _ | refine blk_drew ?_ | refine blk_alloc ?_ _)); exact BK109.out), (by repeat (first | (with_reducible first | exact HB.out | apply below_alloc | apply pw_below_drewN | apply below_drew1 | refine below_set ?_ GE109.out) | exact HB.out))⟩)
                    ·skip
                     refine goes_ Try.func37 (by kernel_rfl) rfl #[.int .u64 (IntKind.u64.wrap (a0_3)), .int .i64 2] (by rfl) rfl rfl (by (try simp only [List.map_toArray, List.map_cons, List.map_nil]); first | done | rfl | (simp only [List.length_drop, List.length_take]; rfl)) ?_
                     with_reducible refine (concordref01_Fixed.calls k (IntKind.u64.wrap (a0_3)) 2 t117 _ A10.out).mono ?_
                     rintro e w57 ⟨rfl, hb⟩
                     refine ⟨_, rfl, ?_⟩
                     have n0_ := Aside0.mk (Kd.R_below (by (with_reducible repeat (first | apply Kd.R_alloc | apply Kd.R_drewN | apply Kd.R_drew)); exact HO116.out) hb)
                     have n1_ := Aside0.mk (blk_below (g := gb109) (o := .cells #[.int .u8 a0_0, .int .u8 a0_1, .int .u8 a0_2, .int .u16 a0_3, .int .u32 a0_4, .int .u64 a0_5, .int .u32 a0_6, .bool false, .string a0_8] 28 (0, 0)) (by (with_reducible repeat (first | refine blk_drewN ?_ _ | refine blk_drew ?_ | refine blk_alloc ?_ _)); exact BK109.out) hb)
                     have n2_ := Aside0.mk (below_step (by repeat (first | (with_reducible first | exact HB.out | apply below_alloc | apply pw_below_drewN | apply below_drew1 | refine below_set ?_ GE109.out) | exact HB.out)) hb)
                     clear HO116
                     clear BK109
                     clear HB
                     have HO116 := n0_
                     have BK109 := n1_
                     have HB := n2_
                     clear n0_ n1_ n2_
                     (try clear hb)
                     (try clear hb2)
                     (try clear hk)
                     (try clear hi)
                     refine hK.out _ _ ⟨(blk_cell BK109.out 0).trans rfl, (blk_cell BK109.out 1).trans rfl, (blk_cell BK109.out 2).trans rfl, (blk_cell BK109.out 3).trans rfl, (blk_cell BK109.out 4).trans rfl, (blk_cell BK109.out 5).trans rfl, (blk_cell BK109.out 6).trans rfl, (blk_cell BK109.out 7).trans rfl, (blk_cell BK109.out 8).trans rfl⟩ (fun hHeld => ?_)
                     clear hK K
                     refine norm_ (a' := ?_) ?_ ?_
                     rotate_left
                     ·show Act.put _ (some 37) _ = _
                      simp only [Act.put, List.setIfInBounds_toArray, List.set_cons_zero, List.set_cons_succ, i64_w, i32_w]
                      rfl
                     exact norm_ (by first | (simp only [putAll, Act.put, List.setIfInBounds_toArray, List.set_cons_zero, List.set_cons_succ]; done) | (simp only [putAll, Act.put, List.setIfInBounds_toArray, List.set_cons_zero, List.set_cons_succ]; rfl)) (hJ8_15 (v115) _ ⟨hHeld, (by (with_reducible repeat (first | apply Kd.R_alloc | apply Kd.R_drewN | apply Kd.R_drew)); exact HO116.out), (by (with_reducible repeat (first | refine blk_drewN ?_ _ | refine blk_drew ?_ | refine blk_alloc ?_ _)); exact BK109.out), (by repeat (first | (with_reducible first | exact HB.out | apply below_alloc | apply pw_below_drewN | apply below_drew1 | refine below_set ?_ GE109.out) | exact HB.out))⟩)
                  ·skip
                   rintro _ w56 ⟨hS_, h0_, h1_⟩
                   have n0_ : Aside0 (w56.heap[gb109]? = some (.cells #[.int .u8 a0_0, .int .u8 a0_1, .int .u8 a0_2, .int .u16 a0_3, .int .u32 a0_4, .int .u64 a0_5, .int .u32 a0_6, .bool false, .string a0_8] 28 (0, 0))) := ⟨h0_⟩
                   have n1_ : Aside0 (Below w.heap.size w w56) := ⟨h1_⟩
                   clear BK109
                   clear HB
                   clear h0_ h1_
                   have BK109 := n0_
                   have HB := n1_
                   clear n0_ n1_
                   have hHeld : w56.cell? ⟨gb109, 0, none⟩ = some (.int .u8 a0_0) ∧ w56.cell? ⟨gb109, 1, none⟩ = some (.int .u8 a0_1) ∧ w56.cell? ⟨gb109, 2, none⟩ = some (.int .u8 a0_2) ∧ w56.cell? ⟨gb109, 3, none⟩ = some (.int .u16 a0_3) ∧ w56.cell? ⟨gb109, 4, none⟩ = some (.int .u32 a0_4) ∧ w56.cell? ⟨gb109, 5, none⟩ = some (.int .u64 a0_5) ∧ w56.cell? ⟨gb109, 6, none⟩ = some (.int .u32 a0_6) ∧ w56.cell? ⟨gb109, 7, none⟩ = some (.bool false) ∧ w56.cell? ⟨gb109, 8, none⟩ = some (.string a0_8) := hS_
                   refine norm_ (a' := ?_) ?_ ?_
                   rotate_left
                   ·simp only [putAll, Act.put, List.setIfInBounds_toArray, List.set_cons_zero, List.set_cons_succ]
                    rfl
                   refine one_ (i := 8) (N := some 30) #[true, true, true, true, true, true, true, true, true, false, false, true, true, true, true, true, false, true, true, true, true, true, false, false] rfl rfl (one_of HT_.out (by kernel_rfl)) (by decide) (fun K hK => ?_)
                   refine Kd.R_lit_step (Kd.int .u8) _ 5 ?hg (N := 30) ?hd (xs := ([a0_0, a0_1, a0_2] : List Int)) (inner := [.int .u8 a0_0, .int .u8 a0_1, .int .u8 a0_2]) (ok := fun _ => True) (okp := fun _ => True) ?hr ?hp (fun _ hk => hk) trivial (Below.refl _ _) (Nat.le_refl _) (by simp) ?_; (case hd => rfl); (case hg => rfl); (case hr => first | (go_simp; done) | (go_simp; rfl)); (case hp => exact (Reps.one (show Kd.M (Kd.int .u8) _ _ _ a0_0 [.int .u8 a0_0] from rfl) (Reps.one (show Kd.M (Kd.int .u8) _ _ _ a0_1 [.int .u8 a0_1] from rfl) (Reps.one (show Kd.M (Kd.int .u8) _ _ _ a0_2 [.int .u8 a0_2] from rfl) (Reps.none _ _)))))
                   intro v115 w57 ho58 hb hg_ hnew_
                   clear hg_ hnew_
                   (first | rw [← Ny114.out] at ho58 | (simp only [Int.reduceToNat] at ho58; rw [← Ny114.out] at ho58))
                   have n0_ := Aside0.mk (Kd.R_lower ho58 (below_size (by repeat (first | (with_reducible first | exact HB.out | apply below_alloc | apply pw_below_drewN | apply below_drew1 | refine below_set ?_ GE109.out) | exact HB.out))))
                   have n1_ := Aside0.mk (blk_below (g := gb109) (o := .cells #[.int .u8 a0_0, .int .u8 a0_1, .int .u8 a0_2, .int .u16 a0_3, .int .u32 a0_4, .int .u64 a0_5, .int .u32 a0_6, .bool false, .string a0_8] 28 (0, 0)) (by (with_reducible repeat (first | refine blk_drewN ?_ _ | refine blk_drew ?_ | refine blk_alloc ?_ _)); exact BK109.out) hb)
                   have n2_ := Aside0.mk (below_step (by repeat (first | (with_reducible first | exact HB.out | apply below_alloc | apply pw_below_drewN | apply below_drew1 | refine below_set ?_ GE109.out) | exact HB.out)) hb)
                   clear BK109
                   clear HB
                   have HO116 := n0_
                   have BK109 := n1_
                   have HB := n2_
                   clear n0_ n1_ n2_
                   clear hb ho58
                   refine hK.out _ _ ⟨(blk_cell BK109.out 0).trans rfl, (blk_cell BK109.out 1).trans rfl, (blk_cell BK109.out 2).trans rfl, (blk_cell BK109.out 3).trans rfl, (blk_cell BK109.out 4).trans rfl, (blk_cell BK109.out 5).trans rfl, (blk_cell BK109.out 6).trans rfl, (blk_cell BK109.out 7).trans rfl, (blk_cell BK109.out 8).trans rfl⟩ (fun hHeld => ?_)
                   clear hK K
                   refine norm_ (a' := ?_) ?_ ?_
                   rotate_left
                   ·show Act.put _ (some 30) _ = _
                    simp only [Act.put, List.setIfInBounds_toArray, List.set_cons_zero, List.set_cons_succ, i64_w, i32_w]
                    rfl
                   exact norm_ (by first | (simp only [putAll, Act.put, List.setIfInBounds_toArray, List.set_cons_zero, List.set_cons_succ]; done) | (simp only [putAll, Act.put, List.setIfInBounds_toArray, List.set_cons_zero, List.set_cons_succ]; rfl)) (hJ8_15_21 (v115) _ ⟨hHeld, (by (with_reducible repeat (first | apply Kd.R_alloc | apply Kd.R_drewN | apply Kd.R_drew)); exact HO116.out), (by (with_reducible repeat (first | refine blk_drewN ?_ _ | refine blk_drew ?_ | refine blk_alloc ?_ _)); exact BK109.out), (by repeat (first | (with_reducible first | exact HB.out | apply below_alloc | apply pw_below_drewN | apply below_drew1 | refine below_set ?_ GE109.out) | exact HB.out))⟩)
                 ·skip
                  rintro v115 w57 ⟨hS_, h0_, h1_, h2_⟩
                  have n0_ : Aside0 (Kd.R (Kd.int .u8) 5 w57 w.heap.size (fun _ => True) v115 y114) := ⟨h0_⟩
                  have n1_ : Aside0 (w57.heap[gb109]? = some (.cells #[.int .u8 a0_0, .int .u8 a0_1, .int .u8 a0_2, .int .u16 a0_3, .int .u32 a0_4, .int .u64 a0_5, .int .u32 a0_6, .bool false, .string a0_8] 28 (0, 0))) := ⟨h1_⟩
                  have n2_ : Aside0 (Below w.heap.size w w57) := ⟨h2_⟩
                  clear BK109
                  clear HB
                  clear h0_ h1_ h2_
                  have HO116 := n0_
                  have BK109 := n1_
                  have HB := n2_
                  clear n0_ n1_ n2_
                  have hHeld : w57.cell? ⟨gb109, 0, none⟩ = some (.int .u8 a0_0) ∧ w57.cell? ⟨gb109, 1, none⟩ = some (.int .u8 a0_1) ∧ w57.cell? ⟨gb109, 2, none⟩ = some (.int .u8 a0_2) ∧ w57.cell? ⟨gb109, 3, none⟩ = some (.int .u16 a0_3) ∧ w57.cell? ⟨gb109, 4, none⟩ = some (.int .u32 a0_4) ∧ w57.cell? ⟨gb109, 5, none⟩ = some (.int .u64 a0_5) ∧ w57.cell? ⟨gb109, 6, none⟩ = some (.int .u32 a0_6) ∧ w57.cell? ⟨gb109, 7, none⟩ = some (.bool false) ∧ w57.cell? ⟨gb109, 8, none⟩ = some (.string a0_8) := hS_
                  refine norm_ (a' := ?_) ?_ ?_
                  rotate_left
                  ·simp only [putAll, Act.put, List.setIfInBounds_toArray, List.set_cons_zero, List.set_cons_succ]
                   rfl
                  refine two_ (i := 9) (j := 21) (Ni := some 31) (Nj := some 43) #[true, true, true, true, true, true, true, true, true, true, false, true, true, true, true, true, false, true, true, true, true, false, false, false] #[true, true, true, true, true, true, true, true, true, false, false, true, true, true, true, true, false, true, true, true, true, true, false, false] rfl rfl rfl rfl (two_of HT_.out (by kernel_rfl)) (by decide) (by decide) (fun K hK => ?_) (fun K hK => ?_)
                  ·skip
                   have hcv58 := own_string (P := Try.prog) Try.underlying39 Try.underlying5 Try.underlying9 (Kd.own_of_R HO116.out)
                   refine value_ (w1 := ?_) (v := ?_) (by rfl) rfl ?_ ?_
                   rotate_left 2
                   ·go_simp
                    constructor
                    ·rfl
                    ·rfl
                   clear hcv58
                   refine hK.out _ _ ⟨(blk_cell BK109.out 0).trans rfl, (blk_cell BK109.out 1).trans rfl, (blk_cell BK109.out 2).trans rfl, (blk_cell BK109.out 3).trans rfl, (blk_cell BK109.out 4).trans rfl, (blk_cell BK109.out 5).trans rfl, (blk_cell BK109.out 6).trans rfl, (blk_cell BK109.out 7).trans rfl, (blk_cell BK109.out 8).trans rfl⟩ (fun hHeld => ?_)
                   clear hK K
                   refine norm_ (a' := ?_) ?_ ?_
                   rotate_left
                   ·show Act.put _ (some 31) _ = _
                    simp only [Act.put, List.setIfInBounds_toArray, List.set_cons_zero, List.set_cons_succ, i64_w, i32_w]
                    rfl
                   refine pure_ (i := 10) (N := some 32) (v := ?_) (a' := ?_) #[true, true, true, true, true, true, true, true, true, true, true, true, true, true, true, true, false, true, true, true, true, false, false, false] rfl rfl (any_of HT_.out (by kernel_rfl)) (fun _ _ _ h => h) (Or.inl ⟨by rfl, ?_⟩) ?_ ?_
                   rotate_left
                   ·intro w'
                    go_simp
                    with_reducible rfl
                   rotate_left
                   ·simp only [Act.put, List.setIfInBounds_toArray, List.set_cons_zero, List.set_cons_succ, i64_w, i32_w]
                    rfl
                   refine pure_ (i := 16) (N := some 38) (v := ?_) (a' := ?_) #[true, true, true, true, true, true, true, true, true, true, true, true, true, true, true, true, true, true, true, true, true, false, false, false] rfl rfl (any_of HT_.out (by kernel_rfl)) (fun _ _ _ h => h) (Or.inl ⟨by rfl, ?_⟩) ?_ ?_
                   rotate_left
                   ·intro w'
                    go_simp
                    with_reducible rfl
                   rotate_left
                   ·simp only [Act.put, List.setIfInBounds_toArray, List.set_cons_zero, List.set_cons_succ, i64_w, i32_w]
                    rfl
                   exact norm_ (by first | (simp only [putAll, Act.put, List.setIfInBounds_toArray, List.set_cons_zero, List.set_cons_succ]; done) | (simp only [putAll, Act.put, List.setIfInBounds_toArray, List.set_cons_zero, List.set_cons_succ]; rfl)) (hJ8_9_15 (v115) _ ⟨hHeld, (by (with_reducible repeat (first | apply Kd.R_alloc | apply Kd.R_drewN | apply Kd.R_drew)); exact HO116.out), (by (with_reducible repeat (first | refine blk_drewN ?_ _ | refine blk_drew ?_ | refine blk_alloc ?_ _)); exact BK109.out), (by repeat (first | (with_reducible first | exact HB.out | apply below_alloc | apply pw_below_drewN | apply below_drew1 | refine below_set ?_ GE109.out) | exact HB.out))⟩)
                  ·skip
                   refine goes_ Try.func37 (by kernel_rfl) rfl #[.int .u64 (IntKind.u64.wrap (a0_4)), .int .i64 4] (by rfl) rfl rfl (by (try simp only [List.map_toArray, List.map_cons, List.map_nil]); first | done | rfl | (simp only [List.length_drop, List.length_take]; rfl)) ?_
                   with_reducible refine (concordref01_Fixed.calls k (IntKind.u64.wrap (a0_4)) 4 t118 _ A12.out).mono ?_
                   rintro e w58 ⟨rfl, hb⟩
                   refine ⟨_, rfl, ?_⟩
                   have n0_ := Aside0.mk (Kd.R_below (by (with_reducible repeat (first | apply Kd.R_alloc | apply Kd.R_drewN | apply Kd.R_drew)); exact HO116.out) hb)
                   have n1_ := Aside0.mk (blk_below (g := gb109) (o := .cells #[.int .u8 a0_0, .int .u8 a0_1, .int .u8 a0_2, .int .u16 a0_3, .int .u32 a0_4, .int .u64 a0_5, .int .u32 a0_6, .bool false, .string a0_8] 28 (0, 0)) (by (with_reducible repeat (first | refine blk_drewN ?_ _ | refine blk_drew ?_ | refine blk_alloc ?_ _)); exact BK109.out) hb)
                   have n2_ := Aside0.mk (below_step (by repeat (first | (with_reducible first | exact HB.out | apply below_alloc | apply pw_below_drewN | apply below_drew1 | refine below_set ?_ GE109.out) | exact HB.out)) hb)
                   clear HO116
                   clear BK109
                   clear HB
                   have HO116 := n0_
                   have BK109 := n1_
                   have HB := n2_
                   clear n0_ n1_ n2_
                   (try clear hb)
                   (try clear hb2)
                   (try clear hk)
                   (try clear hi)
                   refine hK.out _ _ ⟨(blk_cell BK109.out 0).trans rfl, (blk_cell BK109.out 1).trans rfl, (blk_cell BK109.out 2).trans rfl, (blk_cell BK109.out 3).trans rfl, (blk_cell BK109.out 4).trans rfl, (blk_cell BK109.out 5).trans rfl, (blk_cell BK109.out 6).trans rfl, (blk_cell BK109.out 7).trans rfl, (blk_cell BK109.out 8).trans rfl⟩ (fun hHeld => ?_)
                   clear hK K
                   refine norm_ (a' := ?_) ?_ ?_
                   rotate_left
                   ·show Act.put _ (some 43) _ = _
                    simp only [Act.put, List.setIfInBounds_toArray, List.set_cons_zero, List.set_cons_succ, i64_w, i32_w]
                    rfl
                   exact norm_ (by first | (simp only [putAll, Act.put, List.setIfInBounds_toArray, List.set_cons_zero, List.set_cons_succ]; done) | (simp only [putAll, Act.put, List.setIfInBounds_toArray, List.set_cons_zero, List.set_cons_succ]; rfl)) (hJ8_15_21 (v115) _ ⟨hHeld, (by (with_reducible repeat (first | apply Kd.R_alloc | apply Kd.R_drewN | apply Kd.R_drew)); exact HO116.out), (by (with_reducible repeat (first | refine blk_drewN ?_ _ | refine blk_drew ?_ | refine blk_alloc ?_ _)); exact BK109.out), (by repeat (first | (with_reducible first | exact HB.out | apply below_alloc | apply pw_below_drewN | apply below_drew1 | refine below_set ?_ GE109.out) | exact HB.out))⟩)
                ·skip
                 rintro v115 w57 ⟨hS_, h0_, h1_, h2_⟩
                 have n0_ : Aside0 (Kd.R (Kd.int .u8) 5 w57 w.heap.size (fun _ => True) v115 y114) := ⟨h0_⟩
                 have n1_ : Aside0 (w57.heap[gb109]? = some (.cells #[.int .u8 a0_0, .int .u8 a0_1, .int .u8 a0_2, .int .u16 a0_3, .int .u32 a0_4, .int .u64 a0_5, .int .u32 a0_6, .bool false, .string a0_8] 28 (0, 0))) := ⟨h1_⟩
                 have n2_ : Aside0 (Below w.heap.size w w57) := ⟨h2_⟩
                 clear BK109
                 clear HB
                 clear h0_ h1_ h2_
                 have HO116 := n0_
                 have BK109 := n1_
                 have HB := n2_
                 clear n0_ n1_ n2_
                 have hHeld : w57.cell? ⟨gb109, 0, none⟩ = some (.int .u8 a0_0) ∧ w57.cell? ⟨gb109, 1, none⟩ = some (.int .u8 a0_1) ∧ w57.cell? ⟨gb109, 2, none⟩ = some (.int .u8 a0_2) ∧ w57.cell? ⟨gb109, 3, none⟩ = some (.int .u16 a0_3) ∧ w57.cell? ⟨gb109, 4, none⟩ = some (.int .u32 a0_4) ∧ w57.cell? ⟨gb109, 5, none⟩ = some (.int .u64 a0_5) ∧ w57.cell? ⟨gb109, 6, none⟩ = some (.int .u32 a0_6) ∧ w57.cell? ⟨gb109, 7, none⟩ = some (.bool false) ∧ w57.cell? ⟨gb109, 8, none⟩ = some (.string a0_8) := hS_
                 refine norm_ (a' := ?_) ?_ ?_
                 rotate_left
                 ·simp only [putAll, Act.put, List.setIfInBounds_toArray, List.set_cons_zero, List.set_cons_succ]
                  rfl
                 refine one_ (i := 15) (N := some 37) #[true, true, true, true, true, true, true, true, true, true, true, true, true, true, true, true, false, true, true, true, true, false, false, false] rfl rfl (one_of HT_.out (by kernel_rfl)) (by decide) (fun K hK => ?_)
                 refine goes_ Try.func37 (by kernel_rfl) rfl #[.int .u64 (IntKind.u64.wrap (a0_3)), .int .i64 2] (by rfl) rfl rfl (by (try simp only [List.map_toArray, List.map_cons, List.map_nil]); first | done | rfl | (simp only [List.length_drop, List.length_take]; rfl)) ?_
                 with_reducible refine (concordref01_Fixed.calls k (IntKind.u64.wrap (a0_3)) 2 t117 _ A10.out).mono ?_
                 rintro e w58 ⟨rfl, hb⟩
                 refine ⟨_, rfl, ?_⟩
                 have n0_ := Aside0.mk (Kd.R_below (by (with_reducible repeat (first | apply Kd.R_alloc | apply Kd.R_drewN | apply Kd.R_drew)); exact HO116.out) hb)
                 have n1_ := Aside0.mk (blk_below (g := gb109) (o := .cells #[.int .u8 a0_0, .int .u8 a0_1, .int .u8 a0_2, .int .u16 a0_3, .int .u32 a0_4, .int .u64 a0_5, .int .u32 a0_6, .bool false, .string a0_8] 28 (0, 0)) (by (with_reducible repeat (first | refine blk_drewN ?_ _ | refine blk_drew ?_ | refine blk_alloc ?_ _)); exact BK109.out) hb)
                 have n2_ := Aside0.mk (below_step (by repeat (first | (with_reducible first | exact HB.out | apply below_alloc | apply pw_below_drewN | apply below_drew1 | refine below_set ?_ GE109.out) | exact HB.out)) hb)
                 clear HO116
                 clear BK109
                 clear HB
                 have HO116 := n0_
                 have BK109 := n1_
                 have HB := n2_
                 clear n0_ n1_ n2_
                 (try clear hb)
                 (try clear hb2)
                 (try clear hk)
                 (try clear hi)
                 refine hK.out _ _ ⟨(blk_cell BK109.out 0).trans rfl, (blk_cell BK109.out 1).trans rfl, (blk_cell BK109.out 2).trans rfl, (blk_cell BK109.out 3).trans rfl, (blk_cell BK109.out 4).trans rfl, (blk_cell BK109.out 5).trans rfl, (blk_cell BK109.out 6).trans rfl, (blk_cell BK109.out 7).trans rfl, (blk_cell BK109.out 8).trans rfl⟩ (fun hHeld => ?_)
                 clear hK K
                 refine norm_ (a' := ?_) ?_ ?_
                 rotate_left
                 ·show Act.put _ (some 37) _ = _
                  simp only [Act.put, List.setIfInBounds_toArray, List.set_cons_zero, List.set_cons_succ, i64_w, i32_w]
                  rfl
                 refine pure_ (i := 16) (N := some 38) (v := ?_) (a' := ?_) #[true, true, true, true, true, true, true, true, true, true, true, true, true, true, true, true, true, true, true, true, true, false, false, false] rfl rfl (any_of HT_.out (by kernel_rfl)) (fun _ _ _ h => h) (Or.inl ⟨by rfl, ?_⟩) ?_ ?_
                 rotate_left
                 ·intro w'
                  go_simp
                  with_reducible rfl
                 rotate_left
                 ·simp only [Act.put, List.setIfInBounds_toArray, List.set_cons_zero, List.set_cons_succ, i64_w, i32_w]
                  rfl
                 exact norm_ (by first | (simp only [putAll, Act.put, List.setIfInBounds_toArray, List.set_cons_zero, List.set_cons_succ]; done) | (simp only [putAll, Act.put, List.setIfInBounds_toArray, List.set_cons_zero, List.set_cons_succ]; rfl)) (hJ8_9_15 (v115) _ ⟨hHeld, (by (with_reducible repeat (first | apply Kd.R_alloc | apply Kd.R_drewN | apply Kd.R_drew)); exact HO116.out), (by (with_reducible repeat (first | refine blk_drewN ?_ _ | refine blk_drew ?_ | refine blk_alloc ?_ _)); exact BK109.out), (by repeat (first | (with_reducible first | exact HB.out | apply below_alloc | apply pw_below_drewN | apply below_drew1 | refine below_set ?_ GE109.out) | exact HB.out))⟩)
               ·skip
                rintro v115 w58 ⟨hS_, h0_, h1_, h2_⟩
                have n0_ : Aside0 (Kd.R (Kd.int .u8) 5 w58 w.heap.size (fun _ => True) v115 y114) := ⟨h0_⟩
                have n1_ : Aside0 (w58.heap[gb109]? = some (.cells #[.int .u8 a0_0, .int .u8 a0_1, .int .u8 a0_2, .int .u16 a0_3, .int .u32 a0_4, .int .u64 a0_5, .int .u32 a0_6, .bool false, .string a0_8] 28 (0, 0))) := ⟨h1_⟩
                have n2_ : Aside0 (Below w.heap.size w w58) := ⟨h2_⟩
                clear BK109
                clear HB
                clear h0_ h1_ h2_
                have HO116 := n0_
                have BK109 := n1_
                have HB := n2_
                clear n0_ n1_ n2_
                have hHeld : w58.cell? ⟨gb109, 0, none⟩ = some (.int .u8 a0_0) ∧ w58.cell? ⟨gb109, 1, none⟩ = some (.int .u8 a0_1) ∧ w58.cell? ⟨gb109, 2, none⟩ = some (.int .u8 a0_2) ∧ w58.cell? ⟨gb109, 3, none⟩ = some (.int .u16 a0_3) ∧ w58.cell? ⟨gb109, 4, none⟩ = some (.int .u32 a0_4) ∧ w58.cell? ⟨gb109, 5, none⟩ = some (.int .u64 a0_5) ∧ w58.cell? ⟨gb109, 6, none⟩ = some (.int .u32 a0_6) ∧ w58.cell? ⟨gb109, 7, none⟩ = some (.bool false) ∧ w58.cell? ⟨gb109, 8, none⟩ = some (.string a0_8) := hS_
                refine norm_ (a' := ?_) ?_ ?_
                rotate_left
                ·simp only [putAll, Act.put, List.setIfInBounds_toArray, List.set_cons_zero, List.set_cons_succ]
                 rfl
                refine one_ (i := 9) (N := some 31) #[true, true, true, true, true, true, true, true, true, true, false, true, true, true, true, true, false, true, true, true, true, true, false, false] rfl rfl (one_of HT_.out (by kernel_rfl)) (by decide) (fun K hK => ?_)
                have hcv59 := own_string (P := Try.prog) Try.underlying39 Try.underlying5 Try.underlying9 (Kd.own_of_R HO116.out)
                refine value_ (w1 := ?_) (v := ?_) (by rfl) rfl ?_ ?_
                rotate_left 2
                ·go_simp
                 constructor
                 ·rfl
                 ·rfl
                clear hcv59
                refine hK.out _ _ ⟨(blk_cell BK109.out 0).trans rfl, (blk_cell BK109.out 1).trans rfl, (blk_cell BK109.out 2).trans rfl, (blk_cell BK109.out 3).trans rfl, (blk_cell BK109.out 4).trans rfl, (blk_cell BK109.out 5).trans rfl, (blk_cell BK109.out 6).trans rfl, (blk_cell BK109.out 7).trans rfl, (blk_cell BK109.out 8).trans rfl⟩ (fun hHeld => ?_)
                clear hK K
                refine norm_ (a' := ?_) ?_ ?_
                rotate_left
                ·show Act.put _ (some 31) _ = _
                 simp only [Act.put, List.setIfInBounds_toArray, List.set_cons_zero, List.set_cons_succ, i64_w, i32_w]
                 rfl
                refine pure_ (i := 10) (N := some 32) (v := ?_) (a' := ?_) #[true, true, true, true, true, true, true, true, true, true, true, true, true, true, true, true, false, true, true, true, true, true, false, false] rfl rfl (any_of HT_.out (by kernel_rfl)) (fun _ _ _ h => h) (Or.inl ⟨by rfl, ?_⟩) ?_ ?_
                rotate_left
                ·intro w'
                 go_simp
                 with_reducible rfl
                rotate_left
                ·simp only [Act.put, List.setIfInBounds_toArray, List.set_cons_zero, List.set_cons_succ, i64_w, i32_w]
                 rfl
                refine pure_ (i := 16) (N := some 38) (v := ?_) (a' := ?_) #[true, true, true, true, true, true, true, true, true, true, true, true, true, true, true, true, true, true, true, true, true, true, false, false] rfl rfl (any_of HT_.out (by kernel_rfl)) (fun _ _ _ h => h) (Or.inl ⟨by rfl, ?_⟩) ?_ ?_
                rotate_left
                ·intro w'
                 go_simp
                 with_reducible rfl
                rotate_left
                ·simp only [Act.put, List.setIfInBounds_toArray, List.set_cons_zero, List.set_cons_succ, i64_w, i32_w]
                 rfl
                exact norm_ (by first | (simp only [putAll, Act.put, List.setIfInBounds_toArray, List.set_cons_zero, List.set_cons_succ]; done) | (simp only [putAll, Act.put, List.setIfInBounds_toArray, List.set_cons_zero, List.set_cons_succ]; rfl)) (hJ8_9_15_21 (v115) _ ⟨hHeld, (by (with_reducible repeat (first | apply Kd.R_alloc | apply Kd.R_drewN | apply Kd.R_drew)); exact HO116.out), (by (with_reducible repeat (first | refine blk_drewN ?_ _ | refine blk_drew ?_ | refine blk_alloc ?_ _)); exact BK109.out), (by repeat (first | (with_reducible first | exact HB.out | apply below_alloc | apply pw_below_drewN | apply below_drew1 | refine below_set ?_ GE109.out) | exact HB.out))⟩)
              ·skip
               rintro v115 w58 ⟨hS_, h0_, h1_, h2_⟩
               have n0_ : Aside0 (Kd.R (Kd.int .u8) 5 w58 w.heap.size (fun _ => True) v115 y114) := ⟨h0_⟩
               have n1_ : Aside0 (w58.heap[gb109]? = some (.cells #[.int .u8 a0_0, .int .u8 a0_1, .int .u8 a0_2, .int .u16 a0_3, .int .u32 a0_4, .int .u64 a0_5, .int .u32 a0_6, .bool false, .string a0_8] 28 (0, 0))) := ⟨h1_⟩
               have n2_ : Aside0 (Below w.heap.size w w58) := ⟨h2_⟩
               clear BK109
               clear HB
               clear h0_ h1_ h2_
               have HO116 := n0_
               have BK109 := n1_
               have HB := n2_
               clear n0_ n1_ n2_
               have hHeld : w58.cell? ⟨gb109, 0, none⟩ = some (.int .u8 a0_0) ∧ w58.cell? ⟨gb109, 1, none⟩ = some (.int .u8 a0_1) ∧ w58.cell? ⟨gb109, 2, none⟩ = some (.int .u8 a0_2) ∧ w58.cell? ⟨gb109, 3, none⟩ = some (.int .u16 a0_3) ∧ w58.cell? ⟨gb109, 4, none⟩ = some (.int .u32 a0_4) ∧ w58.cell? ⟨gb109, 5, none⟩ = some (.int .u64 a0_5) ∧ w58.cell? ⟨gb109, 6, none⟩ = some (.int .u32 a0_6) ∧ w58.cell? ⟨gb109, 7, none⟩ = some (.bool false) ∧ w58.cell? ⟨gb109, 8, none⟩ = some (.string a0_8) := hS_
               refine norm_ (a' := ?_) ?_ ?_
               rotate_left
               ·simp only [putAll, Act.put, List.setIfInBounds_toArray, List.set_cons_zero, List.set_cons_succ]
                rfl
               refine one_ (i := 21) (N := some 43) #[true, true, true, true, true, true, true, true, true, true, true, true, true, true, true, true, true, true, true, true, true, true, false, false] rfl rfl (one_of HT_.out (by kernel_rfl)) (by decide) (fun K hK => ?_)
               refine goes_ Try.func37 (by kernel_rfl) rfl #[.int .u64 (IntKind.u64.wrap (a0_4)), .int .i64 4] (by rfl) rfl rfl (by (try simp only [List.map_toArray, List.map_cons, List.map_nil]); first | done | rfl | (simp only [List.length_drop, List.length_take]; rfl)) ?_
               with_reducible refine (concordref01_Fixed.calls k (IntKind.u64.wrap (a0_4)) 4 t118 _ A12.out).mono ?_
               rintro e w59 ⟨rfl, hb⟩
               refine ⟨_, rfl, ?_⟩
               have n0_ := Aside0.mk (Kd.R_below (by (with_reducible repeat (first | apply Kd.R_alloc | apply Kd.R_drewN | apply Kd.R_drew)); exact HO116.out) hb)
               have n1_ := Aside0.mk (blk_below (g := gb109) (o := .cells #[.int .u8 a0_0, .int .u8 a0_1, .int .u8 a0_2, .int .u16 a0_3, .int .u32 a0_4, .int .u64 a0_5, .int .u32 a0_6, .bool false, .string a0_8] 28 (0, 0)) (by (with_reducible repeat (first | refine blk_drewN ?_ _ | refine blk_drew ?_ | refine blk_alloc ?_ _)); exact BK109.out) hb)
               have n2_ := Aside0.mk (below_step (by repeat (first | (with_reducible first | exact HB.out | apply below_alloc | apply pw_below_drewN | apply below_drew1 | refine below_set ?_ GE109.out) | exact HB.out)) hb)
               clear HO116
               clear BK109
               clear HB
               have HO116 := n0_
               have BK109 := n1_
               have HB := n2_
               clear n0_ n1_ n2_
               (try clear hb)
               (try clear hb2)
               (try clear hk)
               (try clear hi)
               refine hK.out _ _ ⟨(blk_cell BK109.out 0).trans rfl, (blk_cell BK109.out 1).trans rfl, (blk_cell BK109.out 2).trans rfl, (blk_cell BK109.out 3).trans rfl, (blk_cell BK109.out 4).trans rfl, (blk_cell BK109.out 5).trans rfl, (blk_cell BK109.out 6).trans rfl, (blk_cell BK109.out 7).trans rfl, (blk_cell BK109.out 8).trans rfl⟩ (fun hHeld => ?_)
               clear hK K
               refine norm_ (a' := ?_) ?_ ?_
               rotate_left
               ·show Act.put _ (some 43) _ = _
                simp only [Act.put, List.setIfInBounds_toArray, List.set_cons_zero, List.set_cons_succ, i64_w, i32_w]
                rfl
               exact norm_ (by first | (simp only [putAll, Act.put, List.setIfInBounds_toArray, List.set_cons_zero, List.set_cons_succ]; done) | (simp only [putAll, Act.put, List.setIfInBounds_toArray, List.set_cons_zero, List.set_cons_succ]; rfl)) (hJ8_9_15_21 (v115) _ ⟨hHeld, (by (with_reducible repeat (first | apply Kd.R_alloc | apply Kd.R_drewN | apply Kd.R_drew)); exact HO116.out), (by (with_reducible repeat (first | refine blk_drewN ?_ _ | refine blk_drew ?_ | refine blk_alloc ?_ _)); exact BK109.out), (by repeat (first | (with_reducible first | exact HB.out | apply below_alloc | apply pw_below_drewN | apply below_drew1 | refine below_set ?_ GE109.out) | exact HB.out))⟩)
             rintro v115 w59 ⟨hS_, h0_, h1_, h2_⟩
             have n0_ : Aside0 (Kd.R (Kd.int .u8) 5 w59 w.heap.size (fun _ => True) v115 y114) := ⟨h0_⟩
             have n1_ : Aside0 (w59.heap[gb109]? = some (.cells #[.int .u8 a0_0, .int .u8 a0_1, .int .u8 a0_2, .int .u16 a0_3, .int .u32 a0_4, .int .u64 a0_5, .int .u32 a0_6, .bool false, .string a0_8] 28 (0, 0))) := ⟨h1_⟩
             have n2_ : Aside0 (Below w.heap.size w w59) := ⟨h2_⟩
             clear BK109
             clear HB
             clear h0_ h1_ h2_
             have HO116 := n0_
             have BK109 := n1_
             have HB := n2_
             clear n0_ n1_ n2_
             have hHeld : w59.cell? ⟨gb109, 0, none⟩ = some (.int .u8 a0_0) ∧ w59.cell? ⟨gb109, 1, none⟩ = some (.int .u8 a0_1) ∧ w59.cell? ⟨gb109, 2, none⟩ = some (.int .u8 a0_2) ∧ w59.cell? ⟨gb109, 3, none⟩ = some (.int .u16 a0_3) ∧ w59.cell? ⟨gb109, 4, none⟩ = some (.int .u32 a0_4) ∧ w59.cell? ⟨gb109, 5, none⟩ = some (.int .u64 a0_5) ∧ w59.cell? ⟨gb109, 6, none⟩ = some (.int .u32 a0_6) ∧ w59.cell? ⟨gb109, 7, none⟩ = some (.bool false) ∧ w59.cell? ⟨gb109, 8, none⟩ = some (.string a0_8) := hS_
             refine norm_ (a' := ?_) ?_ ?_
             rotate_left
             ·simp only [putAll, Act.put, List.setIfInBounds_toArray, List.set_cons_zero, List.set_cons_succ]
              rfl
             refine pure_ (i := 22) (N := some 44) (v := ?_) (a' := ?_) #[true, true, true, true, true, true, true, true, true, true, true, true, true, true, true, true, true, true, true, true, true, true, true, false] rfl rfl (any_of HT_.out (by kernel_rfl)) (fun _ _ _ h => h) (Or.inl ⟨by rfl, ?_⟩) ?_ ?_
             rotate_left
             ·intro w'
              go_simp
              with_reducible rfl
             rotate_left
             ·simp only [Act.put, List.setIfInBounds_toArray, List.set_cons_zero, List.set_cons_succ, i64_w, i32_w]
              rfl
             refine pure_ (i := 23) (N := some 5) (v := ?_) (a' := ?_) #[true, true, true, true, true, true, true, true, true, true, true, true, true, true, true, true, true, true, true, true, true, true, true, true] rfl rfl (any_of HT_.out (by kernel_rfl)) (fun _ _ _ h => h) (Or.inl ⟨by rfl, ?_⟩) ?_ ?_
             rotate_left
             ·intro w'
              go_simp
              with_reducible rfl
             rotate_left
             ·simp only [Act.put, List.setIfInBounds_toArray, List.set_cons_zero, List.set_cons_succ, i64_w, i32_w]
              rfl
             refine done_ (done_of HT_.out (by kernel_rfl)) ?_
             try go_wp2
             have n0_ := Aside0.mk (Kd.R_drew HO116.out)
             have n1_ := Aside0.mk (blk_drew BK109.out)
             have n2_ := Aside0.mk (below_drew1 HB.out)
             clear HO116
             clear BK109
             clear HB
             have HO116 := n0_
             have BK109 := n1_
             have HB := n2_
             clear n0_ n1_ n2_
             refine start_ (n := 11) (S := fun w' => w'.cell? ⟨gb109, 0, none⟩ = some (.int .u8 a0_0) ∧ w'.cell? ⟨gb109, 1, none⟩ = some (.int .u8 a0_1) ∧ w'.cell? ⟨gb109, 2, none⟩ = some (.int .u8 a0_2) ∧ w'.cell? ⟨gb109, 3, none⟩ = some (.int .u16 a0_3) ∧ w'.cell? ⟨gb109, 4, none⟩ = some (.int .u32 a0_4) ∧ w'.cell? ⟨gb109, 5, none⟩ = some (.int .u64 a0_5) ∧ w'.cell? ⟨gb109, 6, none⟩ = some (.int .u32 a0_6) ∧ w'.cell? ⟨gb109, 7, none⟩ = some (.bool false) ∧ w'.cell? ⟨gb109, 8, none⟩ = some (.string a0_8)) (ds := []) #[false, false, false, false, false, false, false, false, false, false, false] (by kernel_rfl) rfl rfl ⟨(blk_cell BK109.out 0).trans rfl, (blk_cell BK109.out 1).trans rfl, (blk_cell BK109.out 2).trans rfl, (blk_cell BK109.out 3).trans rfl, (blk_cell BK109.out 4).trans rfl, (blk_cell BK109.out 5).trans rfl, (blk_cell BK109.out 6).trans rfl, (blk_cell BK109.out 7).trans rfl, (blk_cell BK109.out 8).trans rfl⟩ (fun hHeld => ?_); refine with_tabW concordref21_Encode.tab6 concordref21_Encode.bits6 (fun HT_ HW_ => ?_)
             generalize w59.drew = w60 at HO116 BK109 HB hHeld ⊢
             refine pure_ (i := 0) (N := some 45) (v := ?_) (a' := ?_) #[true, false, false, false, false, false, false, false, false, false, false] rfl rfl (any_of HT_.out (by kernel_rfl)) (fun _ _ _ h => h) (Or.inl ⟨by rfl, ?_⟩) ?_ ?_
             rotate_left
             ·intro w'
              go_simp
              with_reducible rfl
             rotate_left
             ·simp only [Act.put, List.setIfInBounds_toArray, List.set_cons_zero, List.set_cons_succ, i64_w, i32_w]
              rfl
             refine pure_ (i := 1) (N := some 46) (v := ?_) (a' := ?_) #[true, true, false, false, false, false, false, false, false, false, false] rfl rfl (any_of HT_.out (by kernel_rfl)) (fun _ _ _ h => h) (Or.inl ⟨by rfl, ?_⟩) ?_ ?_
             rotate_left
             ·intro w'
              go_simp
              with_reducible rfl
             rotate_left
             ·simp only [Act.put, List.setIfInBounds_toArray, List.set_cons_zero, List.set_cons_succ, i64_w, i32_w]
              rfl
             refine pure_ (i := 5) (N := some 50) (v := ?_) (a' := ?_) #[true, true, false, false, false, true, false, false, false, false, false] rfl rfl (any_of HT_.out (by kernel_rfl)) (fun _ _ _ h => h) (Or.inl ⟨by rfl, ?_⟩) ?_ ?_
             rotate_left
             ·intro w'
              go_simp
              with_reducible rfl
             rotate_left
             ·simp only [Act.put, List.setIfInBounds_toArray, List.set_cons_zero, List.set_cons_succ, i64_w, i32_w]
              rfl
             refine take_ (i := 2) (N := some 47) (v := ?_) (a' := ?_) #[true, true, true, false, false, true, false, false, false, false, false] rfl rfl (take_ofW HT_.out HW_.out (by kernel_rfl)) (fun _ _ _ h => h) (Or.inl ⟨by rfl, ?_⟩) hHeld ?_ ?_
             rotate_left
             ·rintro w' ⟨s0, s1, s2, s3, s4, s5, s6, s7, s8⟩
              go_simp
              with_reducible rfl
             rotate_left
             ·simp only [Act.put, List.setIfInBounds_toArray, List.set_cons_zero, List.set_cons_succ, i64_w, i32_w]
              rfl
             refine take_ (i := 6) (N := some 51) (v := ?_) (a' := ?_) #[true, true, true, false, false, true, true, false, false, false, false] rfl rfl (take_ofW HT_.out HW_.out (by kernel_rfl)) (fun _ _ _ h => h) (Or.inl ⟨by rfl, ?_⟩) hHeld ?_ ?_
             rotate_left
             ·rintro w' ⟨s0, s1, s2, s3, s4, s5, s6, s7, s8⟩
              go_simp
              with_reducible rfl
             rotate_left
             ·simp only [Act.put, List.setIfInBounds_toArray, List.set_cons_zero, List.set_cons_succ, i64_w, i32_w]
              rfl
             refine pure_ (i := 7) (N := some 52) (v := ?_) (a' := ?_) #[true, true, true, false, false, true, true, true, false, false, false] rfl rfl (any_of HT_.out (by kernel_rfl)) (fun _ _ _ h => h) (Or.inl ⟨by rfl, ?_⟩) ?_ ?_
             rotate_left
             ·intro w'
              go_simp
              with_reducible rfl
             rotate_left
             ·simp only [Act.put, List.setIfInBounds_toArray, List.set_cons_zero, List.set_cons_succ, i64_w, i32_w]
              rfl
             refine one_ (i := 3) (N := some 48) #[true, true, true, true, false, true, true, true, false, false, false] rfl rfl (one_of HT_.out (by kernel_rfl)) (by decide) (fun K hK => ?_)
             refine goes_ Try.func37 (by kernel_rfl) rfl #[.int .u64 a0_5, .int .i64 8] (by rfl) rfl rfl (by (try simp only [List.map_toArray, List.map_cons, List.map_nil]); first | done | rfl | (simp only [List.length_drop, List.length_take]; rfl)) ?_
             with_reducible refine (concordref01_Fixed.calls k a0_5 8 t119 _ A14.out).mono ?_
             rintro e w61 ⟨rfl, hb⟩
             refine ⟨_, rfl, ?_⟩
             have n0_ := Aside0.mk (Kd.R_below (by (with_reducible repeat (first | apply Kd.R_alloc | apply Kd.R_drewN | apply Kd.R_drew)); exact HO116.out) hb)
             have n1_ := Aside0.mk (blk_below (g := gb109) (o := .cells #[.int .u8 a0_0, .int .u8 a0_1, .int .u8 a0_2, .int .u16 a0_3, .int .u32 a0_4, .int .u64 a0_5, .int .u32 a0_6, .bool false, .string a0_8] 28 (0, 0)) (by (with_reducible repeat (first | refine blk_drewN ?_ _ | refine blk_drew ?_ | refine blk_alloc ?_ _)); exact BK109.out) hb)
             have n2_ := Aside0.mk (below_step (by repeat (first | (with_reducible first | exact HB.out | apply below_alloc | apply pw_below_drewN | apply below_drew1 | refine below_set ?_ GE109.out) | exact HB.out)) hb)
             clear HO116
             clear BK109
             clear HB
             have HO116 := n0_
             have BK109 := n1_
             have HB := n2_
             clear n0_ n1_ n2_
             (try clear hb)
             (try clear hb2)
             (try clear hk)
             (try clear hi)
             refine hK.out _ _ ⟨(blk_cell BK109.out 0).trans rfl, (blk_cell BK109.out 1).trans rfl, (blk_cell BK109.out 2).trans rfl, (blk_cell BK109.out 3).trans rfl, (blk_cell BK109.out 4).trans rfl, (blk_cell BK109.out 5).trans rfl, (blk_cell BK109.out 6).trans rfl, (blk_cell BK109.out 7).trans rfl, (blk_cell BK109.out 8).trans rfl⟩ (fun hHeld => ?_)
             clear hK K
             refine norm_ (a' := ?_) ?_ ?_
             rotate_left
             ·show Act.put _ (some 48) _ = _
              simp only [Act.put, List.setIfInBounds_toArray, List.set_cons_zero, List.set_cons_succ, i64_w, i32_w]
              rfl
             refine pure_ (i := 4) (N := some 49) (v := ?_) (a' := ?_) #[true, true, true, true, true, true, true, true, false, false, false] rfl rfl (any_of HT_.out (by kernel_rfl)) (fun _ _ _ h => h) (Or.inl ⟨by rfl, ?_⟩) ?_ ?_
             rotate_left
             ·intro w'
              go_simp
              with_reducible rfl
             rotate_left
             ·simp only [Act.put, List.setIfInBounds_toArray, List.set_cons_zero, List.set_cons_succ, i64_w, i32_w]
              rfl
             refine one_ (i := 8) (N := some 53) #[true, true, true, true, true, true, true, true, true, false, false] rfl rfl (one_of HT_.out (by kernel_rfl)) (by decide) (fun K hK => ?_)
             refine goes_ Try.func37 (by kernel_rfl) rfl #[.int .u64 (IntKind.u64.wrap (a0_6)), .int .i64 4] (by rfl) rfl rfl (by (try simp only [List.map_toArray, List.map_cons, List.map_nil]); first | done | rfl | (simp only [List.length_drop, List.length_take]; rfl)) ?_
             with_reducible refine (concordref01_Fixed.calls k (IntKind.u64.wrap (a0_6)) 4 t120 _ A16.out).mono ?_
             rintro e w62 ⟨rfl, hb⟩
             refine ⟨_, rfl, ?_⟩
             have n0_ := Aside0.mk (Kd.R_below (by (with_reducible repeat (first | apply Kd.R_alloc | apply Kd.R_drewN | apply Kd.R_drew)); exact HO116.out) hb)
             have n1_ := Aside0.mk (blk_below (g := gb109) (o := .cells #[.int .u8 a0_0, .int .u8 a0_1, .int .u8 a0_2, .int .u16 a0_3, .int .u32 a0_4, .int .u64 a0_5, .int .u32 a0_6, .bool false, .string a0_8] 28 (0, 0)) (by (with_reducible repeat (first | refine blk_drewN ?_ _ | refine blk_drew ?_ | refine blk_alloc ?_ _)); exact BK109.out) hb)
             have n2_ := Aside0.mk (below_step (by repeat (first | (with_reducible first | exact HB.out | apply below_alloc | apply pw_below_drewN | apply below_drew1 | refine below_set ?_ GE109.out) | exact HB.out)) hb)
             clear HO116
             clear BK109
             clear HB
             have HO116 := n0_
             have BK109 := n1_
             have HB := n2_
             clear n0_ n1_ n2_
             (try clear hb)
             (try clear hb2)
             (try clear hk)
             (try clear hi)
             refine hK.out _ _ ⟨(blk_cell BK109.out 0).trans rfl, (blk_cell BK109.out 1).trans rfl, (blk_cell BK109.out 2).trans rfl, (blk_cell BK109.out 3).trans rfl, (blk_cell BK109.out 4).trans rfl, (blk_cell BK109.out 5).trans rfl, (blk_cell BK109.out 6).trans rfl, (blk_cell BK109.out 7).trans rfl, (blk_cell BK109.out 8).trans rfl⟩ (fun hHeld => ?_)
             clear hK K
             refine norm_ (a' := ?_) ?_ ?_
             rotate_left
             ·show Act.put _ (some 53) _ = _
              simp only [Act.put, List.setIfInBounds_toArray, List.set_cons_zero, List.set_cons_succ, i64_w, i32_w]
              rfl
             refine pure_ (i := 9) (N := some 54) (v := ?_) (a' := ?_) #[true, true, true, true, true, true, true, true, true, true, false] rfl rfl (any_of HT_.out (by kernel_rfl)) (fun _ _ _ h => h) (Or.inl ⟨by rfl, ?_⟩) ?_ ?_
             rotate_left
             ·intro w'
              go_simp
              with_reducible rfl
             rotate_left
             ·simp only [Act.put, List.setIfInBounds_toArray, List.set_cons_zero, List.set_cons_succ, i64_w, i32_w]
              rfl
             refine pure_ (i := 10) (N := some 5) (v := ?_) (a' := ?_) #[true, true, true, true, true, true, true, true, true, true, true] rfl rfl (any_of HT_.out (by kernel_rfl)) (fun _ _ _ h => h) (Or.inl ⟨by rfl, ?_⟩) ?_ ?_
             rotate_left
             ·intro w'
              go_simp
              with_reducible rfl
             rotate_left
             ·simp only [Act.put, List.setIfInBounds_toArray, List.set_cons_zero, List.set_cons_succ, i64_w, i32_w]
              rfl
             refine done_ (done_of HT_.out (by kernel_rfl)) ?_
             have hcz63_0 : w62.cell? ⟨gb109, 0, none⟩ = some (.int .u8 a0_0) := (blk_cell BK109.out 0).trans rfl
             have hcz63_1 : w62.cell? ⟨gb109, 1, none⟩ = some (.int .u8 a0_1) := (blk_cell BK109.out 1).trans rfl
             have hcz63_2 : w62.cell? ⟨gb109, 2, none⟩ = some (.int .u8 a0_2) := (blk_cell BK109.out 2).trans rfl
             have hcz63_3 : w62.cell? ⟨gb109, 3, none⟩ = some (.int .u16 a0_3) := (blk_cell BK109.out 3).trans rfl
             have hcz63_4 : w62.cell? ⟨gb109, 4, none⟩ = some (.int .u32 a0_4) := (blk_cell BK109.out 4).trans rfl
             have hcz63_5 : w62.cell? ⟨gb109, 5, none⟩ = some (.int .u64 a0_5) := (blk_cell BK109.out 5).trans rfl
             have hcz63_6 : w62.cell? ⟨gb109, 6, none⟩ = some (.int .u32 a0_6) := (blk_cell BK109.out 6).trans rfl
             have hcz63_7 : w62.cell? ⟨gb109, 7, none⟩ = some (.bool false) := (blk_cell BK109.out 7).trans rfl
             have hcz63_8 : w62.cell? ⟨gb109, 8, none⟩ = some (.string a0_8) := (blk_cell BK109.out 8).trans rfl
             have hfz63_0 := blk_frozen BK109.out 0
             have hfz63_1 := blk_frozen BK109.out 1
             have hfz63_2 := blk_frozen BK109.out 2
             have hfz63_3 := blk_frozen BK109.out 3
             have hfz63_4 := blk_frozen BK109.out 4
             have hfz63_5 := blk_frozen BK109.out 5
             have hfz63_6 := blk_frozen BK109.out 6
             have hfz63_7 := blk_frozen BK109.out 7
             have hfz63_8 := blk_frozen BK109.out 8
             try go_wp2_with (first | ((with_reducible refine gate_callee (f := 38) rfl ?_); refine goesL_ (some 67) rfl rfl Try.func38 (by kernel_rfl) rfl #[.string ((((((((((⟨#[157, 227]⟩ : ByteArray) ++ t111) ++ t113) ++ (strOfNums y114)) ++ t117) ++ t118) ++ t119) ++ t120) ++ (⟨#[0]⟩ : ByteArray)) ++ a0_8)] rfl (by (try simp only [List.map_toArray, List.map_cons, List.map_nil]); first | done | rfl | (simp only [List.length_drop, List.length_take]; rfl)) ?_; (with_reducible refine (concordref01_Sum.calls ((((((((((⟨#[157, 227]⟩ : ByteArray) ++ t111) ++ t113) ++ (strOfNums y114)) ++ t117) ++ t118) ++ t119) ++ t120) ++ (⟨#[0]⟩ : ByteArray)) ++ a0_8) t123 _ A44.out).mono ?_); rintro e w' ⟨rfl, ⟨nd, rfl⟩⟩; refine ⟨_, rfl, ?_⟩) | ((with_reducible refine gate_callee (f := 37) rfl ?_); refine goesL_ (some 69) rfl rfl Try.func37 (by kernel_rfl) rfl #[.int .u64 (IntKind.u64.wrap (t123)), .int .i64 4] rfl (by (try simp only [List.map_toArray, List.map_cons, List.map_nil]); first | done | rfl | (simp only [List.length_drop, List.length_take]; rfl)) ?_; (with_reducible refine (concordref01_Fixed.calls k (IntKind.u64.wrap (t123)) 4 t124 _ A45.out).mono ?_); rintro e w64 ⟨rfl, hb⟩; refine ⟨_, rfl, ?_⟩; have n0_ := Aside0.mk (Kd.R_below (by (with_reducible repeat (first | apply Kd.R_alloc | apply Kd.R_drewN | apply Kd.R_drew)); exact HO116.out) hb); have n1_ := Aside0.mk (blk_below (g := gb109) (o := .cells #[.int .u8 a0_0, .int .u8 a0_1, .int .u8 a0_2, .int .u16 a0_3, .int .u32 a0_4, .int .u64 a0_5, .int .u32 a0_6, .bool false, .string a0_8] 28 (0, 0)) (by (with_reducible repeat (first | refine blk_drewN ?_ _ | refine blk_drew ?_ | refine blk_alloc ?_ _)); exact BK109.out) hb); have n2_ := Aside0.mk (below_step (by repeat (first | (with_reducible first | exact HB.out | apply below_alloc | apply pw_below_drewN | apply below_drew1 | refine below_set ?_ GE109.out) | exact HB.out)) hb); clear HO116; clear BK109; clear HB; have HO116 := n0_; have BK109 := n1_; have HB := n2_; clear n0_ n1_ n2_; (try clear hb); (try clear hb2); (try clear hk); (try clear hi)))
             go_ret2
             exact ⟨by first | rfl | (simp [errW_none, errW_some] <;> rfl) | (simp [*, errW_none, errW_some] <;> rfl), by repeat (first | (with_reducible first | exact HB.out | apply below_alloc | apply pw_below_drewN | apply below_drew1 | refine below_set ?_ GE109.out) | exact HB.out)⟩
            ·rw [if_neg c46] at H
             exact absurd H (by simp)
           ·rw [if_neg c43] at H
            exact absurd H (by simp)
          ·rw [if_neg c42] at H
           exact absurd H (by simp)
        ·rw [if_neg c17] at H
         exact absurd H (by simp)
       ·rw [if_neg c15] at H
        exact absurd H (by simp)
      ·rw [if_neg c13] at H
       exact absurd H (by simp)
     ·rw [if_neg c11] at H
      exact absurd H (by simp)
    ·rw [if_neg c9] at H
     exact absurd H (by simp)
   ·rw [if_neg c8] at H
    exact absurd H (by simp)
  ·rw [if_neg c5] at H
   exact absurd H (by simp)
 ·replace c3 := Bool.eq_false_iff.mpr c3
  subst c3
  have H1 : (some ((⟨#[]⟩ : ByteArray), 210)) = some (r1, r2) := by rw [if_neg (show ¬ (false = true) by decide)] at H; exact H
  clear H
  have H := H1
  clear H1
  simp only [Option.some.injEq, Prod.mk.injEq] at H
  obtain ⟨rfl, rfl⟩ := H
  go_enter Try.func12, Try.ntmps12
  go_wp2_with (first | ((with_reducible refine gate_dst (N := 1) rfl ?_); refine box_event ?hg (N := 1) ?hd (cs := #[.int .u8 a0_0, .int .u8 a0_1, .int .u8 a0_2, .int .u16 a0_3, .int .u32 a0_4, .int .u64 a0_5, .int .u32 a0_6, .bool a0_7, .string a0_8]) (t := 28) ?hr ?_; (case hd => rfl); (case hg => rfl); (case hr => first | (go_simp; done) | (go_simp; rfl)); intro gb109 hg w65 hbox hb; have n0_ := Aside0.mk (below_step (by repeat (first | (with_reducible first | exact HB.out | apply below_alloc | apply pw_below_drewN | apply below_drew1) | exact HB.out | exact Below.refl _ _)) hb); have n1_ := Aside0.mk (hbox); have n2_ := Aside0.mk ((by rw [hg]; exact (below_size (by repeat (first | (with_reducible first | exact HB.out | apply below_alloc | apply pw_below_drewN | apply below_drew1) | exact HB.out | exact Below.refl _ _))) : w.heap.size ≤ gb109)); have n3_ := Aside0.mk ((by rw [hg]; exact (below_size (by repeat (first | (with_reducible first | exact HB.out | apply below_alloc | apply pw_below_drewN | apply below_drew1) | exact HB.out | exact Below.refl _ _))) : w.heap.size ≤ gb109)); clear HB; have HB := n0_; have BK109 := n1_; have GW109 := n2_; have GE109 := n3_; clear n0_ n1_ n2_ n3_; clear hb hbox hg; have hcz66_0 : w65.cell? ⟨gb109, 0, none⟩ = some (.int .u8 a0_0) := (blk_cell BK109.out 0).trans rfl; have hcz66_1 : w65.cell? ⟨gb109, 1, none⟩ = some (.int .u8 a0_1) := (blk_cell BK109.out 1).trans rfl; have hcz66_2 : w65.cell? ⟨gb109, 2, none⟩ = some (.int .u8 a0_2) := (blk_cell BK109.out 2).trans rfl; have hcz66_3 : w65.cell? ⟨gb109, 3, none⟩ = some (.int .u16 a0_3) := (blk_cell BK109.out 3).trans rfl; have hcz66_4 : w65.cell? ⟨gb109, 4, none⟩ = some (.int .u32 a0_4) := (blk_cell BK109.out 4).trans rfl; have hcz66_5 : w65.cell? ⟨gb109, 5, none⟩ = some (.int .u64 a0_5) := (blk_cell BK109.out 5).trans rfl; have hcz66_6 : w65.cell? ⟨gb109, 6, none⟩ = some (.int .u32 a0_6) := (blk_cell BK109.out 6).trans rfl; have hcz66_7 : w65.cell? ⟨gb109, 7, none⟩ = some (.bool a0_7) := (blk_cell BK109.out 7).trans rfl; have hcz66_8 : w65.cell? ⟨gb109, 8, none⟩ = some (.string a0_8) := (blk_cell BK109.out 8).trans rfl; have hfz66_0 := blk_frozen BK109.out 0; have hfz66_1 := blk_frozen BK109.out 1; have hfz66_2 := blk_frozen BK109.out 2; have hfz66_3 := blk_frozen BK109.out 3; have hfz66_4 := blk_frozen BK109.out 4; have hfz66_5 := blk_frozen BK109.out 5; have hfz66_6 := blk_frozen BK109.out 6; have hfz66_7 := blk_frozen BK109.out 7; have hfz66_8 := blk_frozen BK109.out 8) | ((with_reducible refine gate_callee (f := 36) rfl ?_); refine goesL_ (some 7) rfl rfl Try.func36 (by kernel_rfl) rfl #[.agg #[.int .u8 a0_0, .int .u8 a0_1, .int .u8 a0_2, .int .u16 a0_3, .int .u32 a0_4, .int .u64 a0_5, .int .u32 a0_6, .bool a0_7, .string a0_8]] rfl (by (try simp only [List.map_toArray, List.map_cons, List.map_nil]); first | done | rfl | (simp only [List.length_drop, List.length_take]; rfl)) ?_; (with_reducible refine (concordref21_May.calls a0_0 a0_1 a0_2 a0_3 a0_4 a0_5 a0_6 a0_7 a0_8 false _ A2.out).mono ?_); rintro e w67 ⟨rfl, hb⟩; refine ⟨_, rfl, ?_⟩; have n0_ := Aside0.mk (blk_below (g := gb109) (o := .cells #[.int .u8 a0_0, .int .u8 a0_1, .int .u8 a0_2, .int .u16 a0_3, .int .u32 a0_4, .int .u64 a0_5, .int .u32 a0_6, .bool a0_7, .string a0_8] 28 (0, 0)) (by (with_reducible repeat (first | refine blk_drewN ?_ _ | refine blk_drew ?_ | refine blk_alloc ?_ _)); exact BK109.out) hb); have n1_ := Aside0.mk (below_step (by repeat (first | (with_reducible first | exact HB.out | apply below_alloc | apply pw_below_drewN | apply below_drew1 | refine below_set ?_ GE109.out) | exact HB.out)) hb); clear BK109; clear HB; have BK109 := n0_; have HB := n1_; clear n0_ n1_; (try clear hb); (try clear hb2); (try clear hk); (try clear hi)))
  go_ret2
  exact ⟨by first | rfl | (simp [errW_none, errW_some] <;> rfl) | (simp [*, errW_none, errW_some] <;> rfl), by repeat (first | (with_reducible first | exact HB.out | apply below_alloc | apply pw_below_drewN | apply below_drew1 | refine below_set ?_ GE109.out) | exact HB.out)⟩

end Go.Proofs.Ytgboppgghidgbaa.PG
