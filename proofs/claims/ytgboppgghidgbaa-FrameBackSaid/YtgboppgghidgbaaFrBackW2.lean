/- FrameBack: the walk. -/
import Derived.Test.YtgboppgghidgbaaFrTurnP
import Derived.Test.YtgboppgghidgbaaFrGlue3
import Derived.Test.YtgboppgghidgbaaFrDecEnc
import Derived.Test.YtgboppgghidgbaaPHx1
namespace Go.Proofs.Ytgboppgghidgbaa.My
open Go.RowKit Go.Proofs.YtgboppgghidgbaaW.PrintWords Go.Proofs.YtgboppgghidgbaaW.PrintLast Go.Proofs.YtgboppgghidgbaaW.PrintMore Go.Proofs.Ytgboppgghidgbaa
set_option linter.unusedSimpArgs false
set_option linter.unusedVariables false
set_option maxRecDepth 100000
set_option maxHeartbeats 800000
attribute [local go_sem high] PH.eqA28
theorem back_walk (w : World) (a0 b0 c0 d0 e0 t0 g0 : Int) (h : Bool) (s : ByteArray) (a0' b0' c0' d0' e0' t0' g0' : Int) (h' : Bool) (s' : ByteArray) (m : ByteArray) (a b c d e t g : Nat) (bd : ByteArray) (a' b' c' d' e' t' g' : Nat) (bd' z z' : ByteArray) (q : Bool)
    (hf : concordlaw21_fit.f a0 b0 c0 d0 e0 t0 g0 h s = some ((a : Int), (b : Int), (c : Int), (d : Int), (e : Int), (t : Int), (g : Int), h, bd)) (hf' : concordlaw21_fit.f a0' b0' c0' d0' e0' t0' g0' h' s' = some ((a' : Int), (b' : Int), (c' : Int), (d' : Int), (e' : Int), (t' : Int), (g' : Int), h', bd'))
    (hE : frame_Encode.f (a : Int) b c d e t g h bd = some (z, 0)) (hE' : frame_Encode.f (a' : Int) b' c' d' e' t' g' h' bd' = some (z', 0)) (hz : z.size = 34 + bd.size) (hbd : bd.size ≤ 8158)
    (hq1 : (z.toList == z'.toList) = q) (hq2 : ((a : Int) == a' && ((b : Int) == b' && (((c : Int) == c' && ((d : Int) == d' && ((e : Int) == e'))) && ((t : Int) == t' && ((g : Int) == g' && (h == h' && (bd.toList == bd'.toList))))))) = q)
    (hD : frame_Decode.f z = some ((a : Int), (b : Int), (c : Int), (d : Int), (e : Int), (t : Int), (g : Int), h, bd, 0)) (hD2 : 0 < m.size → frame_Decode.f (z ++ m) = some (0, 0, 0, 0, 0, 0, 0, false, ⟨#[]⟩, 210)) (hD3 : frame_Decode.f (z.extract 0 (z.size - 1)) = some (0, 0, 0, 0, 0, 0, 0, false, ⟨#[]⟩, 210)) (hm : m.size ≤ 140737488351232) :
    Calls Try.prog 5 #[.agg #[.int .u8 a0, .int .u8 b0, .int .u8 c0, .int .u16 d0, .int .u32 e0, .int .u64 t0, .int .u32 g0, .bool h, .string s], .agg #[.int .u8 a0', .int .u8 b0', .int .u8 c0', .int .u16 d0', .int .u32 e0', .int .u64 t0', .int .u32 g0', .bool h', .string s'], .string m] w fun r w' => r = .returned (.bool true) ∧ Below w.heap.size w w' := by
  have Ahf := Aside0.mk hf
  have Ahf' := Aside0.mk hf'
  have AhE := Aside0.mk hE
  have AhE' := Aside0.mk hE'
  have Ahz := Aside0.mk hz
  have Ahq1 := Aside0.mk hq1
  have Ahq2 := Aside0.mk hq2
  have AhD := Aside0.mk hD
  have AhD2 := Aside0.mk hD2
  have AhD3 := Aside0.mk hD3
  clear hf hf' hE hE' hz hq1 hq2 hD hD2 hD3
  go_enter Try.func5, Try.ntmps5
  go_wp2_with fail
  have e1 : (w.alloc (.cells #[.int .u8 a0, .int .u8 b0, .int .u8 c0, .int .u16 d0, .int .u32 e0, .int .u64 t0, .int .u32 g0, .bool h, .string s] 28)).heap.size = w.heap.size + 1 := by show (w.heap.push _).size = _; rw [Array.size_push]
  have hFw0 : ((w.alloc (.cells #[.int .u8 a0, .int .u8 b0, .int .u8 c0, .int .u16 d0, .int .u32 e0, .int .u64 t0, .int .u32 g0, .bool h, .string s] 28)).alloc (.cells #[.int .u8 a0', .int .u8 b0', .int .u8 c0', .int .u16 d0', .int .u32 e0', .int .u64 t0', .int .u32 g0', .bool h', .string s'] 28)).heap[w.heap.size]? = some (.cells #[.int .u8 a0, .int .u8 b0, .int .u8 c0, .int .u16 d0, .int .u32 e0, .int .u64 t0, .int .u32 g0, .bool h, .string s] 28 (0, 0)) := blk_alloc (W_push w _ _ _) _
  have hGw0 : ((w.alloc (.cells #[.int .u8 a0, .int .u8 b0, .int .u8 c0, .int .u16 d0, .int .u32 e0, .int .u64 t0, .int .u32 g0, .bool h, .string s] 28)).alloc (.cells #[.int .u8 a0', .int .u8 b0', .int .u8 c0', .int .u16 d0', .int .u32 e0', .int .u64 t0', .int .u32 g0', .bool h', .string s'] 28)).heap[w.heap.size + 1]? = some (.cells #[.int .u8 a0', .int .u8 b0', .int .u8 c0', .int .u16 d0', .int .u32 e0', .int .u64 t0', .int .u32 g0', .bool h', .string s'] 28 (0, 0)) := by rw [← e1]; exact W_push _ _ _ _
  have hBw0 : Below w.heap.size w ((w.alloc (.cells #[.int .u8 a0, .int .u8 b0, .int .u8 c0, .int .u16 d0, .int .u32 e0, .int .u64 t0, .int .u32 g0, .bool h, .string s] 28)).alloc (.cells #[.int .u8 a0', .int .u8 b0', .int .u8 c0', .int .u16 d0', .int .u32 e0', .int .u64 t0', .int .u32 g0', .bool h', .string s'] 28)) := ((Below.refl _ _).alloc (Nat.le_refl _) _).alloc (by rw [e1]; omega) _
  clear e1
  generalize (w.alloc (.cells #[.int .u8 a0, .int .u8 b0, .int .u8 c0, .int .u16 d0, .int .u32 e0, .int .u64 t0, .int .u32 g0, .bool h, .string s] 28)).alloc (.cells #[.int .u8 a0', .int .u8 b0', .int .u8 c0', .int .u16 d0', .int .u32 e0', .int .u64 t0', .int .u32 g0', .bool h', .string s'] 28) = w0 at hFw0 hGw0 hBw0 ⊢
  refine (concordlaw21_fit.calls _ _ _ _ _ _ _ _ _ _ _ _ _ _ _ _ _ _ _ Ahf.out).mono ?_
  rintro e_ w1 ⟨rfl, hbx⟩
  have hFw1 := (hbx.block _ (blk_lt hFw0)).trans hFw0
  have hGw1 := (hbx.block _ (blk_lt hGw0)).trans hGw0
  have hBw1 := below_then hBw0 (below_size hBw0) hbx
  clear hbx
  have fk0 : w1.cell? ⟨w.heap.size, 0, none⟩ = some (.int .u8 a0) := (blk_cell hFw1 0).trans rfl
  have fz0 : w1.frozen? ⟨w.heap.size, 0, none⟩ = false := blk_frozen hFw1 0
  have fk1 : w1.cell? ⟨w.heap.size, 1, none⟩ = some (.int .u8 b0) := (blk_cell hFw1 1).trans rfl
  have fz1 : w1.frozen? ⟨w.heap.size, 1, none⟩ = false := blk_frozen hFw1 1
  have fk2 : w1.cell? ⟨w.heap.size, 2, none⟩ = some (.int .u8 c0) := (blk_cell hFw1 2).trans rfl
  have fz2 : w1.frozen? ⟨w.heap.size, 2, none⟩ = false := blk_frozen hFw1 2
  have fk3 : w1.cell? ⟨w.heap.size, 3, none⟩ = some (.int .u16 d0) := (blk_cell hFw1 3).trans rfl
  have fz3 : w1.frozen? ⟨w.heap.size, 3, none⟩ = false := blk_frozen hFw1 3
  have fk4 : w1.cell? ⟨w.heap.size, 4, none⟩ = some (.int .u32 e0) := (blk_cell hFw1 4).trans rfl
  have fz4 : w1.frozen? ⟨w.heap.size, 4, none⟩ = false := blk_frozen hFw1 4
  have fk5 : w1.cell? ⟨w.heap.size, 5, none⟩ = some (.int .u64 t0) := (blk_cell hFw1 5).trans rfl
  have fz5 : w1.frozen? ⟨w.heap.size, 5, none⟩ = false := blk_frozen hFw1 5
  have fk6 : w1.cell? ⟨w.heap.size, 6, none⟩ = some (.int .u32 g0) := (blk_cell hFw1 6).trans rfl
  have fz6 : w1.frozen? ⟨w.heap.size, 6, none⟩ = false := blk_frozen hFw1 6
  have fk7 : w1.cell? ⟨w.heap.size, 7, none⟩ = some (.bool h) := (blk_cell hFw1 7).trans rfl
  have fz7 : w1.frozen? ⟨w.heap.size, 7, none⟩ = false := blk_frozen hFw1 7
  have fk8 : w1.cell? ⟨w.heap.size, 8, none⟩ = some (.string s) := (blk_cell hFw1 8).trans rfl
  have fz8 : w1.frozen? ⟨w.heap.size, 8, none⟩ = false := blk_frozen hFw1 8
  have gk0 : w1.cell? ⟨w.heap.size + 1, 0, none⟩ = some (.int .u8 a0') := (blk_cell hGw1 0).trans rfl
  have gz0 : w1.frozen? ⟨w.heap.size + 1, 0, none⟩ = false := blk_frozen hGw1 0
  have gk1 : w1.cell? ⟨w.heap.size + 1, 1, none⟩ = some (.int .u8 b0') := (blk_cell hGw1 1).trans rfl
  have gz1 : w1.frozen? ⟨w.heap.size + 1, 1, none⟩ = false := blk_frozen hGw1 1
  have gk2 : w1.cell? ⟨w.heap.size + 1, 2, none⟩ = some (.int .u8 c0') := (blk_cell hGw1 2).trans rfl
  have gz2 : w1.frozen? ⟨w.heap.size + 1, 2, none⟩ = false := blk_frozen hGw1 2
  have gk3 : w1.cell? ⟨w.heap.size + 1, 3, none⟩ = some (.int .u16 d0') := (blk_cell hGw1 3).trans rfl
  have gz3 : w1.frozen? ⟨w.heap.size + 1, 3, none⟩ = false := blk_frozen hGw1 3
  have gk4 : w1.cell? ⟨w.heap.size + 1, 4, none⟩ = some (.int .u32 e0') := (blk_cell hGw1 4).trans rfl
  have gz4 : w1.frozen? ⟨w.heap.size + 1, 4, none⟩ = false := blk_frozen hGw1 4
  have gk5 : w1.cell? ⟨w.heap.size + 1, 5, none⟩ = some (.int .u64 t0') := (blk_cell hGw1 5).trans rfl
  have gz5 : w1.frozen? ⟨w.heap.size + 1, 5, none⟩ = false := blk_frozen hGw1 5
  have gk6 : w1.cell? ⟨w.heap.size + 1, 6, none⟩ = some (.int .u32 g0') := (blk_cell hGw1 6).trans rfl
  have gz6 : w1.frozen? ⟨w.heap.size + 1, 6, none⟩ = false := blk_frozen hGw1 6
  have gk7 : w1.cell? ⟨w.heap.size + 1, 7, none⟩ = some (.bool h') := (blk_cell hGw1 7).trans rfl
  have gz7 : w1.frozen? ⟨w.heap.size + 1, 7, none⟩ = false := blk_frozen hGw1 7
  have gk8 : w1.cell? ⟨w.heap.size + 1, 8, none⟩ = some (.string s') := (blk_cell hGw1 8).trans rfl
  have gz8 : w1.frozen? ⟨w.heap.size + 1, 8, none⟩ = false := blk_frozen hGw1 8
  go_wp2_with fail
  clear fk0 fz0 fk1 fz1 fk2 fz2 fk3 fz3 fk4 fz4 fk5 fz5 fk6 fz6 fk7 fz7 fk8 fz8
  clear gk0 gz0 gk1 gz1 gk2 gz2 gk3 gz3 gk4 gz4 gk5 gz5 gk6 gz6 gk7 gz7 gk8 gz8
  have Fw2_0 : (w1.setCell ⟨w.heap.size, 0, none⟩ (.int .u8 (a : Int))).heap[w.heap.size]? = some (.cells #[.int .u8 (a : Int), .int .u8 b0, .int .u8 c0, .int .u16 d0, .int .u32 e0, .int .u64 t0, .int .u32 g0, .bool h, .string s] 28 (0, 0)) := blk_set hFw1 0 (.int .u8 (a : Int))
  have Bw2_0 : Below w.heap.size w (w1.setCell ⟨w.heap.size, 0, none⟩ (.int .u8 (a : Int))) := below_set (g := w.heap.size) (j := 0) (v := .int .u8 (a : Int)) hBw1 (Nat.le_refl _)
  have hGw2_0 : (w1.setCell ⟨w.heap.size, 0, none⟩ (.int .u8 (a : Int))).heap[w.heap.size + 1]? = some (.cells #[.int .u8 a0', .int .u8 b0', .int .u8 c0', .int .u16 d0', .int .u32 e0', .int .u64 t0', .int .u32 g0', .bool h', .string s'] 28 (0, 0)) := blk_far hGw1 (p := ⟨w.heap.size, 0, none⟩) (by show w.heap.size + 1 ≠ w.heap.size; omega) (.int .u8 (a : Int))
  generalize (w1.setCell ⟨w.heap.size, 0, none⟩ (.int .u8 (a : Int))) = Ww2_0 at Fw2_0 Bw2_0 hGw2_0 ⊢
  clear hFw1 hBw1 hGw1
  have Fw2_1 : (Ww2_0.setCell ⟨w.heap.size, 1, none⟩ (.int .u8 (b : Int))).heap[w.heap.size]? = some (.cells #[.int .u8 (a : Int), .int .u8 (b : Int), .int .u8 c0, .int .u16 d0, .int .u32 e0, .int .u64 t0, .int .u32 g0, .bool h, .string s] 28 (0, 0)) := blk_set Fw2_0 1 (.int .u8 (b : Int))
  have Bw2_1 : Below w.heap.size w (Ww2_0.setCell ⟨w.heap.size, 1, none⟩ (.int .u8 (b : Int))) := below_set (g := w.heap.size) (j := 1) (v := .int .u8 (b : Int)) Bw2_0 (Nat.le_refl _)
  have hGw2_1 : (Ww2_0.setCell ⟨w.heap.size, 1, none⟩ (.int .u8 (b : Int))).heap[w.heap.size + 1]? = some (.cells #[.int .u8 a0', .int .u8 b0', .int .u8 c0', .int .u16 d0', .int .u32 e0', .int .u64 t0', .int .u32 g0', .bool h', .string s'] 28 (0, 0)) := blk_far hGw2_0 (p := ⟨w.heap.size, 1, none⟩) (by show w.heap.size + 1 ≠ w.heap.size; omega) (.int .u8 (b : Int))
  generalize (Ww2_0.setCell ⟨w.heap.size, 1, none⟩ (.int .u8 (b : Int))) = Ww2_1 at Fw2_1 Bw2_1 hGw2_1 ⊢
  clear Fw2_0 Bw2_0 hGw2_0
  have Fw2_2 : (Ww2_1.setCell ⟨w.heap.size, 2, none⟩ (.int .u8 (c : Int))).heap[w.heap.size]? = some (.cells #[.int .u8 (a : Int), .int .u8 (b : Int), .int .u8 (c : Int), .int .u16 d0, .int .u32 e0, .int .u64 t0, .int .u32 g0, .bool h, .string s] 28 (0, 0)) := blk_set Fw2_1 2 (.int .u8 (c : Int))
  have Bw2_2 : Below w.heap.size w (Ww2_1.setCell ⟨w.heap.size, 2, none⟩ (.int .u8 (c : Int))) := below_set (g := w.heap.size) (j := 2) (v := .int .u8 (c : Int)) Bw2_1 (Nat.le_refl _)
  have hGw2_2 : (Ww2_1.setCell ⟨w.heap.size, 2, none⟩ (.int .u8 (c : Int))).heap[w.heap.size + 1]? = some (.cells #[.int .u8 a0', .int .u8 b0', .int .u8 c0', .int .u16 d0', .int .u32 e0', .int .u64 t0', .int .u32 g0', .bool h', .string s'] 28 (0, 0)) := blk_far hGw2_1 (p := ⟨w.heap.size, 2, none⟩) (by show w.heap.size + 1 ≠ w.heap.size; omega) (.int .u8 (c : Int))
  generalize (Ww2_1.setCell ⟨w.heap.size, 2, none⟩ (.int .u8 (c : Int))) = Ww2_2 at Fw2_2 Bw2_2 hGw2_2 ⊢
  clear Fw2_1 Bw2_1 hGw2_1
  have Fw2_3 : (Ww2_2.setCell ⟨w.heap.size, 3, none⟩ (.int .u16 (d : Int))).heap[w.heap.size]? = some (.cells #[.int .u8 (a : Int), .int .u8 (b : Int), .int .u8 (c : Int), .int .u16 (d : Int), .int .u32 e0, .int .u64 t0, .int .u32 g0, .bool h, .string s] 28 (0, 0)) := blk_set Fw2_2 3 (.int .u16 (d : Int))
  have Bw2_3 : Below w.heap.size w (Ww2_2.setCell ⟨w.heap.size, 3, none⟩ (.int .u16 (d : Int))) := below_set (g := w.heap.size) (j := 3) (v := .int .u16 (d : Int)) Bw2_2 (Nat.le_refl _)
  have hGw2_3 : (Ww2_2.setCell ⟨w.heap.size, 3, none⟩ (.int .u16 (d : Int))).heap[w.heap.size + 1]? = some (.cells #[.int .u8 a0', .int .u8 b0', .int .u8 c0', .int .u16 d0', .int .u32 e0', .int .u64 t0', .int .u32 g0', .bool h', .string s'] 28 (0, 0)) := blk_far hGw2_2 (p := ⟨w.heap.size, 3, none⟩) (by show w.heap.size + 1 ≠ w.heap.size; omega) (.int .u16 (d : Int))
  generalize (Ww2_2.setCell ⟨w.heap.size, 3, none⟩ (.int .u16 (d : Int))) = Ww2_3 at Fw2_3 Bw2_3 hGw2_3 ⊢
  clear Fw2_2 Bw2_2 hGw2_2
  have Fw2_4 : (Ww2_3.setCell ⟨w.heap.size, 4, none⟩ (.int .u32 (e : Int))).heap[w.heap.size]? = some (.cells #[.int .u8 (a : Int), .int .u8 (b : Int), .int .u8 (c : Int), .int .u16 (d : Int), .int .u32 (e : Int), .int .u64 t0, .int .u32 g0, .bool h, .string s] 28 (0, 0)) := blk_set Fw2_3 4 (.int .u32 (e : Int))
  have Bw2_4 : Below w.heap.size w (Ww2_3.setCell ⟨w.heap.size, 4, none⟩ (.int .u32 (e : Int))) := below_set (g := w.heap.size) (j := 4) (v := .int .u32 (e : Int)) Bw2_3 (Nat.le_refl _)
  have hGw2_4 : (Ww2_3.setCell ⟨w.heap.size, 4, none⟩ (.int .u32 (e : Int))).heap[w.heap.size + 1]? = some (.cells #[.int .u8 a0', .int .u8 b0', .int .u8 c0', .int .u16 d0', .int .u32 e0', .int .u64 t0', .int .u32 g0', .bool h', .string s'] 28 (0, 0)) := blk_far hGw2_3 (p := ⟨w.heap.size, 4, none⟩) (by show w.heap.size + 1 ≠ w.heap.size; omega) (.int .u32 (e : Int))
  generalize (Ww2_3.setCell ⟨w.heap.size, 4, none⟩ (.int .u32 (e : Int))) = Ww2_4 at Fw2_4 Bw2_4 hGw2_4 ⊢
  clear Fw2_3 Bw2_3 hGw2_3
  have Fw2_5 : (Ww2_4.setCell ⟨w.heap.size, 5, none⟩ (.int .u64 (t : Int))).heap[w.heap.size]? = some (.cells #[.int .u8 (a : Int), .int .u8 (b : Int), .int .u8 (c : Int), .int .u16 (d : Int), .int .u32 (e : Int), .int .u64 (t : Int), .int .u32 g0, .bool h, .string s] 28 (0, 0)) := blk_set Fw2_4 5 (.int .u64 (t : Int))
  have Bw2_5 : Below w.heap.size w (Ww2_4.setCell ⟨w.heap.size, 5, none⟩ (.int .u64 (t : Int))) := below_set (g := w.heap.size) (j := 5) (v := .int .u64 (t : Int)) Bw2_4 (Nat.le_refl _)
  have hGw2_5 : (Ww2_4.setCell ⟨w.heap.size, 5, none⟩ (.int .u64 (t : Int))).heap[w.heap.size + 1]? = some (.cells #[.int .u8 a0', .int .u8 b0', .int .u8 c0', .int .u16 d0', .int .u32 e0', .int .u64 t0', .int .u32 g0', .bool h', .string s'] 28 (0, 0)) := blk_far hGw2_4 (p := ⟨w.heap.size, 5, none⟩) (by show w.heap.size + 1 ≠ w.heap.size; omega) (.int .u64 (t : Int))
  generalize (Ww2_4.setCell ⟨w.heap.size, 5, none⟩ (.int .u64 (t : Int))) = Ww2_5 at Fw2_5 Bw2_5 hGw2_5 ⊢
  clear Fw2_4 Bw2_4 hGw2_4
  have Fw2_6 : (Ww2_5.setCell ⟨w.heap.size, 6, none⟩ (.int .u32 (g : Int))).heap[w.heap.size]? = some (.cells #[.int .u8 (a : Int), .int .u8 (b : Int), .int .u8 (c : Int), .int .u16 (d : Int), .int .u32 (e : Int), .int .u64 (t : Int), .int .u32 (g : Int), .bool h, .string s] 28 (0, 0)) := blk_set Fw2_5 6 (.int .u32 (g : Int))
  have Bw2_6 : Below w.heap.size w (Ww2_5.setCell ⟨w.heap.size, 6, none⟩ (.int .u32 (g : Int))) := below_set (g := w.heap.size) (j := 6) (v := .int .u32 (g : Int)) Bw2_5 (Nat.le_refl _)
  have hGw2_6 : (Ww2_5.setCell ⟨w.heap.size, 6, none⟩ (.int .u32 (g : Int))).heap[w.heap.size + 1]? = some (.cells #[.int .u8 a0', .int .u8 b0', .int .u8 c0', .int .u16 d0', .int .u32 e0', .int .u64 t0', .int .u32 g0', .bool h', .string s'] 28 (0, 0)) := blk_far hGw2_5 (p := ⟨w.heap.size, 6, none⟩) (by show w.heap.size + 1 ≠ w.heap.size; omega) (.int .u32 (g : Int))
  generalize (Ww2_5.setCell ⟨w.heap.size, 6, none⟩ (.int .u32 (g : Int))) = Ww2_6 at Fw2_6 Bw2_6 hGw2_6 ⊢
  clear Fw2_5 Bw2_5 hGw2_5
  have Fw2_7 : (Ww2_6.setCell ⟨w.heap.size, 7, none⟩ (.bool h)).heap[w.heap.size]? = some (.cells #[.int .u8 (a : Int), .int .u8 (b : Int), .int .u8 (c : Int), .int .u16 (d : Int), .int .u32 (e : Int), .int .u64 (t : Int), .int .u32 (g : Int), .bool h, .string s] 28 (0, 0)) := blk_set Fw2_6 7 (.bool h)
  have Bw2_7 : Below w.heap.size w (Ww2_6.setCell ⟨w.heap.size, 7, none⟩ (.bool h)) := below_set (g := w.heap.size) (j := 7) (v := .bool h) Bw2_6 (Nat.le_refl _)
  have hGw2_7 : (Ww2_6.setCell ⟨w.heap.size, 7, none⟩ (.bool h)).heap[w.heap.size + 1]? = some (.cells #[.int .u8 a0', .int .u8 b0', .int .u8 c0', .int .u16 d0', .int .u32 e0', .int .u64 t0', .int .u32 g0', .bool h', .string s'] 28 (0, 0)) := blk_far hGw2_6 (p := ⟨w.heap.size, 7, none⟩) (by show w.heap.size + 1 ≠ w.heap.size; omega) (.bool h)
  generalize (Ww2_6.setCell ⟨w.heap.size, 7, none⟩ (.bool h)) = Ww2_7 at Fw2_7 Bw2_7 hGw2_7 ⊢
  clear Fw2_6 Bw2_6 hGw2_6
  have Fw2_8 : (Ww2_7.setCell ⟨w.heap.size, 8, none⟩ (.string bd)).heap[w.heap.size]? = some (.cells #[.int .u8 (a : Int), .int .u8 (b : Int), .int .u8 (c : Int), .int .u16 (d : Int), .int .u32 (e : Int), .int .u64 (t : Int), .int .u32 (g : Int), .bool h, .string bd] 28 (0, 0)) := blk_set Fw2_7 8 (.string bd)
  have Bw2_8 : Below w.heap.size w (Ww2_7.setCell ⟨w.heap.size, 8, none⟩ (.string bd)) := below_set (g := w.heap.size) (j := 8) (v := .string bd) Bw2_7 (Nat.le_refl _)
  have hGw2_8 : (Ww2_7.setCell ⟨w.heap.size, 8, none⟩ (.string bd)).heap[w.heap.size + 1]? = some (.cells #[.int .u8 a0', .int .u8 b0', .int .u8 c0', .int .u16 d0', .int .u32 e0', .int .u64 t0', .int .u32 g0', .bool h', .string s'] 28 (0, 0)) := blk_far hGw2_7 (p := ⟨w.heap.size, 8, none⟩) (by show w.heap.size + 1 ≠ w.heap.size; omega) (.string bd)
  generalize (Ww2_7.setCell ⟨w.heap.size, 8, none⟩ (.string bd)) = Ww2_8 at Fw2_8 Bw2_8 hGw2_8 ⊢
  clear Fw2_7 Bw2_7 hGw2_7
  have hFw2 := Fw2_8
  have hBw2 := Bw2_8
  have hGw2 := hGw2_8
  clear Fw2_8 Bw2_8 hGw2_8
  obtain ⟨w2, h_w2⟩ : ∃ z_, z_ = Ww2_8 := ⟨_, rfl⟩
  rw [← h_w2] at hFw2 hBw2 hGw2 ⊢
  clear h_w2
  refine (concordlaw21_fit.calls _ _ _ _ _ _ _ _ _ _ _ _ _ _ _ _ _ _ _ Ahf'.out).mono ?_
  rintro e_ w3 ⟨rfl, hbx⟩
  have hFw3 := (hbx.block _ (blk_lt hFw2)).trans hFw2
  have hGw3 := (hbx.block _ (blk_lt hGw2)).trans hGw2
  have hBw3 := below_then hBw2 (below_size hBw2) hbx
  clear hbx
  have fk0 : w3.cell? ⟨w.heap.size, 0, none⟩ = some (.int .u8 (a : Int)) := (blk_cell hFw3 0).trans rfl
  have fz0 : w3.frozen? ⟨w.heap.size, 0, none⟩ = false := blk_frozen hFw3 0
  have fk1 : w3.cell? ⟨w.heap.size, 1, none⟩ = some (.int .u8 (b : Int)) := (blk_cell hFw3 1).trans rfl
  have fz1 : w3.frozen? ⟨w.heap.size, 1, none⟩ = false := blk_frozen hFw3 1
  have fk2 : w3.cell? ⟨w.heap.size, 2, none⟩ = some (.int .u8 (c : Int)) := (blk_cell hFw3 2).trans rfl
  have fz2 : w3.frozen? ⟨w.heap.size, 2, none⟩ = false := blk_frozen hFw3 2
  have fk3 : w3.cell? ⟨w.heap.size, 3, none⟩ = some (.int .u16 (d : Int)) := (blk_cell hFw3 3).trans rfl
  have fz3 : w3.frozen? ⟨w.heap.size, 3, none⟩ = false := blk_frozen hFw3 3
  have fk4 : w3.cell? ⟨w.heap.size, 4, none⟩ = some (.int .u32 (e : Int)) := (blk_cell hFw3 4).trans rfl
  have fz4 : w3.frozen? ⟨w.heap.size, 4, none⟩ = false := blk_frozen hFw3 4
  have fk5 : w3.cell? ⟨w.heap.size, 5, none⟩ = some (.int .u64 (t : Int)) := (blk_cell hFw3 5).trans rfl
  have fz5 : w3.frozen? ⟨w.heap.size, 5, none⟩ = false := blk_frozen hFw3 5
  have fk6 : w3.cell? ⟨w.heap.size, 6, none⟩ = some (.int .u32 (g : Int)) := (blk_cell hFw3 6).trans rfl
  have fz6 : w3.frozen? ⟨w.heap.size, 6, none⟩ = false := blk_frozen hFw3 6
  have fk7 : w3.cell? ⟨w.heap.size, 7, none⟩ = some (.bool h) := (blk_cell hFw3 7).trans rfl
  have fz7 : w3.frozen? ⟨w.heap.size, 7, none⟩ = false := blk_frozen hFw3 7
  have fk8 : w3.cell? ⟨w.heap.size, 8, none⟩ = some (.string bd) := (blk_cell hFw3 8).trans rfl
  have fz8 : w3.frozen? ⟨w.heap.size, 8, none⟩ = false := blk_frozen hFw3 8
  have gk0 : w3.cell? ⟨w.heap.size + 1, 0, none⟩ = some (.int .u8 a0') := (blk_cell hGw3 0).trans rfl
  have gz0 : w3.frozen? ⟨w.heap.size + 1, 0, none⟩ = false := blk_frozen hGw3 0
  have gk1 : w3.cell? ⟨w.heap.size + 1, 1, none⟩ = some (.int .u8 b0') := (blk_cell hGw3 1).trans rfl
  have gz1 : w3.frozen? ⟨w.heap.size + 1, 1, none⟩ = false := blk_frozen hGw3 1
  have gk2 : w3.cell? ⟨w.heap.size + 1, 2, none⟩ = some (.int .u8 c0') := (blk_cell hGw3 2).trans rfl
  have gz2 : w3.frozen? ⟨w.heap.size + 1, 2, none⟩ = false := blk_frozen hGw3 2
  have gk3 : w3.cell? ⟨w.heap.size + 1, 3, none⟩ = some (.int .u16 d0') := (blk_cell hGw3 3).trans rfl
  have gz3 : w3.frozen? ⟨w.heap.size + 1, 3, none⟩ = false := blk_frozen hGw3 3
  have gk4 : w3.cell? ⟨w.heap.size + 1, 4, none⟩ = some (.int .u32 e0') := (blk_cell hGw3 4).trans rfl
  have gz4 : w3.frozen? ⟨w.heap.size + 1, 4, none⟩ = false := blk_frozen hGw3 4
  have gk5 : w3.cell? ⟨w.heap.size + 1, 5, none⟩ = some (.int .u64 t0') := (blk_cell hGw3 5).trans rfl
  have gz5 : w3.frozen? ⟨w.heap.size + 1, 5, none⟩ = false := blk_frozen hGw3 5
  have gk6 : w3.cell? ⟨w.heap.size + 1, 6, none⟩ = some (.int .u32 g0') := (blk_cell hGw3 6).trans rfl
  have gz6 : w3.frozen? ⟨w.heap.size + 1, 6, none⟩ = false := blk_frozen hGw3 6
  have gk7 : w3.cell? ⟨w.heap.size + 1, 7, none⟩ = some (.bool h') := (blk_cell hGw3 7).trans rfl
  have gz7 : w3.frozen? ⟨w.heap.size + 1, 7, none⟩ = false := blk_frozen hGw3 7
  have gk8 : w3.cell? ⟨w.heap.size + 1, 8, none⟩ = some (.string s') := (blk_cell hGw3 8).trans rfl
  have gz8 : w3.frozen? ⟨w.heap.size + 1, 8, none⟩ = false := blk_frozen hGw3 8
  go_wp2_with fail
  clear fk0 fz0 fk1 fz1 fk2 fz2 fk3 fz3 fk4 fz4 fk5 fz5 fk6 fz6 fk7 fz7 fk8 fz8
  clear gk0 gz0 gk1 gz1 gk2 gz2 gk3 gz3 gk4 gz4 gk5 gz5 gk6 gz6 gk7 gz7 gk8 gz8
  have Fw4_0 : (w3.setCell ⟨w.heap.size + 1, 0, none⟩ (.int .u8 (a' : Int))).heap[w.heap.size + 1]? = some (.cells #[.int .u8 (a' : Int), .int .u8 b0', .int .u8 c0', .int .u16 d0', .int .u32 e0', .int .u64 t0', .int .u32 g0', .bool h', .string s'] 28 (0, 0)) := blk_set hGw3 0 (.int .u8 (a' : Int))
  have Bw4_0 : Below w.heap.size w (w3.setCell ⟨w.heap.size + 1, 0, none⟩ (.int .u8 (a' : Int))) := below_set (g := w.heap.size + 1) (j := 0) (v := .int .u8 (a' : Int)) hBw3 (Nat.le_succ _)
  have hFw4_0 : (w3.setCell ⟨w.heap.size + 1, 0, none⟩ (.int .u8 (a' : Int))).heap[w.heap.size]? = some (.cells #[.int .u8 (a : Int), .int .u8 (b : Int), .int .u8 (c : Int), .int .u16 (d : Int), .int .u32 (e : Int), .int .u64 (t : Int), .int .u32 (g : Int), .bool h, .string bd] 28 (0, 0)) := blk_far hFw3 (p := ⟨w.heap.size + 1, 0, none⟩) (by show w.heap.size ≠ w.heap.size + 1; omega) (.int .u8 (a' : Int))
  generalize (w3.setCell ⟨w.heap.size + 1, 0, none⟩ (.int .u8 (a' : Int))) = Ww4_0 at Fw4_0 Bw4_0 hFw4_0 ⊢
  clear hGw3 hBw3 hFw3
  have Fw4_1 : (Ww4_0.setCell ⟨w.heap.size + 1, 1, none⟩ (.int .u8 (b' : Int))).heap[w.heap.size + 1]? = some (.cells #[.int .u8 (a' : Int), .int .u8 (b' : Int), .int .u8 c0', .int .u16 d0', .int .u32 e0', .int .u64 t0', .int .u32 g0', .bool h', .string s'] 28 (0, 0)) := blk_set Fw4_0 1 (.int .u8 (b' : Int))
  have Bw4_1 : Below w.heap.size w (Ww4_0.setCell ⟨w.heap.size + 1, 1, none⟩ (.int .u8 (b' : Int))) := below_set (g := w.heap.size + 1) (j := 1) (v := .int .u8 (b' : Int)) Bw4_0 (Nat.le_succ _)
  have hFw4_1 : (Ww4_0.setCell ⟨w.heap.size + 1, 1, none⟩ (.int .u8 (b' : Int))).heap[w.heap.size]? = some (.cells #[.int .u8 (a : Int), .int .u8 (b : Int), .int .u8 (c : Int), .int .u16 (d : Int), .int .u32 (e : Int), .int .u64 (t : Int), .int .u32 (g : Int), .bool h, .string bd] 28 (0, 0)) := blk_far hFw4_0 (p := ⟨w.heap.size + 1, 1, none⟩) (by show w.heap.size ≠ w.heap.size + 1; omega) (.int .u8 (b' : Int))
  generalize (Ww4_0.setCell ⟨w.heap.size + 1, 1, none⟩ (.int .u8 (b' : Int))) = Ww4_1 at Fw4_1 Bw4_1 hFw4_1 ⊢
  clear Fw4_0 Bw4_0 hFw4_0
  have Fw4_2 : (Ww4_1.setCell ⟨w.heap.size + 1, 2, none⟩ (.int .u8 (c' : Int))).heap[w.heap.size + 1]? = some (.cells #[.int .u8 (a' : Int), .int .u8 (b' : Int), .int .u8 (c' : Int), .int .u16 d0', .int .u32 e0', .int .u64 t0', .int .u32 g0', .bool h', .string s'] 28 (0, 0)) := blk_set Fw4_1 2 (.int .u8 (c' : Int))
  have Bw4_2 : Below w.heap.size w (Ww4_1.setCell ⟨w.heap.size + 1, 2, none⟩ (.int .u8 (c' : Int))) := below_set (g := w.heap.size + 1) (j := 2) (v := .int .u8 (c' : Int)) Bw4_1 (Nat.le_succ _)
  have hFw4_2 : (Ww4_1.setCell ⟨w.heap.size + 1, 2, none⟩ (.int .u8 (c' : Int))).heap[w.heap.size]? = some (.cells #[.int .u8 (a : Int), .int .u8 (b : Int), .int .u8 (c : Int), .int .u16 (d : Int), .int .u32 (e : Int), .int .u64 (t : Int), .int .u32 (g : Int), .bool h, .string bd] 28 (0, 0)) := blk_far hFw4_1 (p := ⟨w.heap.size + 1, 2, none⟩) (by show w.heap.size ≠ w.heap.size + 1; omega) (.int .u8 (c' : Int))
  generalize (Ww4_1.setCell ⟨w.heap.size + 1, 2, none⟩ (.int .u8 (c' : Int))) = Ww4_2 at Fw4_2 Bw4_2 hFw4_2 ⊢
  clear Fw4_1 Bw4_1 hFw4_1
  have Fw4_3 : (Ww4_2.setCell ⟨w.heap.size + 1, 3, none⟩ (.int .u16 (d' : Int))).heap[w.heap.size + 1]? = some (.cells #[.int .u8 (a' : Int), .int .u8 (b' : Int), .int .u8 (c' : Int), .int .u16 (d' : Int), .int .u32 e0', .int .u64 t0', .int .u32 g0', .bool h', .string s'] 28 (0, 0)) := blk_set Fw4_2 3 (.int .u16 (d' : Int))
  have Bw4_3 : Below w.heap.size w (Ww4_2.setCell ⟨w.heap.size + 1, 3, none⟩ (.int .u16 (d' : Int))) := below_set (g := w.heap.size + 1) (j := 3) (v := .int .u16 (d' : Int)) Bw4_2 (Nat.le_succ _)
  have hFw4_3 : (Ww4_2.setCell ⟨w.heap.size + 1, 3, none⟩ (.int .u16 (d' : Int))).heap[w.heap.size]? = some (.cells #[.int .u8 (a : Int), .int .u8 (b : Int), .int .u8 (c : Int), .int .u16 (d : Int), .int .u32 (e : Int), .int .u64 (t : Int), .int .u32 (g : Int), .bool h, .string bd] 28 (0, 0)) := blk_far hFw4_2 (p := ⟨w.heap.size + 1, 3, none⟩) (by show w.heap.size ≠ w.heap.size + 1; omega) (.int .u16 (d' : Int))
  generalize (Ww4_2.setCell ⟨w.heap.size + 1, 3, none⟩ (.int .u16 (d' : Int))) = Ww4_3 at Fw4_3 Bw4_3 hFw4_3 ⊢
  clear Fw4_2 Bw4_2 hFw4_2
  have Fw4_4 : (Ww4_3.setCell ⟨w.heap.size + 1, 4, none⟩ (.int .u32 (e' : Int))).heap[w.heap.size + 1]? = some (.cells #[.int .u8 (a' : Int), .int .u8 (b' : Int), .int .u8 (c' : Int), .int .u16 (d' : Int), .int .u32 (e' : Int), .int .u64 t0', .int .u32 g0', .bool h', .string s'] 28 (0, 0)) := blk_set Fw4_3 4 (.int .u32 (e' : Int))
  have Bw4_4 : Below w.heap.size w (Ww4_3.setCell ⟨w.heap.size + 1, 4, none⟩ (.int .u32 (e' : Int))) := below_set (g := w.heap.size + 1) (j := 4) (v := .int .u32 (e' : Int)) Bw4_3 (Nat.le_succ _)
  have hFw4_4 : (Ww4_3.setCell ⟨w.heap.size + 1, 4, none⟩ (.int .u32 (e' : Int))).heap[w.heap.size]? = some (.cells #[.int .u8 (a : Int), .int .u8 (b : Int), .int .u8 (c : Int), .int .u16 (d : Int), .int .u32 (e : Int), .int .u64 (t : Int), .int .u32 (g : Int), .bool h, .string bd] 28 (0, 0)) := blk_far hFw4_3 (p := ⟨w.heap.size + 1, 4, none⟩) (by show w.heap.size ≠ w.heap.size + 1; omega) (.int .u32 (e' : Int))
  generalize (Ww4_3.setCell ⟨w.heap.size + 1, 4, none⟩ (.int .u32 (e' : Int))) = Ww4_4 at Fw4_4 Bw4_4 hFw4_4 ⊢
  clear Fw4_3 Bw4_3 hFw4_3
  have Fw4_5 : (Ww4_4.setCell ⟨w.heap.size + 1, 5, none⟩ (.int .u64 (t' : Int))).heap[w.heap.size + 1]? = some (.cells #[.int .u8 (a' : Int), .int .u8 (b' : Int), .int .u8 (c' : Int), .int .u16 (d' : Int), .int .u32 (e' : Int), .int .u64 (t' : Int), .int .u32 g0', .bool h', .string s'] 28 (0, 0)) := blk_set Fw4_4 5 (.int .u64 (t' : Int))
  have Bw4_5 : Below w.heap.size w (Ww4_4.setCell ⟨w.heap.size + 1, 5, none⟩ (.int .u64 (t' : Int))) := below_set (g := w.heap.size + 1) (j := 5) (v := .int .u64 (t' : Int)) Bw4_4 (Nat.le_succ _)
  have hFw4_5 : (Ww4_4.setCell ⟨w.heap.size + 1, 5, none⟩ (.int .u64 (t' : Int))).heap[w.heap.size]? = some (.cells #[.int .u8 (a : Int), .int .u8 (b : Int), .int .u8 (c : Int), .int .u16 (d : Int), .int .u32 (e : Int), .int .u64 (t : Int), .int .u32 (g : Int), .bool h, .string bd] 28 (0, 0)) := blk_far hFw4_4 (p := ⟨w.heap.size + 1, 5, none⟩) (by show w.heap.size ≠ w.heap.size + 1; omega) (.int .u64 (t' : Int))
  generalize (Ww4_4.setCell ⟨w.heap.size + 1, 5, none⟩ (.int .u64 (t' : Int))) = Ww4_5 at Fw4_5 Bw4_5 hFw4_5 ⊢
  clear Fw4_4 Bw4_4 hFw4_4
  have Fw4_6 : (Ww4_5.setCell ⟨w.heap.size + 1, 6, none⟩ (.int .u32 (g' : Int))).heap[w.heap.size + 1]? = some (.cells #[.int .u8 (a' : Int), .int .u8 (b' : Int), .int .u8 (c' : Int), .int .u16 (d' : Int), .int .u32 (e' : Int), .int .u64 (t' : Int), .int .u32 (g' : Int), .bool h', .string s'] 28 (0, 0)) := blk_set Fw4_5 6 (.int .u32 (g' : Int))
  have Bw4_6 : Below w.heap.size w (Ww4_5.setCell ⟨w.heap.size + 1, 6, none⟩ (.int .u32 (g' : Int))) := below_set (g := w.heap.size + 1) (j := 6) (v := .int .u32 (g' : Int)) Bw4_5 (Nat.le_succ _)
  have hFw4_6 : (Ww4_5.setCell ⟨w.heap.size + 1, 6, none⟩ (.int .u32 (g' : Int))).heap[w.heap.size]? = some (.cells #[.int .u8 (a : Int), .int .u8 (b : Int), .int .u8 (c : Int), .int .u16 (d : Int), .int .u32 (e : Int), .int .u64 (t : Int), .int .u32 (g : Int), .bool h, .string bd] 28 (0, 0)) := blk_far hFw4_5 (p := ⟨w.heap.size + 1, 6, none⟩) (by show w.heap.size ≠ w.heap.size + 1; omega) (.int .u32 (g' : Int))
  generalize (Ww4_5.setCell ⟨w.heap.size + 1, 6, none⟩ (.int .u32 (g' : Int))) = Ww4_6 at Fw4_6 Bw4_6 hFw4_6 ⊢
  clear Fw4_5 Bw4_5 hFw4_5
  have Fw4_7 : (Ww4_6.setCell ⟨w.heap.size + 1, 7, none⟩ (.bool h')).heap[w.heap.size + 1]? = some (.cells #[.int .u8 (a' : Int), .int .u8 (b' : Int), .int .u8 (c' : Int), .int .u16 (d' : Int), .int .u32 (e' : Int), .int .u64 (t' : Int), .int .u32 (g' : Int), .bool h', .string s'] 28 (0, 0)) := blk_set Fw4_6 7 (.bool h')
  have Bw4_7 : Below w.heap.size w (Ww4_6.setCell ⟨w.heap.size + 1, 7, none⟩ (.bool h')) := below_set (g := w.heap.size + 1) (j := 7) (v := .bool h') Bw4_6 (Nat.le_succ _)
  have hFw4_7 : (Ww4_6.setCell ⟨w.heap.size + 1, 7, none⟩ (.bool h')).heap[w.heap.size]? = some (.cells #[.int .u8 (a : Int), .int .u8 (b : Int), .int .u8 (c : Int), .int .u16 (d : Int), .int .u32 (e : Int), .int .u64 (t : Int), .int .u32 (g : Int), .bool h, .string bd] 28 (0, 0)) := blk_far hFw4_6 (p := ⟨w.heap.size + 1, 7, none⟩) (by show w.heap.size ≠ w.heap.size + 1; omega) (.bool h')
  generalize (Ww4_6.setCell ⟨w.heap.size + 1, 7, none⟩ (.bool h')) = Ww4_7 at Fw4_7 Bw4_7 hFw4_7 ⊢
  clear Fw4_6 Bw4_6 hFw4_6
  have Fw4_8 : (Ww4_7.setCell ⟨w.heap.size + 1, 8, none⟩ (.string bd')).heap[w.heap.size + 1]? = some (.cells #[.int .u8 (a' : Int), .int .u8 (b' : Int), .int .u8 (c' : Int), .int .u16 (d' : Int), .int .u32 (e' : Int), .int .u64 (t' : Int), .int .u32 (g' : Int), .bool h', .string bd'] 28 (0, 0)) := blk_set Fw4_7 8 (.string bd')
  have Bw4_8 : Below w.heap.size w (Ww4_7.setCell ⟨w.heap.size + 1, 8, none⟩ (.string bd')) := below_set (g := w.heap.size + 1) (j := 8) (v := .string bd') Bw4_7 (Nat.le_succ _)
  have hFw4_8 : (Ww4_7.setCell ⟨w.heap.size + 1, 8, none⟩ (.string bd')).heap[w.heap.size]? = some (.cells #[.int .u8 (a : Int), .int .u8 (b : Int), .int .u8 (c : Int), .int .u16 (d : Int), .int .u32 (e : Int), .int .u64 (t : Int), .int .u32 (g : Int), .bool h, .string bd] 28 (0, 0)) := blk_far hFw4_7 (p := ⟨w.heap.size + 1, 8, none⟩) (by show w.heap.size ≠ w.heap.size + 1; omega) (.string bd')
  generalize (Ww4_7.setCell ⟨w.heap.size + 1, 8, none⟩ (.string bd')) = Ww4_8 at Fw4_8 Bw4_8 hFw4_8 ⊢
  clear Fw4_7 Bw4_7 hFw4_7
  have hGw4 := Fw4_8
  have hBw4 := Bw4_8
  have hFw4 := hFw4_8
  clear Fw4_8 Bw4_8 hFw4_8
  obtain ⟨w4, h_w4⟩ : ∃ z_, z_ = Ww4_8 := ⟨_, rfl⟩
  rw [← h_w4] at hGw4 hBw4 hFw4 ⊢
  clear h_w4
  refine (frame_Encode.calls _ _ _ _ _ _ _ _ _ _ _ _ AhE.out).mono ?_
  rintro e_ w5 ⟨rfl, hbx⟩
  have hFw5 := (hbx.block _ (blk_lt hFw4)).trans hFw4
  have hGw5 := (hbx.block _ (blk_lt hGw4)).trans hGw4
  have hBw5 := below_then hBw4 (below_size hBw4) hbx
  clear hbx
  have fk0 : w5.cell? ⟨w.heap.size, 0, none⟩ = some (.int .u8 (a : Int)) := (blk_cell hFw5 0).trans rfl
  have fk1 : w5.cell? ⟨w.heap.size, 1, none⟩ = some (.int .u8 (b : Int)) := (blk_cell hFw5 1).trans rfl
  have fk2 : w5.cell? ⟨w.heap.size, 2, none⟩ = some (.int .u8 (c : Int)) := (blk_cell hFw5 2).trans rfl
  have fk3 : w5.cell? ⟨w.heap.size, 3, none⟩ = some (.int .u16 (d : Int)) := (blk_cell hFw5 3).trans rfl
  have fk4 : w5.cell? ⟨w.heap.size, 4, none⟩ = some (.int .u32 (e : Int)) := (blk_cell hFw5 4).trans rfl
  have fk5 : w5.cell? ⟨w.heap.size, 5, none⟩ = some (.int .u64 (t : Int)) := (blk_cell hFw5 5).trans rfl
  have fk6 : w5.cell? ⟨w.heap.size, 6, none⟩ = some (.int .u32 (g : Int)) := (blk_cell hFw5 6).trans rfl
  have fk7 : w5.cell? ⟨w.heap.size, 7, none⟩ = some (.bool h) := (blk_cell hFw5 7).trans rfl
  have fk8 : w5.cell? ⟨w.heap.size, 8, none⟩ = some (.string bd) := (blk_cell hFw5 8).trans rfl
  have gk0 : w5.cell? ⟨w.heap.size + 1, 0, none⟩ = some (.int .u8 (a' : Int)) := (blk_cell hGw5 0).trans rfl
  have gk1 : w5.cell? ⟨w.heap.size + 1, 1, none⟩ = some (.int .u8 (b' : Int)) := (blk_cell hGw5 1).trans rfl
  have gk2 : w5.cell? ⟨w.heap.size + 1, 2, none⟩ = some (.int .u8 (c' : Int)) := (blk_cell hGw5 2).trans rfl
  have gk3 : w5.cell? ⟨w.heap.size + 1, 3, none⟩ = some (.int .u16 (d' : Int)) := (blk_cell hGw5 3).trans rfl
  have gk4 : w5.cell? ⟨w.heap.size + 1, 4, none⟩ = some (.int .u32 (e' : Int)) := (blk_cell hGw5 4).trans rfl
  have gk5 : w5.cell? ⟨w.heap.size + 1, 5, none⟩ = some (.int .u64 (t' : Int)) := (blk_cell hGw5 5).trans rfl
  have gk6 : w5.cell? ⟨w.heap.size + 1, 6, none⟩ = some (.int .u32 (g' : Int)) := (blk_cell hGw5 6).trans rfl
  have gk7 : w5.cell? ⟨w.heap.size + 1, 7, none⟩ = some (.bool h') := (blk_cell hGw5 7).trans rfl
  have gk8 : w5.cell? ⟨w.heap.size + 1, 8, none⟩ = some (.string bd') := (blk_cell hGw5 8).trans rfl
  go_wp2_with fail
  clear fk0 fk1 fk2 fk3 fk4 fk5 fk6 fk7 fk8
  clear gk0 gk1 gk2 gk3 gk4 gk5 gk6 gk7 gk8
  refine (frame_Encode.calls _ _ _ _ _ _ _ _ _ _ _ _ AhE'.out).mono ?_
  rintro e_ w6 ⟨rfl, hbx⟩
  have hFw6 := (hbx.block _ (blk_lt hFw5)).trans hFw5
  have hGw6 := (hbx.block _ (blk_lt hGw5)).trans hGw5
  have hBw6 := below_then hBw5 (below_size hBw5) hbx
  clear hbx
  have fk0 : w6.cell? ⟨w.heap.size, 0, none⟩ = some (.int .u8 (a : Int)) := (blk_cell hFw6 0).trans rfl
  have fk1 : w6.cell? ⟨w.heap.size, 1, none⟩ = some (.int .u8 (b : Int)) := (blk_cell hFw6 1).trans rfl
  have fk2 : w6.cell? ⟨w.heap.size, 2, none⟩ = some (.int .u8 (c : Int)) := (blk_cell hFw6 2).trans rfl
  have fk3 : w6.cell? ⟨w.heap.size, 3, none⟩ = some (.int .u16 (d : Int)) := (blk_cell hFw6 3).trans rfl
  have fk4 : w6.cell? ⟨w.heap.size, 4, none⟩ = some (.int .u32 (e : Int)) := (blk_cell hFw6 4).trans rfl
  have fk5 : w6.cell? ⟨w.heap.size, 5, none⟩ = some (.int .u64 (t : Int)) := (blk_cell hFw6 5).trans rfl
  have fk6 : w6.cell? ⟨w.heap.size, 6, none⟩ = some (.int .u32 (g : Int)) := (blk_cell hFw6 6).trans rfl
  have fk7 : w6.cell? ⟨w.heap.size, 7, none⟩ = some (.bool h) := (blk_cell hFw6 7).trans rfl
  have fk8 : w6.cell? ⟨w.heap.size, 8, none⟩ = some (.string bd) := (blk_cell hFw6 8).trans rfl
  have gk0 : w6.cell? ⟨w.heap.size + 1, 0, none⟩ = some (.int .u8 (a' : Int)) := (blk_cell hGw6 0).trans rfl
  have gk1 : w6.cell? ⟨w.heap.size + 1, 1, none⟩ = some (.int .u8 (b' : Int)) := (blk_cell hGw6 1).trans rfl
  have gk2 : w6.cell? ⟨w.heap.size + 1, 2, none⟩ = some (.int .u8 (c' : Int)) := (blk_cell hGw6 2).trans rfl
  have gk3 : w6.cell? ⟨w.heap.size + 1, 3, none⟩ = some (.int .u16 (d' : Int)) := (blk_cell hGw6 3).trans rfl
  have gk4 : w6.cell? ⟨w.heap.size + 1, 4, none⟩ = some (.int .u32 (e' : Int)) := (blk_cell hGw6 4).trans rfl
  have gk5 : w6.cell? ⟨w.heap.size + 1, 5, none⟩ = some (.int .u64 (t' : Int)) := (blk_cell hGw6 5).trans rfl
  have gk6 : w6.cell? ⟨w.heap.size + 1, 6, none⟩ = some (.int .u32 (g' : Int)) := (blk_cell hGw6 6).trans rfl
  have gk7 : w6.cell? ⟨w.heap.size + 1, 7, none⟩ = some (.bool h') := (blk_cell hGw6 7).trans rfl
  have gk8 : w6.cell? ⟨w.heap.size + 1, 8, none⟩ = some (.string bd') := (blk_cell hGw6 8).trans rfl
  have hz := Ahz.out
  have hq1 := Ahq1.out
  have hq2 := Ahq2.out
  go_wp2_with fail
  clear fk0 fk1 fk2 fk3 fk4 fk5 fk6 fk7 fk8
  clear gk0 gk1 gk2 gk3 gk4 gk5 gk6 gk7 gk8
  clear hz hq1 hq2
  refine (frame_Decode.calls _ _ _ _ _ _ _ _ _ _ _ _ AhD.out).mono ?_
  rintro e_ w7 ⟨rfl, hbx⟩
  have hFw7 := (hbx.block _ (blk_lt hFw6)).trans hFw6
  have hGw7 := (hbx.block _ (blk_lt hGw6)).trans hGw6
  have hBw7 := below_then hBw6 (below_size hBw6) hbx
  clear hbx
  have hz := Ahz.out
  have hwr : wrap64 ((z.size : Int) - 1) = ((z.size - 1 : Nat) : Int) := by unfold wrap64; omega
  have hFx : (w7.alloc (.cells #[.int .u8 (a : Int), .int .u8 (b : Int), .int .u8 (c : Int), .int .u16 (d : Int), .int .u32 (e : Int), .int .u64 (t : Int), .int .u32 (g : Int), .bool h, .string bd] 28)).heap[w.heap.size]? = some (.cells #[.int .u8 (a : Int), .int .u8 (b : Int), .int .u8 (c : Int), .int .u16 (d : Int), .int .u32 (e : Int), .int .u64 (t : Int), .int .u32 (g : Int), .bool h, .string bd] 28 (0, 0)) := blk_alloc hFw7 _
  have hGx : (w7.alloc (.cells #[.int .u8 (a : Int), .int .u8 (b : Int), .int .u8 (c : Int), .int .u16 (d : Int), .int .u32 (e : Int), .int .u64 (t : Int), .int .u32 (g : Int), .bool h, .string bd] 28)).heap[w.heap.size + 1]? = some (.cells #[.int .u8 (a' : Int), .int .u8 (b' : Int), .int .u8 (c' : Int), .int .u16 (d' : Int), .int .u32 (e' : Int), .int .u64 (t' : Int), .int .u32 (g' : Int), .bool h', .string bd'] 28 (0, 0)) := blk_alloc hGw7 _
  have hBx : Below w.heap.size w (w7.alloc (.cells #[.int .u8 (a : Int), .int .u8 (b : Int), .int .u8 (c : Int), .int .u16 (d : Int), .int .u32 (e : Int), .int .u64 (t : Int), .int .u32 (g : Int), .bool h, .string bd] 28)) := hBw7.alloc (below_size hBw7) _
  have fk0 : (w7.alloc (.cells #[.int .u8 (a : Int), .int .u8 (b : Int), .int .u8 (c : Int), .int .u16 (d : Int), .int .u32 (e : Int), .int .u64 (t : Int), .int .u32 (g : Int), .bool h, .string bd] 28)).cell? ⟨w.heap.size, 0, none⟩ = some (.int .u8 (a : Int)) := (blk_cell hFx 0).trans rfl
  have fk1 : (w7.alloc (.cells #[.int .u8 (a : Int), .int .u8 (b : Int), .int .u8 (c : Int), .int .u16 (d : Int), .int .u32 (e : Int), .int .u64 (t : Int), .int .u32 (g : Int), .bool h, .string bd] 28)).cell? ⟨w.heap.size, 1, none⟩ = some (.int .u8 (b : Int)) := (blk_cell hFx 1).trans rfl
  have fk2 : (w7.alloc (.cells #[.int .u8 (a : Int), .int .u8 (b : Int), .int .u8 (c : Int), .int .u16 (d : Int), .int .u32 (e : Int), .int .u64 (t : Int), .int .u32 (g : Int), .bool h, .string bd] 28)).cell? ⟨w.heap.size, 2, none⟩ = some (.int .u8 (c : Int)) := (blk_cell hFx 2).trans rfl
  have fk3 : (w7.alloc (.cells #[.int .u8 (a : Int), .int .u8 (b : Int), .int .u8 (c : Int), .int .u16 (d : Int), .int .u32 (e : Int), .int .u64 (t : Int), .int .u32 (g : Int), .bool h, .string bd] 28)).cell? ⟨w.heap.size, 3, none⟩ = some (.int .u16 (d : Int)) := (blk_cell hFx 3).trans rfl
  have fk4 : (w7.alloc (.cells #[.int .u8 (a : Int), .int .u8 (b : Int), .int .u8 (c : Int), .int .u16 (d : Int), .int .u32 (e : Int), .int .u64 (t : Int), .int .u32 (g : Int), .bool h, .string bd] 28)).cell? ⟨w.heap.size, 4, none⟩ = some (.int .u32 (e : Int)) := (blk_cell hFx 4).trans rfl
  have fk5 : (w7.alloc (.cells #[.int .u8 (a : Int), .int .u8 (b : Int), .int .u8 (c : Int), .int .u16 (d : Int), .int .u32 (e : Int), .int .u64 (t : Int), .int .u32 (g : Int), .bool h, .string bd] 28)).cell? ⟨w.heap.size, 5, none⟩ = some (.int .u64 (t : Int)) := (blk_cell hFx 5).trans rfl
  have fk6 : (w7.alloc (.cells #[.int .u8 (a : Int), .int .u8 (b : Int), .int .u8 (c : Int), .int .u16 (d : Int), .int .u32 (e : Int), .int .u64 (t : Int), .int .u32 (g : Int), .bool h, .string bd] 28)).cell? ⟨w.heap.size, 6, none⟩ = some (.int .u32 (g : Int)) := (blk_cell hFx 6).trans rfl
  have fk7 : (w7.alloc (.cells #[.int .u8 (a : Int), .int .u8 (b : Int), .int .u8 (c : Int), .int .u16 (d : Int), .int .u32 (e : Int), .int .u64 (t : Int), .int .u32 (g : Int), .bool h, .string bd] 28)).cell? ⟨w.heap.size, 7, none⟩ = some (.bool h) := (blk_cell hFx 7).trans rfl
  have fk8 : (w7.alloc (.cells #[.int .u8 (a : Int), .int .u8 (b : Int), .int .u8 (c : Int), .int .u16 (d : Int), .int .u32 (e : Int), .int .u64 (t : Int), .int .u32 (g : Int), .bool h, .string bd] 28)).cell? ⟨w.heap.size, 8, none⟩ = some (.string bd) := (blk_cell hFx 8).trans rfl
  have gk0 : (w7.alloc (.cells #[.int .u8 (a : Int), .int .u8 (b : Int), .int .u8 (c : Int), .int .u16 (d : Int), .int .u32 (e : Int), .int .u64 (t : Int), .int .u32 (g : Int), .bool h, .string bd] 28)).cell? ⟨w.heap.size + 1, 0, none⟩ = some (.int .u8 (a' : Int)) := (blk_cell hGx 0).trans rfl
  have gk1 : (w7.alloc (.cells #[.int .u8 (a : Int), .int .u8 (b : Int), .int .u8 (c : Int), .int .u16 (d : Int), .int .u32 (e : Int), .int .u64 (t : Int), .int .u32 (g : Int), .bool h, .string bd] 28)).cell? ⟨w.heap.size + 1, 1, none⟩ = some (.int .u8 (b' : Int)) := (blk_cell hGx 1).trans rfl
  have gk2 : (w7.alloc (.cells #[.int .u8 (a : Int), .int .u8 (b : Int), .int .u8 (c : Int), .int .u16 (d : Int), .int .u32 (e : Int), .int .u64 (t : Int), .int .u32 (g : Int), .bool h, .string bd] 28)).cell? ⟨w.heap.size + 1, 2, none⟩ = some (.int .u8 (c' : Int)) := (blk_cell hGx 2).trans rfl
  have gk3 : (w7.alloc (.cells #[.int .u8 (a : Int), .int .u8 (b : Int), .int .u8 (c : Int), .int .u16 (d : Int), .int .u32 (e : Int), .int .u64 (t : Int), .int .u32 (g : Int), .bool h, .string bd] 28)).cell? ⟨w.heap.size + 1, 3, none⟩ = some (.int .u16 (d' : Int)) := (blk_cell hGx 3).trans rfl
  have gk4 : (w7.alloc (.cells #[.int .u8 (a : Int), .int .u8 (b : Int), .int .u8 (c : Int), .int .u16 (d : Int), .int .u32 (e : Int), .int .u64 (t : Int), .int .u32 (g : Int), .bool h, .string bd] 28)).cell? ⟨w.heap.size + 1, 4, none⟩ = some (.int .u32 (e' : Int)) := (blk_cell hGx 4).trans rfl
  have gk5 : (w7.alloc (.cells #[.int .u8 (a : Int), .int .u8 (b : Int), .int .u8 (c : Int), .int .u16 (d : Int), .int .u32 (e : Int), .int .u64 (t : Int), .int .u32 (g : Int), .bool h, .string bd] 28)).cell? ⟨w.heap.size + 1, 5, none⟩ = some (.int .u64 (t' : Int)) := (blk_cell hGx 5).trans rfl
  have gk6 : (w7.alloc (.cells #[.int .u8 (a : Int), .int .u8 (b : Int), .int .u8 (c : Int), .int .u16 (d : Int), .int .u32 (e : Int), .int .u64 (t : Int), .int .u32 (g : Int), .bool h, .string bd] 28)).cell? ⟨w.heap.size + 1, 6, none⟩ = some (.int .u32 (g' : Int)) := (blk_cell hGx 6).trans rfl
  have gk7 : (w7.alloc (.cells #[.int .u8 (a : Int), .int .u8 (b : Int), .int .u8 (c : Int), .int .u16 (d : Int), .int .u32 (e : Int), .int .u64 (t : Int), .int .u32 (g : Int), .bool h, .string bd] 28)).cell? ⟨w.heap.size + 1, 7, none⟩ = some (.bool h') := (blk_cell hGx 7).trans rfl
  have gk8 : (w7.alloc (.cells #[.int .u8 (a : Int), .int .u8 (b : Int), .int .u8 (c : Int), .int .u16 (d : Int), .int .u32 (e : Int), .int .u64 (t : Int), .int .u32 (g : Int), .bool h, .string bd] 28)).cell? ⟨w.heap.size + 1, 8, none⟩ = some (.string bd') := (blk_cell hGx 8).trans rfl
  have D3' := Aside0.mk (show frame_Decode.f (z.extract 0 (33 + bd.size)) = _ from (show z.size - 1 = 33 + bd.size by omega) ▸ AhD3.out)
  have hb0' : ((z.size - 1 : Nat) : Int) ≤ (z.size : Int) := by omega
  by_cases hm0 : 0 < m.size
  · have hme : (!m.toList.isEmpty) = true := by
      cases hE0 : m.toList with
      | nil => rw [ByteArray.toList_eq] at hE0; have h9 : m.data.toList.length = 0 := by rw [hE0]; rfl
               rw [Array.length_toList] at h9; have h10 : m.size = m.data.size := rfl; omega
      | cons x l => rfl
    have hov : ¬ (9223372036854775807 < z.size + m.size) := by omega
    go_wp2_with fail
    clear fk0 gk0 fk1 gk1 fk2 gk2 fk3 gk3 fk4 gk4 fk5 gk5 fk6 gk6 fk7 gk7 fk8 gk8
    generalize w7.alloc (.cells #[.int .u8 (a : Int), .int .u8 (b : Int), .int .u8 (c : Int), .int .u16 (d : Int), .int .u32 (e : Int), .int .u64 (t : Int), .int .u32 (g : Int), .bool h, .string bd] 28) = w8 at hBx hFx hGx ⊢
    refine (frame_Decode.calls _ _ _ _ _ _ _ _ _ _ _ _ (AhD2.out hm0)).mono ?_
    rintro e_ w9 ⟨rfl, hb9⟩
    have hB9 := below_then hBx (below_size hBx) hb9
    go_wp2_with fail
    have hB10 : Below w.heap.size w (w9.alloc (.cells #[.int .u8 0, .int .u8 0, .int .u8 0, .int .u16 0, .int .u32 0, .int .u64 0, .int .u32 0, .bool false, .string ⟨#[]⟩] 28)) := hB9.alloc (below_size hB9) _
    generalize w9.alloc (.cells #[.int .u8 0, .int .u8 0, .int .u8 0, .int .u16 0, .int .u32 0, .int .u64 0, .int .u32 0, .bool false, .string ⟨#[]⟩] 28) = w10 at hB10 ⊢
    refine (frame_Decode.calls _ _ _ _ _ _ _ _ _ _ _ _ D3'.out).mono ?_
    rintro e_ w11 ⟨rfl, hb11⟩
    have hB11 := below_then hB10 (below_size hB10) hb11
    go_wp2_with fail
    go_ret
    first | exact ⟨rfl, hB11⟩ | exact ⟨rfl, hB11.alloc (below_size hB11) _⟩
  · have hme : (!m.toList.isEmpty) = false := by
      have h0 : m.toList = [] := by rw [ByteArray.toList_eq]; exact List.length_eq_zero_iff.1 (by rw [Array.length_toList]; have h10 : m.size = m.data.size := rfl; omega)
      rw [h0]; rfl
    go_wp2_with fail
    clear fk0 gk0 fk1 gk1 fk2 gk2 fk3 gk3 fk4 gk4 fk5 gk5 fk6 gk6 fk7 gk7 fk8 gk8
    generalize w7.alloc (.cells #[.int .u8 (a : Int), .int .u8 (b : Int), .int .u8 (c : Int), .int .u16 (d : Int), .int .u32 (e : Int), .int .u64 (t : Int), .int .u32 (g : Int), .bool h, .string bd] 28) = w8 at hBx hFx hGx ⊢
    refine (frame_Decode.calls _ _ _ _ _ _ _ _ _ _ _ _ D3'.out).mono ?_
    rintro e_ w11 ⟨rfl, hb11⟩
    have hB11 := below_then hBx (below_size hBx) hb11
    go_wp2_with fail
    go_ret
    first | exact ⟨rfl, hB11⟩ | exact ⟨rfl, hB11.alloc (below_size hB11) _⟩
theorem FrameBack_walk (w : World) (a0 b0 c0 d0 e0 t0 g0 : Int) (h : Bool) (s : ByteArray) (wa : (Lit.int .u8 a0).wf = true) (wb : (Lit.int .u8 b0).wf = true) (wc : (Lit.int .u8 c0).wf = true) (wd : (Lit.int .u16 d0).wf = true) (we : (Lit.int .u32 e0).wf = true) (wt : (Lit.int .u64 t0).wf = true) (wg : (Lit.int .u32 g0).wf = true) (ws : s.size ≤ maxLen)
    (a0' b0' c0' d0' e0' t0' g0' : Int) (h' : Bool) (s' : ByteArray) (wa' : (Lit.int .u8 a0').wf = true) (wb' : (Lit.int .u8 b0').wf = true) (wc' : (Lit.int .u8 c0').wf = true) (wd' : (Lit.int .u16 d0').wf = true) (we' : (Lit.int .u32 e0').wf = true) (wt' : (Lit.int .u64 t0').wf = true) (wg' : (Lit.int .u32 g0').wf = true) (ws' : s'.size ≤ maxLen) (m : ByteArray) (hm : m.size ≤ 140737488351232) :
    Calls Try.prog 5 #[.agg #[.int .u8 a0, .int .u8 b0, .int .u8 c0, .int .u16 d0, .int .u32 e0, .int .u64 t0, .int .u32 g0, .bool h, .string s], .agg #[.int .u8 a0', .int .u8 b0', .int .u8 c0', .int .u16 d0', .int .u32 e0', .int .u64 t0', .int .u32 g0', .bool h', .string s'], .string m] w fun r w' => r = .returned (.bool true) ∧ Below w.heap.size w w' := by
  have hF := wfr wa wb wc wd we wt wg
  have hF' := wfr wa' wb' wc' wd' we' wt' wg'
  obtain ⟨a, b, c, d, e, t, g, bd, hf, ha, hb, hc, hd, he, ht, hg, hM⟩ := fit_ex a0 b0 c0 d0 e0 t0 g0 h s hF
  obtain ⟨a', b', c', d', e', t', g', bd', hf', ha', hb', hc', hd', he', ht', hg', hM'⟩ := fit_ex a0' b0' c0' d0' e0' t0' g0' h' s' hF'
  have hE : frame_Encode.f (a : Int) b c d e t g h bd = some (strOfNums (encF a b c d e t g h bd), 0) := by
    rw [frame_Encode.f, if_pos ⟨by omega, by omega, by omega, by omega, by omega, by omega, by omega⟩]
    show some (encR a b c d e t g h bd) = _
    rw [encR, if_pos hM]
  have hE' : frame_Encode.f (a' : Int) b' c' d' e' t' g' h' bd' = some (strOfNums (encF a' b' c' d' e' t' g' h' bd'), 0) := by
    rw [frame_Encode.f, if_pos ⟨by omega, by omega, by omega, by omega, by omega, by omega, by omega⟩]
    show some (encR a' b' c' d' e' t' g' h' bd') = _
    rw [encR, if_pos hM']
  have hn := encF_nats a b c d e t g h bd ha hb hc
  have hD := dec_enc a b c d e t g h bd ha hb hc hd he ht hg hM
  have hD' := dec_enc a' b' c' d' e' t' g' h' bd' ha' hb' hc' hd' he' ht' hg' hM'
  have hsame : ((strOfNums (encF a b c d e t g h bd)).toList == (strOfNums (encF a' b' c' d' e' t' g' h' bd')).toList) = ((a : Int) == a' && ((b : Int) == b' && (((c : Int) == c' && ((d : Int) == d' && ((e : Int) == e'))) && ((t : Int) == t' && ((g : Int) == g' && (h == h' && (bd.toList == bd'.toList))))))) := by
    rw [Bool.eq_iff_iff]
    simp only [Bool.and_eq_true, beq_iff_eq]
    constructor
    · intro hh
      rw [ByteArray.toList_eq, ByteArray.toList_eq] at hh
      have hh2 := ByteArray.ext (Array.toList_inj.1 hh)
      rw [hh2, hD'] at hD
      simp only [Prod.mk.injEq] at hD
      obtain ⟨z1, z2, z3, z4, z5, z6, z7, z8, z9, _⟩ := hD
      exact ⟨z1.symm, z2.symm, ⟨z3.symm, z4.symm, z5.symm⟩, z6.symm, z7.symm, z8.symm, by rw [z9]⟩
    · rintro ⟨z1, z2, ⟨z3, z4, z5⟩, z6, z7, z8, z9⟩
      rw [ByteArray.toList_eq, ByteArray.toList_eq] at z9
      have y9 := ByteArray.ext (Array.toList_inj.1 z9)
      obtain rfl : a = a' := by omega
      obtain rfl : b = b' := by omega
      obtain rfl : c = c' := by omega
      obtain rfl : d = d' := by omega
      obtain rfl : e = e' := by omega
      obtain rfl : t = t' := by omega
      obtain rfl : g = g' := by omega
      subst z8 y9
      rfl
  obtain ⟨hsz, hk, _⟩ := fields _ a b c d e t g h bd hn ha hb hc hd he ht hg hM.2.2.2.2.2.2.2
  have hbd := hM.2.2.2.2.2.2.2
  generalize strOfNums (encF a b c d e t g h bd) = z at *
  generalize strOfNums (encF a' b' c' d' e' t' g' h' bd') = z' at *
  have hcut : frame_Decode.f (z.extract 0 (z.size - 1)) = some (0, 0, 0, 0, 0, 0, 0, false, ⟨#[]⟩, 210) := by
    rw [frame_Decode.f, if_pos (by rw [ByteArray.size_extract]; omega), decT_bad _ (cut_bad z hk)]
  have hz : frame_Decode.f z = some ((a : Int), (b : Int), (c : Int), (d : Int), (e : Int), (t : Int), (g : Int), h, bd, 0) := by
    rw [frame_Decode.f, if_pos (by omega), hD]
  have hmore : 0 < m.size → frame_Decode.f (z ++ m) = some (0, 0, 0, 0, 0, 0, 0, false, ⟨#[]⟩, 210) := fun hm0 => by
    rw [frame_Decode.f, if_pos (by rw [ByteArray.size_append]; omega), decT_bad _ (more_bad z m hk hm0)]
  exact back_walk w a0 b0 c0 d0 e0 t0 g0 h s a0' b0' c0' d0' e0' t0' g0' h' s' m a b c d e t g bd a' b' c' d' e' t' g' bd' z z' _ hf hf' hE hE' hsz hbd rfl hsame.symm hz hmore hcut hm
end Go.Proofs.Ytgboppgghidgbaa.My
