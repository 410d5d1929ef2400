/- FrameTurned: the walk. -/
import Derived.Test.YtgboppgghidgbaaFrTurnP
import Derived.Test.YtgboppgghidgbaaFrGlue3
import Derived.Test.YtgboppgghidgbaaFrDecEnc
import Derived.Test.YtgboppgghidgbaaBB
import Derived.Test.YtgboppgghidgbaaPHx1
namespace Go.Proofs.Ytgboppgghidgbaa.My
open Go.RowKit Go.Proofs.YtgboppgghidgbaaW.PrintWords Go.Proofs.YtgboppgghidgbaaW.PrintLast Go.Proofs.YtgboppgghidgbaaW.PrintMore Go.Proofs.Ytgboppgghidgbaa
set_option linter.unusedSimpArgs false
set_option linter.unusedVariables false
set_option maxRecDepth 100000
set_option maxHeartbeats 6400000
attribute [local go_sem high] PH.eqA28
theorem BB.below {w w' : World} {g : Nat} {l : List Nat} (h : BB w g l) (hb : Below w.heap.size w w') : BB w' g l := by
  obtain ⟨C, h1, h2, h3⟩ := h
  exact ⟨C, (hb.block g (blk_lt h1)).trans h1, h2, h3⟩
theorem BB.lt {w : World} {g : Nat} {l : List Nat} (h : BB w g l) : g < w.heap.size := by
  obtain ⟨C, h1, h2, h3⟩ := h
  exact blk_lt h1
theorem turned_walk (w : World) (a0 b0 c0 d0 e0 t0 g0 : Int) (h : Bool) (s : ByteArray) (at_ : Int) (u : Nat) (a b c d e t g : Nat) (bd z : ByteArray) (k x : Nat)
    (hf : concordlaw21_fit.f a0 b0 c0 d0 e0 t0 g0 h s = some ((a : Int), (b : Int), (c : Int), (d : Int), (e : Int), (t : Int), (g : Int), h, bd))
    (hE : frame_Encode.f (a : Int) b c d e t g h bd = some (z, 0)) (hz : z.size = 34 + bd.size) (hbd : bd.size ≤ 8158) (hu : u < 256) (hk : k < z.size) (hx : (natsOf z)[k]? = some x) (hx8 : x < 256)
    (hat : Int.tmod at_ (z.size : Int) = k ∨ Int.tmod at_ (z.size : Int) + (z.size : Int) = k ∧ Int.tmod at_ (z.size : Int) < 0)
    (r1 r2 r3 r4 r5 r6 r7 : Int) (r8 : Bool) (r9 : ByteArray) (r10 : Int) (hD : ∀ y : ByteArray, natsOf y = (natsOf z).set k (x ^^^ u) → frame_Decode.f y = some (r1, r2, r3, r4, r5, r6, r7, r8, r9, r10))
    (hok : if u = 0 then r10 = 0 ∧ r1 = a ∧ r2 = b ∧ r3 = c ∧ r4 = d ∧ r5 = e ∧ r6 = t ∧ r7 = g ∧ r8 = h ∧ r9 = bd else r10 = 210 ∧ r1 = 0 ∧ r2 = 0 ∧ r3 = 0 ∧ r4 = 0 ∧ r5 = 0 ∧ r6 = 0 ∧ r7 = 0 ∧ r8 = false ∧ r9 = ⟨#[]⟩) :
    Calls Try.prog 6 #[.agg #[.int .u8 a0, .int .u8 b0, .int .u8 c0, .int .u16 d0, .int .u32 e0, .int .u64 t0, .int .u32 g0, .bool h, .string s], .int .i64 at_, .int .u8 u] w fun r w' => r = .returned (.bool true) ∧ Below w.heap.size w w' := by
  have hcv := fun w => run_bytes_of_string (P := Try.prog) w 9 39 5 z Try.underlying9 Try.underlying39 Try.underlying5
  have Ahf := Aside0.mk hf
  have AhE := Aside0.mk hE
  have AhD := Aside0.mk hD
  have Ahok := Aside0.mk hok
  have Ahx := Aside0.mk hx
  have Ahz := Aside0.mk hz
  clear hf hE hD hok hx hz
  go_enter Try.func6, Try.ntmps6
  go_wp2_with fail
  have hFw0 : (w.alloc (.cells #[.int .u8 a0, .int .u8 b0, .int .u8 c0, .int .u16 d0, .int .u32 e0, .int .u64 t0, .int .u32 g0, .bool h, .string s] 28)).heap[w.heap.size]? = some (.cells #[.int .u8 a0, .int .u8 b0, .int .u8 c0, .int .u16 d0, .int .u32 e0, .int .u64 t0, .int .u32 g0, .bool h, .string s] 28 (0, 0)) := W_push w _ _ _
  have hBw0 : Below w.heap.size w (w.alloc (.cells #[.int .u8 a0, .int .u8 b0, .int .u8 c0, .int .u16 d0, .int .u32 e0, .int .u64 t0, .int .u32 g0, .bool h, .string s] 28)) := (Below.refl _ _).alloc (Nat.le_refl _) _
  generalize w.alloc (.cells #[.int .u8 a0, .int .u8 b0, .int .u8 c0, .int .u16 d0, .int .u32 e0, .int .u64 t0, .int .u32 g0, .bool h, .string s] 28) = w0 at hFw0 hBw0 ⊢
  refine (concordlaw21_fit.calls _ _ _ _ _ _ _ _ _ _ _ _ _ _ _ _ _ _ _ Ahf.out).mono ?_
  rintro e_ w1 ⟨rfl, hbx⟩
  have hFw1 := (hbx.block _ (blk_lt hFw0)).trans hFw0
  have hBw1 := below_then hBw0 (below_size hBw0) hbx
  clear hbx
  have fk0 : w1.cell? ⟨w.heap.size, 0, none⟩ = some (.int .u8 a0) := (blk_cell hFw1 0).trans rfl
  have fz0 : w1.frozen? ⟨w.heap.size, 0, none⟩ = false := blk_frozen hFw1 0
  have fk1 : w1.cell? ⟨w.heap.size, 1, none⟩ = some (.int .u8 b0) := (blk_cell hFw1 1).trans rfl
  have fz1 : w1.frozen? ⟨w.heap.size, 1, none⟩ = false := blk_frozen hFw1 1
  have fk2 : w1.cell? ⟨w.heap.size, 2, none⟩ = some (.int .u8 c0) := (blk_cell hFw1 2).trans rfl
  have fz2 : w1.frozen? ⟨w.heap.size, 2, none⟩ = false := blk_frozen hFw1 2
  have fk3 : w1.cell? ⟨w.heap.size, 3, none⟩ = some (.int .u16 d0) := (blk_cell hFw1 3).trans rfl
  have fz3 : w1.frozen? ⟨w.heap.size, 3, none⟩ = false := blk_frozen hFw1 3
  have fk4 : w1.cell? ⟨w.heap.size, 4, none⟩ = some (.int .u32 e0) := (blk_cell hFw1 4).trans rfl
  have fz4 : w1.frozen? ⟨w.heap.size, 4, none⟩ = false := blk_frozen hFw1 4
  have fk5 : w1.cell? ⟨w.heap.size, 5, none⟩ = some (.int .u64 t0) := (blk_cell hFw1 5).trans rfl
  have fz5 : w1.frozen? ⟨w.heap.size, 5, none⟩ = false := blk_frozen hFw1 5
  have fk6 : w1.cell? ⟨w.heap.size, 6, none⟩ = some (.int .u32 g0) := (blk_cell hFw1 6).trans rfl
  have fz6 : w1.frozen? ⟨w.heap.size, 6, none⟩ = false := blk_frozen hFw1 6
  have fk7 : w1.cell? ⟨w.heap.size, 7, none⟩ = some (.bool h) := (blk_cell hFw1 7).trans rfl
  have fz7 : w1.frozen? ⟨w.heap.size, 7, none⟩ = false := blk_frozen hFw1 7
  have fk8 : w1.cell? ⟨w.heap.size, 8, none⟩ = some (.string s) := (blk_cell hFw1 8).trans rfl
  have fz8 : w1.frozen? ⟨w.heap.size, 8, none⟩ = false := blk_frozen hFw1 8
  go_wp2_with fail
  clear fk0 fz0 fk1 fz1 fk2 fz2 fk3 fz3 fk4 fz4 fk5 fz5 fk6 fz6 fk7 fz7 fk8 fz8
  have Fw2_0 : (w1.setCell ⟨w.heap.size, 0, none⟩ (.int .u8 (a : Int))).heap[w.heap.size]? = some (.cells #[.int .u8 (a : Int), .int .u8 b0, .int .u8 c0, .int .u16 d0, .int .u32 e0, .int .u64 t0, .int .u32 g0, .bool h, .string s] 28 (0, 0)) := blk_set hFw1 0 (.int .u8 (a : Int))
  have Bw2_0 : Below w.heap.size w (w1.setCell ⟨w.heap.size, 0, none⟩ (.int .u8 (a : Int))) := below_set (g := w.heap.size) (j := 0) (v := .int .u8 (a : Int)) hBw1 (Nat.le_refl _)
  generalize (w1.setCell ⟨w.heap.size, 0, none⟩ (.int .u8 (a : Int))) = Ww2_0 at Fw2_0 Bw2_0  ⊢
  clear hFw1 hBw1 
  have Fw2_1 : (Ww2_0.setCell ⟨w.heap.size, 1, none⟩ (.int .u8 (b : Int))).heap[w.heap.size]? = some (.cells #[.int .u8 (a : Int), .int .u8 (b : Int), .int .u8 c0, .int .u16 d0, .int .u32 e0, .int .u64 t0, .int .u32 g0, .bool h, .string s] 28 (0, 0)) := blk_set Fw2_0 1 (.int .u8 (b : Int))
  have Bw2_1 : Below w.heap.size w (Ww2_0.setCell ⟨w.heap.size, 1, none⟩ (.int .u8 (b : Int))) := below_set (g := w.heap.size) (j := 1) (v := .int .u8 (b : Int)) Bw2_0 (Nat.le_refl _)
  generalize (Ww2_0.setCell ⟨w.heap.size, 1, none⟩ (.int .u8 (b : Int))) = Ww2_1 at Fw2_1 Bw2_1  ⊢
  clear Fw2_0 Bw2_0 
  have Fw2_2 : (Ww2_1.setCell ⟨w.heap.size, 2, none⟩ (.int .u8 (c : Int))).heap[w.heap.size]? = some (.cells #[.int .u8 (a : Int), .int .u8 (b : Int), .int .u8 (c : Int), .int .u16 d0, .int .u32 e0, .int .u64 t0, .int .u32 g0, .bool h, .string s] 28 (0, 0)) := blk_set Fw2_1 2 (.int .u8 (c : Int))
  have Bw2_2 : Below w.heap.size w (Ww2_1.setCell ⟨w.heap.size, 2, none⟩ (.int .u8 (c : Int))) := below_set (g := w.heap.size) (j := 2) (v := .int .u8 (c : Int)) Bw2_1 (Nat.le_refl _)
  generalize (Ww2_1.setCell ⟨w.heap.size, 2, none⟩ (.int .u8 (c : Int))) = Ww2_2 at Fw2_2 Bw2_2  ⊢
  clear Fw2_1 Bw2_1 
  have Fw2_3 : (Ww2_2.setCell ⟨w.heap.size, 3, none⟩ (.int .u16 (d : Int))).heap[w.heap.size]? = some (.cells #[.int .u8 (a : Int), .int .u8 (b : Int), .int .u8 (c : Int), .int .u16 (d : Int), .int .u32 e0, .int .u64 t0, .int .u32 g0, .bool h, .string s] 28 (0, 0)) := blk_set Fw2_2 3 (.int .u16 (d : Int))
  have Bw2_3 : Below w.heap.size w (Ww2_2.setCell ⟨w.heap.size, 3, none⟩ (.int .u16 (d : Int))) := below_set (g := w.heap.size) (j := 3) (v := .int .u16 (d : Int)) Bw2_2 (Nat.le_refl _)
  generalize (Ww2_2.setCell ⟨w.heap.size, 3, none⟩ (.int .u16 (d : Int))) = Ww2_3 at Fw2_3 Bw2_3  ⊢
  clear Fw2_2 Bw2_2 
  have Fw2_4 : (Ww2_3.setCell ⟨w.heap.size, 4, none⟩ (.int .u32 (e : Int))).heap[w.heap.size]? = some (.cells #[.int .u8 (a : Int), .int .u8 (b : Int), .int .u8 (c : Int), .int .u16 (d : Int), .int .u32 (e : Int), .int .u64 t0, .int .u32 g0, .bool h, .string s] 28 (0, 0)) := blk_set Fw2_3 4 (.int .u32 (e : Int))
  have Bw2_4 : Below w.heap.size w (Ww2_3.setCell ⟨w.heap.size, 4, none⟩ (.int .u32 (e : Int))) := below_set (g := w.heap.size) (j := 4) (v := .int .u32 (e : Int)) Bw2_3 (Nat.le_refl _)
  generalize (Ww2_3.setCell ⟨w.heap.size, 4, none⟩ (.int .u32 (e : Int))) = Ww2_4 at Fw2_4 Bw2_4  ⊢
  clear Fw2_3 Bw2_3 
  have Fw2_5 : (Ww2_4.setCell ⟨w.heap.size, 5, none⟩ (.int .u64 (t : Int))).heap[w.heap.size]? = some (.cells #[.int .u8 (a : Int), .int .u8 (b : Int), .int .u8 (c : Int), .int .u16 (d : Int), .int .u32 (e : Int), .int .u64 (t : Int), .int .u32 g0, .bool h, .string s] 28 (0, 0)) := blk_set Fw2_4 5 (.int .u64 (t : Int))
  have Bw2_5 : Below w.heap.size w (Ww2_4.setCell ⟨w.heap.size, 5, none⟩ (.int .u64 (t : Int))) := below_set (g := w.heap.size) (j := 5) (v := .int .u64 (t : Int)) Bw2_4 (Nat.le_refl _)
  generalize (Ww2_4.setCell ⟨w.heap.size, 5, none⟩ (.int .u64 (t : Int))) = Ww2_5 at Fw2_5 Bw2_5  ⊢
  clear Fw2_4 Bw2_4 
  have Fw2_6 : (Ww2_5.setCell ⟨w.heap.size, 6, none⟩ (.int .u32 (g : Int))).heap[w.heap.size]? = some (.cells #[.int .u8 (a : Int), .int .u8 (b : Int), .int .u8 (c : Int), .int .u16 (d : Int), .int .u32 (e : Int), .int .u64 (t : Int), .int .u32 (g : Int), .bool h, .string s] 28 (0, 0)) := blk_set Fw2_5 6 (.int .u32 (g : Int))
  have Bw2_6 : Below w.heap.size w (Ww2_5.setCell ⟨w.heap.size, 6, none⟩ (.int .u32 (g : Int))) := below_set (g := w.heap.size) (j := 6) (v := .int .u32 (g : Int)) Bw2_5 (Nat.le_refl _)
  generalize (Ww2_5.setCell ⟨w.heap.size, 6, none⟩ (.int .u32 (g : Int))) = Ww2_6 at Fw2_6 Bw2_6  ⊢
  clear Fw2_5 Bw2_5 
  have Fw2_7 : (Ww2_6.setCell ⟨w.heap.size, 7, none⟩ (.bool h)).heap[w.heap.size]? = some (.cells #[.int .u8 (a : Int), .int .u8 (b : Int), .int .u8 (c : Int), .int .u16 (d : Int), .int .u32 (e : Int), .int .u64 (t : Int), .int .u32 (g : Int), .bool h, .string s] 28 (0, 0)) := blk_set Fw2_6 7 (.bool h)
  have Bw2_7 : Below w.heap.size w (Ww2_6.setCell ⟨w.heap.size, 7, none⟩ (.bool h)) := below_set (g := w.heap.size) (j := 7) (v := .bool h) Bw2_6 (Nat.le_refl _)
  generalize (Ww2_6.setCell ⟨w.heap.size, 7, none⟩ (.bool h)) = Ww2_7 at Fw2_7 Bw2_7  ⊢
  clear Fw2_6 Bw2_6 
  have Fw2_8 : (Ww2_7.setCell ⟨w.heap.size, 8, none⟩ (.string bd)).heap[w.heap.size]? = some (.cells #[.int .u8 (a : Int), .int .u8 (b : Int), .int .u8 (c : Int), .int .u16 (d : Int), .int .u32 (e : Int), .int .u64 (t : Int), .int .u32 (g : Int), .bool h, .string bd] 28 (0, 0)) := blk_set Fw2_7 8 (.string bd)
  have Bw2_8 : Below w.heap.size w (Ww2_7.setCell ⟨w.heap.size, 8, none⟩ (.string bd)) := below_set (g := w.heap.size) (j := 8) (v := .string bd) Bw2_7 (Nat.le_refl _)
  generalize (Ww2_7.setCell ⟨w.heap.size, 8, none⟩ (.string bd)) = Ww2_8 at Fw2_8 Bw2_8  ⊢
  clear Fw2_7 Bw2_7 
  have hFw2 := Fw2_8
  have hBw2 := Bw2_8
  clear Fw2_8 Bw2_8 
  obtain ⟨w2, h_w2⟩ : ∃ z_, z_ = Ww2_8 := ⟨_, rfl⟩
  rw [← h_w2] at hFw2 hBw2  ⊢
  clear h_w2
  refine (frame_Encode.calls _ _ _ _ _ _ _ _ _ _ _ _ AhE.out).mono ?_
  rintro e_ w3 ⟨rfl, hbx⟩
  have hFw3 := (hbx.block _ (blk_lt hFw2)).trans hFw2
  have hBw3 := below_then hBw2 (below_size hBw2) hbx
  clear hbx
  have fk0 : w3.cell? ⟨w.heap.size, 0, none⟩ = some (.int .u8 (a : Int)) := (blk_cell hFw3 0).trans rfl
  have fk1 : w3.cell? ⟨w.heap.size, 1, none⟩ = some (.int .u8 (b : Int)) := (blk_cell hFw3 1).trans rfl
  have fk2 : w3.cell? ⟨w.heap.size, 2, none⟩ = some (.int .u8 (c : Int)) := (blk_cell hFw3 2).trans rfl
  have fk3 : w3.cell? ⟨w.heap.size, 3, none⟩ = some (.int .u16 (d : Int)) := (blk_cell hFw3 3).trans rfl
  have fk4 : w3.cell? ⟨w.heap.size, 4, none⟩ = some (.int .u32 (e : Int)) := (blk_cell hFw3 4).trans rfl
  have fk5 : w3.cell? ⟨w.heap.size, 5, none⟩ = some (.int .u64 (t : Int)) := (blk_cell hFw3 5).trans rfl
  have fk6 : w3.cell? ⟨w.heap.size, 6, none⟩ = some (.int .u32 (g : Int)) := (blk_cell hFw3 6).trans rfl
  have fk7 : w3.cell? ⟨w.heap.size, 7, none⟩ = some (.bool h) := (blk_cell hFw3 7).trans rfl
  have fk8 : w3.cell? ⟨w.heap.size, 8, none⟩ = some (.string bd) := (blk_cell hFw3 8).trans rfl
  have h34 : 34 ≤ z.size := by rw [Ahz.out]; omega
  have hzm : z.size ≤ 10000 := by rw [Ahz.out]; omega
  generalize hcap : grownCap w3 z.size 0 5 = cap
  have HBB : BB (w3.alloc (.cells (bytesRow z cap) 5 ((bytesRow z cap).size, (bytesRow z cap).size + 1))) w3.heap.size (bytesN z) := BB_new w3 z cap
  have HbB : Below w3.heap.size w3 (w3.alloc (.cells (bytesRow z cap) 5 ((bytesRow z cap).size, (bytesRow z cap).size + 1))) := (Below.refl _ _).alloc (Nat.le_refl _) _
  have hlen : (bytesN z).length = z.size := bytesN_len z
  have hxk : (bytesN z)[k]'(by rw [hlen]; exact hk) = x := by have h1 := Ahx.out; rw [← bytesN_eq, List.getElem?_eq_getElem (by rw [hlen]; exact hk)] at h1; exact Option.some.inj h1
  have hcell : (w3.alloc (.cells (bytesRow z cap) 5 ((bytesRow z cap).size, (bytesRow z cap).size + 1))).cell? ⟨w3.heap.size, k, none⟩ = some (.int .u8 (x : Int)) := by rw [← hxk]; exact HBB.cell k (by rw [hlen]; exact hk)
  have hfr : (w3.alloc (.cells (bytesRow z cap) 5 ((bytesRow z cap).size, (bytesRow z cap).size + 1))).frozen? ⟨w3.heap.size, k, none⟩ = false := HBB.frozen k (by rw [hlen]; exact hk)
  have hxor : Go.bits .xor .u8 (x : Int) (u : Int) = ((x ^^^ u : Nat) : Int) := u8_xor_nat x u hx8 hu
  have hk0 : (0 : Int) ≤ (k : Int) := by omega
  have hk1 : (k : Int) < (z.size : Int) := by omega
  have hcv2 : ∀ (W : World) (l : List Nat), l.length = z.size → BB W w3.heap.size l → (convert 39 9 (.slice (some ⟨w3.heap.size, 0, none⟩) z.size cap)).run Try.prog W = .ok (.string (strOfNums (l.map Int.ofNat))) W := fun W l hl hW => by
    refine run_convert_bytes_arg W 39 5 Try.underlying39 Try.underlying5 w3.heap.size 0 z.size cap (l.map Int.ofNat) (by rw [List.length_map]; exact hl) (fun q hq => ?_) 9 Try.underlying9
    have hq2 : q < l.length := by rw [hl]; exact hq
    rw [Nat.zero_add, hW.cell q hq2]
    simp [List.getD_eq_getElem?_getD, hq2]
  have HBB' := Aside0.mk HBB
  have HbB' := Aside0.mk HbB
  have Hcv2 := Aside0.mk hcv2
  have Hlen := Aside0.mk hlen
  clear HBB HbB hxk hcv2 hlen
  have hw9 : Int.tmod at_ (z.size : Int) < 0 → wrap64 (Int.tmod at_ (z.size : Int) + (z.size : Int)) = Int.tmod at_ (z.size : Int) + (z.size : Int) := fun h => by
    have h3 := Int.tmod_lt_of_pos (-at_) (b := (z.size : Int)) (by omega)
    rw [Int.neg_tmod] at h3
    unfold wrap64; omega
  rcases hat with hat | ⟨hat, hneg⟩
  all_goals
    first | (have hw8 := (hw9 hneg).trans hat; clear hat) | skip
    clear hw9
    go_wp2_with fail
    have hne : w.heap.size ≠ w3.heap.size := Nat.ne_of_lt (blk_lt hFw3)
    have hF4 : (((w3.alloc (.cells (bytesRow z cap) 5 ((bytesRow z cap).size, (bytesRow z cap).size + 1))).setCell ⟨w3.heap.size, k, none⟩ (.int .u8 ((x ^^^ u : Nat) : Int))).drew).heap[w.heap.size]? = some (.cells #[.int .u8 (a : Int), .int .u8 (b : Int), .int .u8 (c : Int), .int .u16 (d : Int), .int .u32 (e : Int), .int .u64 (t : Int), .int .u32 (g : Int), .bool h, .string bd] 28 (0, 0)) := blk_drew (blk_far (blk_alloc hFw3 _) (p := ⟨w3.heap.size, k, none⟩) hne _)
    have hB4 : Below w.heap.size w (((w3.alloc (.cells (bytesRow z cap) 5 ((bytesRow z cap).size, (bytesRow z cap).size + 1))).setCell ⟨w3.heap.size, k, none⟩ (.int .u8 ((x ^^^ u : Nat) : Int))).drew) := below_drew1 (below_set (below_then hBw3 (below_size hBw3) HbB'.out) (below_size hBw3))
    have hxu : x ^^^ u < 256 := Nat.xor_lt_two_pow (n := 8) (by omega) (by omega)
    have hy : natsOf (strOfNums (((bytesN z).set k (x ^^^ u)).map Int.ofNat)) = (natsOf z).set k (x ^^^ u) := by
      rw [← bytesN_eq, bytesN_str]
      · rfl
      · intro v hv
        rcases List.mem_or_eq_of_mem_set hv with h | rfl
        · exact bytesN_lt z v h
        · exact hxu
    rw [Hcv2.out (((w3.alloc (.cells (bytesRow z cap) 5 ((bytesRow z cap).size, (bytesRow z cap).size + 1))).setCell ⟨w3.heap.size, k, none⟩ (.int .u8 ((x ^^^ u : Nat) : Int))).drew) ((bytesN z).set k (x ^^^ u)) (by rw [List.length_set]; exact Hlen.out) (show BB (((w3.alloc (.cells (bytesRow z cap) 5 ((bytesRow z cap).size, (bytesRow z cap).size + 1))).setCell ⟨w3.heap.size, k, none⟩ (.int .u8 ((x ^^^ u : Nat) : Int))).drew) w3.heap.size _ from (HBB'.out.set k (by rw [Hlen.out]; exact hk) _).drewN 1)]
    generalize ((w3.alloc (.cells (bytesRow z cap) 5 ((bytesRow z cap).size, (bytesRow z cap).size + 1))).setCell ⟨w3.heap.size, k, none⟩ (.int .u8 ((x ^^^ u : Nat) : Int))).drew = w4 at hF4 hB4 ⊢
    generalize strOfNums (((bytesN z).set k (x ^^^ u)).map Int.ofNat) = y at hy ⊢
    have Hy := Aside0.mk hy
    clear hy hcell hfr hxor
    clear fk0 fk1 fk2 fk3 fk4 fk5 fk6 fk7 fk8
    go_wp2_with fail
    refine (frame_Decode.calls _ _ _ _ _ _ _ _ _ _ _ _ (AhD.out _ Hy.out)).mono ?_
    rintro e_ w5 ⟨rfl, hb5⟩
    have hF5 := (hb5.block _ (blk_lt hF4)).trans hF4
    have hB5 := below_then hB4 (below_size hB4) hb5
    have fk0 : w5.cell? ⟨w.heap.size, 0, none⟩ = some (.int .u8 (a : Int)) := (blk_cell hF5 0).trans rfl
    have fk1 : w5.cell? ⟨w.heap.size, 1, none⟩ = some (.int .u8 (b : Int)) := (blk_cell hF5 1).trans rfl
    have fk2 : w5.cell? ⟨w.heap.size, 2, none⟩ = some (.int .u8 (c : Int)) := (blk_cell hF5 2).trans rfl
    have fk3 : w5.cell? ⟨w.heap.size, 3, none⟩ = some (.int .u16 (d : Int)) := (blk_cell hF5 3).trans rfl
    have fk4 : w5.cell? ⟨w.heap.size, 4, none⟩ = some (.int .u32 (e : Int)) := (blk_cell hF5 4).trans rfl
    have fk5 : w5.cell? ⟨w.heap.size, 5, none⟩ = some (.int .u64 (t : Int)) := (blk_cell hF5 5).trans rfl
    have fk6 : w5.cell? ⟨w.heap.size, 6, none⟩ = some (.int .u32 (g : Int)) := (blk_cell hF5 6).trans rfl
    have fk7 : w5.cell? ⟨w.heap.size, 7, none⟩ = some (.bool h) := (blk_cell hF5 7).trans rfl
    have fk8 : w5.cell? ⟨w.heap.size, 8, none⟩ = some (.string bd) := (blk_cell hF5 8).trans rfl
    have hF6 : (w5.alloc (.cells #[.int .u8 r1, .int .u8 r2, .int .u8 r3, .int .u16 r4, .int .u32 r5, .int .u64 r6, .int .u32 r7, .bool r8, .string r9] 28)).heap[w.heap.size]? = some (.cells #[.int .u8 (a : Int), .int .u8 (b : Int), .int .u8 (c : Int), .int .u16 (d : Int), .int .u32 (e : Int), .int .u64 (t : Int), .int .u32 (g : Int), .bool h, .string bd] 28 (0, 0)) := blk_alloc hF5 _
    have gk0 : (w5.alloc (.cells #[.int .u8 r1, .int .u8 r2, .int .u8 r3, .int .u16 r4, .int .u32 r5, .int .u64 r6, .int .u32 r7, .bool r8, .string r9] 28)).cell? ⟨w.heap.size, 0, none⟩ = some (.int .u8 (a : Int)) := (blk_cell hF6 0).trans rfl
    have gk1 : (w5.alloc (.cells #[.int .u8 r1, .int .u8 r2, .int .u8 r3, .int .u16 r4, .int .u32 r5, .int .u64 r6, .int .u32 r7, .bool r8, .string r9] 28)).cell? ⟨w.heap.size, 1, none⟩ = some (.int .u8 (b : Int)) := (blk_cell hF6 1).trans rfl
    have gk2 : (w5.alloc (.cells #[.int .u8 r1, .int .u8 r2, .int .u8 r3, .int .u16 r4, .int .u32 r5, .int .u64 r6, .int .u32 r7, .bool r8, .string r9] 28)).cell? ⟨w.heap.size, 2, none⟩ = some (.int .u8 (c : Int)) := (blk_cell hF6 2).trans rfl
    have gk3 : (w5.alloc (.cells #[.int .u8 r1, .int .u8 r2, .int .u8 r3, .int .u16 r4, .int .u32 r5, .int .u64 r6, .int .u32 r7, .bool r8, .string r9] 28)).cell? ⟨w.heap.size, 3, none⟩ = some (.int .u16 (d : Int)) := (blk_cell hF6 3).trans rfl
    have gk4 : (w5.alloc (.cells #[.int .u8 r1, .int .u8 r2, .int .u8 r3, .int .u16 r4, .int .u32 r5, .int .u64 r6, .int .u32 r7, .bool r8, .string r9] 28)).cell? ⟨w.heap.size, 4, none⟩ = some (.int .u32 (e : Int)) := (blk_cell hF6 4).trans rfl
    have gk5 : (w5.alloc (.cells #[.int .u8 r1, .int .u8 r2, .int .u8 r3, .int .u16 r4, .int .u32 r5, .int .u64 r6, .int .u32 r7, .bool r8, .string r9] 28)).cell? ⟨w.heap.size, 5, none⟩ = some (.int .u64 (t : Int)) := (blk_cell hF6 5).trans rfl
    have gk6 : (w5.alloc (.cells #[.int .u8 r1, .int .u8 r2, .int .u8 r3, .int .u16 r4, .int .u32 r5, .int .u64 r6, .int .u32 r7, .bool r8, .string r9] 28)).cell? ⟨w.heap.size, 6, none⟩ = some (.int .u32 (g : Int)) := (blk_cell hF6 6).trans rfl
    have gk7 : (w5.alloc (.cells #[.int .u8 r1, .int .u8 r2, .int .u8 r3, .int .u16 r4, .int .u32 r5, .int .u64 r6, .int .u32 r7, .bool r8, .string r9] 28)).cell? ⟨w.heap.size, 7, none⟩ = some (.bool h) := (blk_cell hF6 7).trans rfl
    have gk8 : (w5.alloc (.cells #[.int .u8 r1, .int .u8 r2, .int .u8 r3, .int .u16 r4, .int .u32 r5, .int .u64 r6, .int .u32 r7, .bool r8, .string r9] 28)).cell? ⟨w.heap.size, 8, none⟩ = some (.string bd) := (blk_cell hF6 8).trans rfl
    have hok := Ahok.out
    by_cases hu0 : u = 0
    · rw [if_pos hu0] at hok
      have hu1 : ((u : Int) == 0) = true := by rw [hu0]; rfl
      obtain ⟨rfl, rfl, rfl, rfl, rfl, rfl, rfl, rfl, rfl, rfl⟩ := hok
      go_wp2_with fail
      all_goals go_ret
      all_goals first | exact ⟨rfl, hB5⟩ | exact ⟨rfl, hB5.alloc (below_size hB5) _⟩
    · rw [if_neg hu0] at hok
      have hu1 : ((u : Int) == 0) = false := beq_eq_false_iff_ne.mpr (by omega)
      obtain ⟨rfl, rfl, rfl, rfl, rfl, rfl, rfl, rfl, rfl, rfl⟩ := hok
      go_wp2_with fail
      all_goals go_ret
      all_goals first | exact ⟨rfl, hB5⟩ | exact ⟨rfl, hB5.alloc (below_size hB5) _⟩
theorem FrameTurned_walk (w : World) (a0 b0 c0 d0 e0 t0 g0 : Int) (h : Bool) (s : ByteArray) (wa : (Lit.int .u8 a0).wf = true) (wb : (Lit.int .u8 b0).wf = true) (wc : (Lit.int .u8 c0).wf = true) (wd : (Lit.int .u16 d0).wf = true) (we : (Lit.int .u32 e0).wf = true) (wt : (Lit.int .u64 t0).wf = true) (wg : (Lit.int .u32 g0).wf = true) (ws : s.size ≤ maxLen) (at_ : Int) (hat : (Lit.int .i64 at_).wf = true) (u : Int) (hu : (Lit.int .u8 u).wf = true) :
    Calls Try.prog 6 #[.agg #[.int .u8 a0, .int .u8 b0, .int .u8 c0, .int .u16 d0, .int .u32 e0, .int .u64 t0, .int .u32 g0, .bool h, .string s], .int .i64 at_, .int .u8 u] w fun r w' => r = .returned (.bool true) ∧ Below w.heap.size w w' := by
  have hF := wfr wa wb wc wd we wt wg
  obtain ⟨u0, u1⟩ := wfr8 hu
  obtain ⟨u, rfl⟩ := Int.eq_ofNat_of_zero_le u0
  obtain ⟨a, b, c, d, e, t, g, bd, hf, ha, hb, hc, hd, he, ht, hg, hM⟩ := fit_ex a0 b0 c0 d0 e0 t0 g0 h s hF
  have hE : frame_Encode.f (a : Int) b c d e t g h bd = some (strOfNums (encF a b c d e t g h bd), 0) := by
    rw [frame_Encode.f, if_pos ⟨by omega, by omega, by omega, by omega, by omega, by omega, by omega⟩]
    show some (encR a b c d e t g h bd) = _
    rw [encR, if_pos hM]
  have hn := encF_nats a b c d e t g h bd ha hb hc
  have hD := dec_enc a b c d e t g h bd ha hb hc hd he ht hg hM
  obtain ⟨hsz, hk, _⟩ := fields _ a b c d e t g h bd hn ha hb hc hd he ht hg hM.2.2.2.2.2.2.2
  have hbd := hM.2.2.2.2.2.2.2
  generalize strOfNums (encF a b c d e t g h bd) = z at *
  have hp : (0 : Int) < (z.size : Int) := by omega
  have h1 := Int.tmod_lt_of_pos at_ hp
  have h2 : -(z.size : Int) < Int.tmod at_ (z.size : Int) := by
    have h3 := Int.tmod_lt_of_pos (-at_) hp
    rw [Int.neg_tmod] at h3
    omega
  obtain ⟨k, hkz, hkat⟩ : ∃ k : Nat, k < z.size ∧ (Int.tmod at_ (z.size : Int) = k ∨ Int.tmod at_ (z.size : Int) + (z.size : Int) = k ∧ Int.tmod at_ (z.size : Int) < 0) := by
    by_cases hneg : 0 ≤ Int.tmod at_ (z.size : Int)
    · exact ⟨(Int.tmod at_ (z.size : Int)).toNat, by omega, .inl (by omega)⟩
    · exact ⟨(Int.tmod at_ (z.size : Int) + (z.size : Int)).toNat, by omega, .inr ⟨by omega, by omega⟩⟩
  have hkl : k < (natsOf z).length := by rw [natsOf_len]; exact hkz
  have hx : (natsOf z)[k]? = some (natsOf z)[k] := List.getElem?_eq_getElem hkl
  have hx8 : (natsOf z)[k] < 256 := natsOf_lt z _ (List.getElem_mem hkl)
  by_cases hu0 : u = 0
  · refine turned_walk w a0 b0 c0 d0 e0 t0 g0 h s at_ u a b c d e t g bd z k (natsOf z)[k] hf hE hsz hbd (by omega) hkz hx hx8 hkat a b c d e t g h bd 0 (fun y hy => ?_) ?_
    · rw [hu0, Nat.xor_zero, List.set_getElem_self] at hy
      rw [natsOf_inj hy, frame_Decode.f, if_pos (by omega), hD]
    · rw [if_pos hu0]
      exact ⟨rfl, rfl, rfl, rfl, rfl, rfl, rfl, rfl, rfl, rfl⟩
  · refine turned_walk w a0 b0 c0 d0 e0 t0 g0 h s at_ u a b c d e t g bd z k (natsOf z)[k] hf hE hsz hbd (by omega) hkz hx hx8 hkat 0 0 0 0 0 0 0 false ⟨#[]⟩ 210 (fun y hy => ?_) ?_
    · have hys : y.size = z.size := by rw [← natsOf_len, hy, List.length_set, natsOf_len]
      rw [frame_Decode.f, if_pos (by omega), decT_bad]
      refine turned_bad z y a b c d e t g h bd hn k _ hkz hy (fun v hv hh => hu0 ?_)
      rw [hx] at hv
      obtain rfl := Option.some.inj hv
      have h9 : (natsOf z)[k] ^^^ u = (natsOf z)[k] ^^^ 0 := by rw [Nat.xor_zero]; exact hh
      exact Crc.xor_lc h9
    · rw [if_neg hu0]
      exact ⟨rfl, rfl, rfl, rfl, rfl, rfl, rfl, rfl, rfl, rfl⟩
end Go.Proofs.Ytgboppgghidgbaa.My
