/- FrameNone. -/
import Derived.Test.YtgboppgghidgbaaFrNext2
import Derived.Test.YtgboppgghidgbaaFrTurnP
import Derived.Test.YtgboppgghidgbaaPHx1
import Derived.Laws.BytesArg
import Derived.LaidEqlPtr
namespace Go.Proofs.Ytgboppgghidgbaa.My
open Go.RowKit Go.Proofs.YtgboppgghidgbaaW.PrintWords Go.Proofs.YtgboppgghidgbaaW.PrintLast Go.Proofs.YtgboppgghidgbaaW.PrintMore Go.Proofs.Ytgboppgghidgbaa
set_option linter.unusedSimpArgs false
set_option linter.unusedVariables false
set_option maxRecDepth 100000
set_option maxHeartbeats 1600000
attribute [local go_sem high] PH.eqA28
theorem below_amid {base : Nat} {w0 w w' : World} {g : Nat} (h : Below base w0 w) (k : Amid w w' g) (hg : base ≤ g) (hs : base ≤ w0.heap.size) : Below base w0 w' :=
  ⟨k.1.os.trans h.os, k.1.tape.trans h.tape, k.1.output.trans h.output, Nat.le_trans h.size k.1.size, fun i hi => (k.2 i (by have := h.size; omega) (by omega)).trans (h.block i hi)⟩
/-- A block of noughts. -/
def ZB (w : World) (g : Nat) : Prop := ∃ C : Array Value, w.heap[g]? = some (.cells C 5 (0, 0)) ∧ ∀ i, i < 65537 → C[i]? = some (.int .u8 0)
theorem ZB.lt {w : World} {g : Nat} (h : ZB w g) : g < w.heap.size := by obtain ⟨C, h, _⟩ := h; exact blk_lt h
theorem ZB.of {w w' : World} {g : Nat} (h : ZB w g) (e : w'.heap[g]? = w.heap[g]?) : ZB w' g := by obtain ⟨C, h, k⟩ := h; exact ⟨C, e.trans h, k⟩
theorem ZB.below {w w' : World} {g : Nat} (h : ZB w g) (hb : Below w.heap.size w w') : ZB w' g := h.of (hb.block g h.lt)
theorem ZB.alone {w w' : World} {g k : Nat} (h : ZB w g) (hb : Alone w w' k) (hk : g ≠ k) : ZB w' g := h.of (hb.2.2 g hk)
theorem ZB.amid {w w' : World} {g k : Nat} (h : ZB w g) (hb : Amid w w' k) (hk : g ≠ k) : ZB w' g := h.of (hb.2 g h.lt hk)
theorem ZB.cell {w : World} {g : Nat} (h : ZB w g) (i : Nat) (hi : i < 65537) : w.cell? ⟨g, i, none⟩ = some (.int .u8 0) := by
  obtain ⟨C, h, k⟩ := h
  exact (blk_cell h i).trans (k i hi)
/-- That many noughts. -/
def zs (n : Nat) : ByteArray := strOfNums (List.replicate n 0)
theorem zs_size (n : Nat) : (zs n).size = n := by rw [zs, str_size, List.length_replicate]
theorem zs_at (n i : Nat) (h : i < n) : (zs n)[i]! = 0 := by
  rw [getElem!_pos (zs n) i (by rw [zs_size]; exact h)]
  show ((List.replicate n (0 : Int)).map (fun b => b.toNat.toUInt8)).toArray[i]'_ = 0
  simp
theorem zs_ne (n i : Nat) (h : i < (zs n).size) : (zs n)[i]! ≠ 157 := by
  rw [zs_size] at h
  rw [zs_at n i h]
  decide
theorem zs_conv {w : World} {g : Nat} (h : ZB w g) (n cap : Nat) (hn : n ≤ 65537) : (convert 39 9 (.slice (some ⟨g, 0, none⟩) n cap)).run Try.prog w = .ok (.string (zs n)) w := by
  refine run_convert_bytes_arg w 39 5 Try.underlying39 Try.underlying5 g 0 n cap (List.replicate n 0) List.length_replicate (fun q hq => ?_) 9 Try.underlying9
  rw [Nat.zero_add, h.cell q (by omega)]
  simp [List.getD_eq_getElem?_getD, hq]
theorem run_neq_ptr_other {P : Program} (w : World) {tp te : TypeId} {j : TypeInfo} {a b : Addr} {ca cb : Array Value} {ta tb : TypeId} (hp : P.underlying tp = some (.pointer te)) (hte : P.info? te = some j) (hsz : j.size ≠ 0)
    (hne : a ≠ b) (ha : w.heap[a.block]? = some (.cells ca ta (0, 0))) (hb : w.heap[b.block]? = some (.cells cb tb (0, 0))) :
    (binOp .neq tp (.pointer (some a)) (.pointer (some b))).run P w = .ok (.bool true) w := by
  have h : ∀ d : Nat, (Op.equalIn (d + 1) tp (.pointer (some a)) (.pointer (some b))).run P w = .ok false w := fun d => by
    simp [Op.equalIn, run_underlying hp, sizeOf, typeInfo, hte, hsz, run_sameAddr_other w hne ha hb]
  simp only [binOp]
  simp [Op.equal, Op.maxDepth, h 9999]
theorem sp_info : (Try.prog.info? 92).map (fun i => decide (i.size = 0)) = some false := by kernel_rfl
theorem mk_info : (Try.prog.info? 5).map (fun i => (i.zero, i.size, i.bytes)) = some (some (.int .u8 0), 1, 1) := by kernel_rfl
theorem mk_noughts : ∃ C : Array Value, (∀ W : World, (Instr.makeSlice 39 (.int .i64 65537) (.int .i64 65537)).run Try.prog W = .ok (.slice (some ⟨W.heap.size, 0, none⟩) 65537 65537) (W.alloc (.cells C 5))) ∧ ∀ i, i < 65537 → C[i]? = some (.int .u8 0) := by
  refine ⟨madeCells #[.int .u8 0] 65537, fun W => print_make_int (P := Try.prog) 39 5 (.int .u8 0) 1 Try.underlying39 mk_info rfl (by omega) 65537 (by omega) (by decide) W, ?_⟩
  intro i hi
  rw [← Array.getElem?_toList, toList_madeCells_one (Value.int .u8 0) 65537, List.getElem?_replicate, if_pos hi]
theorem none_enc : ∃ z : ByteArray, z.size = 8192 ∧ frame_Encode.f 1 2 1 1 1 0 1 false (zs 8158) = some (z, 0) ∧ frame_Decode.f z = some (1, 2, 1, 1, 1, 0, 1, false, zs 8158, 0) := by
  have hM : May 1 2 1 1 1 1 false (zs 8158).size := by rw [zs_size]; unfold May; simp
  have hD := dec_enc 1 2 1 1 1 0 1 false (zs 8158) (by omega) (by omega) (by omega) (by omega) (by omega) (by omega) (by omega) hM
  have hz : (strOfNums (encF 1 2 1 1 1 0 1 false (zs 8158))).size = 8192 := by rw [str_size, encF, List.length_append, bodyL_len, be_len, zs_size]
  refine ⟨strOfNums (encF 1 2 1 1 1 0 1 false (zs 8158)), hz, ?_, ?_⟩
  · rw [frame_Encode.f, if_pos ⟨by omega, by omega, by omega, by omega, by omega, by omega, by omega⟩]
    show some (encR 1 2 1 1 1 0 1 false (zs 8158)) = _
    rw [encR, if_pos hM]
  · rw [frame_Decode.f, if_pos (by omega), hD]; rfl
theorem none_big : frame_Encode.f 1 2 1 1 1 0 1 false (zs 8159) = some (⟨#[]⟩, 210) := by
  rw [frame_Encode.f, if_pos ⟨by omega, by omega, by omega, by omega, by omega, by omega, by omega⟩]
  show some (encR 1 2 1 1 1 0 1 false (zs 8159)) = _
  rw [encR, if_neg (by rw [zs_size]; unfold May; simp)]
theorem str_nil (s : ByteArray) : (⟨#[]⟩ : ByteArray) ++ s = s := ByteArray.empty_append
theorem str_nil' (s : ByteArray) : s ++ (⟨#[]⟩ : ByteArray) = s := ByteArray.append_empty
theorem None_walk (w : World) : Calls Try.prog 10 #[] w fun r w' => r = .returned (.bool true) ∧ Below w.heap.size w w' := by
  obtain ⟨C, hmk, hC⟩ := mk_noughts
  obtain ⟨z, hz, hE, hD⟩ := none_enc
  have HE := Aside0.mk hE
  have HE2 := Aside0.mk none_big
  have HD := Aside0.mk hD
  have HZ := Aside0.mk hz
  clear hE hD hz
  have HC := Aside0.mk hC
  have HMK := Aside0.mk hmk
  clear hC hmk
  go_enter Try.func10, Try.ntmps10
  go_wp2_with fail
  refine (spNext_nil w).mono ?_
  unfold zeroF
  rintro e_ w1 ⟨rfl, hB1⟩
  go_wp2_with fail
  refine (spFeed_nil _ _).mono ?_
  rintro e_ w2 ⟨rfl, rfl⟩
  go_wp2_with fail
  refine (spLeft_nil _).mono ?_
  rintro e_ w2 ⟨rfl, rfl⟩
  go_wp2_with fail
  have hB2 : Below w.heap.size w (w1.alloc (.cells #[.int .u8 0, .int .u8 0, .int .u8 0, .int .u16 0, .int .u32 0, .int .u64 0, .int .u32 0, .bool false, .string ⟨#[]⟩] 28)) := hB1.alloc hB1.size _
  generalize w1.alloc (.cells #[.int .u8 0, .int .u8 0, .int .u8 0, .int .u16 0, .int .u32 0, .int .u64 0, .int .u32 0, .bool false, .string ⟨#[]⟩] 28) = w2 at hB2 ⊢
  refine (spNew w2).mono ?_
  rintro e_ w3 ⟨rfl, hS3, hb3⟩
  have hB3 := below_then hB2 (below_size hB2) hb3
  generalize hgs : w2.heap.size = gs at hS3 ⊢
  have hgw : w.heap.size ≤ gs := by rw [← hgs]; exact hB2.size
  clear hb3 hB2 hgs hB1
  go_wp2_with fail
  have hmk3 := HMK.out w3
  rw [hmk3]
  go_wp2_with fail
  clear hmk3
  have hZ4 : ZB (w3.alloc (.cells C 5)) w3.heap.size := ⟨C, W_push w3 _ _ _, HC.out⟩
  have hb4 := (Below.refl w3.heap.size w3).alloc (Nat.le_refl _) (.cells C 5)
  have hS4 := hS3.below hb4
  have hB4 := below_then hB3 (below_size hB3) hb4
  have hgz : gs < w3.heap.size := hS3.lt
  generalize hgz' : w3.heap.size = gz at hZ4 hgz hb4 ⊢
  clear hS3 hB3 hb4
  generalize w3.alloc (.cells C 5) = w4 at hS4 hB4 hZ4 ⊢
  rw [zs_conv hZ4 65537 65537 (Nat.le_refl _)]
  go_wp2_with fail
  refine (spFeed_full hS4 (zs 65537) (by show 0 ≤ 65536; omega) (by rw [zs_size]; omega) (by rw [zs_size]; show 65536 < 0 + 65537; omega)).mono ?_
  rintro e_ w5 ⟨rfl, rfl⟩
  go_wp2_with fail
  refine (spLeft hS4).mono ?_
  rintro e_ w5 ⟨rfl, rfl⟩
  rw [show ((⟨#[]⟩ : ByteArray).size : Int) = 0 from rfl]
  go_wp2_with fail
  rw [zs_conv hZ4 65536 65537 (by omega)]
  go_wp2_with fail
  refine (spFeed hS4 (zs 65536) (by rw [zs_size]; show 0 + 65536 ≤ 65536; omega)).mono ?_
  rintro e_ w5 ⟨rfl, hS5, ha5⟩
  rw [str_nil] at hS5
  have hB5 := below_alone hB4 ha5 hgw
  have hZ5 := hZ4.alone ha5 (by omega)
  clear hS4 hB4 hZ4 ha5
  go_wp2_with fail
  refine (spLeft hS5).mono ?_
  rintro e_ w6 ⟨rfl, rfl⟩
  rw [show ((zs 65536).size : Int) = 65536 by rw [zs_size]; rfl]
  go_wp2_with fail
  refine (spFeed_full hS5 ⟨#[120]⟩ (by rw [zs_size]; omega) (by show 1 ≤ 140737488351232; omega) (by rw [zs_size]; show 65536 < 65536 + 1; omega)).mono ?_
  rintro e_ w6 ⟨rfl, rfl⟩
  go_wp2_with fail
  refine (spFeed hS5 ⟨#[]⟩ (by rw [zs_size]; show 65536 + 0 ≤ 65536; omega)).mono ?_
  rintro e_ w6 ⟨rfl, hS6, ha6⟩
  rw [str_nil'] at hS6
  have hB6 := below_alone hB5 ha6 hgw
  have hZ6 := hZ5.alone ha6 (by omega)
  clear hS5 hB5 hZ5 ha6
  go_wp2_with fail
  refine (spNext_none hS6 (by rw [zs_size]; omega) (by omega) (zs_ne 65536)).mono ?_
  unfold zeroF
  rintro e_ w7 ⟨rfl, hS7, ha7⟩
  rw [zs_size, Nat.zero_add] at hS7
  have hB7 := below_amid hB6 ha7 hgw (Nat.le_refl _)
  have hZ7 := hZ6.amid ha7 (by omega)
  clear hS6 hB6 hZ6 ha7
  go_wp2_with fail
  have hb8 := (Below.refl w7.heap.size w7).alloc (Nat.le_refl _) (.cells #[.int .u8 0, .int .u8 0, .int .u8 0, .int .u16 0, .int .u32 0, .int .u64 0, .int .u32 0, .bool false, .string ⟨#[]⟩] 28)
  have hS8 := hS7.below hb8
  have hB8 := below_then hB7 (below_size hB7) hb8
  have hZ8 := hZ7.below hb8
  clear hS7 hB7 hZ7 hb8
  generalize w7.alloc (.cells #[.int .u8 0, .int .u8 0, .int .u8 0, .int .u16 0, .int .u32 0, .int .u64 0, .int .u32 0, .bool false, .string ⟨#[]⟩] 28) = w8 at hS8 hB8 hZ8 ⊢
  refine (spLeft hS8).mono ?_
  rintro e_ w9 ⟨rfl, rfl⟩
  rw [show ((⟨#[]⟩ : ByteArray).size : Int) = 0 from rfl]
  go_wp2_with fail
  refine (PF.concordlaw21_one.calls 1 2 1 1 1 0 1 false ⟨#[104, 105]⟩ w8 rfl).mono ?_
  rintro e_ w9 ⟨rfl, hb9⟩
  have hb9 : Below w8.heap.size w8 w9 := by first | exact hb9 | exact hb9.below
  have hS9 := hS8.below hb9
  have hB9 := below_then hB8 (below_size hB8) hb9
  have hZ9 := hZ8.below hb9
  clear hS8 hB8 hZ8 hb9
  go_wp2_with fail
  have hX10 := W_push w9 #[.int .u8 1, .int .u8 2, .int .u8 1, .int .u16 1, .int .u32 1, .int .u64 0, .int .u32 1, .bool false, .string ⟨#[104, 105]⟩] 28 (0, 0)
  have hb10 := (Below.refl w9.heap.size w9).alloc (Nat.le_refl _) (.cells #[.int .u8 1, .int .u8 2, .int .u8 1, .int .u16 1, .int .u32 1, .int .u64 0, .int .u32 1, .bool false, .string ⟨#[104, 105]⟩] 28)
  have hS10 := hS9.below hb10
  have hB10 := below_then hB9 (below_size hB9) hb10
  have hZ10 := hZ9.below hb10
  have hxs : gs < w9.heap.size := hS9.lt
  have hxz : gz < w9.heap.size := hZ9.lt
  have hxw : w.heap.size ≤ w9.heap.size := hB9.size
  generalize hgx : w9.heap.size = gx at hX10 hb10 hxs hxz hxw ⊢
  clear hS9 hB9 hZ9 hb10 hgx
  generalize w9.alloc (.cells #[.int .u8 1, .int .u8 2, .int .u8 1, .int .u16 1, .int .u32 1, .int .u64 0, .int .u32 1, .bool false, .string ⟨#[104, 105]⟩] 28) = w10 at hX10 hS10 hB10 hZ10 ⊢
  have xk0 : w10.cell? ⟨gx, 0, none⟩ = some (.int .u8 1) := (blk_cell hX10 0).trans rfl
  have xz0 : w10.frozen? ⟨gx, 0, none⟩ = false := blk_frozen hX10 0
  have xk1 : w10.cell? ⟨gx, 1, none⟩ = some (.int .u8 2) := (blk_cell hX10 1).trans rfl
  have xz1 : w10.frozen? ⟨gx, 1, none⟩ = false := blk_frozen hX10 1
  have xk2 : w10.cell? ⟨gx, 2, none⟩ = some (.int .u8 1) := (blk_cell hX10 2).trans rfl
  have xz2 : w10.frozen? ⟨gx, 2, none⟩ = false := blk_frozen hX10 2
  have xk3 : w10.cell? ⟨gx, 3, none⟩ = some (.int .u16 1) := (blk_cell hX10 3).trans rfl
  have xz3 : w10.frozen? ⟨gx, 3, none⟩ = false := blk_frozen hX10 3
  have xk4 : w10.cell? ⟨gx, 4, none⟩ = some (.int .u32 1) := (blk_cell hX10 4).trans rfl
  have xz4 : w10.frozen? ⟨gx, 4, none⟩ = false := blk_frozen hX10 4
  have xk5 : w10.cell? ⟨gx, 5, none⟩ = some (.int .u64 0) := (blk_cell hX10 5).trans rfl
  have xz5 : w10.frozen? ⟨gx, 5, none⟩ = false := blk_frozen hX10 5
  have xk6 : w10.cell? ⟨gx, 6, none⟩ = some (.int .u32 1) := (blk_cell hX10 6).trans rfl
  have xz6 : w10.frozen? ⟨gx, 6, none⟩ = false := blk_frozen hX10 6
  have xk7 : w10.cell? ⟨gx, 7, none⟩ = some (.bool false) := (blk_cell hX10 7).trans rfl
  have xz7 : w10.frozen? ⟨gx, 7, none⟩ = false := blk_frozen hX10 7
  have xk8 : w10.cell? ⟨gx, 8, none⟩ = some (.string ⟨#[104, 105]⟩) := (blk_cell hX10 8).trans rfl
  have xz8 : w10.frozen? ⟨gx, 8, none⟩ = false := blk_frozen hX10 8
  rw [zs_conv hZ10 8158 65537 (by omega)]
  go_wp2_with fail
  clear xk0 xz0 xk1 xz1 xk2 xz2 xk3 xz3 xk4 xz4 xk5 xz5 xk6 xz6 xk7 xz7 xk8 xz8
  have hX11 : (w10.setCell ⟨gx, 8, none⟩ (.string (zs 8158))).heap[gx]? = some (.cells #[.int .u8 1, .int .u8 2, .int .u8 1, .int .u16 1, .int .u32 1, .int .u64 0, .int .u32 1, .bool false, .string (zs 8158)] 28 (0, 0)) := blk_set hX10 8 (.string (zs 8158))
  have ha11 : Alone w10 (w10.setCell ⟨gx, 8, none⟩ (.string (zs 8158))) gx := Alone_set w10 0 gx 8 (.string (zs 8158))
  generalize w10.setCell ⟨gx, 8, none⟩ (.string (zs 8158)) = w11 at hX11 ha11 ⊢
  have hS11 := hS10.alone ha11 (by omega)
  have hZ11 := hZ10.alone ha11 (by omega)
  have hB11 := below_alone hB10 ha11 hxw
  clear hS10 hZ10 hB10 hX10 ha11
  refine (frame_Encode.calls _ _ _ _ _ _ _ _ _ _ _ w11 HE.out).mono ?_
  rintro e_ w12 ⟨rfl, hb12⟩
  have hX12 := (hb12.block _ (blk_lt hX11)).trans hX11
  have hS12 := hS11.below hb12
  have hZ12 := hZ11.below hb12
  have hB12 := below_then hB11 (below_size hB11) hb12
  clear hS11 hZ11 hB11 hX11 hb12
  have xk0 : w12.cell? ⟨gx, 0, none⟩ = some (.int .u8 1) := (blk_cell hX12 0).trans rfl
  have xz0 : w12.frozen? ⟨gx, 0, none⟩ = false := blk_frozen hX12 0
  have xk1 : w12.cell? ⟨gx, 1, none⟩ = some (.int .u8 2) := (blk_cell hX12 1).trans rfl
  have xz1 : w12.frozen? ⟨gx, 1, none⟩ = false := blk_frozen hX12 1
  have xk2 : w12.cell? ⟨gx, 2, none⟩ = some (.int .u8 1) := (blk_cell hX12 2).trans rfl
  have xz2 : w12.frozen? ⟨gx, 2, none⟩ = false := blk_frozen hX12 2
  have xk3 : w12.cell? ⟨gx, 3, none⟩ = some (.int .u16 1) := (blk_cell hX12 3).trans rfl
  have xz3 : w12.frozen? ⟨gx, 3, none⟩ = false := blk_frozen hX12 3
  have xk4 : w12.cell? ⟨gx, 4, none⟩ = some (.int .u32 1) := (blk_cell hX12 4).trans rfl
  have xz4 : w12.frozen? ⟨gx, 4, none⟩ = false := blk_frozen hX12 4
  have xk5 : w12.cell? ⟨gx, 5, none⟩ = some (.int .u64 0) := (blk_cell hX12 5).trans rfl
  have xz5 : w12.frozen? ⟨gx, 5, none⟩ = false := blk_frozen hX12 5
  have xk6 : w12.cell? ⟨gx, 6, none⟩ = some (.int .u32 1) := (blk_cell hX12 6).trans rfl
  have xz6 : w12.frozen? ⟨gx, 6, none⟩ = false := blk_frozen hX12 6
  have xk7 : w12.cell? ⟨gx, 7, none⟩ = some (.bool false) := (blk_cell hX12 7).trans rfl
  have xz7 : w12.frozen? ⟨gx, 7, none⟩ = false := blk_frozen hX12 7
  have xk8 : w12.cell? ⟨gx, 8, none⟩ = some (.string (zs 8158)) := (blk_cell hX12 8).trans rfl
  have xz8 : w12.frozen? ⟨gx, 8, none⟩ = false := blk_frozen hX12 8
  go_wp2_with fail
  rw [zs_conv hZ12 8159 65537 (by omega)]
  go_wp2_with fail
  clear xk0 xz0 xk1 xz1 xk2 xz2 xk3 xz3 xk4 xz4 xk5 xz5 xk6 xz6 xk7 xz7 xk8 xz8
  have hX13 : (w12.setCell ⟨gx, 8, none⟩ (.string (zs 8159))).heap[gx]? = some (.cells #[.int .u8 1, .int .u8 2, .int .u8 1, .int .u16 1, .int .u32 1, .int .u64 0, .int .u32 1, .bool false, .string (zs 8159)] 28 (0, 0)) := blk_set hX12 8 (.string (zs 8159))
  have ha13 : Alone w12 (w12.setCell ⟨gx, 8, none⟩ (.string (zs 8159))) gx := Alone_set w12 0 gx 8 (.string (zs 8159))
  generalize w12.setCell ⟨gx, 8, none⟩ (.string (zs 8159)) = w13 at hX13 ha13 ⊢
  have hS13 := hS12.alone ha13 (by omega)
  have hB13 := below_alone hB12 ha13 hxw
  clear hS12 hZ12 hB12 hX12 ha13
  refine (frame_Encode.calls _ _ _ _ _ _ _ _ _ _ _ w13 HE2.out).mono ?_
  rintro e_ w14 ⟨rfl, hb14⟩
  have hS14 := hS13.below hb14
  have hB14 := below_then hB13 (below_size hB13) hb14
  clear hS13 hB13 hX13 hb14
  have hzl : ((z.size : Int) != 8192) = false := by rw [HZ.out]; rfl
  go_wp2_with fail
  refine (spFeed hS14 z (by rw [HZ.out]; show 0 + 8192 ≤ 65536; omega)).mono ?_
  rintro e_ w15 ⟨rfl, hS15, ha15⟩
  have hB15 := below_alone hB14 ha15 hgw
  clear hS14 hB14 ha15
  go_wp2_with fail
  refine (spNext_frame hS15 (by rw [str_nil, HZ.out]; omega) (by omega) (fun i hi => absurd hi (Nat.not_lt_zero i)) 1 2 1 1 1 0 1 false (zs 8158) HD.out).mono ?_
  rintro e_ w16 ⟨rfl, hS16, ha16⟩
  have hB16 := below_amid hB15 ha16 hgw (Nat.le_refl _)
  have hg16 := hS16.lt
  clear hS15 hB15 ha16
  rw [show ((65536 + (⟨#[]⟩ : ByteArray).size : Nat) : Int) = 65536 from rfl]
  have hzb : ((zs 8158).size : Int) = 8158 := by rw [zs_size]; rfl
  go_wp2_with fail
  refine (spNew _).mono ?_
  rintro e_ w17 ⟨rfl, hS17, hb17⟩
  have hb16 := (Below.refl w16.heap.size w16).alloc (Nat.le_refl _) (.cells #[.int .u8 1, .int .u8 2, .int .u8 1, .int .u16 1, .int .u32 1, .int .u64 0, .int .u32 1, .bool false, .string (zs 8158)] 28)
  have hB17 := below_then (below_then hB16 (below_size hB16) hb16) (below_size (below_then hB16 (below_size hB16) hb16)) hb17
  have hne := Nat.lt_of_lt_of_le hg16 hb16.size
  have hS18 : SP w17 gs ⟨#[]⟩ 0 := (hS16.below hb16).below hb17
  generalize (w16.alloc (.cells #[.int .u8 1, .int .u8 2, .int .u8 1, .int .u16 1, .int .u32 1, .int .u64 0, .int .u32 1, .bool false, .string (zs 8158)] 28)).heap.size = gn at hne hS17 ⊢
  clear hb17 hb16 hB16
  obtain ⟨ji, hji, hjz⟩ := Option.map_eq_some_iff.1 sp_info
  go_wp2_with fail
  rw [run_neq_ptr_other w17 (a := ⟨gn, 0, none⟩) (b := ⟨gs, 0, none⟩) Try.underlying42 hji (by simpa using hjz) (by intro h; injection h; omega) hS17 hS18]
  go_wp2_with fail
  go_ret
  exact ⟨rfl, hB17⟩
theorem FrameNone_walk (w : World) : Calls Try.prog 10 #[] w fun r w' => r = .returned (.bool true) ∧ Below w.heap.size w w' := None_walk w
end Go.Proofs.Ytgboppgghidgbaa.My
