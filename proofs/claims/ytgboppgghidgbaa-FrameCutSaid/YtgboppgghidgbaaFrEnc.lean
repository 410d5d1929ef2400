/- frame.Encode. -/
import Derived.Test.YtgboppgghidgbaaFrMay
import Derived.Test.YtgboppgghidgbaaFrW4
import Derived.Test.YtgboppgghidgbaaCrcAll
namespace Go.Proofs.Ytgboppgghidgbaa.My
open Go.RowKit Go.Proofs.YtgboppgghidgbaaW.PrintWords Go.Proofs.YtgboppgghidgbaaW.PrintLast Go.Proofs.YtgboppgghidgbaaW.PrintMore Go.Proofs.Ytgboppgghidgbaa
set_option linter.unusedSimpArgs false
set_option linter.unusedVariables false
set_option maxRecDepth 100000
set_option maxHeartbeats 1600000
theorem WS_below {w w' : World} {base g : Nat} {v : Value} {xs : List Int} (h : WS w base g v xs) (hb : Below w.heap.size w w') : WS w' base g v xs := ⟨h.1, (hb.block g (blk_lt h.2.1)).trans h.2.1, Kd.R_below h.2.2 hb⟩
/-- A frame as a value. -/
def frV (a b c d e t g : Nat) (h : Bool) (s : ByteArray) : Value := .agg #[.int .u8 a, .int .u8 b, .int .u8 c, .int .u16 d, .int .u32 e, .int .u64 t, .int .u32 g, .bool h, .string s]
def markS : ByteArray := ⟨#[157, 227]⟩
/-- The head of a frame of n bytes' body, without and with its sum. -/
def headL (n : Nat) : List Int := [] ++ bytesOf markS ++ be 2 (n + 34)
def headS (n : Nat) : List Int := headL n ++ be 4 (Crc.sum (bytesN (strOfNums (headL n))))
/-- A frame's bytes without their sum, with it. -/
def bodyL (a b c d e t g : Nat) (h : Bool) (s : ByteArray) : List Int := headS s.size ++ [(a : Int)] ++ [(b : Int)] ++ [(c : Int)] ++ be 2 d ++ be 4 e ++ be 8 t ++ be 4 g ++ [if h = true then 1 else 0] ++ bytesOf s
def encF (a b c d e t g : Nat) (h : Bool) (s : ByteArray) : List Int := bodyL a b c d e t g h s ++ be 4 (Crc.sum (bytesN (strOfNums (bodyL a b c d e t g h s))))
theorem bytesOf_len (s : ByteArray) : (bytesOf s).length = s.size := by simp [bytesOf, data_length]
theorem sum_lt (s : ByteArray) : Crc.sum (bytesN s) < 4294967296 := Crc.sumOn_lt _ (by omega) (bytesN_lt s)
theorem markS_size : markS.size = 2 := rfl
theorem headL_len (n : Nat) : (headL n).length = 4 := by simp [headL, be_len, bytesOf_len]; rfl
theorem headS_len (n : Nat) : (headS n).length = 8 := by simp [headS, headL_len, be_len]
theorem bodyL_len (a b c d e t g : Nat) (h : Bool) (s : ByteArray) : (bodyL a b c d e t g h s).length = 30 + s.size := by simp [bodyL, headS_len, be_len, bytesOf_len]; omega
theorem str_size (l : List Int) : (strOfNums l).size = l.length := by simp [strOfNums, ByteArray.size]
theorem enc_bad (a b c d e t g : Nat) (h : Bool) (s : ByteArray) (w : World) (ha : a < 256) (hb : b < 256) (hM : ¬ May a b c d e g h s.size) : Calls Try.prog 11 #[frV a b c d e t g h s] w fun r w' => r = .returned (.tuple #[.string ⟨#[]⟩, .int .i64 210]) ∧ Below w.heap.size w w' := by
  unfold frV
  go_enter Try.func11, Try.ntmps11
  go_wp2_with fail
  refine (may_walk a b c d e t g h s _ ha hb).mono ?_
  rintro e w1 ⟨rfl, hb1⟩
  rw [decide_eq_false hM]
  go_wp2_with fail
  go_ret2
  have hB := (Below.refl w.heap.size w).alloc (Nat.le_refl _) (.cells #[.int .u8 a, .int .u8 b, .int .u8 c, .int .u16 d, .int .u32 e, .int .u64 t, .int .u32 g, .bool h, .string s] 28)
  exact ⟨rfl, hB.trans (hb1.mono (below_size hB))⟩
theorem enc_good (a b c d e t g : Nat) (h : Bool) (s : ByteArray) (w : World) (ha : a < 256) (hb : b < 256) (hd : d < 65536) (he : e < 4294967296) (ht : t < 18446744073709551616) (hg : g < 4294967296) (hM : May a b c d e g h s.size) : Calls Try.prog 11 #[frV a b c d e t g h s] w fun r w' => r = .returned (.tuple #[.string (strOfNums (encF a b c d e t g h s)), .int .i64 0]) ∧ Below w.heap.size w w' := by
  have hs : s.size ≤ 8158 := hM.2.2.2.2.2.2.2
  have hw34 : IntKind.u64.wrap ((s.size : Int) + 34) = ((s.size + 34 : Nat) : Int) := by rw [IntKind.wrap_u64]; omega
  have hp2 : s.size + 34 < 256 ^ 2 := by omega
  have hd2 : d < 256 ^ 2 := by omega
  have he4 : e < 256 ^ 4 := by omega
  have ht8 : t < 256 ^ 8 := by omega
  have hg4 : g < 256 ^ 4 := by omega
  have hwd : IntKind.u64.wrap (d : Int) = d := by rw [IntKind.wrap_u64]; omega
  have hwe : IntKind.u64.wrap (e : Int) = e := by rw [IntKind.wrap_u64]; omega
  have hwg : IntKind.u64.wrap (g : Int) = g := by rw [IntKind.wrap_u64]; omega
  unfold frV
  go_enter Try.func11, Try.ntmps11
  go_wp2_with fail
  generalize hW : w.alloc (.cells #[.int .u8 a, .int .u8 b, .int .u8 c, .int .u16 d, .int .u32 e, .int .u64 t, .int .u32 g, .bool h, .string s] 28) = W
  have b0 : W.heap[w.heap.size]? = some (.cells #[.int .u8 a, .int .u8 b, .int .u8 c, .int .u16 d, .int .u32 e, .int .u64 t, .int .u32 g, .bool h, .string s] 28 (0, 0)) := by rw [← hW]; show (w.heap.push _)[w.heap.size]? = _; rw [Array.getElem?_push_size]
  have hB : Below w.heap.size w W := by rw [← hW]; exact (Below.refl _ _).alloc (Nat.le_refl _) _
  have c0 : ∀ w' : World, Below W.heap.size W w' → w'.cell? ⟨w.heap.size, 0, none⟩ = some (.int .u8 a) := fun w' h => pw_cell_below h ((blk_cell b0 0).trans rfl)
  have c1 : ∀ w' : World, Below W.heap.size W w' → w'.cell? ⟨w.heap.size, 1, none⟩ = some (.int .u8 b) := fun w' h => pw_cell_below h ((blk_cell b0 1).trans rfl)
  have c2 : ∀ w' : World, Below W.heap.size W w' → w'.cell? ⟨w.heap.size, 2, none⟩ = some (.int .u8 c) := fun w' h => pw_cell_below h ((blk_cell b0 2).trans rfl)
  have c3 : ∀ w' : World, Below W.heap.size W w' → w'.cell? ⟨w.heap.size, 3, none⟩ = some (.int .u16 d) := fun w' h => pw_cell_below h ((blk_cell b0 3).trans rfl)
  have c4 : ∀ w' : World, Below W.heap.size W w' → w'.cell? ⟨w.heap.size, 4, none⟩ = some (.int .u32 e) := fun w' h => pw_cell_below h ((blk_cell b0 4).trans rfl)
  have c5 : ∀ w' : World, Below W.heap.size W w' → w'.cell? ⟨w.heap.size, 5, none⟩ = some (.int .u64 t) := fun w' h => pw_cell_below h ((blk_cell b0 5).trans rfl)
  have c6 : ∀ w' : World, Below W.heap.size W w' → w'.cell? ⟨w.heap.size, 6, none⟩ = some (.int .u32 g) := fun w' h => pw_cell_below h ((blk_cell b0 6).trans rfl)
  have c7 : ∀ w' : World, Below W.heap.size W w' → w'.cell? ⟨w.heap.size, 7, none⟩ = some (.bool h) := fun w' h => pw_cell_below h ((blk_cell b0 7).trans rfl)
  have c8 : ∀ w' : World, Below W.heap.size W w' → w'.cell? ⟨w.heap.size, 8, none⟩ = some (.string s) := fun w' h => pw_cell_below h ((blk_cell b0 8).trans rfl)
  clear hW b0
  refine (may_walk a b c d e t g h s W ha hb).mono ?_
  rintro e_ w1 ⟨rfl, hb1⟩
  rw [decide_eq_true hM]
  have k0 := c0 _ hb1
  have k1 := c1 _ hb1
  have k2 := c2 _ hb1
  have k3 := c3 _ hb1
  have k4 := c4 _ hb1
  have k5 := c5 _ hb1
  have k6 := c6 _ hb1
  have k7 := c7 _ hb1
  have k8 := c8 _ hb1
  go_wp2_with fail
  refine (newWriterW _).mono ?_
  rintro e_ w2 ⟨rfl, hw2⟩
  have hs2 : WS w2 W.heap.size w1.heap.size (.slice none 0 0) [] := by rw [hw2]; exact WS_new w1 _ (below_size hb1)
  have hb2 : Below W.heap.size W w2 := by rw [hw2]; exact hb1.alloc (below_size hb1) _
  clear hw2
  generalize w1.heap.size = gw at hs2 ⊢
  clear k0 k1 k2 k3 k4 k5 k6 k7 k8
  have k0 := c0 _ hb2
  have k1 := c1 _ hb2
  have k2 := c2 _ hb2
  have k3 := c3 _ hb2
  have k4 := c4 _ hb2
  have k5 := c5 _ hb2
  have k6 := c6 _ hb2
  have k7 := c7 _ hb2
  have k8 := c8 _ hb2
  go_wp2_with fail
  refine (Raw_calls gw _ _ markS W w2 hb2 hs2 (by first | (simp [be_len, bytesOf_len, headS_len, headL_len, bodyL_len, markS_size]; done) | (simp [be_len, bytesOf_len, headS_len, headL_len, bodyL_len, markS_size]; omega))).mono ?_
  rintro e_ w3 ⟨rfl, v3, hs3, hb3⟩
  clear k0 k1 k2 k3 k4 k5 k6 k7 k8
  have k0 := c0 _ hb3
  have k1 := c1 _ hb3
  have k2 := c2 _ hb3
  have k3 := c3 _ hb3
  have k4 := c4 _ hb3
  have k5 := c5 _ hb3
  have k6 := c6 _ hb3
  have k7 := c7 _ hb3
  have k8 := c8 _ hb3
  go_wp2_with fail
  refine (Fixed_calls gw _ _ 2 (s.size + 34) W w3 hb3 hs3 (by first | (simp [be_len, bytesOf_len, headS_len, headL_len, bodyL_len, markS_size]; done) | (simp [be_len, bytesOf_len, headS_len, headL_len, bodyL_len, markS_size]; omega)) (by omega) (by omega) hp2).mono ?_
  rintro e_ w4 ⟨rfl, v4, hs4, hb4, _⟩
  clear k0 k1 k2 k3 k4 k5 k6 k7 k8
  have k0 := c0 _ hb4
  have k1 := c1 _ hb4
  have k2 := c2 _ hb4
  have k3 := c3 _ hb4
  have k4 := c4 _ hb4
  have k5 := c5 _ hb4
  have k6 := c6 _ hb4
  have k7 := c7 _ hb4
  have k8 := c8 _ hb4
  have hf4 : [] ++ bytesOf markS ++ be 2 (s.size + 34) = headL s.size := rfl
  rw [hf4] at hs4
  go_wp2_with fail
  refine (Told_calls gw _ _ _ _ hs4).mono ?_
  rintro e_ w_ ⟨rfl, rfl⟩
  go_wp2_with fail
  refine (Sum_calls _ _ (by rw [str_size]; first | (simp [be_len, bytesOf_len, headS_len, headL_len, bodyL_len, markS_size]; done) | (simp [be_len, bytesOf_len, headS_len, headL_len, bodyL_len, markS_size]; omega))).mono ?_
  rintro e_ w5 ⟨rfl, hbs5⟩
  have hs5 := WS_below hs4 hbs5
  have hb5 := below_then hb4 (below_size hb4) hbs5
  have hq5 := sum_lt (strOfNums (headL s.size))
  have hwq5 : IntKind.u64.wrap ((Crc.sum (bytesN (strOfNums (headL s.size))) : Nat) : Int) = ((Crc.sum (bytesN (strOfNums (headL s.size))) : Nat) : Int) := by rw [IntKind.wrap_u64]; omega
  clear k0 k1 k2 k3 k4 k5 k6 k7 k8
  have k0 := c0 _ hb5
  have k1 := c1 _ hb5
  have k2 := c2 _ hb5
  have k3 := c3 _ hb5
  have k4 := c4 _ hb5
  have k5 := c5 _ hb5
  have k6 := c6 _ hb5
  have k7 := c7 _ hb5
  have k8 := c8 _ hb5
  go_wp2_with fail
  refine (Fixed_calls gw _ _ 4 (Crc.sum (bytesN (strOfNums (headL s.size)))) W w5 hb5 hs5 (by first | (simp [be_len, bytesOf_len, headS_len, headL_len, bodyL_len, markS_size]; done) | (simp [be_len, bytesOf_len, headS_len, headL_len, bodyL_len, markS_size]; omega)) (by omega) (by omega) (by omega)).mono ?_
  rintro e_ w6 ⟨rfl, v6, hs6, hb6, _⟩
  clear k0 k1 k2 k3 k4 k5 k6 k7 k8
  have k0 := c0 _ hb6
  have k1 := c1 _ hb6
  have k2 := c2 _ hb6
  have k3 := c3 _ hb6
  have k4 := c4 _ hb6
  have k5 := c5 _ hb6
  have k6 := c6 _ hb6
  have k7 := c7 _ hb6
  have k8 := c8 _ hb6
  have hf6 : headL s.size ++ be 4 (Crc.sum (bytesN (strOfNums (headL s.size)))) = headS s.size := rfl
  rw [hf6] at hs6
  go_wp2_with fail
  refine (Byte_calls gw _ _ a W w6 hb6 hs6 (by first | (simp [be_len, bytesOf_len, headS_len, headL_len, bodyL_len, markS_size]; done) | (simp [be_len, bytesOf_len, headS_len, headL_len, bodyL_len, markS_size]; omega))).mono ?_
  rintro e_ w7 ⟨rfl, v7, hs7, hb7, _⟩
  clear k0 k1 k2 k3 k4 k5 k6 k7 k8
  have k0 := c0 _ hb7
  have k1 := c1 _ hb7
  have k2 := c2 _ hb7
  have k3 := c3 _ hb7
  have k4 := c4 _ hb7
  have k5 := c5 _ hb7
  have k6 := c6 _ hb7
  have k7 := c7 _ hb7
  have k8 := c8 _ hb7
  go_wp2_with fail
  refine (Byte_calls gw _ _ b W w7 hb7 hs7 (by first | (simp [be_len, bytesOf_len, headS_len, headL_len, bodyL_len, markS_size]; done) | (simp [be_len, bytesOf_len, headS_len, headL_len, bodyL_len, markS_size]; omega))).mono ?_
  rintro e_ w8 ⟨rfl, v8, hs8, hb8, _⟩
  clear k0 k1 k2 k3 k4 k5 k6 k7 k8
  have k0 := c0 _ hb8
  have k1 := c1 _ hb8
  have k2 := c2 _ hb8
  have k3 := c3 _ hb8
  have k4 := c4 _ hb8
  have k5 := c5 _ hb8
  have k6 := c6 _ hb8
  have k7 := c7 _ hb8
  have k8 := c8 _ hb8
  go_wp2_with fail
  refine (Byte_calls gw _ _ c W w8 hb8 hs8 (by first | (simp [be_len, bytesOf_len, headS_len, headL_len, bodyL_len, markS_size]; done) | (simp [be_len, bytesOf_len, headS_len, headL_len, bodyL_len, markS_size]; omega))).mono ?_
  rintro e_ w9 ⟨rfl, v9, hs9, hb9, _⟩
  clear k0 k1 k2 k3 k4 k5 k6 k7 k8
  have k0 := c0 _ hb9
  have k1 := c1 _ hb9
  have k2 := c2 _ hb9
  have k3 := c3 _ hb9
  have k4 := c4 _ hb9
  have k5 := c5 _ hb9
  have k6 := c6 _ hb9
  have k7 := c7 _ hb9
  have k8 := c8 _ hb9
  go_wp2_with fail
  refine (Fixed_calls gw _ _ 2 d W w9 hb9 hs9 (by first | (simp [be_len, bytesOf_len, headS_len, headL_len, bodyL_len, markS_size]; done) | (simp [be_len, bytesOf_len, headS_len, headL_len, bodyL_len, markS_size]; omega)) (by omega) (by omega) hd2).mono ?_
  rintro e_ w10 ⟨rfl, v10, hs10, hb10, _⟩
  clear k0 k1 k2 k3 k4 k5 k6 k7 k8
  have k0 := c0 _ hb10
  have k1 := c1 _ hb10
  have k2 := c2 _ hb10
  have k3 := c3 _ hb10
  have k4 := c4 _ hb10
  have k5 := c5 _ hb10
  have k6 := c6 _ hb10
  have k7 := c7 _ hb10
  have k8 := c8 _ hb10
  go_wp2_with fail
  refine (Fixed_calls gw _ _ 4 e W w10 hb10 hs10 (by first | (simp [be_len, bytesOf_len, headS_len, headL_len, bodyL_len, markS_size]; done) | (simp [be_len, bytesOf_len, headS_len, headL_len, bodyL_len, markS_size]; omega)) (by omega) (by omega) he4).mono ?_
  rintro e_ w11 ⟨rfl, v11, hs11, hb11, _⟩
  clear k0 k1 k2 k3 k4 k5 k6 k7 k8
  have k0 := c0 _ hb11
  have k1 := c1 _ hb11
  have k2 := c2 _ hb11
  have k3 := c3 _ hb11
  have k4 := c4 _ hb11
  have k5 := c5 _ hb11
  have k6 := c6 _ hb11
  have k7 := c7 _ hb11
  have k8 := c8 _ hb11
  go_wp2_with fail
  refine (Fixed_calls gw _ _ 8 t W w11 hb11 hs11 (by first | (simp [be_len, bytesOf_len, headS_len, headL_len, bodyL_len, markS_size]; done) | (simp [be_len, bytesOf_len, headS_len, headL_len, bodyL_len, markS_size]; omega)) (by omega) (by omega) ht8).mono ?_
  rintro e_ w12 ⟨rfl, v12, hs12, hb12, _⟩
  clear k0 k1 k2 k3 k4 k5 k6 k7 k8
  have k0 := c0 _ hb12
  have k1 := c1 _ hb12
  have k2 := c2 _ hb12
  have k3 := c3 _ hb12
  have k4 := c4 _ hb12
  have k5 := c5 _ hb12
  have k6 := c6 _ hb12
  have k7 := c7 _ hb12
  have k8 := c8 _ hb12
  go_wp2_with fail
  refine (Fixed_calls gw _ _ 4 g W w12 hb12 hs12 (by first | (simp [be_len, bytesOf_len, headS_len, headL_len, bodyL_len, markS_size]; done) | (simp [be_len, bytesOf_len, headS_len, headL_len, bodyL_len, markS_size]; omega)) (by omega) (by omega) hg4).mono ?_
  rintro e_ w13 ⟨rfl, v13, hs13, hb13, _⟩
  clear k0 k1 k2 k3 k4 k5 k6 k7 k8
  have k0 := c0 _ hb13
  have k1 := c1 _ hb13
  have k2 := c2 _ hb13
  have k3 := c3 _ hb13
  have k4 := c4 _ hb13
  have k5 := c5 _ hb13
  have k6 := c6 _ hb13
  have k7 := c7 _ hb13
  have k8 := c8 _ hb13
  cases h
  · go_wp2_with fail
    refine (Byte_calls gw _ _ 0 W w13 hb13 hs13 (by first | (simp [be_len, bytesOf_len, headS_len, headL_len, bodyL_len, markS_size]; done) | (simp [be_len, bytesOf_len, headS_len, headL_len, bodyL_len, markS_size]; omega))).mono ?_
    rintro e_ w14 ⟨rfl, v14, hs14, hb14, _⟩
    clear k0 k1 k2 k3 k4 k5 k6 k7 k8
    have k0 := c0 _ hb14
    have k1 := c1 _ hb14
    have k2 := c2 _ hb14
    have k3 := c3 _ hb14
    have k4 := c4 _ hb14
    have k5 := c5 _ hb14
    have k6 := c6 _ hb14
    have k7 := c7 _ hb14
    have k8 := c8 _ hb14
    go_wp2_with fail
    refine (Raw_calls gw _ _ s W w14 hb14 hs14 (by first | (simp [be_len, bytesOf_len, headS_len, headL_len, bodyL_len, markS_size]; done) | (simp [be_len, bytesOf_len, headS_len, headL_len, bodyL_len, markS_size]; omega))).mono ?_
    rintro e_ w15 ⟨rfl, v15, hs15, hb15⟩
    clear k0 k1 k2 k3 k4 k5 k6 k7 k8
    have k0 := c0 _ hb15
    have k1 := c1 _ hb15
    have k2 := c2 _ hb15
    have k3 := c3 _ hb15
    have k4 := c4 _ hb15
    have k5 := c5 _ hb15
    have k6 := c6 _ hb15
    have k7 := c7 _ hb15
    have k8 := c8 _ hb15
    have hf15 : headS s.size ++ [(a : Int)] ++ [(b : Int)] ++ [(c : Int)] ++ be 2 d ++ be 4 e ++ be 8 t ++ be 4 g ++ [0] ++ bytesOf s = bodyL a b c d e t g false s := rfl
    rw [hf15] at hs15
    go_wp2_with fail
    refine (Told_calls gw _ _ _ _ hs15).mono ?_
    rintro e_ w_ ⟨rfl, rfl⟩
    go_wp2_with fail
    refine (Sum_calls _ _ (by rw [str_size]; first | (simp [be_len, bytesOf_len, headS_len, headL_len, bodyL_len, markS_size]; done) | (simp [be_len, bytesOf_len, headS_len, headL_len, bodyL_len, markS_size]; omega))).mono ?_
    rintro e_ w16 ⟨rfl, hbs16⟩
    have hs16 := WS_below hs15 hbs16
    have hb16 := below_then hb15 (below_size hb15) hbs16
    have hq16 := sum_lt (strOfNums (bodyL a b c d e t g false s))
    have hwq16 : IntKind.u64.wrap ((Crc.sum (bytesN (strOfNums (bodyL a b c d e t g false s))) : Nat) : Int) = ((Crc.sum (bytesN (strOfNums (bodyL a b c d e t g false s))) : Nat) : Int) := by rw [IntKind.wrap_u64]; omega
    clear k0 k1 k2 k3 k4 k5 k6 k7 k8
    have k0 := c0 _ hb16
    have k1 := c1 _ hb16
    have k2 := c2 _ hb16
    have k3 := c3 _ hb16
    have k4 := c4 _ hb16
    have k5 := c5 _ hb16
    have k6 := c6 _ hb16
    have k7 := c7 _ hb16
    have k8 := c8 _ hb16
    go_wp2_with fail
    refine (Fixed_calls gw _ _ 4 (Crc.sum (bytesN (strOfNums (bodyL a b c d e t g false s)))) W w16 hb16 hs16 (by first | (simp [be_len, bytesOf_len, headS_len, headL_len, bodyL_len, markS_size]; done) | (simp [be_len, bytesOf_len, headS_len, headL_len, bodyL_len, markS_size]; omega)) (by omega) (by omega) (by omega)).mono ?_
    rintro e_ w17 ⟨rfl, v17, hs17, hb17, _⟩
    clear k0 k1 k2 k3 k4 k5 k6 k7 k8
    have k0 := c0 _ hb17
    have k1 := c1 _ hb17
    have k2 := c2 _ hb17
    have k3 := c3 _ hb17
    have k4 := c4 _ hb17
    have k5 := c5 _ hb17
    have k6 := c6 _ hb17
    have k7 := c7 _ hb17
    have k8 := c8 _ hb17
    go_wp2_with fail
    refine (Told_calls gw _ _ _ _ hs17).mono ?_
    rintro e_ w_ ⟨rfl, rfl⟩
    go_wp2_with fail
    go_ret2
    exact ⟨rfl, hB.trans (hb17.mono (below_size hB))⟩
  · go_wp2_with fail
    refine (Byte_calls gw _ _ 1 W w13 hb13 hs13 (by first | (simp [be_len, bytesOf_len, headS_len, headL_len, bodyL_len, markS_size]; done) | (simp [be_len, bytesOf_len, headS_len, headL_len, bodyL_len, markS_size]; omega))).mono ?_
    rintro e_ w14 ⟨rfl, v14, hs14, hb14, _⟩
    clear k0 k1 k2 k3 k4 k5 k6 k7 k8
    have k0 := c0 _ hb14
    have k1 := c1 _ hb14
    have k2 := c2 _ hb14
    have k3 := c3 _ hb14
    have k4 := c4 _ hb14
    have k5 := c5 _ hb14
    have k6 := c6 _ hb14
    have k7 := c7 _ hb14
    have k8 := c8 _ hb14
    go_wp2_with fail
    refine (Raw_calls gw _ _ s W w14 hb14 hs14 (by first | (simp [be_len, bytesOf_len, headS_len, headL_len, bodyL_len, markS_size]; done) | (simp [be_len, bytesOf_len, headS_len, headL_len, bodyL_len, markS_size]; omega))).mono ?_
    rintro e_ w15 ⟨rfl, v15, hs15, hb15⟩
    clear k0 k1 k2 k3 k4 k5 k6 k7 k8
    have k0 := c0 _ hb15
    have k1 := c1 _ hb15
    have k2 := c2 _ hb15
    have k3 := c3 _ hb15
    have k4 := c4 _ hb15
    have k5 := c5 _ hb15
    have k6 := c6 _ hb15
    have k7 := c7 _ hb15
    have k8 := c8 _ hb15
    have hf15 : headS s.size ++ [(a : Int)] ++ [(b : Int)] ++ [(c : Int)] ++ be 2 d ++ be 4 e ++ be 8 t ++ be 4 g ++ [1] ++ bytesOf s = bodyL a b c d e t g true s := rfl
    rw [hf15] at hs15
    go_wp2_with fail
    refine (Told_calls gw _ _ _ _ hs15).mono ?_
    rintro e_ w_ ⟨rfl, rfl⟩
    go_wp2_with fail
    refine (Sum_calls _ _ (by rw [str_size]; first | (simp [be_len, bytesOf_len, headS_len, headL_len, bodyL_len, markS_size]; done) | (simp [be_len, bytesOf_len, headS_len, headL_len, bodyL_len, markS_size]; omega))).mono ?_
    rintro e_ w16 ⟨rfl, hbs16⟩
    have hs16 := WS_below hs15 hbs16
    have hb16 := below_then hb15 (below_size hb15) hbs16
    have hq16 := sum_lt (strOfNums (bodyL a b c d e t g true s))
    have hwq16 : IntKind.u64.wrap ((Crc.sum (bytesN (strOfNums (bodyL a b c d e t g true s))) : Nat) : Int) = ((Crc.sum (bytesN (strOfNums (bodyL a b c d e t g true s))) : Nat) : Int) := by rw [IntKind.wrap_u64]; omega
    clear k0 k1 k2 k3 k4 k5 k6 k7 k8
    have k0 := c0 _ hb16
    have k1 := c1 _ hb16
    have k2 := c2 _ hb16
    have k3 := c3 _ hb16
    have k4 := c4 _ hb16
    have k5 := c5 _ hb16
    have k6 := c6 _ hb16
    have k7 := c7 _ hb16
    have k8 := c8 _ hb16
    go_wp2_with fail
    refine (Fixed_calls gw _ _ 4 (Crc.sum (bytesN (strOfNums (bodyL a b c d e t g true s)))) W w16 hb16 hs16 (by first | (simp [be_len, bytesOf_len, headS_len, headL_len, bodyL_len, markS_size]; done) | (simp [be_len, bytesOf_len, headS_len, headL_len, bodyL_len, markS_size]; omega)) (by omega) (by omega) (by omega)).mono ?_
    rintro e_ w17 ⟨rfl, v17, hs17, hb17, _⟩
    clear k0 k1 k2 k3 k4 k5 k6 k7 k8
    have k0 := c0 _ hb17
    have k1 := c1 _ hb17
    have k2 := c2 _ hb17
    have k3 := c3 _ hb17
    have k4 := c4 _ hb17
    have k5 := c5 _ hb17
    have k6 := c6 _ hb17
    have k7 := c7 _ hb17
    have k8 := c8 _ hb17
    go_wp2_with fail
    refine (Told_calls gw _ _ _ _ hs17).mono ?_
    rintro e_ w_ ⟨rfl, rfl⟩
    go_wp2_with fail
    go_ret2
    exact ⟨rfl, hB.trans (hb17.mono (below_size hB))⟩
end Go.Proofs.Ytgboppgghidgbaa.My
