/- An item's bytes, by the document. -/
import Derived.Test.YtikfdfagnalmbaaRefWr
import Derived.Deep.RegionHeld3
namespace Go.Proofs.Ytikfdfagnalmbaa.My
open Go.RowKit Go.Proofs.YtikfdfagnalmbaaW.PrintWords Go.Proofs.YtikfdfagnalmbaaW.PrintLast Go.Proofs.YtikfdfagnalmbaaW.PrintMore Go.Proofs.Ytikfdfagnalmbaa Go.Proofs.Ytikfdfagnalmbaa.PV
set_option linter.unusedSimpArgs false
set_option linter.unusedVariables false
set_option maxRecDepth 100000
set_option maxHeartbeats 1600000
theorem str_one (x : Nat) : strOfNums [((x % 256 : Nat) : Int)] = strOfNums (be 1 (x % 256)) := by
  rw [be_succ, be_zero]
  show strOfNums [_] = strOfNums [_]
  congr 2
  omega
theorem form0 (who n : Int) (x : Nat) (s : ByteArray) (w : World) (hx : x < 18446744073709551616) (hs : s.size ≤ 140737488351232) :
    Calls Try.prog 20 #[(Item.mk who 0 n x s).val] w fun e w' => e = .returned (.tuple #[.string (strOfNums [((x % 256 : Nat) : Int)]), .int .i64 0]) ∧ Below w.heap.size w w' := by
  rw [str_one]
  have HC : Aside0 (∀ W : World, Calls Try.prog 51 #[.int .u64 ((x : Int) % 256), .int .i64 1] W fun e w' => e = .returned (.string (strOfNums (be 1 (x % 256)))) ∧ Below W.heap.size W w') := ⟨fun W => fixed_calls 1 (x % 256) (by omega) (by omega) W⟩
  generalize strOfNums (be 1 (x % 256)) = z at HC ⊢
  unfold Item.val
  dsimp only
  go_enter Try.func20, Try.ntmps20
  go_wp2_with fail
  refine (HC.out _).mono ?_
  rintro e_ w1 ⟨rfl, hb1⟩
  have hb := below_then ((Below.refl w.heap.size w).alloc (Nat.le_refl _) _) (below_size ((Below.refl w.heap.size w).alloc (Nat.le_refl _) _)) hb1
  go_wp2_with fail
  go_ret2
  exact ⟨rfl, hb⟩
theorem form1 (who n : Int) (x : Nat) (s : ByteArray) (w : World) (hx : x < 18446744073709551616) (hs : s.size ≤ 140737488351232) :
    Calls Try.prog 20 #[(Item.mk who 1 n x s).val] w fun e w' => e = .returned (.tuple #[.string (strOfNums (be 2 (x % 65536))), .int .i64 0]) ∧ Below w.heap.size w w' := by
  have HC := Aside0.mk (fun W => concordref01_Small.calls 10 _ _ W (small_f x 10 (by omega)))
  unfold Item.val
  dsimp only
  go_enter Try.func20, Try.ntmps20
  go_wp2_with fail
  refine (HC.out _).mono ?_
  rintro e_ w1 ⟨rfl, hb1⟩
  have hb := below_then ((Below.refl w.heap.size w).alloc (Nat.le_refl _) _) (below_size ((Below.refl w.heap.size w).alloc (Nat.le_refl _) _)) hb1
  go_wp2_with fail
  go_ret2
  exact ⟨rfl, hb⟩
theorem form2 (who n : Int) (x : Nat) (s : ByteArray) (w : World) (hx : x < 18446744073709551616) (hs : s.size ≤ 140737488351232) (hf : (Item.mk who 2 n x s).fix) :
    Calls Try.prog 20 #[(Item.mk who 2 n x s).val] w fun e w' => e = .returned (.tuple #[.string (strOfNums (be n.toNat x)), .int .i64 0]) ∧ Below w.heap.size w w' := by
  obtain ⟨m, rfl⟩ := Int.eq_ofNat_of_zero_le (show 0 ≤ n by have := hf.1; dsimp only at this; omega)
  have HF := Aside0.mk (fun W => concordref01_Fits.calls 12 _ _ _ W (fits_f who m x 12 s hx (by omega)))
  rw [decide_eq_true hf] at HF
  have HC := Aside0.mk (fun W => fixed_calls m x hx (by have := hf.2.1; dsimp only at this; omega) W)
  rw [Int.toNat_natCast]
  clear hf
  unfold Item.val
  dsimp only
  go_enter Try.func20, Try.ntmps20
  go_wp2_with fail
  refine (HF.out _).mono ?_
  rintro e_ w1 ⟨rfl, ⟨d, rfl⟩⟩
  go_wp2_with fail
  refine (HC.out _).mono ?_
  rintro e_ w1 ⟨rfl, hb1⟩
  have hb := below_then (pw_below_drewN ((Below.refl w.heap.size w).alloc (Nat.le_refl _) _) d) (below_size (pw_below_drewN ((Below.refl w.heap.size w).alloc (Nat.le_refl _) _) d)) hb1
  go_wp2_with fail
  go_ret2
  exact ⟨rfl, hb⟩
theorem form2b (who n : Int) (x : Nat) (s : ByteArray) (w : World) (hx : x < 18446744073709551616) (hs : s.size ≤ 140737488351232) (hf : ¬ (Item.mk who 2 n x s).fix) :
    Calls Try.prog 20 #[(Item.mk who 2 n x s).val] w fun e w' => e = .returned (.tuple #[.string (strOfNums []), .int .i64 1]) ∧ Below w.heap.size w w' := by
  have HF := Aside0.mk (fun W => concordref01_Fits.calls 12 _ _ _ W (fits_f who n x 12 s hx (by omega)))
  rw [decide_eq_false hf] at HF
  clear hf
  unfold Item.val
  dsimp only
  go_enter Try.func20, Try.ntmps20
  go_wp2_with fail
  refine (HF.out _).mono ?_
  rintro e_ w1 ⟨rfl, ⟨d, rfl⟩⟩
  go_wp2_with fail
  go_ret2
  exact ⟨rfl, pw_below_drewN ((Below.refl w.heap.size w).alloc (Nat.le_refl _) _) d⟩
theorem form3 (who n : Int) (x : Nat) (s : ByteArray) (w : World) (hx : x < 18446744073709551616) (hs : s.size ≤ 140737488351232) :
    Calls Try.prog 20 #[(Item.mk who 3 n x s).val] w fun e w' => e = .returned (.tuple #[.string (strOfNums (uv 10 x)), .int .i64 0]) ∧ Below w.heap.size w w' := by
  have HC := Aside0.mk (fun W => uint_calls x hx W)
  unfold Item.val
  dsimp only
  go_enter Try.func20, Try.ntmps20
  go_wp2_with fail
  refine (HC.out _).mono ?_
  rintro e_ w1 ⟨rfl, hb1⟩
  have hb := below_then ((Below.refl w.heap.size w).alloc (Nat.le_refl _) _) (below_size ((Below.refl w.heap.size w).alloc (Nat.le_refl _) _)) hb1
  go_wp2_with fail
  go_ret2
  exact ⟨rfl, hb⟩
theorem form4 (who n : Int) (x : Nat) (s : ByteArray) (w : World) (hx : x < 18446744073709551616) (hs : s.size ≤ 140737488351232) :
    Calls Try.prog 20 #[(Item.mk who 4 n x s).val] w fun e w' => e = .returned (.tuple #[.string (strOfNums (uv 10 (zig (wrap64 x)))), .int .i64 0]) ∧ Below w.heap.size w w' := by
  have HC := Aside0.mk (fun W => concordref01_Int.calls 12 _ _ W (int_f (wrap64 x) 12 (wrap_bd _).1 (wrap_bd _).2 (by omega)))
  unfold Item.val
  dsimp only
  go_enter Try.func20, Try.ntmps20
  go_wp2_with fail
  refine (HC.out _).mono ?_
  rintro e_ w1 ⟨rfl, hb1⟩
  have hb := below_then ((Below.refl w.heap.size w).alloc (Nat.le_refl _) _) (below_size ((Below.refl w.heap.size w).alloc (Nat.le_refl _) _)) hb1
  go_wp2_with fail
  go_ret2
  exact ⟨rfl, hb⟩
theorem form5 (who n : Int) (x : Nat) (s : ByteArray) (w : World) (hx : x < 18446744073709551616) (hs : s.size ≤ 140737488351232) :
    Calls Try.prog 20 #[(Item.mk who 5 n x s).val] w fun e w' => e = .returned (.tuple #[.string (strOfNums (be 8 (fbits x))), .int .i64 0]) ∧ Below w.heap.size w w' := by
  have hfb := frombits_run x
  have HC := Aside0.mk (fun W => refFloat_calls x hx W)
  unfold Item.val
  dsimp only
  go_enter Try.func20, Try.ntmps20
  go_wp2_with fail
  refine (HC.out _).mono ?_
  rintro e_ w1 ⟨rfl, hb1⟩
  have hb := below_then ((Below.refl w.heap.size w).alloc (Nat.le_refl _) _) (below_size ((Below.refl w.heap.size w).alloc (Nat.le_refl _) _)) hb1
  go_wp2_with fail
  go_ret2
  exact ⟨rfl, hb⟩
theorem form6 (who n : Int) (x : Nat) (s : ByteArray) (w : World) (hx : x < 18446744073709551616) (hs : s.size ≤ 140737488351232) :
    Calls Try.prog 20 #[(Item.mk who 6 n x s).val] w fun e w' => e = .returned (.tuple #[.string (strOfNums (uv 10 s.size ++ bytesOf s)), .int .i64 0]) ∧ Below w.heap.size w w' := by
  have HC := Aside0.mk (fun W => text_calls s hs W)
  unfold Item.val
  dsimp only
  go_enter Try.func20, Try.ntmps20
  go_wp2_with fail
  refine (HC.out _).mono ?_
  rintro e_ w1 ⟨rfl, hb1⟩
  have hb := below_then ((Below.refl w.heap.size w).alloc (Nat.le_refl _) _) (below_size ((Below.refl w.heap.size w).alloc (Nat.le_refl _) _)) hb1
  go_wp2_with fail
  go_ret2
  exact ⟨rfl, hb⟩
theorem form7 (who n : Int) (x : Nat) (s : ByteArray) (w : World) (hx : x < 18446744073709551616) (hs : s.size ≤ 140737488351232) :
    Calls Try.prog 20 #[(Item.mk who 7 n x s).val] w fun e w' => e = .returned (.tuple #[.string (strOfNums (bytesOf s)), .int .i64 0]) ∧ Below w.heap.size w w' := by
  rw [strOf_bytes]
  unfold Item.val
  dsimp only
  go_enter Try.func20, Try.ntmps20
  go_wp2_with fail
  go_ret2
  exact ⟨rfl, (Below.refl w.heap.size w).alloc (Nat.le_refl _) _⟩
theorem form9 (who kind n : Int) (x : Nat) (s : ByteArray) (w : World) (hx : x < 18446744073709551616) (hs : s.size ≤ 140737488351232) (hk : kind < 0 ∨ 7 < kind) :
    Calls Try.prog 20 #[(Item.mk who kind n x s).val] w fun e w' => e = .returned (.tuple #[.string (strOfNums []), .int .i64 0]) ∧ Below w.heap.size w w' := by
  have k0 : (kind == 0) = false := by rw [beq_eq_false_iff_ne]; omega
  have k1 : (kind == 1) = false := by rw [beq_eq_false_iff_ne]; omega
  have k2 : (kind == 2) = false := by rw [beq_eq_false_iff_ne]; omega
  have k3 : (kind == 3) = false := by rw [beq_eq_false_iff_ne]; omega
  have k4 : (kind == 4) = false := by rw [beq_eq_false_iff_ne]; omega
  have k5 : (kind == 5) = false := by rw [beq_eq_false_iff_ne]; omega
  have k6 : (kind == 6) = false := by rw [beq_eq_false_iff_ne]; omega
  have k7 : (kind == 7) = false := by rw [beq_eq_false_iff_ne]; omega
  clear hk
  unfold Item.val
  dsimp only
  go_enter Try.func20, Try.ntmps20
  go_wp2_with fail
  go_ret2
  exact ⟨rfl, (Below.refl w.heap.size w).alloc (Nat.le_refl _) _⟩
/-- An item's bytes, by the document. -/
theorem form_calls (x : Item) (hx : x.Ok) (w : World) :
    Calls Try.prog 20 #[x.val] w fun e w' => e = .returned (.tuple #[.string (strOfNums x.out), .int .i64 x.err]) ∧ Below w.heap.size w w' := by
  obtain ⟨who, kind, n, y, s⟩ := x
  obtain ⟨hy, hn0, hn1, hs⟩ := hx
  dsimp only at hy hn0 hn1 hs
  by_cases hk : kind < 0 ∨ 7 < kind
  · rw [out9 _ _ _ _ _ hk, err9 _ _ _ _ _ hk]
    exact form9 who kind n y s w hy hs hk
  obtain ⟨k, rfl⟩ := Int.eq_ofNat_of_zero_le (show 0 ≤ kind by omega)
  have h8 : k < 8 := by omega
  clear hk
  match k, h8 with
  | 0, _ =>
    show Calls _ _ #[(Item.mk who 0 n y s).val] w fun e w' => e = .returned (.tuple #[.string (strOfNums (Item.mk who 0 n y s).out), .int .i64 (Item.mk who 0 n y s).err]) ∧ _
    rw [out0, err0]
    exact form0 who n y s w hy hs
  | 1, _ =>
    show Calls _ _ #[(Item.mk who 1 n y s).val] w fun e w' => e = .returned (.tuple #[.string (strOfNums (Item.mk who 1 n y s).out), .int .i64 (Item.mk who 1 n y s).err]) ∧ _
    rw [out1, err1]
    exact form1 who n y s w hy hs
  | 2, _ =>
    show Calls _ _ #[(Item.mk who 2 n y s).val] w fun e w' => e = .returned (.tuple #[.string (strOfNums (Item.mk who 2 n y s).out), .int .i64 (Item.mk who 2 n y s).err]) ∧ _
    by_cases hf : (Item.mk who 2 n y s).fix
    · have e1 : (Item.mk who 2 n y s).err = 0 := if_neg (fun h => h.2 hf)
      have e2 : (Item.mk who 2 n y s).out = be n.toNat y := by rw [out2, if_pos hf]
      rw [e1, e2]
      exact form2 who n y s w hy hs hf
    · have e1 : (Item.mk who 2 n y s).err = 1 := if_pos ⟨rfl, hf⟩
      have e2 : (Item.mk who 2 n y s).out = [] := by rw [out2, if_neg hf]
      rw [e1, e2]
      exact form2b who n y s w hy hs hf
  | 3, _ =>
    show Calls _ _ #[(Item.mk who 3 n y s).val] w fun e w' => e = .returned (.tuple #[.string (strOfNums (Item.mk who 3 n y s).out), .int .i64 (Item.mk who 3 n y s).err]) ∧ _
    rw [out3, err3]
    exact form3 who n y s w hy hs
  | 4, _ =>
    show Calls _ _ #[(Item.mk who 4 n y s).val] w fun e w' => e = .returned (.tuple #[.string (strOfNums (Item.mk who 4 n y s).out), .int .i64 (Item.mk who 4 n y s).err]) ∧ _
    rw [out4, err4]
    exact form4 who n y s w hy hs
  | 5, _ =>
    show Calls _ _ #[(Item.mk who 5 n y s).val] w fun e w' => e = .returned (.tuple #[.string (strOfNums (Item.mk who 5 n y s).out), .int .i64 (Item.mk who 5 n y s).err]) ∧ _
    rw [out5, err5]
    exact form5 who n y s w hy hs
  | 6, _ =>
    show Calls _ _ #[(Item.mk who 6 n y s).val] w fun e w' => e = .returned (.tuple #[.string (strOfNums (Item.mk who 6 n y s).out), .int .i64 (Item.mk who 6 n y s).err]) ∧ _
    rw [out6, err6]
    exact form6 who n y s w hy hs
  | 7, _ =>
    show Calls _ _ #[(Item.mk who 7 n y s).val] w fun e w' => e = .returned (.tuple #[.string (strOfNums (Item.mk who 7 n y s).out), .int .i64 (Item.mk who 7 n y s).err]) ∧ _
    rw [out7, err7]
    exact form7 who n y s w hy hs
end Go.Proofs.Ytikfdfagnalmbaa.My
