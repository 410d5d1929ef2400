/- An item of the laws of chapter 1: what it puts. -/
import Derived.Test.YtikfdfagnalmbaaWrM
import Derived.Test.YtikfdfagnalmbaaWorks
namespace Go.Proofs.Ytikfdfagnalmbaa.My
open Go.RowKit Go.Proofs.YtikfdfagnalmbaaW.PrintWords Go.Proofs.YtikfdfagnalmbaaW.PrintLast Go.Proofs.YtikfdfagnalmbaaW.PrintMore Go.Proofs.Ytikfdfagnalmbaa
set_option linter.unusedSimpArgs false
set_option linter.unusedVariables false
set_option maxRecDepth 100000
set_option maxHeartbeats 1600000
structure Item where
  who : Int
  kind : Int
  n : Int
  v : Nat
  s : ByteArray
def Item.val (x : Item) : Value := .agg #[.int .i64 x.who, .int .i64 x.kind, .int .i64 x.n, .int .u64 (x.v : Int), .string x.s]
def Item.Ok (x : Item) : Prop := x.v < 18446744073709551616 ∧ -9223372036854775808 ≤ x.n ∧ x.n ≤ 9223372036854775807 ∧ x.s.size ≤ 140737488351232
/-- A number in n bytes has a form. -/
def Item.fix (x : Item) : Prop := 1 ≤ x.n ∧ x.n ≤ 8 ∧ x.v < 256 ^ x.n.toNat
instance (x : Item) : Decidable x.fix := by unfold Item.fix; infer_instance
/-- The bytes that are put. -/
def Item.out (x : Item) : List Int :=
  if x.kind = 0 then [((x.v % 256 : Nat) : Int)] else
  if x.kind = 1 then be 2 (x.v % 65536) else
  if x.kind = 2 then (if x.fix then be x.n.toNat x.v else []) else
  if x.kind = 3 then uv 10 x.v else
  if x.kind = 4 then uv 10 (zig (wrap64 x.v)) else
  if x.kind = 5 then be 8 (fbits x.v) else
  if x.kind = 6 then uv 10 x.s.size ++ bytesOf x.s else
  if x.kind = 7 then bytesOf x.s else []
/-- What is answered. -/
def Item.err (x : Item) : Int := if x.kind = 2 ∧ ¬ x.fix then 1 else 0
theorem Moved_alloc (w : World) (o : Obj) (g : Nat) (v : Value) : Moved w (w.alloc o) g v v := by
  refine ⟨by show w.heap.size ≤ (w.heap.push o).size; simp, fun k hk _ _ => ?_, .inl rfl⟩
  show (w.heap.push o)[k]? = _
  rw [Array.getElem?_push_lt hk, Array.getElem?_eq_getElem hk]
theorem i16_wrap (x : Int) : IntKind.i16.wrap x = (x + 32768) % 65536 - 32768 := by
  simp only [IntKind.wrap, IntKind.bits, IntKind.signed]
  simp
  split <;> omega
theorem small_be (x : Nat) (hx : x < 18446744073709551616) : [(IntKind.u16.wrap (IntKind.i16.wrap x) / 256 % 256), (IntKind.i16.wrap x % 256)] = be 2 (x % 65536) := by
  rw [be_succ, be_succ, be_zero, List.nil_append]
  show [_, _] = [_, _]
  congr 1
  · rw [IntKind.wrap_u16, i16_wrap]; omega
  · congr 1
    rw [i16_wrap]; omega
theorem fix_not (who n : Int) (x : Nat) (s : ByteArray) (hx : x < 18446744073709551616) (hf : ¬ (Item.mk who 2 n x s).fix) : n < 1 ∨ 8 < n ∨ (1 ≤ n ∧ n < 8 ∧ 256 ^ n.toNat ≤ x) := by
  by_cases h1 : n < 1
  · exact .inl h1
  by_cases h8 : 8 < n
  · exact .inr (.inl h8)
  refine .inr (.inr ⟨by omega, ?_, Decidable.byContradiction fun h => hf ⟨by show 1 ≤ n; omega, by show n ≤ 8; omega, by show x < 256 ^ n.toNat; omega⟩⟩)
  by_cases e : n = 8
  · subst e
    exact absurd ⟨by show (1 : Int) ≤ 8; omega, by show (8 : Int) ≤ 8; omega, by show x < 256 ^ 8; omega⟩ hf
  · omega
theorem wrap_bd (x : Int) : -9223372036854775808 ≤ wrap64 x ∧ wrap64 x ≤ 9223372036854775807 := by unfold wrap64; omega
theorem put0 (who n : Int) (x : Nat) (s : ByteArray) (g : Nat) (v : Value) (xs : List Int) (w0 w : World) (HB0 : Below w0.heap.size w0 w) (h : WS w w0.heap.size g v xs) (hl : xs.length + 30 + s.size ≤ 140737488355328) (hx : x < 18446744073709551616) :
    Calls Try.prog 21 #[.pointer (some ⟨g, 0, none⟩), (Item.mk who 0 n x s).val] w fun e w' => e = .returned (.int .i64 0) ∧ ∃ v', WS w' w0.heap.size g v' (xs ++ [((x % 256 : Nat) : Int)]) ∧ Below w0.heap.size w0 w' ∧ Moved w w' g v v' := by
  unfold Item.val
  dsimp only
  go_enter Try.func21, Try.ntmps21
  go_wp2_with fail
  refine (Byte_calls g v xs ((x : Int) % 256) w0 _ (HB0.alloc (below_size HB0) _) (h.alloc _) (by omega)).mono ?_
  rintro e w1 ⟨rfl, v1, hs1, hb1, hm1⟩
  go_wp2_with fail
  go_ret
  exact ⟨rfl, v1, hs1, hb1, (Moved_alloc _ _ _ _).trans hm1⟩
theorem put1 (who n : Int) (x : Nat) (s : ByteArray) (g : Nat) (v : Value) (xs : List Int) (w0 w : World) (HB0 : Below w0.heap.size w0 w) (h : WS w w0.heap.size g v xs) (hl : xs.length + 30 + s.size ≤ 140737488355328) (hx : x < 18446744073709551616) :
    Calls Try.prog 21 #[.pointer (some ⟨g, 0, none⟩), (Item.mk who 1 n x s).val] w fun e w' => e = .returned (.int .i64 0) ∧ ∃ v', WS w' w0.heap.size g v' (xs ++ be 2 (x % 65536)) ∧ Below w0.heap.size w0 w' ∧ Moved w w' g v v' := by
  rw [← small_be x hx]
  unfold Item.val
  dsimp only
  go_enter Try.func21, Try.ntmps21
  go_wp2_with fail
  refine (Small_m g v xs (IntKind.i16.wrap x) w0 _ (HB0.alloc (below_size HB0) _) (h.alloc _) (by omega)).mono ?_
  rintro e w1 ⟨rfl, v1, hs1, hb1, hm1⟩
  go_wp2_with fail
  go_ret
  exact ⟨rfl, v1, hs1, hb1, (Moved_alloc _ _ _ _).trans hm1⟩
theorem put2 (who n : Int) (x : Nat) (s : ByteArray) (g : Nat) (v : Value) (xs : List Int) (w0 w : World) (HB0 : Below w0.heap.size w0 w) (h : WS w w0.heap.size g v xs) (hl : xs.length + 30 + s.size ≤ 140737488355328) (hx : x < 18446744073709551616) (hf : (Item.mk who 2 n x s).fix) :
    Calls Try.prog 21 #[.pointer (some ⟨g, 0, none⟩), (Item.mk who 2 n x s).val] w fun e w' => e = .returned (.int .i64 0) ∧ ∃ v', WS w' w0.heap.size g v' (xs ++ be n.toNat x) ∧ Below w0.heap.size w0 w' ∧ Moved w w' g v v' := by
  obtain ⟨m, rfl⟩ := Int.eq_ofNat_of_zero_le (show 0 ≤ n by have := hf.1; dsimp only at this; omega)
  have f1 : 1 ≤ m := by have := hf.1; dsimp only at this; omega
  have f2 : m ≤ 8 := by have := hf.2.1; dsimp only at this; omega
  have f3 : x < 256 ^ m := hf.2.2
  clear hf
  unfold Item.val
  dsimp only
  go_enter Try.func21, Try.ntmps21
  go_wp2_with fail
  refine (Fixed_calls g v xs m x w0 _ (HB0.alloc (below_size HB0) _) (h.alloc _) (by omega) f1 f2 f3).mono ?_
  rintro e w1 ⟨rfl, v1, hs1, hb1, hm1⟩
  go_wp2_with fail
  go_ret
  exact ⟨rfl, v1, hs1, hb1, (Moved_alloc _ _ _ _).trans hm1⟩
theorem put2b (who n : Int) (x : Nat) (s : ByteArray) (g : Nat) (v : Value) (xs : List Int) (w0 w : World) (HB0 : Below w0.heap.size w0 w) (h : WS w w0.heap.size g v xs) (hl : xs.length + 30 + s.size ≤ 140737488355328) (hx : x < 18446744073709551616) (hf : ¬ (Item.mk who 2 n x s).fix) :
    Calls Try.prog 21 #[.pointer (some ⟨g, 0, none⟩), (Item.mk who 2 n x s).val] w fun e w' => e = .returned (.int .i64 1) ∧ ∃ v', WS w' w0.heap.size g v' (xs ++ []) ∧ Below w0.heap.size w0 w' ∧ Moved w w' g v v' := by
  rw [List.append_nil]
  have hb : n < 1 ∨ 8 < n ∨ (1 ≤ n ∧ n < 8 ∧ 256 ^ n.toNat ≤ x) := fix_not who n x s hx hf
  clear hf
  unfold Item.val
  dsimp only
  go_enter Try.func21, Try.ntmps21
  go_wp2_with fail
  refine (Fixed_bad _ x n _ hb).mono ?_
  rintro e w1 ⟨rfl, rfl⟩
  go_wp2_with fail
  go_ret
  exact ⟨rfl, v, h.alloc _, HB0.alloc (below_size HB0) _, Moved_alloc _ _ _ _⟩
theorem put3 (who n : Int) (x : Nat) (s : ByteArray) (g : Nat) (v : Value) (xs : List Int) (w0 w : World) (HB0 : Below w0.heap.size w0 w) (h : WS w w0.heap.size g v xs) (hl : xs.length + 30 + s.size ≤ 140737488355328) (hx : x < 18446744073709551616) :
    Calls Try.prog 21 #[.pointer (some ⟨g, 0, none⟩), (Item.mk who 3 n x s).val] w fun e w' => e = .returned (.int .i64 0) ∧ ∃ v', WS w' w0.heap.size g v' (xs ++ uv 10 x) ∧ Below w0.heap.size w0 w' ∧ Moved w w' g v v' := by
  unfold Item.val
  dsimp only
  go_enter Try.func21, Try.ntmps21
  go_wp2_with fail
  refine (Uint_calls g v xs x w0 _ (HB0.alloc (below_size HB0) _) (h.alloc _) (by omega) hx).mono ?_
  rintro e w1 ⟨rfl, v1, hs1, hb1, hm1⟩
  go_wp2_with fail
  go_ret
  exact ⟨rfl, v1, hs1, hb1, (Moved_alloc _ _ _ _).trans hm1⟩
theorem put4 (who n : Int) (x : Nat) (s : ByteArray) (g : Nat) (v : Value) (xs : List Int) (w0 w : World) (HB0 : Below w0.heap.size w0 w) (h : WS w w0.heap.size g v xs) (hl : xs.length + 30 + s.size ≤ 140737488355328) (hx : x < 18446744073709551616) :
    Calls Try.prog 21 #[.pointer (some ⟨g, 0, none⟩), (Item.mk who 4 n x s).val] w fun e w' => e = .returned (.int .i64 0) ∧ ∃ v', WS w' w0.heap.size g v' (xs ++ uv 10 (zig (wrap64 x))) ∧ Below w0.heap.size w0 w' ∧ Moved w w' g v v' := by
  have hw := wrap_bd x
  unfold Item.val
  dsimp only
  go_enter Try.func21, Try.ntmps21
  go_wp2_with fail
  refine (Int_m g v xs (wrap64 x) w0 _ (HB0.alloc (below_size HB0) _) (h.alloc _) (by omega) hw.1 hw.2).mono ?_
  rintro e w1 ⟨rfl, v1, hs1, hb1, hm1⟩
  go_wp2_with fail
  go_ret
  exact ⟨rfl, v1, hs1, hb1, (Moved_alloc _ _ _ _).trans hm1⟩
theorem put5 (who n : Int) (x : Nat) (s : ByteArray) (g : Nat) (v : Value) (xs : List Int) (w0 w : World) (HB0 : Below w0.heap.size w0 w) (h : WS w w0.heap.size g v xs) (hl : xs.length + 30 + s.size ≤ 140737488355328) (hx : x < 18446744073709551616) :
    Calls Try.prog 21 #[.pointer (some ⟨g, 0, none⟩), (Item.mk who 5 n x s).val] w fun e w' => e = .returned (.int .i64 0) ∧ ∃ v', WS w' w0.heap.size g v' (xs ++ be 8 (fbits x)) ∧ Below w0.heap.size w0 w' ∧ Moved w w' g v v' := by
  have hfb := frombits_run x
  unfold Item.val
  dsimp only
  go_enter Try.func21, Try.ntmps21
  go_wp2_with fail
  refine (Float_m g v xs x w0 _ (HB0.alloc (below_size HB0) _) (h.alloc _) (by omega) hx).mono ?_
  rintro e w1 ⟨rfl, v1, hs1, hb1, hm1⟩
  go_wp2_with fail
  go_ret
  exact ⟨rfl, v1, hs1, hb1, (Moved_alloc _ _ _ _).trans hm1⟩
theorem put6 (who n : Int) (x : Nat) (s : ByteArray) (g : Nat) (v : Value) (xs : List Int) (w0 w : World) (HB0 : Below w0.heap.size w0 w) (h : WS w w0.heap.size g v xs) (hl : xs.length + 30 + s.size ≤ 140737488355328) (hx : x < 18446744073709551616) :
    Calls Try.prog 21 #[.pointer (some ⟨g, 0, none⟩), (Item.mk who 6 n x s).val] w fun e w' => e = .returned (.int .i64 0) ∧ ∃ v', WS w' w0.heap.size g v' (xs ++ (uv 10 s.size ++ bytesOf s)) ∧ Below w0.heap.size w0 w' ∧ Moved w w' g v v' := by
  unfold Item.val
  dsimp only
  go_enter Try.func21, Try.ntmps21
  go_wp2_with fail
  refine (Text_m g v xs s w0 _ (HB0.alloc (below_size HB0) _) (h.alloc _) (by omega)).mono ?_
  rintro e w1 ⟨rfl, v1, hs1, hb1, hm1⟩
  go_wp2_with fail
  go_ret
  rw [List.append_assoc] at hs1
  exact ⟨rfl, v1, hs1, hb1, (Moved_alloc _ _ _ _).trans hm1⟩
theorem put7 (who n : Int) (x : Nat) (s : ByteArray) (g : Nat) (v : Value) (xs : List Int) (w0 w : World) (HB0 : Below w0.heap.size w0 w) (h : WS w w0.heap.size g v xs) (hl : xs.length + 30 + s.size ≤ 140737488355328) (hx : x < 18446744073709551616) :
    Calls Try.prog 21 #[.pointer (some ⟨g, 0, none⟩), (Item.mk who 7 n x s).val] w fun e w' => e = .returned (.int .i64 0) ∧ ∃ v', WS w' w0.heap.size g v' (xs ++ bytesOf s) ∧ Below w0.heap.size w0 w' ∧ Moved w w' g v v' := by
  unfold Item.val
  dsimp only
  go_enter Try.func21, Try.ntmps21
  go_wp2_with fail
  refine (Raw_m g v xs s w0 _ (HB0.alloc (below_size HB0) _) (h.alloc _) (by omega)).mono ?_
  rintro e w1 ⟨rfl, v1, hs1, hb1, hm1⟩
  go_wp2_with fail
  go_ret
  exact ⟨rfl, v1, hs1, hb1, (Moved_alloc _ _ _ _).trans hm1⟩
theorem put9 (who kind n : Int) (x : Nat) (s : ByteArray) (g : Nat) (v : Value) (xs : List Int) (w0 w : World) (HB0 : Below w0.heap.size w0 w) (h : WS w w0.heap.size g v xs) (hl : xs.length + 30 + s.size ≤ 140737488355328) (hx : x < 18446744073709551616) (hk : kind < 0 ∨ 7 < kind) :
    Calls Try.prog 21 #[.pointer (some ⟨g, 0, none⟩), (Item.mk who kind n x s).val] w fun e w' => e = .returned (.int .i64 0) ∧ ∃ v', WS w' w0.heap.size g v' (xs ++ []) ∧ Below w0.heap.size w0 w' ∧ Moved w w' g v v' := by
  rw [List.append_nil]
  have k0 : (kind == 0) = false := by rw [beq_eq_false_iff_ne]; omega
  have k1 : (kind == 1) = false := by rw [beq_eq_false_iff_ne]; omega
  have k2 : (kind == 2) = false := by rw [beq_eq_false_iff_ne]; omega
  have k3 : (kind == 3) = false := by rw [beq_eq_false_iff_ne]; omega
  have k4 : (kind == 4) = false := by rw [beq_eq_false_iff_ne]; omega
  have k5 : (kind == 5) = false := by rw [beq_eq_false_iff_ne]; omega
  have k6 : (kind == 6) = false := by rw [beq_eq_false_iff_ne]; omega
  have k7 : (kind == 7) = false := by rw [beq_eq_false_iff_ne]; omega
  clear hk
  unfold Item.val
  dsimp only
  go_enter Try.func21, Try.ntmps21
  go_wp2_with fail
  go_ret
  exact ⟨rfl, v, h.alloc _, HB0.alloc (below_size HB0) _, Moved_alloc _ _ _ _⟩
theorem out0 (who n : Int) (x : Nat) (s : ByteArray) : (Item.mk who 0 n x s).out = [((x % 256 : Nat) : Int)] := by
  unfold Item.out
  rw [if_pos rfl]
theorem err0 (who n : Int) (x : Nat) (s : ByteArray) : (Item.mk who 0 n x s).err = 0 := if_neg (fun h => absurd h.1 (show ¬ (0 : Int) = 2 by decide))
theorem out1 (who n : Int) (x : Nat) (s : ByteArray) : (Item.mk who 1 n x s).out = be 2 (x % 65536) := by
  unfold Item.out
  rw [if_neg (show ¬ (1 : Int) = 0 by decide), if_pos rfl]
theorem err1 (who n : Int) (x : Nat) (s : ByteArray) : (Item.mk who 1 n x s).err = 0 := if_neg (fun h => absurd h.1 (show ¬ (1 : Int) = 2 by decide))
theorem out2 (who n : Int) (x : Nat) (s : ByteArray) : (Item.mk who 2 n x s).out = (if (Item.mk who 2 n x s).fix then be n.toNat x else []) := by
  unfold Item.out
  rw [if_neg (show ¬ (2 : Int) = 0 by decide), if_neg (show ¬ (2 : Int) = 1 by decide), if_pos rfl]
theorem out3 (who n : Int) (x : Nat) (s : ByteArray) : (Item.mk who 3 n x s).out = uv 10 x := by
  unfold Item.out
  rw [if_neg (show ¬ (3 : Int) = 0 by decide), if_neg (show ¬ (3 : Int) = 1 by decide), if_neg (show ¬ (3 : Int) = 2 by decide), if_pos rfl]
theorem err3 (who n : Int) (x : Nat) (s : ByteArray) : (Item.mk who 3 n x s).err = 0 := if_neg (fun h => absurd h.1 (show ¬ (3 : Int) = 2 by decide))
theorem out4 (who n : Int) (x : Nat) (s : ByteArray) : (Item.mk who 4 n x s).out = uv 10 (zig (wrap64 x)) := by
  unfold Item.out
  rw [if_neg (show ¬ (4 : Int) = 0 by decide), if_neg (show ¬ (4 : Int) = 1 by decide), if_neg (show ¬ (4 : Int) = 2 by decide), if_neg (show ¬ (4 : Int) = 3 by decide), if_pos rfl]
theorem err4 (who n : Int) (x : Nat) (s : ByteArray) : (Item.mk who 4 n x s).err = 0 := if_neg (fun h => absurd h.1 (show ¬ (4 : Int) = 2 by decide))
theorem out5 (who n : Int) (x : Nat) (s : ByteArray) : (Item.mk who 5 n x s).out = be 8 (fbits x) := by
  unfold Item.out
  rw [if_neg (show ¬ (5 : Int) = 0 by decide), if_neg (show ¬ (5 : Int) = 1 by decide), if_neg (show ¬ (5 : Int) = 2 by decide), if_neg (show ¬ (5 : Int) = 3 by decide), if_neg (show ¬ (5 : Int) = 4 by decide), if_pos rfl]
theorem err5 (who n : Int) (x : Nat) (s : ByteArray) : (Item.mk who 5 n x s).err = 0 := if_neg (fun h => absurd h.1 (show ¬ (5 : Int) = 2 by decide))
theorem out6 (who n : Int) (x : Nat) (s : ByteArray) : (Item.mk who 6 n x s).out = uv 10 s.size ++ bytesOf s := by
  unfold Item.out
  rw [if_neg (show ¬ (6 : Int) = 0 by decide), if_neg (show ¬ (6 : Int) = 1 by decide), if_neg (show ¬ (6 : Int) = 2 by decide), if_neg (show ¬ (6 : Int) = 3 by decide), if_neg (show ¬ (6 : Int) = 4 by decide), if_neg (show ¬ (6 : Int) = 5 by decide), if_pos rfl]
theorem err6 (who n : Int) (x : Nat) (s : ByteArray) : (Item.mk who 6 n x s).err = 0 := if_neg (fun h => absurd h.1 (show ¬ (6 : Int) = 2 by decide))
theorem out7 (who n : Int) (x : Nat) (s : ByteArray) : (Item.mk who 7 n x s).out = bytesOf s := by
  unfold Item.out
  rw [if_neg (show ¬ (7 : Int) = 0 by decide), if_neg (show ¬ (7 : Int) = 1 by decide), if_neg (show ¬ (7 : Int) = 2 by decide), if_neg (show ¬ (7 : Int) = 3 by decide), if_neg (show ¬ (7 : Int) = 4 by decide), if_neg (show ¬ (7 : Int) = 5 by decide), if_neg (show ¬ (7 : Int) = 6 by decide), if_pos rfl]
theorem err7 (who n : Int) (x : Nat) (s : ByteArray) : (Item.mk who 7 n x s).err = 0 := if_neg (fun h => absurd h.1 (show ¬ (7 : Int) = 2 by decide))
theorem out9 (who kind n : Int) (x : Nat) (s : ByteArray) (hk : kind < 0 ∨ 7 < kind) : (Item.mk who kind n x s).out = [] := by
  unfold Item.out
  dsimp only
  rw [if_neg (show ¬ kind = 0 by omega), if_neg (show ¬ kind = 1 by omega), if_neg (show ¬ kind = 2 by omega), if_neg (show ¬ kind = 3 by omega), if_neg (show ¬ kind = 4 by omega), if_neg (show ¬ kind = 5 by omega), if_neg (show ¬ kind = 6 by omega), if_neg (show ¬ kind = 7 by omega)]
theorem err9 (who kind n : Int) (x : Nat) (s : ByteArray) (hk : kind < 0 ∨ 7 < kind) : (Item.mk who kind n x s).err = 0 := if_neg (fun h => by have h1 : kind = 2 := h.1; omega)
/-- What put puts. -/
theorem put_calls (x : Item) (hx : x.Ok) (g : Nat) (v : Value) (xs : List Int) (w0 w : World) (HB0 : Below w0.heap.size w0 w) (h : WS w w0.heap.size g v xs) (hl : xs.length + 30 + x.s.size ≤ 140737488355328) :
    Calls Try.prog 21 #[.pointer (some ⟨g, 0, none⟩), x.val] w fun e w' => e = .returned (.int .i64 x.err) ∧ ∃ v', WS w' w0.heap.size g v' (xs ++ x.out) ∧ Below w0.heap.size w0 w' ∧ Moved w w' g v v' := by
  obtain ⟨who, kind, n, y, s⟩ := x
  obtain ⟨hy, hn0, hn1, hs⟩ := hx
  dsimp only at hy hn0 hn1 hs hl
  by_cases hk : kind < 0 ∨ 7 < kind
  · rw [out9 _ _ _ _ _ hk, err9 _ _ _ _ _ hk]
    exact put9 who kind n y s g v xs w0 w HB0 h hl hy hk
  obtain ⟨k, rfl⟩ := Int.eq_ofNat_of_zero_le (show 0 ≤ kind by omega)
  have h8 : k < 8 := by omega
  clear hk
  match k, h8 with
  | 0, _ =>
    show Calls _ _ #[_, (Item.mk who 0 n y s).val] w fun e w' => e = .returned (.int .i64 (Item.mk who 0 n y s).err) ∧ ∃ v', WS w' w0.heap.size g v' (xs ++ (Item.mk who 0 n y s).out) ∧ _
    rw [out0, err0]
    exact put0 who n y s g v xs w0 w HB0 h hl hy
  | 1, _ =>
    show Calls _ _ #[_, (Item.mk who 1 n y s).val] w fun e w' => e = .returned (.int .i64 (Item.mk who 1 n y s).err) ∧ ∃ v', WS w' w0.heap.size g v' (xs ++ (Item.mk who 1 n y s).out) ∧ _
    rw [out1, err1]
    exact put1 who n y s g v xs w0 w HB0 h hl hy
  | 2, _ =>
    show Calls _ _ #[_, (Item.mk who 2 n y s).val] w _
    by_cases hf : (Item.mk who 2 n y s).fix
    · have e1 : (Item.mk who 2 n y s).err = 0 := if_neg (fun h => h.2 hf)
      have e2 : (Item.mk who 2 n y s).out = be n.toNat y := by rw [out2, if_pos hf]
      show Calls _ _ _ w fun e w' => e = .returned (.int .i64 (Item.mk who 2 n y s).err) ∧ ∃ v', WS w' w0.heap.size g v' (xs ++ (Item.mk who 2 n y s).out) ∧ _
      rw [e1, e2]
      exact put2 who n y s g v xs w0 w HB0 h hl hy hf
    · have e1 : (Item.mk who 2 n y s).err = 1 := if_pos ⟨rfl, hf⟩
      have e2 : (Item.mk who 2 n y s).out = [] := by rw [out2, if_neg hf]
      show Calls _ _ _ w fun e w' => e = .returned (.int .i64 (Item.mk who 2 n y s).err) ∧ ∃ v', WS w' w0.heap.size g v' (xs ++ (Item.mk who 2 n y s).out) ∧ _
      rw [e1, e2]
      exact put2b who n y s g v xs w0 w HB0 h hl hy hf
  | 3, _ =>
    show Calls _ _ #[_, (Item.mk who 3 n y s).val] w fun e w' => e = .returned (.int .i64 (Item.mk who 3 n y s).err) ∧ ∃ v', WS w' w0.heap.size g v' (xs ++ (Item.mk who 3 n y s).out) ∧ _
    rw [out3, err3]
    exact put3 who n y s g v xs w0 w HB0 h hl hy
  | 4, _ =>
    show Calls _ _ #[_, (Item.mk who 4 n y s).val] w fun e w' => e = .returned (.int .i64 (Item.mk who 4 n y s).err) ∧ ∃ v', WS w' w0.heap.size g v' (xs ++ (Item.mk who 4 n y s).out) ∧ _
    rw [out4, err4]
    exact put4 who n y s g v xs w0 w HB0 h hl hy
  | 5, _ =>
    show Calls _ _ #[_, (Item.mk who 5 n y s).val] w fun e w' => e = .returned (.int .i64 (Item.mk who 5 n y s).err) ∧ ∃ v', WS w' w0.heap.size g v' (xs ++ (Item.mk who 5 n y s).out) ∧ _
    rw [out5, err5]
    exact put5 who n y s g v xs w0 w HB0 h hl hy
  | 6, _ =>
    show Calls _ _ #[_, (Item.mk who 6 n y s).val] w fun e w' => e = .returned (.int .i64 (Item.mk who 6 n y s).err) ∧ ∃ v', WS w' w0.heap.size g v' (xs ++ (Item.mk who 6 n y s).out) ∧ _
    rw [out6, err6]
    exact put6 who n y s g v xs w0 w HB0 h hl hy
  | 7, _ =>
    show Calls _ _ #[_, (Item.mk who 7 n y s).val] w fun e w' => e = .returned (.int .i64 (Item.mk who 7 n y s).err) ∧ ∃ v', WS w' w0.heap.size g v' (xs ++ (Item.mk who 7 n y s).out) ∧ _
    rw [out7, err7]
    exact put7 who n y s g v xs w0 w HB0 h hl hy
end Go.Proofs.Ytikfdfagnalmbaa.My
