/- An item of the laws of chapter 1: what it puts. Items of chapter 1: may one be put; one is taken as it was put. Bytes as numbers. What is put is taken as it was; what was cut off ends as short. No program in sight. -/
import Derived.Test.YtikfdfagnalmbaaWrAll
import Derived.Test.YtikfdfagnalmbaaWorks
import Derived.Test.YtikfdfagnalmbaaRdAll
import Derived.Deep.RegionHeld3
namespace Go.Proofs.Ytikfdfagnalmbaa.My
open Go.RowKit Go.Proofs.YtikfdfagnalmbaaW.PrintWords Go.Proofs.YtikfdfagnalmbaaW.PrintLast Go.Proofs.YtikfdfagnalmbaaW.PrintMore Go.Proofs.Ytikfdfagnalmbaa
set_option linter.unusedSimpArgs false
set_option linter.unusedVariables false
set_option maxRecDepth 100000
set_option maxHeartbeats 1600000
structure Item where
  who : Int
  kind : Int
  n : Int
  v : Nat
  s : ByteArray
def Item.val (x : Item) : Value := .agg #[.int .i64 x.who, .int .i64 x.kind, .int .i64 x.n, .int .u64 (x.v : Int), .string x.s]
def Item.Ok (x : Item) : Prop := x.v < 18446744073709551616 ∧ -9223372036854775808 ≤ x.n ∧ x.n ≤ 9223372036854775807 ∧ x.s.size ≤ 140737488351232
/-- A number in n bytes has a form. -/
def Item.fix (x : Item) : Prop := 1 ≤ x.n ∧ x.n ≤ 8 ∧ x.v < 256 ^ x.n.toNat
instance (x : Item) : Decidable x.fix := by unfold Item.fix; infer_instance
/-- The bytes that are put. -/
def Item.out (x : Item) : List Int :=
  if x.kind = 0 then [((x.v % 256 : Nat) : Int)] else
  if x.kind = 1 then be 2 (x.v % 65536) else
  if x.kind = 2 then (if x.fix then be x.n.toNat x.v else []) else
  if x.kind = 3 then uv 10 x.v else
  if x.kind = 4 then uv 10 (zig (wrap64 x.v)) else
  if x.kind = 5 then be 8 (fbits x.v) else
  if x.kind = 6 then uv 10 x.s.size ++ bytesOf x.s else
  if x.kind = 7 then bytesOf x.s else []
/-- What is answered. -/
def Item.err (x : Item) : Int := if x.kind = 2 ∧ ¬ x.fix then 1 else 0
theorem Moved_alloc (w : World) (o : Obj) (g : Nat) (v : Value) : Moved w (w.alloc o) g v v := by
  refine ⟨by show w.heap.size ≤ (w.heap.push o).size; simp, fun k hk _ _ => ?_, .inl rfl⟩
  show (w.heap.push o)[k]? = _
  rw [Array.getElem?_push_lt hk, Array.getElem?_eq_getElem hk]
theorem i16_wrap (x : Int) : IntKind.i16.wrap x = (x + 32768) % 65536 - 32768 := by
  simp only [IntKind.wrap, IntKind.bits, IntKind.signed]
  simp
  split <;> omega
theorem small_be (x : Nat) (hx : x < 18446744073709551616) : [(IntKind.u16.wrap (IntKind.i16.wrap x) / 256 % 256), (IntKind.i16.wrap x % 256)] = be 2 (x % 65536) := by
  rw [be_succ, be_succ, be_zero, List.nil_append]
  show [_, _] = [_, _]
  congr 1
  · rw [IntKind.wrap_u16, i16_wrap]; omega
  · congr 1
    rw [i16_wrap]; omega
theorem fix_not (who n : Int) (x : Nat) (s : ByteArray) (hx : x < 18446744073709551616) (hf : ¬ (Item.mk who 2 n x s).fix) : n < 1 ∨ 8 < n ∨ (1 ≤ n ∧ n < 8 ∧ 256 ^ n.toNat ≤ x) := by
  by_cases h1 : n < 1
  · exact .inl h1
  by_cases h8 : 8 < n
  · exact .inr (.inl h8)
  refine .inr (.inr ⟨by omega, ?_, Decidable.byContradiction fun h => hf ⟨by show 1 ≤ n; omega, by show n ≤ 8; omega, by show x < 256 ^ n.toNat; omega⟩⟩)
  by_cases e : n = 8
  · subst e
    exact absurd ⟨by show (1 : Int) ≤ 8; omega, by show (8 : Int) ≤ 8; omega, by show x < 256 ^ 8; omega⟩ hf
  · omega
theorem wrap_bd (x : Int) : -9223372036854775808 ≤ wrap64 x ∧ wrap64 x ≤ 9223372036854775807 := by unfold wrap64; omega
theorem put0 (who n : Int) (x : Nat) (s : ByteArray) (g : Nat) (v : Value) (xs : List Int) (w0 w : World) (HB0 : Below w0.heap.size w0 w) (h : WS w w0.heap.size g v xs) (hl : xs.length + 30 + s.size ≤ 140737488355328) (hx : x < 18446744073709551616) :
    Calls Try.prog 21 #[.pointer (some ⟨g, 0, none⟩), (Item.mk who 0 n x s).val] w fun e w' => e = .returned (.int .i64 0) ∧ ∃ v', WS w' w0.heap.size g v' (xs ++ [((x % 256 : Nat) : Int)]) ∧ Below w0.heap.size w0 w' ∧ Moved w w' g v v' := by
  unfold Item.val
  dsimp only
  go_enter Try.func21, Try.ntmps21
  go_wp2_with fail
  refine (Byte_calls g v xs ((x : Int) % 256) w0 _ (HB0.alloc (below_size HB0) _) (h.alloc _) (by omega)).mono ?_
  rintro e w1 ⟨rfl, v1, hs1, hb1, hm1⟩
  go_wp2_with fail
  go_ret
  exact ⟨rfl, v1, hs1, hb1, (Moved_alloc _ _ _ _).trans hm1⟩
theorem put1 (who n : Int) (x : Nat) (s : ByteArray) (g : Nat) (v : Value) (xs : List Int) (w0 w : World) (HB0 : Below w0.heap.size w0 w) (h : WS w w0.heap.size g v xs) (hl : xs.length + 30 + s.size ≤ 140737488355328) (hx : x < 18446744073709551616) :
    Calls Try.prog 21 #[.pointer (some ⟨g, 0, none⟩), (Item.mk who 1 n x s).val] w fun e w' => e = .returned (.int .i64 0) ∧ ∃ v', WS w' w0.heap.size g v' (xs ++ be 2 (x % 65536)) ∧ Below w0.heap.size w0 w' ∧ Moved w w' g v v' := by
  rw [← small_be x hx]
  unfold Item.val
  dsimp only
  go_enter Try.func21, Try.ntmps21
  go_wp2_with fail
  refine (Small_m g v xs (IntKind.i16.wrap x) w0 _ (HB0.alloc (below_size HB0) _) (h.alloc _) (by omega)).mono ?_
  rintro e w1 ⟨rfl, v1, hs1, hb1, hm1⟩
  go_wp2_with fail
  go_ret
  exact ⟨rfl, v1, hs1, hb1, (Moved_alloc _ _ _ _).trans hm1⟩
theorem put2 (who n : Int) (x : Nat) (s : ByteArray) (g : Nat) (v : Value) (xs : List Int) (w0 w : World) (HB0 : Below w0.heap.size w0 w) (h : WS w w0.heap.size g v xs) (hl : xs.length + 30 + s.size ≤ 140737488355328) (hx : x < 18446744073709551616) (hf : (Item.mk who 2 n x s).fix) :
    Calls Try.prog 21 #[.pointer (some ⟨g, 0, none⟩), (Item.mk who 2 n x s).val] w fun e w' => e = .returned (.int .i64 0) ∧ ∃ v', WS w' w0.heap.size g v' (xs ++ be n.toNat x) ∧ Below w0.heap.size w0 w' ∧ Moved w w' g v v' := by
  obtain ⟨m, rfl⟩ := Int.eq_ofNat_of_zero_le (show 0 ≤ n by have := hf.1; dsimp only at this; omega)
  have f1 : 1 ≤ m := by have := hf.1; dsimp only at this; omega
  have f2 : m ≤ 8 := by have := hf.2.1; dsimp only at this; omega
  have f3 : x < 256 ^ m := hf.2.2
  clear hf
  unfold Item.val
  dsimp only
  go_enter Try.func21, Try.ntmps21
  go_wp2_with fail
  refine (Fixed_calls g v xs m x w0 _ (HB0.alloc (below_size HB0) _) (h.alloc _) (by omega) f1 f2 f3).mono ?_
  rintro e w1 ⟨rfl, v1, hs1, hb1, hm1⟩
  go_wp2_with fail
  go_ret
  exact ⟨rfl, v1, hs1, hb1, (Moved_alloc _ _ _ _).trans hm1⟩
theorem put2b (who n : Int) (x : Nat) (s : ByteArray) (g : Nat) (v : Value) (xs : List Int) (w0 w : World) (HB0 : Below w0.heap.size w0 w) (h : WS w w0.heap.size g v xs) (hl : xs.length + 30 + s.size ≤ 140737488355328) (hx : x < 18446744073709551616) (hf : ¬ (Item.mk who 2 n x s).fix) :
    Calls Try.prog 21 #[.pointer (some ⟨g, 0, none⟩), (Item.mk who 2 n x s).val] w fun e w' => e = .returned (.int .i64 1) ∧ ∃ v', WS w' w0.heap.size g v' (xs ++ []) ∧ Below w0.heap.size w0 w' ∧ Moved w w' g v v' := by
  rw [List.append_nil]
  have hb : n < 1 ∨ 8 < n ∨ (1 ≤ n ∧ n < 8 ∧ 256 ^ n.toNat ≤ x) := fix_not who n x s hx hf
  clear hf
  unfold Item.val
  dsimp only
  go_enter Try.func21, Try.ntmps21
  go_wp2_with fail
  refine (Fixed_bad _ x n _ hb).mono ?_
  rintro e w1 ⟨rfl, rfl⟩
  go_wp2_with fail
  go_ret
  exact ⟨rfl, v, h.alloc _, HB0.alloc (below_size HB0) _, Moved_alloc _ _ _ _⟩
theorem put3 (who n : Int) (x : Nat) (s : ByteArray) (g : Nat) (v : Value) (xs : List Int) (w0 w : World) (HB0 : Below w0.heap.size w0 w) (h : WS w w0.heap.size g v xs) (hl : xs.length + 30 + s.size ≤ 140737488355328) (hx : x < 18446744073709551616) :
    Calls Try.prog 21 #[.pointer (some ⟨g, 0, none⟩), (Item.mk who 3 n x s).val] w fun e w' => e = .returned (.int .i64 0) ∧ ∃ v', WS w' w0.heap.size g v' (xs ++ uv 10 x) ∧ Below w0.heap.size w0 w' ∧ Moved w w' g v v' := by
  unfold Item.val
  dsimp only
  go_enter Try.func21, Try.ntmps21
  go_wp2_with fail
  refine (Uint_calls g v xs x w0 _ (HB0.alloc (below_size HB0) _) (h.alloc _) (by omega) hx).mono ?_
  rintro e w1 ⟨rfl, v1, hs1, hb1, hm1⟩
  go_wp2_with fail
  go_ret
  exact ⟨rfl, v1, hs1, hb1, (Moved_alloc _ _ _ _).trans hm1⟩
theorem put4 (who n : Int) (x : Nat) (s : ByteArray) (g : Nat) (v : Value) (xs : List Int) (w0 w : World) (HB0 : Below w0.heap.size w0 w) (h : WS w w0.heap.size g v xs) (hl : xs.length + 30 + s.size ≤ 140737488355328) (hx : x < 18446744073709551616) :
    Calls Try.prog 21 #[.pointer (some ⟨g, 0, none⟩), (Item.mk who 4 n x s).val] w fun e w' => e = .returned (.int .i64 0) ∧ ∃ v', WS w' w0.heap.size g v' (xs ++ uv 10 (zig (wrap64 x))) ∧ Below w0.heap.size w0 w' ∧ Moved w w' g v v' := by
  have hw := wrap_bd x
  unfold Item.val
  dsimp only
  go_enter Try.func21, Try.ntmps21
  go_wp2_with fail
  refine (Int_m g v xs (wrap64 x) w0 _ (HB0.alloc (below_size HB0) _) (h.alloc _) (by omega) hw.1 hw.2).mono ?_
  rintro e w1 ⟨rfl, v1, hs1, hb1, hm1⟩
  go_wp2_with fail
  go_ret
  exact ⟨rfl, v1, hs1, hb1, (Moved_alloc _ _ _ _).trans hm1⟩
theorem put5 (who n : Int) (x : Nat) (s : ByteArray) (g : Nat) (v : Value) (xs : List Int) (w0 w : World) (HB0 : Below w0.heap.size w0 w) (h : WS w w0.heap.size g v xs) (hl : xs.length + 30 + s.size ≤ 140737488355328) (hx : x < 18446744073709551616) :
    Calls Try.prog 21 #[.pointer (some ⟨g, 0, none⟩), (Item.mk who 5 n x s).val] w fun e w' => e = .returned (.int .i64 0) ∧ ∃ v', WS w' w0.heap.size g v' (xs ++ be 8 (fbits x)) ∧ Below w0.heap.size w0 w' ∧ Moved w w' g v v' := by
  have hfb := frombits_run x
  unfold Item.val
  dsimp only
  go_enter Try.func21, Try.ntmps21
  go_wp2_with fail
  refine (Float_m g v xs x w0 _ (HB0.alloc (below_size HB0) _) (h.alloc _) (by omega) hx).mono ?_
  rintro e w1 ⟨rfl, v1, hs1, hb1, hm1⟩
  go_wp2_with fail
  go_ret
  exact ⟨rfl, v1, hs1, hb1, (Moved_alloc _ _ _ _).trans hm1⟩
theorem put6 (who n : Int) (x : Nat) (s : ByteArray) (g : Nat) (v : Value) (xs : List Int) (w0 w : World) (HB0 : Below w0.heap.size w0 w) (h : WS w w0.heap.size g v xs) (hl : xs.length + 30 + s.size ≤ 140737488355328) (hx : x < 18446744073709551616) :
    Calls Try.prog 21 #[.pointer (some ⟨g, 0, none⟩), (Item.mk who 6 n x s).val] w fun e w' => e = .returned (.int .i64 0) ∧ ∃ v', WS w' w0.heap.size g v' (xs ++ (uv 10 s.size ++ bytesOf s)) ∧ Below w0.heap.size w0 w' ∧ Moved w w' g v v' := by
  unfold Item.val
  dsimp only
  go_enter Try.func21, Try.ntmps21
  go_wp2_with fail
  refine (Text_m g v xs s w0 _ (HB0.alloc (below_size HB0) _) (h.alloc _) (by omega)).mono ?_
  rintro e w1 ⟨rfl, v1, hs1, hb1, hm1⟩
  go_wp2_with fail
  go_ret
  rw [List.append_assoc] at hs1
  exact ⟨rfl, v1, hs1, hb1, (Moved_alloc _ _ _ _).trans hm1⟩
theorem put7 (who n : Int) (x : Nat) (s : ByteArray) (g : Nat) (v : Value) (xs : List Int) (w0 w : World) (HB0 : Below w0.heap.size w0 w) (h : WS w w0.heap.size g v xs) (hl : xs.length + 30 + s.size ≤ 140737488355328) (hx : x < 18446744073709551616) :
    Calls Try.prog 21 #[.pointer (some ⟨g, 0, none⟩), (Item.mk who 7 n x s).val] w fun e w' => e = .returned (.int .i64 0) ∧ ∃ v', WS w' w0.heap.size g v' (xs ++ bytesOf s) ∧ Below w0.heap.size w0 w' ∧ Moved w w' g v v' := by
  unfold Item.val
  dsimp only
  go_enter Try.func21, Try.ntmps21
  go_wp2_with fail
  refine (Raw_m g v xs s w0 _ (HB0.alloc (below_size HB0) _) (h.alloc _) (by omega)).mono ?_
  rintro e w1 ⟨rfl, v1, hs1, hb1, hm1⟩
  go_wp2_with fail
  go_ret
  exact ⟨rfl, v1, hs1, hb1, (Moved_alloc _ _ _ _).trans hm1⟩
theorem put9 (who kind n : Int) (x : Nat) (s : ByteArray) (g : Nat) (v : Value) (xs : List Int) (w0 w : World) (HB0 : Below w0.heap.size w0 w) (h : WS w w0.heap.size g v xs) (hl : xs.length + 30 + s.size ≤ 140737488355328) (hx : x < 18446744073709551616) (hk : kind < 0 ∨ 7 < kind) :
    Calls Try.prog 21 #[.pointer (some ⟨g, 0, none⟩), (Item.mk who kind n x s).val] w fun e w' => e = .returned (.int .i64 0) ∧ ∃ v', WS w' w0.heap.size g v' (xs ++ []) ∧ Below w0.heap.size w0 w' ∧ Moved w w' g v v' := by
  rw [List.append_nil]
  have k0 : (kind == 0) = false := by rw [beq_eq_false_iff_ne]; omega
  have k1 : (kind == 1) = false := by rw [beq_eq_false_iff_ne]; omega
  have k2 : (kind == 2) = false := by rw [beq_eq_false_iff_ne]; omega
  have k3 : (kind == 3) = false := by rw [beq_eq_false_iff_ne]; omega
  have k4 : (kind == 4) = false := by rw [beq_eq_false_iff_ne]; omega
  have k5 : (kind == 5) = false := by rw [beq_eq_false_iff_ne]; omega
  have k6 : (kind == 6) = false := by rw [beq_eq_false_iff_ne]; omega
  have k7 : (kind == 7) = false := by rw [beq_eq_false_iff_ne]; omega
  clear hk
  unfold Item.val
  dsimp only
  go_enter Try.func21, Try.ntmps21
  go_wp2_with fail
  go_ret
  exact ⟨rfl, v, h.alloc _, HB0.alloc (below_size HB0) _, Moved_alloc _ _ _ _⟩
theorem out0 (who n : Int) (x : Nat) (s : ByteArray) : (Item.mk who 0 n x s).out = [((x % 256 : Nat) : Int)] := by
  unfold Item.out
  rw [if_pos rfl]
theorem err0 (who n : Int) (x : Nat) (s : ByteArray) : (Item.mk who 0 n x s).err = 0 := if_neg (fun h => absurd h.1 (show ¬ (0 : Int) = 2 by decide))
theorem out1 (who n : Int) (x : Nat) (s : ByteArray) : (Item.mk who 1 n x s).out = be 2 (x % 65536) := by
  unfold Item.out
  rw [if_neg (show ¬ (1 : Int) = 0 by decide), if_pos rfl]
theorem err1 (who n : Int) (x : Nat) (s : ByteArray) : (Item.mk who 1 n x s).err = 0 := if_neg (fun h => absurd h.1 (show ¬ (1 : Int) = 2 by decide))
theorem out2 (who n : Int) (x : Nat) (s : ByteArray) : (Item.mk who 2 n x s).out = (if (Item.mk who 2 n x s).fix then be n.toNat x else []) := by
  unfold Item.out
  rw [if_neg (show ¬ (2 : Int) = 0 by decide), if_neg (show ¬ (2 : Int) = 1 by decide), if_pos rfl]
theorem out3 (who n : Int) (x : Nat) (s : ByteArray) : (Item.mk who 3 n x s).out = uv 10 x := by
  unfold Item.out
  rw [if_neg (show ¬ (3 : Int) = 0 by decide), if_neg (show ¬ (3 : Int) = 1 by decide), if_neg (show ¬ (3 : Int) = 2 by decide), if_pos rfl]
theorem err3 (who n : Int) (x : Nat) (s : ByteArray) : (Item.mk who 3 n x s).err = 0 := if_neg (fun h => absurd h.1 (show ¬ (3 : Int) = 2 by decide))
theorem out4 (who n : Int) (x : Nat) (s : ByteArray) : (Item.mk who 4 n x s).out = uv 10 (zig (wrap64 x)) := by
  unfold Item.out
  rw [if_neg (show ¬ (4 : Int) = 0 by decide), if_neg (show ¬ (4 : Int) = 1 by decide), if_neg (show ¬ (4 : Int) = 2 by decide), if_neg (show ¬ (4 : Int) = 3 by decide), if_pos rfl]
theorem err4 (who n : Int) (x : Nat) (s : ByteArray) : (Item.mk who 4 n x s).err = 0 := if_neg (fun h => absurd h.1 (show ¬ (4 : Int) = 2 by decide))
theorem out5 (who n : Int) (x : Nat) (s : ByteArray) : (Item.mk who 5 n x s).out = be 8 (fbits x) := by
  unfold Item.out
  rw [if_neg (show ¬ (5 : Int) = 0 by decide), if_neg (show ¬ (5 : Int) = 1 by decide), if_neg (show ¬ (5 : Int) = 2 by decide), if_neg (show ¬ (5 : Int) = 3 by decide), if_neg (show ¬ (5 : Int) = 4 by decide), if_pos rfl]
theorem err5 (who n : Int) (x : Nat) (s : ByteArray) : (Item.mk who 5 n x s).err = 0 := if_neg (fun h => absurd h.1 (show ¬ (5 : Int) = 2 by decide))
theorem out6 (who n : Int) (x : Nat) (s : ByteArray) : (Item.mk who 6 n x s).out = uv 10 s.size ++ bytesOf s := by
  unfold Item.out
  rw [if_neg (show ¬ (6 : Int) = 0 by decide), if_neg (show ¬ (6 : Int) = 1 by decide), if_neg (show ¬ (6 : Int) = 2 by decide), if_neg (show ¬ (6 : Int) = 3 by decide), if_neg (show ¬ (6 : Int) = 4 by decide), if_neg (show ¬ (6 : Int) = 5 by decide), if_pos rfl]
theorem err6 (who n : Int) (x : Nat) (s : ByteArray) : (Item.mk who 6 n x s).err = 0 := if_neg (fun h => absurd h.1 (show ¬ (6 : Int) = 2 by decide))
theorem out7 (who n : Int) (x : Nat) (s : ByteArray) : (Item.mk who 7 n x s).out = bytesOf s := by
  unfold Item.out
  rw [if_neg (show ¬ (7 : Int) = 0 by decide), if_neg (show ¬ (7 : Int) = 1 by decide), if_neg (show ¬ (7 : Int) = 2 by decide), if_neg (show ¬ (7 : Int) = 3 by decide), if_neg (show ¬ (7 : Int) = 4 by decide), if_neg (show ¬ (7 : Int) = 5 by decide), if_neg (show ¬ (7 : Int) = 6 by decide), if_pos rfl]
theorem err7 (who n : Int) (x : Nat) (s : ByteArray) : (Item.mk who 7 n x s).err = 0 := if_neg (fun h => absurd h.1 (show ¬ (7 : Int) = 2 by decide))
theorem out9 (who kind n : Int) (x : Nat) (s : ByteArray) (hk : kind < 0 ∨ 7 < kind) : (Item.mk who kind n x s).out = [] := by
  unfold Item.out
  dsimp only
  rw [if_neg (show ¬ kind = 0 by omega), if_neg (show ¬ kind = 1 by omega), if_neg (show ¬ kind = 2 by omega), if_neg (show ¬ kind = 3 by omega), if_neg (show ¬ kind = 4 by omega), if_neg (show ¬ kind = 5 by omega), if_neg (show ¬ kind = 6 by omega), if_neg (show ¬ kind = 7 by omega)]
theorem err9 (who kind n : Int) (x : Nat) (s : ByteArray) (hk : kind < 0 ∨ 7 < kind) : (Item.mk who kind n x s).err = 0 := if_neg (fun h => by have h1 : kind = 2 := h.1; omega)
/-- What put puts. -/
theorem put_calls (x : Item) (hx : x.Ok) (g : Nat) (v : Value) (xs : List Int) (w0 w : World) (HB0 : Below w0.heap.size w0 w) (h : WS w w0.heap.size g v xs) (hl : xs.length + 30 + x.s.size ≤ 140737488355328) :
    Calls Try.prog 21 #[.pointer (some ⟨g, 0, none⟩), x.val] w fun e w' => e = .returned (.int .i64 x.err) ∧ ∃ v', WS w' w0.heap.size g v' (xs ++ x.out) ∧ Below w0.heap.size w0 w' ∧ Moved w w' g v v' := by
  obtain ⟨who, kind, n, y, s⟩ := x
  obtain ⟨hy, hn0, hn1, hs⟩ := hx
  dsimp only at hy hn0 hn1 hs hl
  by_cases hk : kind < 0 ∨ 7 < kind
  · rw [out9 _ _ _ _ _ hk, err9 _ _ _ _ _ hk]
    exact put9 who kind n y s g v xs w0 w HB0 h hl hy hk
  obtain ⟨k, rfl⟩ := Int.eq_ofNat_of_zero_le (show 0 ≤ kind by omega)
  have h8 : k < 8 := by omega
  clear hk
  match k, h8 with
  | 0, _ =>
    show Calls _ _ #[_, (Item.mk who 0 n y s).val] w fun e w' => e = .returned (.int .i64 (Item.mk who 0 n y s).err) ∧ ∃ v', WS w' w0.heap.size g v' (xs ++ (Item.mk who 0 n y s).out) ∧ _
    rw [out0, err0]
    exact put0 who n y s g v xs w0 w HB0 h hl hy
  | 1, _ =>
    show Calls _ _ #[_, (Item.mk who 1 n y s).val] w fun e w' => e = .returned (.int .i64 (Item.mk who 1 n y s).err) ∧ ∃ v', WS w' w0.heap.size g v' (xs ++ (Item.mk who 1 n y s).out) ∧ _
    rw [out1, err1]
    exact put1 who n y s g v xs w0 w HB0 h hl hy
  | 2, _ =>
    show Calls _ _ #[_, (Item.mk who 2 n y s).val] w _
    by_cases hf : (Item.mk who 2 n y s).fix
    · have e1 : (Item.mk who 2 n y s).err = 0 := if_neg (fun h => h.2 hf)
      have e2 : (Item.mk who 2 n y s).out = be n.toNat y := by rw [out2, if_pos hf]
      show Calls _ _ _ w fun e w' => e = .returned (.int .i64 (Item.mk who 2 n y s).err) ∧ ∃ v', WS w' w0.heap.size g v' (xs ++ (Item.mk who 2 n y s).out) ∧ _
      rw [e1, e2]
      exact put2 who n y s g v xs w0 w HB0 h hl hy hf
    · have e1 : (Item.mk who 2 n y s).err = 1 := if_pos ⟨rfl, hf⟩
      have e2 : (Item.mk who 2 n y s).out = [] := by rw [out2, if_neg hf]
      show Calls _ _ _ w fun e w' => e = .returned (.int .i64 (Item.mk who 2 n y s).err) ∧ ∃ v', WS w' w0.heap.size g v' (xs ++ (Item.mk who 2 n y s).out) ∧ _
      rw [e1, e2]
      exact put2b who n y s g v xs w0 w HB0 h hl hy hf
  | 3, _ =>
    show Calls _ _ #[_, (Item.mk who 3 n y s).val] w fun e w' => e = .returned (.int .i64 (Item.mk who 3 n y s).err) ∧ ∃ v', WS w' w0.heap.size g v' (xs ++ (Item.mk who 3 n y s).out) ∧ _
    rw [out3, err3]
    exact put3 who n y s g v xs w0 w HB0 h hl hy
  | 4, _ =>
    show Calls _ _ #[_, (Item.mk who 4 n y s).val] w fun e w' => e = .returned (.int .i64 (Item.mk who 4 n y s).err) ∧ ∃ v', WS w' w0.heap.size g v' (xs ++ (Item.mk who 4 n y s).out) ∧ _
    rw [out4, err4]
    exact put4 who n y s g v xs w0 w HB0 h hl hy
  | 5, _ =>
    show Calls _ _ #[_, (Item.mk who 5 n y s).val] w fun e w' => e = .returned (.int .i64 (Item.mk who 5 n y s).err) ∧ ∃ v', WS w' w0.heap.size g v' (xs ++ (Item.mk who 5 n y s).out) ∧ _
    rw [out5, err5]
    exact put5 who n y s g v xs w0 w HB0 h hl hy
  | 6, _ =>
    show Calls _ _ #[_, (Item.mk who 6 n y s).val] w fun e w' => e = .returned (.int .i64 (Item.mk who 6 n y s).err) ∧ ∃ v', WS w' w0.heap.size g v' (xs ++ (Item.mk who 6 n y s).out) ∧ _
    rw [out6, err6]
    exact put6 who n y s g v xs w0 w HB0 h hl hy
  | 7, _ =>
    show Calls _ _ #[_, (Item.mk who 7 n y s).val] w fun e w' => e = .returned (.int .i64 (Item.mk who 7 n y s).err) ∧ ∃ v', WS w' w0.heap.size g v' (xs ++ (Item.mk who 7 n y s).out) ∧ _
    rw [out7, err7]
    exact put7 who n y s g v xs w0 w HB0 h hl hy
end Go.Proofs.Ytikfdfagnalmbaa.My
namespace Go.Proofs.Ytikfdfagnalmbaa.My
open Go.RowKit Go.Proofs.YtikfdfagnalmbaaW.PrintWords Go.Proofs.YtikfdfagnalmbaaW.PrintLast Go.Proofs.YtikfdfagnalmbaaW.PrintMore Go.Proofs.Ytikfdfagnalmbaa
set_option linter.unusedSimpArgs false
set_option linter.unusedVariables false
set_option maxRecDepth 100000
set_option maxHeartbeats 1600000
/-- May the item be put? -/
def Item.fits (x : Item) : Bool := if x.kind = 2 then decide x.fix else decide (0 ≤ x.kind ∧ x.kind ≤ 7)
theorem below_drewN' (base : Nat) (w : World) (m : Nat) : Below base w (w.drewN m) := ⟨rfl, rfl, rfl, Nat.le_refl _, fun _ _ => rfl⟩
theorem fits_2 (who n : Int) (x : Nat) (s : ByteArray) (w : World) (hx : x < 18446744073709551616) :
    Calls Try.prog 44 #[(Item.mk who 2 n x s).val] w fun e w' => e = .returned (.bool (decide (Item.mk who 2 n x s).fix)) ∧ Below w.heap.size w w' := by
  unfold Item.val
  dsimp only
  by_cases h1 : n < 1
  · rw [decide_eq_false (fun h => by have h : 1 ≤ n := h.1; omega)]
    have hd : decide (1 ≤ n) = false := decide_eq_false (by omega)
    go_enter Try.func44, Try.ntmps44
    go_wp2_with fail
    go_quiet (fail)
    go_wp2_with fail
    go_ret
    exact ⟨rfl, ((Below.refl _ _).alloc (Nat.le_refl _) _).trans (below_drewN' _ _ _)⟩
  by_cases h8 : 8 < n
  · rw [decide_eq_false (fun h => by have h : n ≤ 8 := h.2.1; omega)]
    have hd : decide (1 ≤ n) = true := decide_eq_true (by omega)
    have hd2 : decide (n ≤ 8) = false := decide_eq_false (by omega)
    go_enter Try.func44, Try.ntmps44
    go_wp2_with fail
    go_quiet (fail)
    go_wp2_with fail
    go_ret
    exact ⟨rfl, ((Below.refl _ _).alloc (Nat.le_refl _) _).trans (below_drewN' _ _ _)⟩
  obtain ⟨m, rfl⟩ := Int.eq_ofNat_of_zero_le (show 0 ≤ n by omega)
  have hm : m = 1 ∨ m = 2 ∨ m = 3 ∨ m = 4 ∨ m = 5 ∨ m = 6 ∨ m = 7 ∨ m = 8 := by omega
  have hd : decide (Item.mk who 2 (m : Int) x s).fix = decide (x < 256 ^ m) := decide_eq_decide.2 ⟨fun h => h.2.2, fun h => ⟨by show (1 : Int) ≤ m; omega, by show (m : Int) ≤ 8; omega, h⟩⟩
  rw [hd]
  clear h1 h8 hd
  rcases hm with rfl | rfl | rfl | rfl | rfl | rfl | rfl | rfl
  · rw [show decide (x < 256 ^ 1) = decide ((x : Int) < 256) from decide_eq_decide.2 (by omega)]
    go_enter Try.func44, Try.ntmps44
    go_wp2_with fail
    go_quiet (fail)
    go_wp2_with fail
    go_ret
    exact ⟨rfl, ((Below.refl _ _).alloc (Nat.le_refl _) _).trans (below_drewN' _ _ _)⟩
  · rw [show decide (x < 256 ^ 2) = decide ((x : Int) < 65536) from decide_eq_decide.2 (by omega)]
    go_enter Try.func44, Try.ntmps44
    go_wp2_with fail
    go_quiet (fail)
    go_wp2_with fail
    go_ret
    exact ⟨rfl, ((Below.refl _ _).alloc (Nat.le_refl _) _).trans (below_drewN' _ _ _)⟩
  · rw [show decide (x < 256 ^ 3) = decide ((x : Int) < 16777216) from decide_eq_decide.2 (by omega)]
    go_enter Try.func44, Try.ntmps44
    go_wp2_with fail
    go_quiet (fail)
    go_wp2_with fail
    go_ret
    exact ⟨rfl, ((Below.refl _ _).alloc (Nat.le_refl _) _).trans (below_drewN' _ _ _)⟩
  · rw [show decide (x < 256 ^ 4) = decide ((x : Int) < 4294967296) from decide_eq_decide.2 (by omega)]
    go_enter Try.func44, Try.ntmps44
    go_wp2_with fail
    go_quiet (fail)
    go_wp2_with fail
    go_ret
    exact ⟨rfl, ((Below.refl _ _).alloc (Nat.le_refl _) _).trans (below_drewN' _ _ _)⟩
  · rw [show decide (x < 256 ^ 5) = decide ((x : Int) < 1099511627776) from decide_eq_decide.2 (by omega)]
    go_enter Try.func44, Try.ntmps44
    go_wp2_with fail
    go_quiet (fail)
    go_wp2_with fail
    go_ret
    exact ⟨rfl, ((Below.refl _ _).alloc (Nat.le_refl _) _).trans (below_drewN' _ _ _)⟩
  · rw [show decide (x < 256 ^ 6) = decide ((x : Int) < 281474976710656) from decide_eq_decide.2 (by omega)]
    go_enter Try.func44, Try.ntmps44
    go_wp2_with fail
    go_quiet (fail)
    go_wp2_with fail
    go_ret
    exact ⟨rfl, ((Below.refl _ _).alloc (Nat.le_refl _) _).trans (below_drewN' _ _ _)⟩
  · rw [show decide (x < 256 ^ 7) = decide ((x : Int) < 72057594037927936) from decide_eq_decide.2 (by omega)]
    go_enter Try.func44, Try.ntmps44
    go_wp2_with fail
    go_quiet (fail)
    go_wp2_with fail
    go_ret
    exact ⟨rfl, ((Below.refl _ _).alloc (Nat.le_refl _) _).trans (below_drewN' _ _ _)⟩
  · rw [show decide (x < 256 ^ 8) = true from decide_eq_true (by omega)]
    go_enter Try.func44, Try.ntmps44
    go_wp2_with fail
    go_quiet (fail)
    go_wp2_with fail
    go_ret
    exact ⟨rfl, ((Below.refl _ _).alloc (Nat.le_refl _) _).trans (below_drewN' _ _ _)⟩
theorem fits_calls (x : Item) (hx : x.Ok) (w : World) :
    Calls Try.prog 44 #[x.val] w fun e w' => e = .returned (.bool x.fits) ∧ Below w.heap.size w w' := by
  obtain ⟨who, kind, n, y, s⟩ := x
  unfold Item.fits
  by_cases h2 : kind = 2
  · subst h2
    rw [if_pos rfl]
    exact fits_2 who n y s w hx.1
  · rw [if_neg h2]
    have hk : (kind == 2) = false := by rw [beq_eq_false_iff_ne]; exact h2
    have hk2 : (kind != 2) = true := by rw [bne_iff_ne]; exact h2
    unfold Item.val
    dsimp only
    clear h2
    by_cases h0 : 0 ≤ kind
    · rw [show decide (0 ≤ kind ∧ kind ≤ 7) = decide (kind ≤ 7) from decide_eq_decide.2 ⟨fun h => h.2, fun h => ⟨h0, h⟩⟩]
      go_enter Try.func44, Try.ntmps44
      go_wp2_with fail
      go_ret
      exact ⟨rfl, (Below.refl _ _).alloc (Nat.le_refl _) _⟩
    · rw [decide_eq_false (fun h => h0 h.1)]
      go_enter Try.func44, Try.ntmps44
      go_wp2_with fail
      go_ret
      exact ⟨rfl, (Below.refl _ _).alloc (Nat.le_refl _) _⟩
/-- The same float, of bits. -/
def sameF (a b : Nat) : Bool := (nanB a && nanB b) || (a : Int) == (b : Int)
theorem same_calls (a b : Nat) (w : World) : Calls Try.prog 39 #[.float .f64 a, .float .f64 b] w fun e w' => e = .returned (.bool (sameF a b)) ∧ w = w' := by
  have h3 := bits_run a
  have h4 := bits_run b
  by_cases ha : FloatKind.f64.format.order a a = some .eq <;> by_cases hb : FloatKind.f64.format.order b b = some .eq
  all_goals
    first
      | rw [sameF, show nanB a = false by unfold nanB; rw [ha]; rfl, Bool.false_and, Bool.false_or]
      | rw [sameF, show nanB b = false by unfold nanB; rw [hb]; rfl, Bool.and_false, Bool.false_or]
      | rw [sameF, show nanB a = true by unfold nanB; exact bne_iff_ne.2 ha, show nanB b = true by unfold nanB; exact bne_iff_ne.2 hb, Bool.true_and, Bool.true_or]
    go_enter Try.func39, Try.ntmps39
    go_wp2_with fail
    go_ret
    exact ⟨rfl, rfl⟩
/-- An item is taken as it was put: is it the same, the place, the error. -/
def Item.bk (x : Item) (s : ByteArray) (p : Nat) (e : Int) : Bool × Nat × Int :=
  if x.kind = 0 then (((hiN (natsOf (tk s p e 1).1) : Nat) % 256 : Int) == IntKind.u8.wrap (x.v : Int), (tk s p e 1).2.2) else
  if x.kind = 1 then (rSm (tk s p e 2) == IntKind.i16.wrap x.v, (tk s p e 2).2.2) else
  if x.kind = 2 then ((hiN (natsOf (tk s p e x.n).1) : Int) == (x.v : Int), (tk s p e x.n).2.2) else
  if x.kind = 3 then (((rU s p e x.v).1 : Int) == (x.v : Int), (rU s p e x.v).2) else
  if x.kind = 4 then (zag (rU s p e 18446744073709551615).1 == IntKind.i64.wrap x.v, (rU s p e 18446744073709551615).2) else
  if x.kind = 5 then (sameF (rF s p e).1 x.v, (rF s p e).2) else
  if x.kind = 6 then ((rT s p e (x.s.size : Int)).1.toList == x.s.toList, (rT s p e (x.s.size : Int)).2) else
  ((tk s p e (x.s.size : Int)).1.toList == x.s.toList, (tk s p e (x.s.size : Int)).2.2)
theorem a1_cell {w w' : World} {g : Nat} (h : Alone1 w w' g) (b j : Nat) (hne : b ≠ g) (hlt : b < w.heap.size) : w'.cell? ⟨b, j, none⟩ = w.cell? ⟨b, j, none⟩ := by
  have := h.2 b hne hlt
  simp only [World.cell?, this]
theorem RS_alloc {w : World} {g : Nat} {s : ByteArray} {p : Nat} {e : Int} (h : RS w g s p e) (o : Obj) : RS (w.alloc o) g s p e := blk_alloc h _
theorem bk0 (who n : Int) (x : Nat) (t : ByteArray) (s : ByteArray) (p : Nat) (e : Int) : (Item.mk who 0 n x t).bk s p e = (((hiN (natsOf (tk s p e 1).1) : Nat) % 256 : Int) == IntKind.u8.wrap (x : Int), (tk s p e 1).2.2) := by
  unfold Item.bk
  rw [if_pos rfl]
theorem back0 (who n : Int) (x : Nat) (t : ByteArray) (g : Nat) (s : ByteArray) (p : Nat) (e : Int) (w : World) (h : RS w g s p e) (hp : p ≤ s.size) (hs : s.size ≤ 140737488351232) (hx : x < 18446744073709551616) (ht : t.size ≤ 140737488351232) :
    Calls Try.prog 45 #[.pointer (some ⟨g, 0, none⟩), (Item.mk who 0 n x t).val] w fun r w' => r = .returned (.bool ((Item.mk who 0 n x t).bk s p e).1) ∧ RS w' g s ((Item.mk who 0 n x t).bk s p e).2.1 ((Item.mk who 0 n x t).bk s p e).2.2 ∧ Alone1 w w' g := by
  rw [bk0]
  unfold Item.val
  dsimp only
  have HC := Aside0.mk (fun (W : World) (h : RS W g s p e) => RByte_any h hp hs)
  have hg := blk_lt h
  go_enter Try.func45, Try.ntmps45
  go_wp2_with fail
  go_region_held3 (fun W' : World => W'.cell? ⟨w.heap.size, 3, none⟩ = some (.int .u64 x)) (first | go_keep | (constructor <;> go_keep)) (first | (go_at_call 34; refine (HC.out _ ?_).mono ?_; (exact blk_drew (RS_alloc h _)); rintro e_ w1 ⟨rfl, h1, h2⟩; have hk3 : w1.cell? ⟨w.heap.size, 3, none⟩ = some (.int .u64 x) := (a1_cell h2 w.heap.size 3 (Nat.ne_of_gt hg) (by simp)).trans ((blk_cell (W_push w _ _ _) 3).trans rfl)))
  go_wp2_with fail
  go_ret
  exact ⟨rfl, h1, (Alone1_alloc _ _ _).trans ((Alone1_drewN _ 1 g).trans h2)⟩
theorem bk1 (who n : Int) (x : Nat) (t : ByteArray) (s : ByteArray) (p : Nat) (e : Int) : (Item.mk who 1 n x t).bk s p e = (rSm (tk s p e 2) == IntKind.i16.wrap x, (tk s p e 2).2.2) := by
  unfold Item.bk
  rw [if_neg (show ¬ (1 : Int) = 0 by decide), if_pos rfl]
theorem back1 (who n : Int) (x : Nat) (t : ByteArray) (g : Nat) (s : ByteArray) (p : Nat) (e : Int) (w : World) (h : RS w g s p e) (hp : p ≤ s.size) (hs : s.size ≤ 140737488351232) (hx : x < 18446744073709551616) (ht : t.size ≤ 140737488351232) :
    Calls Try.prog 45 #[.pointer (some ⟨g, 0, none⟩), (Item.mk who 1 n x t).val] w fun r w' => r = .returned (.bool ((Item.mk who 1 n x t).bk s p e).1) ∧ RS w' g s ((Item.mk who 1 n x t).bk s p e).2.1 ((Item.mk who 1 n x t).bk s p e).2.2 ∧ Alone1 w w' g := by
  rw [bk1]
  unfold Item.val
  dsimp only
  have HC := Aside0.mk (fun (W : World) (h : RS W g s p e) => RSmall_any h hp hs)
  have hg := blk_lt h
  go_enter Try.func45, Try.ntmps45
  go_wp2_with fail
  go_region_held3 (fun W' : World => W'.cell? ⟨w.heap.size, 3, none⟩ = some (.int .u64 x)) (first | go_keep | (constructor <;> go_keep)) (first | (go_at_call 35; refine (HC.out _ ?_).mono ?_; (exact blk_drew (RS_alloc h _)); rintro e_ w1 ⟨rfl, h1, h2⟩; have hk3 : w1.cell? ⟨w.heap.size, 3, none⟩ = some (.int .u64 x) := (a1_cell h2 w.heap.size 3 (Nat.ne_of_gt hg) (by simp)).trans ((blk_cell (W_push w _ _ _) 3).trans rfl)))
  go_wp2_with fail
  go_ret
  exact ⟨rfl, h1, (Alone1_alloc _ _ _).trans ((Alone1_drewN _ 1 g).trans h2)⟩
theorem bk2 (who n : Int) (x : Nat) (t : ByteArray) (s : ByteArray) (p : Nat) (e : Int) : (Item.mk who 2 n x t).bk s p e = ((hiN (natsOf (tk s p e n).1) : Int) == (x : Int), (tk s p e n).2.2) := by
  unfold Item.bk
  rw [if_neg (show ¬ (2 : Int) = 0 by decide), if_neg (show ¬ (2 : Int) = 1 by decide), if_pos rfl]
theorem back2 (who n : Int) (x : Nat) (t : ByteArray) (g : Nat) (s : ByteArray) (p : Nat) (e : Int) (w : World) (h : RS w g s p e) (hp : p ≤ s.size) (hs : s.size ≤ 140737488351232) (hx : x < 18446744073709551616) (ht : t.size ≤ 140737488351232) (h1 : 1 ≤ n) (h8 : n ≤ 8) :
    Calls Try.prog 45 #[.pointer (some ⟨g, 0, none⟩), (Item.mk who 2 n x t).val] w fun r w' => r = .returned (.bool ((Item.mk who 2 n x t).bk s p e).1) ∧ RS w' g s ((Item.mk who 2 n x t).bk s p e).2.1 ((Item.mk who 2 n x t).bk s p e).2.2 ∧ Alone1 w w' g := by
  rw [bk2]
  unfold Item.val
  dsimp only
  have HC := Aside0.mk (fun (W : World) (h : RS W g s p e) => RFixed_any h hp hs n (by omega) (by omega))
  have hg := blk_lt h
  go_enter Try.func45, Try.ntmps45
  go_wp2_with fail
  go_region_held3 (fun W' : World => W'.cell? ⟨w.heap.size, 2, none⟩ = some (.int .i64 n) ∧ W'.cell? ⟨w.heap.size, 3, none⟩ = some (.int .u64 x)) (first | go_keep | (constructor <;> go_keep)) (first | (go_at_call 36; refine (HC.out _ ?_).mono ?_; (exact blk_drew (RS_alloc h _)); rintro e_ w1 ⟨rfl, h1, h2⟩; have hk2 : w1.cell? ⟨w.heap.size, 2, none⟩ = some (.int .i64 n) := (a1_cell h2 w.heap.size 2 (Nat.ne_of_gt hg) (by simp)).trans ((blk_cell (W_push w _ _ _) 2).trans rfl); have hk3 : w1.cell? ⟨w.heap.size, 3, none⟩ = some (.int .u64 x) := (a1_cell h2 w.heap.size 3 (Nat.ne_of_gt hg) (by simp)).trans ((blk_cell (W_push w _ _ _) 3).trans rfl)))
  go_wp2_with fail
  go_ret
  exact ⟨rfl, h1, (Alone1_alloc _ _ _).trans ((Alone1_drewN _ 1 g).trans h2)⟩
theorem bk3 (who n : Int) (x : Nat) (t : ByteArray) (s : ByteArray) (p : Nat) (e : Int) : (Item.mk who 3 n x t).bk s p e = (((rU s p e x).1 : Int) == (x : Int), (rU s p e x).2) := by
  unfold Item.bk
  rw [if_neg (show ¬ (3 : Int) = 0 by decide), if_neg (show ¬ (3 : Int) = 1 by decide), if_neg (show ¬ (3 : Int) = 2 by decide), if_pos rfl]
theorem back3 (who n : Int) (x : Nat) (t : ByteArray) (g : Nat) (s : ByteArray) (p : Nat) (e : Int) (w : World) (h : RS w g s p e) (hp : p ≤ s.size) (hs : s.size ≤ 140737488351232) (hx : x < 18446744073709551616) (ht : t.size ≤ 140737488351232) :
    Calls Try.prog 45 #[.pointer (some ⟨g, 0, none⟩), (Item.mk who 3 n x t).val] w fun r w' => r = .returned (.bool ((Item.mk who 3 n x t).bk s p e).1) ∧ RS w' g s ((Item.mk who 3 n x t).bk s p e).2.1 ((Item.mk who 3 n x t).bk s p e).2.2 ∧ Alone1 w w' g := by
  rw [bk3]
  unfold Item.val
  dsimp only
  have HC := Aside0.mk (fun (W : World) (h : RS W g s p e) => RUint_any h hp hs x hx)
  have hg := blk_lt h
  go_enter Try.func45, Try.ntmps45
  go_wp2_with fail
  go_region_held3 (fun W' : World => W'.cell? ⟨w.heap.size, 3, none⟩ = some (.int .u64 x)) (first | go_keep | (constructor <;> go_keep)) (first | (go_at_call 37; refine (HC.out _ ?_).mono ?_; (exact blk_drew (RS_alloc h _)); rintro e_ w1 ⟨rfl, h1, h2⟩; have hk3 : w1.cell? ⟨w.heap.size, 3, none⟩ = some (.int .u64 x) := (a1_cell h2 w.heap.size 3 (Nat.ne_of_gt hg) (by simp)).trans ((blk_cell (W_push w _ _ _) 3).trans rfl)))
  go_wp2_with fail
  go_ret
  exact ⟨rfl, h1, (Alone1_alloc _ _ _).trans ((Alone1_drewN _ 1 g).trans h2)⟩
theorem bk4 (who n : Int) (x : Nat) (t : ByteArray) (s : ByteArray) (p : Nat) (e : Int) : (Item.mk who 4 n x t).bk s p e = (zag (rU s p e 18446744073709551615).1 == IntKind.i64.wrap x, (rU s p e 18446744073709551615).2) := by
  unfold Item.bk
  rw [if_neg (show ¬ (4 : Int) = 0 by decide), if_neg (show ¬ (4 : Int) = 1 by decide), if_neg (show ¬ (4 : Int) = 2 by decide), if_neg (show ¬ (4 : Int) = 3 by decide), if_pos rfl]
theorem back4 (who n : Int) (x : Nat) (t : ByteArray) (g : Nat) (s : ByteArray) (p : Nat) (e : Int) (w : World) (h : RS w g s p e) (hp : p ≤ s.size) (hs : s.size ≤ 140737488351232) (hx : x < 18446744073709551616) (ht : t.size ≤ 140737488351232) :
    Calls Try.prog 45 #[.pointer (some ⟨g, 0, none⟩), (Item.mk who 4 n x t).val] w fun r w' => r = .returned (.bool ((Item.mk who 4 n x t).bk s p e).1) ∧ RS w' g s ((Item.mk who 4 n x t).bk s p e).2.1 ((Item.mk who 4 n x t).bk s p e).2.2 ∧ Alone1 w w' g := by
  rw [bk4]
  unfold Item.val
  dsimp only
  have HC := Aside0.mk (fun (W : World) (h : RS W g s p e) => RInt_any h hp hs)
  have hg := blk_lt h
  go_enter Try.func45, Try.ntmps45
  go_wp2_with fail
  go_region_held3 (fun W' : World => W'.cell? ⟨w.heap.size, 3, none⟩ = some (.int .u64 x)) (first | go_keep | (constructor <;> go_keep)) (first | (go_at_call 38; refine (HC.out _ ?_).mono ?_; (exact blk_drew (RS_alloc h _)); rintro e_ w1 ⟨rfl, h1, h2⟩; have hk3 : w1.cell? ⟨w.heap.size, 3, none⟩ = some (.int .u64 x) := (a1_cell h2 w.heap.size 3 (Nat.ne_of_gt hg) (by simp)).trans ((blk_cell (W_push w _ _ _) 3).trans rfl)))
  go_wp2_with fail
  go_ret
  exact ⟨rfl, h1, (Alone1_alloc _ _ _).trans ((Alone1_drewN _ 1 g).trans h2)⟩
theorem bk5 (who n : Int) (x : Nat) (t : ByteArray) (s : ByteArray) (p : Nat) (e : Int) : (Item.mk who 5 n x t).bk s p e = (sameF (rF s p e).1 x, (rF s p e).2) := by
  unfold Item.bk
  rw [if_neg (show ¬ (5 : Int) = 0 by decide), if_neg (show ¬ (5 : Int) = 1 by decide), if_neg (show ¬ (5 : Int) = 2 by decide), if_neg (show ¬ (5 : Int) = 3 by decide), if_neg (show ¬ (5 : Int) = 4 by decide), if_pos rfl]
theorem back5 (who n : Int) (x : Nat) (t : ByteArray) (g : Nat) (s : ByteArray) (p : Nat) (e : Int) (w : World) (h : RS w g s p e) (hp : p ≤ s.size) (hs : s.size ≤ 140737488351232) (hx : x < 18446744073709551616) (ht : t.size ≤ 140737488351232) :
    Calls Try.prog 45 #[.pointer (some ⟨g, 0, none⟩), (Item.mk who 5 n x t).val] w fun r w' => r = .returned (.bool ((Item.mk who 5 n x t).bk s p e).1) ∧ RS w' g s ((Item.mk who 5 n x t).bk s p e).2.1 ((Item.mk who 5 n x t).bk s p e).2.2 ∧ Alone1 w w' g := by
  rw [bk5]
  unfold Item.val
  dsimp only
  have HC := Aside0.mk (fun (W : World) (h : RS W g s p e) => RFloat_any h hp hs)
  have hg := blk_lt h
  have hfb := frombits_run x
  go_enter Try.func45, Try.ntmps45
  go_wp2_with fail
  go_region_held3 (fun W' : World => W'.cell? ⟨w.heap.size, 3, none⟩ = some (.int .u64 x)) (first | go_keep | (constructor <;> go_keep)) (first | (go_at_call 40; refine (HC.out _ ?_).mono ?_; (exact blk_drew (RS_alloc h _)); rintro e_ w1 ⟨rfl, h1, h2⟩; have hk3 : w1.cell? ⟨w.heap.size, 3, none⟩ = some (.int .u64 x) := (a1_cell h2 w.heap.size 3 (Nat.ne_of_gt hg) (by simp)).trans ((blk_cell (W_push w _ _ _) 3).trans rfl)) | (go_at_call 39; refine (same_calls _ _ _).mono ?_; rintro e_ w2 ⟨rfl, rfl⟩))
  go_wp2_with fail
  go_ret
  exact ⟨rfl, h1, (Alone1_alloc _ _ _).trans ((Alone1_drewN _ 1 g).trans h2)⟩
theorem bk6 (who n : Int) (x : Nat) (t : ByteArray) (s : ByteArray) (p : Nat) (e : Int) : (Item.mk who 6 n x t).bk s p e = ((rT s p e (t.size : Int)).1.toList == t.toList, (rT s p e (t.size : Int)).2) := by
  unfold Item.bk
  rw [if_neg (show ¬ (6 : Int) = 0 by decide), if_neg (show ¬ (6 : Int) = 1 by decide), if_neg (show ¬ (6 : Int) = 2 by decide), if_neg (show ¬ (6 : Int) = 3 by decide), if_neg (show ¬ (6 : Int) = 4 by decide), if_neg (show ¬ (6 : Int) = 5 by decide), if_pos rfl]
theorem back6 (who n : Int) (x : Nat) (t : ByteArray) (g : Nat) (s : ByteArray) (p : Nat) (e : Int) (w : World) (h : RS w g s p e) (hp : p ≤ s.size) (hs : s.size ≤ 140737488351232) (hx : x < 18446744073709551616) (ht : t.size ≤ 140737488351232) :
    Calls Try.prog 45 #[.pointer (some ⟨g, 0, none⟩), (Item.mk who 6 n x t).val] w fun r w' => r = .returned (.bool ((Item.mk who 6 n x t).bk s p e).1) ∧ RS w' g s ((Item.mk who 6 n x t).bk s p e).2.1 ((Item.mk who 6 n x t).bk s p e).2.2 ∧ Alone1 w w' g := by
  rw [bk6]
  unfold Item.val
  dsimp only
  have HC := Aside0.mk (fun (W : World) (h : RS W g s p e) => RText_any h hp hs t.size (by omega))
  have hg := blk_lt h
  go_enter Try.func45, Try.ntmps45
  go_wp2_with fail
  go_region_held3 (fun W' : World => W'.cell? ⟨w.heap.size, 4, none⟩ = some (.string t)) (first | go_keep | (constructor <;> go_keep)) (first | (go_at_call 41; refine (HC.out _ ?_).mono ?_; (exact blk_drew (RS_alloc h _)); rintro e_ w1 ⟨rfl, h1, h2⟩; have hk4 : w1.cell? ⟨w.heap.size, 4, none⟩ = some (.string t) := (a1_cell h2 w.heap.size 4 (Nat.ne_of_gt hg) (by simp)).trans ((blk_cell (W_push w _ _ _) 4).trans rfl)))
  go_wp2_with fail
  go_ret
  exact ⟨rfl, h1, (Alone1_alloc _ _ _).trans ((Alone1_drewN _ 1 g).trans h2)⟩
theorem bk7 (who n : Int) (x : Nat) (t : ByteArray) (s : ByteArray) (p : Nat) (e : Int) : (Item.mk who 7 n x t).bk s p e = ((tk s p e (t.size : Int)).1.toList == t.toList, (tk s p e (t.size : Int)).2.2) := by
  unfold Item.bk
  rw [if_neg (show ¬ (7 : Int) = 0 by decide), if_neg (show ¬ (7 : Int) = 1 by decide), if_neg (show ¬ (7 : Int) = 2 by decide), if_neg (show ¬ (7 : Int) = 3 by decide), if_neg (show ¬ (7 : Int) = 4 by decide), if_neg (show ¬ (7 : Int) = 5 by decide), if_neg (show ¬ (7 : Int) = 6 by decide)]
theorem back7 (who n : Int) (x : Nat) (t : ByteArray) (g : Nat) (s : ByteArray) (p : Nat) (e : Int) (w : World) (h : RS w g s p e) (hp : p ≤ s.size) (hs : s.size ≤ 140737488351232) (hx : x < 18446744073709551616) (ht : t.size ≤ 140737488351232) :
    Calls Try.prog 45 #[.pointer (some ⟨g, 0, none⟩), (Item.mk who 7 n x t).val] w fun r w' => r = .returned (.bool ((Item.mk who 7 n x t).bk s p e).1) ∧ RS w' g s ((Item.mk who 7 n x t).bk s p e).2.1 ((Item.mk who 7 n x t).bk s p e).2.2 ∧ Alone1 w w' g := by
  rw [bk7]
  unfold Item.val
  dsimp only
  have HC := Aside0.mk (fun (W : World) (h : RS W g s p e) => RRaw_any h hp hs t.size (by omega))
  have hg := blk_lt h
  go_enter Try.func45, Try.ntmps45
  go_wp2_with fail
  go_region_held3 (fun W' : World => W'.cell? ⟨w.heap.size, 4, none⟩ = some (.string t)) (first | go_keep | (constructor <;> go_keep)) (first | (go_at_call 42; refine (HC.out _ ?_).mono ?_; (exact blk_drew (RS_alloc h _)); rintro e_ w1 ⟨rfl, h1, h2⟩; have hk4 : w1.cell? ⟨w.heap.size, 4, none⟩ = some (.string t) := (a1_cell h2 w.heap.size 4 (Nat.ne_of_gt hg) (by simp)).trans ((blk_cell (W_push w _ _ _) 4).trans rfl)))
  go_wp2_with fail
  go_ret
  exact ⟨rfl, h1, (Alone1_alloc _ _ _).trans ((Alone1_drewN _ 1 g).trans h2)⟩
/-- An item that fits is taken as it was put, or is not. -/
theorem back_calls (x : Item) (hx : x.Ok) (hf : x.fits = true) (g : Nat) (s : ByteArray) (p : Nat) (e : Int) (w : World) (h : RS w g s p e) (hp : p ≤ s.size) (hs : s.size ≤ 140737488351232) :
    Calls Try.prog 45 #[.pointer (some ⟨g, 0, none⟩), x.val] w fun r w' => r = .returned (.bool (x.bk s p e).1) ∧ RS w' g s (x.bk s p e).2.1 (x.bk s p e).2.2 ∧ Alone1 w w' g := by
  obtain ⟨who, kind, n, y, t⟩ := x
  obtain ⟨hy, hn0, hn1, ht⟩ := hx
  dsimp only at hy ht
  have hk : 0 ≤ kind ∧ kind < 8 := by
    unfold Item.fits at hf
    dsimp only at hf
    split at hf
    · omega
    · have := of_decide_eq_true hf; omega
  obtain ⟨k, rfl⟩ := Int.eq_ofNat_of_zero_le hk.1
  have h8 : k < 8 := by omega
  clear hk
  match k, h8, hf with
  | 0, _, _ => exact back0 who n y t g s p e w h hp hs hy ht
  | 1, _, _ => exact back1 who n y t g s p e w h hp hs hy ht
  | 2, _, hf => exact back2 who n y t g s p e w h hp hs hy ht (of_decide_eq_true hf : Item.fix _).1 (of_decide_eq_true hf : Item.fix _).2.1
  | 3, _, _ => exact back3 who n y t g s p e w h hp hs hy ht
  | 4, _, _ => exact back4 who n y t g s p e w h hp hs hy ht
  | 5, _, _ => exact back5 who n y t g s p e w h hp hs hy ht
  | 6, _, _ => exact back6 who n y t g s p e w h hp hs hy ht
  | 7, _, _ => exact back7 who n y t g s p e w h hp hs hy ht
end Go.Proofs.Ytikfdfagnalmbaa.My
namespace Go.Proofs.Ytikfdfagnalmbaa.My
open Go.RowKit Go.Proofs.YtikfdfagnalmbaaW.PrintWords Go.Proofs.YtikfdfagnalmbaaW.PrintLast Go.Proofs.Ytikfdfagnalmbaa
set_option linter.unusedSimpArgs false
set_option linter.unusedVariables false
set_option maxRecDepth 100000
def beN (n v : Nat) : List Nat := (be n v).map Int.toNat
theorem beN_len (n v : Nat) : (beN n v).length = n := by simp [beN, be_len]
theorem be_bounds (n v : Nat) : ∀ x ∈ be n v, 0 ≤ x ∧ x < 256 := by
  intro x hx
  unfold be at hx
  obtain ⟨i, _, rfl⟩ := List.mem_map.1 hx
  have : v / 256 ^ (n - 1 - i) % 256 < 256 := Nat.mod_lt _ (by omega)
  omega
theorem beN_lt (n v : Nat) : ∀ x ∈ beN n v, x < 256 := by
  intro x hx
  obtain ⟨y, hy, rfl⟩ := List.mem_map.1 hx
  have := be_bounds n v y hy
  omega
theorem beN_succ (n v : Nat) : beN (n + 1) v = beN n (v / 256) ++ [v % 256] := by
  unfold beN
  rw [be_succ, List.map_append]
  rfl
theorem hiN_beN : ∀ (n v : Nat), v < 256 ^ n → hiN (beN n v) = v
  | 0, v, h => by
    obtain rfl : v = 0 := by simpa using h
    rfl
  | n + 1, v, h => by
    rw [beN_succ, hiN_snoc, hiN_beN n (v / 256) (by rw [Nat.pow_succ] at h; omega)]
    omega
theorem hiN_bound : ∀ (l : List Nat), (∀ x ∈ l, x < 256) → ∀ n, l.length = n → beN n (hiN l) = l := by
  have key : ∀ n (l : List Nat), l.length = n → (∀ x ∈ l, x < 256) → beN n (hiN l) = l := by
    intro n
    induction n with
    | zero => intro l hl _; rw [List.length_eq_zero_iff.1 hl]; rfl
    | succ n ih =>
      intro l hl h
      have hne : l ≠ [] := by rintro rfl; simp at hl
      have hd := List.dropLast_concat_getLast hne
      have hl2 : l.dropLast.length = n := by rw [List.length_dropLast]; omega
      have hb : l.getLast hne < 256 := h _ (List.getLast_mem hne)
      have ih2 := ih l.dropLast hl2 (fun x hx => h x (List.dropLast_subset _ hx))
      generalize l.getLast hne = z at hd hb
      generalize l.dropLast = m at hd hl2 ih2
      subst hd
      rw [hiN_snoc, beN_succ, show (hiN m * 256 + z) / 256 = hiN m by omega, show (hiN m * 256 + z) % 256 = z by omega, ih2]
  intro l h n hn
  exact key n l hn h
theorem natsOf_lt (s : ByteArray) : ∀ x ∈ natsOf s, x < 256 := by
  intro x hx
  obtain ⟨b, _, rfl⟩ := List.mem_map.1 hx
  exact b.toNat_lt
theorem natsOf_inj {s t : ByteArray} (h : natsOf s = natsOf t) : s = t := by
  apply ByteArray.ext
  apply Array.toList_inj.1
  unfold natsOf at h
  exact (List.map_inj_right (fun x y hxy => UInt8.toNat_inj.1 hxy)).1 h
theorem natsOf_str (l : List Int) (h : ∀ x ∈ l, 0 ≤ x ∧ x < 256) : natsOf (strOfNums l) = l.map Int.toNat := by
  unfold natsOf strOfNums
  simp only [List.map_map, List.toList_toArray]
  apply List.map_congr_left
  intro x hx
  have := h x hx
  simp
  omega
theorem bytesOf_bounds (s : ByteArray) : ∀ x ∈ bytesOf s, 0 ≤ x ∧ x < 256 := by
  intro x hx
  obtain ⟨b, _, rfl⟩ := List.mem_map.1 hx
  have := b.toNat_lt
  omega
theorem bytesOf_nats (s : ByteArray) : (bytesOf s).map Int.toNat = natsOf s := by
  unfold bytesOf natsOf
  rw [List.map_map]
  rfl
theorem natsOf_append (s t : ByteArray) : natsOf (s ++ t) = natsOf s ++ natsOf t := by
  unfold natsOf
  rw [ByteArray.data_append, Array.toList_append, List.map_append]
/-- A frame's bytes ahead of its sum. -/
theorem seg_of {s : ByteArray} {P F R : List Nat} {p n : Nat} (h : natsOf s = P ++ (F ++ R)) (hp : P.length = p) (hn : F.length = n) : ((natsOf s).drop p).take n = F := by
  rw [h, List.drop_left' hp, List.take_left' hn]
def seg (s : ByteArray) (p n : Nat) : List Nat := ((natsOf s).drop p).take n
theorem seg_split (s : ByteArray) (p n : Nat) : (natsOf s).drop p = seg s p n ++ (natsOf s).drop (p + n) := by
  unfold seg
  rw [← List.drop_drop, List.take_append_drop]
theorem seg_len (s : ByteArray) (p n : Nat) (h : p + n ≤ s.size) : (seg s p n).length = n := by
  unfold seg
  rw [List.length_take, List.length_drop, natsOf_len]; omega
theorem seg_lt (s : ByteArray) (p n : Nat) : ∀ x ∈ seg s p n, x < 256 := fun x hx => natsOf_lt s x (List.mem_of_mem_drop (List.mem_of_mem_take hx))
theorem seg_be (s : ByteArray) (p n : Nat) (h : p + n ≤ s.size) : seg s p n = beN n (fN s p n) := (hiN_bound _ (seg_lt s p n) n (seg_len s p n h)).symm
theorem beN_one (v : Nat) (h : v < 256) : beN 1 v = [v] := by
  rw [beN_succ, Nat.mod_eq_of_lt h]; rfl
theorem seg_one (s : ByteArray) (p : Nat) (h : p + 1 ≤ s.size) : seg s p 1 = [fN s p 1] := by
  rw [seg_be s p 1 h, beN_one _ (by have := fN_lt s p 1; omega)]
end Go.Proofs.Ytikfdfagnalmbaa.My
namespace Go.Proofs.Ytikfdfagnalmbaa.My
open Go.RowKit Go.Proofs.YtikfdfagnalmbaaW.PrintWords Go.Proofs.YtikfdfagnalmbaaW.PrintLast Go.Proofs.YtikfdfagnalmbaaW.PrintMore Go.Proofs.Ytikfdfagnalmbaa
set_option linter.unusedSimpArgs false
set_option linter.unusedVariables false
set_option maxRecDepth 100000
set_option maxHeartbeats 1600000
def uvN (k v : Nat) : List Nat := (uv k v).map Int.toNat
theorem uvN_zero (v : Nat) : uvN 0 v = [v] := by simp [uvN, uv]
theorem uvN_succ (k v : Nat) : uvN (k + 1) v = if v < 128 then [v] else (v % 128 + 128) :: uvN k (v / 128) := by
  unfold uvN
  rw [uv]
  split
  · rfl
  · rfl
theorem uv_bounds : ∀ k v, v < 128 * 128 ^ k → ∀ x ∈ uv k v, 0 ≤ x ∧ x < 256
  | 0, v, h, x, hx => by
    rw [uv] at hx
    have := List.mem_singleton.1 hx
    omega
  | k + 1, v, h, x, hx => by
    rw [uv] at hx
    split at hx
    · have := List.mem_singleton.1 hx
      omega
    · rcases List.mem_cons.1 hx with e | hx
      · omega
      · exact uv_bounds k (v / 128) (by rw [Nat.pow_succ] at h; omega) x hx
theorem pow9 (most v a i : Nat) (h : v * 128 ^ i + a ≤ most) (hm : most < 18446744073709551616) (hi : i = 9) : v ≤ 1 := by
  subst hi
  have e : (128 : Nat) ^ 9 = 9223372036854775808 := by decide
  rw [e] at h
  omega
theorem pow10 (most v a i : Nat) (h : v * 128 ^ i + a ≤ most) (hm : most < 18446744073709551616) (hi : i = 10) : v = 0 := by
  subst hi
  have e : (128 : Nat) ^ 10 = 1180591620717411303424 := by decide
  rw [e] at h
  omega
theorem uv_step (v a i : Nat) : v / 128 * 128 ^ (i + 1) + (a + v % 128 * 128 ^ i) = v * 128 ^ i + a := by
  have h : v * 128 ^ i = v / 128 * 128 ^ (i + 1) + v % 128 * 128 ^ i := by
    conv => lhs; rw [← Nat.div_add_mod v 128]
    rw [Nat.add_mul, Nat.pow_succ, Nat.mul_comm 128 (v / 128), Nat.mul_assoc, Nat.mul_comm 128]
  omega
theorem uL_uv (most : Nat) (hm : most < 18446744073709551616) (R : List Nat) : ∀ (k i v a : Nat), i + k = 10 → v * 128 ^ i + a ≤ most → (0 < i → 0 < v) → uL most k i a (uvN k v ++ R) = (0, v * 128 ^ i + a, i + (uvN k v).length)
  | 0, i, v, a, hi, h, hv => by
    have h1 := pow10 most v a i h hm (by omega)
    have h2 := hv (by omega)
    omega
  | k + 1, i, v, a, hi, h, hv => by
    rw [uvN_succ]
    by_cases h128 : v < 128
    · rw [if_pos h128, List.singleton_append, uL, if_neg (fun h9 => by have := pow9 most v a i h hm h9.1; omega), if_neg (by omega), Nat.mod_eq_of_lt h128, if_neg (by rintro (h0 | h0); (have := hv h0.2; omega); omega), Nat.add_comm]
      rfl
    · have hs := uv_step v a i
      have h2 : (v % 128 + 128) % 128 = v % 128 := by omega
      rw [if_neg h128, List.cons_append, uL, if_neg (fun h9 => by have := pow9 most v a i h hm h9.1; omega), if_pos (by omega), h2, uL_uv most hm R k (i + 1) (v / 128) (a + v % 128 * 128 ^ i) (by omega) (by omega) (by omega), hs, List.length_cons]
      congr 2
      omega
theorem uL_cut (most : Nat) (hm : most < 18446744073709551616) : ∀ (k i v a : Nat) (l r : List Nat), i + k = 10 → v * 128 ^ i + a ≤ most → (0 < i → 0 < v) → uvN k v = l ++ r → r ≠ [] → uL most k i a l = (10, 0, 0)
  | 0, i, v, a, l, r, hi, h, hv, _, _ => by
    have h1 := pow10 most v a i h hm (by omega)
    have h2 := hv (by omega)
    omega
  | k + 1, i, v, a, [], r, hi, h, hv, _, _ => by rw [uL]
  | k + 1, i, v, a, c :: l, r, hi, h, hv, he, hr => by
    rw [uvN_succ] at he
    by_cases h128 : v < 128
    · rw [if_pos h128, List.cons_append] at he
      have := (List.cons.inj he).2
      cases l with
      | nil => exact absurd this.symm hr
      | cons _ _ => cases this
    · rw [if_neg h128, List.cons_append] at he
      obtain ⟨hc, hl⟩ := List.cons.inj he
      have hs := uv_step v a i
      have h2 : (v % 128 + 128) % 128 = v % 128 := by omega
      rw [← hc, uL, if_neg (fun h9 => by have := pow9 most v a i h hm h9.1; omega), if_pos (by omega), h2]
      exact uL_cut most hm k (i + 1) (v / 128) _ l r (by omega) (by omega) (by omega) hl hr
theorem tk_seg {s : ByteArray} {P F R : List Nat} (h : natsOf s = P ++ (F ++ R)) : tk s P.length 0 F.length = (s.extract P.length (P.length + F.length), true, P.length + F.length, 0) ∧ natsOf (s.extract P.length (P.length + F.length)) = F := by
  have hl := congrArg List.length h
  rw [natsOf_len, List.length_append, List.length_append] at hl
  refine ⟨tk_ok F.length (by omega), ?_⟩
  rw [natsOf_extract, Nat.add_sub_cancel_left]
  exact seg_of h rfl rfl
theorem tk_cut {s : ByteArray} {P l : List Nat} {n : Nat} (h : natsOf s = P ++ l) (hn : l.length < n) : tk s P.length 0 n = (⟨#[]⟩, false, P.length, 10) := by
  have hl := congrArg List.length h
  rw [natsOf_len, List.length_append] at hl
  exact tk_short n (by omega)
theorem rU_ok {s : ByteArray} {P R : List Nat} {v most : Nat} (h : natsOf s = P ++ (uvN 10 v ++ R)) (hv : v ≤ most) (hm : most < 18446744073709551616) : rU s P.length 0 most = (v, P.length + (uvN 10 v).length, 0) := by
  unfold rU uRead
  rw [if_pos rfl, h, List.drop_left, uL_uv most hm R 10 0 v 0 rfl (by simpa using hv) (fun h => absurd h (Nat.lt_irrefl 0))]
  simp
theorem rU_cut {s : ByteArray} {P l r : List Nat} {v most : Nat} (h : natsOf s = P ++ l) (he : uvN 10 v = l ++ r) (hr : r ≠ []) (hv : v ≤ most) (hm : most < 18446744073709551616) : rU s P.length 0 most = (0, P.length, 10) := by
  unfold rU uRead
  rw [if_pos rfl, h, List.drop_left, uL_cut most hm 10 0 v 0 l r rfl (by simpa using hv) (fun h => absurd h (Nat.lt_irrefl 0)) he hr]
  simp
theorem rU_err (s : ByteArray) (p : Nat) {e : Int} (most : Nat) (he : e ≠ 0) : rU s p e most = (0, p, e) := if_neg he
theorem zag_zig (v : Int) : zag (zig v) = v := by
  unfold zag zig
  split
  · rw [if_pos (by omega)]; omega
  · rw [if_neg (by omega)]; omega
theorem quiet_nan : nanB 9221120237041090560 = true := by decide +kernel
theorem fbits_ok (v : Nat) : ¬ (nanB (fbits v) = true ∧ fbits v ≠ 9221120237041090560) ∧ sameF (fbits v) v = true := by
  unfold fbits
  by_cases h : nanB v = true
  · rw [if_pos h]
    refine ⟨fun h => h.2 rfl, ?_⟩
    unfold sameF
    rw [quiet_nan, h]; rfl
  · rw [if_neg h]
    refine ⟨fun h2 => h h2.1, ?_⟩
    unfold sameF
    simp
theorem fbits_lt (v : Nat) (h : v < 18446744073709551616) : fbits v < 256 ^ 8 := by
  unfold fbits
  have e : (256 : Nat) ^ 8 = 18446744073709551616 := by decide
  split <;> omega
theorem beN2 (v : Nat) (h : v < 65536) : beN 2 v = [v / 256, v % 256] := by
  rw [beN_succ, beN_one _ (by omega)]; rfl
theorem i16_ofInt (z : Int) : BitVec.ofInt 16 (IntKind.i16.wrap z) = BitVec.ofInt 16 z := by
  rw [i16_wrap]
  apply BitVec.eq_of_toInt_eq
  rw [BitVec.toInt_ofInt, BitVec.toInt_ofInt]
  rw [Int.bmod_def, Int.bmod_def]
  omega
theorem small_back (T : ByteArray) (v : Nat) (h : natsOf T = beN 2 (v % 65536)) : small16 T = IntKind.i16.wrap (v : Int) := by
  obtain ⟨a, b, ha, hb, hv⟩ : ∃ a b : Nat, a < 256 ∧ b < 256 ∧ v % 65536 = a * 256 + b := ⟨v % 65536 / 256, v % 65536 % 256, by omega, by omega, by omega⟩
  unfold small16
  rw [h, beN2 _ (by omega), show v % 65536 / 256 = a by omega, show v % 65536 % 256 = b by omega]
  show IntKind.i16.wrap ((BitVec.ofInt 16 (IntKind.i16.wrap (IntKind.i16.wrap ((a : Nat) : Int) * 256)) ||| BitVec.ofInt 16 (IntKind.i16.wrap ((b : Nat) : Int))).toNat : Int) = _
  have e1 : BitVec.ofInt 16 (IntKind.i16.wrap (IntKind.i16.wrap ((a : Nat) : Int) * 256)) = BitVec.ofNat 16 (a * 256) := by
    rw [i16_ofInt]
    apply BitVec.eq_of_toNat_eq
    rw [BitVec.toNat_ofInt, BitVec.toNat_ofNat, i16_wrap]
    omega
  have e2 : BitVec.ofInt 16 (IntKind.i16.wrap ((b : Nat) : Int)) = BitVec.ofNat 16 b := by
    rw [i16_ofInt, BitVec.ofInt_natCast]
  have e3 : (BitVec.ofNat 16 (a * 256) ||| BitVec.ofNat 16 b).toNat = a * 256 + b := by
    rw [BitVec.toNat_or, BitVec.toNat_ofNat, BitVec.toNat_ofNat, Nat.mod_eq_of_lt (by omega), Nat.mod_eq_of_lt (by omega)]
    exact nat_join 8 (a * 256) b (by omega) (by omega)
  rw [e1, e2, e3, i16_wrap, i16_wrap]
  omega
/-- What an item puts, as numbers. -/
def Item.outN (x : Item) : List Nat := x.out.map Int.toNat
theorem out_bounds (x : Item) (hx : x.Ok) : ∀ z ∈ x.out, 0 ≤ z ∧ z < 256 := by
  obtain ⟨who, kind, n, y, t⟩ := x
  obtain ⟨hy, hn0, hn1, ht⟩ := hx
  dsimp only at hy ht
  have hU : ∀ u, u < 18446744073709551616 → ∀ z ∈ uv 10 u, 0 ≤ z ∧ z < 256 := fun u hu => uv_bounds 10 u (by rw [show (128 : Nat) ^ 10 = 1180591620717411303424 by decide]; omega)
  by_cases hk : kind < 0 ∨ 7 < kind
  · rw [out9 _ _ _ _ _ hk]; simp
  obtain ⟨k, rfl⟩ := Int.eq_ofNat_of_zero_le (show 0 ≤ kind by omega)
  have h8 : k < 8 := by omega
  clear hk
  match k, h8 with
  | 0, _ => show ∀ z ∈ (Item.mk who 0 n y t).out, _; rw [out0]; intro z hz; have := List.mem_singleton.1 hz; omega
  | 1, _ => show ∀ z ∈ (Item.mk who 1 n y t).out, _; rw [out1]; exact be_bounds _ _
  | 2, _ =>
    show ∀ z ∈ (Item.mk who 2 n y t).out, _
    rw [out2]
    split
    · exact be_bounds _ _
    · simp
  | 3, _ => show ∀ z ∈ (Item.mk who 3 n y t).out, _; rw [out3]; exact hU y hy
  | 4, _ => show ∀ z ∈ (Item.mk who 4 n y t).out, _; rw [out4]; exact hU _ (zig_lt _ (wrap_bd _).1 (wrap_bd _).2)
  | 5, _ => show ∀ z ∈ (Item.mk who 5 n y t).out, _; rw [out5]; exact be_bounds _ _
  | 6, _ =>
    show ∀ z ∈ (Item.mk who 6 n y t).out, _
    rw [out6]
    intro z hz
    rcases List.mem_append.1 hz with hz | hz
    · exact hU _ (by omega) z hz
    · exact bytesOf_bounds _ z hz
  | 7, _ => show ∀ z ∈ (Item.mk who 7 n y t).out, _; rw [out7]; exact bytesOf_bounds _
theorem str_beq (a b : ByteArray) (h : natsOf a = natsOf b) : (a.toList == b.toList) = true := by
  rw [natsOf_inj h]; exact beq_self_eq_true _
theorem extract_nats {s : ByteArray} {P F R : List Nat} {p n : Nat} (h : natsOf s = P ++ (F ++ R)) (hp : P.length = p) (hn : F.length = n) : natsOf (s.extract p (p + n)) = F := by
  rw [natsOf_extract, Nat.add_sub_cancel_left]
  exact seg_of h hp hn
/-- What is put is taken as it was. -/
theorem bk_ok (x : Item) (hx : x.Ok) (hf : x.fits = true) (P R : List Nat) (s : ByteArray) (h : natsOf s = P ++ (x.outN ++ R)) : x.bk s P.length 0 = (true, P.length + x.outN.length, 0) := by
  obtain ⟨who, kind, n, y, t⟩ := x
  obtain ⟨hy, hn0, hn1, ht⟩ := hx
  dsimp only at hy ht
  have hk : 0 ≤ kind ∧ kind < 8 := by
    unfold Item.fits at hf
    dsimp only at hf
    split at hf
    · omega
    · have := of_decide_eq_true hf; omega
  obtain ⟨k, rfl⟩ := Int.eq_ofNat_of_zero_le hk.1
  have h8 : k < 8 := by omega
  clear hk
  unfold Item.outN at h ⊢
  match k, h8, hf, h with
  | 0, _, _, h =>
    replace h : natsOf s = P ++ ((Item.mk who 0 n y t).out.map Int.toNat ++ R) := h
    show (Item.mk who 0 n y t).bk s P.length 0 = (true, P.length + ((Item.mk who 0 n y t).out.map Int.toNat).length, 0)
    rw [out0] at h ⊢
    have h2 : natsOf s = P ++ ([y % 256] ++ R) := h
    obtain ⟨e1, e2⟩ := tk_seg h2
    rw [bk0, show tk s P.length 0 1 = _ from e1]
    dsimp only
    rw [e2, show hiN [y % 256] = y % 256 by simp [hiN]]
    refine Prod.ext ?_ rfl
    show (((y % 256 : Nat) : Int) % 256 == IntKind.u8.wrap y) = true
    rw [beq_iff_eq, IntKind.wrap_u8]
    omega
  | 1, _, _, h =>
    replace h : natsOf s = P ++ ((Item.mk who 1 n y t).out.map Int.toNat ++ R) := h
    show (Item.mk who 1 n y t).bk s P.length 0 = (true, P.length + ((Item.mk who 1 n y t).out.map Int.toNat).length, 0)
    rw [out1] at h ⊢
    have h2 : natsOf s = P ++ (beN 2 (y % 65536) ++ R) := h
    obtain ⟨e1, e2⟩ := tk_seg h2
    rw [beN_len] at e1 e2
    rw [bk1, show tk s P.length 0 2 = _ from e1, List.length_map, be_len]
    refine Prod.ext ?_ rfl
    show (small16 _ == IntKind.i16.wrap y) = true
    rw [beq_iff_eq, small_back _ y e2]
  | 2, _, hf, h =>
    have hfx : (Item.mk who 2 n y t).fix := of_decide_eq_true hf
    obtain ⟨h1, h8, hv⟩ : 1 ≤ n ∧ n ≤ 8 ∧ y < 256 ^ n.toNat := (show _ from hfx)
    obtain ⟨m, rfl⟩ := Int.eq_ofNat_of_zero_le (show 0 ≤ n by omega)
    rw [Int.toNat_natCast] at hv
    replace h : natsOf s = P ++ ((Item.mk who 2 m y t).out.map Int.toNat ++ R) := h
    show (Item.mk who 2 m y t).bk s P.length 0 = (true, P.length + ((Item.mk who 2 m y t).out.map Int.toNat).length, 0)
    rw [out2, if_pos hfx, Int.toNat_natCast] at h ⊢
    have h2 : natsOf s = P ++ (beN m y ++ R) := h
    obtain ⟨e1, e2⟩ := tk_seg h2
    rw [beN_len] at e1 e2
    rw [bk2, e1, List.length_map, be_len]
    refine Prod.ext ?_ rfl
    show (((hiN (natsOf _) : Nat) : Int) == (y : Int)) = true
    rw [e2, hiN_beN m y hv, beq_self_eq_true]
  | 3, _, _, h =>
    replace h : natsOf s = P ++ ((Item.mk who 3 n y t).out.map Int.toNat ++ R) := h
    show (Item.mk who 3 n y t).bk s P.length 0 = (true, P.length + ((Item.mk who 3 n y t).out.map Int.toNat).length, 0)
    rw [out3] at h ⊢
    rw [bk3, rU_ok (v := y) h (Nat.le_refl _) hy]
    refine Prod.ext ?_ rfl
    exact beq_self_eq_true _
  | 4, _, _, h =>
    replace h : natsOf s = P ++ ((Item.mk who 4 n y t).out.map Int.toNat ++ R) := h
    show (Item.mk who 4 n y t).bk s P.length 0 = (true, P.length + ((Item.mk who 4 n y t).out.map Int.toNat).length, 0)
    rw [out4] at h ⊢
    have hz := zig_lt _ (wrap_bd y).1 (wrap_bd y).2
    rw [bk4, rU_ok (v := zig (wrap64 y)) h (by omega) (by omega)]
    refine Prod.ext ?_ rfl
    show (zag (zig (wrap64 y)) == IntKind.i64.wrap y) = true
    rw [zag_zig, i64_w, beq_self_eq_true]
  | 5, _, _, h =>
    replace h : natsOf s = P ++ ((Item.mk who 5 n y t).out.map Int.toNat ++ R) := h
    show (Item.mk who 5 n y t).bk s P.length 0 = (true, P.length + ((Item.mk who 5 n y t).out.map Int.toNat).length, 0)
    rw [out5] at h ⊢
    have h2 : natsOf s = P ++ (beN 8 (fbits y) ++ R) := h
    obtain ⟨e1, e2⟩ := tk_seg h2
    rw [beN_len] at e1 e2
    have e3 : rF s P.length 0 = (fbits y, P.length + 8, 0) := by
      unfold rF
      rw [show tk s P.length 0 8 = _ from e1]
      dsimp only
      rw [e2, hiN_beN 8 _ (fbits_lt y hy), if_pos rfl, if_neg (fbits_ok y).1]
    rw [bk5, e3, List.length_map, be_len]
    refine Prod.ext ?_ rfl
    exact (fbits_ok y).2
  | 6, _, _, h =>
    replace h : natsOf s = P ++ ((Item.mk who 6 n y t).out.map Int.toNat ++ R) := h
    show (Item.mk who 6 n y t).bk s P.length 0 = (true, P.length + ((Item.mk who 6 n y t).out.map Int.toNat).length, 0)
    rw [out6] at h ⊢
    rw [List.map_append, bytesOf_nats] at h ⊢
    have h2 : natsOf s = P ++ (uvN 10 t.size ++ (natsOf t ++ R)) := by rw [h, List.append_assoc]; rfl
    have h3 : natsOf s = (P ++ uvN 10 t.size) ++ (natsOf t ++ R) := by rw [h2, List.append_assoc]
    obtain ⟨e1, e2⟩ := tk_seg h3
    rw [natsOf_len, List.length_append] at e1 e2
    have e3 : rT s P.length 0 (t.size : Int) = (s.extract (P.length + (uvN 10 t.size).length) (P.length + (uvN 10 t.size).length + t.size), P.length + (uvN 10 t.size).length + t.size, 0) := by
      unfold rT
      rw [if_neg (by omega), Int.toNat_natCast, rU_ok h2 (Nat.le_refl _) (by omega)]
      dsimp only
      rw [e1, if_pos rfl]
    rw [bk6, e3, List.length_append, natsOf_len, ← Nat.add_assoc]
    refine Prod.ext ?_ rfl
    exact str_beq _ _ e2
  | 7, _, _, h =>
    replace h : natsOf s = P ++ ((Item.mk who 7 n y t).out.map Int.toNat ++ R) := h
    show (Item.mk who 7 n y t).bk s P.length 0 = (true, P.length + ((Item.mk who 7 n y t).out.map Int.toNat).length, 0)
    rw [out7] at h ⊢
    rw [bytesOf_nats] at h ⊢
    obtain ⟨e1, e2⟩ := tk_seg h
    rw [natsOf_len] at e1 e2
    rw [bk7, e1, natsOf_len]
    refine Prod.ext ?_ rfl
    exact str_beq _ _ e2
theorem bk_err (x : Item) (s : ByteArray) (p : Nat) (e : Int) (he : e ≠ 0) : (x.bk s p e).2 = (p, e) := by
  have hF : (rF s p e).2 = (p, e) := by
    unfold rF
    rw [tk_err 8 he]
    rfl
  have hT : (rT s p e (x.s.size : Int)).2 = (p, e) := by
    unfold rT
    rw [if_neg (by omega)]
    dsimp only
    rw [rU_err s p _ he]
    dsimp only
    rw [tk_err _ he]
    rfl
  unfold Item.bk
  repeat' split
  · rw [tk_err 1 he]
  · rw [tk_err 2 he]
  · rw [tk_err _ he]
  · rw [rU_err s p _ he]
  · rw [rU_err s p _ he]
  · exact hF
  · exact hT
  · rw [tk_err _ he]
theorem bk_cut (x : Item) (hx : x.Ok) (hf : x.fits = true) (P l r : List Nat) (s : ByteArray) (h : natsOf s = P ++ l) (hl : x.outN = l ++ r) (hr : r ≠ []) : (x.bk s P.length 0).2 = (P.length, 10) := by
  have hrl : 0 < r.length := List.length_pos_iff.2 hr
  obtain ⟨who, kind, n, y, t⟩ := x
  obtain ⟨hy, hn0, hn1, ht⟩ := hx
  dsimp only at hy ht
  have hk : 0 ≤ kind ∧ kind < 8 := by
    unfold Item.fits at hf
    dsimp only at hf
    split at hf
    · omega
    · have := of_decide_eq_true hf; omega
  obtain ⟨k, rfl⟩ := Int.eq_ofNat_of_zero_le hk.1
  have h8 : k < 8 := by omega
  clear hk
  unfold Item.outN at hl
  match k, h8, hf, hl with
  | 0, _, _, hl =>
    replace hl : (Item.mk who 0 n y t).out.map Int.toNat = l ++ r := hl
    show ((Item.mk who 0 n y t).bk s P.length 0).2 = _
    rw [out0] at hl
    have := congrArg List.length hl
    rw [List.length_append] at this
    have hc := tk_cut (n := 1) h (by simp at this; omega)
    rw [bk0, show tk s P.length 0 1 = _ from hc]
  | 1, _, _, hl =>
    replace hl : (Item.mk who 1 n y t).out.map Int.toNat = l ++ r := hl
    show ((Item.mk who 1 n y t).bk s P.length 0).2 = _
    rw [out1] at hl
    have := congrArg List.length hl
    rw [List.length_append, List.length_map, be_len] at this
    have hc := tk_cut (n := 2) h (by omega)
    rw [bk1, show tk s P.length 0 2 = _ from hc]
  | 2, _, hf, hl =>
    have hfx : (Item.mk who 2 n y t).fix := of_decide_eq_true hf
    obtain ⟨h1, h8, hv⟩ : 1 ≤ n ∧ n ≤ 8 ∧ y < 256 ^ n.toNat := (show _ from hfx)
    obtain ⟨m, rfl⟩ := Int.eq_ofNat_of_zero_le (show 0 ≤ n by omega)
    rw [Int.toNat_natCast] at hv
    replace hl : (Item.mk who 2 m y t).out.map Int.toNat = l ++ r := hl
    show ((Item.mk who 2 m y t).bk s P.length 0).2 = _
    rw [out2, if_pos hfx, Int.toNat_natCast] at hl
    have := congrArg List.length hl
    rw [List.length_append, List.length_map, be_len] at this
    have hc := tk_cut (n := m) h (by omega)
    rw [bk2, hc]
  | 3, _, _, hl =>
    replace hl : (Item.mk who 3 n y t).out.map Int.toNat = l ++ r := hl
    show ((Item.mk who 3 n y t).bk s P.length 0).2 = _
    rw [out3] at hl
    rw [bk3, rU_cut (v := y) h hl hr (Nat.le_refl _) hy]
  | 4, _, _, hl =>
    replace hl : (Item.mk who 4 n y t).out.map Int.toNat = l ++ r := hl
    show ((Item.mk who 4 n y t).bk s P.length 0).2 = _
    rw [out4] at hl
    have hz := zig_lt _ (wrap_bd y).1 (wrap_bd y).2
    rw [bk4, rU_cut (v := zig (wrap64 y)) h hl hr (by omega) (by omega)]
  | 5, _, _, hl =>
    replace hl : (Item.mk who 5 n y t).out.map Int.toNat = l ++ r := hl
    show ((Item.mk who 5 n y t).bk s P.length 0).2 = _
    rw [out5] at hl
    have := congrArg List.length hl
    rw [List.length_append, List.length_map, be_len] at this
    have hc := tk_cut (n := 8) h (by omega)
    rw [bk5]
    show (rF s P.length 0).2 = _
    unfold rF
    rw [show tk s P.length 0 8 = _ from hc]
    rfl
  | 6, _, _, hl =>
    replace hl : (Item.mk who 6 n y t).out.map Int.toNat = l ++ r := hl
    show ((Item.mk who 6 n y t).bk s P.length 0).2 = _
    rw [out6, List.map_append, bytesOf_nats] at hl
    rw [bk6]
    show (rT s P.length 0 (t.size : Int)).2 = _
    unfold rT
    rw [if_neg (by omega), Int.toNat_natCast]
    dsimp only
    rcases List.append_eq_append_iff.1 (show uvN 10 t.size ++ natsOf t = l ++ r from hl) with ⟨m, e1, e2⟩ | ⟨m, e1, e2⟩
    · have h2 : natsOf s = P ++ (uvN 10 t.size ++ m) := by rw [h, e1]
      have h3 : natsOf s = (P ++ uvN 10 t.size) ++ m := by rw [h2, List.append_assoc]
      have hn := congrArg List.length e2
      rw [natsOf_len, List.length_append] at hn
      have hc := tk_cut (n := t.size) h3 (by omega)
      rw [List.length_append] at hc
      rw [rU_ok h2 (Nat.le_refl _) (by omega)]
      dsimp only
      rw [hc]
      rfl
    · by_cases hm : m = []
      · subst hm
        rw [List.append_nil] at e1
        rw [List.nil_append] at e2
        have h2 : natsOf s = P ++ (uvN 10 t.size ++ []) := by rw [h, e1, List.append_nil]
        have h3 : natsOf s = (P ++ uvN 10 t.size) ++ [] := by rw [h, e1, List.append_nil]
        have hn := congrArg List.length e2
        rw [natsOf_len] at hn
        have hc := tk_cut (n := t.size) h3 (by simp; omega)
        rw [List.length_append] at hc
        rw [rU_ok h2 (Nat.le_refl _) (by omega)]
        dsimp only
        rw [hc]
        rfl
      · rw [rU_cut h e1 hm (Nat.le_refl _) (by omega)]
        dsimp only
        rw [tk_err _ (by decide)]
        rfl
  | 7, _, _, hl =>
    replace hl : (Item.mk who 7 n y t).out.map Int.toNat = l ++ r := hl
    show ((Item.mk who 7 n y t).bk s P.length 0).2 = _
    rw [out7, bytesOf_nats] at hl
    have := congrArg List.length hl
    rw [List.length_append, natsOf_len] at this
    have hc := tk_cut (n := t.size) h (by omega)
    rw [bk7, hc]
end Go.Proofs.Ytikfdfagnalmbaa.My
