/- Items of chapter 1: may one be put; one is taken as it was put. -/
import Derived.Test.YtikfdfagnalmbaaIt
import Derived.Test.YtikfdfagnalmbaaRdAny2
import Derived.Deep.RegionHeld3
namespace Go.Proofs.Ytikfdfagnalmbaa.My
open Go.RowKit Go.Proofs.YtikfdfagnalmbaaW.PrintWords Go.Proofs.YtikfdfagnalmbaaW.PrintLast Go.Proofs.YtikfdfagnalmbaaW.PrintMore Go.Proofs.Ytikfdfagnalmbaa
set_option linter.unusedSimpArgs false
set_option linter.unusedVariables false
set_option maxRecDepth 100000
set_option maxHeartbeats 1600000
/-- May the item be put? -/
def Item.fits (x : Item) : Bool := if x.kind = 2 then decide x.fix else decide (0 ≤ x.kind ∧ x.kind ≤ 7)
theorem below_drewN' (base : Nat) (w : World) (m : Nat) : Below base w (w.drewN m) := ⟨rfl, rfl, rfl, Nat.le_refl _, fun _ _ => rfl⟩
theorem fits_2 (who n : Int) (x : Nat) (s : ByteArray) (w : World) (hx : x < 18446744073709551616) :
    Calls Try.prog 44 #[(Item.mk who 2 n x s).val] w fun e w' => e = .returned (.bool (decide (Item.mk who 2 n x s).fix)) ∧ Below w.heap.size w w' := by
  unfold Item.val
  dsimp only
  by_cases h1 : n < 1
  · rw [decide_eq_false (fun h => by have h : 1 ≤ n := h.1; omega)]
    have hd : decide (1 ≤ n) = false := decide_eq_false (by omega)
    go_enter Try.func44, Try.ntmps44
    go_wp2_with fail
    go_quiet (fail)
    go_wp2_with fail
    go_ret
    exact ⟨rfl, ((Below.refl _ _).alloc (Nat.le_refl _) _).trans (below_drewN' _ _ _)⟩
  by_cases h8 : 8 < n
  · rw [decide_eq_false (fun h => by have h : n ≤ 8 := h.2.1; omega)]
    have hd : decide (1 ≤ n) = true := decide_eq_true (by omega)
    have hd2 : decide (n ≤ 8) = false := decide_eq_false (by omega)
    go_enter Try.func44, Try.ntmps44
    go_wp2_with fail
    go_quiet (fail)
    go_wp2_with fail
    go_ret
    exact ⟨rfl, ((Below.refl _ _).alloc (Nat.le_refl _) _).trans (below_drewN' _ _ _)⟩
  obtain ⟨m, rfl⟩ := Int.eq_ofNat_of_zero_le (show 0 ≤ n by omega)
  have hm : m = 1 ∨ m = 2 ∨ m = 3 ∨ m = 4 ∨ m = 5 ∨ m = 6 ∨ m = 7 ∨ m = 8 := by omega
  have hd : decide (Item.mk who 2 (m : Int) x s).fix = decide (x < 256 ^ m) := decide_eq_decide.2 ⟨fun h => h.2.2, fun h => ⟨by show (1 : Int) ≤ m; omega, by show (m : Int) ≤ 8; omega, h⟩⟩
  rw [hd]
  clear h1 h8 hd
  rcases hm with rfl | rfl | rfl | rfl | rfl | rfl | rfl | rfl
  · rw [show decide (x < 256 ^ 1) = decide ((x : Int) < 256) from decide_eq_decide.2 (by omega)]
    go_enter Try.func44, Try.ntmps44
    go_wp2_with fail
    go_quiet (fail)
    go_wp2_with fail
    go_ret
    exact ⟨rfl, ((Below.refl _ _).alloc (Nat.le_refl _) _).trans (below_drewN' _ _ _)⟩
  · rw [show decide (x < 256 ^ 2) = decide ((x : Int) < 65536) from decide_eq_decide.2 (by omega)]
    go_enter Try.func44, Try.ntmps44
    go_wp2_with fail
    go_quiet (fail)
    go_wp2_with fail
    go_ret
    exact ⟨rfl, ((Below.refl _ _).alloc (Nat.le_refl _) _).trans (below_drewN' _ _ _)⟩
  · rw [show decide (x < 256 ^ 3) = decide ((x : Int) < 16777216) from decide_eq_decide.2 (by omega)]
    go_enter Try.func44, Try.ntmps44
    go_wp2_with fail
    go_quiet (fail)
    go_wp2_with fail
    go_ret
    exact ⟨rfl, ((Below.refl _ _).alloc (Nat.le_refl _) _).trans (below_drewN' _ _ _)⟩
  · rw [show decide (x < 256 ^ 4) = decide ((x : Int) < 4294967296) from decide_eq_decide.2 (by omega)]
    go_enter Try.func44, Try.ntmps44
    go_wp2_with fail
    go_quiet (fail)
    go_wp2_with fail
    go_ret
    exact ⟨rfl, ((Below.refl _ _).alloc (Nat.le_refl _) _).trans (below_drewN' _ _ _)⟩
  · rw [show decide (x < 256 ^ 5) = decide ((x : Int) < 1099511627776) from decide_eq_decide.2 (by omega)]
    go_enter Try.func44, Try.ntmps44
    go_wp2_with fail
    go_quiet (fail)
    go_wp2_with fail
    go_ret
    exact ⟨rfl, ((Below.refl _ _).alloc (Nat.le_refl _) _).trans (below_drewN' _ _ _)⟩
  · rw [show decide (x < 256 ^ 6) = decide ((x : Int) < 281474976710656) from decide_eq_decide.2 (by omega)]
    go_enter Try.func44, Try.ntmps44
    go_wp2_with fail
    go_quiet (fail)
    go_wp2_with fail
    go_ret
    exact ⟨rfl, ((Below.refl _ _).alloc (Nat.le_refl _) _).trans (below_drewN' _ _ _)⟩
  · rw [show decide (x < 256 ^ 7) = decide ((x : Int) < 72057594037927936) from decide_eq_decide.2 (by omega)]
    go_enter Try.func44, Try.ntmps44
    go_wp2_with fail
    go_quiet (fail)
    go_wp2_with fail
    go_ret
    exact ⟨rfl, ((Below.refl _ _).alloc (Nat.le_refl _) _).trans (below_drewN' _ _ _)⟩
  · rw [show decide (x < 256 ^ 8) = true from decide_eq_true (by omega)]
    go_enter Try.func44, Try.ntmps44
    go_wp2_with fail
    go_quiet (fail)
    go_wp2_with fail
    go_ret
    exact ⟨rfl, ((Below.refl _ _).alloc (Nat.le_refl _) _).trans (below_drewN' _ _ _)⟩
theorem fits_calls (x : Item) (hx : x.Ok) (w : World) :
    Calls Try.prog 44 #[x.val] w fun e w' => e = .returned (.bool x.fits) ∧ Below w.heap.size w w' := by
  obtain ⟨who, kind, n, y, s⟩ := x
  unfold Item.fits
  by_cases h2 : kind = 2
  · subst h2
    rw [if_pos rfl]
    exact fits_2 who n y s w hx.1
  · rw [if_neg h2]
    have hk : (kind == 2) = false := by rw [beq_eq_false_iff_ne]; exact h2
    have hk2 : (kind != 2) = true := by rw [bne_iff_ne]; exact h2
    unfold Item.val
    dsimp only
    clear h2
    by_cases h0 : 0 ≤ kind
    · rw [show decide (0 ≤ kind ∧ kind ≤ 7) = decide (kind ≤ 7) from decide_eq_decide.2 ⟨fun h => h.2, fun h => ⟨h0, h⟩⟩]
      go_enter Try.func44, Try.ntmps44
      go_wp2_with fail
      go_ret
      exact ⟨rfl, (Below.refl _ _).alloc (Nat.le_refl _) _⟩
    · rw [decide_eq_false (fun h => h0 h.1)]
      go_enter Try.func44, Try.ntmps44
      go_wp2_with fail
      go_ret
      exact ⟨rfl, (Below.refl _ _).alloc (Nat.le_refl _) _⟩
/-- The same float, of bits. -/
def sameF (a b : Nat) : Bool := (nanB a && nanB b) || (a : Int) == (b : Int)
theorem same_calls (a b : Nat) (w : World) : Calls Try.prog 39 #[.float .f64 a, .float .f64 b] w fun e w' => e = .returned (.bool (sameF a b)) ∧ w = w' := by
  have h3 := bits_run a
  have h4 := bits_run b
  by_cases ha : FloatKind.f64.format.order a a = some .eq <;> by_cases hb : FloatKind.f64.format.order b b = some .eq
  all_goals
    first
      | rw [sameF, show nanB a = false by unfold nanB; rw [ha]; rfl, Bool.false_and, Bool.false_or]
      | rw [sameF, show nanB b = false by unfold nanB; rw [hb]; rfl, Bool.and_false, Bool.false_or]
      | rw [sameF, show nanB a = true by unfold nanB; exact bne_iff_ne.2 ha, show nanB b = true by unfold nanB; exact bne_iff_ne.2 hb, Bool.true_and, Bool.true_or]
    go_enter Try.func39, Try.ntmps39
    go_wp2_with fail
    go_ret
    exact ⟨rfl, rfl⟩
/-- An item is taken as it was put: is it the same, the place, the error. -/
def Item.bk (x : Item) (s : ByteArray) (p : Nat) (e : Int) : Bool × Nat × Int :=
  if x.kind = 0 then (((hiN (natsOf (tk s p e 1).1) : Nat) % 256 : Int) == IntKind.u8.wrap (x.v : Int), (tk s p e 1).2.2) else
  if x.kind = 1 then (rSm (tk s p e 2) == IntKind.i16.wrap x.v, (tk s p e 2).2.2) else
  if x.kind = 2 then ((hiN (natsOf (tk s p e x.n).1) : Int) == (x.v : Int), (tk s p e x.n).2.2) else
  if x.kind = 3 then (((rU s p e x.v).1 : Int) == (x.v : Int), (rU s p e x.v).2) else
  if x.kind = 4 then (zag (rU s p e 18446744073709551615).1 == IntKind.i64.wrap x.v, (rU s p e 18446744073709551615).2) else
  if x.kind = 5 then (sameF (rF s p e).1 x.v, (rF s p e).2) else
  if x.kind = 6 then ((rT s p e (x.s.size : Int)).1.toList == x.s.toList, (rT s p e (x.s.size : Int)).2) else
  ((tk s p e (x.s.size : Int)).1.toList == x.s.toList, (tk s p e (x.s.size : Int)).2.2)
theorem a1_cell {w w' : World} {g : Nat} (h : Alone1 w w' g) (b j : Nat) (hne : b ≠ g) (hlt : b < w.heap.size) : w'.cell? ⟨b, j, none⟩ = w.cell? ⟨b, j, none⟩ := by
  have := h.2 b hne hlt
  simp only [World.cell?, this]
theorem RS_alloc {w : World} {g : Nat} {s : ByteArray} {p : Nat} {e : Int} (h : RS w g s p e) (o : Obj) : RS (w.alloc o) g s p e := blk_alloc h _
theorem bk0 (who n : Int) (x : Nat) (t : ByteArray) (s : ByteArray) (p : Nat) (e : Int) : (Item.mk who 0 n x t).bk s p e = (((hiN (natsOf (tk s p e 1).1) : Nat) % 256 : Int) == IntKind.u8.wrap (x : Int), (tk s p e 1).2.2) := by
  unfold Item.bk
  rw [if_pos rfl]
theorem back0 (who n : Int) (x : Nat) (t : ByteArray) (g : Nat) (s : ByteArray) (p : Nat) (e : Int) (w : World) (h : RS w g s p e) (hp : p ≤ s.size) (hs : s.size ≤ 140737488351232) (hx : x < 18446744073709551616) (ht : t.size ≤ 140737488351232) :
    Calls Try.prog 45 #[.pointer (some ⟨g, 0, none⟩), (Item.mk who 0 n x t).val] w fun r w' => r = .returned (.bool ((Item.mk who 0 n x t).bk s p e).1) ∧ RS w' g s ((Item.mk who 0 n x t).bk s p e).2.1 ((Item.mk who 0 n x t).bk s p e).2.2 ∧ Alone1 w w' g := by
  rw [bk0]
  unfold Item.val
  dsimp only
  have HC := Aside0.mk (fun (W : World) (h : RS W g s p e) => RByte_any h hp hs)
  have hg := blk_lt h
  go_enter Try.func45, Try.ntmps45
  go_wp2_with fail
  go_region_held3 (fun W' : World => W'.cell? ⟨w.heap.size, 3, none⟩ = some (.int .u64 x)) (first | go_keep | (constructor <;> go_keep)) (first | (go_at_call 34; refine (HC.out _ ?_).mono ?_; (exact blk_drew (RS_alloc h _)); rintro e_ w1 ⟨rfl, h1, h2⟩; have hk3 : w1.cell? ⟨w.heap.size, 3, none⟩ = some (.int .u64 x) := (a1_cell h2 w.heap.size 3 (Nat.ne_of_gt hg) (by simp)).trans ((blk_cell (W_push w _ _ _) 3).trans rfl)))
  go_wp2_with fail
  go_ret
  exact ⟨rfl, h1, (Alone1_alloc _ _ _).trans ((Alone1_drewN _ 1 g).trans h2)⟩
theorem bk1 (who n : Int) (x : Nat) (t : ByteArray) (s : ByteArray) (p : Nat) (e : Int) : (Item.mk who 1 n x t).bk s p e = (rSm (tk s p e 2) == IntKind.i16.wrap x, (tk s p e 2).2.2) := by
  unfold Item.bk
  rw [if_neg (show ¬ (1 : Int) = 0 by decide), if_pos rfl]
theorem back1 (who n : Int) (x : Nat) (t : ByteArray) (g : Nat) (s : ByteArray) (p : Nat) (e : Int) (w : World) (h : RS w g s p e) (hp : p ≤ s.size) (hs : s.size ≤ 140737488351232) (hx : x < 18446744073709551616) (ht : t.size ≤ 140737488351232) :
    Calls Try.prog 45 #[.pointer (some ⟨g, 0, none⟩), (Item.mk who 1 n x t).val] w fun r w' => r = .returned (.bool ((Item.mk who 1 n x t).bk s p e).1) ∧ RS w' g s ((Item.mk who 1 n x t).bk s p e).2.1 ((Item.mk who 1 n x t).bk s p e).2.2 ∧ Alone1 w w' g := by
  rw [bk1]
  unfold Item.val
  dsimp only
  have HC := Aside0.mk (fun (W : World) (h : RS W g s p e) => RSmall_any h hp hs)
  have hg := blk_lt h
  go_enter Try.func45, Try.ntmps45
  go_wp2_with fail
  go_region_held3 (fun W' : World => W'.cell? ⟨w.heap.size, 3, none⟩ = some (.int .u64 x)) (first | go_keep | (constructor <;> go_keep)) (first | (go_at_call 35; refine (HC.out _ ?_).mono ?_; (exact blk_drew (RS_alloc h _)); rintro e_ w1 ⟨rfl, h1, h2⟩; have hk3 : w1.cell? ⟨w.heap.size, 3, none⟩ = some (.int .u64 x) := (a1_cell h2 w.heap.size 3 (Nat.ne_of_gt hg) (by simp)).trans ((blk_cell (W_push w _ _ _) 3).trans rfl)))
  go_wp2_with fail
  go_ret
  exact ⟨rfl, h1, (Alone1_alloc _ _ _).trans ((Alone1_drewN _ 1 g).trans h2)⟩
theorem bk2 (who n : Int) (x : Nat) (t : ByteArray) (s : ByteArray) (p : Nat) (e : Int) : (Item.mk who 2 n x t).bk s p e = ((hiN (natsOf (tk s p e n).1) : Int) == (x : Int), (tk s p e n).2.2) := by
  unfold Item.bk
  rw [if_neg (show ¬ (2 : Int) = 0 by decide), if_neg (show ¬ (2 : Int) = 1 by decide), if_pos rfl]
theorem back2 (who n : Int) (x : Nat) (t : ByteArray) (g : Nat) (s : ByteArray) (p : Nat) (e : Int) (w : World) (h : RS w g s p e) (hp : p ≤ s.size) (hs : s.size ≤ 140737488351232) (hx : x < 18446744073709551616) (ht : t.size ≤ 140737488351232) (h1 : 1 ≤ n) (h8 : n ≤ 8) :
    Calls Try.prog 45 #[.pointer (some ⟨g, 0, none⟩), (Item.mk who 2 n x t).val] w fun r w' => r = .returned (.bool ((Item.mk who 2 n x t).bk s p e).1) ∧ RS w' g s ((Item.mk who 2 n x t).bk s p e).2.1 ((Item.mk who 2 n x t).bk s p e).2.2 ∧ Alone1 w w' g := by
  rw [bk2]
  unfold Item.val
  dsimp only
  have HC := Aside0.mk (fun (W : World) (h : RS W g s p e) => RFixed_any h hp hs n (by omega) (by omega))
  have hg := blk_lt h
  go_enter Try.func45, Try.ntmps45
  go_wp2_with fail
  go_region_held3 (fun W' : World => W'.cell? ⟨w.heap.size, 2, none⟩ = some (.int .i64 n) ∧ W'.cell? ⟨w.heap.size, 3, none⟩ = some (.int .u64 x)) (first | go_keep | (constructor <;> go_keep)) (first | (go_at_call 36; refine (HC.out _ ?_).mono ?_; (exact blk_drew (RS_alloc h _)); rintro e_ w1 ⟨rfl, h1, h2⟩; have hk2 : w1.cell? ⟨w.heap.size, 2, none⟩ = some (.int .i64 n) := (a1_cell h2 w.heap.size 2 (Nat.ne_of_gt hg) (by simp)).trans ((blk_cell (W_push w _ _ _) 2).trans rfl); have hk3 : w1.cell? ⟨w.heap.size, 3, none⟩ = some (.int .u64 x) := (a1_cell h2 w.heap.size 3 (Nat.ne_of_gt hg) (by simp)).trans ((blk_cell (W_push w _ _ _) 3).trans rfl)))
  go_wp2_with fail
  go_ret
  exact ⟨rfl, h1, (Alone1_alloc _ _ _).trans ((Alone1_drewN _ 1 g).trans h2)⟩
theorem bk3 (who n : Int) (x : Nat) (t : ByteArray) (s : ByteArray) (p : Nat) (e : Int) : (Item.mk who 3 n x t).bk s p e = (((rU s p e x).1 : Int) == (x : Int), (rU s p e x).2) := by
  unfold Item.bk
  rw [if_neg (show ¬ (3 : Int) = 0 by decide), if_neg (show ¬ (3 : Int) = 1 by decide), if_neg (show ¬ (3 : Int) = 2 by decide), if_pos rfl]
theorem back3 (who n : Int) (x : Nat) (t : ByteArray) (g : Nat) (s : ByteArray) (p : Nat) (e : Int) (w : World) (h : RS w g s p e) (hp : p ≤ s.size) (hs : s.size ≤ 140737488351232) (hx : x < 18446744073709551616) (ht : t.size ≤ 140737488351232) :
    Calls Try.prog 45 #[.pointer (some ⟨g, 0, none⟩), (Item.mk who 3 n x t).val] w fun r w' => r = .returned (.bool ((Item.mk who 3 n x t).bk s p e).1) ∧ RS w' g s ((Item.mk who 3 n x t).bk s p e).2.1 ((Item.mk who 3 n x t).bk s p e).2.2 ∧ Alone1 w w' g := by
  rw [bk3]
  unfold Item.val
  dsimp only
  have HC := Aside0.mk (fun (W : World) (h : RS W g s p e) => RUint_any h hp hs x hx)
  have hg := blk_lt h
  go_enter Try.func45, Try.ntmps45
  go_wp2_with fail
  go_region_held3 (fun W' : World => W'.cell? ⟨w.heap.size, 3, none⟩ = some (.int .u64 x)) (first | go_keep | (constructor <;> go_keep)) (first | (go_at_call 37; refine (HC.out _ ?_).mono ?_; (exact blk_drew (RS_alloc h _)); rintro e_ w1 ⟨rfl, h1, h2⟩; have hk3 : w1.cell? ⟨w.heap.size, 3, none⟩ = some (.int .u64 x) := (a1_cell h2 w.heap.size 3 (Nat.ne_of_gt hg) (by simp)).trans ((blk_cell (W_push w _ _ _) 3).trans rfl)))
  go_wp2_with fail
  go_ret
  exact ⟨rfl, h1, (Alone1_alloc _ _ _).trans ((Alone1_drewN _ 1 g).trans h2)⟩
theorem bk4 (who n : Int) (x : Nat) (t : ByteArray) (s : ByteArray) (p : Nat) (e : Int) : (Item.mk who 4 n x t).bk s p e = (zag (rU s p e 18446744073709551615).1 == IntKind.i64.wrap x, (rU s p e 18446744073709551615).2) := by
  unfold Item.bk
  rw [if_neg (show ¬ (4 : Int) = 0 by decide), if_neg (show ¬ (4 : Int) = 1 by decide), if_neg (show ¬ (4 : Int) = 2 by decide), if_neg (show ¬ (4 : Int) = 3 by decide), if_pos rfl]
theorem back4 (who n : Int) (x : Nat) (t : ByteArray) (g : Nat) (s : ByteArray) (p : Nat) (e : Int) (w : World) (h : RS w g s p e) (hp : p ≤ s.size) (hs : s.size ≤ 140737488351232) (hx : x < 18446744073709551616) (ht : t.size ≤ 140737488351232) :
    Calls Try.prog 45 #[.pointer (some ⟨g, 0, none⟩), (Item.mk who 4 n x t).val] w fun r w' => r = .returned (.bool ((Item.mk who 4 n x t).bk s p e).1) ∧ RS w' g s ((Item.mk who 4 n x t).bk s p e).2.1 ((Item.mk who 4 n x t).bk s p e).2.2 ∧ Alone1 w w' g := by
  rw [bk4]
  unfold Item.val
  dsimp only
  have HC := Aside0.mk (fun (W : World) (h : RS W g s p e) => RInt_any h hp hs)
  have hg := blk_lt h
  go_enter Try.func45, Try.ntmps45
  go_wp2_with fail
  go_region_held3 (fun W' : World => W'.cell? ⟨w.heap.size, 3, none⟩ = some (.int .u64 x)) (first | go_keep | (constructor <;> go_keep)) (first | (go_at_call 38; refine (HC.out _ ?_).mono ?_; (exact blk_drew (RS_alloc h _)); rintro e_ w1 ⟨rfl, h1, h2⟩; have hk3 : w1.cell? ⟨w.heap.size, 3, none⟩ = some (.int .u64 x) := (a1_cell h2 w.heap.size 3 (Nat.ne_of_gt hg) (by simp)).trans ((blk_cell (W_push w _ _ _) 3).trans rfl)))
  go_wp2_with fail
  go_ret
  exact ⟨rfl, h1, (Alone1_alloc _ _ _).trans ((Alone1_drewN _ 1 g).trans h2)⟩
theorem bk5 (who n : Int) (x : Nat) (t : ByteArray) (s : ByteArray) (p : Nat) (e : Int) : (Item.mk who 5 n x t).bk s p e = (sameF (rF s p e).1 x, (rF s p e).2) := by
  unfold Item.bk
  rw [if_neg (show ¬ (5 : Int) = 0 by decide), if_neg (show ¬ (5 : Int) = 1 by decide), if_neg (show ¬ (5 : Int) = 2 by decide), if_neg (show ¬ (5 : Int) = 3 by decide), if_neg (show ¬ (5 : Int) = 4 by decide), if_pos rfl]
theorem back5 (who n : Int) (x : Nat) (t : ByteArray) (g : Nat) (s : ByteArray) (p : Nat) (e : Int) (w : World) (h : RS w g s p e) (hp : p ≤ s.size) (hs : s.size ≤ 140737488351232) (hx : x < 18446744073709551616) (ht : t.size ≤ 140737488351232) :
    Calls Try.prog 45 #[.pointer (some ⟨g, 0, none⟩), (Item.mk who 5 n x t).val] w fun r w' => r = .returned (.bool ((Item.mk who 5 n x t).bk s p e).1) ∧ RS w' g s ((Item.mk who 5 n x t).bk s p e).2.1 ((Item.mk who 5 n x t).bk s p e).2.2 ∧ Alone1 w w' g := by
  rw [bk5]
  unfold Item.val
  dsimp only
  have HC := Aside0.mk (fun (W : World) (h : RS W g s p e) => RFloat_any h hp hs)
  have hg := blk_lt h
  have hfb := frombits_run x
  go_enter Try.func45, Try.ntmps45
  go_wp2_with fail
  go_region_held3 (fun W' : World => W'.cell? ⟨w.heap.size, 3, none⟩ = some (.int .u64 x)) (first | go_keep | (constructor <;> go_keep)) (first | (go_at_call 40; refine (HC.out _ ?_).mono ?_; (exact blk_drew (RS_alloc h _)); rintro e_ w1 ⟨rfl, h1, h2⟩; have hk3 : w1.cell? ⟨w.heap.size, 3, none⟩ = some (.int .u64 x) := (a1_cell h2 w.heap.size 3 (Nat.ne_of_gt hg) (by simp)).trans ((blk_cell (W_push w _ _ _) 3).trans rfl)) | (go_at_call 39; refine (same_calls _ _ _).mono ?_; rintro e_ w2 ⟨rfl, rfl⟩))
  go_wp2_with fail
  go_ret
  exact ⟨rfl, h1, (Alone1_alloc _ _ _).trans ((Alone1_drewN _ 1 g).trans h2)⟩
theorem bk6 (who n : Int) (x : Nat) (t : ByteArray) (s : ByteArray) (p : Nat) (e : Int) : (Item.mk who 6 n x t).bk s p e = ((rT s p e (t.size : Int)).1.toList == t.toList, (rT s p e (t.size : Int)).2) := by
  unfold Item.bk
  rw [if_neg (show ¬ (6 : Int) = 0 by decide), if_neg (show ¬ (6 : Int) = 1 by decide), if_neg (show ¬ (6 : Int) = 2 by decide), if_neg (show ¬ (6 : Int) = 3 by decide), if_neg (show ¬ (6 : Int) = 4 by decide), if_neg (show ¬ (6 : Int) = 5 by decide), if_pos rfl]
theorem back6 (who n : Int) (x : Nat) (t : ByteArray) (g : Nat) (s : ByteArray) (p : Nat) (e : Int) (w : World) (h : RS w g s p e) (hp : p ≤ s.size) (hs : s.size ≤ 140737488351232) (hx : x < 18446744073709551616) (ht : t.size ≤ 140737488351232) :
    Calls Try.prog 45 #[.pointer (some ⟨g, 0, none⟩), (Item.mk who 6 n x t).val] w fun r w' => r = .returned (.bool ((Item.mk who 6 n x t).bk s p e).1) ∧ RS w' g s ((Item.mk who 6 n x t).bk s p e).2.1 ((Item.mk who 6 n x t).bk s p e).2.2 ∧ Alone1 w w' g := by
  rw [bk6]
  unfold Item.val
  dsimp only
  have HC := Aside0.mk (fun (W : World) (h : RS W g s p e) => RText_any h hp hs t.size (by omega))
  have hg := blk_lt h
  go_enter Try.func45, Try.ntmps45
  go_wp2_with fail
  go_region_held3 (fun W' : World => W'.cell? ⟨w.heap.size, 4, none⟩ = some (.string t)) (first | go_keep | (constructor <;> go_keep)) (first | (go_at_call 41; refine (HC.out _ ?_).mono ?_; (exact blk_drew (RS_alloc h _)); rintro e_ w1 ⟨rfl, h1, h2⟩; have hk4 : w1.cell? ⟨w.heap.size, 4, none⟩ = some (.string t) := (a1_cell h2 w.heap.size 4 (Nat.ne_of_gt hg) (by simp)).trans ((blk_cell (W_push w _ _ _) 4).trans rfl)))
  go_wp2_with fail
  go_ret
  exact ⟨rfl, h1, (Alone1_alloc _ _ _).trans ((Alone1_drewN _ 1 g).trans h2)⟩
theorem bk7 (who n : Int) (x : Nat) (t : ByteArray) (s : ByteArray) (p : Nat) (e : Int) : (Item.mk who 7 n x t).bk s p e = ((tk s p e (t.size : Int)).1.toList == t.toList, (tk s p e (t.size : Int)).2.2) := by
  unfold Item.bk
  rw [if_neg (show ¬ (7 : Int) = 0 by decide), if_neg (show ¬ (7 : Int) = 1 by decide), if_neg (show ¬ (7 : Int) = 2 by decide), if_neg (show ¬ (7 : Int) = 3 by decide), if_neg (show ¬ (7 : Int) = 4 by decide), if_neg (show ¬ (7 : Int) = 5 by decide), if_neg (show ¬ (7 : Int) = 6 by decide)]
theorem back7 (who n : Int) (x : Nat) (t : ByteArray) (g : Nat) (s : ByteArray) (p : Nat) (e : Int) (w : World) (h : RS w g s p e) (hp : p ≤ s.size) (hs : s.size ≤ 140737488351232) (hx : x < 18446744073709551616) (ht : t.size ≤ 140737488351232) :
    Calls Try.prog 45 #[.pointer (some ⟨g, 0, none⟩), (Item.mk who 7 n x t).val] w fun r w' => r = .returned (.bool ((Item.mk who 7 n x t).bk s p e).1) ∧ RS w' g s ((Item.mk who 7 n x t).bk s p e).2.1 ((Item.mk who 7 n x t).bk s p e).2.2 ∧ Alone1 w w' g := by
  rw [bk7]
  unfold Item.val
  dsimp only
  have HC := Aside0.mk (fun (W : World) (h : RS W g s p e) => RRaw_any h hp hs t.size (by omega))
  have hg := blk_lt h
  go_enter Try.func45, Try.ntmps45
  go_wp2_with fail
  go_region_held3 (fun W' : World => W'.cell? ⟨w.heap.size, 4, none⟩ = some (.string t)) (first | go_keep | (constructor <;> go_keep)) (first | (go_at_call 42; refine (HC.out _ ?_).mono ?_; (exact blk_drew (RS_alloc h _)); rintro e_ w1 ⟨rfl, h1, h2⟩; have hk4 : w1.cell? ⟨w.heap.size, 4, none⟩ = some (.string t) := (a1_cell h2 w.heap.size 4 (Nat.ne_of_gt hg) (by simp)).trans ((blk_cell (W_push w _ _ _) 4).trans rfl)))
  go_wp2_with fail
  go_ret
  exact ⟨rfl, h1, (Alone1_alloc _ _ _).trans ((Alone1_drewN _ 1 g).trans h2)⟩
/-- An item that fits is taken as it was put, or is not. -/
theorem back_calls (x : Item) (hx : x.Ok) (hf : x.fits = true) (g : Nat) (s : ByteArray) (p : Nat) (e : Int) (w : World) (h : RS w g s p e) (hp : p ≤ s.size) (hs : s.size ≤ 140737488351232) :
    Calls Try.prog 45 #[.pointer (some ⟨g, 0, none⟩), x.val] w fun r w' => r = .returned (.bool (x.bk s p e).1) ∧ RS w' g s (x.bk s p e).2.1 (x.bk s p e).2.2 ∧ Alone1 w w' g := by
  obtain ⟨who, kind, n, y, t⟩ := x
  obtain ⟨hy, hn0, hn1, ht⟩ := hx
  dsimp only at hy ht
  have hk : 0 ≤ kind ∧ kind < 8 := by
    unfold Item.fits at hf
    dsimp only at hf
    split at hf
    · omega
    · have := of_decide_eq_true hf; omega
  obtain ⟨k, rfl⟩ := Int.eq_ofNat_of_zero_le hk.1
  have h8 : k < 8 := by omega
  clear hk
  match k, h8, hf with
  | 0, _, _ => exact back0 who n y t g s p e w h hp hs hy ht
  | 1, _, _ => exact back1 who n y t g s p e w h hp hs hy ht
  | 2, _, hf => exact back2 who n y t g s p e w h hp hs hy ht (of_decide_eq_true hf : Item.fix _).1 (of_decide_eq_true hf : Item.fix _).2.1
  | 3, _, _ => exact back3 who n y t g s p e w h hp hs hy ht
  | 4, _, _ => exact back4 who n y t g s p e w h hp hs hy ht
  | 5, _, _ => exact back5 who n y t g s p e w h hp hs hy ht
  | 6, _, _ => exact back6 who n y t g s p e w h hp hs hy ht
  | 7, _, _ => exact back7 who n y t g s p e w h hp hs hy ht
end Go.Proofs.Ytikfdfagnalmbaa.My
