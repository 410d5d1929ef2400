/- A call that takes, of both readers. -/
import Derived.Test.YtikfdfagnalmbaaRefRdC
namespace Go.Proofs.Ytikfdfagnalmbaa.My
open Go.RowKit Go.Proofs.YtikfdfagnalmbaaW.PrintWords Go.Proofs.YtikfdfagnalmbaaW.PrintLast Go.Proofs.YtikfdfagnalmbaaW.PrintMore Go.Proofs.Ytikfdfagnalmbaa Go.Proofs.Ytikfdfagnalmbaa.PWireReads
set_option linter.unusedSimpArgs false
set_option linter.unusedVariables false
set_option maxRecDepth 100000
set_option maxHeartbeats 1600000
/-- Where a reader stands behind a call, and its error. -/
def Item.tn (x : Item) (s : ByteArray) (p : Nat) (e : Int) : Nat × Int :=
  if x.kind = 0 then (tk s p e 1).2.2 else
  if x.kind = 1 then (tk s p e 2).2.2 else
  if x.kind = 2 then (if 1 ≤ x.n ∧ x.n ≤ 8 then (tk s p e x.n).2.2 else (p, fe e 1)) else
  if x.kind = 3 then (rU s p e x.v).2 else
  if x.kind = 4 then (rU s p e 18446744073709551615).2 else
  if x.kind = 5 then (rF s p e).2 else
  if x.kind = 6 then (rT s p e x.n).2 else
  if x.kind = 7 then (tk' s p e x.n).2.2 else
  if x.kind = 8 then (p, fe e x.n) else (p, e)
def Alone2 (w w' : World) (g h : Nat) : Prop := Below 0 w w' ∧ ∀ k, k ≠ g → k ≠ h → k < w.heap.size → w'.heap[k]? = w.heap[k]?
theorem Alone2.l {a b c d : World} {g h : Nat} (k0 : Below a.heap.size a b) (k1 : Alone1 b c h) (k2 : Alone1 c d g) : Alone2 a d g h :=
  ⟨((k0.mono (Nat.zero_le _)).trans k1.1).trans k2.1, fun k hg hh hl => ((k2.2 k hg (Nat.lt_of_lt_of_le hl (Nat.le_trans k0.size k1.1.size))).trans (k1.2 k hh (Nat.lt_of_lt_of_le hl k0.size))).trans (k0.block k hl)⟩
theorem MS_alone {w w' : World} {g gm : Nat} {s : ByteArray} {p q : Nat} {e f : Int} {s' : ByteArray} (h : MS w gm s p e) (hr : RS w g s' q f) (m : Alone1 w w' g) : MS w' gm s p e :=
  (m.2 gm (by rintro rfl; have h1 := Eq.trans (Eq.symm h) hr; simp at h1) (blk_lt h)).trans h
theorem RS_alone {w w' : World} {g gm : Nat} {s : ByteArray} {p q : Nat} {e f : Int} {s' : ByteArray} (h : MS w gm s p e) (hr : RS w g s' q f) (m : Alone1 w w' gm) : RS w' g s' q f :=
  (m.2 g (by rintro rfl; have h1 := Eq.trans (Eq.symm h) hr; simp at h1) (blk_lt hr)).trans hr
theorem tn0 (who n : Int) (x : Nat) (t : ByteArray) (s : ByteArray) (p : Nat) (e : Int) : (Item.mk who 0 n x t).tn s p e = (tk s p e 1).2.2 := by
  unfold Item.tn
  rw [if_pos rfl]
theorem taken0 (who n : Int) (x : Nat) (t : ByteArray) (gr gm : Nat) (s : ByteArray) (p : Nat) (e : Int) (w : World) (hr : RS w gr s p e) (hm : MS w gm s p e) (hp : p ≤ s.size) (hs : s.size ≤ 140737488351232) (hx : x < 18446744073709551616) (hn : n < 9223372036854775808) :
    Calls Try.prog 30 #[.pointer (some ⟨gr, 0, none⟩), .pointer (some ⟨gm, 0, none⟩), (Item.mk who 0 n x t).val] w fun r w' => r = .returned (.bool true) ∧ RS w' gr s ((Item.mk who 0 n x t).tn s p e).1 ((Item.mk who 0 n x t).tn s p e).2 ∧ MS w' gm s ((Item.mk who 0 n x t).tn s p e).1 ((Item.mk who 0 n x t).tn s p e).2 ∧ Alone2 w w' gr gm := by
  rw [tn0]
  unfold Item.val
  dsimp only
  have HC := Aside0.mk (fun (W : World) (h : RS W gr s p e) => RByte_any h hp hs)
  have HD := Aside0.mk (fun (W : World) (h : MS W gm s p e) => MByte h hp hs)
  generalize tk s p e 1 = z at HC HD ⊢
  obtain ⟨z, b, q, f⟩ := z
  dsimp only at HC HD ⊢
  go_enter Try.func30, Try.ntmps30
  go_wp2_with fail
  refine (HD.out _ (blk_alloc hm _)).mono ?_
  rintro e_ w1 ⟨rfl, hm1, ha1⟩
  have hr1 := RS_alone (blk_alloc hm _) (blk_alloc hr _) ha1
  go_wp2_with fail
  refine (HC.out _ hr1).mono ?_
  rintro e_ w2 ⟨rfl, hr2, ha2⟩
  have hm2 := MS_alone hm1 hr1 ha2
  go_wp2_with fail
  go_ret
  exact ⟨rfl, hr2, hm2, Alone2.l ((Below.refl _ _).alloc (Nat.le_refl _) _) ha1 ha2⟩
theorem RRaw_tk' {w : World} {g : Nat} {s : ByteArray} {p : Nat} {e : Int} (h : RS w g s p e) (hp : p ≤ s.size) (hs : s.size ≤ 140737488351232) (n : Int) : Calls Try.prog 42 #[.pointer (some ⟨g, 0, none⟩), .int .i64 n] w fun r w' => r = .returned (.string (tk' s p e n).1) ∧ RS w' g s (tk' s p e n).2.2.1 (tk' s p e n).2.2.2 ∧ Alone1 w w' g := by
  unfold tk'
  by_cases hn : n < 0
  · rw [if_pos hn]
    exact RRaw_neg h hp hs n hn
  · rw [if_neg hn]
    exact RRaw_any h hp hs n (by omega)
theorem sameF_refl (a : Nat) : sameF a a = true := by unfold sameF; simp
theorem tn1 (who n : Int) (x : Nat) (t : ByteArray) (s : ByteArray) (p : Nat) (e : Int) : (Item.mk who 1 n x t).tn s p e = (tk s p e 2).2.2 := by
  unfold Item.tn
  rw [if_neg (show ¬ (1 : Int) = 0 by decide), if_pos rfl]
theorem tn2 (who n : Int) (x : Nat) (t : ByteArray) (s : ByteArray) (p : Nat) (e : Int) : (Item.mk who 2 n x t).tn s p e = (if 1 ≤ n ∧ n ≤ 8 then (tk s p e n).2.2 else (p, fe e 1)) := by
  unfold Item.tn
  rw [if_neg (show ¬ (2 : Int) = 0 by decide), if_neg (show ¬ (2 : Int) = 1 by decide), if_pos rfl]
theorem tn3 (who n : Int) (x : Nat) (t : ByteArray) (s : ByteArray) (p : Nat) (e : Int) : (Item.mk who 3 n x t).tn s p e = (rU s p e x).2 := by
  unfold Item.tn
  rw [if_neg (show ¬ (3 : Int) = 0 by decide), if_neg (show ¬ (3 : Int) = 1 by decide), if_neg (show ¬ (3 : Int) = 2 by decide), if_pos rfl]
theorem tn4 (who n : Int) (x : Nat) (t : ByteArray) (s : ByteArray) (p : Nat) (e : Int) : (Item.mk who 4 n x t).tn s p e = (rU s p e 18446744073709551615).2 := by
  unfold Item.tn
  rw [if_neg (show ¬ (4 : Int) = 0 by decide), if_neg (show ¬ (4 : Int) = 1 by decide), if_neg (show ¬ (4 : Int) = 2 by decide), if_neg (show ¬ (4 : Int) = 3 by decide), if_pos rfl]
theorem tn5 (who n : Int) (x : Nat) (t : ByteArray) (s : ByteArray) (p : Nat) (e : Int) : (Item.mk who 5 n x t).tn s p e = (rF s p e).2 := by
  unfold Item.tn
  rw [if_neg (show ¬ (5 : Int) = 0 by decide), if_neg (show ¬ (5 : Int) = 1 by decide), if_neg (show ¬ (5 : Int) = 2 by decide), if_neg (show ¬ (5 : Int) = 3 by decide), if_neg (show ¬ (5 : Int) = 4 by decide), if_pos rfl]
theorem tn6 (who n : Int) (x : Nat) (t : ByteArray) (s : ByteArray) (p : Nat) (e : Int) : (Item.mk who 6 n x t).tn s p e = (rT s p e n).2 := by
  unfold Item.tn
  rw [if_neg (show ¬ (6 : Int) = 0 by decide), if_neg (show ¬ (6 : Int) = 1 by decide), if_neg (show ¬ (6 : Int) = 2 by decide), if_neg (show ¬ (6 : Int) = 3 by decide), if_neg (show ¬ (6 : Int) = 4 by decide), if_neg (show ¬ (6 : Int) = 5 by decide), if_pos rfl]
theorem tn7 (who n : Int) (x : Nat) (t : ByteArray) (s : ByteArray) (p : Nat) (e : Int) : (Item.mk who 7 n x t).tn s p e = (tk' s p e n).2.2 := by
  unfold Item.tn
  rw [if_neg (show ¬ (7 : Int) = 0 by decide), if_neg (show ¬ (7 : Int) = 1 by decide), if_neg (show ¬ (7 : Int) = 2 by decide), if_neg (show ¬ (7 : Int) = 3 by decide), if_neg (show ¬ (7 : Int) = 4 by decide), if_neg (show ¬ (7 : Int) = 5 by decide), if_neg (show ¬ (7 : Int) = 6 by decide), if_pos rfl]
theorem tn8 (who n : Int) (x : Nat) (t : ByteArray) (s : ByteArray) (p : Nat) (e : Int) : (Item.mk who 8 n x t).tn s p e = (p, fe e n) := by
  unfold Item.tn
  rw [if_neg (show ¬ (8 : Int) = 0 by decide), if_neg (show ¬ (8 : Int) = 1 by decide), if_neg (show ¬ (8 : Int) = 2 by decide), if_neg (show ¬ (8 : Int) = 3 by decide), if_neg (show ¬ (8 : Int) = 4 by decide), if_neg (show ¬ (8 : Int) = 5 by decide), if_neg (show ¬ (8 : Int) = 6 by decide), if_neg (show ¬ (8 : Int) = 7 by decide), if_pos rfl]
theorem taken1 (who n : Int) (x : Nat) (t : ByteArray) (gr gm : Nat) (s : ByteArray) (p : Nat) (e : Int) (w : World) (hr : RS w gr s p e) (hm : MS w gm s p e) (hp : p ≤ s.size) (hs : s.size ≤ 140737488351232) (hx : x < 18446744073709551616) (hn : n < 9223372036854775808) :
    Calls Try.prog 30 #[.pointer (some ⟨gr, 0, none⟩), .pointer (some ⟨gm, 0, none⟩), (Item.mk who 1 n x t).val] w fun r w' => r = .returned (.bool true) ∧ RS w' gr s ((Item.mk who 1 n x t).tn s p e).1 ((Item.mk who 1 n x t).tn s p e).2 ∧ MS w' gm s ((Item.mk who 1 n x t).tn s p e).1 ((Item.mk who 1 n x t).tn s p e).2 ∧ Alone2 w w' gr gm := by
  rw [tn1]
  unfold Item.val
  dsimp only
  have HC := Aside0.mk (fun (W : World) (h : RS W gr s p e) => RSmall_any h hp hs)
  have HD := Aside0.mk (fun (W : World) (h : MS W gm s p e) => MSmall h hp hs)
  generalize tk s p e 2 = Z at HC HD ⊢
  generalize rSm Z = z at HC HD ⊢
  obtain ⟨z0, b, q, f⟩ := Z
  dsimp only at HC HD ⊢
  go_enter Try.func30, Try.ntmps30
  go_wp2_with fail
  refine (HD.out _ (blk_alloc hm _)).mono ?_
  rintro e_ w1 ⟨rfl, hm1, ha1⟩
  have hr1 := RS_alone (blk_alloc hm _) (blk_alloc hr _) ha1
  go_wp2_with fail
  refine (HC.out _ hr1).mono ?_
  rintro e_ w2 ⟨rfl, hr2, ha2⟩
  have hm2 := MS_alone hm1 hr1 ha2
  go_wp2_with fail
  go_ret
  exact ⟨rfl, hr2, hm2, Alone2.l ((Below.refl _ _).alloc (Nat.le_refl _) _) ha1 ha2⟩
theorem taken2 (who n : Int) (x : Nat) (t : ByteArray) (gr gm : Nat) (s : ByteArray) (p : Nat) (e : Int) (w : World) (hr : RS w gr s p e) (hm : MS w gm s p e) (hp : p ≤ s.size) (hs : s.size ≤ 140737488351232) (hx : x < 18446744073709551616) (hn : n < 9223372036854775808) (h1 : 1 ≤ n) (h8 : n ≤ 8) :
    Calls Try.prog 30 #[.pointer (some ⟨gr, 0, none⟩), .pointer (some ⟨gm, 0, none⟩), (Item.mk who 2 n x t).val] w fun r w' => r = .returned (.bool true) ∧ RS w' gr s ((Item.mk who 2 n x t).tn s p e).1 ((Item.mk who 2 n x t).tn s p e).2 ∧ MS w' gm s ((Item.mk who 2 n x t).tn s p e).1 ((Item.mk who 2 n x t).tn s p e).2 ∧ Alone2 w w' gr gm := by
  rw [tn2, if_pos ⟨h1, h8⟩]
  unfold Item.val
  dsimp only
  have HC := Aside0.mk (fun (W : World) (h : RS W gr s p e) => RFixed_any h hp hs n h1 h8)
  have HD := Aside0.mk (fun (W : World) (h : MS W gm s p e) => MFixed h hp hs n h1 h8)
  generalize tk s p e n = z at HC HD ⊢
  obtain ⟨z, b, q, f⟩ := z
  dsimp only at HC HD ⊢
  generalize hiN (natsOf z) = N at HC HD ⊢
  clear h1 h8
  go_enter Try.func30, Try.ntmps30
  go_wp2_with fail
  refine (HD.out _ (blk_alloc hm _)).mono ?_
  rintro e_ w1 ⟨rfl, hm1, ha1⟩
  have hr1 := RS_alone (blk_alloc hm _) (blk_alloc hr _) ha1
  have hg2 := blk_lt hm
  have hk2 : w1.cell? ⟨w.heap.size, 2, none⟩ = some (.int .i64 n) := (a1_cell ha1 w.heap.size 2 (Nat.ne_of_gt hg2) (by simp)).trans ((blk_cell (W_push w _ _ _) 2).trans rfl)
  go_wp2_with fail
  refine (HC.out _ hr1).mono ?_
  rintro e_ w2 ⟨rfl, hr2, ha2⟩
  have hm2 := MS_alone hm1 hr1 ha2
  go_wp2_with fail
  go_ret
  exact ⟨rfl, hr2, hm2, Alone2.l ((Below.refl _ _).alloc (Nat.le_refl _) _) ha1 ha2⟩
theorem taken2b (who n : Int) (x : Nat) (t : ByteArray) (gr gm : Nat) (s : ByteArray) (p : Nat) (e : Int) (w : World) (hr : RS w gr s p e) (hm : MS w gm s p e) (hp : p ≤ s.size) (hs : s.size ≤ 140737488351232) (hx : x < 18446744073709551616) (hn : n < 9223372036854775808) (hb : n < 1 ∨ 8 < n) :
    Calls Try.prog 30 #[.pointer (some ⟨gr, 0, none⟩), .pointer (some ⟨gm, 0, none⟩), (Item.mk who 2 n x t).val] w fun r w' => r = .returned (.bool true) ∧ RS w' gr s ((Item.mk who 2 n x t).tn s p e).1 ((Item.mk who 2 n x t).tn s p e).2 ∧ MS w' gm s ((Item.mk who 2 n x t).tn s p e).1 ((Item.mk who 2 n x t).tn s p e).2 ∧ Alone2 w w' gr gm := by
  rw [tn2, if_neg (show ¬ (1 ≤ n ∧ n ≤ 8) by omega)]
  unfold Item.val
  dsimp only
  have HC := Aside0.mk (fun (W : World) (h : RS W gr s p e) => RFixed_bad h hp hs n hb)
  have HD := Aside0.mk (fun (W : World) (h : MS W gm s p e) => MFixed_bad h n hb)
  generalize fe e 1 = f at HC HD ⊢
  clear hb
  go_enter Try.func30, Try.ntmps30
  go_wp2_with fail
  refine (HD.out _ (blk_alloc hm _)).mono ?_
  rintro e_ w1 ⟨rfl, hm1, ha1⟩
  have hr1 := RS_alone (blk_alloc hm _) (blk_alloc hr _) ha1
  have hg2 := blk_lt hm
  have hk2 : w1.cell? ⟨w.heap.size, 2, none⟩ = some (.int .i64 n) := (a1_cell ha1 w.heap.size 2 (Nat.ne_of_gt hg2) (by simp)).trans ((blk_cell (W_push w _ _ _) 2).trans rfl)
  go_wp2_with fail
  refine (HC.out _ hr1).mono ?_
  rintro e_ w2 ⟨rfl, hr2, ha2⟩
  have hm2 := MS_alone hm1 hr1 ha2
  go_wp2_with fail
  go_ret
  exact ⟨rfl, hr2, hm2, Alone2.l ((Below.refl _ _).alloc (Nat.le_refl _) _) ha1 ha2⟩
theorem taken3 (who n : Int) (x : Nat) (t : ByteArray) (gr gm : Nat) (s : ByteArray) (p : Nat) (e : Int) (w : World) (hr : RS w gr s p e) (hm : MS w gm s p e) (hp : p ≤ s.size) (hs : s.size ≤ 140737488351232) (hx : x < 18446744073709551616) (hn : n < 9223372036854775808) :
    Calls Try.prog 30 #[.pointer (some ⟨gr, 0, none⟩), .pointer (some ⟨gm, 0, none⟩), (Item.mk who 3 n x t).val] w fun r w' => r = .returned (.bool true) ∧ RS w' gr s ((Item.mk who 3 n x t).tn s p e).1 ((Item.mk who 3 n x t).tn s p e).2 ∧ MS w' gm s ((Item.mk who 3 n x t).tn s p e).1 ((Item.mk who 3 n x t).tn s p e).2 ∧ Alone2 w w' gr gm := by
  rw [tn3]
  unfold Item.val
  dsimp only
  have HC := Aside0.mk (fun (W : World) (h : RS W gr s p e) => RUint_any h hp hs x hx)
  have HD := Aside0.mk (fun (W : World) (h : MS W gm s p e) => MUint h hp hs x)
  generalize rU s p e x = z at HC HD ⊢
  obtain ⟨z, q, f⟩ := z
  dsimp only at HC HD ⊢
  go_enter Try.func30, Try.ntmps30
  go_wp2_with fail
  refine (HD.out _ (blk_alloc hm _)).mono ?_
  rintro e_ w1 ⟨rfl, hm1, ha1⟩
  have hr1 := RS_alone (blk_alloc hm _) (blk_alloc hr _) ha1
  have hg2 := blk_lt hm
  have hk3 : w1.cell? ⟨w.heap.size, 3, none⟩ = some (.int .u64 (x : Int)) := (a1_cell ha1 w.heap.size 3 (Nat.ne_of_gt hg2) (by simp)).trans ((blk_cell (W_push w _ _ _) 3).trans rfl)
  go_wp2_with fail
  refine (HC.out _ hr1).mono ?_
  rintro e_ w2 ⟨rfl, hr2, ha2⟩
  have hm2 := MS_alone hm1 hr1 ha2
  go_wp2_with fail
  go_ret
  exact ⟨rfl, hr2, hm2, Alone2.l ((Below.refl _ _).alloc (Nat.le_refl _) _) ha1 ha2⟩
theorem taken4 (who n : Int) (x : Nat) (t : ByteArray) (gr gm : Nat) (s : ByteArray) (p : Nat) (e : Int) (w : World) (hr : RS w gr s p e) (hm : MS w gm s p e) (hp : p ≤ s.size) (hs : s.size ≤ 140737488351232) (hx : x < 18446744073709551616) (hn : n < 9223372036854775808) :
    Calls Try.prog 30 #[.pointer (some ⟨gr, 0, none⟩), .pointer (some ⟨gm, 0, none⟩), (Item.mk who 4 n x t).val] w fun r w' => r = .returned (.bool true) ∧ RS w' gr s ((Item.mk who 4 n x t).tn s p e).1 ((Item.mk who 4 n x t).tn s p e).2 ∧ MS w' gm s ((Item.mk who 4 n x t).tn s p e).1 ((Item.mk who 4 n x t).tn s p e).2 ∧ Alone2 w w' gr gm := by
  rw [tn4]
  unfold Item.val
  dsimp only
  have HC := Aside0.mk (fun (W : World) (h : RS W gr s p e) => RInt_any h hp hs)
  have HD := Aside0.mk (fun (W : World) (h : MS W gm s p e) => MInt h hp hs)
  generalize rU s p e 18446744073709551615 = z at HC HD ⊢
  obtain ⟨z, q, f⟩ := z
  dsimp only at HC HD ⊢
  generalize zag z = Z at HC HD ⊢
  go_enter Try.func30, Try.ntmps30
  go_wp2_with fail
  refine (HD.out _ (blk_alloc hm _)).mono ?_
  rintro e_ w1 ⟨rfl, hm1, ha1⟩
  have hr1 := RS_alone (blk_alloc hm _) (blk_alloc hr _) ha1
  go_wp2_with fail
  refine (HC.out _ hr1).mono ?_
  rintro e_ w2 ⟨rfl, hr2, ha2⟩
  have hm2 := MS_alone hm1 hr1 ha2
  go_wp2_with fail
  go_ret
  exact ⟨rfl, hr2, hm2, Alone2.l ((Below.refl _ _).alloc (Nat.le_refl _) _) ha1 ha2⟩
theorem taken5 (who n : Int) (x : Nat) (t : ByteArray) (gr gm : Nat) (s : ByteArray) (p : Nat) (e : Int) (w : World) (hr : RS w gr s p e) (hm : MS w gm s p e) (hp : p ≤ s.size) (hs : s.size ≤ 140737488351232) (hx : x < 18446744073709551616) (hn : n < 9223372036854775808) :
    Calls Try.prog 30 #[.pointer (some ⟨gr, 0, none⟩), .pointer (some ⟨gm, 0, none⟩), (Item.mk who 5 n x t).val] w fun r w' => r = .returned (.bool true) ∧ RS w' gr s ((Item.mk who 5 n x t).tn s p e).1 ((Item.mk who 5 n x t).tn s p e).2 ∧ MS w' gm s ((Item.mk who 5 n x t).tn s p e).1 ((Item.mk who 5 n x t).tn s p e).2 ∧ Alone2 w w' gr gm := by
  rw [tn5]
  unfold Item.val
  dsimp only
  have HC := Aside0.mk (fun (W : World) (h : RS W gr s p e) => RFloat_any h hp hs)
  have HD := Aside0.mk (fun (W : World) (h : MS W gm s p e) => MFloat h hp hs)
  generalize rF s p e = z at HC HD ⊢
  obtain ⟨z, q, f⟩ := z
  dsimp only at HC HD ⊢
  go_enter Try.func30, Try.ntmps30
  go_wp2_with fail
  refine (HD.out _ (blk_alloc hm _)).mono ?_
  rintro e_ w1 ⟨rfl, hm1, ha1⟩
  have hr1 := RS_alone (blk_alloc hm _) (blk_alloc hr _) ha1
  go_wp2_with fail
  refine (HC.out _ hr1).mono ?_
  rintro e_ w2 ⟨rfl, hr2, ha2⟩
  have hm2 := MS_alone hm1 hr1 ha2
  go_wp2_with fail
  refine (same_calls _ _ _).mono ?_
  rintro e_ w3 ⟨rfl, rfl⟩
  rw [sameF_refl]
  go_wp2_with fail
  go_ret
  exact ⟨rfl, hr2, hm2, Alone2.l ((Below.refl _ _).alloc (Nat.le_refl _) _) ha1 ha2⟩
theorem taken6 (who n : Int) (x : Nat) (t : ByteArray) (gr gm : Nat) (s : ByteArray) (p : Nat) (e : Int) (w : World) (hr : RS w gr s p e) (hm : MS w gm s p e) (hp : p ≤ s.size) (hs : s.size ≤ 140737488351232) (hx : x < 18446744073709551616) (hn : n < 9223372036854775808) :
    Calls Try.prog 30 #[.pointer (some ⟨gr, 0, none⟩), .pointer (some ⟨gm, 0, none⟩), (Item.mk who 6 n x t).val] w fun r w' => r = .returned (.bool true) ∧ RS w' gr s ((Item.mk who 6 n x t).tn s p e).1 ((Item.mk who 6 n x t).tn s p e).2 ∧ MS w' gm s ((Item.mk who 6 n x t).tn s p e).1 ((Item.mk who 6 n x t).tn s p e).2 ∧ Alone2 w w' gr gm := by
  rw [tn6]
  unfold Item.val
  dsimp only
  have HC := Aside0.mk (fun (W : World) (h : RS W gr s p e) => RText_any h hp hs n hn)
  have HD := Aside0.mk (fun (W : World) (h : MS W gm s p e) => MText h hp hs n hn)
  generalize rT s p e n = z at HC HD ⊢
  obtain ⟨z, q, f⟩ := z
  dsimp only at HC HD ⊢
  have htl : (z.toList == z.toList) = true := by simp
  go_enter Try.func30, Try.ntmps30
  go_wp2_with fail
  refine (HD.out _ (blk_alloc hm _)).mono ?_
  rintro e_ w1 ⟨rfl, hm1, ha1⟩
  have hr1 := RS_alone (blk_alloc hm _) (blk_alloc hr _) ha1
  have hg2 := blk_lt hm
  have hk2 : w1.cell? ⟨w.heap.size, 2, none⟩ = some (.int .i64 n) := (a1_cell ha1 w.heap.size 2 (Nat.ne_of_gt hg2) (by simp)).trans ((blk_cell (W_push w _ _ _) 2).trans rfl)
  go_wp2_with fail
  refine (HC.out _ hr1).mono ?_
  rintro e_ w2 ⟨rfl, hr2, ha2⟩
  have hm2 := MS_alone hm1 hr1 ha2
  go_wp2_with fail
  go_ret
  exact ⟨rfl, hr2, hm2, Alone2.l ((Below.refl _ _).alloc (Nat.le_refl _) _) ha1 ha2⟩
theorem taken7 (who n : Int) (x : Nat) (t : ByteArray) (gr gm : Nat) (s : ByteArray) (p : Nat) (e : Int) (w : World) (hr : RS w gr s p e) (hm : MS w gm s p e) (hp : p ≤ s.size) (hs : s.size ≤ 140737488351232) (hx : x < 18446744073709551616) (hn : n < 9223372036854775808) :
    Calls Try.prog 30 #[.pointer (some ⟨gr, 0, none⟩), .pointer (some ⟨gm, 0, none⟩), (Item.mk who 7 n x t).val] w fun r w' => r = .returned (.bool true) ∧ RS w' gr s ((Item.mk who 7 n x t).tn s p e).1 ((Item.mk who 7 n x t).tn s p e).2 ∧ MS w' gm s ((Item.mk who 7 n x t).tn s p e).1 ((Item.mk who 7 n x t).tn s p e).2 ∧ Alone2 w w' gr gm := by
  rw [tn7]
  unfold Item.val
  dsimp only
  have HC := Aside0.mk (fun (W : World) (h : RS W gr s p e) => RRaw_tk' h hp hs n)
  have HD := Aside0.mk (fun (W : World) (h : MS W gm s p e) => MRaw h hp hs n hn)
  generalize tk' s p e n = z at HC HD ⊢
  obtain ⟨z, b, q, f⟩ := z
  dsimp only at HC HD ⊢
  have htl : (z.toList == z.toList) = true := by simp
  go_enter Try.func30, Try.ntmps30
  go_wp2_with fail
  refine (HD.out _ (blk_alloc hm _)).mono ?_
  rintro e_ w1 ⟨rfl, hm1, ha1⟩
  have hr1 := RS_alone (blk_alloc hm _) (blk_alloc hr _) ha1
  have hg2 := blk_lt hm
  have hk2 : w1.cell? ⟨w.heap.size, 2, none⟩ = some (.int .i64 n) := (a1_cell ha1 w.heap.size 2 (Nat.ne_of_gt hg2) (by simp)).trans ((blk_cell (W_push w _ _ _) 2).trans rfl)
  go_wp2_with fail
  refine (HC.out _ hr1).mono ?_
  rintro e_ w2 ⟨rfl, hr2, ha2⟩
  have hm2 := MS_alone hm1 hr1 ha2
  go_wp2_with fail
  go_ret
  exact ⟨rfl, hr2, hm2, Alone2.l ((Below.refl _ _).alloc (Nat.le_refl _) _) ha1 ha2⟩
theorem taken8 (who n : Int) (x : Nat) (t : ByteArray) (gr gm : Nat) (s : ByteArray) (p : Nat) (e : Int) (w : World) (hr : RS w gr s p e) (hm : MS w gm s p e) (hp : p ≤ s.size) (hs : s.size ≤ 140737488351232) (hx : x < 18446744073709551616) (hn : n < 9223372036854775808) :
    Calls Try.prog 30 #[.pointer (some ⟨gr, 0, none⟩), .pointer (some ⟨gm, 0, none⟩), (Item.mk who 8 n x t).val] w fun r w' => r = .returned (.bool true) ∧ RS w' gr s ((Item.mk who 8 n x t).tn s p e).1 ((Item.mk who 8 n x t).tn s p e).2 ∧ MS w' gm s ((Item.mk who 8 n x t).tn s p e).1 ((Item.mk who 8 n x t).tn s p e).2 ∧ Alone2 w w' gr gm := by
  rw [tn8]
  unfold Item.val
  dsimp only
  have HC := Aside0.mk (fun (W : World) (h : RS W gr s p e) => RFail_any h n)
  have HD := Aside0.mk (fun (W : World) (h : MS W gm s p e) => MFail h n)
  generalize fe e n = f at HC HD ⊢
  go_enter Try.func30, Try.ntmps30
  go_wp2_with fail
  refine (HD.out _ (blk_alloc hm _)).mono ?_
  rintro e_ w1 ⟨rfl, hm1, ha1⟩
  have hr1 := RS_alone (blk_alloc hm _) (blk_alloc hr _) ha1
  have hg2 := blk_lt hm
  have hk2 : w1.cell? ⟨w.heap.size, 2, none⟩ = some (.int .i64 n) := (a1_cell ha1 w.heap.size 2 (Nat.ne_of_gt hg2) (by simp)).trans ((blk_cell (W_push w _ _ _) 2).trans rfl)
  go_wp2_with fail
  refine (HC.out _ hr1).mono ?_
  rintro e_ w2 ⟨rfl, hr2, ha2⟩
  have hm2 := MS_alone hm1 hr1 ha2
  go_wp2_with fail
  go_ret
  exact ⟨rfl, hr2, hm2, Alone2.l ((Below.refl _ _).alloc (Nat.le_refl _) _) ha1 ha2⟩
theorem tnx (who k n : Int) (x : Nat) (t : ByteArray) (s : ByteArray) (p : Nat) (e : Int) (hk : k < 0 ∨ 8 < k) : (Item.mk who k n x t).tn s p e = (p, e) := by
  unfold Item.tn
  rw [if_neg (show ¬ k = 0 by omega), if_neg (show ¬ k = 1 by omega), if_neg (show ¬ k = 2 by omega), if_neg (show ¬ k = 3 by omega), if_neg (show ¬ k = 4 by omega), if_neg (show ¬ k = 5 by omega), if_neg (show ¬ k = 6 by omega), if_neg (show ¬ k = 7 by omega), if_neg (show ¬ k = 8 by omega)]
theorem takenx (k : Int) (hk : k < 0 ∨ 8 < k) (who n : Int) (x : Nat) (t : ByteArray) (gr gm : Nat) (s : ByteArray) (p : Nat) (e : Int) (w : World) (hr : RS w gr s p e) (hm : MS w gm s p e) (hp : p ≤ s.size) (hs : s.size ≤ 140737488351232) (hx : x < 18446744073709551616) (hn : n < 9223372036854775808) :
    Calls Try.prog 30 #[.pointer (some ⟨gr, 0, none⟩), .pointer (some ⟨gm, 0, none⟩), (Item.mk who k n x t).val] w fun r w' => r = .returned (.bool true) ∧ RS w' gr s ((Item.mk who k n x t).tn s p e).1 ((Item.mk who k n x t).tn s p e).2 ∧ MS w' gm s ((Item.mk who k n x t).tn s p e).1 ((Item.mk who k n x t).tn s p e).2 ∧ Alone2 w w' gr gm := by
  rw [tnx _ _ _ _ _ _ _ _ hk]
  unfold Item.val
  dsimp only
  have k0 : (k == 0) = false := by rw [beq_eq_false_iff_ne]; omega
  have k1 : (k == 1) = false := by rw [beq_eq_false_iff_ne]; omega
  have k2 : (k == 2) = false := by rw [beq_eq_false_iff_ne]; omega
  have k3 : (k == 3) = false := by rw [beq_eq_false_iff_ne]; omega
  have k4 : (k == 4) = false := by rw [beq_eq_false_iff_ne]; omega
  have k5 : (k == 5) = false := by rw [beq_eq_false_iff_ne]; omega
  have k6 : (k == 6) = false := by rw [beq_eq_false_iff_ne]; omega
  have k7 : (k == 7) = false := by rw [beq_eq_false_iff_ne]; omega
  have k8 : (k == 8) = false := by rw [beq_eq_false_iff_ne]; omega
  clear hk
  go_enter Try.func30, Try.ntmps30
  go_wp2_with fail
  go_ret
  exact ⟨rfl, blk_alloc hr _, blk_alloc hm _, ⟨((Below.refl w.heap.size w).alloc (Nat.le_refl _) _).mono (Nat.zero_le _), fun k _ _ hl => Below.heap_alloc _ _ _ hl⟩⟩
theorem taken_calls (x : Item) (hx : x.Ok) (gr gm : Nat) (s : ByteArray) (p : Nat) (e : Int) (w : World) (hr : RS w gr s p e) (hm : MS w gm s p e) (hp : p ≤ s.size) (hs : s.size ≤ 140737488351232) :
    Calls Try.prog 30 #[.pointer (some ⟨gr, 0, none⟩), .pointer (some ⟨gm, 0, none⟩), x.val] w fun r w' => r = .returned (.bool true) ∧ RS w' gr s (x.tn s p e).1 (x.tn s p e).2 ∧ MS w' gm s (x.tn s p e).1 (x.tn s p e).2 ∧ Alone2 w w' gr gm := by
  obtain ⟨who, kind, n, y, t⟩ := x
  obtain ⟨hy, hn0, hn1, ht⟩ := hx
  dsimp only at hy hn0 hn1
  have hn : n < 9223372036854775808 := by omega
  by_cases hk : kind < 0 ∨ 8 < kind
  · exact takenx kind hk who n y t gr gm s p e w hr hm hp hs hy hn
  · obtain ⟨k, rfl⟩ := Int.eq_ofNat_of_zero_le (show 0 ≤ kind by omega)
    have h9 : k < 9 := by omega
    clear hk
    match k, h9 with
    | 0, _ => exact taken0 who n y t gr gm s p e w hr hm hp hs hy hn
    | 1, _ => exact taken1 who n y t gr gm s p e w hr hm hp hs hy hn
    | 2, _ =>
      by_cases hb : 1 ≤ n ∧ n ≤ 8
      · exact taken2 who n y t gr gm s p e w hr hm hp hs hy hn hb.1 hb.2
      · exact taken2b who n y t gr gm s p e w hr hm hp hs hy hn (by omega)
    | 3, _ => exact taken3 who n y t gr gm s p e w hr hm hp hs hy hn
    | 4, _ => exact taken4 who n y t gr gm s p e w hr hm hp hs hy hn
    | 5, _ => exact taken5 who n y t gr gm s p e w hr hm hp hs hy hn
    | 6, _ => exact taken6 who n y t gr gm s p e w hr hm hp hs hy hn
    | 7, _ => exact taken7 who n y t gr gm s p e w hr hm hp hs hy hn
    | 8, _ => exact taken8 who n y t gr gm s p e w hr hm hp hs hy hn
theorem tn_le (x : Item) (s : ByteArray) (p : Nat) (e : Int) (hp : p ≤ s.size) : (x.tn s p e).1 ≤ s.size := by
  have hF : (rF s p e).2.1 ≤ s.size := by
    have h := (rF_uni s p e).1
    have h8 := tk_le s p e 8 hp (fun _ => by omega)
    rw [h]
    split
    · exact hp
    · exact h8
  have hT : (rT s p e x.n).2.1 ≤ s.size := by
    unfold rT
    split
    · exact hp
    · dsimp only
      have h1 := rU_le s p e x.n.toNat hp
      generalize rU s p e x.n.toNat = u at h1 ⊢
      have h2 := tk_le s u.2.1 u.2.2 u.1 h1 (fun _ => by omega)
      split
      · exact h2
      · exact hp
  have hR : (tk' s p e x.n).2.2.1 ≤ s.size := by
    unfold tk'
    split
    · exact hp
    · exact tk_le s p e x.n hp (fun _ => by omega)
  unfold Item.tn
  split
  · exact tk_le s p e 1 hp (fun _ => by omega)
  split
  · exact tk_le s p e 2 hp (fun _ => by omega)
  split
  · split
    · exact tk_le s p e x.n hp (fun _ => by omega)
    · exact hp
  split
  · exact rU_le s p e x.v hp
  split
  · exact rU_le s p e _ hp
  split
  · exact hF
  split
  · exact hT
  split
  · exact hR
  split
  · exact hp
  · exact hp
end Go.Proofs.Ytikfdfagnalmbaa.My
