/- An item is taken, and put again. -/
import Derived.Test.YtikfdfagnalmbaaWireBack
import Derived.Deep.RegionHeld3
namespace Go.Proofs.Ytikfdfagnalmbaa.My
open Go.RowKit Go.Proofs.YtikfdfagnalmbaaW.PrintWords Go.Proofs.YtikfdfagnalmbaaW.PrintLast Go.Proofs.YtikfdfagnalmbaaW.PrintMore Go.Proofs.Ytikfdfagnalmbaa
set_option linter.unusedSimpArgs false
set_option linter.unusedVariables false
set_option maxRecDepth 100000
set_option maxHeartbeats 1600000
theorem WS_alone1 {w w' : World} {base gw gr t : Nat} {cs : Array Value} {v : Value} {xs : List Int} (h : WS w base gw v xs) (hb : w.heap[gr]? = some (.cells cs t (0, 0))) (m : Alone1 w w' gr) (ht : t ≠ 85) (ht2 : t ≠ 5) : WS w' base gw v xs :=
  ⟨h.1, (m.2 gw (by rintro rfl; have h1 := h.2.1.symm.trans hb; simp at h1; exact ht h1.2.symm) (blk_lt h.2.1)).trans h.2.1, R_alone1 h.2.2 rfl hb m (Ne.symm ht2)⟩
theorem RS_moved {w w' : World} {base gw gr : Nat} {v v' : Value} {xs : List Int} {s : ByteArray} {p : Nat} {e : Int} (hr : RS w gr s p e) (h : WS w base gw v xs) (m : Moved w w' gw v v') : RS w' gr s p e := by
  refine (m.2.1 gr (blk_lt hr) ?_ (Kd.R_ne h.2.2 hr (by decide))).trans hr
  rintro rfl
  have h1 := h.2.1.symm.trans hr
  simp at h1
/-- What is taken is put again: the bytes that are put, the place, the error. -/
def Item.ag (x : Item) (s : ByteArray) (p : Nat) : List Int × Nat × Int :=
  if x.kind = 0 then ([((hiN (natsOf (tk s p 0 1).1) : Nat) % 256 : Int)], (tk s p 0 1).2.2) else
  if x.kind = 1 then ([(IntKind.u16.wrap (rSm (tk s p 0 2)) / 256 % 256), (rSm (tk s p 0 2) % 256)], (tk s p 0 2).2.2) else
  if x.kind = 2 then (if 1 ≤ x.n ∧ x.n ≤ 8 then (be x.n.toNat (hiN (natsOf (tk s p 0 x.n).1)), (tk s p 0 x.n).2.2) else ([], p, 1)) else
  if x.kind = 3 then (uv 10 (rU s p 0 x.v).1, (rU s p 0 x.v).2) else
  if x.kind = 4 then (uv 10 (zig (zag (rU s p 0 18446744073709551615).1)), (rU s p 0 18446744073709551615).2) else
  if x.kind = 5 then (be 8 (fbits (rF s p 0).1), (rF s p 0).2) else
  if x.kind = 6 then (uv 10 (rT s p 0 x.n).1.size ++ bytesOf (rT s p 0 x.n).1, (rT s p 0 x.n).2) else
  if x.kind = 7 then (if x.n < 0 then ([], p, 1) else (bytesOf (tk s p 0 x.n).1, (tk s p 0 x.n).2.2)) else ([], p, 0)
theorem moved_cell {w w' : World} {g : Nat} {v v' : Value} (m : Moved w w' g v v') (b j : Nat) (hlt : b < w.heap.size) (hne : b ≠ g) (hv : some b ≠ v.ownBlock) : w'.cell? ⟨b, j, none⟩ = w.cell? ⟨b, j, none⟩ := by
  have := m.2.1 b hlt hne hv
  simp only [World.cell?, this]
theorem hiN_size (t : ByteArray) (n : Nat) (h : t.size ≤ n) : hiN (natsOf t) < 256 ^ n := by
  have h1 := hiN_lt t t.size (Nat.le_refl _)
  rw [List.take_of_length_le (by rw [natsOf_len]; omega)] at h1
  exact Nat.lt_of_lt_of_le h1 (Nat.pow_le_pow_right (by omega : 0 < 256) h)
theorem rT_size (s : ByteArray) (p : Nat) (n : Int) (hp : p ≤ s.size) : (rT s p 0 n).1.size + p ≤ s.size := by
  unfold rT
  split
  · show 0 + p ≤ _; omega
  · dsimp only
    have h1 := rU_le s p 0 n.toNat hp
    have h2 : p ≤ (rU s p 0 n.toNat).2.1 := by unfold rU; rw [if_pos rfl]; exact Nat.le_add_right _ _
    generalize rU s p 0 n.toNat = u at *
    obtain ⟨m, q, f⟩ := u
    dsimp only at h1 h2 ⊢
    unfold tk
    split
    · split
      · rw [if_pos rfl]; show (s.extract q (q + _)).size + p ≤ _; rw [ByteArray.size_extract]; omega
      · show 0 + p ≤ _; omega
    · show 0 + p ≤ _; omega
theorem tk_size2 (s : ByteArray) (p : Nat) (n : Int) (hp : p ≤ s.size) : (tk s p 0 n).1.size + p ≤ s.size := by
  unfold tk
  rw [if_pos rfl]
  split
  · show (s.extract p (p + _)).size + p ≤ _; rw [ByteArray.size_extract]; omega
  · show 0 + p ≤ _; omega
theorem zag_bd (n : Nat) (h : n ≤ 18446744073709551615) : -9223372036854775808 ≤ zag n ∧ zag n ≤ 9223372036854775807 := by
  unfold zag; split <;> omega
theorem rF_lt (s : ByteArray) (p : Nat) : (rF s p 0).1 < 18446744073709551616 := by
  have hx := tk_size s p 0 8
  unfold rF
  dsimp only
  generalize tk s p 0 8 = t at hx ⊢
  obtain ⟨t, b, q, f⟩ := t
  have hx2 : (t.size : Int) ≤ max 8 0 := hx
  have := hiN_size t 8 (by omega)
  have e : (256 : Nat) ^ 8 = 18446744073709551616 := by decide
  dsimp only
  split
  · split
    · show 0 < _; omega
    · show hiN (natsOf t) < _; omega
  · show 0 < _; omega
theorem ag0 (who n : Int) (x : Nat) (t : ByteArray) (s : ByteArray) (p : Nat) : (Item.mk who 0 n x t).ag s p = ([((hiN (natsOf (tk s p 0 1).1) : Nat) % 256 : Int)], (tk s p 0 1).2.2) := by
  unfold Item.ag
  rw [if_pos rfl]
theorem ag1 (who n : Int) (x : Nat) (t : ByteArray) (s : ByteArray) (p : Nat) : (Item.mk who 1 n x t).ag s p = ([(IntKind.u16.wrap (rSm (tk s p 0 2)) / 256 % 256), (rSm (tk s p 0 2) % 256)], (tk s p 0 2).2.2) := by
  unfold Item.ag
  rw [if_neg (show ¬ (1 : Int) = 0 by decide), if_pos rfl]
theorem ag2 (who n : Int) (x : Nat) (t : ByteArray) (s : ByteArray) (p : Nat) : (Item.mk who 2 n x t).ag s p = (if 1 ≤ n ∧ n ≤ 8 then (be n.toNat (hiN (natsOf (tk s p 0 n).1)), (tk s p 0 n).2.2) else ([], p, 1)) := by
  unfold Item.ag
  rw [if_neg (show ¬ (2 : Int) = 0 by decide), if_neg (show ¬ (2 : Int) = 1 by decide), if_pos rfl]
theorem ag3 (who n : Int) (x : Nat) (t : ByteArray) (s : ByteArray) (p : Nat) : (Item.mk who 3 n x t).ag s p = (uv 10 (rU s p 0 x).1, (rU s p 0 x).2) := by
  unfold Item.ag
  rw [if_neg (show ¬ (3 : Int) = 0 by decide), if_neg (show ¬ (3 : Int) = 1 by decide), if_neg (show ¬ (3 : Int) = 2 by decide), if_pos rfl]
theorem ag4 (who n : Int) (x : Nat) (t : ByteArray) (s : ByteArray) (p : Nat) : (Item.mk who 4 n x t).ag s p = (uv 10 (zig (zag (rU s p 0 18446744073709551615).1)), (rU s p 0 18446744073709551615).2) := by
  unfold Item.ag
  rw [if_neg (show ¬ (4 : Int) = 0 by decide), if_neg (show ¬ (4 : Int) = 1 by decide), if_neg (show ¬ (4 : Int) = 2 by decide), if_neg (show ¬ (4 : Int) = 3 by decide), if_pos rfl]
theorem ag5 (who n : Int) (x : Nat) (t : ByteArray) (s : ByteArray) (p : Nat) : (Item.mk who 5 n x t).ag s p = (be 8 (fbits (rF s p 0).1), (rF s p 0).2) := by
  unfold Item.ag
  rw [if_neg (show ¬ (5 : Int) = 0 by decide), if_neg (show ¬ (5 : Int) = 1 by decide), if_neg (show ¬ (5 : Int) = 2 by decide), if_neg (show ¬ (5 : Int) = 3 by decide), if_neg (show ¬ (5 : Int) = 4 by decide), if_pos rfl]
theorem ag6 (who n : Int) (x : Nat) (t : ByteArray) (s : ByteArray) (p : Nat) : (Item.mk who 6 n x t).ag s p = (uv 10 (rT s p 0 n).1.size ++ bytesOf (rT s p 0 n).1, (rT s p 0 n).2) := by
  unfold Item.ag
  rw [if_neg (show ¬ (6 : Int) = 0 by decide), if_neg (show ¬ (6 : Int) = 1 by decide), if_neg (show ¬ (6 : Int) = 2 by decide), if_neg (show ¬ (6 : Int) = 3 by decide), if_neg (show ¬ (6 : Int) = 4 by decide), if_neg (show ¬ (6 : Int) = 5 by decide), if_pos rfl]
theorem ag7 (who n : Int) (x : Nat) (t : ByteArray) (s : ByteArray) (p : Nat) : (Item.mk who 7 n x t).ag s p = (if n < 0 then ([], p, 1) else (bytesOf (tk s p 0 n).1, (tk s p 0 n).2.2)) := by
  unfold Item.ag
  rw [if_neg (show ¬ (7 : Int) = 0 by decide), if_neg (show ¬ (7 : Int) = 1 by decide), if_neg (show ¬ (7 : Int) = 2 by decide), if_neg (show ¬ (7 : Int) = 3 by decide), if_neg (show ¬ (7 : Int) = 4 by decide), if_neg (show ¬ (7 : Int) = 5 by decide), if_neg (show ¬ (7 : Int) = 6 by decide), if_pos rfl]
theorem again0 (who n : Int) (x : Nat) (t : ByteArray) (gr gw : Nat) (v : Value) (xs : List Int) (s : ByteArray) (p : Nat) (w0 w : World) (HB0 : Below w0.heap.size w0 w) (hw : WS w w0.heap.size gw v xs) (hr : RS w gr s p 0) (hgr : w0.heap.size ≤ gr) (hp : p ≤ s.size) (hs : s.size ≤ 140737488351232) (hl : xs.length ≤ p) (hx : x < 18446744073709551616) (hn : n < 9223372036854775808) :
    Calls Try.prog 43 #[.pointer (some ⟨gr, 0, none⟩), .pointer (some ⟨gw, 0, none⟩), (Item.mk who 0 n x t).val] w fun r w' => r = .returned (.tuple #[]) ∧ ∃ v', WS w' w0.heap.size gw v' (xs ++ ((Item.mk who 0 n x t).ag s p).1) ∧ RS w' gr s ((Item.mk who 0 n x t).ag s p).2.1 ((Item.mk who 0 n x t).ag s p).2.2 ∧ Below w0.heap.size w0 w' := by
  rw [ag0]
  unfold Item.val
  dsimp only
  have HC := Aside0.mk (fun (W : World) (h : RS W gr s p 0) => RByte_any h hp hs)
  have hg0 := blk_lt hr
  generalize tk s p 0 1 = z at HC ⊢
  obtain ⟨z, b, q, f⟩ := z
  dsimp only at HC ⊢
  go_enter Try.func43, Try.ntmps43
  go_wp2_with fail
  refine (HC.out _ (RS_alloc hr _)).mono ?_
  rintro e_ w1 ⟨rfl, h1, h2⟩
  have hs1 := WS_alone1 (hw.alloc _) (RS_alloc hr _) h2 (by decide) (by decide)
  have hb1 := below_alone1 (HB0.alloc (below_size HB0) _) h2 hgr (below_size (HB0.alloc (below_size HB0) _))
  go_wp2_with fail
  refine (Byte_calls gw v xs _ w0 w1 hb1 hs1 (by omega)).mono ?_
  rintro e_ w2 ⟨rfl, v2, hs2, hb2, hm2⟩
  go_wp2_with fail
  go_end0
  exact ⟨rfl, v2, hs2, RS_moved h1 hs1 hm2, hb2⟩
theorem again1 (who n : Int) (x : Nat) (t : ByteArray) (gr gw : Nat) (v : Value) (xs : List Int) (s : ByteArray) (p : Nat) (w0 w : World) (HB0 : Below w0.heap.size w0 w) (hw : WS w w0.heap.size gw v xs) (hr : RS w gr s p 0) (hgr : w0.heap.size ≤ gr) (hp : p ≤ s.size) (hs : s.size ≤ 140737488351232) (hl : xs.length ≤ p) (hx : x < 18446744073709551616) (hn : n < 9223372036854775808) :
    Calls Try.prog 43 #[.pointer (some ⟨gr, 0, none⟩), .pointer (some ⟨gw, 0, none⟩), (Item.mk who 1 n x t).val] w fun r w' => r = .returned (.tuple #[]) ∧ ∃ v', WS w' w0.heap.size gw v' (xs ++ ((Item.mk who 1 n x t).ag s p).1) ∧ RS w' gr s ((Item.mk who 1 n x t).ag s p).2.1 ((Item.mk who 1 n x t).ag s p).2.2 ∧ Below w0.heap.size w0 w' := by
  rw [ag1]
  unfold Item.val
  dsimp only
  have HC := Aside0.mk (fun (W : World) (h : RS W gr s p 0) => RSmall_any h hp hs)
  have hg0 := blk_lt hr
  generalize rSm (tk s p 0 2) = y at HC ⊢
  generalize tk s p 0 2 = z at HC ⊢
  obtain ⟨z, b, q, f⟩ := z
  dsimp only at HC ⊢
  go_enter Try.func43, Try.ntmps43
  go_wp2_with fail
  refine (HC.out _ (RS_alloc hr _)).mono ?_
  rintro e_ w1 ⟨rfl, h1, h2⟩
  have hs1 := WS_alone1 (hw.alloc _) (RS_alloc hr _) h2 (by decide) (by decide)
  have hb1 := below_alone1 (HB0.alloc (below_size HB0) _) h2 hgr (below_size (HB0.alloc (below_size HB0) _))
  go_wp2_with fail
  refine (Small_m gw v xs y w0 w1 hb1 hs1 (by omega)).mono ?_
  rintro e_ w2 ⟨rfl, v2, hs2, hb2, hm2⟩
  go_wp2_with fail
  go_end0
  exact ⟨rfl, v2, hs2, RS_moved h1 hs1 hm2, hb2⟩
theorem again2 (who n : Int) (x : Nat) (t : ByteArray) (gr gw : Nat) (v : Value) (xs : List Int) (s : ByteArray) (p : Nat) (w0 w : World) (HB0 : Below w0.heap.size w0 w) (hw : WS w w0.heap.size gw v xs) (hr : RS w gr s p 0) (hgr : w0.heap.size ≤ gr) (hp : p ≤ s.size) (hs : s.size ≤ 140737488351232) (hl : xs.length ≤ p) (hx : x < 18446744073709551616) (hn : n < 9223372036854775808) (hg : 1 ≤ n ∧ n ≤ 8) :
    Calls Try.prog 43 #[.pointer (some ⟨gr, 0, none⟩), .pointer (some ⟨gw, 0, none⟩), (Item.mk who 2 n x t).val] w fun r w' => r = .returned (.tuple #[]) ∧ ∃ v', WS w' w0.heap.size gw v' (xs ++ ((Item.mk who 2 n x t).ag s p).1) ∧ RS w' gr s ((Item.mk who 2 n x t).ag s p).2.1 ((Item.mk who 2 n x t).ag s p).2.2 ∧ Below w0.heap.size w0 w' := by
  rw [ag2, if_pos hg]
  unfold Item.val
  dsimp only
  have HC := Aside0.mk (fun (W : World) (h : RS W gr s p 0) => RFixed_any h hp hs n hg.1 hg.2)
  have hg0 := blk_lt hr
  have hgw : w.heap.size ≠ gw := Nat.ne_of_gt (blk_lt hw.2.1)
  have hgv : some w.heap.size ≠ v.ownBlock := fun h => Nat.lt_irrefl _ (Kd.R_lt hw.2.2 _ h.symm)
  have hfx := hiN_size (tk s p 0 n).1 n.toNat (by have := tk_size s p 0 n; omega)
  obtain ⟨m, rfl⟩ := Int.eq_ofNat_of_zero_le (show 0 ≤ n by omega)
  rw [Int.toNat_natCast] at hfx ⊢
  generalize tk s p 0 m = z at HC hfx ⊢
  obtain ⟨z, b, q, f⟩ := z
  dsimp only at HC hfx ⊢
  go_enter Try.func43, Try.ntmps43
  go_wp2_with fail
  go_region_held3 (fun W' : World => W'.cell? ⟨w.heap.size, 2, none⟩ = some (.int .i64 (m : Int))) (go_keep) (first | (go_at_call 36; refine (HC.out _ ?_).mono ?_; (exact blk_drew (RS_alloc hr _)); rintro e_ w1 ⟨rfl, h1, h2⟩; have hk2 : w1.cell? ⟨w.heap.size, 2, none⟩ = some (.int .i64 (m : Int)) := (a1_cell h2 w.heap.size 2 (Nat.ne_of_gt hg0) (by simp)).trans ((blk_cell (W_push w _ _ _) 2).trans rfl); have hlt1 : w.heap.size < w1.heap.size := Nat.lt_of_lt_of_le (by show w.heap.size < (w.heap.push _).size; simp) h2.1.size; have h3 := (Alone1_drewN _ 1 gr).trans h2; have hs1 := WS_alone1 (hw.alloc _) (RS_alloc hr _) h3 (by decide) (by decide); have hb1 := below_alone1 (HB0.alloc (below_size HB0) _) h3 hgr (below_size (HB0.alloc (below_size HB0) _))) | (go_at_call 32; refine (Fixed_calls gw v xs m _ w0 w1 hb1 hs1 (by omega) (by omega) (by omega) hfx).mono ?_; rintro e_ w2 ⟨rfl, v2, hs2, hb2, hm2⟩; have hk3 : w2.cell? ⟨w.heap.size, 2, none⟩ = some (.int .i64 (m : Int)) := (moved_cell hm2 w.heap.size 2 hlt1 hgw hgv).trans hk2))
  go_wp2_with fail
  go_end0
  exact ⟨rfl, v2, hs2, RS_moved h1 hs1 hm2, hb2⟩
theorem again2b (who n : Int) (x : Nat) (t : ByteArray) (gr gw : Nat) (v : Value) (xs : List Int) (s : ByteArray) (p : Nat) (w0 w : World) (HB0 : Below w0.heap.size w0 w) (hw : WS w w0.heap.size gw v xs) (hr : RS w gr s p 0) (hgr : w0.heap.size ≤ gr) (hp : p ≤ s.size) (hs : s.size ≤ 140737488351232) (hl : xs.length ≤ p) (hx : x < 18446744073709551616) (hn : n < 9223372036854775808) (hg : ¬ (1 ≤ n ∧ n ≤ 8)) :
    Calls Try.prog 43 #[.pointer (some ⟨gr, 0, none⟩), .pointer (some ⟨gw, 0, none⟩), (Item.mk who 2 n x t).val] w fun r w' => r = .returned (.tuple #[]) ∧ ∃ v', WS w' w0.heap.size gw v' (xs ++ ((Item.mk who 2 n x t).ag s p).1) ∧ RS w' gr s ((Item.mk who 2 n x t).ag s p).2.1 ((Item.mk who 2 n x t).ag s p).2.2 ∧ Below w0.heap.size w0 w' := by
  rw [ag2, if_neg hg, List.append_nil]
  unfold Item.val
  dsimp only
  have HC := Aside0.mk (fun (W : World) (h : RS W gr s p 0) => RFixed_bad h hp hs n (by omega))
  have hg0 := blk_lt hr
  have hgw : w.heap.size ≠ gw := Nat.ne_of_gt (blk_lt hw.2.1)
  have hgv : some w.heap.size ≠ v.ownBlock := fun h => Nat.lt_irrefl _ (Kd.R_lt hw.2.2 _ h.symm)
  go_enter Try.func43, Try.ntmps43
  go_wp2_with fail
  go_region_held3 (fun W' : World => W'.cell? ⟨w.heap.size, 2, none⟩ = some (.int .i64 n)) (go_keep) (first | (go_at_call 36; refine (HC.out _ ?_).mono ?_; (exact blk_drew (RS_alloc hr _)); rintro e_ w1 ⟨rfl, h1, h2⟩; have hk2 : w1.cell? ⟨w.heap.size, 2, none⟩ = some (.int .i64 n) := (a1_cell h2 w.heap.size 2 (Nat.ne_of_gt hg0) (by simp)).trans ((blk_cell (W_push w _ _ _) 2).trans rfl); have hlt1 : w.heap.size < w1.heap.size := Nat.lt_of_lt_of_le (by show w.heap.size < (w.heap.push _).size; simp) h2.1.size; have h3 := (Alone1_drewN _ 1 gr).trans h2; have hs1 := WS_alone1 (hw.alloc _) (RS_alloc hr _) h3 (by decide) (by decide); have hb1 := below_alone1 (HB0.alloc (below_size HB0) _) h3 hgr (below_size (HB0.alloc (below_size HB0) _))) | (go_at_call 32; refine (Fixed_bad ⟨gw, 0, none⟩ 0 n w1 (by omega)).mono ?_; rintro e_ w2 ⟨rfl, rfl⟩))
  go_wp2_with fail
  go_end0
  exact ⟨rfl, v, hs1, h1, hb1⟩
theorem again3 (who n : Int) (x : Nat) (t : ByteArray) (gr gw : Nat) (v : Value) (xs : List Int) (s : ByteArray) (p : Nat) (w0 w : World) (HB0 : Below w0.heap.size w0 w) (hw : WS w w0.heap.size gw v xs) (hr : RS w gr s p 0) (hgr : w0.heap.size ≤ gr) (hp : p ≤ s.size) (hs : s.size ≤ 140737488351232) (hl : xs.length ≤ p) (hx : x < 18446744073709551616) (hn : n < 9223372036854775808) :
    Calls Try.prog 43 #[.pointer (some ⟨gr, 0, none⟩), .pointer (some ⟨gw, 0, none⟩), (Item.mk who 3 n x t).val] w fun r w' => r = .returned (.tuple #[]) ∧ ∃ v', WS w' w0.heap.size gw v' (xs ++ ((Item.mk who 3 n x t).ag s p).1) ∧ RS w' gr s ((Item.mk who 3 n x t).ag s p).2.1 ((Item.mk who 3 n x t).ag s p).2.2 ∧ Below w0.heap.size w0 w' := by
  rw [ag3]
  unfold Item.val
  dsimp only
  have HC := Aside0.mk (fun (W : World) (h : RS W gr s p 0) => RUint_any h hp hs x hx)
  have hg0 := blk_lt hr
  have hm := rU_most s p 0 x
  generalize rU s p 0 x = z at HC hm ⊢
  obtain ⟨z, q, f⟩ := z
  dsimp only at HC hm ⊢
  go_enter Try.func43, Try.ntmps43
  go_wp2_with fail
  refine (HC.out _ (RS_alloc hr _)).mono ?_
  rintro e_ w1 ⟨rfl, h1, h2⟩
  have hs1 := WS_alone1 (hw.alloc _) (RS_alloc hr _) h2 (by decide) (by decide)
  have hb1 := below_alone1 (HB0.alloc (below_size HB0) _) h2 hgr (below_size (HB0.alloc (below_size HB0) _))
  go_wp2_with fail
  refine (Uint_calls gw v xs z w0 w1 hb1 hs1 (by omega) (by omega)).mono ?_
  rintro e_ w2 ⟨rfl, v2, hs2, hb2, hm2⟩
  go_wp2_with fail
  go_end0
  exact ⟨rfl, v2, hs2, RS_moved h1 hs1 hm2, hb2⟩
theorem again4 (who n : Int) (x : Nat) (t : ByteArray) (gr gw : Nat) (v : Value) (xs : List Int) (s : ByteArray) (p : Nat) (w0 w : World) (HB0 : Below w0.heap.size w0 w) (hw : WS w w0.heap.size gw v xs) (hr : RS w gr s p 0) (hgr : w0.heap.size ≤ gr) (hp : p ≤ s.size) (hs : s.size ≤ 140737488351232) (hl : xs.length ≤ p) (hx : x < 18446744073709551616) (hn : n < 9223372036854775808) :
    Calls Try.prog 43 #[.pointer (some ⟨gr, 0, none⟩), .pointer (some ⟨gw, 0, none⟩), (Item.mk who 4 n x t).val] w fun r w' => r = .returned (.tuple #[]) ∧ ∃ v', WS w' w0.heap.size gw v' (xs ++ ((Item.mk who 4 n x t).ag s p).1) ∧ RS w' gr s ((Item.mk who 4 n x t).ag s p).2.1 ((Item.mk who 4 n x t).ag s p).2.2 ∧ Below w0.heap.size w0 w' := by
  rw [ag4]
  unfold Item.val
  dsimp only
  have HC := Aside0.mk (fun (W : World) (h : RS W gr s p 0) => RInt_any h hp hs)
  have hg0 := blk_lt hr
  have hm := zag_bd _ (rU_most s p 0 18446744073709551615)
  generalize rU s p 0 18446744073709551615 = z at HC hm ⊢
  obtain ⟨z, q, f⟩ := z
  dsimp only at HC hm ⊢
  go_enter Try.func43, Try.ntmps43
  go_wp2_with fail
  refine (HC.out _ (RS_alloc hr _)).mono ?_
  rintro e_ w1 ⟨rfl, h1, h2⟩
  have hs1 := WS_alone1 (hw.alloc _) (RS_alloc hr _) h2 (by decide) (by decide)
  have hb1 := below_alone1 (HB0.alloc (below_size HB0) _) h2 hgr (below_size (HB0.alloc (below_size HB0) _))
  go_wp2_with fail
  refine (Int_m gw v xs (zag z) w0 w1 hb1 hs1 (by omega) hm.1 hm.2).mono ?_
  rintro e_ w2 ⟨rfl, v2, hs2, hb2, hm2⟩
  go_wp2_with fail
  go_end0
  exact ⟨rfl, v2, hs2, RS_moved h1 hs1 hm2, hb2⟩
theorem again5 (who n : Int) (x : Nat) (t : ByteArray) (gr gw : Nat) (v : Value) (xs : List Int) (s : ByteArray) (p : Nat) (w0 w : World) (HB0 : Below w0.heap.size w0 w) (hw : WS w w0.heap.size gw v xs) (hr : RS w gr s p 0) (hgr : w0.heap.size ≤ gr) (hp : p ≤ s.size) (hs : s.size ≤ 140737488351232) (hl : xs.length ≤ p) (hx : x < 18446744073709551616) (hn : n < 9223372036854775808) :
    Calls Try.prog 43 #[.pointer (some ⟨gr, 0, none⟩), .pointer (some ⟨gw, 0, none⟩), (Item.mk who 5 n x t).val] w fun r w' => r = .returned (.tuple #[]) ∧ ∃ v', WS w' w0.heap.size gw v' (xs ++ ((Item.mk who 5 n x t).ag s p).1) ∧ RS w' gr s ((Item.mk who 5 n x t).ag s p).2.1 ((Item.mk who 5 n x t).ag s p).2.2 ∧ Below w0.heap.size w0 w' := by
  rw [ag5]
  unfold Item.val
  dsimp only
  have HC := Aside0.mk (fun (W : World) (h : RS W gr s p 0) => RFloat_any h hp hs)
  have hg0 := blk_lt hr
  have hm := rF_lt s p
  generalize rF s p 0 = z at HC hm ⊢
  obtain ⟨z, q, f⟩ := z
  dsimp only at HC hm ⊢
  go_enter Try.func43, Try.ntmps43
  go_wp2_with fail
  refine (HC.out _ (RS_alloc hr _)).mono ?_
  rintro e_ w1 ⟨rfl, h1, h2⟩
  have hs1 := WS_alone1 (hw.alloc _) (RS_alloc hr _) h2 (by decide) (by decide)
  have hb1 := below_alone1 (HB0.alloc (below_size HB0) _) h2 hgr (below_size (HB0.alloc (below_size HB0) _))
  go_wp2_with fail
  refine (Float_m gw v xs z w0 w1 hb1 hs1 (by omega) hm).mono ?_
  rintro e_ w2 ⟨rfl, v2, hs2, hb2, hm2⟩
  go_wp2_with fail
  go_end0
  exact ⟨rfl, v2, hs2, RS_moved h1 hs1 hm2, hb2⟩
theorem again6 (who n : Int) (x : Nat) (t : ByteArray) (gr gw : Nat) (v : Value) (xs : List Int) (s : ByteArray) (p : Nat) (w0 w : World) (HB0 : Below w0.heap.size w0 w) (hw : WS w w0.heap.size gw v xs) (hr : RS w gr s p 0) (hgr : w0.heap.size ≤ gr) (hp : p ≤ s.size) (hs : s.size ≤ 140737488351232) (hl : xs.length ≤ p) (hx : x < 18446744073709551616) (hn : n < 9223372036854775808) :
    Calls Try.prog 43 #[.pointer (some ⟨gr, 0, none⟩), .pointer (some ⟨gw, 0, none⟩), (Item.mk who 6 n x t).val] w fun r w' => r = .returned (.tuple #[]) ∧ ∃ v', WS w' w0.heap.size gw v' (xs ++ ((Item.mk who 6 n x t).ag s p).1) ∧ RS w' gr s ((Item.mk who 6 n x t).ag s p).2.1 ((Item.mk who 6 n x t).ag s p).2.2 ∧ Below w0.heap.size w0 w' := by
  rw [ag6]
  unfold Item.val
  dsimp only
  have HC := Aside0.mk (fun (W : World) (h : RS W gr s p 0) => RText_any h hp hs n hn)
  have hg0 := blk_lt hr
  have hm := rT_size s p n hp
  generalize rT s p 0 n = z at HC hm ⊢
  obtain ⟨z, q, f⟩ := z
  dsimp only at HC hm ⊢
  go_enter Try.func43, Try.ntmps43
  go_wp2_with fail
  refine (HC.out _ (RS_alloc hr _)).mono ?_
  rintro e_ w1 ⟨rfl, h1, h2⟩
  have hs1 := WS_alone1 (hw.alloc _) (RS_alloc hr _) h2 (by decide) (by decide)
  have hb1 := below_alone1 (HB0.alloc (below_size HB0) _) h2 hgr (below_size (HB0.alloc (below_size HB0) _))
  go_wp2_with fail
  refine (Text_m gw v xs z w0 w1 hb1 hs1 (by omega)).mono ?_
  rintro e_ w2 ⟨rfl, v2, hs2, hb2, hm2⟩
  go_wp2_with fail
  go_end0
  rw [List.append_assoc] at hs2
  exact ⟨rfl, v2, hs2, RS_moved h1 hs1 hm2, hb2⟩
theorem again7 (who n : Int) (x : Nat) (t : ByteArray) (gr gw : Nat) (v : Value) (xs : List Int) (s : ByteArray) (p : Nat) (w0 w : World) (HB0 : Below w0.heap.size w0 w) (hw : WS w w0.heap.size gw v xs) (hr : RS w gr s p 0) (hgr : w0.heap.size ≤ gr) (hp : p ≤ s.size) (hs : s.size ≤ 140737488351232) (hl : xs.length ≤ p) (hx : x < 18446744073709551616) (hn : n < 9223372036854775808) (hg : ¬ n < 0) :
    Calls Try.prog 43 #[.pointer (some ⟨gr, 0, none⟩), .pointer (some ⟨gw, 0, none⟩), (Item.mk who 7 n x t).val] w fun r w' => r = .returned (.tuple #[]) ∧ ∃ v', WS w' w0.heap.size gw v' (xs ++ ((Item.mk who 7 n x t).ag s p).1) ∧ RS w' gr s ((Item.mk who 7 n x t).ag s p).2.1 ((Item.mk who 7 n x t).ag s p).2.2 ∧ Below w0.heap.size w0 w' := by
  rw [ag7, if_neg hg]
  unfold Item.val
  dsimp only
  have HC := Aside0.mk (fun (W : World) (h : RS W gr s p 0) => RRaw_any h hp hs n (by omega))
  have hg0 := blk_lt hr
  have hm := tk_size2 s p n hp
  generalize tk s p 0 n = z at HC hm ⊢
  obtain ⟨z, b, q, f⟩ := z
  dsimp only at HC hm ⊢
  go_enter Try.func43, Try.ntmps43
  go_wp2_with fail
  refine (HC.out _ (RS_alloc hr _)).mono ?_
  rintro e_ w1 ⟨rfl, h1, h2⟩
  have hs1 := WS_alone1 (hw.alloc _) (RS_alloc hr _) h2 (by decide) (by decide)
  have hb1 := below_alone1 (HB0.alloc (below_size HB0) _) h2 hgr (below_size (HB0.alloc (below_size HB0) _))
  go_wp2_with fail
  refine (Raw_m gw v xs z w0 w1 hb1 hs1 (by omega)).mono ?_
  rintro e_ w2 ⟨rfl, v2, hs2, hb2, hm2⟩
  go_wp2_with fail
  go_end0
  exact ⟨rfl, v2, hs2, RS_moved h1 hs1 hm2, hb2⟩
theorem again7b (who n : Int) (x : Nat) (t : ByteArray) (gr gw : Nat) (v : Value) (xs : List Int) (s : ByteArray) (p : Nat) (w0 w : World) (HB0 : Below w0.heap.size w0 w) (hw : WS w w0.heap.size gw v xs) (hr : RS w gr s p 0) (hgr : w0.heap.size ≤ gr) (hp : p ≤ s.size) (hs : s.size ≤ 140737488351232) (hl : xs.length ≤ p) (hx : x < 18446744073709551616) (hn : n < 9223372036854775808) (hg : n < 0) :
    Calls Try.prog 43 #[.pointer (some ⟨gr, 0, none⟩), .pointer (some ⟨gw, 0, none⟩), (Item.mk who 7 n x t).val] w fun r w' => r = .returned (.tuple #[]) ∧ ∃ v', WS w' w0.heap.size gw v' (xs ++ ((Item.mk who 7 n x t).ag s p).1) ∧ RS w' gr s ((Item.mk who 7 n x t).ag s p).2.1 ((Item.mk who 7 n x t).ag s p).2.2 ∧ Below w0.heap.size w0 w' := by
  rw [ag7, if_pos hg]
  unfold Item.val
  dsimp only
  have HC := Aside0.mk (fun (W : World) (h : RS W gr s p 0) => RRaw_neg h hp hs n hg)
  have hg0 := blk_lt hr
  go_enter Try.func43, Try.ntmps43
  go_wp2_with fail
  refine (HC.out _ (RS_alloc hr _)).mono ?_
  rintro e_ w1 ⟨rfl, h1, h2⟩
  have hs1 := WS_alone1 (hw.alloc _) (RS_alloc hr _) h2 (by decide) (by decide)
  have hb1 := below_alone1 (HB0.alloc (below_size HB0) _) h2 hgr (below_size (HB0.alloc (below_size HB0) _))
  go_wp2_with fail
  refine (Raw_m gw v xs ⟨#[]⟩ w0 w1 hb1 hs1 (by show xs.length + 0 ≤ _; omega)).mono ?_
  rintro e_ w2 ⟨rfl, v2, hs2, hb2, hm2⟩
  go_wp2_with fail
  go_end0
  exact ⟨rfl, v2, hs2, RS_moved h1 hs1 hm2, hb2⟩
theorem ag9 (who kind n : Int) (x : Nat) (t : ByteArray) (s : ByteArray) (p : Nat) (hk : kind < 0 ∨ 7 < kind) : (Item.mk who kind n x t).ag s p = ([], p, 0) := by
  unfold Item.ag
  dsimp only
  rw [if_neg (show ¬ kind = 0 by omega), if_neg (show ¬ kind = 1 by omega), if_neg (show ¬ kind = 2 by omega), if_neg (show ¬ kind = 3 by omega), if_neg (show ¬ kind = 4 by omega), if_neg (show ¬ kind = 5 by omega), if_neg (show ¬ kind = 6 by omega), if_neg (show ¬ kind = 7 by omega)]
theorem again9 (who kind n : Int) (x : Nat) (t : ByteArray) (gr gw : Nat) (v : Value) (xs : List Int) (s : ByteArray) (p : Nat) (w0 w : World) (HB0 : Below w0.heap.size w0 w) (hw : WS w w0.heap.size gw v xs) (hr : RS w gr s p 0) (hk : kind < 0 ∨ 7 < kind) :
    Calls Try.prog 43 #[.pointer (some ⟨gr, 0, none⟩), .pointer (some ⟨gw, 0, none⟩), (Item.mk who kind n x t).val] w fun r w' => r = .returned (.tuple #[]) ∧ ∃ v', WS w' w0.heap.size gw v' (xs ++ ((Item.mk who kind n x t).ag s p).1) ∧ RS w' gr s ((Item.mk who kind n x t).ag s p).2.1 ((Item.mk who kind n x t).ag s p).2.2 ∧ Below w0.heap.size w0 w' := by
  rw [ag9 _ _ _ _ _ _ _ hk, List.append_nil]
  have k0 : (kind == 0) = false := by rw [beq_eq_false_iff_ne]; omega
  have k1 : (kind == 1) = false := by rw [beq_eq_false_iff_ne]; omega
  have k2 : (kind == 2) = false := by rw [beq_eq_false_iff_ne]; omega
  have k3 : (kind == 3) = false := by rw [beq_eq_false_iff_ne]; omega
  have k4 : (kind == 4) = false := by rw [beq_eq_false_iff_ne]; omega
  have k5 : (kind == 5) = false := by rw [beq_eq_false_iff_ne]; omega
  have k6 : (kind == 6) = false := by rw [beq_eq_false_iff_ne]; omega
  have k7 : (kind == 7) = false := by rw [beq_eq_false_iff_ne]; omega
  clear hk
  unfold Item.val
  dsimp only
  go_enter Try.func43, Try.ntmps43
  go_wp2_with fail
  go_end0
  exact ⟨rfl, v, hw.alloc _, RS_alloc hr _, HB0.alloc (below_size HB0) _⟩
/-- An item is taken, and put again. -/
theorem again_calls (x : Item) (hx : x.Ok) (gr gw : Nat) (v : Value) (xs : List Int) (s : ByteArray) (p : Nat) (w0 w : World) (HB0 : Below w0.heap.size w0 w) (hw : WS w w0.heap.size gw v xs) (hr : RS w gr s p 0) (hgr : w0.heap.size ≤ gr) (hp : p ≤ s.size) (hs : s.size ≤ 140737488351232) (hl : xs.length ≤ p) :
    Calls Try.prog 43 #[.pointer (some ⟨gr, 0, none⟩), .pointer (some ⟨gw, 0, none⟩), x.val] w fun r w' => r = .returned (.tuple #[]) ∧ ∃ v', WS w' w0.heap.size gw v' (xs ++ (x.ag s p).1) ∧ RS w' gr s (x.ag s p).2.1 (x.ag s p).2.2 ∧ Below w0.heap.size w0 w' := by
  obtain ⟨who, kind, n, y, t⟩ := x
  obtain ⟨hy, hn0, hn1, ht⟩ := hx
  dsimp only at hy hn0 hn1 ht
  have hn : n < 9223372036854775808 := by omega
  by_cases hk : kind < 0 ∨ 7 < kind
  · exact again9 who kind n y t gr gw v xs s p w0 w HB0 hw hr hk
  obtain ⟨k, rfl⟩ := Int.eq_ofNat_of_zero_le (show 0 ≤ kind by omega)
  have h8 : k < 8 := by omega
  clear hk
  match k, h8 with
  | 0, _ => exact again0 who n y t gr gw v xs s p w0 w HB0 hw hr hgr hp hs hl hy hn
  | 1, _ => exact again1 who n y t gr gw v xs s p w0 w HB0 hw hr hgr hp hs hl hy hn
  | 2, _ =>
    by_cases hg : 1 ≤ n ∧ n ≤ 8
    · exact again2 who n y t gr gw v xs s p w0 w HB0 hw hr hgr hp hs hl hy hn hg
    · exact again2b who n y t gr gw v xs s p w0 w HB0 hw hr hgr hp hs hl hy hn hg
  | 3, _ => exact again3 who n y t gr gw v xs s p w0 w HB0 hw hr hgr hp hs hl hy hn
  | 4, _ => exact again4 who n y t gr gw v xs s p w0 w HB0 hw hr hgr hp hs hl hy hn
  | 5, _ => exact again5 who n y t gr gw v xs s p w0 w HB0 hw hr hgr hp hs hl hy hn
  | 6, _ => exact again6 who n y t gr gw v xs s p w0 w HB0 hw hr hgr hp hs hl hy hn
  | 7, _ =>
    by_cases hg : n < 0
    · exact again7b who n y t gr gw v xs s p w0 w HB0 hw hr hgr hp hs hl hy hn hg
    · exact again7 who n y t gr gw v xs s p w0 w HB0 hw hr hgr hp hs hl hy hn hg
end Go.Proofs.Ytikfdfagnalmbaa.My
