/- WireWrites. -/
import Derived.Test.YtikfdfagnalmbaaForm
import Derived.Test.YtikfdfagnalmbaaWireBack
import Derived.Deep.RegionHeld3
namespace Go.Proofs.Ytikfdfagnalmbaa.My
open Go.RowKit Go.Proofs.YtikfdfagnalmbaaW.PrintWords Go.Proofs.YtikfdfagnalmbaaW.PrintLast Go.Proofs.YtikfdfagnalmbaaW.PrintMore Go.Proofs.Ytikfdfagnalmbaa
set_option linter.unusedSimpArgs false
set_option linter.unusedVariables false
set_option maxRecDepth 100000
set_option maxHeartbeats 1600000
theorem keep_block {w w' : World} {base g q t : Nat} {v v' : Value} {X : List Int} {C : Array Value} (hs : WS w base g v X) (m : Moved w w' g v v') (hb : w.heap[q]? = some (.cells C t (0, 0))) (ht : t ≠ 85) (ht2 : t ≠ 5) : w'.heap[q]? = some (.cells C t (0, 0)) := by
  refine (m.2.1 q (blk_lt hb) ?_ (Kd.R_ne hs.2.2 hb (Ne.symm ht2))).trans hb
  rintro rfl
  have h1 := hb.symm.trans hs.2.1
  simp at h1
  exact ht h1.2
theorem WS_far {w : World} {base g q t : Nat} {v : Value} {X : List Int} {C : Array Value} (hs : WS w base g v X) (hb : w.heap[q]? = some (.cells C t (0, 0))) (ht : t ≠ 85) (ht2 : t ≠ 5) (j : Nat) (u : Value) : WS (w.setCell ⟨q, j, none⟩ u) base g v X := by
  refine ⟨hs.1, blk_far hs.2.1 ?_ u, Kd.R_set hs.2.2 hb (fun q hq => ?_) j u⟩
  · rintro rfl
    have h1 := hb.symm.trans hs.2.1
    simp at h1
    exact ht h1.2
  · have : q = 5 := by simpa [Kd.int, Kd.scalar] using hq
    rw [this]; exact fun h => ht2 h.symm
/-- Two writers, where they lie, and what is wanted. -/
def WrJ (w wr : World) (g0 g1 gA gB : Nat) (v0 v1 : Value) (X0 X1 : List Int) (T0 T1 : ByteArray) : Prop :=
  WS wr w.heap.size g0 v0 X0 ∧ WS wr w.heap.size g1 v1 X1 ∧ g1 ≠ g0 ∧ (∀ k, v1.ownBlock = some k → v0.ownBlock ≠ some k) ∧ wr.heap[gA]? = some (.cells #[.pointer (some ⟨g0, 0, none⟩), .pointer (some ⟨g1, 0, none⟩)] 31 (0, 0)) ∧ wr.heap[gB]? = some (.cells #[.string T0, .string T1] 32 (0, 0)) ∧ Below w.heap.size w wr ∧ w.heap.size ≤ gB
theorem WS.below {w w' : World} {base g : Nat} {v : Value} {X : List Int} (hs : WS w base g v X) (hb : Below w.heap.size w w') : WS w' base g v X := ⟨hs.1, blk_below hs.2.1 hb, Kd.R_below hs.2.2 hb⟩
theorem WrJ.below {w wr w' : World} {g0 g1 gA gB : Nat} {v0 v1 : Value} {X0 X1 : List Int} {T0 T1 : ByteArray} (h : WrJ w wr g0 g1 gA gB v0 v1 X0 X1 T0 T1) (hb : Below wr.heap.size wr w') : WrJ w w' g0 g1 gA gB v0 v1 X0 X1 T0 T1 := by
  obtain ⟨a, b, c, d, e, f, k, l⟩ := h
  exact ⟨a.below hb, b.below hb, c, d, blk_below e hb, blk_below f hb, below_then k (below_size k) hb, l⟩
theorem WrJ.set0 {w wr : World} {g0 g1 gA gB : Nat} {v0 v1 : Value} {X0 X1 : List Int} {T0 T1 : ByteArray} (h : WrJ w wr g0 g1 gA gB v0 v1 X0 X1 T0 T1) (z : ByteArray) : WrJ w (wr.setCell ⟨gB, 0, none⟩ (.string z)) g0 g1 gA gB v0 v1 X0 X1 z T1 := by
  obtain ⟨a, b, c, d, e, f, k, l⟩ := h
  exact ⟨WS_far a f (by decide) (by decide) 0 _, WS_far b f (by decide) (by decide) 0 _, c, d, blk_far e (fun h => by
    have h : gA = gB := h
    subst h
    have h1 := e.symm.trans f
    simp at h1) _, blk_set f 0 (.string z), below_set k l, l⟩
theorem WrJ.moved0 {w wr w' : World} {g0 g1 gA gB : Nat} {v0 v1 v5 : Value} {X0 X1 X5 : List Int} {T0 T1 : ByteArray} (h : WrJ w wr g0 g1 gA gB v0 v1 X0 X1 T0 T1) (hs : WS w' w.heap.size g0 v5 X5) (m : Moved wr w' g0 v0 v5) (hb : Below w.heap.size w w') : WrJ w w' g0 g1 gA gB v5 v1 X5 X1 T0 T1 := by
  obtain ⟨a, b, c, d, e, f, k, l⟩ := h
  obtain ⟨o1, o2⟩ := WS_other a b m c d
  exact ⟨hs, o1, c, o2, keep_block a m e (by decide) (by decide), keep_block a m f (by decide) (by decide), hb, l⟩
theorem WrJ.set1 {w wr : World} {g0 g1 gA gB : Nat} {v0 v1 : Value} {X0 X1 : List Int} {T0 T1 : ByteArray} (h : WrJ w wr g0 g1 gA gB v0 v1 X0 X1 T0 T1) (z : ByteArray) : WrJ w (wr.setCell ⟨gB, 1, none⟩ (.string z)) g0 g1 gA gB v0 v1 X0 X1 T0 z := by
  obtain ⟨a, b, c, d, e, f, k, l⟩ := h
  exact ⟨WS_far a f (by decide) (by decide) 1 _, WS_far b f (by decide) (by decide) 1 _, c, d, blk_far e (fun h => by
    have h : gA = gB := h
    subst h
    have h1 := e.symm.trans f
    simp at h1) _, blk_set f 1 (.string z), below_set k l, l⟩
theorem WrJ.moved1 {w wr w' : World} {g0 g1 gA gB : Nat} {v0 v1 v5 : Value} {X0 X1 X5 : List Int} {T0 T1 : ByteArray} (h : WrJ w wr g0 g1 gA gB v0 v1 X0 X1 T0 T1) (hs : WS w' w.heap.size g1 v5 X5) (m : Moved wr w' g1 v1 v5) (hb : Below w.heap.size w w') : WrJ w w' g0 g1 gA gB v0 v5 X0 X5 T0 T1 := by
  obtain ⟨a, b, c, d, e, f, k, l⟩ := h
  obtain ⟨o1, o2⟩ := WS_other b a m (Ne.symm c) (fun k h1 h2 => d k h2 h1)
  exact ⟨o1, hs, c, fun k h1 h2 => o2 k h2 h1, keep_block b m e (by decide) (by decide), keep_block b m f (by decide) (by decide), hb, l⟩
/-- What each of two writers was handed. -/
def outs (q : Bool) (ys : List Item) : List Int := (ys.filter (fun x => (x.who != 0) == q)).flatMap Item.out
theorem outs_snoc (q : Bool) (ys : List Item) (x : Item) : outs q (ys ++ [x]) = if ((x.who != 0) == q) = true then outs q ys ++ x.out else outs q ys := by
  unfold outs
  rw [List.filter_append, List.filter_cons]
  split
  · rw [List.filter_nil, List.flatMap_append, List.flatMap_singleton]
  · rw [List.filter_nil, List.append_nil]
theorem outs_len (q : Bool) (ys : List Item) : (outs q ys).length ≤ 4 * (ys.map (fun x => 6 + x.s.size)).sum := Nat.le_trans (out_sum _) (Nat.mul_le_mul_left 4 (sum_filter _ _ _))
theorem bool_at {w : World} {a : Option Addr} {n : Nat} {bs : List Bool} (h : Kd.bool.C w a n bs) (k : Nat) (z : Bool) (hk : bs[k]? = some z) : ∃ b o, a = some ⟨b, o, none⟩ ∧ w.cell? ⟨b, o + k, none⟩ = some (.bool z) := by
  obtain ⟨hn, _, h2⟩ := h
  have hl := (List.getElem?_eq_some_iff.1 hk).1
  obtain ⟨ad, e, hc⟩ := h2 (by omega)
  obtain ⟨c0, _, hd2, hd3⟩ := hc 0 bs[0] (List.getElem?_eq_getElem (by omega))
  have hd4 : c0 = [.bool bs[0]] := hd2
  have h0 : w.cell? (ad.add (0 * 1 + 0)) = some (.bool bs[0]) := hd3 0 _ (by rw [hd4]; rfl)
  have hs := World.cell?_spot h0
  obtain ⟨b, o, sp⟩ := ad
  obtain rfl : sp = none := hs
  obtain ⟨c, _, hc2, hc3⟩ := hc k z hk
  have hc4 : c = [.bool z] := hc2
  subst hc4
  have g0 := hc3 0 _ rfl
  rw [add_lit', show k * Kd.bool.sz + 0 = k from Nat.mul_one k] at g0
  exact ⟨b, o, e, g0⟩
theorem WireWrites_walk (w : World) (a : Option Addr) (cap : Nat) (xs : List Item) (hcap : xs.length ≤ cap) (hC : kItem.C w a xs.length xs) (hok : ∀ x ∈ xs, x.Ok) (hsum : (xs.map (fun x => 6 + x.s.size)).sum ≤ 1048576) (a1 : Option Addr) (cap1 : Nat) (bs : List Bool) (hcap1 : bs.length ≤ cap1) (hC1 : Kd.bool.C w a1 bs.length bs) : Calls Try.prog 4 #[.slice a xs.length cap, .slice a1 bs.length cap1] w fun e w' => e = .returned (.bool true) ∧ Below w.heap.size w w' := by
  have hbl : bs.length ≤ 9223372036854775807 := hC1.2.1
  go_enter Try.func4, Try.ntmps4
  go_wp2_with fail
  refine (newWriterW _).mono ?_
  rintro e w1 ⟨rfl, hw1⟩
  have hs1 : WS w1 w.heap.size w.heap.size (.slice none 0 0) [] := by rw [hw1]; exact WS_new w _ (Nat.le_refl _)
  have hb1 : Below w.heap.size w w1 := by rw [hw1]; exact (Below.refl _ _).alloc (Nat.le_refl _) _
  clear hw1
  go_wp2_with fail
  refine (newWriterW _).mono ?_
  rintro e w2 ⟨rfl, hw2⟩
  have hs2 : WS w2 w.heap.size w.heap.size (.slice none 0 0) [] := by rw [hw2]; exact hs1.alloc _
  have hs3 : WS w2 w.heap.size w1.heap.size (.slice none 0 0) [] := by rw [hw2]; exact WS_new w1 _ (below_size hb1)
  have hb2 : Below w.heap.size w w2 := by rw [hw2]; exact hb1.alloc (below_size hb1) _
  have hgg : w1.heap.size ≠ w.heap.size := Nat.ne_of_gt (blk_lt hs1.2.1)
  have hsz2 : w1.heap.size + 1 = w2.heap.size := by rw [hw2]; show _ = (w1.heap.push _).size; simp
  clear hw2 hs1 hb1
  go_wp2_with fail
  have HI : Aside0 (WrJ w ((w2.alloc (.cells #[.pointer (some ⟨w.heap.size, 0, none⟩), .pointer (some ⟨w1.heap.size, 0, none⟩)] 31)).alloc (.cells #[.string ⟨#[]⟩, .string ⟨#[]⟩] 32)) w.heap.size w1.heap.size w2.heap.size (w2.heap.size + 1) (.slice none 0 0) (.slice none 0 0) [] [] ⟨#[]⟩ ⟨#[]⟩) := by
    refine ⟨⟨(hs2.alloc _).alloc _, (hs3.alloc _).alloc _, hgg, none_apart rfl, blk_alloc (W_push _ _ _ _) _, ?_, (hb2.alloc (below_size hb2) _).alloc (below_size (hb2.alloc (below_size hb2) _)) _, Nat.le_succ_of_le (below_size hb2)⟩⟩
    have := W_push (w2.alloc (.cells #[.pointer (some ⟨w.heap.size, 0, none⟩), .pointer (some ⟨w1.heap.size, 0, none⟩)] 31)) #[.string ⟨#[]⟩, .string ⟨#[]⟩] 32 (0, 0)
    rw [show (w2.alloc (.cells #[.pointer (some ⟨w.heap.size, 0, none⟩), .pointer (some ⟨w1.heap.size, 0, none⟩)] 31)).heap.size = w2.heap.size + 1 by show (w2.heap.push _).size = _; simp] at this
    exact this
  have HC := Aside0.mk hC
  have HC1 := Aside0.mk hC1
  have HO := Aside0.mk hok
  have HS := Aside0.mk hsum
  have hxl : xs.length ≤ 1048576 := Nat.le_trans (sum_len xs) hsum
  clear hs2 hs3 hb2 hC hC1 hok hsum hsz2
  generalize hW0 : (w2.alloc (.cells #[.pointer (some ⟨w.heap.size, 0, none⟩), .pointer (some ⟨w1.heap.size, 0, none⟩)] 31)).alloc (.cells #[.string ⟨#[]⟩, .string ⟨#[]⟩] 32) = W0 at HI ⊢
  clear hW0
  generalize w2.heap.size + 1 = gB at HI ⊢
  generalize w2.heap.size = gA at HI ⊢
  generalize w1.heap.size = g1 at HI hgg ⊢
  generalize hg0 : w.heap.size = g0 at HI hgg ⊢
  have HG0 := Aside0.mk hg0
  clear hg0
  go_loopw [7] (fun i wr => ∃ (k : Nat) (v0 v1 : Value), k ≤ xs.length ∧ i = .int .i64 k ∧ Aside0 (WrJ w wr g0 g1 gA gB v0 v1 (outs false (xs.take k)) (outs true (xs.take k)) (strOfNums (outs false (xs.take k))) (strOfNums (outs true (xs.take k))))) (fun i _ => xs.length - (intOf i).toNat)
  case atStart => exact ⟨0, .slice none 0 0, .slice none 0 0, Nat.zero_le _, rfl, HI⟩
  case round =>
    clear HI
    obtain ⟨k, v0, v1, hk, rfl, HI⟩ := hrel
    by_cases hlt : k < xs.length
    · have hxk : xs[k]? = some xs[k] := List.getElem?_eq_getElem hlt
      have hx : xs[k].Ok := HO.out _ (List.getElem_mem hlt)
      have hxs : xs[k].s.size ≤ 1048576 := by have h1 := sum_mem (fun x => 6 + x.s.size) (List.getElem_mem hlt); have h2 := HS.out; omega
      have hts : xs.take (k + 1) = xs.take k ++ [xs[k]] := List.take_succ_eq_append_getElem hlt
      have hz0 : (outs false (xs.take k)).length ≤ 4194304 := by have h1 := outs_len false (xs.take k); have h2 := sum_take (fun x => 6 + x.s.size) k xs; have h3 := HS.out; omega
      have hz1 : (outs true (xs.take k)).length ≤ 4194304 := by have h1 := outs_len true (xs.take k); have h2 := sum_take (fun x => 6 + x.s.size) k xs; have h3 := HS.out; omega
      have hn0 : outs false (xs.take (k + 1)) = if ((xs[k].who != 0) == false) = true then outs false (xs.take k) ++ xs[k].out else outs false (xs.take k) := by rw [hts, outs_snoc]
      have hn1 : outs true (xs.take (k + 1)) = if ((xs[k].who != 0) == true) = true then outs true (xs.take k) ++ xs[k].out else outs true (xs.take k) := by rw [hts, outs_snoc]
      have hol := out_len xs[k]
      obtain ⟨b, o, rfl⟩ := item_addr HC.out k hlt
      generalize xs[k] = x at *
      generalize outs false (xs.take k) = X0 at *
      generalize outs true (xs.take k) = X1 at *
      obtain ⟨c0, c1, c2, c3, c4⟩ := item_at (Kd.C_below HC.out HI.out.2.2.2.2.2.2.1) k x hxk
      clear hxk hts
      have HF := Aside0.mk (fun W => form_calls x hx W)
      by_cases hwho : x.who = 0
      · have hw1 : (x.who != 0) = false := bne_eq_false_iff_eq.2 hwho
        rw [hw1, if_pos (show (false == false) = true from rfl)] at hn0
        rw [hw1, if_neg (by decide)] at hn1
        have HN0 := Aside0.mk hn0
        have HN1 := Aside0.mk hn1
        clear hn0 hn1 hwho
        go_wp2_with fail
        refine (HF.out _).mono ?_
        rintro e_ w3 ⟨rfl, hb3⟩
        have hb30 : Below wr.heap.size wr w3 := below_then ((Below.refl wr.heap.size wr).alloc (Nat.le_refl _) _) (below_size ((Below.refl wr.heap.size wr).alloc (Nat.le_refl _) _)) hb3
        have bx := blk_below (W_push wr _ _ _) hb3
        have HJ := Aside0.mk (HI.out.below hb30)
        clear hb3 hb30 HI c0 c1 c2 c3 c4 HF
        generalize wr.heap.size = gx at bx ⊢
        have cA : w3.cell? ⟨gA, 0, none⟩ = some (.pointer (some ⟨g0, 0, none⟩)) := (blk_cell HJ.out.2.2.2.2.1 0).trans rfl
        have cB : w3.cell? ⟨gB, 0, none⟩ = some (.string (strOfNums X0)) := (blk_cell HJ.out.2.2.2.2.2.1 0).trans rfl
        have fB : w3.frozen? ⟨gB, 0, none⟩ = false := blk_frozen HJ.out.2.2.2.2.2.1 0
        have hs0 : (strOfNums X0).size = X0.length := str_size _
        have hs1 : (strOfNums x.out).size = x.out.length := str_size _
        go_wp2_with fail
        rw [← strOf_append]
        have hsz : (strOfNums (X0 ++ x.out)).size = (X0 ++ x.out).length := str_size _
        have hzl : (X0 ++ x.out).length ≤ 6000000 := by rw [List.length_append]; omega
        have HJ4 := Aside0.mk (HJ.out.set0 (strOfNums (X0 ++ x.out)))
        have bx4 : (w3.setCell ⟨gB, 0, none⟩ (.string (strOfNums (X0 ++ x.out)))).heap[gx]? = _ := blk_far bx (fun h => by
          have h : gx = gB := h
          subst h
          have h1 := bx.symm.trans HJ.out.2.2.2.2.2.1
          simp at h1) _
        clear HJ bx cA cB fB hs0 hs1
        generalize w3.setCell ⟨gB, 0, none⟩ (.string (strOfNums (X0 ++ x.out))) = W4 at HJ4 bx4 ⊢
        have HT := Aside0.mk hsz
        generalize hT : strOfNums (X0 ++ x.out) = T at HJ4 HT hsz ⊢
        have HTT := Aside0.mk hT
        clear hT hsz
        have d0 : W4.cell? ⟨gx, 0, none⟩ = some (.int .i64 x.who) := (blk_cell bx4 0).trans rfl
        have d1 : W4.cell? ⟨gx, 1, none⟩ = some (.int .i64 x.kind) := (blk_cell bx4 1).trans rfl
        have d2 : W4.cell? ⟨gx, 2, none⟩ = some (.int .i64 x.n) := (blk_cell bx4 2).trans rfl
        have d3 : W4.cell? ⟨gx, 3, none⟩ = some (.int .u64 (x.v : Int)) := (blk_cell bx4 3).trans rfl
        have d4 : W4.cell? ⟨gx, 4, none⟩ = some (.string x.s) := (blk_cell bx4 4).trans rfl
        have dA : W4.cell? ⟨gA, 0, none⟩ = some (.pointer (some ⟨g0, 0, none⟩)) := (blk_cell HJ4.out.2.2.2.2.1 0).trans rfl
        have dB : W4.cell? ⟨gB, 0, none⟩ = some (.string T) := (blk_cell HJ4.out.2.2.2.2.2.1 0).trans rfl
        have HJd := Aside0.mk (HJ4.out.below (below_drew (Below.refl _ _)))
        have bxd := Aside0.mk (blk_drew bx4)
        have BX := Aside0.mk bx4
        clear bx4
        have hee : (x.err != x.err) = false := by simp
        have htl : ((T.size : Int) != (T.size : Int)) = false := by simp
        go_region_held3 (fun W' : World => W'.cell? ⟨gx, 0, none⟩ = some (.int .i64 x.who) ∧ W'.cell? ⟨gx, 1, none⟩ = some (.int .i64 x.kind) ∧ W'.cell? ⟨gx, 2, none⟩ = some (.int .i64 x.n) ∧ W'.cell? ⟨gx, 3, none⟩ = some (.int .u64 (x.v : Int)) ∧ W'.cell? ⟨gx, 4, none⟩ = some (.string x.s) ∧ W'.cell? ⟨gA, 0, none⟩ = some (.pointer (some ⟨g0, 0, none⟩)) ∧ W'.cell? ⟨gB, 0, none⟩ = some (.string T)) (first | go_keep | (go_split_ands; refine ⟨?_, ?_, ?_, ?_, ?_, ?_, ?_⟩ <;> go_keep)) (first | (go_at_call 21; refine (put_calls x hx g0 v0 X0 w _ HJd.out.2.2.2.2.2.2.1 HJd.out.1 (by omega)).mono ?_; rintro e_ w5 ⟨rfl, v5, hs5, hb5, hm5⟩; have bx5 := keep_block HJd.out.1 hm5 bxd.out (by decide) (by decide); have HJ5 := HJd.out.moved0 hs5 hm5 hb5; have k0 : w5.cell? ⟨gx, 0, none⟩ = some (.int .i64 x.who) := (blk_cell bx5 0).trans rfl; have k1 : w5.cell? ⟨gx, 1, none⟩ = some (.int .i64 x.kind) := (blk_cell bx5 1).trans rfl; have k2 : w5.cell? ⟨gx, 2, none⟩ = some (.int .i64 x.n) := (blk_cell bx5 2).trans rfl; have k3 : w5.cell? ⟨gx, 3, none⟩ = some (.int .u64 (x.v : Int)) := (blk_cell bx5 3).trans rfl; have k4 : w5.cell? ⟨gx, 4, none⟩ = some (.string x.s) := (blk_cell bx5 4).trans rfl; have kA : w5.cell? ⟨gA, 0, none⟩ = some (.pointer (some ⟨g0, 0, none⟩)) := (blk_cell HJ5.2.2.2.2.1 0).trans rfl; have kB : w5.cell? ⟨gB, 0, none⟩ = some (.string T) := (blk_cell HJ5.2.2.2.2.2.1 0).trans rfl) | (go_at_call 22; refine (Len_calls _ _ _ _ _ HJ5.1).mono ?_; rintro e_ w6 ⟨rfl, rfl⟩; rw [← HT.out]))
        have HJ6 : Aside0 (WrJ w w5 g0 g1 gA gB v5 v1 (X0 ++ x.out) X1 (strOfNums (X0 ++ x.out)) (strOfNums X1)) := ⟨by have h := HJ5; rw [← HTT.out] at h; exact h⟩
        clear HJ4 HJd bxd BX hs5 hb5 hm5 bx5 HJ5 d0 d1 d2 d3 d4 dA dB k0 k1 k2 k3 k4 HT hee htl hzl
        have htl : (T.toList != T.toList) = false := by simp
        have i0 : (0 : Int) ≤ (k : Int) := by omega
        by_cases hb : k < bs.length
        · obtain ⟨b1, o1, rfl, ck⟩ := bool_at (Kd.C_below HC1.out HJ6.out.2.2.2.2.2.2.1) k bs[k] (List.getElem?_eq_getElem hb)
          have i1 : (k : Int) < (bs.length : Int) := by omega
          have i2 : decide ((k : Int) < (bs.length : Int)) = true := decide_eq_true i1
          have i3 : decide (k < bs.length) = true := decide_eq_true hb
          generalize bs[k] = z at ck
          cases z with
          | true =>
            go_wp2_with fail
            go_region_held3 (fun W' : World => W'.cell? ⟨b1, o1 + k, none⟩ = some (.bool true) ∧ W'.cell? ⟨gA, 0, none⟩ = some (.pointer (some ⟨g0, 0, none⟩)) ∧ W'.cell? ⟨gB, 0, none⟩ = some (.string T)) (first | go_keep | (go_split_ands; refine ⟨?_, ?_, ?_⟩ <;> go_keep)) (first | (go_at_call 23; refine (Told_calls _ _ _ _ _ (WS.below HJ6.out.1 (below_drew (Below.refl _ _)))).mono ?_; rintro e_ w7 ⟨rfl, rfl⟩; rw [HTT.out]))
            have HJ7 := Aside0.mk (HJ6.out.below (below_drew (Below.refl _ _)))
            clear HJ6 ck kA kB i0 i1 i2 i3 htl HTT
            go_wp2_with fail
            go_roundw
            case rel => exact ⟨k + 1, v5, v1, by omega, by go_num, by rw [HN0.out, HN1.out]; exact HJ7⟩
            case measure => simp [intOf]; omega
          | false =>
            go_wp2_with fail
            go_quiet (fail)
            have HJ7 := Aside0.mk (HJ6.out.below (pw_below_drewN (Below.refl _ _) nq))
            clear HJ6 ck kA kB i0 i1 i2 i3 htl HTT
            go_wp2_with fail
            go_roundw
            case rel => exact ⟨k + 1, v5, v1, by omega, by go_num, by rw [HN0.out, HN1.out]; exact HJ7⟩
            case measure => simp [intOf]; omega
        · have i2 : decide ((k : Int) < (bs.length : Int)) = false := decide_eq_false (by omega)
          have i3 : decide (k < bs.length) = false := decide_eq_false hb
          go_wp2_with fail
          go_quiet (fail)
          have HJ7 := Aside0.mk (HJ6.out.below (pw_below_drewN (Below.refl _ _) nq))
          clear HJ6 kA kB i0 i2 i3 htl HTT
          go_wp2_with fail
          go_roundw
          case rel => exact ⟨k + 1, v5, v1, by omega, by go_num, by rw [HN0.out, HN1.out]; exact HJ7⟩
          case measure => simp [intOf]; omega
      · have hw1 : (x.who != 0) = true := bne_iff_ne.2 hwho
        rw [hw1, if_neg (by decide)] at hn0
        rw [hw1, if_pos (show (true == true) = true from rfl)] at hn1
        have HN0 := Aside0.mk hn0
        have HN1 := Aside0.mk hn1
        clear hn0 hn1 hwho
        go_wp2_with fail
        refine (HF.out _).mono ?_
        rintro e_ w3 ⟨rfl, hb3⟩
        have hb30 : Below wr.heap.size wr w3 := below_then ((Below.refl wr.heap.size wr).alloc (Nat.le_refl _) _) (below_size ((Below.refl wr.heap.size wr).alloc (Nat.le_refl _) _)) hb3
        have bx := blk_below (W_push wr _ _ _) hb3
        have HJ := Aside0.mk (HI.out.below hb30)
        clear hb3 hb30 HI c0 c1 c2 c3 c4 HF
        generalize wr.heap.size = gx at bx ⊢
        have cA : w3.cell? ⟨gA, 1, none⟩ = some (.pointer (some ⟨g1, 0, none⟩)) := (blk_cell HJ.out.2.2.2.2.1 1).trans rfl
        have cB : w3.cell? ⟨gB, 1, none⟩ = some (.string (strOfNums X1)) := (blk_cell HJ.out.2.2.2.2.2.1 1).trans rfl
        have fB : w3.frozen? ⟨gB, 1, none⟩ = false := blk_frozen HJ.out.2.2.2.2.2.1 1
        have hs0 : (strOfNums X1).size = X1.length := str_size _
        have hs1 : (strOfNums x.out).size = x.out.length := str_size _
        go_wp2_with fail
        rw [← strOf_append]
        have hsz : (strOfNums (X1 ++ x.out)).size = (X1 ++ x.out).length := str_size _
        have hzl : (X1 ++ x.out).length ≤ 6000000 := by rw [List.length_append]; omega
        have HJ4 := Aside0.mk (HJ.out.set1 (strOfNums (X1 ++ x.out)))
        have bx4 : (w3.setCell ⟨gB, 1, none⟩ (.string (strOfNums (X1 ++ x.out)))).heap[gx]? = _ := blk_far bx (fun h => by
          have h : gx = gB := h
          subst h
          have h1 := bx.symm.trans HJ.out.2.2.2.2.2.1
          simp at h1) _
        clear HJ bx cA cB fB hs0 hs1
        generalize w3.setCell ⟨gB, 1, none⟩ (.string (strOfNums (X1 ++ x.out))) = W4 at HJ4 bx4 ⊢
        have HT := Aside0.mk hsz
        generalize hT : strOfNums (X1 ++ x.out) = T at HJ4 HT hsz ⊢
        have HTT := Aside0.mk hT
        clear hT hsz
        have d0 : W4.cell? ⟨gx, 0, none⟩ = some (.int .i64 x.who) := (blk_cell bx4 0).trans rfl
        have d1 : W4.cell? ⟨gx, 1, none⟩ = some (.int .i64 x.kind) := (blk_cell bx4 1).trans rfl
        have d2 : W4.cell? ⟨gx, 2, none⟩ = some (.int .i64 x.n) := (blk_cell bx4 2).trans rfl
        have d3 : W4.cell? ⟨gx, 3, none⟩ = some (.int .u64 (x.v : Int)) := (blk_cell bx4 3).trans rfl
        have d4 : W4.cell? ⟨gx, 4, none⟩ = some (.string x.s) := (blk_cell bx4 4).trans rfl
        have dA : W4.cell? ⟨gA, 1, none⟩ = some (.pointer (some ⟨g1, 0, none⟩)) := (blk_cell HJ4.out.2.2.2.2.1 1).trans rfl
        have dB : W4.cell? ⟨gB, 1, none⟩ = some (.string T) := (blk_cell HJ4.out.2.2.2.2.2.1 1).trans rfl
        have HJd := Aside0.mk (HJ4.out.below (below_drew (Below.refl _ _)))
        have bxd := Aside0.mk (blk_drew bx4)
        have BX := Aside0.mk bx4
        clear bx4
        have hee : (x.err != x.err) = false := by simp
        have htl : ((T.size : Int) != (T.size : Int)) = false := by simp
        go_region_held3 (fun W' : World => W'.cell? ⟨gx, 0, none⟩ = some (.int .i64 x.who) ∧ W'.cell? ⟨gx, 1, none⟩ = some (.int .i64 x.kind) ∧ W'.cell? ⟨gx, 2, none⟩ = some (.int .i64 x.n) ∧ W'.cell? ⟨gx, 3, none⟩ = some (.int .u64 (x.v : Int)) ∧ W'.cell? ⟨gx, 4, none⟩ = some (.string x.s) ∧ W'.cell? ⟨gA, 1, none⟩ = some (.pointer (some ⟨g1, 0, none⟩)) ∧ W'.cell? ⟨gB, 1, none⟩ = some (.string T)) (first | go_keep | (go_split_ands; refine ⟨?_, ?_, ?_, ?_, ?_, ?_, ?_⟩ <;> go_keep)) (first | (go_at_call 21; refine (put_calls x hx g1 v1 X1 w _ HJd.out.2.2.2.2.2.2.1 HJd.out.2.1 (by omega)).mono ?_; rintro e_ w5 ⟨rfl, v5, hs5, hb5, hm5⟩; have bx5 := keep_block HJd.out.2.1 hm5 bxd.out (by decide) (by decide); have HJ5 := HJd.out.moved1 hs5 hm5 hb5; have k0 : w5.cell? ⟨gx, 0, none⟩ = some (.int .i64 x.who) := (blk_cell bx5 0).trans rfl; have k1 : w5.cell? ⟨gx, 1, none⟩ = some (.int .i64 x.kind) := (blk_cell bx5 1).trans rfl; have k2 : w5.cell? ⟨gx, 2, none⟩ = some (.int .i64 x.n) := (blk_cell bx5 2).trans rfl; have k3 : w5.cell? ⟨gx, 3, none⟩ = some (.int .u64 (x.v : Int)) := (blk_cell bx5 3).trans rfl; have k4 : w5.cell? ⟨gx, 4, none⟩ = some (.string x.s) := (blk_cell bx5 4).trans rfl; have kA : w5.cell? ⟨gA, 1, none⟩ = some (.pointer (some ⟨g1, 0, none⟩)) := (blk_cell HJ5.2.2.2.2.1 1).trans rfl; have kB : w5.cell? ⟨gB, 1, none⟩ = some (.string T) := (blk_cell HJ5.2.2.2.2.2.1 1).trans rfl) | (go_at_call 22; refine (Len_calls _ _ _ _ _ HJ5.2.1).mono ?_; rintro e_ w6 ⟨rfl, rfl⟩; rw [← HT.out]))
        have HJ6 : Aside0 (WrJ w w5 g0 g1 gA gB v0 v5 X0 (X1 ++ x.out) (strOfNums X0) (strOfNums (X1 ++ x.out))) := ⟨by have h := HJ5; rw [← HTT.out] at h; exact h⟩
        clear HJ4 HJd bxd BX hs5 hb5 hm5 bx5 HJ5 d0 d1 d2 d3 d4 dA dB k0 k1 k2 k3 k4 HT hee htl hzl
        have htl : (T.toList != T.toList) = false := by simp
        have i0 : (0 : Int) ≤ (k : Int) := by omega
        by_cases hb : k < bs.length
        · obtain ⟨b1, o1, rfl, ck⟩ := bool_at (Kd.C_below HC1.out HJ6.out.2.2.2.2.2.2.1) k bs[k] (List.getElem?_eq_getElem hb)
          have i1 : (k : Int) < (bs.length : Int) := by omega
          have i2 : decide ((k : Int) < (bs.length : Int)) = true := decide_eq_true i1
          have i3 : decide (k < bs.length) = true := decide_eq_true hb
          generalize bs[k] = z at ck
          cases z with
          | true =>
            go_wp2_with fail
            go_region_held3 (fun W' : World => W'.cell? ⟨b1, o1 + k, none⟩ = some (.bool true) ∧ W'.cell? ⟨gA, 1, none⟩ = some (.pointer (some ⟨g1, 0, none⟩)) ∧ W'.cell? ⟨gB, 1, none⟩ = some (.string T)) (first | go_keep | (go_split_ands; refine ⟨?_, ?_, ?_⟩ <;> go_keep)) (first | (go_at_call 23; refine (Told_calls _ _ _ _ _ (WS.below HJ6.out.2.1 (below_drew (Below.refl _ _)))).mono ?_; rintro e_ w7 ⟨rfl, rfl⟩; rw [HTT.out]))
            have HJ7 := Aside0.mk (HJ6.out.below (below_drew (Below.refl _ _)))
            clear HJ6 ck kA kB i0 i1 i2 i3 htl HTT
            go_wp2_with fail
            go_roundw
            case rel => exact ⟨k + 1, v0, v5, by omega, by go_num, by rw [HN0.out, HN1.out]; exact HJ7⟩
            case measure => simp [intOf]; omega
          | false =>
            go_wp2_with fail
            go_quiet (fail)
            have HJ7 := Aside0.mk (HJ6.out.below (pw_below_drewN (Below.refl _ _) nq))
            clear HJ6 ck kA kB i0 i1 i2 i3 htl HTT
            go_wp2_with fail
            go_roundw
            case rel => exact ⟨k + 1, v0, v5, by omega, by go_num, by rw [HN0.out, HN1.out]; exact HJ7⟩
            case measure => simp [intOf]; omega
        · have i2 : decide ((k : Int) < (bs.length : Int)) = false := decide_eq_false (by omega)
          have i3 : decide (k < bs.length) = false := decide_eq_false hb
          go_wp2_with fail
          go_quiet (fail)
          have HJ7 := Aside0.mk (HJ6.out.below (pw_below_drewN (Below.refl _ _) nq))
          clear HJ6 kA kB i0 i2 i3 htl HTT
          go_wp2_with fail
          go_roundw
          case rel => exact ⟨k + 1, v0, v5, by omega, by go_num, by rw [HN0.out, HN1.out]; exact HJ7⟩
          case measure => simp [intOf]; omega
    · obtain rfl : k = xs.length := by omega
      obtain ⟨T0, hT0⟩ : ∃ T, T = strOfNums (outs false (xs.take xs.length)) := ⟨_, rfl⟩
      obtain ⟨T1, hT1⟩ : ∃ T, T = strOfNums (outs true (xs.take xs.length)) := ⟨_, rfl⟩
      rw [← hT0, ← hT1] at HI
      have H0 := Aside0.mk hT0
      have H1 := Aside0.mk hT1
      clear hT0 hT1 hlt hk
      have e0 : w.heap.size = w.heap.size := rfl
      have cA0 : wr.cell? ⟨gA, 0, none⟩ = some (.pointer (some ⟨g0, 0, none⟩)) := (blk_cell HI.out.2.2.2.2.1 0).trans rfl
      have cA1 : wr.cell? ⟨gA, 1, none⟩ = some (.pointer (some ⟨g1, 0, none⟩)) := (blk_cell HI.out.2.2.2.2.1 1).trans rfl
      have cB0 : wr.cell? ⟨gB, 0, none⟩ = some (.string T0) := (blk_cell HI.out.2.2.2.2.2.1 0).trans rfl
      have cB1 : wr.cell? ⟨gB, 1, none⟩ = some (.string T1) := (blk_cell HI.out.2.2.2.2.2.1 1).trans rfl
      have ht0 : (T0.toList == T0.toList) = true := by simp
      have ht1 : (T1.toList == T1.toList) = true := by simp
      clear e0
      go_wp2_with fail
      have HJd := Aside0.mk (HI.out.below (below_drew (Below.refl _ _)))
      have K0 := Aside0.mk (Told_calls _ _ _ _ _ HJd.out.1)
      have K1 := Aside0.mk (Told_calls _ _ _ _ _ HJd.out.2.1)
      rw [← H0.out] at K0
      rw [← H1.out] at K1
      go_region_held3 (fun W' : World => W'.cell? ⟨gA, 0, none⟩ = some (.pointer (some ⟨g0, 0, none⟩)) ∧ W'.cell? ⟨gA, 1, none⟩ = some (.pointer (some ⟨g1, 0, none⟩)) ∧ W'.cell? ⟨gB, 0, none⟩ = some (.string T0) ∧ W'.cell? ⟨gB, 1, none⟩ = some (.string T1)) (first | go_keep | (go_split_ands; refine ⟨?_, ?_, ?_, ?_⟩ <;> go_keep)) (first | (go_at_call 23; (with_reducible refine K0.out.mono ?_); rintro e_ w7 ⟨rfl, rfl⟩) | (go_at_call 23; (with_reducible refine K1.out.mono ?_); rintro e_ w7 ⟨rfl, rfl⟩))
      have hb := HJd.out.2.2.2.2.2.2.1
      go_wp2_with fail
      go_ret
      exact ⟨rfl, hb⟩
end Go.Proofs.Ytikfdfagnalmbaa.My
