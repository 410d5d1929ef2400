/- WireBack. -/
import Derived.Test.YtikfdfagnalmbaaOpenIt
import Derived.Test.YtikfdfagnalmbaaWireRises
namespace Go.Proofs.Ytikfdfagnalmbaa.My
open Go.RowKit Go.Proofs.YtikfdfagnalmbaaW.PrintWords Go.Proofs.YtikfdfagnalmbaaW.PrintLast Go.Proofs.YtikfdfagnalmbaaW.PrintMore Go.Proofs.Ytikfdfagnalmbaa
set_option linter.unusedSimpArgs false
set_option linter.unusedVariables false
set_option maxRecDepth 100000
set_option maxHeartbeats 1600000
theorem infoItem : (Try.prog.info? 35).map (fun i => (i.zero, i.size, i.bytes)) = some (some (.agg #[.int .i64 0, .int .i64 0, .int .i64 0, .int .u64 0, .string ⟨#[]⟩]), 5, 48) := by kernel_rfl
theorem infoInt : (Try.prog.info? 3).map (fun i => (i.zero, i.size, i.bytes)) = some (some (.int .i64 0), 1, 8) := by kernel_rfl
theorem R_moved {α : Type} {d : Kd α} {e base : Nat} {w w' : World} {u : Value} {ys : List α} {g : Nat} {v v' : Value} {xs : List Int} (h : d.R e w base (fun _ => True) u ys) (hE : d.E = []) (hs : WS w base g v xs) (m : Moved w w' g v v') (he : e ≠ 85) (he2 : e ≠ 5) : d.R e w' base (fun _ => True) u ys := by
  refine Kd.R_reok hE (Kd.R_step (Kd.R_tight hE h) (fun k ho hlt => m.2.1 k hlt ?_ ?_)) (fun _ _ => trivial)
  · rintro rfl
    exact Kd.R_ne h hs.2.1 he ho
  · intro hv
    obtain ⟨cells, hc⟩ := Kd.R_typed hs.2.2 k hv.symm
    exact Kd.R_ne h hc he2 ho
theorem WS_grown {α : Type} {d : Kd α} {e base base' : Nat} {ok : Nat → Prop} {w w1 : World} {u : Value} {ys : List α} {g : Nat} {v : Value} {xs : List Int} (hs : WS w base g v xs) (h : d.R e w base' ok u ys) (hg : w.grownBy w1 u.ownBlock) (he : e ≠ 85) (he2 : e ≠ 5) : WS w1 base g v xs :=
  ⟨hs.1, blk_grown hs.2.1 hg (Kd.R_ne h hs.2.1 he), Kd.R_over hs.2.2 h (fun q hq => by
    have : q = 5 := by simpa [Kd.int, Kd.scalar] using hq
    rw [this]; exact fun h => he2 h.symm) hg⟩
theorem item_addr {w : World} {a : Option Addr} {n : Nat} {xs : List Item} (h : kItem.C w a n xs) (k : Nat) (hk : k < xs.length) : ∃ b o, a = some ⟨b, o, none⟩ := by
  obtain ⟨hn, _, h2⟩ := h
  obtain ⟨ad, rfl, hc⟩ := h2 (by omega)
  obtain ⟨x, hx⟩ : ∃ x, xs[0]? = some x := ⟨_, List.getElem?_eq_getElem (by omega)⟩
  obtain ⟨c, _, hc2, hc3⟩ := hc 0 x hx
  have hc4 : c = x.cells := hc2
  subst hc4
  have h0 : w.cell? (ad.add (0 * 5 + 0)) = some _ := hc3 0 _ rfl
  have hs := World.cell?_spot h0
  obtain ⟨b, o, sp⟩ := ad
  obtain rfl : sp = none := hs
  exact ⟨b, o, rfl⟩
theorem add_lit' (b o n : Nat) : (⟨b, o, none⟩ : Addr).add n = ⟨b, o + n, none⟩ := by
  unfold Addr.add
  by_cases h : n = 0
  · subst h; rfl
  · rw [if_neg h]
theorem item_at {w : World} {b o n : Nat} {xs : List Item} (h : kItem.C w (some ⟨b, o, none⟩) n xs) (k : Nat) (x : Item) (hk : xs[k]? = some x) : w.cell? ⟨b, o + k * 5, none⟩ = some (.int .i64 x.who) ∧ w.cell? ⟨b, o + k * 5 + 1, none⟩ = some (.int .i64 x.kind) ∧ w.cell? ⟨b, o + k * 5 + 2, none⟩ = some (.int .i64 x.n) ∧ w.cell? ⟨b, o + k * 5 + 3, none⟩ = some (.int .u64 (x.v : Int)) ∧ w.cell? ⟨b, o + k * 5 + 4, none⟩ = some (.string x.s) := by
  obtain ⟨hn, _, h2⟩ := h
  have hl := (List.getElem?_eq_some_iff.1 hk).1
  obtain ⟨ad, e, hc⟩ := h2 (by omega)
  obtain rfl := Option.some.inj e
  obtain ⟨c, _, hc2, hc3⟩ := hc k x hk
  have hc4 : c = x.cells := hc2
  subst hc4
  have g0 := hc3 0 _ rfl
  have g1 := hc3 1 _ rfl
  have g2 := hc3 2 _ rfl
  have g3 := hc3 3 _ rfl
  have g4 := hc3 4 _ rfl
  rw [add_lit'] at g0 g1 g2 g3 g4
  exact ⟨g0, g1, g2, g3, g4⟩
theorem uv_len2 : ∀ k v, (uv k v).length ≤ k + 1 := uv_len
theorem out_len (x : Item) : x.out.length ≤ 20 + x.s.size := by
  unfold Item.out
  have h1 := uv_len 10 x.v
  have h2 := uv_len 10 (zig (wrap64 x.v))
  have h3 := uv_len 10 x.s.size
  repeat' split
  · rw [List.length_singleton]; omega
  · rw [be_len]; omega
  · rename_i h; rw [be_len]; have := h.2.1; have := h.1; omega
  · simp
  · omega
  · omega
  · rw [be_len]; omega
  · rw [List.length_append, bytesOf_length]; omega
  · rw [bytesOf_length]; omega
  · simp
theorem out_sum : ∀ ys : List Item, (ys.flatMap Item.out).length ≤ 4 * (ys.map (fun x => 6 + x.s.size)).sum
  | [] => by simp
  | y :: ys => by
    have h1 := out_len y
    have h2 := out_sum ys
    rw [List.flatMap_cons, List.length_append, List.map_cons, List.sum_cons]
    omega
theorem sum_filter (f : Item → Nat) (p : Item → Bool) : ∀ ys : List Item, ((ys.filter p).map f).sum ≤ (ys.map f).sum
  | [] => by simp
  | y :: ys => by
    have h := sum_filter f p ys
    rw [List.filter_cons]
    split
    · simp only [List.map_cons, List.sum_cons]; omega
    · simp only [List.map_cons, List.sum_cons]; omega
theorem sum_take (f : Item → Nat) : ∀ (k : Nat) (ys : List Item), ((ys.take k).map f).sum ≤ (ys.map f).sum
  | 0, ys => by simp
  | k + 1, [] => by simp
  | k + 1, y :: ys => by
    have h := sum_take f k ys
    simp only [List.take_succ_cons, List.map_cons, List.sum_cons]
    omega
theorem sum_mem (f : Item → Nat) {x : Item} : ∀ {ys : List Item}, x ∈ ys → f x ≤ (ys.map f).sum
  | y :: ys, h => by
    simp only [List.map_cons, List.sum_cons]
    rcases List.mem_cons.1 h with rfl | h
    · omega
    · have := sum_mem f h; omega
theorem sum_len : ∀ ys : List Item, ys.length ≤ (ys.map (fun x => 6 + x.s.size)).sum
  | [] => by simp
  | y :: ys => by
    have h := sum_len ys
    simp only [List.map_cons, List.sum_cons, List.length_cons]
    omega
theorem err_fits (x : Item) (h : x.fits = true) : x.err = 0 := by
  unfold Item.err
  unfold Item.fits at h
  by_cases h2 : x.kind = 2
  · rw [if_pos h2] at h
    exact if_neg (fun hc => hc.2 (of_decide_eq_true h))
  · exact if_neg (fun hc => h2 hc.1)
/-- Where each item ends. -/
def endsL (ys : List Item) : List Int := (List.range (ys.length + 1)).map fun i => ((((ys.take i).flatMap Item.out).length : Nat) : Int)
theorem endsL_snoc (ys : List Item) (y : Item) : endsL (ys ++ [y]) = endsL ys ++ [((((ys ++ [y]).flatMap Item.out).length : Nat) : Int)] := by
  unfold endsL
  rw [List.length_append, List.length_singleton, List.range_succ, List.map_append]
  congr 1
  · apply List.map_congr_left
    intro i hi
    rw [List.mem_range] at hi
    rw [List.take_append_of_le_length (by omega)]
  · rw [List.map_singleton, List.take_of_length_le (by simp)]
def BackI (w0 wr : World) (v vl ve : Value) (ys : List Item) : Prop := WS wr w0.heap.size w0.heap.size v (ys.flatMap Item.out) ∧ kItem.R 35 wr w0.heap.size (fun _ => True) vl ys ∧ (Kd.int .i64).R 3 wr w0.heap.size (fun _ => True) ve (endsL ys) ∧ Below w0.heap.size w0 wr
theorem BackI.below {w0 wr w2 : World} {v vl ve : Value} {ys : List Item} (h : BackI w0 wr v vl ve ys) (hb : Below wr.heap.size wr w2) : BackI w0 w2 v vl ve ys := by
  obtain ⟨hs, hl, he, hB⟩ := h
  exact ⟨⟨hs.1, blk_below hs.2.1 hb, Kd.R_below hs.2.2 hb⟩, Kd.R_below hl hb, Kd.R_below he hb, below_then hB (below_size hB) hb⟩
theorem BackI.len {w0 wr : World} {v vl ve : Value} {ys : List Item} (h : BackI w0 wr v vl ve ys) : w0.heap.size ≤ wr.heap.size := below_size h.2.2.2
theorem str_size (l : List Int) : (strOfNums l).size = l.length := by
  show (strOfNums l).data.size = _
  simp [strOfNums]
theorem flat_nats : ∀ ys : List Item, (∀ y ∈ ys, y.Ok) → natsOf (strOfNums (ys.flatMap Item.out)) = ys.flatMap Item.outN := by
  intro ys hy
  rw [natsOf_str _ (fun z hz => by
    obtain ⟨y, h1, h2⟩ := List.mem_flatMap.1 hz
    exact out_bounds y (hy y h1) z h2), List.map_flatMap]
  rfl
/-- The reader behind p bytes; the items, and where each ends. -/
def Back2 (w0 wr : World) (gr : Nat) (S : ByteArray) (vl ve : Value) (ys : List Item) (p : Nat) : Prop := RS wr gr S p 0 ∧ kItem.R 35 wr w0.heap.size (fun _ => True) vl ys ∧ (Kd.int .i64).R 3 wr w0.heap.size (fun _ => True) ve (endsL ys) ∧ Below w0.heap.size w0 wr ∧ w0.heap.size ≤ gr
theorem endsL_at (ys : List Item) (i : Nat) (hi : i ≤ ys.length) : (endsL ys)[i]? = some ((((ys.take i).flatMap Item.outN).length : Nat) : Int) := by
  unfold endsL
  rw [List.getElem?_map, List.getElem?_range (by omega)]
  show some _ = some _
  congr 2
  unfold Item.outN
  rw [← List.map_flatMap, List.length_map]
theorem int_at {w : World} {b o n : Nat} {es : List Int} (h : (Kd.int .i64).C w (some ⟨b, o, none⟩) n es) (k : Nat) (z : Int) (hk : es[k]? = some z) : w.cell? ⟨b, o + k, none⟩ = some (.int .i64 z) := by
  obtain ⟨hn, _, h2⟩ := h
  have hl := (List.getElem?_eq_some_iff.1 hk).1
  obtain ⟨ad, e, hc⟩ := h2 (by omega)
  obtain rfl := Option.some.inj e
  obtain ⟨c, _, hc2, hc3⟩ := hc k z hk
  have hc4 : c = [.int .i64 z] := hc2
  subst hc4
  have g0 := hc3 0 _ rfl
  rw [add_lit', show k * (Kd.int .i64).sz + 0 = k from Nat.mul_one k] at g0
  exact g0
theorem R_alone1 {α : Type} {d : Kd α} {e base : Nat} {w w' : World} {u : Value} {ys : List α} {g t : Nat} {cs : Array Value} (h : d.R e w base (fun _ => True) u ys) (hE : d.E = []) (hb : w.heap[g]? = some (.cells cs t (0, 0))) (m : Alone1 w w' g) (he : e ≠ t) : d.R e w' base (fun _ => True) u ys := by
  refine Kd.R_reok hE (Kd.R_step (Kd.R_tight hE h) (fun k ho hlt => m.2 k ?_ hlt)) (fun _ _ => trivial)
  rintro rfl
  exact Kd.R_ne h hb he ho
theorem WireBack_walk (w : World) (a : Option Addr) (cap : Nat) (xs : List Item) (hcap : xs.length ≤ cap) (hC : kItem.C w a xs.length xs) (hok : ∀ x ∈ xs, x.Ok) (hsum : (xs.map (fun x => 6 + x.s.size)).sum ≤ 1048576) : Calls Try.prog 12 #[.slice a xs.length cap] w fun e w' => e = .returned (.bool true) ∧ Below w.heap.size w w' := by
  go_enter Try.func12, Try.ntmps12
  go_wp2_with fail
  refine (works_calls w).mono ?_
  rintro e w0 ⟨rfl, hb0⟩
  go_wp2_with fail
  refine (newWriterW _).mono ?_
  rintro e w1 ⟨rfl, hw1⟩
  have hs1 : WS w1 w0.heap.size w0.heap.size (.slice none 0 0) [] := by rw [hw1]; exact WS_new w0 _ (Nat.le_refl _)
  have hb1 : Below w0.heap.size w0 w1 := by rw [hw1]; exact (Below.refl _ _).alloc (Nat.le_refl _) _
  clear hw1
  go_wp2_with fail
  have HI : Aside0 (BackI w0 (w1.alloc (.cells #[.int .i64 0] 3)) (.slice none 0 0) (.slice none 0 0) (.slice (some ⟨w1.heap.size, 0, none⟩) 1 1) []) := by
    refine ⟨hs1.alloc _, Kd.R_nil _ _ _ _ _, ?_, hb1.alloc (below_size hb1) _⟩
    exact Kd.R_of_own (own_lit w1 w0.heap.size 3 .i64 [0] (below_size hb1) (by simp)) (fun _ _ => trivial)
  have HC := Aside0.mk hC
  have HO := Aside0.mk hok
  have HS := Aside0.mk hsum
  have HB0 := Aside0.mk hb0
  have hxl : xs.length ≤ 1048576 := Nat.le_trans (sum_len xs) hsum
  clear hs1 hb1 hC hok hsum hb0
  generalize w1.alloc (.cells #[.int .i64 0] 3) = wA at HI ⊢
  go_loopw [4, 5, 6] (fun ve vl i wr => ∃ (k : Nat) (v : Value), k ≤ xs.length ∧ i = .int .i64 k ∧ Aside0 (BackI w0 wr v vl ve ((xs.take k).filter Item.fits))) (fun _ _ i _ => xs.length - (intOf i).toNat)
  case atStart => exact ⟨0, .slice none 0 0, Nat.zero_le _, rfl, HI⟩
  case round =>
    clear HI
    obtain ⟨k, v, hk, rfl, HI⟩ := hrel
    by_cases hlt : k < xs.length
    · have hxk : xs[k]? = some xs[k] := List.getElem?_eq_getElem hlt
      have hx : xs[k].Ok := HO.out _ (List.getElem_mem hlt)
      have hxs : xs[k].s.size ≤ 1048576 := by have h1 := sum_mem (fun x => 6 + x.s.size) (List.getElem_mem hlt); have h2 := HS.out; omega
      have hts : xs.take (k + 1) = xs.take k ++ [xs[k]] := List.take_succ_eq_append_getElem hlt
      have hsz : (((xs.take k).filter Item.fits).flatMap Item.out).length ≤ 4194304 := by
        have h1 := out_sum ((xs.take k).filter Item.fits)
        have h2 := sum_filter (fun x => 6 + x.s.size) Item.fits (xs.take k)
        have h3 := sum_take (fun x => 6 + x.s.size) k xs
        have h4 := HS.out
        omega
      have hyl : ((xs.take k).filter Item.fits).length ≤ 1048576 := by
        have h1 := List.length_filter_le Item.fits (xs.take k)
        rw [List.length_take] at h1
        omega
      obtain ⟨b, o, rfl⟩ := item_addr HC.out k hlt
      generalize xs[k] = x at *
      have HT := Aside0.mk hts
      have HX := Aside0.mk hxk
      clear hts hxk
      obtain ⟨ys, hys⟩ : ∃ ys, ys = (xs.take k).filter Item.fits := ⟨_, rfl⟩
      rw [← hys] at HI hsz hyl
      have HY := Aside0.mk hys
      clear hys
      have HF := fits_calls x hx wr
      obtain ⟨c0, c1, c2, c3, c4⟩ := item_at (Kd.C_below HC.out (below_then HB0.out (below_size HB0.out) HI.out.2.2.2)) k x HX.out
      cases hf : x.fits with
      | false =>
        rw [hf] at HF
        have hst : (xs.take (k + 1)).filter Item.fits = ys := by rw [HT.out, List.filter_append, HY.out, List.filter_cons_of_neg (by rw [hf]; decide), List.filter_nil, List.append_nil]
        have HN := Aside0.mk hst
        clear hst hf
        have HFF := Aside0.mk HF
        clear HF
        go_wp2_with fail
        refine HFF.out.mono ?_
        rintro e w2 ⟨rfl, hb2⟩
        have HI2 := Aside0.mk (HI.out.below hb2)
        clear HI HFF hb2
        go_wp2_with fail
        go_roundw
        case rel => exact ⟨k + 1, v, by omega, by go_num, by rw [HN.out]; exact HI2⟩
        case measure => simp [intOf]; omega
      | true =>
        rw [hf] at HF
        have hst : (xs.take (k + 1)).filter Item.fits = ys ++ [x] := by rw [HT.out, List.filter_append, HY.out, List.filter_cons_of_pos hf, List.filter_nil]
        have her := err_fits x hf
        have HN := Aside0.mk hst
        clear hst hf
        have HFF := Aside0.mk HF
        clear HF
        have HE := Aside0.mk her
        clear her
        go_wp2_with fail
        refine HFF.out.mono ?_
        rintro e w2 ⟨rfl, hb2⟩
        have HI2 := Aside0.mk (HI.out.below hb2)
        clear HI HFF hb2 c0 c1 c2 c3 c4
        obtain ⟨c0, c1, c2, c3, c4⟩ := item_at (Kd.C_below HC.out (below_then HB0.out (below_size HB0.out) HI2.out.2.2.2)) k x HX.out
        go_wp2_with fail
        have HP := put_calls x hx w0.heap.size v _ w0 w2 HI2.out.2.2.2 HI2.out.1 (by omega)
        rw [HE.out] at HP
        refine HP.mono ?_
        clear HP
        rintro e w3 ⟨rfl, v3, hs3, hb3, hm3⟩
        have hl3 := R_moved HI2.out.2.1 rfl HI2.out.1 hm3 (by decide) (by decide)
        have he3 := R_moved HI2.out.2.2.1 rfl HI2.out.1 hm3 (by decide) (by decide)
        clear HI2 hm3 c0 c1 c2 c3 c4
        obtain ⟨Al, cl, el⟩ := Kd.R_slice hl3
        obtain ⟨Ae, ce, ee⟩ := Kd.R_slice he3
        subst el ee
        obtain ⟨c0, c1, c2, c3, c4⟩ := item_at (Kd.C_below HC.out (below_then HB0.out (below_size HB0.out) hb3)) k x HX.out
        have S3 := Aside0.mk hs3
        have L3 := Aside0.mk hl3
        have E3 := Aside0.mk he3
        have B3 := Aside0.mk hb3
        clear hs3 hl3 he3 hb3
        go_wp2_with (first | ((with_reducible refine gate_builtin (b := .append) (xs := #[.tmp 32, .tmp 37]) rfl ?_); (try (refine gate_guard (by rfl) ?_; dsimp only)); at_builtin; refine Kd.R_append kItem (w0 := w0) w0.heap.size rfl (.tmp 32) (.tmp 37) 27 35 (.agg #[.int .i64 0, .int .i64 0, .int .i64 0, .int .u64 0, .string ⟨#[]⟩]) 48 rfl Try.underlying27 infoItem rfl (by decide) (by omega) (.slice Al ys.length cl) ys x x.cells (fun _ => True) (fun _ => False) rfl rfl ?aP (fun _ hk => hk.elim) ?aF ?aO ?aB ?aS ?aL ?_; (case aP => exact rfl); (case aB => exact B3.out); (case aF => exact (fun _ _ => trivial)); (case aO => exact L3.out); (case aS => exact (below_size B3.out)); (case aL => omega); intro v4 w4 ho4 hb4 hg4 hat4))
        have S4 := Aside0.mk (WS_grown S3.out L3.out hg4 (by decide) (by decide))
        have E4 := Aside0.mk (Kd.R_over E3.out L3.out (fun q hq => by
          have : q = 3 := by simpa [Kd.int, Kd.scalar] using hq
          rw [this]; decide) hg4)
        have L4 := Aside0.mk ho4
        have B4 := Aside0.mk hb4
        clear S3 L3 E3 B3 ho4 hb4 hg4 hat4 c0 c1 c2 c3 c4
        refine (Len_calls _ _ _ _ _ S4.out).mono ?_
        rintro e w5 ⟨rfl, rfl⟩
        have hol : endsL (ys ++ [x]) = endsL ys ++ [((((ys.flatMap Item.out) ++ x.out).length : Nat) : Int)] := by rw [endsL_snoc, List.flatMap_append, List.flatMap_singleton]
        have hen : (endsL ys).length ≤ 1048577 := by simp [endsL]; omega
        have HL := Aside0.mk hol
        clear hol
        generalize ((ys.flatMap Item.out) ++ x.out).length = z at HL ⊢
        go_wp2_with (first | ((with_reducible refine gate_builtin (b := .append) (xs := #[.tmp 39, .tmp 42]) rfl ?_); (try (refine gate_guard (by rfl) ?_; dsimp only)); at_builtin; refine Kd.R_append (Kd.int .i64) (w0 := w0) w0.heap.size rfl (.tmp 39) (.tmp 42) 75 3 (.int .i64 0) 8 rfl Try.underlying75 infoInt rfl (by decide) (by omega) (.slice Ae (endsL ys).length ce) (endsL ys) (z : Int) [.int .i64 (z : Int)] (fun _ => True) (fun _ => False) rfl rfl ?aP (fun _ hk => hk.elim) ?aF ?aO ?aB ?aS ?aL ?_; (case aP => exact rfl); (case aB => exact B4.out); (case aF => exact (fun _ _ => trivial)); (case aO => exact E4.out); (case aS => exact (below_size B4.out)); (case aL => omega); intro v6 w6 ho6 hb6 hg6 hat6))
        have S6 := WS_grown S4.out E4.out hg6 (by decide) (by decide)
        have L6 := Kd.R_over L4.out E4.out (fun q hq => by
          have : q = 35 := by simpa [kItem, kflat] using hq
          rw [this]; decide) hg6
        rw [← HL.out] at ho6
        have HI6 : Aside0 (BackI w0 w6 v3 v4 v6 (ys ++ [x])) := ⟨⟨by rw [List.flatMap_append, List.flatMap_singleton]; exact S6, L6, ho6, hb6⟩⟩
        clear S4 E4 L4 B4 S6 L6 ho6 hb6 hg6 hat6 HL
        go_wp2_with fail
        go_roundw
        case rel => exact ⟨k + 1, v3, by omega, by go_num, by rw [HN.out]; exact HI6⟩
        case measure => simp [intOf]; omega
    · obtain rfl : k = xs.length := by omega
      rw [List.take_length] at HI
      clear hlt hk
      obtain ⟨ys, hys⟩ : ∃ ys, ys = xs.filter Item.fits := ⟨_, rfl⟩
      rw [← hys] at HI
      have hsz : (ys.flatMap Item.out).length ≤ 4194304 := by
        have h1 := out_sum ys
        have h2 := sum_filter (fun x => 6 + x.s.size) Item.fits xs
        have h4 := HS.out
        rw [← hys] at h2
        omega
      have hyl : ys.length ≤ 1048576 := by
        have h1 := List.length_filter_le Item.fits xs
        rw [← hys] at h1
        omega
      have hyo : ∀ y ∈ ys, y.Ok ∧ y.fits = true := fun y hy => by
        rw [hys] at hy
        have := List.mem_filter.1 hy
        exact ⟨HO.out y this.1, this.2⟩
      have hna : natsOf (strOfNums (ys.flatMap Item.out)) = ys.flatMap Item.outN := flat_nats ys (fun y hy => (hyo y hy).1)
      have hss : (strOfNums (ys.flatMap Item.out)).size = (ys.flatMap Item.out).length := str_size _
      have HYO := Aside0.mk hyo
      have HNA := Aside0.mk hna
      have HSS := Aside0.mk hss
      clear hyo hna hss hys
      obtain ⟨hs, hl, he, hb⟩ := HI.out
      obtain ⟨Al, cl, el⟩ := Kd.R_slice hl
      obtain ⟨Ae, ce, ee⟩ := Kd.R_slice he
      subst el ee
      have L := Aside0.mk hl
      have E := Aside0.mk he
      have SS := Aside0.mk hs
      have B := Aside0.mk hb
      clear HI hs hl he hb
      go_wp2_with fail
      refine (Told_calls _ _ _ _ _ SS.out).mono ?_
      rintro e w2 ⟨rfl, rfl⟩
      go_wp2_with fail
      refine (Len_calls _ _ _ _ _ SS.out).mono ?_
      rintro e w2 ⟨rfl, rfl⟩
      generalize strOfNums (ys.flatMap Item.out) = S at HNA HSS ⊢
      have hss := HSS.out
      rw [← hss]
      rw [← hss] at hsz
      clear hss HSS SS
      go_wp2_with fail
      refine (newReader S wr).mono ?_
      rintro e w2 ⟨rfl, hw2⟩
      have HI2 : Aside0 (Back2 w0 w2 wr.heap.size S (.slice Al ys.length cl) (.slice Ae (endsL ys).length ce) ys 0) := by
        rw [hw2]
        exact ⟨⟨W_push _ _ _ _, Kd.R_alloc L.out _, Kd.R_alloc E.out _, B.out.alloc (below_size B.out) _, below_size B.out⟩⟩
      clear hw2 L E B
      generalize wr.heap.size = gr at HI2 ⊢
      go_wp2_with fail
      go_loopw [2, 9] (fun _ i wr => ∃ k : Nat, k ≤ ys.length ∧ i = .int .i64 k ∧ Aside0 (Back2 w0 wr gr S (.slice Al ys.length cl) (.slice Ae (endsL ys).length ce) ys ((ys.take k).flatMap Item.outN).length)) (fun _ i _ => ys.length - (intOf i).toNat)
      case atStart => exact ⟨0, Nat.zero_le _, rfl, HI2⟩
      case round =>
        clear HI2
        obtain ⟨k, hk, rfl, HI⟩ := hrel
        by_cases hlt : k < ys.length
        · have hyk : ys[k]? = some ys[k] := List.getElem?_eq_getElem hlt
          have hyy := HYO.out ys[k] (List.getElem_mem hlt)
          have hts : ys.take (k + 1) = ys.take k ++ [ys[k]] := List.take_succ_eq_append_getElem hlt
          have hsp : ys = ys.take k ++ (ys[k] :: ys.drop (k + 1)) := by rw [← List.drop_eq_getElem_cons hlt, List.take_append_drop]
          generalize ys[k] = y at *
          have hnat : natsOf S = (ys.take k).flatMap Item.outN ++ (y.outN ++ (ys.drop (k + 1)).flatMap Item.outN) := by
            rw [HNA.out]
            conv => lhs; rw [hsp]
            rw [List.flatMap_append, List.flatMap_cons]
          have hbk := bk_ok y hyy.1 hyy.2 _ _ S hnat
          have hpn : ((ys.take (k + 1)).flatMap Item.outN).length = ((ys.take k).flatMap Item.outN).length + y.outN.length := by rw [hts, List.flatMap_append, List.flatMap_singleton, List.length_append]
          have hend : (endsL ys)[k + 1]? = some ((((ys.take k).flatMap Item.outN).length + y.outN.length : Nat) : Int) := by rw [endsL_at ys (k + 1) (by omega), hpn]
          have hpl : ((ys.take k).flatMap Item.outN).length + y.outN.length ≤ S.size := by
            have := congrArg List.length hnat
            rw [natsOf_len, List.length_append, List.length_append] at this
            omega
          have HPN := Aside0.mk hpn
          clear hts hsp hnat hpn
          generalize ((ys.take k).flatMap Item.outN).length = p at *
          obtain ⟨hr, hl, he, hb, hg0⟩ := HI.out
          obtain ⟨lb, cc1, hlv, hlb1, hlb2, cells1, hlb3⟩ := Kd.R_form hl (by omega)
          obtain ⟨eb, cc2, hev, heb1, heb2, cells2, heb3⟩ := Kd.R_form he (by have := (List.getElem?_eq_some_iff.1 hend).1; omega)
          injection hlv with hlv _ hc1
          injection hev with hev _ hc2
          subst hlv hev hc1 hc2
          obtain ⟨c0, c1, c2, c3, c4⟩ := item_at (Kd.R_reads' hl).2.2 k y hyk
          have c5 := int_at (Kd.R_reads' he).2.2 (k + 1) _ hend
          rw [Nat.zero_add] at c0 c1 c2 c3 c4 c5
          have hel := (List.getElem?_eq_some_iff.1 hend).1
          have hlg : lb ≠ gr := fun h => absurd (hlb3.symm.trans (h ▸ hr)) (by simp)
          have heg : eb ≠ gr := fun h => absurd (heb3.symm.trans (h ▸ hr)) (by simp)
          have HBK : Aside0 (∀ W : World, RS W gr S p 0 → Calls Try.prog 45 #[.pointer (some ⟨gr, 0, none⟩), y.val] W fun r w' => r = .returned (.bool true) ∧ RS w' gr S (p + y.outN.length) 0 ∧ Alone1 W w' gr) := ⟨fun W h => by
            have h1 := back_calls y hyy.1 hyy.2 gr S p 0 W h (by omega) (by omega)
            rw [hbk] at h1
            exact h1⟩
          have HR := Aside0.mk hr
          have HL := Aside0.mk hl
          have HE := Aside0.mk he
          have HB := Aside0.mk hb
          clear hr hl he hb hbk HI hend hyk hyy hlb3 heb3
          generalize p + y.outN.length = q at *
          have i0 : (0 : Int) ≤ (k : Int) := by omega
          have i1 : (k : Int) < (ys.length : Int) := by omega
          have i2 : (0 : Int) ≤ (k : Int) + 1 := by omega
          have i3 : (k : Int) + 1 < ((endsL ys).length : Int) := by omega
          have i4 : ((k : Int) + 1).toNat = k + 1 := by omega
          have i5 : IntKind.i64.wrap ((k : Int) + 1) = (k : Int) + 1 := by rw [i64_w]; unfold wrap64; omega
          have i6 : IntKind.i64.wrap ((S.size : Int) - (q : Int)) = (S.size : Int) - (q : Int) := by rw [i64_w]; unfold wrap64; omega
          go_wp2_with fail
          go_region_held3 (fun W' : World => W'.cell? ⟨lb, k * 5, none⟩ = some (.int .i64 y.who) ∧ W'.cell? ⟨lb, k * 5 + 1, none⟩ = some (.int .i64 y.kind) ∧ W'.cell? ⟨lb, k * 5 + 2, none⟩ = some (.int .i64 y.n) ∧ W'.cell? ⟨lb, k * 5 + 3, none⟩ = some (.int .u64 (y.v : Int)) ∧ W'.cell? ⟨lb, k * 5 + 4, none⟩ = some (.string y.s) ∧ W'.cell? ⟨eb, k + 1, none⟩ = some (.int .i64 (q : Int))) (first | go_keep | (go_split_ands; refine ⟨?_, ?_, ?_, ?_, ?_, ?_⟩ <;> go_keep)) (first | (go_at_call 45; refine (HBK.out _ ?_).mono ?_; (first | exact HR.out | exact blk_drew HR.out | exact blk_drewN HR.out _); rintro e_ w1 ⟨rfl, h1, h2⟩; have k0 : w1.cell? ⟨lb, k * 5, none⟩ = some (.int .i64 y.who) := (a1_cell h2 lb (k * 5) hlg hlb2).trans c0; have k1 : w1.cell? ⟨lb, k * 5 + 1, none⟩ = some (.int .i64 y.kind) := (a1_cell h2 lb (k * 5 + 1) hlg hlb2).trans c1; have k2 : w1.cell? ⟨lb, k * 5 + 2, none⟩ = some (.int .i64 y.n) := (a1_cell h2 lb (k * 5 + 2) hlg hlb2).trans c2; have k3 : w1.cell? ⟨lb, k * 5 + 3, none⟩ = some (.int .u64 (y.v : Int)) := (a1_cell h2 lb (k * 5 + 3) hlg hlb2).trans c3; have k4 : w1.cell? ⟨lb, k * 5 + 4, none⟩ = some (.string y.s) := (a1_cell h2 lb (k * 5 + 4) hlg hlb2).trans c4; have k5 : w1.cell? ⟨eb, k + 1, none⟩ = some (.int .i64 (q : Int)) := (a1_cell h2 eb (k + 1) heg heb2).trans c5) | (go_at_call 27; refine (Err_calls (s := S) (p := q) (e := 0) ?_).mono ?_; (first | exact h1 | exact blk_drew h1 | exact blk_drewN h1 _); rintro e_ w2 ⟨rfl, rfl⟩) | (go_at_call 25; refine (At_calls (s := S) (p := q) (e := 0) ?_).mono ?_; (first | exact h1 | exact blk_drew h1 | exact blk_drewN h1 _); rintro e_ w2 ⟨rfl, rfl⟩) | (go_at_call 26; refine (RLeft_calls (s := S) (p := q) (e := 0) ?_ (by omega) (by omega)).mono ?_; (first | exact h1 | exact blk_drew h1 | exact blk_drewN h1 _); rintro e_ w2 ⟨rfl, m2, rfl⟩))
          have a2 : Alone1 wr w1 gr := (Alone1_drewN wr 1 gr).trans h2
          have HF : Aside0 (Back2 w0 (w1.drewN m2) gr S (.slice (some ⟨lb, 0, none⟩) ys.length cl) (.slice (some ⟨eb, 0, none⟩) (endsL ys).length ce) ys q) :=
            ⟨⟨blk_drewN h1 m2, Kd.R_drewN (R_alone1 HL.out rfl HR.out a2 (by decide)) m2, Kd.R_drewN (R_alone1 HE.out rfl HR.out a2 (by decide)) m2, pw_below_drewN (below_alone1 HB.out a2 hg0 (below_size HB.out)) m2, hg0⟩⟩
          clear h1 h2 a2 HL HE HR HB c0 c1 c2 c3 c4 c5 i0 i1 i2 i4 i5 i6 HBK
          go_wp2_with fail
          go_roundw
          case rel => exact ⟨k + 1, by omega, by go_num, by rw [HPN.out]; exact HF⟩
          case measure => simp [intOf]; omega
        · obtain rfl : k = ys.length := by omega
          rw [List.take_length] at HI
          have hzz : (ys.flatMap Item.outN).length = S.size := by rw [← HNA.out, natsOf_len]
          rw [hzz] at HI
          clear hzz
          obtain ⟨hr, _, _, hb, _⟩ := HI.out
          clear HI
          go_wp2_with fail
          refine (End_done hr (Nat.le_refl _)).mono ?_
          rintro e w3 ⟨rfl, m3, rfl⟩
          go_wp2_with fail
          go_ret
          exact ⟨rfl, below_then HB0.out (below_size HB0.out) (pw_below_drewN hb m3)⟩
end Go.Proofs.Ytikfdfagnalmbaa.My
