/- Every Decode: the law's walk. -/
import Derived.Test.YtjfhdnknaphjaaaPgDecRef
namespace Go.Proofs.Ytjfhdnknaphjaaa.My
open Go.RowKit Go.Proofs.Ytjfhdnknaphjaaa.PF Go.Proofs.YtjfhdnknaphjaaaW.PrintWords Go.Proofs.YtjfhdnknaphjaaaW.PrintLast Go.Proofs.YtjfhdnknaphjaaaW.PrintMore Go.Proofs.Ytjfhdnknaphjaaa
attribute [local go_sem] max2_int min2_int max_two min_two max_three min_three max_four min_four
set_option linter.unusedSimpArgs false
set_option linter.unusedVariables false
theorem visC {x yF : List Int} {N : Nat} {e base c : Nat} {ok : Nat → Prop} {A : Option Addr} {W : World} (h : yF = x ++ marks) (hN : x.length = N) (hR : Kd.R (Kd.int .u8) e W base ok (.slice A yF.length c) yF) : Kd.C (Kd.int .u8) W A N x := by
  subst hN
  have hC := (Kd.R_reads' hR).2.2
  have h1 := Kd.C_take (m := x.length) hC (by rw [h, List.length_append]; omega)
  rw [h, List.take_left'] at h1
  · exact h1
  · rfl
theorem visL {x yF : List Int} {N : Nat} {e base c : Nat} {ok : Nat → Prop} {A : Option Addr} {W : World} (h : yF = x ++ marks) (hN : x.length = N) (hR : Kd.R (Kd.int .u8) e W base ok (.slice A yF.length c) yF) : N ≤ c := by
  have := (Kd.R_reads' hR).2.1
  rw [h, List.length_append] at this; omega
theorem page_DecodeN (N : Nat) (A0 : Option Addr) (c0 : Nat) (l0 : List Int) (hN : l0.length = N) (a1 : Int) (r1 r2 r3 : Int) (r4 : ByteArray) (r5 : Int) (w : World) (hr0 : Kd.C (Kd.int .u8) w A0 N l0) (hc0 : N ≤ c0) (h : page_Decode.f l0 a1 = some (r1, r2, r3, r4, r5)) :
    Calls Try.prog 20 #[.slice A0 N c0, .int .u32 a1] w fun e w' => e = .returned (.tuple #[.agg #[.int .u8 r1, .int .u32 r2, .int .u64 r3, .string r4], .int .i64 r5]) ∧ Below w.heap.size w w' := by
  subst hN; exact page_Decode.calls A0 c0 l0 a1 r1 r2 r3 r4 r5 w hr0 hc0 h
theorem row_set {A : Option Addr} {c base j : Nat} {W : World} {xs : List Int} (hR : Kd.R (Kd.int .u8) 5 W base (fun _ => True) (.slice A xs.length c) xs) (hj : j < xs.length) :
    ∃ g, A = some ⟨g, 0, none⟩ ∧ base ≤ g ∧ W.cell? ⟨g, j, none⟩ = some (.int .u8 xs[j]) ∧ W.frozen? ⟨g, j, none⟩ = false ∧ (∃ cs, W.heap[g]? = some (.cells cs 5 (0, 0))) ∧ ∀ v, Kd.R (Kd.int .u8) 5 (W.setCell ⟨g, j, none⟩ (.int .u8 v)) base (fun _ => True) (.slice A (xs.set j v).length c) (xs.set j v) := by
  obtain ⟨h0, h | ⟨g, cap, cur, ev, hbg, hblk, h1, h2, h3, h4⟩⟩ := Kd.own_of_R hR
  · omega
  · injection ev with e1 e2 e3
    subst e1
    subst e3
    rw [Nat.mul_one] at h3 h4
    refine ⟨g, rfl, hbg, ?_, blk_frozen hblk j, ⟨cur, hblk⟩, fun v => ?_⟩
    · rw [blk_cell hblk j]
      have h5 : (cur.toList.take xs.length)[j]? = some (.int .u8 xs[j]) := by rw [h4]; simp [encs, List.getElem?_eq_getElem hj]
      rw [List.getElem?_take_of_lt hj] at h5
      simpa using h5
    · refine Kd.R_of_own ⟨by simp [encs], .inr ⟨g, c, _, rfl, hbg, blk_set hblk j _, by rw [List.length_set]; exact h1, h2, by simp [h3], ?_⟩⟩ (fun _ _ => trivial)
      rw [Nat.mul_one, List.length_set, Array.toList_setIfInBounds, List.take_set, h4]
      simp [encs, List.map_set]
set_option maxRecDepth 100000 in
set_option maxHeartbeats 8000000 in
theorem PageDecodes_go (w : World) (A0 : Option Addr) (c0 : Nat) (l : List Int) (n : Nat) (hr : Kd.C (Kd.int .u8) w A0 l.length l) (hc : l.length ≤ c0) (hb : Bytes l) (hl : l.length ≤ 140737488351232) (hn : n < 4294967296) :
    Calls Try.prog 5 #[.slice A0 l.length c0, .int .u32 n] w fun e w' => e = .returned (.bool true) ∧ Below w.heap.size w w' := by
  have hu33 := Try.underlying33
  go_enter Try.func5, Try.ntmps5
  go_wp2_with fail
  refine (lentX.calls _ A0 c0 l (l ++ marks) w hr hc (lentX_f l hl)).mono ?_
  rintro e w1 ⟨A, c, rfl, hR0, HB0⟩
  have HR0 := Aside0.mk hR0
  have HB := Aside0.mk HB0
  clear hr hR0 HB0
  go_wp2_with fail
  go_loopw [6] (fun i wr => ∃ (k : Nat) (x : List Int), k ≤ 2 ∧ i = .int .i64 k ∧ x.length = l.length ∧ Bytes x ∧ Aside0 (Kd.R (Kd.int .u8) 5 wr w.heap.size (fun _ => True) (.slice A (x ++ marks).length c) (x ++ marks)) ∧ Aside0 (Below w.heap.size w wr)) (fun i _ => 2 - (intOf i).toNat)
  case atStart => exact ⟨0, l, by omega, rfl, rfl, hb, HR0, HB⟩
  case round =>
    clear HR0 HB hb
    obtain ⟨k, x, hk, rfl, hxl, hbx, HO5, HB⟩ := hrel
    by_cases hlt : k < 2
    · obtain ⟨yF, hyF⟩ : ∃ y, y = x ++ marks := ⟨_, rfl⟩
      rw [← hyF] at HO5
      have HO_5 := HO5
      clear HO5
      have HYF := Aside0.mk hyF
      have HNL := Aside0.mk hxl
      obtain ⟨y149, hy149⟩ : ∃ y_ : List Int, y_ = (([] : List Int)) := ⟨_, rfl⟩
      have Ny149 := Aside0.mk hy149
      have hyl : y149.length = 0 := by rw [hy149]; rfl
      obtain ⟨y152, hy152⟩ : ∃ y_ : List Int, y_ = (y149 ++ x) := ⟨_, rfl⟩
      have Ny152 := Aside0.mk hy152
      have hy2 : y152 = x := by rw [hy152, hy149]; rfl
      obtain ⟨a1, ha1⟩ : ∃ a1 : Int, a1 = (n : Int) := ⟨_, rfl⟩
      obtain ⟨t155, t156, t157, t158, t159, hdec⟩ : ∃ a b c d e, decL x n = (a, b, c, d, e) := ⟨_, _, _, _, _, rfl⟩
      have A7 : Aside0 (concordref05_Decode.f 9 (strOfNums y152) a1 = some (t155, t156, t157, t158, t159)) := ⟨by rw [hy2, ha1, refDecode_f 9 x n (by omega) hbx hn, hdec]⟩
      have A8 : Aside0 (page_Decode.f x a1 = some (t155, t156, t157, t158, t159)) := ⟨by rw [ha1]; unfold page_Decode.f; rw [if_pos ⟨hbx, by omega, by omega⟩, Int.toNat_natCast, hdec]⟩
      have LMc6 : Aside0 (y149.length + x.length < 140737488355328) := ⟨by omega⟩
      have HY2 := Aside0.mk hy2
      have HBX := Aside0.mk hbx
      rw [← ha1, ← hxl]
      have hxb : x.length ≤ 140737488351232 := by omega
      have HA1 := Aside0.mk ha1
      clear hy149 hy152 hy2 hdec hyF hxl hyl hbx ha1
      go_wp2_with (first | ((with_reducible refine gate_dst (N := 19) rfl ?_); refine Kd.R_lit (Kd.int .u8) _ 5 ?hg (N := 19) ?hd (xs := ([] : List Int)) (inner := []) (ok := fun _ => True) (okp := fun _ => True) ?hr ?hp (fun _ hk => hk) trivial (Below.refl _ _) (Nat.le_refl _) (by simp) ?_; (case hd => rfl); (case hg => rfl); (case hr => first | (go_simp; done) | (go_simp; rfl)); (case hp => exact (Reps.none _ _)); intro v150 w10 ho11 hb hg_ hnew_; clear hg_ hnew_; (first | rw [← Ny149.out] at ho11 | (simp only [Int.reduceToNat] at ho11; rw [← Ny149.out] at ho11)); have n0_ := Aside0.mk (Kd.R_elder' (by (with_reducible repeat (first | apply Kd.R_alloc | apply Kd.R_drewN | apply Kd.R_drew)); exact HO_5.out) (Kd.R_base ho11) hb); have n1_ := Aside0.mk (Kd.R_lower (Kd.R_new' ho11 (Kd.R_lt (by (with_reducible repeat (first | apply Kd.R_alloc | apply Kd.R_drewN | apply Kd.R_drew)); exact HO_5.out))) (below_size (by repeat (first | (with_reducible first | exact HB.out | apply below_alloc | apply pw_below_drewN | apply below_drew1) | exact HB.out)))); have n2_ := Aside0.mk (below_step (by repeat (first | (with_reducible first | exact HB.out | apply below_alloc | apply pw_below_drewN | apply below_drew1) | exact HB.out)) hb); clear HO_5; clear HB; have HO_5 := n0_; have HO151 := n1_; have HB := n2_; clear n0_ n1_ n2_; clear hb ho11) | ((with_reducible refine gate_builtin (b := .append) (xs := #[.tmp 19, .tmp 20]) rfl ?_); at_builtin; refine Kd.R_append_rows (Kd.int .u8) (w0 := w) w.heap.size rfl (.tmp 19) (.tmp 20) 22 5 (.int .u8 0) 1 rfl Try.underlying22 PF.info5 rfl (by decide) (by omega) v150 y149 x _ _ _ (fun k_ => some k_ ≠ (.slice A yF.length c : Value).ownBlock) (fun _ => False) rfl rfl ?aO ?aR (fun _ _ h => h) (fun _ h => h.elim) ?aF ?aB ?aS ?aL ?_; (case aR => repeat (first | exact (visC HYF.out rfl HO_5.out) | (with_reducible refine Kd.C_alloc ?_ _) | (with_reducible refine Kd.C_drewN ?_ _) | (with_reducible refine Kd.C_drew ?_))); (case aB => exact (by repeat (first | (with_reducible first | exact HB.out | apply below_alloc | apply pw_below_drewN | apply below_drew1) | exact HB.out))); (case aF => exact (fun k_ hk => Kd.fresh' (Kd.R_lt (by (with_reducible repeat (first | apply Kd.R_alloc | apply Kd.R_drewN | apply Kd.R_drew)); exact HO_5.out)) k_ hk)); (case aO => exact (by (with_reducible repeat (first | apply Kd.R_alloc | apply Kd.R_drewN | apply Kd.R_drew)); exact Kd.R_mono HO151.out (fun _ hk => hk.2))); (case aS => exact (below_size (by repeat (first | (with_reducible first | exact HB.out | apply below_alloc | apply pw_below_drewN | apply below_drew1) | exact HB.out)))); (case aL => have := LMc6.out; omega); intro v153 w12 ho hb hg hat; rw [← Ny152.out] at ho; have n0_ := Aside0.mk (Kd.R_after (ok := (fun _ => True)) (by (with_reducible repeat (first | apply Kd.R_alloc | apply Kd.R_drewN | apply Kd.R_drew)); exact HO_5.out) hg hat); have n1_ := Aside0.mk (hb); have n2_ := Aside0.mk (ho); clear HO_5; clear HB; clear HO151; have HO_5 := n0_; have HB := n1_; have HO154 := n2_; clear n0_ n1_ n2_; clear ho hb hg hat; have hcv14 := own_string (P := Try.prog) Try.underlying22 Try.underlying5 Try.underlying9 (Kd.own_of_R HO154.out)) | ((with_reducible refine gate_callee (f := 19) rfl ?_); refine goesL_ (some 26) rfl rfl Try.func19 (by kernel_rfl) rfl #[.string (strOfNums y152), .int .u32 a1] rfl (by (try simp only [List.map_toArray, List.map_cons, List.map_nil]); first | done | rfl | (simp only [List.length_drop, List.length_take]; rfl)) ?_; (with_reducible refine (concordref05_Decode.calls 9 (strOfNums y152) a1 t155 t156 t157 t158 t159 _ A7.out).mono ?_); rintro e w15 ⟨rfl, hb⟩; refine ⟨_, rfl, ?_⟩; have n0_ := Aside0.mk (Kd.R_below (by (with_reducible repeat (first | apply Kd.R_alloc | apply Kd.R_drewN | apply Kd.R_drew)); exact HO_5.out) hb); have n1_ := Aside0.mk (Kd.R_below (by (with_reducible repeat (first | apply Kd.R_alloc | apply Kd.R_drewN | apply Kd.R_drew)); exact HO154.out) hb); have n2_ := Aside0.mk (below_step (by repeat (first | (with_reducible first | exact HB.out | apply below_alloc | apply pw_below_drewN | apply below_drew1) | exact HB.out)) hb); clear HO_5; clear HO154; clear HB; have HO_5 := n0_; have HO154 := n1_; have HB := n2_; clear n0_ n1_ n2_; (try clear hb); (try clear hb2); (try clear hk); (try clear hi)) | ((with_reducible refine gate_dst (N := 8) rfl ?_); refine box_event ?hg (N := 8) ?hd (cs := #[.int .u8 0, .int .u32 0, .int .u64 0, .string (⟨#[]⟩ : ByteArray)]) (t := 33) ?hr ?_; (case hd => rfl); (case hg => rfl); (case hr => first | (go_simp; done) | (go_simp; rfl)); intro gb160 hg w16 hbox hb; have n0_ := Aside0.mk (Kd.R_below (by (with_reducible repeat (first | apply Kd.R_alloc | apply Kd.R_drewN | apply Kd.R_drew)); exact HO_5.out) hb); have n1_ := Aside0.mk (Kd.R_below (by (with_reducible repeat (first | apply Kd.R_alloc | apply Kd.R_drewN | apply Kd.R_drew)); exact HO154.out) hb); have n2_ := Aside0.mk (below_step (by repeat (first | (with_reducible first | exact HB.out | apply below_alloc | apply pw_below_drewN | apply below_drew1) | exact HB.out)) hb); have n3_ := Aside0.mk (hbox); have n4_ := Aside0.mk ((by rw [hg]; exact (below_size (by repeat (first | (with_reducible first | exact HB.out | apply below_alloc | apply pw_below_drewN | apply below_drew1) | exact HB.out))) : w.heap.size ≤ gb160)); have n5_ := Aside0.mk ((by rw [hg]; exact (below_size (by repeat (first | (with_reducible first | exact HB.out | apply below_alloc | apply pw_below_drewN | apply below_drew1) | exact HB.out))) : w.heap.size ≤ gb160)); clear HO_5; clear HO154; clear HB; have HO_5 := n0_; have HO154 := n1_; have HB := n2_; have BK160 := n3_; have GW160 := n4_; have GE160 := n5_; clear n0_ n1_ n2_ n3_ n4_ n5_; clear hb hbox hg; have hcz17_0 : w16.cell? ⟨gb160, 0, none⟩ = some (.int .u8 0) := (blk_cell BK160.out 0).trans rfl; have hcz17_1 : w16.cell? ⟨gb160, 1, none⟩ = some (.int .u32 0) := (blk_cell BK160.out 1).trans rfl; have hcz17_2 : w16.cell? ⟨gb160, 2, none⟩ = some (.int .u64 0) := (blk_cell BK160.out 2).trans rfl; have hcz17_3 : w16.cell? ⟨gb160, 3, none⟩ = some (.string (⟨#[]⟩ : ByteArray)) := (blk_cell BK160.out 3).trans rfl; have hfz17_0 := blk_frozen BK160.out 0; have hfz17_1 := blk_frozen BK160.out 1; have hfz17_2 := blk_frozen BK160.out 2; have hfz17_3 := blk_frozen BK160.out 3))
      generalize hW2 : (((w16.setCell ⟨gb160, 0, none⟩ (Value.int IntKind.u8 t155)).setCell ⟨gb160, 1, none⟩ (Value.int IntKind.u32 t156)).setCell ⟨gb160, 2, none⟩ (Value.int IntKind.u64 t157)).setCell ⟨gb160, 3, none⟩ (Value.string t158) = W2
      have F5 : Kd.R (Kd.int .u8) 5 W2 w.heap.size (fun k_ => True ∧ some k_ ≠ (v153 : Value).ownBlock) (.slice A yF.length c) yF := by
        rw [← hW2]
        exact Kd.R_mono (Kd.R_far (p := ⟨gb160, 3, none⟩) (Kd.R_far (p := ⟨gb160, 2, none⟩) (Kd.R_far (p := ⟨gb160, 1, none⟩) (Kd.R_far (p := ⟨gb160, 0, none⟩) (Kd.R_types HO_5.out BK160.out (by decide)) (fun _ hk => hk.2) (.int .u8 t155)) (fun _ hk => hk.2) (.int .u32 t156)) (fun _ hk => hk.2) (.int .u64 t157)) (fun _ hk => hk.2) (.string t158)) (fun _ h_ => h_.1)
      have F154 : Kd.R (Kd.int .u8) 5 W2 w.heap.size (fun k_ => True) v153 y152 := by
        rw [← hW2]
        exact Kd.R_mono (Kd.R_far (p := ⟨gb160, 3, none⟩) (Kd.R_far (p := ⟨gb160, 2, none⟩) (Kd.R_far (p := ⟨gb160, 1, none⟩) (Kd.R_far (p := ⟨gb160, 0, none⟩) (Kd.R_types HO154.out BK160.out (by decide)) (fun _ hk => hk.2) (.int .u8 t155)) (fun _ hk => hk.2) (.int .u32 t156)) (fun _ hk => hk.2) (.int .u64 t157)) (fun _ hk => hk.2) (.string t158)) (fun _ _ => trivial)
      have FB : W2.heap[gb160]? = some (.cells #[.int .u8 t155, .int .u32 t156, .int .u64 t157, .string t158] 33 (0, 0)) := by
        rw [← hW2]
        exact blk_set (blk_set (blk_set (blk_set BK160.out 0 _) 1 _) 2 _) 3 _
      have FW : Below w.heap.size w W2 := by
        rw [← hW2]
        exact below_set (below_set (below_set (below_set HB.out GE160.out) GE160.out) GE160.out) GE160.out
      clear hW2 HO_5 HO154 BK160 HB
      refine (page_Decode.calls A c x a1 t155 t156 t157 t158 t159 _ (visC HYF.out rfl F5) (visL HYF.out rfl F5) A8.out).mono ?_
      rintro e w18 ⟨rfl, hb⟩
      have HO_5 := Aside0.mk (Kd.R_below F5 hb)
      have HO154 := Aside0.mk (Kd.R_below F154 hb)
      have BK160 := Aside0.mk (blk_below FB hb)
      have HB := Aside0.mk (below_step FW hb)
      clear F5 F154 FB FW hb
      have hgl : gb160 < w18.heap.size := blk_lt BK160.out
      have hgn : gb160 ≠ w18.heap.size := Nat.ne_of_lt hgl
      have hz0 : w18.cell? ⟨gb160, 0, none⟩ = some (.int .u8 t155) := (blk_cell BK160.out 0).trans rfl
      have hz1 : w18.cell? ⟨gb160, 1, none⟩ = some (.int .u32 t156) := (blk_cell BK160.out 1).trans rfl
      have hz2 : w18.cell? ⟨gb160, 2, none⟩ = some (.int .u64 t157) := (blk_cell BK160.out 2).trans rfl
      have hz3 : w18.cell? ⟨gb160, 3, none⟩ = some (.string t158) := (blk_cell BK160.out 3).trans rfl
      go_wp2_with fail
      have FP : (w18.alloc (.cells #[.int .u8 t155, .int .u32 t156, .int .u64 t157, .string t158] 33)).heap[w18.heap.size]? = some (.cells #[.int .u8 t155, .int .u32 t156, .int .u64 t157, .string t158] 33 (0, 0)) := by show (w18.heap.push _)[w18.heap.size]? = _; rw [Array.getElem?_push_size]
      generalize hW3 : w18.alloc (.cells #[.int .u8 t155, .int .u32 t156, .int .u64 t157, .string t158] 33) = W3 at FP ⊢
      have F5 : Kd.R (Kd.int .u8) 5 W3 w.heap.size (fun _ => True) (.slice A yF.length c) yF := by rw [← hW3]; exact Kd.R_mono (Kd.R_alloc HO_5.out _) (fun _ _ => trivial)
      have F154 : Kd.R (Kd.int .u8) 5 W3 w.heap.size (fun _ => True) v153 y152 := by rw [← hW3]; exact Kd.R_alloc HO154.out _
      have FB : W3.heap[gb160]? = some (.cells #[.int .u8 t155, .int .u32 t156, .int .u64 t157, .string t158] 33 (0, 0)) := by rw [← hW3]; exact blk_alloc BK160.out _
      have FW : Below w.heap.size w W3 := by rw [← hW3]; exact HB.out.alloc (below_size HB.out) _
      have hgp : w.heap.size ≤ w18.heap.size := below_size HB.out
      clear hW3 hz0 hz1 hz2 hz3 HO_5 HO154 BK160 HB
      obtain ⟨A1, c1, ev⟩ := Kd.R_slice F154
      subst ev
      rw [HY2.out] at F154 ⊢
      generalize w18.heap.size = gp at FP hgl hgn hgp ⊢
      have hCF := (Kd.R_reads' F5).2.2
      have hcF := (Kd.R_reads' F5).2.1
      rw [HYF.out] at hCF hcF
      refine (keptX.calls A c x A1 c1 W3 hCF (by rw [List.length_append, marks_len] at hcF; exact hcF) (Kd.R_reads' F154).2.2 (by omega)).mono ?_
      rintro e w' ⟨rfl, ⟨nd, rfl⟩⟩
      clear hCF hcF F154
      rw [HYF.out] at F5
      have G5 := Aside0.mk (Kd.R_drewN F5 nd)
      have GB := Aside0.mk (blk_drewN FB nd)
      have GP := Aside0.mk (blk_drewN FP nd)
      have GW := Aside0.mk (pw_below_drewN FW nd)
      clear F5 FB FP FW
      go_wp2_with fail
      go_loopw [12] (fun i wr2 => ∃ (j : Nat) (xc : List Int), j ≤ x.length ∧ i = .int .i64 j ∧ xc.length = x.length ∧ Bytes xc ∧ Aside0 (Kd.R (Kd.int .u8) 5 wr2 w.heap.size (fun _ => True) (.slice A (xc ++ marks).length c) (xc ++ marks)) ∧ Aside0 (wr2.heap[gb160]? = some (.cells #[.int .u8 t155, .int .u32 t156, .int .u64 t157, .string t158] 33 (0, 0))) ∧ Aside0 (wr2.heap[gp]? = some (.cells #[.int .u8 t155, .int .u32 t156, .int .u64 t157, .string t158] 33 (0, 0))) ∧ Aside0 (Below w.heap.size w wr2)) (fun i _ => x.length - (intOf i).toNat)
      case atStart => exact ⟨0, x, by omega, rfl, rfl, HBX.out, G5, GB, GP, GW⟩
      case round =>
        clear G5 GB GP GW
        obtain ⟨j, xc, hj, rfl, hxc, hbc, G5, GB, GP, GW⟩ := hrel
        by_cases hjl : j < x.length
        · have hjc : j < xc.length := by omega
          obtain ⟨g, rfl, hbg, hcell, hfr, ⟨cs, hblk⟩, hset⟩ := row_set G5.out (show j < (xc ++ marks).length by rw [List.length_append]; omega)
          rw [List.getElem_append_left hjc] at hcell
          have hxj := hbc _ (List.getElem_mem hjc)
          obtain ⟨b, hb0⟩ := Int.eq_ofNat_of_zero_le hxj.1
          rw [hb0] at hcell
          have hxor : Go.bits .xor .u8 (b : Int) 1 = ((b ^^^ 1 : Nat) : Int) := u8_xor_nat b 1 (by omega) (by omega)
          have hbl : b ^^^ 1 < 256 := Nat.xor_lt_two_pow (n := 8) (by omega) (by omega)
          have hs1 := hset ((b ^^^ 1 : Nat) : Int)
          rw [List.set_append_left _ _ hjc] at hs1
          have HS1 := Aside0.mk hs1
          have hn1 : gb160 ≠ g := blk_ne GB.out hblk (by decide)
          have hn2 : gp ≠ g := blk_ne GP.out hblk (by decide)
          have HBC := Aside0.mk hbc
          clear hs1 hset hblk hb0 hxj hbc
          go_wp2_with fail
          refine ⟨⟨j + 1, xc.set j ((b ^^^ 1 : Nat) : Int), by omega, rfl, by rw [List.length_set]; exact hxc, ?_, HS1, ⟨blk_far GB.out hn1 _⟩, ⟨blk_far GP.out hn2 _⟩, ⟨below_set GW.out hbg⟩⟩, ?_⟩
          · intro y hy
            rcases List.mem_or_eq_of_mem_set hy with hy | rfl
            · exact HBC.out y hy
            · omega
          · simp [intOf]; omega
        · obtain rfl : j = x.length := by omega
          have y0 := (blk_cell GB.out 0).trans rfl
          have hz0 : wr.cell? ⟨gb160, 0, none⟩ = some (.int .u8 t155) := (blk_cell GB.out 0).trans rfl
          have hz1 : wr.cell? ⟨gb160, 1, none⟩ = some (.int .u32 t156) := (blk_cell GB.out 1).trans rfl
          have hz2 : wr.cell? ⟨gb160, 2, none⟩ = some (.int .u64 t157) := (blk_cell GB.out 2).trans rfl
          have hz3 : wr.cell? ⟨gb160, 3, none⟩ = some (.string t158) := (blk_cell GB.out 3).trans rfl
          have hp0 : wr.cell? ⟨gp, 0, none⟩ = some (.int .u8 t155) := (blk_cell GP.out 0).trans rfl
          have hp1 : wr.cell? ⟨gp, 1, none⟩ = some (.int .u32 t156) := (blk_cell GP.out 1).trans rfl
          have hp2 : wr.cell? ⟨gp, 2, none⟩ = some (.int .u64 t157) := (blk_cell GP.out 2).trans rfl
          have hp3 : wr.cell? ⟨gp, 3, none⟩ = some (.string t158) := (blk_cell GP.out 3).trans rfl
          clear y0
          go_wp2_with fail
          refine ⟨⟨k + 1, xc, by omega, by go_num, hxc, hbc, G5, GW⟩, ?_⟩
          simp [intOf]
          omega
    · obtain rfl : k = 2 := by omega
      go_wp2_with fail
      go_ret
      exact ⟨rfl, HB.out⟩
theorem PageDecodes_walk (w : World) (a : Option Addr) (len cap : Nat) (z : List Int) (hr : IsRow .u8 w a len cap z) (y : len * 1 ≤ 140737488351232) (b : Int) (hb : (Lit.int .u32 b).wf = true) :
    Calls Try.prog 5 #[.slice a len cap, .int .u32 b] w fun e w' => e = .returned (.bool true) ∧ Below w.heap.size w w' := by
  have hb := wf32 hb
  obtain ⟨b, rfl⟩ := Int.eq_ofNat_of_zero_le hb.1
  obtain ⟨l, rfl, hrd, _, hwf, hc⟩ := ReadsInt.ofRowC hr
  exact PageDecodes_go w a cap l b (Kd.C_of_reads (d := (0 : Int)) (h1 := fun _ => rfl) hrd) hc (fun x hx => wf8 (hwf x hx)) (by omega) (by omega)
end Go.Proofs.Ytjfhdnknaphjaaa.My
