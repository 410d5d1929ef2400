/- cut; same of two lists of what was heard. -/
import Derived.Test.YtgboppgghidgbaaFrHears
import Derived.Test.YtgboppgghidgbaaPHx1
namespace Go.Proofs.Ytgboppgghidgbaa.My
open Go.RowKit Go.Proofs.YtgboppgghidgbaaW.PrintWords Go.Proofs.YtgboppgghidgbaaW.PrintLast Go.Proofs.YtgboppgghidgbaaW.PrintMore Go.Proofs.Ytgboppgghidgbaa
set_option linter.unusedSimpArgs false
set_option linter.unusedVariables false
set_option maxRecDepth 100000
set_option maxHeartbeats 4000000
attribute [local go_sem high] PH.eqA28
attribute [local go_sem] max2_int min2_int max_two min_two
theorem add_lq (b o n : Nat) : (⟨b, o, none⟩ : Addr).add n = ⟨b, o + n, none⟩ := by
  unfold Addr.add
  by_cases h : n = 0
  · subst h; rfl
  · rw [if_neg h]
theorem ht_at {w : World} {b o n : Nat} {xs : List Ht} (h : kHt.C w (some ⟨b, o, none⟩) n xs) (k : Nat) (x : Ht) (hk : xs[k]? = some x) : w.cell? ⟨b, o + k * 9, none⟩ = some (.int .u8 x.a) ∧ w.cell? ⟨b, o + k * 9 + 1, none⟩ = some (.int .u8 x.b) ∧ w.cell? ⟨b, o + k * 9 + 2, none⟩ = some (.int .u8 x.c) ∧ w.cell? ⟨b, o + k * 9 + 3, none⟩ = some (.int .u16 x.d) ∧ w.cell? ⟨b, o + k * 9 + 4, none⟩ = some (.int .u32 x.e) ∧ w.cell? ⟨b, o + k * 9 + 5, none⟩ = some (.int .u64 x.t) ∧ w.cell? ⟨b, o + k * 9 + 6, none⟩ = some (.int .u32 x.g) ∧ w.cell? ⟨b, o + k * 9 + 7, none⟩ = some (.bool x.h) ∧ w.cell? ⟨b, o + k * 9 + 8, none⟩ = some (.string x.s) := by
  obtain ⟨hn, _, h2⟩ := h
  have hl := (List.getElem?_eq_some_iff.1 hk).1
  obtain ⟨ad, e, hc⟩ := h2 (by omega)
  obtain rfl := Option.some.inj e
  obtain ⟨c, _, hc2, hc3⟩ := hc k x hk
  have hc4 : c = x.cells := hc2
  subst hc4
  have g0 := hc3 0 _ rfl
  have g1 := hc3 1 _ rfl
  have g2 := hc3 2 _ rfl
  have g3 := hc3 3 _ rfl
  have g4 := hc3 4 _ rfl
  have g5 := hc3 5 _ rfl
  have g6 := hc3 6 _ rfl
  have g7 := hc3 7 _ rfl
  have g8 := hc3 8 _ rfl
  rw [add_lq] at g0 g1 g2 g3 g4 g5 g6 g7 g8
  exact ⟨g0, g1, g2, g3, g4, g5, g6, g7, g8⟩
theorem int_aq {w : World} {b o n : Nat} {es : List Int} (h : (Kd.int .i64).C w (some ⟨b, o, none⟩) n es) (k : Nat) (z : Int) (hk : es[k]? = some z) : w.cell? ⟨b, o + k, none⟩ = some (.int .i64 z) := by
  obtain ⟨hn, _, h2⟩ := h
  have hl := (List.getElem?_eq_some_iff.1 hk).1
  obtain ⟨ad, e, hc⟩ := h2 (by omega)
  obtain rfl := Option.some.inj e
  obtain ⟨c, _, hc2, hc3⟩ := hc k z hk
  have hc4 : c = [.int .i64 z] := hc2
  subst hc4
  have g0 := hc3 0 _ rfl
  rw [add_lq, show k * (Kd.int .i64).sz + 0 = k from Nat.mul_one k] at g0
  exact g0
/-- In same's loop. -/
def SmI (w wr : World) (ga : Nat) (lo lo2 : Nat) (vF vP uF uP : Value) (fs : List Ht) (ps : List Int) : Prop :=
  wr.heap[ga]? = some (.cells #[vF, vP] 57 (0, 0)) ∧ wr.heap[ga + 1]? = some (.cells #[uF, uP] 57 (0, 0)) ∧ HrL wr lo vF vP fs ps ∧ HrL wr lo2 uF uP fs ps ∧ Below w.heap.size w wr
theorem SmI.below {w wr w' : World} {ga lo lo2 : Nat} {vF vP uF uP : Value} {fs : List Ht} {ps : List Int} (h : SmI w wr ga lo lo2 vF vP uF uP fs ps) (hb : Below wr.heap.size wr w') : SmI w w' ga lo lo2 vF vP uF uP fs ps :=
  ⟨blk_below h.1 hb, blk_below h.2.1 hb, h.2.2.1.below hb, h.2.2.2.1.below hb, below_then h.2.2.2.2 (below_size h.2.2.2.2) hb⟩
theorem same_calls {w : World} {lo lo2 : Nat} {vF vP uF uP : Value} {fs : List Ht} {ps : List Int} (h1 : HrL w lo vF vP fs ps) (h2 : HrL w lo2 uF uP fs ps) (hl : ps.length = fs.length) (hb : fs.length ≤ 50000) :
    Calls Try.prog 24 #[.agg #[vF, vP], .agg #[uF, uP]] w fun r w' => r = .returned (.bool true) ∧ Below w.heap.size w w' := by
  obtain ⟨AF, cF, eF⟩ := Kd.R_slice h1.1
  obtain ⟨AP, cP, eP⟩ := Kd.R_slice h1.2
  obtain ⟨BF, dF, gF⟩ := Kd.R_slice h2.1
  obtain ⟨BP, dP, gP⟩ := Kd.R_slice h2.2
  subst eF eP gF gP
  rw [hl] at h1 h2 ⊢
  go_enter Try.func24, Try.ntmps24
  go_wp2_with fail
  have hsz : (w.alloc (.cells #[(.slice AF fs.length cF), (.slice AP fs.length cP)] 57)).heap.size = w.heap.size + 1 := Array.size_push _
  have hA := (Below.refl w.heap.size w).alloc (Nat.le_refl _) (.cells #[(.slice AF fs.length cF), (.slice AP fs.length cP)] 57)
  have hB := (Below.refl (w.alloc (.cells #[(.slice AF fs.length cF), (.slice AP fs.length cP)] 57)).heap.size (w.alloc (.cells #[(.slice AF fs.length cF), (.slice AP fs.length cP)] 57))).alloc (Nat.le_refl _) (.cells #[(.slice BF fs.length dF), (.slice BP fs.length dP)] 57)
  have HI0 : Aside0 (SmI w ((w.alloc (.cells #[(.slice AF fs.length cF), (.slice AP fs.length cP)] 57)).alloc (.cells #[(.slice BF fs.length dF), (.slice BP fs.length dP)] 57)) w.heap.size lo lo2 (.slice AF fs.length cF) (.slice AP fs.length cP) (.slice BF fs.length dF) (.slice BP fs.length dP) fs ps) := ⟨⟨blk_alloc (W_push w _ _ _) _, by rw [← hsz]; exact W_push _ _ _ _, (h1.below hA).below hB, (h2.below hA).below hB, below_then hA (below_size hA) hB⟩⟩
  clear hA hB h1 h2 hsz
  generalize (w.alloc (.cells #[(.slice AF fs.length cF), (.slice AP fs.length cP)] 57)).alloc (.cells #[(.slice BF fs.length dF), (.slice BP fs.length dP)] 57) = w2 at HI0 ⊢
  generalize w.heap.size = ga at HI0 ⊢
  go_loopw [5] (fun iv wr => ∃ i : Nat, i ≤ fs.length ∧ iv = .int .i64 i ∧ Aside0 (SmI w wr ga lo lo2 (.slice AF fs.length cF) (.slice AP fs.length cP) (.slice BF fs.length dF) (.slice BP fs.length dP) fs ps)) (fun iv _ => fs.length - (intOf iv).toNat)
  case atStart => exact ⟨0, Nat.zero_le _, rfl, HI0⟩
  case round =>
    clear HI0
    obtain ⟨i, hi, rfl, HI⟩ := hrel
    by_cases hlt : i < fs.length
    · obtain ⟨hA, hB, h1, h2, hbe⟩ := HI.out
      have a0 : wr.cell? ⟨ga, 0, none⟩ = some (.slice AF fs.length cF) := (blk_cell hA 0).trans rfl
      have a1 : wr.cell? ⟨ga, 1, none⟩ = some (.slice AP fs.length cP) := (blk_cell hA 1).trans rfl
      have b0 : wr.cell? ⟨ga + 1, 0, none⟩ = some (.slice BF fs.length dF) := (blk_cell hB 0).trans rfl
      have b1 : wr.cell? ⟨ga + 1, 1, none⟩ = some (.slice BP fs.length dP) := (blk_cell hB 1).trans rfl
      obtain ⟨fb, cc1, e1, _, _, _⟩ := Kd.R_form h1.1 (by omega)
      obtain ⟨pb, cc2, e2, _, _, _⟩ := Kd.R_form h1.2 (by omega)
      obtain ⟨fc, cc3, e3, _, _, _⟩ := Kd.R_form h2.1 (by omega)
      obtain ⟨pc, cc4, e4, _, _, _⟩ := Kd.R_form h2.2 (by omega)
      injection e1 with e1 l1 g1
      injection e2 with e2 l2 g2
      injection e3 with e3 l3 g3
      injection e4 with e4 l4 g4
      subst e1 e2 e3 e4 g1 g2 g3 g4
      clear l1 l2 l3 l4
      have hfi : fs[i]? = some fs[i] := List.getElem?_eq_getElem hlt
      have hpi : ps[i]? = some (ps[i]'(by omega)) := List.getElem?_eq_getElem (by omega)
      generalize fs[i] = x at hfi
      generalize ps[i]'(by omega) = z at hpi
      obtain ⟨f0, f1, f2, f3, f4, f5, f6, f7, f8⟩ := ht_at (Kd.R_reads' h1.1).2.2 i x hfi
      obtain ⟨g0, g1, g2, g3, g4, g5, g6, g7, g8⟩ := ht_at (Kd.R_reads' h2.1).2.2 i x hfi
      have f9 := int_aq (Kd.R_reads' h1.2).2.2 i z hpi
      have g9 := int_aq (Kd.R_reads' h2.2).2.2 i z hpi
      rw [Nat.zero_add] at f0 f1 f2 f3 f4 f5 f6 f7 f8 g0 g1 g2 g3 g4 g5 g6 g7 g8 f9 g9
      have i0 : (0 : Int) ≤ (i : Int) := by omega
      have i1 : (i : Int) < (fs.length : Int) := by omega
      have hbl : (x.s.toList == x.s.toList) = true := by simp
      have hbl2 : (x.s.toList != x.s.toList) = false := by simp
      clear hA hB h1 h2 hbe hfi hpi
      go_wp2_with fail
      go_quiet (fail)
      go_wp2_with fail
      go_roundw
      case rel => exact ⟨i + 1, by omega, by go_num, ⟨HI.out.below (pw_below_drewN (Below.refl _ _) _)⟩⟩
      case measure => simp [intOf]; omega
    · obtain rfl : i = fs.length := by omega
      obtain ⟨hA, hB, _, _, hbe⟩ := HI.out
      have a0 : wr.cell? ⟨ga, 0, none⟩ = some (.slice AF fs.length cF) := (blk_cell hA 0).trans rfl
      clear hA hB
      go_wp2_with fail
      go_ret
      exact ⟨rfl, hbe⟩
theorem cut_calls (n : Int) (k : Nat) (hk : k ≤ 50000) : ∃ m : Nat, m ≤ k ∧ ∀ w : World, Calls Try.prog 23 #[.int .i64 n, .int .i64 k] w fun r w' => r = .returned (.int .i64 (m : Int)) ∧ w = w' := by
  have h12 : Int.tmod n 50000 < 50000 ∧ -50000 < Int.tmod n 50000 := by
    by_cases h0 : 0 ≤ n
    · rw [Int.tmod_eq_emod_of_nonneg h0]; omega
    · obtain ⟨z, hz⟩ : ∃ z : Int, z = -n := ⟨_, rfl⟩
      rw [show n = -z by omega, Int.neg_tmod, Int.tmod_eq_emod_of_nonneg (by omega)]; omega
  obtain ⟨z, hz⟩ : ∃ z : Int, Int.tmod n 50000 = z := ⟨_, rfl⟩
  rw [hz] at h12
  obtain ⟨h1, h2⟩ := h12
  by_cases hn : z < 0
  · obtain ⟨y, hy⟩ : ∃ y : Nat, z = -(y : Int) := ⟨(-z).toNat, by omega⟩
    subst hy
    have hy2 : IntKind.i64.wrap (-(-(y : Int))) = (y : Int) := by rw [i64_w]; unfold wrap64; omega
    have hy3 : - -(y : Int) = (y : Int) := by omega
    by_cases hm : k < y
    · refine ⟨k, Nat.le_refl _, fun w => ?_⟩
      have hm2 : (k : Int) < (y : Int) := by omega
      go_enter Try.func23, Try.ntmps23
      go_wp2_with fail
      go_ret
      exact ⟨rfl, rfl⟩
    · refine ⟨y, by omega, fun w => ?_⟩
      have hm2 : ¬ (k : Int) < (y : Int) := by omega
      go_enter Try.func23, Try.ntmps23
      go_wp2_with fail
      go_ret
      exact ⟨rfl, rfl⟩
  · obtain ⟨y, rfl⟩ : ∃ y : Nat, z = (y : Int) := ⟨z.toNat, by omega⟩
    by_cases hm : k < y
    · refine ⟨k, Nat.le_refl _, fun w => ?_⟩
      have hm2 : (k : Int) < (y : Int) := by omega
      go_enter Try.func23, Try.ntmps23
      go_wp2_with fail
      go_ret
      exact ⟨rfl, rfl⟩
    · refine ⟨y, by omega, fun w => ?_⟩
      have hm2 : ¬ (k : Int) < (y : Int) := by omega
      go_enter Try.func23, Try.ntmps23
      go_wp2_with fail
      go_ret
      exact ⟨rfl, rfl⟩
end Go.Proofs.Ytgboppgghidgbaa.My
