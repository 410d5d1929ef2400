/- lent: a list in memory of its own, with marks behind it. -/
import Derived.Test.YtgcmmiihjiiemaaVecP2
import Derived.Laws.MakeOwn
namespace Go.Proofs.Ytgcmmiihjiiemaa.My
open Go.RowKit Go.Proofs.YtgcmmiihjiiemaaW.PrintWords Go.Proofs.YtgcmmiihjiiemaaW.PrintLast Go.Proofs.YtgcmmiihjiiemaaW.PrintMore Go.Proofs.Ytgcmmiihjiiemaa Go.Proofs.Ytgcmmiihjiiemaa.PVectorMax
set_option linter.unusedSimpArgs false
set_option linter.unusedVariables false
set_option maxRecDepth 100000
set_option maxHeartbeats 3200000
def mk1 : Dt := ⟨77, 1125899906842625⟩
def mk2 : Dt := ⟨77, 1125899906842626⟩
def mk3 : Dt := ⟨77, 1125899906842627⟩
def marks : List Dt := [mk1, mk2, mk3]
theorem mark_calls (n : Nat) (hn : n ≤ 100) (w : World) : Calls Try.prog 49 #[.int .u64 n] w fun e w' => e = .returned (.agg #[.int .u32 77, .int .u64 ((1125899906842624 + n : Nat) : Int)]) ∧ Below w.heap.size w w' := by
  have h := concordlaw10_mark.calls (n : Int) 77 ((1125899906842624 + n : Nat) : Int) w (by
    rw [concordlaw10_mark.f, IntKind.wrap_u64]
    congr 2
    omega)
  exact h
theorem addr0 (g n : Nat) : (⟨g, 0, none⟩ : Addr).add n = ⟨g, n, none⟩ := by
  unfold Addr.add
  by_cases h : n = 0
  · subst h; rfl
  · rw [if_neg h]
    simp
theorem marks_row (w : World) : ReadsRow (kD.K (w.alloc (.cells #[.int .u32 77, .int .u64 1125899906842625, .int .u32 77, .int .u64 1125899906842626, .int .u32 77, .int .u64 1125899906842627] 35))) kD.sz (w.alloc (.cells #[.int .u32 77, .int .u64 1125899906842625, .int .u32 77, .int .u64 1125899906842626, .int .u32 77, .int .u64 1125899906842627] 35)) (some ⟨w.heap.size, 0, none⟩) 3 marks := by
  have hb : (w.alloc (.cells #[.int .u32 77, .int .u64 1125899906842625, .int .u32 77, .int .u64 1125899906842626, .int .u32 77, .int .u64 1125899906842627] 35)).heap[w.heap.size]? = some (.cells #[.int .u32 77, .int .u64 1125899906842625, .int .u32 77, .int .u64 1125899906842626, .int .u32 77, .int .u64 1125899906842627] 35 (0, 0)) := by show (w.heap.push _)[w.heap.size]? = _; rw [Array.getElem?_push_size]
  generalize w.alloc (.cells #[.int .u32 77, .int .u64 1125899906842625, .int .u32 77, .int .u64 1125899906842626, .int .u32 77, .int .u64 1125899906842627] 35) = w1 at hb ⊢
  generalize w.heap.size = g at hb ⊢
  have hc : ∀ n u, #[.int .u32 77, .int .u64 1125899906842625, .int .u32 77, .int .u64 1125899906842626, .int .u32 77, .int .u64 1125899906842627][n]? = some u → w1.cell? ((⟨g, 0, none⟩ : Addr).add n) = some u := by
    intro n u hu
    have h := blk_cell hb n
    rw [addr0 g n]
    rw [h]
    exact hu
  refine ⟨rfl, by decide, fun _ => ⟨⟨g, 0, none⟩, rfl, fun j p hj => ?_⟩⟩
  match j, hj with
  | 0, hj =>
    obtain rfl : mk1 = p := by simpa [marks] using hj
    refine ⟨_, rfl, k35_mk _ _, fun i u hu => hc (0 * kD.sz + i) u ?_⟩
    match i, hu with
    | 0, hu => exact hu
    | 1, hu => exact hu
  | 1, hj =>
    obtain rfl : mk2 = p := by simpa [marks] using hj
    refine ⟨_, rfl, k35_mk _ _, fun i u hu => hc (1 * kD.sz + i) u ?_⟩
    match i, hu with
    | 0, hu => exact hu
    | 1, hu => exact hu
  | 2, hj =>
    obtain rfl : mk3 = p := by simpa [marks] using hj
    refine ⟨_, rfl, k35_mk _ _, fun i u hu => hc (2 * kD.sz + i) u ?_⟩
    match i, hu with
    | 0, hu => exact hu
    | 1, hu => exact hu
theorem lent_calls (w : World) (A : Option Addr) (c : Nat) (xs : List Dt) (hA : Kd.C kD w A xs.length xs) (hc : xs.length ≤ c) (hl : xs.length * 16 ≤ 140737488351232) :
    Calls Try.prog 12 #[.slice A xs.length c] w fun e w' => ∃ (B : Option Addr) (d : Nat), e = .returned (.slice B xs.length d) ∧ xs.length + 3 ≤ d ∧ Kd.R kD 35 w' w.heap.size (fun _ => True) (.slice B (xs.length + 3) d) (xs ++ marks) ∧ Below w.heap.size w w' := by
  have hmk : ∀ W : World, (Instr.makeSlice 22 (.int .i64 0) (.int .i64 ((xs.length : Int) + 3))).run Try.prog W = .ok (.slice (some ⟨W.heap.size, 0, none⟩) 0 (xs.length + 3)) (W.alloc (.cells (madeCells #[.int .u32 0, .int .u64 0] ((xs.length + 3) * 2)) 35)) := by
    intro W
    obtain ⟨i0, hi, hzz⟩ := Option.map_eq_some_iff.1 infoDot
    simp only [Prod.mk.injEq] at hzz
    have h := run_make (P := Try.prog) W 22 35 i0 _ Try.underlying22 hi hzz.1 .i64 .i64 0 ((xs.length : Int) + 3) (by omega) (by omega) (by rw [hzz.2.2]; omega) (by omega)
    rw [h, hzz.2.1, show ((xs.length : Int) + 3).toNat = xs.length + 3 by omega]
    rfl
  have HA := Aside0.mk hA
  clear hA
  go_enter Try.func12, Try.ntmps12
  go_upto_region 2 with (fail)
  have hblk : (w.alloc (.cells (madeCells #[.int .u32 0, .int .u64 0] ((xs.length + 3) * 2)) 35)).heap[w.heap.size]? = some (.cells (madeCells #[.int .u32 0, .int .u64 0] ((xs.length + 3) * 2)) 35 (0, 0)) := by show (w.heap.push _)[w.heap.size]? = _; rw [Array.getElem?_push_size]
  have HO1 : Aside0 (Kd.R kD 35 (w.alloc (.cells (madeCells #[.int .u32 0, .int .u64 0] ((xs.length + 3) * 2)) 35)) w.heap.size (fun _ => True) (.slice (some ⟨w.heap.size, 0, none⟩) 0 (xs.length + 3)) []) := ⟨⟨fun _ _ => trivial, [], ⟨rfl, .inr ⟨w.heap.size, xs.length + 3, _, rfl, Nat.le_refl _, hblk, Nat.zero_le _, by simp only [maxLen]; omega, by rw [size_madeCells]; rfl, by simp⟩⟩, Reps.none _ _⟩⟩
  have HB1 := Aside0.mk ((Below.refl w.heap.size w).alloc (Nat.le_refl _) (.cells (madeCells #[.int .u32 0, .int .u64 0] ((xs.length + 3) * 2)) 35))
  clear hblk hmk
  generalize w.alloc (.cells (madeCells #[.int .u32 0, .int .u64 0] ((xs.length + 3) * 2)) 35) = w1 at HO1 HB1 ⊢
  go_upto_region 3 with (((with_reducible refine gate_builtin (b := .append) (xs := #[.tmp 8, .tmp 9]) rfl ?_); (try (refine gate_guard (by rfl) ?_; dsimp only)); at_builtin; refine Kd.R_append_rows kD (Rr := kD.K w1) (w0 := w) w.heap.size rfl (.tmp 8) (.tmp 9) 22 35 (.agg #[.int .u32 0, .int .u64 0]) 16 rfl Try.underlying22 infoDot rfl (by decide) (by omega) (.slice (some ⟨w.heap.size, 0, none⟩) 0 (xs.length + 3)) [] xs (A) xs.length c (fun _ => True) (fun _ => False) rfl rfl ?aO ?aR (fun x cs h => by obtain rfl := k35_open h; exact k35_mkM _ _ _ _) (fun _ h => h.elim) ?aF ?aB ?aS ?aL ?_; (case aR => exact (Kd.C_below HA.out HB1.out)); (case aB => exact HB1.out); (case aF => exact (fun _ _ => trivial)); (case aO => exact HO1.out); (case aS => exact (below_size HB1.out)); (case aL => simp only [List.length_nil]; omega); intro v2 w2 ho2 hb2 hg2 hat2; rw [List.nil_append] at ho2; obtain ⟨A2, c2, e2⟩ := Kd.R_slice ho2; subst e2))
  have HO2 := Aside0.mk ho2
  have HB2 := Aside0.mk hb2
  clear ho2 hb2 hg2 hat2 HO1 HB1
  go_wp2_with fail
  refine (mark_calls 1 (by omega) _).mono ?_
  rintro e_ w3 ⟨rfl, hb3⟩
  have HO3 := Aside0.mk (Kd.R_below HO2.out hb3)
  have HB3 := Aside0.mk (below_then HB2.out (below_size HB2.out) hb3)
  clear HO2 HB2 hb3
  go_wp2_with fail
  refine (mark_calls 2 (by omega) _).mono ?_
  rintro e_ w4 ⟨rfl, hb4⟩
  have HO4 := Aside0.mk (Kd.R_below HO3.out hb4)
  have HB4 := Aside0.mk (below_then HB3.out (below_size HB3.out) hb4)
  clear HO3 HB3 hb4
  go_wp2_with fail
  refine (mark_calls 3 (by omega) _).mono ?_
  rintro e_ w5 ⟨rfl, hb5⟩
  have HO5 := Aside0.mk (Kd.R_below HO4.out hb5)
  have HB5 := Aside0.mk (below_then HB4.out (below_size HB4.out) hb5)
  clear HO4 HB4 hb5
  go_upto_region 4 with (((with_reducible refine gate_builtin (b := .append) (xs := #[.tmp 11, .tmp 15]) rfl ?_); (try (refine gate_guard (by rfl) ?_; dsimp only)); at_builtin; refine Kd.R_append_rows kD (Rr := kD.K (w5.alloc (.cells #[.int .u32 77, .int .u64 1125899906842625, .int .u32 77, .int .u64 1125899906842626, .int .u32 77, .int .u64 1125899906842627] 35))) (w0 := w) w.heap.size rfl (.tmp 11) (.tmp 15) 22 35 (.agg #[.int .u32 0, .int .u64 0]) 16 rfl Try.underlying22 infoDot rfl (by decide) (by omega) (.slice A2 xs.length c2) xs marks (some ⟨w5.heap.size, 0, none⟩) 3 3 (fun _ => True) (fun _ => False) rfl rfl ?aO ?aR (fun x cs h => by obtain rfl := k35_open h; exact k35_mkM _ _ _ _) (fun _ h => h.elim) ?aF ?aB ?aS ?aL ?_; (case aR => exact (marks_row w5)); (case aB => exact (HB5.out.alloc (below_size HB5.out) _)); (case aF => exact (fun _ _ => trivial)); (case aO => exact (Kd.R_alloc HO5.out _)); (case aS => exact (below_size (HB5.out.alloc (below_size HB5.out) _))); (case aL => omega); intro v6 w6 ho6 hb6 hg6 hat6; obtain ⟨A6, c6, e6⟩ := Kd.R_slice ho6; subst e6))
  obtain ⟨_, hcap, _⟩ := Kd.R_reads' ho6
  have hml : (xs ++ marks).length = xs.length + 3 := by rw [List.length_append]; rfl
  rw [hml] at hcap
  have hcap2 : (xs.length : Int) ≤ (c6 : Int) := by omega
  have hcap3 : (0 : Int) ≤ (xs.length : Int) := by omega
  have HO6 := Aside0.mk ho6
  have HB6 := Aside0.mk hb6
  have HML := Aside0.mk hml
  clear ho6 hb6 hg6 hat6 HO5 HB5 hml
  go_wp2_with fail
  go_ret
  exact ⟨A6, c6, rfl, hcap, by have h := HO6.out; rw [HML.out] at h; exact h, HB6.out⟩
end Go.Proofs.Ytgcmmiihjiiemaa.My
