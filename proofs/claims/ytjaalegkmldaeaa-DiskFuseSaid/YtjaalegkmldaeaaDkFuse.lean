/- DiskFuse. -/
import Derived.Test.YtjaalegkmldaeaaDkFu
namespace Go.Proofs.Ytjaalegkmldaeaa.My
open Go.RowKit Go.Proofs.YtjaalegkmldaeaaW.PrintWords Go.Proofs.YtjaalegkmldaeaaW.PrintLast Go.Proofs.YtjaalegkmldaeaaW.PrintMore Go.Proofs.Ytjaalegkmldaeaa Go.Maps Go.Proofs.Ytjaalegkmldaeaa.PA
set_option linter.unusedSimpArgs false
set_option linter.unusedVariables false
set_option maxRecDepth 100000
set_option maxHeartbeats 16000000
theorem DiskFuse_walk (w : World) (Ap : Option Addr) (cp : Nat) (ps : List ByteArray) (hpc : ps.length ≤ cp) (hP : Kd.string.C w Ap ps.length ps) (hps : ∀ x ∈ ps, x.size ≤ 140737488351232) (hp16 : ps.length * 16 ≤ 140737488351232) (n : Int) (hn : (Lit.int .i64 n).wf = true) (As : Option Addr) (cs : Nat) (xs : List Stp) (hsc : xs.length ≤ cs) (hS : kStp.C w As xs.length xs) (hok : ∀ x ∈ xs, x.Ok w) (hxs : ∀ x ∈ xs, x.s.size ≤ 140737488351232) (hx80 : xs.length * 80 ≤ 140737488351232) :
    Calls Try.prog 6 #[.slice Ap ps.length cp, .int .i64 n, .slice As xs.length cs] w fun e w' => e = .returned (.bool true) ∧ Below w.heap.size w w' := by
  have HPS := Aside0.mk (And.intro hP (And.intro hps hp16))
  have HXS := Aside0.mk (And.intro hS (And.intro hok (And.intro hxs hx80)))
  have HN := Aside0.mk hn
  clear hP hps hp16 hS hok hxs hx80 hpc hsc hn
  go_enter Try.func6, Try.ntmps6
  go_wp2_with fail
  refine (wakes_calls w).mono ?_
  rintro e_ w1 ⟨rfl, hb⟩
  have HB1 := Aside0.mk hb
  clear hb
  go_wp2_with (first | ((with_reducible refine gate_dst (N := 21) rfl ?_); refine Kd.R_lit Kd.string (w0 := w) w.heap.size 9 ?hg (N := 21) ?hd (xs := ([] : List ByteArray)) (inner := []) (ok := fun _ => True) (okp := fun _ => True) ?hr ?hp (fun _ hk => hk) trivial HB1.out (below_size HB1.out) (by simp) ?_; (case hd => rfl); (case hg => rfl); (case hr => first | (go_simp; done) | (go_simp; rfl)); (case hp => exact (Reps.none _ _)); intro vz wz hoz hbz hgz hnz; clear hgz hnz; have HOZ := Aside0.mk hoz; have HBZ := Aside0.mk hbz; clear hoz hbz) | ((with_reducible refine gate_builtin (b := .append) (xs := #[.tmp 21, .tmp 22]) rfl ?_); (try (refine gate_guard (by rfl) ?_; dsimp only)); at_builtin; refine Kd.R_append_rows Kd.string (Rr := Kd.string.K wz) (w0 := w) w.heap.size rfl (.tmp 21) (.tmp 22) 37 9 (.string ⟨#[]⟩) 16 rfl Try.underlying37 infoStr rfl (by decide) (by omega) vz [] ps Ap ps.length cp (fun _ => True) (fun _ => False) rfl rfl ?aO ?aR (fun _ _ h => h) (fun _ h => h.elim) ?aF ?aB ?aS ?aL ?_; (case aR => exact (Kd.C_below HPS.out.1 HBZ.out)); (case aB => exact HBZ.out); (case aF => exact (fun _ _ => trivial)); (case aO => exact HOZ.out); (case aS => exact (below_size HBZ.out)); (case aL => have := HPS.out.2.2; simp only [List.length_nil]; omega); intro vc wc hoc hbc hgc hac; rw [List.nil_append] at hoc; obtain ⟨Ac, cc, ec⟩ := Kd.R_slice hoc; subst ec; have HOC := Aside0.mk hoc; have HBC := Aside0.mk hbc; clear hoc hbc hgc hac HOZ HBZ))
  refine (stands_load HBC.out Ac cc ps (Kd.R_reads' HOC.out).2.2 (fun x hx => Nat.le_trans (HPS.out.2.1 x hx) (by decide)) (by have := HPS.out.2.2; omega)).mono ?_
  rintro e_ w3 ⟨hb3, ⟨hlo, g, rfl, hSt⟩ | ⟨hno, rfl⟩⟩
  · have H := Aside0.mk hSt
    have HLO := Aside0.mk hlo
    clear hb3 hSt hlo HOC HBC
    go_wp2_with fail
    refine (stands_fuse H.out n HN.out).mono ?_
    rintro e_ w4 ⟨rfl, hSt⟩
    replace H := Aside0.mk hSt
    clear hSt
    have hnn : -9223372036854775808 ≤ n ∧ n ≤ 9223372036854775807 := by
      have := HN.out
      simp [Lit.wf, IntKind.min, IntKind.max, IntKind.signed, IntKind.bits] at this
      omega
    have HNN := Aside0.mk hnn
    clear hnn
    have HF := Aside0.mk (f_start (l := ps) n HNN.out.1 HNN.out.2)
    generalize fuseV (newD ps) n = dd at *
    go_wp2_with fail
    go_loopw [9, 10, 11, 12, 13, 14, 15, 16] (fun v9 v10 v11 _ _ _ _ _ wr => ∃ (i : Nat) (d : Dk) (lf : Int) (of_ : Bool), v9 = .int .i64 lf ∧ v10 = .bool of_ ∧ v11 = .int .i64 (i : Int) ∧ i ≤ xs.length ∧ FInv ps.length n i d lf of_ ∧ Stands w wr g d)
      (fun _ _ v11 _ _ _ _ _ wr => mzD xs.length v11)
    case atStart => exact ⟨0, dd, n, false, rfl, rfl, rfl, Nat.zero_le _, HF.out, H.out⟩
    case round =>
      obtain ⟨i, d, lf, of_, rfl, rfl, rfl, hil, hI, hSt⟩ := hrel
      clear H HF
      have H := Aside0.mk hSt
      have HI := Aside0.mk hI
      clear hSt hI
      by_cases hi : i < xs.length
      · obtain ⟨b, o, rfl⟩ := stp_addr HXS.out.1 i hi
        obtain ⟨x, hx⟩ : ∃ x, x = xs[i] := ⟨_, rfl⟩
        have hget : xs[i]? = some x := by rw [hx, List.getElem?_eq_getElem hi]
        have hmem : x ∈ xs := by rw [hx]; exact List.getElem_mem hi
        obtain ⟨c0, c1, c2, c3, c4, c5, c6⟩ := stp_at (Kd.C_below HXS.out.1 H.out.low) i x hget
        have HX := Aside0.mk (And.intro (HXS.out.2.1 x hmem) (HXS.out.2.2.1 x hmem))
        clear hget hmem hx
        obtain ⟨kind, N, s, odd, KA, kc, keep, torn, cut⟩ := x
        dsimp only at c0 c1 c2 c3 c4 c5 c6
        have d1 : ((i : Nat) : Int) < (xs.length : Int) := by omega
        have d0 : (0 : Int) ≤ (i : Int) := Int.natCast_nonneg i
        have d2 : decide (((i : Nat) : Int) < (xs.length : Int)) = true := decide_eq_true d1
        have HIL := Aside0.mk hi
        have hw1 : wrap64 ((i : Int) + 1) = ((i + 1 : Nat) : Int) := by unfold wrap64; have := HXS.out.2.2.2; omega
        clear hi hil
        by_cases k0 : kind = 0
        · subst k0
          have HC := Aside0.mk (content_f 0 N s (Nat.le_trans HX.out.2 (by decide)) odd keep torn cut)
          go_wp2_with fail
          obtain ⟨w5, hw5⟩ : ∃ W, W = wr.alloc (.cells #[.int .i64 0, .int .i64 N, .string s, .bool odd, .slice KA keep.length kc, .int .i64 torn, .int .i64 cut] 32) := ⟨_, rfl⟩
          rw [← hw5]
          have hb5 : Below wr.heap.size wr w5 := by rw [hw5]; exact (Below.refl _ _).alloc (Nat.le_refl _) _
          have hbl : w5.heap[wr.heap.size]? = some (.cells #[.int .i64 0, .int .i64 N, .string s, .bool odd, .slice KA keep.length kc, .int .i64 torn, .int .i64 cut] 32 (0, 0)) := by rw [hw5]; exact blk_new _ _
          clear hw5
          refine (concordlaw04_content.calls 1100 0 N s odd KA kc keep torn cut (contV s odd) w5 (Kd.C_below (Kd.C_below HX.out.1.keep H.out.low) hb5) HX.out.1.cap HC.out.1).mono ?_
          rintro e_ w6 ⟨rfl, hb6⟩
          have hbl6 := blk_below hbl hb6
          have e0 : w6.cell? ⟨wr.heap.size, 0, none⟩ = some (.int .i64 0) := (blk_cell hbl6 0).trans rfl
          have e1 : w6.cell? ⟨wr.heap.size, 1, none⟩ = some (.int .i64 N) := (blk_cell hbl6 1).trans rfl
          replace H := Aside0.mk ((H.out.below hb5).below hb6)
          have HBL := Aside0.mk hbl6
          clear hbl hb5 hb6 hbl6 c0 c1 c2 c3 c4 c5 c6
          have HT := Aside0.mk HC.out.2.2
          clear HC
          generalize contV s odd = t at *
          have HRM := Aside0.mk (show d.pend.length < 2199023255552 by have := HI.out.pend; have := HXS.out.2.2.2; have := HIL.out; omega)
          have HI2 := Aside0.mk (show i ≤ 140737488351232 by have := HXS.out.2.2.2; have := HIL.out; omega)
          cases of_ with
          | true =>
            by_cases hN1 : 0 ≤ N
            · by_cases hN2 : N < (ps.length : Int)
              · by_cases hN3 : t.size = 1024
                · have HLW := Aside0.mk (w_off HI.out N t)
                  have f1 : decide (N ≥ 0) = true := decide_eq_true hN1
                  have f1b : decide (0 ≤ N) = true := f1
                  have f2 : decide (N < (ps.length : Int)) = true := decide_eq_true hN2
                  have f3 : ((t.size : Int) == 1024) = true := by rw [hN3]; rfl
                  clear hN1 hN2 hN3
                  obtain ⟨hcv, hC, hlt, hb⟩ := bytes_at w6 t HT.out
                  have HCB := Aside0.mk (And.intro hC (And.intro hlt hb))
                  clear hC hlt hb
                  go_wp2_with fail
                  have hw := stands_write H.out HCB.out.2.2 N ⟨w6.heap.size, 0, none⟩ (grownCap w6 t.size 0 5) t (Nat.le_refl _) HCB.out.2.1 HCB.out.1 HRM.out
                  rw [HLW.out.1] at hw
                  refine hw.mono ?_
                  rintro e_ w8 ⟨rfl, hSt⟩
                  replace H := Aside0.mk hSt
                  replace HI := Aside0.mk HLW.out.2
                  clear hSt hw HLW HCB hcv HBL
                  generalize (writeV d N t).1 = d' at *
                  go_wp2_with fail
                  refine (stands_lit H.out).mono ?_
                  rintro e_ w8_ ⟨rfl, rfl⟩
                  rw [HI.out.off]
                  go_wp2_with fail
                  go_roundw
                  case measure => first | exact mzD_step HIL.out | (rw [hw1]; exact mzD_step HIL.out)
                  case rel => exact ⟨i + 1, d', _, _, rfl, rfl, by first | rfl | rw [hw1], Nat.succ_le_of_lt HIL.out, HI.out, H.out⟩
                · have HLW := Aside0.mk (w_off HI.out N t)
                  have f1 : decide (N ≥ 0) = true := decide_eq_true hN1
                  have f1b : decide (0 ≤ N) = true := f1
                  have f2 : decide (N < (ps.length : Int)) = true := decide_eq_true hN2
                  have f3 : ((t.size : Int) == 1024) = false := beq_eq_false_iff_ne.mpr (by omega)
                  clear hN1 hN2 hN3
                  obtain ⟨hcv, hC, hlt, hb⟩ := bytes_at w6 t HT.out
                  have HCB := Aside0.mk (And.intro hC (And.intro hlt hb))
                  clear hC hlt hb
                  go_wp2_with fail
                  have hw := stands_write H.out HCB.out.2.2 N ⟨w6.heap.size, 0, none⟩ (grownCap w6 t.size 0 5) t (Nat.le_refl _) HCB.out.2.1 HCB.out.1 HRM.out
                  rw [HLW.out.1] at hw
                  refine hw.mono ?_
                  rintro e_ w8 ⟨rfl, hSt⟩
                  replace H := Aside0.mk hSt
                  replace HI := Aside0.mk HLW.out.2
                  clear hSt hw HLW HCB hcv HBL
                  generalize (writeV d N t).1 = d' at *
                  go_wp2_with fail
                  refine (stands_lit H.out).mono ?_
                  rintro e_ w8_ ⟨rfl, rfl⟩
                  rw [HI.out.off]
                  go_wp2_with fail
                  go_roundw
                  case measure => first | exact mzD_step HIL.out | (rw [hw1]; exact mzD_step HIL.out)
                  case rel => exact ⟨i + 1, d', _, _, rfl, rfl, by first | rfl | rw [hw1], Nat.succ_le_of_lt HIL.out, HI.out, H.out⟩
              · have HLW := Aside0.mk (w_off HI.out N t)
                have f1 : decide (N ≥ 0) = true := decide_eq_true hN1
                have f1b : decide (0 ≤ N) = true := f1
                have f2 : decide (N < (ps.length : Int)) = false := decide_eq_false (by omega)
                clear hN1 hN2
                obtain ⟨hcv, hC, hlt, hb⟩ := bytes_at w6 t HT.out
                have HCB := Aside0.mk (And.intro hC (And.intro hlt hb))
                clear hC hlt hb
                go_wp2_with fail
                have hw := stands_write H.out HCB.out.2.2 N ⟨w6.heap.size, 0, none⟩ (grownCap w6 t.size 0 5) t (Nat.le_refl _) HCB.out.2.1 HCB.out.1 HRM.out
                rw [HLW.out.1] at hw
                refine hw.mono ?_
                rintro e_ w8 ⟨rfl, hSt⟩
                replace H := Aside0.mk hSt
                replace HI := Aside0.mk HLW.out.2
                clear hSt hw HLW HCB hcv HBL
                generalize (writeV d N t).1 = d' at *
                go_wp2_with fail
                refine (stands_lit H.out).mono ?_
                rintro e_ w8_ ⟨rfl, rfl⟩
                rw [HI.out.off]
                go_wp2_with fail
                go_roundw
                case measure => first | exact mzD_step HIL.out | (rw [hw1]; exact mzD_step HIL.out)
                case rel => exact ⟨i + 1, d', _, _, rfl, rfl, by first | rfl | rw [hw1], Nat.succ_le_of_lt HIL.out, HI.out, H.out⟩
            · have HLW := Aside0.mk (w_off HI.out N t)
              have f1 : decide (N ≥ 0) = false := decide_eq_false (by omega)
              have f1b : decide (0 ≤ N) = false := f1
              clear hN1
              obtain ⟨hcv, hC, hlt, hb⟩ := bytes_at w6 t HT.out
              have HCB := Aside0.mk (And.intro hC (And.intro hlt hb))
              clear hC hlt hb
              go_wp2_with fail
              have hw := stands_write H.out HCB.out.2.2 N ⟨w6.heap.size, 0, none⟩ (grownCap w6 t.size 0 5) t (Nat.le_refl _) HCB.out.2.1 HCB.out.1 HRM.out
              rw [HLW.out.1] at hw
              refine hw.mono ?_
              rintro e_ w8 ⟨rfl, hSt⟩
              replace H := Aside0.mk hSt
              replace HI := Aside0.mk HLW.out.2
              clear hSt hw HLW HCB hcv HBL
              generalize (writeV d N t).1 = d' at *
              go_wp2_with fail
              refine (stands_lit H.out).mono ?_
              rintro e_ w8_ ⟨rfl, rfl⟩
              rw [HI.out.off]
              go_wp2_with fail
              go_roundw
              case measure => first | exact mzD_step HIL.out | (rw [hw1]; exact mzD_step HIL.out)
              case rel => exact ⟨i + 1, d', _, _, rfl, rfl, by first | rfl | rw [hw1], Nat.succ_le_of_lt HIL.out, HI.out, H.out⟩
          | false =>
            by_cases hN1 : 0 ≤ N
            · by_cases hN2 : N < (ps.length : Int)
              · by_cases hN3 : t.size = 1024
                · by_cases h0 : lf = 0
                  · have HLW := Aside0.mk (w_zero HI.out HI2.out HNN.out.1 h0 N t hN1 hN2 hN3)
                    have f1 : decide (N ≥ 0) = true := decide_eq_true hN1
                    have f1b : decide (0 ≤ N) = true := f1
                    have f2 : decide (N < (ps.length : Int)) = true := decide_eq_true hN2
                    have f3 : ((t.size : Int) == 1024) = true := by rw [hN3]; rfl
                    subst h0
                    clear hN1 hN2 hN3
                    obtain ⟨hcv, hC, hlt, hb⟩ := bytes_at w6 t HT.out
                    have HCB := Aside0.mk (And.intro hC (And.intro hlt hb))
                    clear hC hlt hb
                    go_wp2_with fail
                    have hw := stands_write H.out HCB.out.2.2 N ⟨w6.heap.size, 0, none⟩ (grownCap w6 t.size 0 5) t (Nat.le_refl _) HCB.out.2.1 HCB.out.1 HRM.out
                    rw [HLW.out.1] at hw
                    refine hw.mono ?_
                    rintro e_ w8 ⟨rfl, hSt⟩
                    replace H := Aside0.mk hSt
                    replace HI := Aside0.mk HLW.out.2
                    clear hSt hw HLW HCB hcv HBL
                    generalize (writeV d N t).1 = d' at *
                    go_wp2_with fail
                    refine (stands_lit H.out).mono ?_
                    rintro e_ w8_ ⟨rfl, rfl⟩
                    rw [HI.out.off]
                    go_wp2_with fail
                    go_roundw
                    case measure => first | exact mzD_step HIL.out | (rw [hw1]; exact mzD_step HIL.out)
                    case rel => exact ⟨i + 1, d', _, _, rfl, rfl, by first | rfl | rw [hw1], Nat.succ_le_of_lt HIL.out, HI.out, H.out⟩
                  · have HLW := Aside0.mk (w_go HI.out HI2.out HNN.out.1 H.out.ok.hi h0 N t hN1 hN2 hN3)
                    have f1 : decide (N ≥ 0) = true := decide_eq_true hN1
                    have f1b : decide (0 ≤ N) = true := f1
                    have f2 : decide (N < (ps.length : Int)) = true := decide_eq_true hN2
                    have f3 : ((t.size : Int) == 1024) = true := by rw [hN3]; rfl
                    have f4 : (lf == 0) = false := beq_eq_false_iff_ne.mpr h0
                    clear hN1 hN2 hN3 h0
                    obtain ⟨hcv, hC, hlt, hb⟩ := bytes_at w6 t HT.out
                    have HCB := Aside0.mk (And.intro hC (And.intro hlt hb))
                    clear hC hlt hb
                    go_wp2_with fail
                    have hw := stands_write H.out HCB.out.2.2 N ⟨w6.heap.size, 0, none⟩ (grownCap w6 t.size 0 5) t (Nat.le_refl _) HCB.out.2.1 HCB.out.1 HRM.out
                    rw [HLW.out.1] at hw
                    refine hw.mono ?_
                    rintro e_ w8 ⟨rfl, hSt⟩
                    replace H := Aside0.mk hSt
                    replace HI := Aside0.mk HLW.out.2
                    clear hSt hw HLW HCB hcv HBL
                    generalize (writeV d N t).1 = d' at *
                    go_wp2_with fail
                    refine (stands_lit H.out).mono ?_
                    rintro e_ w8_ ⟨rfl, rfl⟩
                    rw [HI.out.off]
                    go_wp2_with fail
                    go_roundw
                    case measure => first | exact mzD_step HIL.out | (rw [hw1]; exact mzD_step HIL.out)
                    case rel => exact ⟨i + 1, d', _, _, rfl, rfl, by first | rfl | rw [hw1], Nat.succ_le_of_lt HIL.out, HI.out, H.out⟩
                · have HLW := Aside0.mk (w_bad HI.out N t (.inr (.inr hN3)))
                  have f1 : decide (N ≥ 0) = true := decide_eq_true hN1
                  have f1b : decide (0 ≤ N) = true := f1
                  have f2 : decide (N < (ps.length : Int)) = true := decide_eq_true hN2
                  have f3 : ((t.size : Int) == 1024) = false := beq_eq_false_iff_ne.mpr (by omega)
                  clear hN1 hN2 hN3
                  obtain ⟨hcv, hC, hlt, hb⟩ := bytes_at w6 t HT.out
                  have HCB := Aside0.mk (And.intro hC (And.intro hlt hb))
                  clear hC hlt hb
                  go_wp2_with fail
                  have hw := stands_write H.out HCB.out.2.2 N ⟨w6.heap.size, 0, none⟩ (grownCap w6 t.size 0 5) t (Nat.le_refl _) HCB.out.2.1 HCB.out.1 HRM.out
                  rw [HLW.out.1] at hw
                  refine hw.mono ?_
                  rintro e_ w8 ⟨rfl, hSt⟩
                  replace H := Aside0.mk hSt
                  replace HI := Aside0.mk HLW.out.2
                  clear hSt hw HLW HCB hcv HBL
                  generalize (writeV d N t).1 = d' at *
                  go_wp2_with fail
                  refine (stands_lit H.out).mono ?_
                  rintro e_ w8_ ⟨rfl, rfl⟩
                  rw [HI.out.off]
                  go_wp2_with fail
                  go_roundw
                  case measure => first | exact mzD_step HIL.out | (rw [hw1]; exact mzD_step HIL.out)
                  case rel => exact ⟨i + 1, d', _, _, rfl, rfl, by first | rfl | rw [hw1], Nat.succ_le_of_lt HIL.out, HI.out, H.out⟩
              · have HLW := Aside0.mk (w_bad HI.out N t (.inr (.inl (by omega))))
                have f1 : decide (N ≥ 0) = true := decide_eq_true hN1
                have f1b : decide (0 ≤ N) = true := f1
                have f2 : decide (N < (ps.length : Int)) = false := decide_eq_false (by omega)
                clear hN1 hN2
                obtain ⟨hcv, hC, hlt, hb⟩ := bytes_at w6 t HT.out
                have HCB := Aside0.mk (And.intro hC (And.intro hlt hb))
                clear hC hlt hb
                go_wp2_with fail
                have hw := stands_write H.out HCB.out.2.2 N ⟨w6.heap.size, 0, none⟩ (grownCap w6 t.size 0 5) t (Nat.le_refl _) HCB.out.2.1 HCB.out.1 HRM.out
                rw [HLW.out.1] at hw
                refine hw.mono ?_
                rintro e_ w8 ⟨rfl, hSt⟩
                replace H := Aside0.mk hSt
                replace HI := Aside0.mk HLW.out.2
                clear hSt hw HLW HCB hcv HBL
                generalize (writeV d N t).1 = d' at *
                go_wp2_with fail
                refine (stands_lit H.out).mono ?_
                rintro e_ w8_ ⟨rfl, rfl⟩
                rw [HI.out.off]
                go_wp2_with fail
                go_roundw
                case measure => first | exact mzD_step HIL.out | (rw [hw1]; exact mzD_step HIL.out)
                case rel => exact ⟨i + 1, d', _, _, rfl, rfl, by first | rfl | rw [hw1], Nat.succ_le_of_lt HIL.out, HI.out, H.out⟩
            · have HLW := Aside0.mk (w_bad HI.out N t (.inl (by omega)))
              have f1 : decide (N ≥ 0) = false := decide_eq_false (by omega)
              have f1b : decide (0 ≤ N) = false := f1
              clear hN1
              obtain ⟨hcv, hC, hlt, hb⟩ := bytes_at w6 t HT.out
              have HCB := Aside0.mk (And.intro hC (And.intro hlt hb))
              clear hC hlt hb
              go_wp2_with fail
              have hw := stands_write H.out HCB.out.2.2 N ⟨w6.heap.size, 0, none⟩ (grownCap w6 t.size 0 5) t (Nat.le_refl _) HCB.out.2.1 HCB.out.1 HRM.out
              rw [HLW.out.1] at hw
              refine hw.mono ?_
              rintro e_ w8 ⟨rfl, hSt⟩
              replace H := Aside0.mk hSt
              replace HI := Aside0.mk HLW.out.2
              clear hSt hw HLW HCB hcv HBL
              generalize (writeV d N t).1 = d' at *
              go_wp2_with fail
              refine (stands_lit H.out).mono ?_
              rintro e_ w8_ ⟨rfl, rfl⟩
              rw [HI.out.off]
              go_wp2_with fail
              go_roundw
              case measure => first | exact mzD_step HIL.out | (rw [hw1]; exact mzD_step HIL.out)
              case rel => exact ⟨i + 1, d', _, _, rfl, rfl, by first | rfl | rw [hw1], Nat.succ_le_of_lt HIL.out, HI.out, H.out⟩
        · by_cases k2 : kind = 2
          · subst k2
            clear k0
            have HC := Aside0.mk (content_f 2 N s (Nat.le_trans HX.out.2 (by decide)) odd keep torn cut)
            go_wp2_with fail
            obtain ⟨w5, hw5⟩ : ∃ W, W = wr.alloc (.cells #[.int .i64 2, .int .i64 N, .string s, .bool odd, .slice KA keep.length kc, .int .i64 torn, .int .i64 cut] 32) := ⟨_, rfl⟩
            rw [← hw5]
            have hb5 : Below wr.heap.size wr w5 := by rw [hw5]; exact (Below.refl _ _).alloc (Nat.le_refl _) _
            have hbl : w5.heap[wr.heap.size]? = some (.cells #[.int .i64 2, .int .i64 N, .string s, .bool odd, .slice KA keep.length kc, .int .i64 torn, .int .i64 cut] 32 (0, 0)) := by rw [hw5]; exact blk_new _ _
            clear hw5
            refine (concordlaw04_content.calls 1100 2 N s odd KA kc keep torn cut (contV s odd) w5 (Kd.C_below (Kd.C_below HX.out.1.keep H.out.low) hb5) HX.out.1.cap HC.out.1).mono ?_
            rintro e_ w6 ⟨rfl, hb6⟩
            have hbl6 := blk_below hbl hb6
            have e0 : w6.cell? ⟨wr.heap.size, 0, none⟩ = some (.int .i64 2) := (blk_cell hbl6 0).trans rfl
            have e1 : w6.cell? ⟨wr.heap.size, 1, none⟩ = some (.int .i64 N) := (blk_cell hbl6 1).trans rfl
            replace H := Aside0.mk ((H.out.below hb5).below hb6)
            have HBL := Aside0.mk hbl6
            clear hbl hb5 hb6 hbl6 c0 c1 c2 c3 c4 c5 c6
            have HT := Aside0.mk HC.out.2.2
            clear HC
            generalize contV s odd = t at *
            have HRM := Aside0.mk (show d.pend.length < 2199023255552 by have := HI.out.pend; have := HXS.out.2.2.2; have := HIL.out; omega)
            have HI2 := Aside0.mk (show i ≤ 140737488351232 by have := HXS.out.2.2.2; have := HIL.out; omega)
            cases of_ with
            | true =>
              have HLW := Aside0.mk (y_off HI.out)
              go_wp2_with fail
              have hw := stands_sync H.out
              rw [HLW.out.1] at hw
              refine hw.mono ?_
              rintro e_ w8 ⟨rfl, hSt⟩
              replace H := Aside0.mk hSt
              replace HI := Aside0.mk HLW.out.2
              clear hSt hw HLW HBL
              generalize (syncV d).1 = d' at *
              go_wp2_with fail
              refine (stands_lit H.out).mono ?_
              rintro e_ w8_ ⟨rfl, rfl⟩
              rw [HI.out.off]
              go_wp2_with fail
              go_roundw
              case measure => first | exact mzD_step HIL.out | (rw [hw1]; exact mzD_step HIL.out)
              case rel => exact ⟨i + 1, d', _, _, rfl, rfl, by first | rfl | rw [hw1], Nat.succ_le_of_lt HIL.out, HI.out, H.out⟩
            | false =>
              by_cases h0 : lf = 0
              · have HLW := Aside0.mk (y_zero HLO.out.1 HI.out HI2.out HNN.out.1 h0)
                subst h0
                go_wp2_with fail
                have hw := stands_sync H.out
                rw [HLW.out.1] at hw
                refine hw.mono ?_
                rintro e_ w8 ⟨rfl, hSt⟩
                replace H := Aside0.mk hSt
                replace HI := Aside0.mk HLW.out.2
                clear hSt hw HLW HBL
                generalize (syncV d).1 = d' at *
                go_wp2_with fail
                refine (stands_lit H.out).mono ?_
                rintro e_ w8_ ⟨rfl, rfl⟩
                rw [HI.out.off]
                go_wp2_with fail
                go_roundw
                case measure => first | exact mzD_step HIL.out | (rw [hw1]; exact mzD_step HIL.out)
                case rel => exact ⟨i + 1, d', _, _, rfl, rfl, by first | rfl | rw [hw1], Nat.succ_le_of_lt HIL.out, HI.out, H.out⟩
              · have HLW := Aside0.mk (y_go HLO.out.1 HI.out HI2.out HNN.out.1 H.out.ok.hi h0)
                have f4 : (lf == 0) = false := beq_eq_false_iff_ne.mpr h0
                clear h0
                go_wp2_with fail
                have hw := stands_sync H.out
                rw [HLW.out.1] at hw
                refine hw.mono ?_
                rintro e_ w8 ⟨rfl, hSt⟩
                replace H := Aside0.mk hSt
                replace HI := Aside0.mk HLW.out.2
                clear hSt hw HLW HBL
                generalize (syncV d).1 = d' at *
                go_wp2_with fail
                refine (stands_lit H.out).mono ?_
                rintro e_ w8_ ⟨rfl, rfl⟩
                rw [HI.out.off]
                go_wp2_with fail
                go_roundw
                case measure => first | exact mzD_step HIL.out | (rw [hw1]; exact mzD_step HIL.out)
                case rel => exact ⟨i + 1, d', _, _, rfl, rfl, by first | rfl | rw [hw1], Nat.succ_le_of_lt HIL.out, HI.out, H.out⟩
          · have k0b : (kind != 0) = true := bne_iff_ne.mpr k0
            have k2b : (kind != 2) = true := bne_iff_ne.mpr k2
            go_wp2_with fail
            go_roundw
            case measure => first | exact mzD_step HIL.out | (rw [hw1]; exact mzD_step HIL.out)
            case rel => exact ⟨i + 1, d, lf, of_, rfl, rfl, by first | rfl | rw [hw1], Nat.succ_le_of_lt HIL.out, HI.out.more, H.out.below ((Below.refl _ _).alloc (Nat.le_refl _) _)⟩
      · have hie : i = xs.length := by omega
        have d1 : ¬ ((i : Nat) : Int) < (xs.length : Int) := by omega
        have d2 : decide (((i : Nat) : Int) < (xs.length : Int)) = false := decide_eq_false d1
        clear hie hi hil
        go_wp2_with fail
        refine (stands_crash (w2 := wr) H.out (Below.refl _ _) none 0 [] 0 0 (Kd.C_nil _ _) (Nat.le_refl _) (fun a h => by cases h)).mono ?_
        rintro e_ w9 ⟨rfl, hSt⟩
        replace H := Aside0.mk hSt
        have HA := Aside0.mk (a_start d HI.out.len)
        clear hSt HI
        generalize crashV d [] 0 0 = dc at *
        go_wp2_with fail
        go_loopw [17] (fun v17 wq => ∃ (k : Nat) (d2 : Dk), v17 = .int .i64 (k : Int) ∧ k ≤ 40 ∧ AInv ps.length k d2 ∧ Stands w wq g d2)
          (fun v17 wq => mzD 40 v17)
        case atStart => exact ⟨0, dc, rfl, Nat.zero_le _, HA.out, H.out⟩
        case round =>
          obtain ⟨k, d2, rfl, hkl, hA2, hS2⟩ := hrel
          clear H HA
          have H := Aside0.mk hS2
          have HA := Aside0.mk hA2
          clear hS2 hA2
          by_cases hk : k < 40
          · have p2 : decide (((k : Nat) : Int) < 40) = true := decide_eq_true (by omega)
            have HK := Aside0.mk hk
            have HST := Aside0.mk (a_step HLO.out.1 HA.out)
            have hw2 : wrap64 ((k : Int) + 1) = ((k + 1 : Nat) : Int) := by unfold wrap64; omega
            clear hk hkl
            go_wp2_with fail
            refine (page_calls 3 (by decide) _).mono ?_
            rintro e_ w10 ⟨a3, c3, rfl, h1, h2, hC, hb⟩
            go_wp2_with fail
            have hw := stands_write H.out hb 0 a3 c3 (pgc 3) h1 h2 hC (by rw [HA.out.pend]; decide)
            rw [HST.out.1, pgc_size] at hw
            clear h1 h2 hC hb
            refine hw.mono ?_
            rintro e_ w11 ⟨rfl, hSt⟩
            replace H := Aside0.mk hSt
            clear hSt hw
            go_wp2_with fail
            have hw := stands_sync H.out
            rw [HST.out.2.1] at hw
            refine hw.mono ?_
            rintro e_ w12 ⟨rfl, hSt⟩
            replace H := Aside0.mk hSt
            clear hSt hw
            go_wp2_with fail
            go_roundw
            case measure => first | exact mzD_step HK.out | (rw [hw2]; exact mzD_step HK.out)
            case rel => exact ⟨k + 1, _, by first | rfl | rw [hw2], Nat.succ_le_of_lt HK.out, HST.out.2.2.1, H.out⟩
          · have hke : k = 40 := by omega
            have p2 : decide (((k : Nat) : Int) < 40) = false := decide_eq_false (by omega)
            have HL0 := Aside0.mk (HA.out.lies (by omega))
            subst hke
            clear hk hkl
            go_wp2_with fail
            refine start_ (n := 12) (S := fun _ => True) (ds := []) #[false, false, false, false, false, false, false, false, false, false, false, false] (by kernel_rfl) rfl rfl (trivial) (fun hHeld => ?_)
            replace H := Aside0.mk (H.out.below (below_drew (Below.refl _ _)))
            generalize wr.drew = v0 at *
            refine pure_ (i := 0) (N := some 127) (v := ?_) (a' := ?_) #[true, false, false, false, false, false, false, false, false, false, false, false] rfl rfl (by kernel_rfl) (fun _ _ _ h => h) (Or.inl ⟨by rfl, ?_⟩) ?_ ?_
            rotate_left
            · intro w'
              go_simp
              with_reducible rfl
            rotate_left
            · simp only [Act.put, List.setIfInBounds_toArray, List.set_cons_zero, List.set_cons_succ, i64_w, i32_w]
              rfl
            refine one_ (i := 1) (N := some 128) #[true, true, false, false, false, false, false, false, false, false, false, false] rfl rfl (by kernel_rfl) (by decide) (fun K hK => ?_)
            refine call_ 21 #[.pointer (some ⟨g, 0, none⟩)] (by rfl) rfl (by go_simp) ?_
            refine (stands_lit H.out).mono ?_
            rintro e_ v0_ ⟨rfl, rfl⟩
            refine ⟨_, rfl, ?_⟩
            clear hHeld
            rw [HA.out.off]
            refine hK.out _ _ (trivial) (fun hHeld => ?_)
            clear hK K
            refine norm_ (a' := ?_) ?_ ?_
            rotate_left
            · show Act.put _ (some 128) _ = _
              simp only [Act.put, List.setIfInBounds_toArray, List.set_cons_zero, List.set_cons_succ, i64_w, i32_w]
              rfl
            refine pure_ (i := 2) (N := some 129) (v := ?_) (a' := ?_) #[true, true, true, false, false, false, false, false, false, false, false, false] rfl rfl (by kernel_rfl) (fun _ _ _ h => h) (Or.inl ⟨by rfl, ?_⟩) ?_ ?_
            rotate_left
            · intro w'
              go_simp
              with_reducible rfl
            rotate_left
            · simp only [Act.put, List.setIfInBounds_toArray, List.set_cons_zero, List.set_cons_succ, i64_w, i32_w]
              rfl
            refine pure_ (i := 3) (N := some 130) (v := ?_) (a' := ?_) #[true, true, true, true, false, false, false, false, false, false, false, false] rfl rfl (by kernel_rfl) (fun _ _ _ h => h) (Or.inl ⟨by rfl, ?_⟩) ?_ ?_
            rotate_left
            · intro w'
              go_simp
              with_reducible rfl
            rotate_left
            · simp only [Act.put, List.setIfInBounds_toArray, List.set_cons_zero, List.set_cons_succ, i64_w, i32_w]
              rfl
            refine one_ (i := 4) (N := some 131) #[true, true, true, true, true, false, false, false, false, false, false, false] rfl rfl (by kernel_rfl) (by decide) (fun K hK => ?_)
            refine call_ 16 #[.pointer (some ⟨g, 0, none⟩)] (by rfl) rfl (by go_simp) ?_
            refine (stands_durable H.out).mono ?_
            rintro e_ v1 ⟨v, rfl, hr, hb⟩
            obtain ⟨Ad, cd, rfl⟩ := Kd.R_slice hr
            have hrr := (Kd.R_reads' hr).2.2
            have hpos : 0 < d2.lies.length := by rw [HA.out.len]; exact HLO.out.1
            obtain ⟨gl, rfl⟩ := R_base0 hr hpos
            obtain ⟨ad, hAd, hx0⟩ := Kd.at_string hrr 0 (by decide) (by omega)
            obtain rfl := Option.some.inj hAd
            have hx : v1.cell? ⟨gl, 0, none⟩ = some (.string (pgc 3)) := by
              have e : rdOf ByteArray.empty d2.lies 0 = pgc 3 := by
                unfold rdOf
                rw [List.getD_eq_getElem?_getD]
                show (d2.lies[0]?).getD _ = _
                rw [HL0.out]
                rfl
              rw [e] at hx0
              exact hx0
            have hposI : (0 : Int) < (d2.lies.length : Int) := by omega
            have HBV := Aside0.mk (below_then H.out.low (below_size H.out.low) hb)
            refine ⟨_, rfl, ?_⟩
            clear hHeld hr hb hrr hx0 hAd
            refine hK.out _ _ (trivial) (fun hHeld => ?_)
            clear hK K
            refine norm_ (a' := ?_) ?_ ?_
            rotate_left
            · show Act.put _ (some 131) _ = _
              simp only [Act.put, List.setIfInBounds_toArray, List.set_cons_zero, List.set_cons_succ, i64_w, i32_w]
              rfl
            refine pure_ (i := 5) (N := some 132) (v := ?_) (a' := ?_) #[true, true, true, true, true, true, false, false, false, false, false, false] rfl rfl (by kernel_rfl) (fun _ _ _ h => h) (Or.inl ⟨by rfl, ?_⟩) ?_ ?_
            rotate_left
            · intro w'
              go_simp
              with_reducible rfl
            rotate_left
            · simp only [Act.put, List.setIfInBounds_toArray, List.set_cons_zero, List.set_cons_succ, i64_w, i32_w]
              rfl
            refine two_ (i := 6) (j := 7) (Ni := some 133) (Nj := some 134) #[true, true, true, true, true, true, true, false, false, false, false, false] #[true, true, true, true, true, true, false, true, false, false, false, false] rfl rfl rfl rfl (by kernel_rfl) (by decide) (by decide) (fun K hK => ?_) (fun K hK => ?_)
            · refine value_ (w1 := ?_) (v := ?_) (by rfl) rfl ?_ ?_
              rotate_left 2
              · go_simp
                constructor
                · rfl
                · rfl
              refine hK.out _ _ (trivial) (fun hHeld => ?_)
              clear hK K
              refine norm_ (a' := ?_) ?_ ?_
              rotate_left
              · show Act.put _ (some 133) _ = _
                simp only [Act.put, List.setIfInBounds_toArray, List.set_cons_zero, List.set_cons_succ, i64_w, i32_w]
                rfl
              refine one_ (i := 7) (N := some 134) #[true, true, true, true, true, true, true, true, false, false, false, false] rfl rfl (by kernel_rfl) (by decide) (fun K hK => ?_)
              refine call_ 27 #[.int .u8 3] (by rfl) rfl (by go_simp) ?_
              refine (page_calls 3 (by decide) v1).mono ?_
              rintro e_ v2 ⟨a3, c3, rfl, h1, h2, hC, hb⟩
              refine ⟨_, rfl, ?_⟩
              clear hHeld
              have hcp := conv_at (c := c3) hC
              rw [pgc_size] at hcp
              have hx2 := (hb.cell (World.block_lt_of_cell? _ _ hx)).trans hx
              replace HBV := Aside0.mk (below_then HBV.out (below_size HBV.out) hb)
              clear h1 h2 hC hb hx
              have hx := hx2
              clear hx2
              refine hK.out _ _ (trivial) (fun hHeld => ?_)
              clear hK K
              refine norm_ (a' := ?_) ?_ ?_
              rotate_left
              · show Act.put _ (some 134) _ = _
                simp only [Act.put, List.setIfInBounds_toArray, List.set_cons_zero, List.set_cons_succ, i64_w, i32_w]
                rfl
              refine one_ (i := 8) (N := some 135) #[true, true, true, true, true, true, true, true, true, false, false, false] rfl rfl (by kernel_rfl) (by decide) (fun K hK => ?_)
              refine value_ (w1 := ?_) (v := ?_) (by rfl) rfl ?_ ?_
              rotate_left 2
              · go_simp
                constructor
                · rfl
                · rfl
              refine hK.out _ _ (trivial) (fun hHeld => ?_)
              clear hK K
              refine norm_ (a' := ?_) ?_ ?_
              rotate_left
              · show Act.put _ (some 135) _ = _
                simp only [Act.put, List.setIfInBounds_toArray, List.set_cons_zero, List.set_cons_succ, i64_w, i32_w]
                rfl
              refine pure_ (i := 9) (N := some 136) (v := ?_) (a' := ?_) #[true, true, true, true, true, true, true, true, true, true, false, false] rfl rfl (by kernel_rfl) (fun _ _ _ h => h) (Or.inl ⟨by rfl, ?_⟩) ?_ ?_
              rotate_left
              · intro w'
                go_simp
                with_reducible rfl
              rotate_left
              · simp only [Act.put, List.setIfInBounds_toArray, List.set_cons_zero, List.set_cons_succ, i64_w, i32_w]
                rfl
              refine pure_ (i := 10) (N := some 137) (v := ?_) (a' := ?_) #[true, true, true, true, true, true, true, true, true, true, true, false] rfl rfl (by kernel_rfl) (fun _ _ _ h => h) (Or.inl ⟨by rfl, ?_⟩) ?_ ?_
              rotate_left
              · intro w'
                go_simp
                with_reducible rfl
              rotate_left
              · simp only [Act.put, List.setIfInBounds_toArray, List.set_cons_zero, List.set_cons_succ, i64_w, i32_w]
                rfl
              refine pure_ (i := 11) (N := some 6) (v := ?_) (a' := ?_) #[true, true, true, true, true, true, true, true, true, true, true, true] rfl rfl (by kernel_rfl) (fun _ _ _ h => h) (Or.inl ⟨by rfl, ?_⟩) ?_ ?_
              rotate_left
              · intro w'
                go_simp
                with_reducible rfl
              rotate_left
              · simp only [Act.put, List.setIfInBounds_toArray, List.set_cons_zero, List.set_cons_succ, i64_w, i32_w]
                rfl
              refine done_ (by kernel_rfl) ?_
              try clear hHeld
              try go_wp2
              go_ret
              exact ⟨rfl, HBV.out⟩
            · refine call_ 27 #[.int .u8 3] (by rfl) rfl (by go_simp) ?_
              refine (page_calls 3 (by decide) v1).mono ?_
              rintro e_ v2 ⟨a3, c3, rfl, h1, h2, hC, hb⟩
              refine ⟨_, rfl, ?_⟩
              clear hHeld
              have hcp := conv_at (c := c3) hC
              rw [pgc_size] at hcp
              have hx2 := (hb.cell (World.block_lt_of_cell? _ _ hx)).trans hx
              replace HBV := Aside0.mk (below_then HBV.out (below_size HBV.out) hb)
              clear h1 h2 hC hb hx
              have hx := hx2
              clear hx2
              refine hK.out _ _ (trivial) (fun hHeld => ?_)
              clear hK K
              refine norm_ (a' := ?_) ?_ ?_
              rotate_left
              · show Act.put _ (some 134) _ = _
                simp only [Act.put, List.setIfInBounds_toArray, List.set_cons_zero, List.set_cons_succ, i64_w, i32_w]
                rfl
              refine two_ (i := 6) (j := 8) (Ni := some 133) (Nj := some 135) #[true, true, true, true, true, true, true, true, false, false, false, false] #[true, true, true, true, true, true, false, true, true, false, false, false] rfl rfl rfl rfl (by kernel_rfl) (by decide) (by decide) (fun K hK => ?_) (fun K hK => ?_)
              · refine value_ (w1 := ?_) (v := ?_) (by rfl) rfl ?_ ?_
                rotate_left 2
                · go_simp
                  constructor
                  · rfl
                  · rfl
                refine hK.out _ _ (trivial) (fun hHeld => ?_)
                clear hK K
                refine norm_ (a' := ?_) ?_ ?_
                rotate_left
                · show Act.put _ (some 133) _ = _
                  simp only [Act.put, List.setIfInBounds_toArray, List.set_cons_zero, List.set_cons_succ, i64_w, i32_w]
                  rfl
                refine one_ (i := 8) (N := some 135) #[true, true, true, true, true, true, true, true, true, false, false, false] rfl rfl (by kernel_rfl) (by decide) (fun K hK => ?_)
                refine value_ (w1 := ?_) (v := ?_) (by rfl) rfl ?_ ?_
                rotate_left 2
                · go_simp
                  constructor
                  · rfl
                  · rfl
                refine hK.out _ _ (trivial) (fun hHeld => ?_)
                clear hK K
                refine norm_ (a' := ?_) ?_ ?_
                rotate_left
                · show Act.put _ (some 135) _ = _
                  simp only [Act.put, List.setIfInBounds_toArray, List.set_cons_zero, List.set_cons_succ, i64_w, i32_w]
                  rfl
                refine pure_ (i := 9) (N := some 136) (v := ?_) (a' := ?_) #[true, true, true, true, true, true, true, true, true, true, false, false] rfl rfl (by kernel_rfl) (fun _ _ _ h => h) (Or.inl ⟨by rfl, ?_⟩) ?_ ?_
                rotate_left
                · intro w'
                  go_simp
                  with_reducible rfl
                rotate_left
                · simp only [Act.put, List.setIfInBounds_toArray, List.set_cons_zero, List.set_cons_succ, i64_w, i32_w]
                  rfl
                refine pure_ (i := 10) (N := some 137) (v := ?_) (a' := ?_) #[true, true, true, true, true, true, true, true, true, true, true, false] rfl rfl (by kernel_rfl) (fun _ _ _ h => h) (Or.inl ⟨by rfl, ?_⟩) ?_ ?_
                rotate_left
                · intro w'
                  go_simp
                  with_reducible rfl
                rotate_left
                · simp only [Act.put, List.setIfInBounds_toArray, List.set_cons_zero, List.set_cons_succ, i64_w, i32_w]
                  rfl
                refine pure_ (i := 11) (N := some 6) (v := ?_) (a' := ?_) #[true, true, true, true, true, true, true, true, true, true, true, true] rfl rfl (by kernel_rfl) (fun _ _ _ h => h) (Or.inl ⟨by rfl, ?_⟩) ?_ ?_
                rotate_left
                · intro w'
                  go_simp
                  with_reducible rfl
                rotate_left
                · simp only [Act.put, List.setIfInBounds_toArray, List.set_cons_zero, List.set_cons_succ, i64_w, i32_w]
                  rfl
                refine done_ (by kernel_rfl) ?_
                try clear hHeld
                try go_wp2
                go_ret
                exact ⟨rfl, HBV.out⟩
              · refine value_ (w1 := ?_) (v := ?_) (by rfl) rfl ?_ ?_
                rotate_left 2
                · go_simp
                  constructor
                  · rfl
                  · rfl
                refine hK.out _ _ (trivial) (fun hHeld => ?_)
                clear hK K
                refine norm_ (a' := ?_) ?_ ?_
                rotate_left
                · show Act.put _ (some 135) _ = _
                  simp only [Act.put, List.setIfInBounds_toArray, List.set_cons_zero, List.set_cons_succ, i64_w, i32_w]
                  rfl
                refine one_ (i := 6) (N := some 133) #[true, true, true, true, true, true, true, true, true, false, false, false] rfl rfl (by kernel_rfl) (by decide) (fun K hK => ?_)
                refine value_ (w1 := ?_) (v := ?_) (by rfl) rfl ?_ ?_
                rotate_left 2
                · go_simp
                  constructor
                  · rfl
                  · rfl
                refine hK.out _ _ (trivial) (fun hHeld => ?_)
                clear hK K
                refine norm_ (a' := ?_) ?_ ?_
                rotate_left
                · show Act.put _ (some 133) _ = _
                  simp only [Act.put, List.setIfInBounds_toArray, List.set_cons_zero, List.set_cons_succ, i64_w, i32_w]
                  rfl
                refine pure_ (i := 9) (N := some 136) (v := ?_) (a' := ?_) #[true, true, true, true, true, true, true, true, true, true, false, false] rfl rfl (by kernel_rfl) (fun _ _ _ h => h) (Or.inl ⟨by rfl, ?_⟩) ?_ ?_
                rotate_left
                · intro w'
                  go_simp
                  with_reducible rfl
                rotate_left
                · simp only [Act.put, List.setIfInBounds_toArray, List.set_cons_zero, List.set_cons_succ, i64_w, i32_w]
                  rfl
                refine pure_ (i := 10) (N := some 137) (v := ?_) (a' := ?_) #[true, true, true, true, true, true, true, true, true, true, true, false] rfl rfl (by kernel_rfl) (fun _ _ _ h => h) (Or.inl ⟨by rfl, ?_⟩) ?_ ?_
                rotate_left
                · intro w'
                  go_simp
                  with_reducible rfl
                rotate_left
                · simp only [Act.put, List.setIfInBounds_toArray, List.set_cons_zero, List.set_cons_succ, i64_w, i32_w]
                  rfl
                refine pure_ (i := 11) (N := some 6) (v := ?_) (a' := ?_) #[true, true, true, true, true, true, true, true, true, true, true, true] rfl rfl (by kernel_rfl) (fun _ _ _ h => h) (Or.inl ⟨by rfl, ?_⟩) ?_ ?_
                rotate_left
                · intro w'
                  go_simp
                  with_reducible rfl
                rotate_left
                · simp only [Act.put, List.setIfInBounds_toArray, List.set_cons_zero, List.set_cons_succ, i64_w, i32_w]
                  rfl
                refine done_ (by kernel_rfl) ?_
                try clear hHeld
                try go_wp2
                go_ret
                exact ⟨rfl, HBV.out⟩
  · go_wp2_with fail
    go_ret
    exact ⟨rfl, hb3⟩
end Go.Proofs.Ytjaalegkmldaeaa.My
