/- A node in memory of one's own; lent, over, twin and kept as the laws' walks ask them. -/
import Derived.Test.YtdjjpgdhnoibkaaNdCat
import Derived.Test.YtdjjpgdhnoibkaaPZx1
import Derived.Test.YtdjjpgdhnoibkaaNdLent
import Derived.Test.YtdjjpgdhnoibkaaNdFindP
namespace Go.Proofs.Ytdjjpgdhnoibkaa.My
open Go.RowKit Go.Proofs.YtdjjpgdhnoibkaaW.PrintWords Go.Proofs.YtdjjpgdhnoibkaaW.PrintLast Go.Proofs.YtdjjpgdhnoibkaaW.PrintMore Go.Proofs.Ytdjjpgdhnoibkaa Go.Proofs.Ytdjjpgdhnoibkaa.PZ
set_option linter.unusedSimpArgs false
set_option linter.unusedVariables false
set_option maxRecDepth 100000
set_option maxHeartbeats 1600000
attribute [local go_sem high] conv_rune str_leq str_gtr eqA66
theorem cut_up {P : Program} (t e : TypeId) (kh : IntKind) {i : TypeInfo} (ht : P.underlying t = some (.slice e)) (hi : P.info? e = some i) (A : Option Addr) (n c : Nat) (j : Int) (h0 : 0 ≤ j) (hm : j ≤ c) :
    ∀ W : World, (Instr.slice t (.slice A n c) none (some (.int kh j)) none).run P W = .ok (.slice A j.toNat c) W := by
  intro W
  have hel : P.elem t = e := by simp [Program.elem, ht]
  have hu : P.underlying t = some (.slice (P.elem t)) := by rw [hel]; exact ht
  have ha : (A.map fun x => x.add 0) = A := by cases A <;> simp [Addr.add]
  rw [run_slice_h W t A n c hu kh j h0 (by omega), hel]
  simp [sizeOf, typeInfo, hi, sliced, Result.andThen, ha]
theorem kept2 (w : World) (k : Nat) (b : Bool) (A1 : Option Addr) (q1 : Nat) (f1 : List Ce) (A2 : Option Addr) (q2 : Nat) (f2 : List ByteArray) (A3 : Option Addr) (q3 : Nat) (f3 : List Int) (hf1 : Kd.C k66 w A1 f1.length f1) (hf2 : Kd.C Kd.string w A2 f2.length f2) (hf3 : Kd.C (Kd.int .u32) w A3 f3.length f3) (hq1 : f1.length ≤ q1) (hq2 : f2.length ≤ q2) (hq3 : f3.length ≤ q3) (B1 : Option Addr) (c1 : Nat) (cs : List Ce) (B2 : Option Addr) (c2 : Nat) (ks : List ByteArray) (B3 : Option Addr) (c3 : Nat) (kids : List Int) (hc1 : cs.length ≤ c1) (hc2 : ks.length ≤ c2) (hc3 : kids.length ≤ c3) (h1 : Kd.C k66 w B1 cs.length cs) (h2 : Kd.C Kd.string w B2 ks.length ks) (h3 : Kd.C (Kd.int .u32) w B3 kids.length kids) (e1 : f1.length = cs.length + 40) (e2 : f2.length = ks.length + 40) (e3 : f3.length = kids.length + 40) (hl : cs.length < 4398046511104 ∧ ks.length < 8796093022208 ∧ kids.length < 35184372088832) (hlent : lent2.f k b cs ks kids = some (b, f1, f2, f3)) :
    Calls Try.prog 20 #[.agg #[.bool b, .slice A1 cs.length q1, .slice A2 ks.length q2, .slice A3 kids.length q3], .agg #[.bool b, .slice B1 cs.length c1, .slice B2 ks.length c2, .slice B3 kids.length c3]] w fun e w' => e = .returned (.bool true) ∧ Below w.heap.size w w' := by
  have F1 := Aside0.mk hf1
  have F2 := Aside0.mk hf2
  have F3 := Aside0.mk hf3
  have Q := Aside0.mk (And.intro hq1 (And.intro hq2 hq3))
  have G1 := Aside0.mk h1
  have G2 := Aside0.mk h2
  have G3 := Aside0.mk h3
  have E := Aside0.mk (And.intro e1 (And.intro e2 e3))
  have HL := Aside0.mk hl
  have HT := Aside0.mk hlent
  clear hf1 hf2 hf3 hq1 hq2 hq3 h1 h2 h3 e1 e2 e3 hl hlent
  go_enter Try.func20, Try.ntmps20
  go_wp2_with fail
  have hs1 : (w.alloc (.cells #[.bool b, .slice A1 cs.length q1, .slice A2 ks.length q2, .slice A3 kids.length q3] 26)).heap.size = w.heap.size + 1 := by show (w.heap.push _).size = _; rw [Array.size_push]
  have hbx : ((w.alloc (.cells #[.bool b, .slice A1 cs.length q1, .slice A2 ks.length q2, .slice A3 kids.length q3] 26)).alloc (.cells #[.bool b, .slice B1 cs.length c1, .slice B2 ks.length c2, .slice B3 kids.length c3] 26)).heap[w.heap.size]? = some (.cells #[.bool b, .slice A1 cs.length q1, .slice A2 ks.length q2, .slice A3 kids.length q3] 26 (0, 0)) := blk_below (blk_new w _) ((Below.refl _ _).alloc (Nat.le_refl _) _)
  have hby : ((w.alloc (.cells #[.bool b, .slice A1 cs.length q1, .slice A2 ks.length q2, .slice A3 kids.length q3] 26)).alloc (.cells #[.bool b, .slice B1 cs.length c1, .slice B2 ks.length c2, .slice B3 kids.length c3] 26)).heap[w.heap.size + 1]? = some (.cells #[.bool b, .slice B1 cs.length c1, .slice B2 ks.length c2, .slice B3 kids.length c3] 26 (0, 0)) := by
    rw [← hs1]
    exact blk_new _ _
  have hb0 : Below w.heap.size w ((w.alloc (.cells #[.bool b, .slice A1 cs.length q1, .slice A2 ks.length q2, .slice A3 kids.length q3] 26)).alloc (.cells #[.bool b, .slice B1 cs.length c1, .slice B2 ks.length c2, .slice B3 kids.length c3] 26)) := ((Below.refl w.heap.size w).alloc (Nat.le_refl _) _).alloc (by omega) _
  generalize (w.alloc (.cells #[.bool b, .slice A1 cs.length q1, .slice A2 ks.length q2, .slice A3 kids.length q3] 26)).alloc (.cells #[.bool b, .slice B1 cs.length c1, .slice B2 ks.length c2, .slice B3 kids.length c3] 26) = wn at *
  generalize hgn : w.heap.size + 1 = gn at hby ⊢
  generalize hgl : w.heap.size = gl at hbx ⊢
  have HG := Aside0.mk (And.intro hgl hgn)
  clear hgl hgn hs1
  have HB := Aside0.mk hb0
  clear hb0
  refine (lent2.calls k b B1 c1 cs B2 c2 ks B3 c3 kids b f1 f2 f3 wn (Kd.C_below G1.out HB.out) hc1 (Kd.C_below G2.out HB.out) hc2 (Kd.C_below G3.out HB.out) hc3 HT.out).mono ?_
  rintro e_ w2 ⟨D1, d1, D2, d2, D3, d3, rfl, hr1, hr2, hr3, hb2⟩
  have hbx2 := blk_below hbx hb2
  have hby2 := blk_below hby hb2
  have HB2 := Aside0.mk (below_then HB.out (below_size HB.out) hb2)
  have hgx := blk_lt hbx
  have hgy := blk_lt hby
  have hsz := hb2.size
  clear hbx hby HB hb2
  have hb3 : Below w2.heap.size w2 (w2.alloc (.cells #[.bool b, .slice D1 cs.length d1, .slice D2 ks.length d2, .slice D3 kids.length d3] 26)) := (Below.refl _ _).alloc (Nat.le_refl _) _
  have hbx3 := blk_below hbx2 hb3
  have hby3 := blk_below hby2 hb3
  have hbd3 : (w2.alloc (.cells #[.bool b, .slice D1 cs.length d1, .slice D2 ks.length d2, .slice D3 kids.length d3] 26)).heap[w2.heap.size]? = some (.cells #[.bool b, .slice D1 cs.length d1, .slice D2 ks.length d2, .slice D3 kids.length d3] 26 (0, 0)) := blk_new _ _
  have R1 := Aside0.mk (Kd.R_below hr1 hb3)
  have R2 := Aside0.mk (Kd.R_below hr2 hb3)
  have R3 := Aside0.mk (Kd.R_below hr3 hb3)
  have HB3 := Aside0.mk (below_then HB2.out (below_size HB2.out) hb3)
  have x1 : (w2.alloc (.cells #[.bool b, .slice D1 cs.length d1, .slice D2 ks.length d2, .slice D3 kids.length d3] 26)).cell? ⟨gl, 1, none⟩ = some (.slice A1 cs.length q1) := (blk_cell hbx3 1).trans rfl
  have y1 : (w2.alloc (.cells #[.bool b, .slice D1 cs.length d1, .slice D2 ks.length d2, .slice D3 kids.length d3] 26)).cell? ⟨gn, 1, none⟩ = some (.slice B1 cs.length c1) := (blk_cell hby3 1).trans rfl
  have x2 : (w2.alloc (.cells #[.bool b, .slice D1 cs.length d1, .slice D2 ks.length d2, .slice D3 kids.length d3] 26)).cell? ⟨gl, 2, none⟩ = some (.slice A2 ks.length q2) := (blk_cell hbx3 2).trans rfl
  have y2 : (w2.alloc (.cells #[.bool b, .slice D1 cs.length d1, .slice D2 ks.length d2, .slice D3 kids.length d3] 26)).cell? ⟨gn, 2, none⟩ = some (.slice B2 ks.length c2) := (blk_cell hby3 2).trans rfl
  have x3 : (w2.alloc (.cells #[.bool b, .slice D1 cs.length d1, .slice D2 ks.length d2, .slice D3 kids.length d3] 26)).cell? ⟨gl, 3, none⟩ = some (.slice A3 kids.length q3) := (blk_cell hbx3 3).trans rfl
  have y3 : (w2.alloc (.cells #[.bool b, .slice D1 cs.length d1, .slice D2 ks.length d2, .slice D3 kids.length d3] 26)).cell? ⟨gn, 3, none⟩ = some (.slice B3 kids.length c3) := (blk_cell hby3 3).trans rfl
  have z1 : (w2.alloc (.cells #[.bool b, .slice D1 cs.length d1, .slice D2 ks.length d2, .slice D3 kids.length d3] 26)).cell? ⟨w2.heap.size, 1, none⟩ = some (.slice D1 cs.length d1) := (blk_cell hbd3 1).trans rfl
  have z2 : (w2.alloc (.cells #[.bool b, .slice D1 cs.length d1, .slice D2 ks.length d2, .slice D3 kids.length d3] 26)).cell? ⟨w2.heap.size, 2, none⟩ = some (.slice D2 ks.length d2) := (blk_cell hbd3 2).trans rfl
  have z3 : (w2.alloc (.cells #[.bool b, .slice D1 cs.length d1, .slice D2 ks.length d2, .slice D3 kids.length d3] 26)).cell? ⟨w2.heap.size, 3, none⟩ = some (.slice D3 kids.length d3) := (blk_cell hbd3 3).trans rfl
  have hbx4 := hbx3
  have hby4 := hby3
  have hbd4 := hbd3
  clear hgx hgy hsz hbx2 hby2 hbx3 hby3 hbd3 hb3 HB2
  have m1 : wrap64 ((cs.length : Int) + 40) = (f1.length : Int) := by have := E.out; have := HL.out; unfold wrap64; omega
  have ct1 := cut_up (P := Try.prog) 22 66 .i64 Try.underlying22 (Option.some_get cic0).symm A1 cs.length q1 (f1.length : Int) (by omega) (by have := Q.out; omega)
  have cd1 := cut_up (P := Try.prog) 22 66 .i64 Try.underlying22 (Option.some_get cic0).symm D1 cs.length d1 (f1.length : Int) (by omega) (by have := (Kd.R_reads' hr1).2.1; omega)
  rw [Int.toNat_natCast] at ct1 cd1
  have m2 : wrap64 ((ks.length : Int) + 40) = (f2.length : Int) := by have := E.out; have := HL.out; unfold wrap64; omega
  have ct2 := cut_up (P := Try.prog) 23 9 .i64 Try.underlying23 (Option.some_get cis0).symm A2 ks.length q2 (f2.length : Int) (by omega) (by have := Q.out; omega)
  have cd2 := cut_up (P := Try.prog) 23 9 .i64 Try.underlying23 (Option.some_get cis0).symm D2 ks.length d2 (f2.length : Int) (by omega) (by have := (Kd.R_reads' hr2).2.1; omega)
  rw [Int.toNat_natCast] at ct2 cd2
  have m3 : wrap64 ((kids.length : Int) + 40) = (f3.length : Int) := by have := E.out; have := HL.out; unfold wrap64; omega
  have ct3 := cut_up (P := Try.prog) 24 45 .i64 Try.underlying24 (Option.some_get ciu0).symm A3 kids.length q3 (f3.length : Int) (by omega) (by have := Q.out; omega)
  have cd3 := cut_up (P := Try.prog) 24 45 .i64 Try.underlying24 (Option.some_get ciu0).symm D3 kids.length d3 (f3.length : Int) (by omega) (by have := (Kd.R_reads' hr3).2.1; omega)
  rw [Int.toNat_natCast] at ct3 cd3
  clear hr1 hr2 hr3
  go_wp2_with fail
  have P1 := Aside0.mk (Kd.C_below F1.out HB3.out)
  have R1C := Aside0.mk (Kd.R_reads' R1.out).2.2
  have P2 := Aside0.mk (Kd.C_below F2.out HB3.out)
  have R2C := Aside0.mk (Kd.R_reads' R2.out).2.2
  have P3 := Aside0.mk (Kd.C_below F3.out HB3.out)
  have R3C := Aside0.mk (Kd.R_reads' R3.out).2.2
  clear F1 F2 F3 R1 R2 R3 G1 G2 G3
  have HX := Aside0.mk hbx4
  have HY := Aside0.mk hby4
  have HD := Aside0.mk hbd4
  clear hbx4 hby4 hbd4 x1 x2 x3 y1 y2 y3 z1 z2 z3
  generalize w2.alloc (.cells #[.bool b, .slice D1 cs.length d1, .slice D2 ks.length d2, .slice D3 kids.length d3] 26) = w3 at *
  generalize w2.heap.size = gd at *
  have HBL : Aside0 (Below w3.heap.size w3 w3) := ⟨Below.refl _ _⟩
  go_loopw [8] (fun iv wr => ∃ i : Nat, iv = .int .i64 i ∧ i ≤ f1.length ∧ Aside0 (Below w3.heap.size w3 wr)) (fun iv _ => f1.length - vNat iv)
  case atStart => exact ⟨0, rfl, Nat.zero_le _, HBL⟩
  case round =>
    clear HBL
    obtain ⟨i, rfl, hi, HBL⟩ := hrel
    by_cases hil : i < f1.length
    · have b1 : decide ((i : Int) < (f1.length : Int)) = true := decide_eq_true (by omega)
      have j0 : (0 : Int) ≤ (i : Int) := by omega
      have j1 : (i : Int) < (f1.length : Int) := by omega
      obtain ⟨ad, rfl, hx0, hx1⟩ := at_T66 (Kd.C_below P1.out HBL.out) (i : Int) j0 j1
      obtain ⟨ae, rfl, hy0, hy1⟩ := at_T66 (Kd.C_below R1C.out HBL.out) (i : Int) j0 j1
      have w4 : wrap64 ((i : Int) + 1) = ((i + 1 : Nat) : Int) := w64S i (by have := HL.out; have := E.out; omega)
      rw [Int.toNat_natCast] at hx0 hx1 hy0 hy1
      generalize rd_T66 f1 (i : Int) = xe at hx0 hx1 hy0 hy1
      go_wp2_with fail
      go_quiet (fail)
      go_wp2_with fail
      go_roundw
      case rel => exact ⟨i + 1, by rw [w4], hil, ⟨pw_below_drewN HBL.out _⟩⟩
      case measure => rw [w4]; simp only [vNat, Int.toNat_natCast]; exact Nat.sub_lt_sub_left hil (Nat.lt_succ_self i)
    · have b1 : decide ((i : Int) < (f1.length : Int)) = false := decide_eq_false (by omega)
      have x2 : wr.cell? ⟨gl, 2, none⟩ = some (.slice A2 ks.length q2) := (blk_cell (blk_below HX.out HBL.out) 2).trans rfl
      have y2 : wr.cell? ⟨gn, 2, none⟩ = some (.slice B2 ks.length c2) := (blk_cell (blk_below HY.out HBL.out) 2).trans rfl
      have z2 : wr.cell? ⟨gd, 2, none⟩ = some (.slice D2 ks.length d2) := (blk_cell (blk_below HD.out HBL.out) 2).trans rfl
      go_wp2_with fail
      clear hi hil b1 x2 y2 z2
      go_loopw [11] (fun iv wr => ∃ i : Nat, iv = .int .i64 i ∧ i ≤ f2.length ∧ Aside0 (Below w3.heap.size w3 wr)) (fun iv _ => f2.length - vNat iv)
      case atStart => exact ⟨0, rfl, Nat.zero_le _, HBL⟩
      case round =>
        clear HBL
        obtain ⟨i, rfl, hi, HBL⟩ := hrel
        by_cases hil : i < f2.length
        · have b1 : decide ((i : Int) < (f2.length : Int)) = true := decide_eq_true (by omega)
          have j0 : (0 : Int) ≤ (i : Int) := by omega
          have j1 : (i : Int) < (f2.length : Int) := by omega
          obtain ⟨ad, rfl, hx0⟩ := Kd.at_string (Kd.C_below P2.out HBL.out) (i : Int) j0 j1
          obtain ⟨ae, rfl, hy0⟩ := Kd.at_string (Kd.C_below R2C.out HBL.out) (i : Int) j0 j1
          have w4 : wrap64 ((i : Int) + 1) = ((i + 1 : Nat) : Int) := w64S i (by have := HL.out; have := E.out; omega)
          rw [Int.toNat_natCast] at hx0 hy0
          generalize rdOf ByteArray.empty f2 (i : Int) = xe at hx0 hy0
          go_wp2_with fail
          go_quiet (fail)
          go_wp2_with fail
          go_roundw
          case rel => exact ⟨i + 1, by rw [w4], hil, ⟨pw_below_drewN HBL.out _⟩⟩
          case measure => rw [w4]; simp only [vNat, Int.toNat_natCast]; exact Nat.sub_lt_sub_left hil (Nat.lt_succ_self i)
        · have b1 : decide ((i : Int) < (f2.length : Int)) = false := decide_eq_false (by omega)
          have x3 : wr.cell? ⟨gl, 3, none⟩ = some (.slice A3 kids.length q3) := (blk_cell (blk_below HX.out HBL.out) 3).trans rfl
          have y3 : wr.cell? ⟨gn, 3, none⟩ = some (.slice B3 kids.length c3) := (blk_cell (blk_below HY.out HBL.out) 3).trans rfl
          have z3 : wr.cell? ⟨gd, 3, none⟩ = some (.slice D3 kids.length d3) := (blk_cell (blk_below HD.out HBL.out) 3).trans rfl
          go_wp2_with fail
          clear hi hil b1 x3 y3 z3
          go_loopw [14] (fun iv wr => ∃ i : Nat, iv = .int .i64 i ∧ i ≤ f3.length ∧ Aside0 (Below w3.heap.size w3 wr)) (fun iv _ => f3.length - vNat iv)
          case atStart => exact ⟨0, rfl, Nat.zero_le _, HBL⟩
          case round =>
            clear HBL
            obtain ⟨i, rfl, hi, HBL⟩ := hrel
            by_cases hil : i < f3.length
            · have b1 : decide ((i : Int) < (f3.length : Int)) = true := decide_eq_true (by omega)
              have j0 : (0 : Int) ≤ (i : Int) := by omega
              have j1 : (i : Int) < (f3.length : Int) := by omega
              obtain ⟨ad, rfl, hx0⟩ := Kd.at_int (Kd.C_below P3.out HBL.out) (i : Int) j0 j1
              obtain ⟨ae, rfl, hy0⟩ := Kd.at_int (Kd.C_below R3C.out HBL.out) (i : Int) j0 j1
              have w4 : wrap64 ((i : Int) + 1) = ((i + 1 : Nat) : Int) := w64S i (by have := HL.out; have := E.out; omega)
              rw [Int.toNat_natCast] at hx0 hy0
              generalize rd f3 (i : Int) = xe at hx0 hy0
              go_wp2_with fail
              go_quiet (fail)
              go_wp2_with fail
              go_roundw
              case rel => exact ⟨i + 1, by rw [w4], hil, ⟨pw_below_drewN HBL.out _⟩⟩
              case measure => rw [w4]; simp only [vNat, Int.toNat_natCast]; exact Nat.sub_lt_sub_left hil (Nat.lt_succ_self i)
            · have b1 : decide ((i : Int) < (f3.length : Int)) = false := decide_eq_false (by omega)
              go_wp2_with fail
              go_ret
              exact ⟨rfl, below_then HB3.out (below_size HB3.out) HBL.out⟩
end Go.Proofs.Ytdjjpgdhnoibkaa.My
namespace Go.Proofs.Ytdjjpgdhnoibkaa.My
open Go.RowKit Go.Proofs.YtdjjpgdhnoibkaaW.PrintWords Go.Proofs.YtdjjpgdhnoibkaaW.PrintLast Go.Proofs.YtdjjpgdhnoibkaaW.PrintMore Go.Proofs.Ytdjjpgdhnoibkaa Go.Proofs.Ytdjjpgdhnoibkaa.PZ Go.Proofs.Ytdjjpgdhnoibkaa.PD
set_option linter.unusedSimpArgs false
set_option linter.unusedVariables false
set_option maxRecDepth 100000
set_option maxHeartbeats 1600000
/-- The three rows of a node, in blocks of one's own from a up to b. -/
def NR (W : World) (base a b : Nat) (A1 : Option Addr) (m1 q1 : Nat) (f1 : List Ce) (A2 : Option Addr) (m2 q2 : Nat) (f2 : List ByteArray) (A3 : Option Addr) (m3 q3 : Nat) (f3 : List Int) : Prop :=
  Kd.R k66 66 W base (fun k => a ≤ k ∧ k < b) (.slice A1 m1 q1) f1 ∧ Kd.R Kd.string 9 W base (fun k => a ≤ k ∧ k < b) (.slice A2 m2 q2) f2 ∧ Kd.R (Kd.int .u32) 45 W base (fun k => a ≤ k ∧ k < b) (.slice A3 m3 q3) f3
section
variable {W W' : World} {base a b : Nat} {A1 : Option Addr} {m1 q1 : Nat} {f1 : List Ce} {A2 : Option Addr} {m2 q2 : Nat} {f2 : List ByteArray} {A3 : Option Addr} {m3 q3 : Nat} {f3 : List Int}
theorem NR_below (h : NR W base a b A1 m1 q1 f1 A2 m2 q2 f2 A3 m3 q3 f3) (hb : Below W.heap.size W W') : NR W' base a b A1 m1 q1 f1 A2 m2 q2 f2 A3 m3 q3 f3 := ⟨Kd.R_below h.1 hb, Kd.R_below h.2.1 hb, Kd.R_below h.2.2 hb⟩
theorem NR_kept {S : Nat → Prop} (h : NR W base a b A1 m1 q1 f1 A2 m2 q2 f2 A3 m3 q3 f3) (hk : Kept W W' S) (hne : ∀ k, a ≤ k → k < b → ¬ S k) : NR W' base a b A1 m1 q1 f1 A2 m2 q2 f2 A3 m3 q3 f3 := ⟨Kd.R_kept h.1 hk (fun k x => hne k x.1 x.2), Kd.R_kept h.2.1 hk (fun k x => hne k x.1 x.2), Kd.R_kept h.2.2 hk (fun k x => hne k x.1 x.2)⟩
theorem NR_C (h : NR W base a b A1 m1 q1 f1 A2 m2 q2 f2 A3 m3 q3 f3) : (Kd.C k66 W A1 f1.length f1 ∧ Kd.C Kd.string W A2 f2.length f2 ∧ Kd.C (Kd.int .u32) W A3 f3.length f3) ∧ (f1.length ≤ q1 ∧ f2.length ≤ q2 ∧ f3.length ≤ q3) ∧ m1 = f1.length ∧ m2 = f2.length ∧ m3 = f3.length := by
  obtain ⟨x1, y1, z1⟩ := Kd.R_reads' h.1
  obtain ⟨x2, y2, z2⟩ := Kd.R_reads' h.2.1
  obtain ⟨x3, y3, z3⟩ := Kd.R_reads' h.2.2
  exact ⟨⟨z1, z2, z3⟩, ⟨by omega, by omega, by omega⟩, x1, x2, x3⟩
theorem NR_front {t1 : List Ce} {t2 : List ByteArray} {t3 : List Int} (h : NR W base a b A1 (f1 ++ t1).length q1 (f1 ++ t1) A2 (f2 ++ t2).length q2 (f2 ++ t2) A3 (f3 ++ t3).length q3 (f3 ++ t3)) : NR W base a b A1 f1.length q1 f1 A2 f2.length q2 f2 A3 f3.length q3 f3 := by
  have h1 := Kd.R_take (m := f1.length) h.1 (by rw [List.length_append]; omega)
  have h2 := Kd.R_take (m := f2.length) h.2.1 (by rw [List.length_append]; omega)
  have h3 := Kd.R_take (m := f3.length) h.2.2 (by rw [List.length_append]; omega)
  rw [List.take_left' rfl] at h1 h2 h3
  exact ⟨h1, h2, h3⟩
end
theorem R_own {α : Type} {d : Kd α} {e : Nat} {w : World} {base : Nat} {ok ok' : Nat → Prop} {v : Value} {xs : List α} (h : d.R e w base ok v xs) (hM : ∀ (o o' : Nat → Prop) (x : α) (c : List Value), d.M w base o x c → d.M w base o' x c) (ho : ∀ k, v.ownBlock = some k → ok' k) : d.R e w base ok' v xs := by
  obtain ⟨h0, inner, h1, h2⟩ := h
  exact ⟨ho, inner, h1, h2.imp_ (fun x c hx => hM _ _ x c hx)⟩
theorem R_same {α : Type} {d : Kd α} {e : Nat} {w : World} {base : Nat} {ok : Nat → Prop} {v : Value} {xs : List α} {w2 : World} {ok2 : Nat → Prop} {ys : List α} (h : d.R e w base ok v xs) (h2 : d.R e w2 base ok2 v ys) (hM : ∀ (o o' : Nat → Prop) (x : α) (c : List Value), d.M w2 base o x c → d.M w2 base o' x c) : d.R e w2 base ok v ys := R_own h2 hM h.1
theorem NR_seal {W W' : World} {n0 : Nat} {A1 : Option Addr} {q1 : Nat} {f1 : List Ce} {A2 : Option Addr} {q2 : Nat} {f2 : List ByteArray} {A3 : Option Addr} {q3 : Nat} {f3 : List Int} (h1 : Kd.R k66 66 W' W.heap.size (fun _ => True) (.slice A1 f1.length q1) f1) (h2 : Kd.R Kd.string 9 W' W.heap.size (fun _ => True) (.slice A2 f2.length q2) f2) (h3 : Kd.R (Kd.int .u32) 45 W' W.heap.size (fun _ => True) (.slice A3 f3.length q3) f3) (hn : n0 ≤ W.heap.size) :
    NR W' n0 W.heap.size W'.heap.size A1 f1.length q1 f1 A2 f2.length q2 f2 A3 f3.length q3 f3 :=
  ⟨Kd.R_lower (Kd.R_mono (Kd.R_bound h1) (fun k hk => ⟨hk.2.1, hk.2.2.1⟩)) hn, Kd.R_lower (Kd.R_mono (Kd.R_bound h2) (fun k hk => ⟨hk.2.1, hk.2.2.1⟩)) hn, Kd.R_lower (Kd.R_mono (Kd.R_bound h3) (fun k hk => ⟨hk.2.1, hk.2.2.1⟩)) hn⟩
theorem lentN (W : World) (b : Bool) (A1 : Option Addr) (c1 : Nat) (cs : List Ce) (A2 : Option Addr) (c2 : Nat) (ks : List ByteArray) (A3 : Option Addr) (c3 : Nat) (kids : List Int) (hc1 : cs.length ≤ c1) (hc2 : ks.length ≤ c2) (hc3 : kids.length ≤ c3) (h1 : Kd.C k66 W A1 cs.length cs) (h2 : Kd.C Kd.string W A2 ks.length ks) (h3 : Kd.C (Kd.int .u32) W A3 kids.length kids) (t1 : List Ce) (t2 : List ByteArray) (t3 : List Int) (hl : lent2.f 50 b cs ks kids = some (b, cs ++ t1, ks ++ t2, kids ++ t3)) (n0 : Nat) (h0 : n0 ≤ W.heap.size) :
    Calls Try.prog 15 #[.agg #[.bool b, .slice A1 cs.length c1, .slice A2 ks.length c2, .slice A3 kids.length c3]] W fun e w' => ∃ (D1 : Option Addr) (d1 : Nat) (D2 : Option Addr) (d2 : Nat) (D3 : Option Addr) (d3 : Nat), e = .returned (.agg #[.bool b, .slice D1 cs.length d1, .slice D2 ks.length d2, .slice D3 kids.length d3]) ∧ NR w' n0 W.heap.size w'.heap.size D1 (cs ++ t1).length d1 (cs ++ t1) D2 (ks ++ t2).length d2 (ks ++ t2) D3 (kids ++ t3).length d3 (kids ++ t3) ∧ Below W.heap.size W w' := by
  refine (lent2.calls 50 b A1 c1 cs A2 c2 ks A3 c3 kids b _ _ _ W h1 hc1 h2 hc2 h3 hc3 hl).mono ?_
  rintro e w' ⟨D1, d1, D2, d2, D3, d3, rfl, g1, g2, g3, hb⟩
  exact ⟨D1, d1, D2, d2, D3, d3, rfl, NR_seal g1 g2 g3 h0, hb⟩
theorem twinN (W : World) (b : Bool) (A1 : Option Addr) (c1 : Nat) (cs : List Ce) (A2 : Option Addr) (c2 : Nat) (ks : List ByteArray) (A3 : Option Addr) (c3 : Nat) (kids : List Int) (hc1 : cs.length ≤ c1) (hc2 : ks.length ≤ c2) (hc3 : kids.length ≤ c3) (h1 : Kd.C k66 W A1 cs.length cs) (h2 : Kd.C Kd.string W A2 ks.length ks) (h3 : Kd.C (Kd.int .u32) W A3 kids.length kids) (hn : NdOk cs ks kids) (n0 : Nat) (h0 : n0 ≤ W.heap.size) :
    Calls Try.prog 22 #[.agg #[.bool b, .slice A1 cs.length c1, .slice A2 ks.length c2, .slice A3 kids.length c3]] W fun e w' => ∃ (D1 : Option Addr) (d1 : Nat) (D2 : Option Addr) (d2 : Nat) (D3 : Option Addr) (d3 : Nat), e = .returned (.agg #[.bool b, .slice D1 cs.length d1, .slice D2 ks.length d2, .slice D3 kids.length d3]) ∧ NR w' n0 W.heap.size w'.heap.size D1 cs.length d1 cs D2 ks.length d2 ks D3 kids.length d3 kids ∧ Below W.heap.size W w' := by
  refine (concordlaw08_twin.calls b A1 c1 cs A2 c2 ks A3 c3 kids b cs ks kids W h1 hc1 h2 hc2 h3 hc3 (twin_f' b cs ks kids hn)).mono ?_
  rintro e w' ⟨v1, v2, v3, rfl, g1, g2, g3, hb⟩
  obtain ⟨D1, d1, rfl⟩ := Kd.R_slice g1
  obtain ⟨D2, d2, rfl⟩ := Kd.R_slice g2
  obtain ⟨D3, d3, rfl⟩ := Kd.R_slice g3
  exact ⟨D1, d1, D2, d2, D3, d3, rfl, NR_seal g1 g2 g3 h0, hb⟩
theorem overN (w0 W : World) (k : Nat) (b : Bool) (x y : Nat) (A1 : Option Addr) (q1 : Nat) (cs : List Ce) (A2 : Option Addr) (q2 : Nat) (ks : List ByteArray) (A3 : Option Addr) (q3 : Nat) (kids : List Int) (h : NR W w0.heap.size x y A1 cs.length q1 cs A2 ks.length q2 ks A3 kids.length q3 kids) (hB : Below w0.heap.size w0 W) (r1 : List Ce) (r2 : List ByteArray) (r3 : List Int) (ho : concordlaw08_over.f k b cs ks kids = some (r1, r2, r3)) :
    Calls Try.prog 21 #[.agg #[.bool b, .slice A1 cs.length q1, .slice A2 ks.length q2, .slice A3 kids.length q3]] W fun e w' => e = .returned (.tuple #[]) ∧ NR w' w0.heap.size x y A1 cs.length q1 r1 A2 ks.length q2 r2 A3 kids.length q3 r3 ∧ Below w0.heap.size w0 w' ∧ Kept W w' (fun k => x ≤ k ∧ k < y) := by
  refine (concordlaw08_over.calls k b (fun k => x ≤ k ∧ k < y) _ cs (fun k => x ≤ k ∧ k < y) _ ks (fun k => x ≤ k ∧ k < y) _ kids r1 r2 r3 w0 W hB h.1 h.2.1 h.2.2 ho).mono ?_
  rintro e w' ⟨rfl, g1, g2, g3, hb, hk⟩
  refine ⟨rfl, ⟨R_same h.1 g1 (fun o o' z c hz => by rw [k66_openM hz]; exact k66_mkM _ _ _ _), R_same h.2.1 g2 (fun o o' z c hz => hz), R_same h.2.2 g3 (fun o o' z c hz => hz)⟩, hb, ⟨hk.1, fun k hlt hne => hk.2 k hlt (fun q => hne (by rcases q with q | q | q <;> exact q))⟩⟩
theorem keptN (W : World) (b : Bool) {n0 x y : Nat} (A1 : Option Addr) (q1 : Nat) (t1 : List Ce) (A2 : Option Addr) (q2 : Nat) (t2 : List ByteArray) (A3 : Option Addr) (q3 : Nat) (t3 : List Int) (B1 : Option Addr) (c1 : Nat) (cs : List Ce) (B2 : Option Addr) (c2 : Nat) (ks : List ByteArray) (B3 : Option Addr) (c3 : Nat) (kids : List Int) (h : NR W n0 x y A1 (cs ++ t1).length q1 (cs ++ t1) A2 (ks ++ t2).length q2 (ks ++ t2) A3 (kids ++ t3).length q3 (kids ++ t3)) (hc1 : cs.length ≤ c1) (hc2 : ks.length ≤ c2) (hc3 : kids.length ≤ c3) (h1 : Kd.C k66 W B1 cs.length cs) (h2 : Kd.C Kd.string W B2 ks.length ks) (h3 : Kd.C (Kd.int .u32) W B3 kids.length kids) (hn : NdOk cs ks kids) (hl : lent2.f 50 b cs ks kids = some (b, cs ++ t1, ks ++ t2, kids ++ t3)) (e1 : t1.length = 40) (e2 : t2.length = 40) (e3 : t3.length = 40) :
    Calls Try.prog 20 #[.agg #[.bool b, .slice A1 cs.length q1, .slice A2 ks.length q2, .slice A3 kids.length q3], .agg #[.bool b, .slice B1 cs.length c1, .slice B2 ks.length c2, .slice B3 kids.length c3]] W fun e w' => e = .returned (.bool true) ∧ Below W.heap.size W w' := by
  obtain ⟨⟨g1, g2, g3⟩, ⟨l1, l2, l3⟩, -, -, -⟩ := NR_C h
  exact kept2 W 50 b A1 q1 _ A2 q2 _ A3 q3 _ g1 g2 g3 l1 l2 l3 B1 c1 cs B2 c2 ks B3 c3 kids hc1 hc2 hc3 h1 h2 h3 (by rw [List.length_append, e1]) (by rw [List.length_append, e2]) (by rw [List.length_append, e3]) hn.1 hl
end Go.Proofs.Ytdjjpgdhnoibkaa.My
