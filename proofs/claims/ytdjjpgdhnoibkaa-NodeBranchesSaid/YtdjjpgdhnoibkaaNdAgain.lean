/- again: the same call made twice, the node written over between. -/
import Derived.Test.YtdjjpgdhnoibkaaNdMem
import Derived.Test.YtdjjpgdhnoibkaaPDy3
namespace Go.Proofs.Ytdjjpgdhnoibkaa.My
open Go.RowKit Go.Proofs.YtdjjpgdhnoibkaaW.PrintWords Go.Proofs.YtdjjpgdhnoibkaaW.PrintLast Go.Proofs.YtdjjpgdhnoibkaaW.PrintMore Go.Proofs.Ytdjjpgdhnoibkaa Go.Proofs.Ytdjjpgdhnoibkaa.PZ Go.Proofs.Ytdjjpgdhnoibkaa.PD
set_option linter.unusedSimpArgs false
set_option linter.unusedVariables false
set_option maxRecDepth 100000
set_option maxHeartbeats 3200000
attribute [local go_sem high] conv_rune str_leq str_gtr
theorem cells_set {W : World} {base g n cap : Nat} {ok : Nat → Prop} {l : List Ce} (h : Kd.R k66 66 W base ok (.slice (some ⟨g, 0, none⟩) n cap) l) (i : Nat) (hi : i < n) (x : Ce) :
  (∃ a b, W.cell? ⟨g, i * 2, none⟩ = some a ∧ W.cell? ⟨g, i * 2 + 1, none⟩ = some b) ∧ (W.frozen? ⟨g, i * 2, none⟩ = false ∧ W.frozen? ⟨g, i * 2 + 1, none⟩ = false) ∧ Kd.R k66 66 ((W.setCell ⟨g, i * 2, none⟩ (.string x.f0)).setCell ⟨g, i * 2 + 1, none⟩ (.string x.f1)) base ok (.slice (some ⟨g, 0, none⟩) n cap) (l.set i x) := by
 obtain ⟨c, hcl, hM, hcc, hfr⟩ := Kd.R_elem h z66 (i : Int) (by omega) (by omega)
 have s := (Kd.R_seg h (i : Int) (by omega) (by omega) (seg := [.string x.f0, .string x.f1]) (j := 0) hcl hcc (by rw [← hcl]; rw [k66_openM hM]; exact Nat.le_refl _) (x' := x) (okp := fun _ => False) (by rw [k66_openM hM]; exact k66_mkM _ _ _ x) (fun _ hk => hk.elim)).1
 obtain rfl := k66_openM hM
 exact ⟨⟨_, _, hcc 0 _ rfl, hcc 1 _ rfl⟩, ⟨hfr 0, hfr 1⟩, s⟩
theorem str_set {W : World} {base g n cap : Nat} {ok : Nat → Prop} {l : List ByteArray} (h : Kd.R Kd.string 9 W base ok (.slice (some ⟨g, 0, none⟩) n cap) l) (i : Nat) (hi : i < n) (x : ByteArray) :
  (∃ a, W.cell? ⟨g, i, none⟩ = some a) ∧ W.frozen? ⟨g, i, none⟩ = false ∧ Kd.R Kd.string 9 (W.setCell ⟨g, i, none⟩ (.string x)) base ok (.slice (some ⟨g, 0, none⟩) n cap) (l.set i x) := by
 obtain rfl := (Kd.R_reads' h).1
 obtain ⟨h1, h2⟩ := Kd.R_cell ByteArray.empty h (i : Int) (by omega) (by omega)
 exact ⟨⟨_, h1⟩, h2, Kd.R_putn h (i : Int) x⟩
theorem int_set {W : World} {base g n cap : Nat} {ok : Nat → Prop} {l : List Int} (h : Kd.R (Kd.int .u32) 45 W base ok (.slice (some ⟨g, 0, none⟩) n cap) l) (i : Nat) (hi : i < n) (x : Int) :
  (∃ a, W.cell? ⟨g, i, none⟩ = some a) ∧ W.frozen? ⟨g, i, none⟩ = false ∧ Kd.R (Kd.int .u32) 45 (W.setCell ⟨g, i, none⟩ (.int .u32 x)) base ok (.slice (some ⟨g, 0, none⟩) n cap) (l.set i x) := by
 obtain rfl := (Kd.R_reads' h).1
 obtain ⟨h1, h2⟩ := Kd.R_cell (0 : Int) h (i : Int) (by omega) (by omega)
 exact ⟨⟨_, h1⟩, h2, Kd.R_putn h (i : Int) x⟩
theorem R_apart {α : Type} {d : Kd α} {e g t j : Nat} {w : World} {base : Nat} {ok : Nat → Prop} {v : Value} {xs : List α} (h : d.R e w base ok v xs) {cells : Array Value} (hb : w.heap[g]? = some (.cells cells t (0, 0))) (ht : ∀ q, q ∈ e :: d.E → q ≠ t) (u : Value) : d.R e (w.setCell ⟨g, j, none⟩ u) base ok v xs :=
 Kd.R_mono (Kd.R_far (p := ⟨g, j, none⟩) (Kd.R_types h hb ht) (fun _ hk => hk.2) u) (fun _ hk => hk.1)
theorem spoilN (w0 W : World) (b : Bool) (x y : Nat) (A1 : Option Addr) (n1 q1 : Nat) (f1 : List Ce) (A2 : Option Addr) (n2 q2 : Nat) (f2 : List ByteArray) (A3 : Option Addr) (n3 q3 : Nat) (f3 : List Int) (h : NR W w0.heap.size x y A1 n1 q1 f1 A2 n2 q2 f2 A3 n3 q3 f3) (hB : Below w0.heap.size w0 W) (hy : y ≤ W.heap.size) (hx : w0.heap.size ≤ x) (hl : n1 ≤ 1000000 ∧ n2 ≤ 1000000 ∧ n3 ≤ 1000000) :
  Calls Try.prog 29 #[.agg #[.bool b, .slice A1 n1 q1, .slice A2 n2 q2, .slice A3 n3 q3]] W fun e w' => e = .returned (.tuple #[]) ∧ Below w0.heap.size w0 w' ∧ Kept W w' (fun k => x ≤ k ∧ k < y) := by
 obtain ⟨-, -, g1, g2, g3⟩ := NR_C h
 have hb1 : Below W.heap.size W (W.alloc (.cells #[.bool b, .slice A1 n1 q1, .slice A2 n2 q2, .slice A3 n3 q3] 26)) := (Below.refl _ _).alloc (Nat.le_refl _) _
 have HN := Aside0.mk (NR_below h hb1)
 have HX : Aside0 ((W.alloc (.cells #[.bool b, .slice A1 n1 q1, .slice A2 n2 q2, .slice A3 n3 q3] 26)).heap[W.heap.size]? = some (.cells #[.bool b, .slice A1 n1 q1, .slice A2 n2 q2, .slice A3 n3 q3] 26 (0, 0))) := ⟨blk_new _ _⟩
 have HB := Aside0.mk (below_then hB hB.size hb1)
 have HK := Aside0.mk (Kept.of_below hb1 (fun k => x ≤ k ∧ k < y))
 have HL := Aside0.mk (And.intro hl (And.intro hy (And.intro hx (And.intro g1 (And.intro g2 g3)))))
 clear h hB hb1 hl hy hx g1 g2 g3
 go_enter Try.func29, Try.ntmps29
 go_wp2_with fail
 obtain ⟨l1, e1⟩ : ∃ l, l = f1 := ⟨_, rfl⟩
 obtain ⟨l2, e2⟩ : ∃ l, l = f2 := ⟨_, rfl⟩
 obtain ⟨l3, e3⟩ : ∃ l, l = f3 := ⟨_, rfl⟩
 rw [← e1, ← e2, ← e3] at HN
 clear e1 e2 e3
 generalize W.alloc (.cells #[.bool b, .slice A1 n1 q1, .slice A2 n2 q2, .slice A3 n3 q3] 26) = wa at *
 obtain ⟨gb, hgb⟩ : ∃ g, g = W.heap.size := ⟨_, rfl⟩
 rw [← hgb] at HX ⊢
 have HG : Aside0 (W.heap.size ≤ gb) := ⟨Nat.le_of_eq hgb.symm⟩
 clear hgb
 go_loopw [2] (fun iv wr => ∃ (i : Nat) (l1 : List Ce) (l2 : List ByteArray) (l3 : List Int), iv = .int .i64 i ∧ i ≤ n1 ∧ Aside0 (NR wr w0.heap.size x y A1 n1 q1 l1 A2 n2 q2 l2 A3 n3 q3 l3) ∧ Aside0 (wr.heap[gb]? = some (.cells #[.bool b, .slice A1 n1 q1, .slice A2 n2 q2, .slice A3 n3 q3] 26 (0, 0))) ∧ Aside0 (Below w0.heap.size w0 wr) ∧ Aside0 (Kept W wr (fun k => x ≤ k ∧ k < y))) (fun iv _ => n1 - vNat iv)
 case atStart => exact ⟨0, l1, l2, l3, rfl, Nat.zero_le _, HN, HX, HB, HK⟩
 case round =>
  clear HN HX HB HK
  obtain ⟨i, l1, l2, l3, rfl, hi, HN, HX, HB, HK⟩ := hrel
  have c1 : wr.cell? ⟨gb, 1, none⟩ = some (.slice A1 n1 q1) := (blk_cell HX.out 1).trans rfl
  by_cases hil : i < n1
  ·have b1 : decide ((i : Int) < (n1 : Int)) = true := decide_eq_true (by omega)
   have j0 : (0 : Int) ≤ (i : Int) := by omega
   have j1 : (i : Int) < (n1 : Int) := by omega
   have w4 : wrap64 ((i : Int) + 1) = ((i + 1 : Nat) : Int) := w64S i (by have := HL.out.1; omega)
   obtain ⟨-, -, m1, m2, m3⟩ := NR_C HN.out
   obtain ⟨g, cap, eo, hg0, hg1, cl, hcl⟩ := Kd.R_form HN.out.1 (by omega)
   injection eo with ea en ec
   subst ea
   clear en ec cap m1 m2 m3
   have hown : x ≤ g ∧ g < y := HN.out.1.1 g rfl
   have hne : gb ≠ g := by have := HG.out; have := HL.out.2.1; omega
   obtain ⟨⟨u0, u1, k0, k1⟩, ⟨z0, z1⟩, hR⟩ := cells_set HN.out.1 i hil (⟨⟨#[115, 112, 111, 105, 108, 116]⟩, ⟨#[]⟩⟩ : Ce)
   have HN2 := Aside0.mk (show NR _ w0.heap.size x y (some ⟨g, 0, none⟩) n1 q1 _ A2 n2 q2 l2 A3 n3 q3 l3 from ⟨hR, R_apart (cells := cl.setIfInBounds (i * 2) _) (R_apart HN.out.2.1 hcl (by decide) _) (blk_set hcl _ _) (by decide) _, R_apart (cells := cl.setIfInBounds (i * 2) _) (R_apart HN.out.2.2 hcl (by decide) _) (blk_set hcl _ _) (by decide) _⟩)
   have HX2 := Aside0.mk (blk_far (p := ⟨g, i * 2 + 1, none⟩) (blk_far (p := ⟨g, i * 2, none⟩) HX.out hne (.string ⟨#[115, 112, 111, 105, 108, 116]⟩)) hne (.string ⟨#[]⟩))
   have HB2 := Aside0.mk (below_set (j := i * 2 + 1) (v := .string ⟨#[]⟩) (below_set (j := i * 2) (v := .string ⟨#[115, 112, 111, 105, 108, 116]⟩) HB.out hg0) hg0)
   have HK2 := Aside0.mk (Kept.setCell (p := ⟨g, i * 2 + 1, none⟩) (Kept.setCell (p := ⟨g, i * 2, none⟩) HK.out (.inl hown) (.string ⟨#[115, 112, 111, 105, 108, 116]⟩)) (.inl hown) (.string ⟨#[]⟩))
   clear hR hcl hg0 hg1 hown hne hi
   have HIL := Aside0.mk hil
   clear hil
   go_wp2_with fail
   go_roundw
   case rel => exact ⟨i + 1, _, _, _, by rw [w4], HIL.out, HN2, HX2, HB2, HK2⟩
   case measure => rw [w4]; simp only [vNat, Int.toNat_natCast]; exact Nat.sub_lt_sub_left HIL.out (Nat.lt_succ_self i)
  ·have b1 : decide ((i : Int) < (n1 : Int)) = false := decide_eq_false (by omega)
   go_wp2_with fail
   clear hi hil b1 c1
   go_loopw [3] (fun iv wr => ∃ (i : Nat) (l1 : List Ce) (l2 : List ByteArray) (l3 : List Int), iv = .int .i64 i ∧ i ≤ n2 ∧ Aside0 (NR wr w0.heap.size x y A1 n1 q1 l1 A2 n2 q2 l2 A3 n3 q3 l3) ∧ Aside0 (wr.heap[gb]? = some (.cells #[.bool b, .slice A1 n1 q1, .slice A2 n2 q2, .slice A3 n3 q3] 26 (0, 0))) ∧ Aside0 (Below w0.heap.size w0 wr) ∧ Aside0 (Kept W wr (fun k => x ≤ k ∧ k < y))) (fun iv _ => n2 - vNat iv)
   case atStart => exact ⟨0, l1, l2, l3, rfl, Nat.zero_le _, HN, HX, HB, HK⟩
   case round =>
    clear HN HX HB HK
    obtain ⟨i, l1, l2, l3, rfl, hi, HN, HX, HB, HK⟩ := hrel
    have c2 : wr.cell? ⟨gb, 2, none⟩ = some (.slice A2 n2 q2) := (blk_cell HX.out 2).trans rfl
    by_cases hil : i < n2
    ·have b1 : decide ((i : Int) < (n2 : Int)) = true := decide_eq_true (by omega)
     have j0 : (0 : Int) ≤ (i : Int) := by omega
     have j1 : (i : Int) < (n2 : Int) := by omega
     have w4 : wrap64 ((i : Int) + 1) = ((i + 1 : Nat) : Int) := w64S i (by have := HL.out.1; omega)
     obtain ⟨-, -, m1, m2, m3⟩ := NR_C HN.out
     obtain ⟨g, cap, eo, hg0, hg1, cl, hcl⟩ := Kd.R_form HN.out.2.1 (by omega)
     injection eo with ea en ec
     subst ea
     clear en ec cap m1 m2 m3
     have hown : x ≤ g ∧ g < y := HN.out.2.1.1 g rfl
     have hne : gb ≠ g := by have := HG.out; have := HL.out.2.1; omega
     obtain ⟨⟨u0, k0⟩, z0, hR⟩ := str_set HN.out.2.1 i hil (⟨#[115, 112, 111, 105, 108, 116]⟩ : ByteArray)
     have HN2 := Aside0.mk (show NR _ w0.heap.size x y A1 n1 q1 l1 (some ⟨g, 0, none⟩) n2 q2 _ A3 n3 q3 l3 from ⟨R_apart HN.out.1 hcl (by decide) _, hR, R_apart HN.out.2.2 hcl (by decide) _⟩)
     have HX2 := Aside0.mk (blk_far (p := ⟨g, i, none⟩) HX.out hne (.string ⟨#[115, 112, 111, 105, 108, 116]⟩))
     have HB2 := Aside0.mk (below_set (j := i) (v := (.string ⟨#[115, 112, 111, 105, 108, 116]⟩)) HB.out hg0)
     have HK2 := Aside0.mk (Kept.setCell (p := ⟨g, i, none⟩) HK.out (.inl hown) (.string ⟨#[115, 112, 111, 105, 108, 116]⟩))
     clear hR hcl hg0 hg1 hown hne hi
     have HIL := Aside0.mk hil
     clear hil
     go_wp2_with fail
     go_roundw
     case rel => exact ⟨i + 1, _, _, _, by rw [w4], HIL.out, HN2, HX2, HB2, HK2⟩
     case measure => rw [w4]; simp only [vNat, Int.toNat_natCast]; exact Nat.sub_lt_sub_left HIL.out (Nat.lt_succ_self i)
    ·have b1 : decide ((i : Int) < (n2 : Int)) = false := decide_eq_false (by omega)
     go_wp2_with fail
     clear hi hil b1 c2
     go_loopw [4] (fun iv wr => ∃ (i : Nat) (l1 : List Ce) (l2 : List ByteArray) (l3 : List Int), iv = .int .i64 i ∧ i ≤ n3 ∧ Aside0 (NR wr w0.heap.size x y A1 n1 q1 l1 A2 n2 q2 l2 A3 n3 q3 l3) ∧ Aside0 (wr.heap[gb]? = some (.cells #[.bool b, .slice A1 n1 q1, .slice A2 n2 q2, .slice A3 n3 q3] 26 (0, 0))) ∧ Aside0 (Below w0.heap.size w0 wr) ∧ Aside0 (Kept W wr (fun k => x ≤ k ∧ k < y))) (fun iv _ => n3 - vNat iv)
     case atStart => exact ⟨0, l1, l2, l3, rfl, Nat.zero_le _, HN, HX, HB, HK⟩
     case round =>
      clear HN HX HB HK
      obtain ⟨i, l1, l2, l3, rfl, hi, HN, HX, HB, HK⟩ := hrel
      have c3 : wr.cell? ⟨gb, 3, none⟩ = some (.slice A3 n3 q3) := (blk_cell HX.out 3).trans rfl
      by_cases hil : i < n3
      ·have b1 : decide ((i : Int) < (n3 : Int)) = true := decide_eq_true (by omega)
       have j0 : (0 : Int) ≤ (i : Int) := by omega
       have j1 : (i : Int) < (n3 : Int) := by omega
       have w4 : wrap64 ((i : Int) + 1) = ((i + 1 : Nat) : Int) := w64S i (by have := HL.out.1; omega)
       obtain ⟨-, -, m1, m2, m3⟩ := NR_C HN.out
       obtain ⟨g, cap, eo, hg0, hg1, cl, hcl⟩ := Kd.R_form HN.out.2.2 (by omega)
       injection eo with ea en ec
       subst ea
       clear en ec cap m1 m2 m3
       have hown : x ≤ g ∧ g < y := HN.out.2.2.1 g rfl
       have hne : gb ≠ g := by have := HG.out; have := HL.out.2.1; omega
       obtain ⟨⟨u0, k0⟩, z0, hR⟩ := int_set HN.out.2.2 i hil (99 : Int)
       have HN2 := Aside0.mk (show NR _ w0.heap.size x y A1 n1 q1 l1 A2 n2 q2 l2 (some ⟨g, 0, none⟩) n3 q3 _ from ⟨R_apart HN.out.1 hcl (by decide) _, R_apart HN.out.2.1 hcl (by decide) _, hR⟩)
       have HX2 := Aside0.mk (blk_far (p := ⟨g, i, none⟩) HX.out hne (.int .u32 99))
       have HB2 := Aside0.mk (below_set (j := i) (v := (.int .u32 99)) HB.out hg0)
       have HK2 := Aside0.mk (Kept.setCell (p := ⟨g, i, none⟩) HK.out (.inl hown) (.int .u32 99))
       clear hR hcl hg0 hg1 hown hne hi
       have HIL := Aside0.mk hil
       clear hil
       go_wp2_with fail
       go_roundw
       case rel => exact ⟨i + 1, _, _, _, by rw [w4], HIL.out, HN2, HX2, HB2, HK2⟩
       case measure => rw [w4]; simp only [vNat, Int.toNat_natCast]; exact Nat.sub_lt_sub_left HIL.out (Nat.lt_succ_self i)
      ·have b1 : decide ((i : Int) < (n3 : Int)) = false := decide_eq_false (by omega)
       have c1 : wr.cell? ⟨gb, 1, none⟩ = some (.slice A1 n1 q1) := (blk_cell HX.out 1).trans rfl
       have c2 : wr.cell? ⟨gb, 2, none⟩ = some (.slice A2 n2 q2) := (blk_cell HX.out 2).trans rfl
       go_wp2_with fail
       clear hi hil b1 c3 c1 c2
       have r1 := Kd.R_mono (ok' := (fun k => (x ≤ k ∧ k < y) ∨ W.heap.size ≤ k)) HN.out.1 (fun k hk => .inl hk)
       have r2 := Kd.R_mono (ok' := (fun k => (x ≤ k ∧ k < y) ∨ W.heap.size ≤ k)) HN.out.2.1 (fun k hk => .inl hk)
       have r3 := Kd.R_mono (ok' := (fun k => (x ≤ k ∧ k < y) ∨ W.heap.size ≤ k)) HN.out.2.2 (fun k hk => .inl hk)
       have HR1 := Aside0.mk r1
       have HR2 := Aside0.mk r2
       have HR3 := Aside0.mk r3
       obtain ⟨-, -, m1, m2, m3⟩ := NR_C HN.out
       have HM := Aside0.mk (And.intro m1 (And.intro m2 m3))
       clear r1 r2 r3 m1 m2 m3 HN HX
       go_loopw [5, 6, 7, 8] (fun va vb vc iv wr => ∃ (i : Nat) (la : List Ce) (lb : List ByteArray) (lc : List Int), iv = .int .i64 i ∧ i ≤ 40 ∧ Aside0 (Kd.R k66 66 wr w0.heap.size (fun k => (x ≤ k ∧ k < y) ∨ W.heap.size ≤ k) va la) ∧ Aside0 (Kd.R Kd.string 9 wr w0.heap.size (fun k => (x ≤ k ∧ k < y) ∨ W.heap.size ≤ k) vb lb) ∧ Aside0 (Kd.R (Kd.int .u32) 45 wr w0.heap.size (fun k => (x ≤ k ∧ k < y) ∨ W.heap.size ≤ k) vc lc) ∧ Aside0 (la.length ≤ 1000000 + i ∧ lb.length ≤ 1000000 + i ∧ lc.length ≤ 1000000 + i) ∧ Aside0 (Below w0.heap.size w0 wr) ∧ Aside0 (Kept W wr (fun k => x ≤ k ∧ k < y))) (fun _ _ _ iv _ => 40 - vNat iv)
       case atStart => exact ⟨0, l1, l2, l3, rfl, Nat.zero_le _, HR1, HR2, HR3, ⟨by have := HL.out.1; have := HM.out; omega⟩, HB, HK⟩
       case round =>
        clear HR1 HR2 HR3 HM HB HK
        obtain ⟨j, la, lb, lc, rfl, hj, HR1, HR2, HR3, HS, HB, HK⟩ := hrel
        by_cases hjl : j < 40
        ·have b1 : decide ((j : Int) < 40) = true := decide_eq_true (by omega)
         have w4 : wrap64 ((j : Int) + 1) = ((j + 1 : Nat) : Int) := w64S j (by omega)
         go_wp2_with (first | ((with_reducible refine gate_builtin (b := .append) (xs := #[.tmp 53, .tmp 55]) rfl ?_); (try (refine gate_guard (by rfl) ?_; dsimp only)); at_builtin; refine Kd.R_append k66 (w0 := w0) w0.heap.size rfl (.tmp 53) (.tmp 55) 22 66 (.agg #[(.string ⟨#[]⟩), (.string ⟨#[]⟩)]) 32 rfl Try.underlying22 info66 rfl (by decide) (by omega) _ la (⟨⟨#[98, 101, 104, 105, 110, 100]⟩, ⟨#[]⟩⟩ : Ce) [.string ⟨#[98, 101, 104, 105, 110, 100]⟩, .string ⟨#[]⟩] (fun k => (x ≤ k ∧ k < y) ∨ W.heap.size ≤ k) (fun _ => False) rfl rfl ?aP (fun _ hk => hk.elim) ?aF ?aO ?aB ?aS ?aL ?_; (case aP => exact k66_mkM _ _ _ _); (case aB => exact HB.out); (case aF => exact (fun k hk => .inr (Nat.le_trans HK.out.1 hk))); (case aO => exact HR1.out); (case aS => exact HB.out.size); (case aL => have := HS.out; omega); intro va wa ho hb hg hat; have n2_ := Aside0.mk (Kd.R_over' HR2.out (Kd.R_typed HR1.out) (by decide) hg); have n3_ := Aside0.mk (Kd.R_over' HR3.out (Kd.R_typed HR1.out) (by decide) hg); have nK_ := Aside0.mk (Kept.of_grown hg HK.out HR1.out.1); have nS_ := Aside0.mk (show (la ++ [(⟨⟨#[98, 101, 104, 105, 110, 100]⟩, ⟨#[]⟩⟩ : Ce)]).length ≤ 1000000 + (j + 1) by rw [List.length_append]; have := HS.out; simp only [List.length_cons, List.length_nil]; omega); clear HB HK HR1 HR2 HR3; have HB := Aside0.mk hb; have HK := nK_; have HSa := nS_; have HR1 := Aside0.mk ho; have HR2 := n2_; have HR3 := n3_; clear n2_ n3_ nK_ nS_ ho hb hg hat) | ((with_reducible refine gate_builtin (b := .append) (xs := #[.tmp 57, .tmp 58]) rfl ?_); (try (refine gate_guard (by rfl) ?_; dsimp only)); at_builtin; refine Kd.R_append Kd.string (w0 := w0) w0.heap.size rfl (.tmp 57) (.tmp 58) 23 9 (.string ⟨#[]⟩) 16 rfl Try.underlying23 info9 rfl (by decide) (by omega) _ lb (⟨#[98, 101, 104, 105, 110, 100]⟩ : ByteArray) [.string ⟨#[98, 101, 104, 105, 110, 100]⟩] (fun k => (x ≤ k ∧ k < y) ∨ W.heap.size ≤ k) (fun _ => False) rfl rfl ?aP (fun _ hk => hk.elim) ?aF ?aO ?aB ?aS ?aL ?_; (case aP => exact rfl); (case aB => exact HB.out); (case aF => exact (fun k hk => .inr (Nat.le_trans HK.out.1 hk))); (case aO => exact HR2.out); (case aS => exact HB.out.size); (case aL => have := HS.out; omega); intro vb wb ho hb hg hat; have n1_ := Aside0.mk (Kd.R_over' HR1.out (Kd.R_typed HR2.out) (by decide) hg); have n3_ := Aside0.mk (Kd.R_over' HR3.out (Kd.R_typed HR2.out) (by decide) hg); have nK_ := Aside0.mk (Kept.of_grown hg HK.out HR2.out.1); have nS_ := Aside0.mk (show (lb ++ [(⟨#[98, 101, 104, 105, 110, 100]⟩ : ByteArray)]).length ≤ 1000000 + (j + 1) by rw [List.length_append]; have := HS.out; simp only [List.length_cons, List.length_nil]; omega); clear HB HK HR1 HR2 HR3; have HB := Aside0.mk hb; have HK := nK_; have HSb := nS_; have HR2 := Aside0.mk ho; have HR1 := n1_; have HR3 := n3_; clear n1_ n3_ nK_ nS_ ho hb hg hat) | ((with_reducible refine gate_builtin (b := .append) (xs := #[.tmp 60, .tmp 61]) rfl ?_); (try (refine gate_guard (by rfl) ?_; dsimp only)); at_builtin; refine Kd.R_append (Kd.int .u32) (w0 := w0) w0.heap.size rfl (.tmp 60) (.tmp 61) 24 45 (.int .u32 0) 4 rfl Try.underlying24 info45 rfl (by decide) (by omega) _ lc (98 : Int) [.int .u32 98] (fun k => (x ≤ k ∧ k < y) ∨ W.heap.size ≤ k) (fun _ => False) rfl rfl ?aP (fun _ hk => hk.elim) ?aF ?aO ?aB ?aS ?aL ?_; (case aP => exact rfl); (case aB => exact HB.out); (case aF => exact (fun k hk => .inr (Nat.le_trans HK.out.1 hk))); (case aO => exact HR3.out); (case aS => exact HB.out.size); (case aL => have := HS.out; omega); intro vc wc ho hb hg hat; have n1_ := Aside0.mk (Kd.R_over' HR1.out (Kd.R_typed HR3.out) (by decide) hg); have n2_ := Aside0.mk (Kd.R_over' HR2.out (Kd.R_typed HR3.out) (by decide) hg); have nK_ := Aside0.mk (Kept.of_grown hg HK.out HR3.out.1); have nS_ := Aside0.mk (show (lc ++ [(98 : Int)]).length ≤ 1000000 + (j + 1) by rw [List.length_append]; have := HS.out; simp only [List.length_cons, List.length_nil]; omega); clear HB HK HR1 HR2 HR3; have HB := Aside0.mk hb; have HK := nK_; have HSc := nS_; have HR3 := Aside0.mk ho; have HR1 := n1_; have HR2 := n2_; clear n1_ n2_ nK_ nS_ ho hb hg hat))
         go_roundw
         case rel => exact ⟨j + 1, _, _, _, (by first | rw [w4] | rfl), hjl, HR1, HR2, HR3, ⟨HSa.out, HSb.out, HSc.out⟩, HB, HK⟩
         case measure => exact Nat.sub_lt_sub_left (k := j) hjl (Nat.lt_succ_self j)
        ·have b1 : decide ((j : Int) < 40) = false := decide_eq_false (by omega)
         go_wp2_with fail
         first | go_end0 | ((try simp only [Exit.inBlock, Exit.then]); refine bodyPost_ret (results_none rfl _ _ _) rfl ?_)
         exact ⟨rfl, HB.out, HK.out⟩
end Go.Proofs.Ytdjjpgdhnoibkaa.My
namespace Go.Proofs.Ytdjjpgdhnoibkaa.My
open Go.RowKit Go.Proofs.YtdjjpgdhnoibkaaW.PrintWords Go.Proofs.YtdjjpgdhnoibkaaW.PrintLast Go.Proofs.YtdjjpgdhnoibkaaW.PrintMore Go.Proofs.Ytdjjpgdhnoibkaa Go.Proofs.Ytdjjpgdhnoibkaa.PZ Go.Proofs.Ytdjjpgdhnoibkaa.PD
set_option linter.unusedSimpArgs false
set_option linter.unusedVariables false
set_option maxRecDepth 100000
set_option maxHeartbeats 1600000
instance decCe : DecidableEq Ce := fun a b => decidable_of_iff (a.f0 = b.f0 ∧ a.f1 = b.f1) ⟨fun h => by cases a; cases b; obtain ⟨h1, h2⟩ := h; dsimp only at h1 h2; rw [h1, h2], fun h => by rw [h]; exact ⟨rfl, rfl⟩⟩
theorem same_l2 (b b' : Bool) (cs cs' : List Ce) (ks ks' : List ByteArray) (kids kids' : List Int) (hl : kids.length = kids'.length) (hb : kids.length < 35184372088832) : ∀ (n i k : Nat), i + n = kids.length → n + 1 ≤ k → concordref08_Same.l2 k (i : Int) b cs ks kids b' cs' ks' kids' = some (decide (kids.drop i = kids'.drop i))
  | 0, i, k, hi, hk => by
    obtain ⟨k, rfl⟩ : ∃ j, k = j + 1 := ⟨k - 1, by omega⟩
    rw [concordref08_Same.l2, if_neg (by omega), List.drop_eq_nil_of_le (by omega), List.drop_eq_nil_of_le (by omega), decide_eq_true rfl]
  | n + 1, i, k, hi, hk => by
    obtain ⟨k, rfl⟩ : ∃ j, k = j + 1 := ⟨k - 1, by omega⟩
    have h1 : i < kids.length := by omega
    have h2 : i < kids'.length := by omega
    rw [concordref08_Same.l2, if_pos (by omega), if_pos (by omega), if_pos (by omega), rdI_at kids i h1, rdI_at kids' i h2, w64S i (by omega), same_l2 b b' cs cs' ks ks' kids kids' hl hb n (i + 1) k (by omega) (by omega), List.drop_eq_getElem_cons h1, List.drop_eq_getElem_cons h2]
    by_cases h : kids[i] = kids'[i]
    · rw [if_pos h, h]
      congr 1
      exact decide_eq_decide.2 ⟨fun h => by rw [h], fun h => (List.cons.inj h).2⟩
    · rw [if_neg h]
      congr 1
      exact (decide_eq_false fun h' => h (List.cons.inj h').1).symm
theorem str_eq {a b : ByteArray} (h : a.toList = b.toList) : a = b := by
  rw [Go.ByteArray.toList_eq, Go.ByteArray.toList_eq] at h
  exact ByteArray.ext (Array.toList_inj.1 h)
theorem same_l1 (b b' : Bool) (cs cs' : List Ce) (ks ks' : List ByteArray) (kids kids' : List Int) (hl : kids.length = kids'.length) (hb : kids.length < 35184372088832) (hl1 : ks.length = ks'.length) (hb1 : ks.length < 8796093022208) : ∀ (n i k : Nat), i + n = ks.length → n + kids.length + 5 ≤ k → concordref08_Same.l1 k (i : Int) b cs ks kids b' cs' ks' kids' = some (decide (ks.drop i = ks'.drop i ∧ kids = kids'))
  | 0, i, k, hi, hk => by
    obtain ⟨k, rfl⟩ : ∃ j, k = j + 1 := ⟨k - 1, by omega⟩
    have h := same_l2 b b' cs cs' ks ks' kids kids' hl hb kids.length 0 k (by omega) (by omega)
    rw [List.drop_zero, List.drop_zero] at h
    rw [concordref08_Same.l1, if_neg (by omega), List.drop_eq_nil_of_le (by omega), List.drop_eq_nil_of_le (by omega)]
    refine h.trans ?_
    congr 1
    exact decide_eq_decide.2 ⟨fun h => ⟨rfl, h⟩, fun h => h.2⟩
  | n + 1, i, k, hi, hk => by
    obtain ⟨k, rfl⟩ : ∃ j, k = j + 1 := ⟨k - 1, by omega⟩
    have h1 : i < ks.length := by omega
    have h2 : i < ks'.length := by omega
    rw [concordref08_Same.l1, if_pos (by omega), if_pos (by omega), if_pos (by omega), rdS_at ks i h1, rdS_at ks' i h2, w64S i (by omega), same_l1 b b' cs cs' ks ks' kids kids' hl hb hl1 hb1 n (i + 1) k (by omega) (by omega), List.drop_eq_getElem_cons h1, List.drop_eq_getElem_cons h2]
    by_cases h : ks[i].toList = ks'[i].toList
    · rw [if_pos h, str_eq h]
      congr 1
      exact decide_eq_decide.2 ⟨fun h => ⟨by rw [h.1], h.2⟩, fun h => ⟨(List.cons.inj h.1).2, h.2⟩⟩
    · rw [if_neg h]
      congr 1
      exact (decide_eq_false fun h' => h (by rw [(List.cons.inj h'.1).1])).symm
theorem same_l0 (b b' : Bool) (cs cs' : List Ce) (ks ks' : List ByteArray) (kids kids' : List Int) (hl : kids.length = kids'.length) (hb : kids.length < 35184372088832) (hl1 : ks.length = ks'.length) (hb1 : ks.length < 8796093022208) (hl0 : cs.length = cs'.length) (hb0 : cs.length < 4398046511104) : ∀ (n i k : Nat), i + n = cs.length → n + ks.length + kids.length + 15 ≤ k → concordref08_Same.l0 k (i : Int) b cs ks kids b' cs' ks' kids' = some (decide (cs.drop i = cs'.drop i ∧ ks = ks' ∧ kids = kids'))
  | 0, i, k, hi, hk => by
    obtain ⟨k, rfl⟩ : ∃ j, k = j + 1 := ⟨k - 1, by omega⟩
    have h := same_l1 b b' cs cs' ks ks' kids kids' hl hb hl1 hb1 ks.length 0 k (by omega) (by omega)
    rw [List.drop_zero, List.drop_zero] at h
    rw [concordref08_Same.l0, if_neg (by omega), List.drop_eq_nil_of_le (by omega), List.drop_eq_nil_of_le (by omega)]
    refine h.trans ?_
    congr 1
    exact decide_eq_decide.2 ⟨fun h => ⟨rfl, h⟩, fun h => h.2⟩
  | n + 1, i, k, hi, hk => by
    obtain ⟨k, rfl⟩ : ∃ j, k = j + 1 := ⟨k - 1, by omega⟩
    have h1 : i < cs.length := by omega
    have h2 : i < cs'.length := by omega
    rw [concordref08_Same.l0, if_pos (by omega), if_pos (by omega), if_pos (by omega), rdC_at cs i h1, rdC_at cs' i h2, w64S i (by omega), same_l0 b b' cs cs' ks ks' kids kids' hl hb hl1 hb1 hl0 hb0 n (i + 1) k (by omega) (by omega), List.drop_eq_getElem_cons h1, List.drop_eq_getElem_cons h2]
    generalize cs[i] = x
    generalize cs'[i] = y
    obtain ⟨x0, x1⟩ := x
    obtain ⟨y0, y1⟩ := y
    dsimp only
    by_cases h3 : x0.toList = y0.toList
    · by_cases h4 : x1.toList = y1.toList
      · rw [if_neg (by rw [h3, h4]; simp), str_eq h3, str_eq h4]
        congr 1
        exact decide_eq_decide.2 ⟨fun h => ⟨by rw [h.1], h.2⟩, fun h => ⟨(List.cons.inj h.1).2, h.2⟩⟩
      · rw [if_pos (by simp [h4])]
        congr 1
        refine (decide_eq_false fun h' => h4 ?_).symm
        have h5 := (List.cons.inj h'.1).1
        injection h5 with h6 h7
        rw [h7]
    · rw [if_pos (by simp [h3])]
      congr 1
      refine (decide_eq_false fun h' => h3 ?_).symm
      have h5 := (List.cons.inj h'.1).1
      injection h5 with h6 h7
      rw [h6]
theorem same_j0 (b b' : Bool) (cs cs' : List Ce) (ks ks' : List ByteArray) (kids kids' : List Int) (hl : kids.length = kids'.length) (hb : kids.length < 35184372088832) (hl1 : ks.length = ks'.length) (hb1 : ks.length < 8796093022208) (hl0 : cs.length = cs'.length) (hb0 : cs.length < 4398046511104) (k : Nat) (hk : cs.length + ks.length + kids.length + 20 ≤ k) : concordref08_Same.j0 k false b cs ks kids b' cs' ks' kids' = some (decide (cs = cs' ∧ ks = ks' ∧ kids = kids')) := by
  obtain ⟨k, rfl⟩ : ∃ j, k = j + 1 := ⟨k - 1, by omega⟩
  have h := same_l0 b b' cs cs' ks ks' kids kids' hl hb hl1 hb1 hl0 hb0 cs.length 0 k (by omega) (by omega)
  rw [List.drop_zero, List.drop_zero] at h
  rw [concordref08_Same.j0, if_neg (by decide)]
  exact h
theorem same_bad (b b' : Bool) (cs cs' : List Ce) (ks ks' : List ByteArray) (kids kids' : List Int) (k : Nat) (hk : 1 ≤ k) : concordref08_Same.j0 k true b cs ks kids b' cs' ks' kids' = some false := by
  obtain ⟨k, rfl⟩ : ∃ j, k = j + 1 := ⟨k - 1, by omega⟩
  rw [concordref08_Same.j0, if_pos rfl]
/-- Same answers whether they are one. -/
theorem same_f (b b' : Bool) (cs cs' : List Ce) (ks ks' : List ByteArray) (kids kids' : List Int) (hb : kids.length < 35184372088832) (hb1 : ks.length < 8796093022208) (hb0 : cs.length < 4398046511104) (k : Nat) (hk : cs.length + ks.length + kids.length + 20 ≤ k) : concordref08_Same.f k b cs ks kids b' cs' ks' kids' = some (decide (b = b' ∧ cs = cs' ∧ ks = ks' ∧ kids = kids')) := by
  unfold concordref08_Same.f
  by_cases h1 : b = b'
  · subst h1
    rw [if_neg (by simp)]
    by_cases h2 : cs.length = cs'.length
    · rw [if_pos (by rw [h2])]
      by_cases h3 : ks.length = ks'.length
      · rw [if_pos (by rw [h3])]
        by_cases h4 : kids.length = kids'.length
        · have e : ((kids.length : Int) != (kids'.length : Int)) = false := by rw [h4]; simp
          rw [e, same_j0 b b cs cs' ks ks' kids kids' h4 hb h3 hb1 h2 hb0 k hk]
          congr 1
          exact decide_eq_decide.2 ⟨fun h => ⟨rfl, h⟩, fun h => h.2⟩
        · have e : ((kids.length : Int) != (kids'.length : Int)) = true := by
            rw [bne_iff_ne]
            omega
          rw [e, same_bad _ _ _ _ _ _ _ _ k (by omega)]
          congr 1
          exact (decide_eq_false fun h => h4 (by rw [h.2.2.2])).symm
      · rw [if_neg (by omega), same_bad _ _ _ _ _ _ _ _ k (by omega)]
        congr 1
        exact (decide_eq_false fun h => h3 (by rw [h.2.2.1])).symm
    · rw [if_neg (by omega), same_bad _ _ _ _ _ _ _ _ k (by omega)]
      congr 1
      exact (decide_eq_false fun h => h2 (by rw [h.2.1])).symm
  · rw [if_pos (by simpa using h1), same_bad _ _ _ _ _ _ _ _ k (by omega)]
    congr 1
    exact (decide_eq_false fun h => h1 h.1).symm
theorem sameN (W : World) (b : Bool) {m0 m1 x0 y0 x1 y1 : Nat} (A1 : Option Addr) (n1 q1 : Nat) (A2 : Option Addr) (n2 q2 : Nat) (A3 : Option Addr) (n3 q3 : Nat) (B1 : Option Addr) (p1 : Nat) (B2 : Option Addr) (p2 : Nat) (B3 : Option Addr) (p3 : Nat) (cs : List Ce) (ks : List ByteArray) (kids : List Int) (hA : NR W m0 x0 y0 A1 n1 q1 cs A2 n2 q2 ks A3 n3 q3 kids) (hB : NR W m1 x1 y1 B1 n1 p1 cs B2 n2 p2 ks B3 n3 p3 kids) (hl : cs.length < 4398046511104 ∧ ks.length < 8796093022208 ∧ kids.length < 35184372088832) :
    Calls Try.prog 25 #[.agg #[.bool b, .slice A1 n1 q1, .slice A2 n2 q2, .slice A3 n3 q3], .agg #[.bool b, .slice B1 n1 p1, .slice B2 n2 p2, .slice B3 n3 p3]] W fun e w' => e = .returned (.bool true) ∧ Below W.heap.size W w' := by
  obtain ⟨⟨g1, g2, g3⟩, ⟨l1, l2, l3⟩, rfl, rfl, rfl⟩ := NR_C hA
  obtain ⟨⟨h1, h2, h3⟩, ⟨k1, k2, k3⟩, -, -, -⟩ := NR_C hB
  exact concordref08_Same.calls (cs.length + ks.length + kids.length + 20) b A1 q1 cs A2 q2 ks A3 q3 kids b B1 p1 cs B2 p2 ks B3 p3 kids true W g1 l1 g2 l2 g3 l3 h1 k1 h2 k2 h3 k3 ((same_f b b cs cs ks ks kids kids hl.2.2 hl.2.1 hl.1 _ (Nat.le_refl _)).trans (congrArg some (decide_eq_true ⟨rfl, rfl, rfl, rfl⟩)))
end Go.Proofs.Ytdjjpgdhnoibkaa.My
namespace Go.Proofs.Ytdjjpgdhnoibkaa.My
open Go.RowKit Go.Proofs.YtdjjpgdhnoibkaaW.PrintWords Go.Proofs.YtdjjpgdhnoibkaaW.PrintLast Go.Proofs.YtdjjpgdhnoibkaaW.PrintMore Go.Proofs.Ytdjjpgdhnoibkaa Go.Proofs.Ytdjjpgdhnoibkaa.PZ Go.Proofs.Ytdjjpgdhnoibkaa.PD
set_option linter.unusedSimpArgs false
set_option linter.unusedVariables false
set_option maxRecDepth 100000
set_option maxHeartbeats 6400000
attribute [local go_sem high] conv_rune str_leq str_gtr
abbrev NdV := (Bool × List Ce × List ByteArray × List Int) × Int
/-- A function value (function NA, with what it holds) answers G of each node; w: since when it does. -/
def Asks (w : World) (NA : Nat) (ca : Array Value) (G : Bool → List Ce → List ByteArray → List Int → NdV) : Prop :=
 ∀ (W : World), Below w.heap.size w W → ∀ (b : Bool) (A1 : Option Addr) (c1 : Nat) (cs : List Ce) (A2 : Option Addr) (c2 : Nat) (ks : List ByteArray) (A3 : Option Addr) (c3 : Nat) (kids : List Int), cs.length ≤ c1 → ks.length ≤ c2 → kids.length ≤ c3 → Kd.C k66 W A1 cs.length cs → Kd.C Kd.string W A2 ks.length ks → Kd.C (Kd.int .u32) W A3 kids.length kids → NdOk cs ks kids → (∀ x ∈ kids, 0 ≤ x ∧ x < 4294967296) →
  Calls Try.prog NA (#[.agg #[.bool b, .slice A1 cs.length c1, .slice A2 ks.length c2, .slice A3 kids.length c3]] ++ ca) W fun e w' => ∃ (D1 : Option Addr) (d1 : Nat) (D2 : Option Addr) (d2 : Nat) (D3 : Option Addr) (d3 : Nat), e = .returned (.tuple #[.agg #[.bool (G b cs ks kids).1.1, .slice D1 (G b cs ks kids).1.2.1.length d1, .slice D2 (G b cs ks kids).1.2.2.1.length d2, .slice D3 (G b cs ks kids).1.2.2.2.length d3], .int .i64 (G b cs ks kids).2]) ∧ NR w' w.heap.size W.heap.size w'.heap.size D1 (G b cs ks kids).1.2.1.length d1 (G b cs ks kids).1.2.1 D2 (G b cs ks kids).1.2.2.1.length d2 (G b cs ks kids).1.2.2.1 D3 (G b cs ks kids).1.2.2.2.length d3 (G b cs ks kids).1.2.2.2 ∧ Below W.heap.size W w'
theorem again_go (NA NW : Nat) (ca cw : Array Value) (hea : ∀ (args : Array Value) (W : World), (callFunc NA args).run Try.prog W = .ok (.enter NA args) W) (hew : ∀ (args : Array Value) (W : World), (callFunc NW args).run Try.prog W = .ok (.enter NW args) W) (G : Bool → List Ce → List ByteArray → List Int → NdV) (w : World) (hA : Asks w NA ca G) (hW : Asks w NW cw G) (b : Bool) (B1 : Option Addr) (c1 : Nat) (cs : List Ce) (B2 : Option Addr) (c2 : Nat) (ks : List ByteArray) (B3 : Option Addr) (c3 : Nat) (kids : List Int) (hc1 : cs.length ≤ c1) (hc2 : ks.length ≤ c2) (hc3 : kids.length ≤ c3) (h1 : Kd.C k66 w B1 cs.length cs) (h2 : Kd.C Kd.string w B2 ks.length ks) (h3 : Kd.C (Kd.int .u32) w B3 kids.length kids) (hk : ∀ x ∈ kids, 0 ≤ x ∧ x < 4294967296) (hn : NdOk cs ks kids) (t1 : List Ce) (t2 : List ByteArray) (t3 : List Int) (hl : lent2.f 50 b cs ks kids = some (b, cs ++ t1, ks ++ t2, kids ++ t3)) (e1 : t1.length = 40) (e2 : t2.length = 40) (e3 : t3.length = 40) (r1 : List Ce) (r2 : List ByteArray) (r3 : List Int) (K : Nat) (ho : concordlaw08_over.f K b cs ks kids = some (r1, r2, r3)) (l1 : r1.length = cs.length) (l2 : r2.length = ks.length) (l3 : r3.length = kids.length) (hn' : NdOk r1 r2 r3) (hk' : ∀ x ∈ r3, 0 ≤ x ∧ x < 4294967296) (v0 : Bool) (x1 : List Ce) (x2 : List ByteArray) (x3 : List Int) (er : Int) (hV0 : G b cs ks kids = ((v0, x1, x2, x3), er)) (v1 : Bool) (y1 : List Ce) (y2 : List ByteArray) (y3 : List Int) (er' : Int) (hV1 : G b r1 r2 r3 = ((v1, y1, y2, y3), er')) (hx : x1.length ≤ 1000000 ∧ x2.length ≤ 1000000 ∧ x3.length ≤ 1000000) (hy : y1.length ≤ 1000000 ∧ y2.length ≤ 1000000 ∧ y3.length ≤ 1000000) :
  Calls Try.prog 36 #[.agg #[.bool b, .slice B1 cs.length c1, .slice B2 ks.length c2, .slice B3 kids.length c3], .func (.func NA) #[] ca, .func (.func NW) #[] cw] w fun e w' => e = .returned (.bool true) ∧ Below w.heap.size w w' := by
 have HB : Below w.heap.size w w := Below.refl _ _
 have hlx : x1.length < 4398046511104 ∧ x2.length < 8796093022208 ∧ x3.length < 35184372088832 := by omega
 have hly : y1.length < 4398046511104 ∧ y2.length < 8796093022208 ∧ y3.length < 35184372088832 := by omega
 have hlr : r1.length < 4398046511104 ∧ r2.length < 8796093022208 ∧ r3.length < 35184372088832 := hn'.1
 go_enter Try.func36, Try.ntmps36
 have hb1 : Below w.heap.size w (w.alloc (.cells #[.bool b, .slice B1 cs.length c1, .slice B2 ks.length c2, .slice B3 kids.length c3] 26)) := (Below.refl _ _).alloc (Nat.le_refl _) _
 have hs1 : w.heap.size ≤ (w.alloc (.cells #[.bool b, .slice B1 cs.length c1, .slice B2 ks.length c2, .slice B3 kids.length c3] 26)).heap.size := hb1.size
 replace HB := below_then HB (below_size HB) hb1
 clear hb1
 have hxn : (w.alloc (.cells #[.bool b, .slice B1 cs.length c1, .slice B2 ks.length c2, .slice B3 kids.length c3] 26)).heap[w.heap.size]? = some (.cells #[.bool b, .slice B1 cs.length c1, .slice B2 ks.length c2, .slice B3 kids.length c3] 26 (0, 0)) := blk_new w _
 have cn0 : (w.alloc (.cells #[.bool b, .slice B1 cs.length c1, .slice B2 ks.length c2, .slice B3 kids.length c3] 26)).cell? ⟨w.heap.size, 0, none⟩ = some (.bool b) := (blk_cell hxn 0).trans rfl
 have cn1 : (w.alloc (.cells #[.bool b, .slice B1 cs.length c1, .slice B2 ks.length c2, .slice B3 kids.length c3] 26)).cell? ⟨w.heap.size, 1, none⟩ = some (.slice B1 cs.length c1) := (blk_cell hxn 1).trans rfl
 have cn2 : (w.alloc (.cells #[.bool b, .slice B1 cs.length c1, .slice B2 ks.length c2, .slice B3 kids.length c3] 26)).cell? ⟨w.heap.size, 2, none⟩ = some (.slice B2 ks.length c2) := (blk_cell hxn 2).trans rfl
 have cn3 : (w.alloc (.cells #[.bool b, .slice B1 cs.length c1, .slice B2 ks.length c2, .slice B3 kids.length c3] 26)).cell? ⟨w.heap.size, 3, none⟩ = some (.slice B3 kids.length c3) := (blk_cell hxn 3).trans rfl
 go_wp2_with fail
 clear cn0 cn1 cn2 cn3
 have hln := blk_lt hxn
 generalize (w.alloc (.cells #[.bool b, .slice B1 cs.length c1, .slice B2 ks.length c2, .slice B3 kids.length c3] 26)) = w1 at *
 obtain ⟨gn, hen⟩ : ∃ g, g = w.heap.size := ⟨_, rfl⟩
 rw [← hen] at hxn hln ⊢
 have hgen : w.heap.size ≤ gn := Nat.le_of_eq hen.symm
 clear hen
 refine (lentN _ b B1 c1 cs B2 c2 ks B3 c3 kids hc1 hc2 hc3 (Kd.C_below h1 HB) (Kd.C_below h2 HB) (Kd.C_below h3 HB) t1 t2 t3 hl w.heap.size (below_size HB)).mono ?_
 rintro e_ w2 ⟨A1, q1, A2, q2, A3, q3, rfl, hF, hb2⟩
 have hs2 : w1.heap.size ≤ w2.heap.size := hb2.size
 replace hxn := blk_below hxn hb2
 replace HB := below_then HB (below_size HB) hb2
 clear hb2
 have hV := NR_front hF
 have hb3 : Below w2.heap.size w2 (w2.alloc (.cells #[.bool b, .slice A1 cs.length q1, .slice A2 ks.length q2, .slice A3 kids.length q3] 26)) := (Below.refl _ _).alloc (Nat.le_refl _) _
 have hs3 : w2.heap.size ≤ (w2.alloc (.cells #[.bool b, .slice A1 cs.length q1, .slice A2 ks.length q2, .slice A3 kids.length q3] 26)).heap.size := hb3.size
 replace hF := NR_below hF hb3
 replace hV := NR_below hV hb3
 replace hxn := blk_below hxn hb3
 replace HB := below_then HB (below_size HB) hb3
 clear hb3
 have hxi : (w2.alloc (.cells #[.bool b, .slice A1 cs.length q1, .slice A2 ks.length q2, .slice A3 kids.length q3] 26)).heap[w2.heap.size]? = some (.cells #[.bool b, .slice A1 cs.length q1, .slice A2 ks.length q2, .slice A3 kids.length q3] 26 (0, 0)) := blk_new w2 _
 have cn0 : (w2.alloc (.cells #[.bool b, .slice A1 cs.length q1, .slice A2 ks.length q2, .slice A3 kids.length q3] 26)).cell? ⟨gn, 0, none⟩ = some (.bool b) := (blk_cell hxn 0).trans rfl
 have cn1 : (w2.alloc (.cells #[.bool b, .slice A1 cs.length q1, .slice A2 ks.length q2, .slice A3 kids.length q3] 26)).cell? ⟨gn, 1, none⟩ = some (.slice B1 cs.length c1) := (blk_cell hxn 1).trans rfl
 have cn2 : (w2.alloc (.cells #[.bool b, .slice A1 cs.length q1, .slice A2 ks.length q2, .slice A3 kids.length q3] 26)).cell? ⟨gn, 2, none⟩ = some (.slice B2 ks.length c2) := (blk_cell hxn 2).trans rfl
 have cn3 : (w2.alloc (.cells #[.bool b, .slice A1 cs.length q1, .slice A2 ks.length q2, .slice A3 kids.length q3] 26)).cell? ⟨gn, 3, none⟩ = some (.slice B3 kids.length c3) := (blk_cell hxn 3).trans rfl
 have ci0 : (w2.alloc (.cells #[.bool b, .slice A1 cs.length q1, .slice A2 ks.length q2, .slice A3 kids.length q3] 26)).cell? ⟨w2.heap.size, 0, none⟩ = some (.bool b) := (blk_cell hxi 0).trans rfl
 have ci1 : (w2.alloc (.cells #[.bool b, .slice A1 cs.length q1, .slice A2 ks.length q2, .slice A3 kids.length q3] 26)).cell? ⟨w2.heap.size, 1, none⟩ = some (.slice A1 cs.length q1) := (blk_cell hxi 1).trans rfl
 have ci2 : (w2.alloc (.cells #[.bool b, .slice A1 cs.length q1, .slice A2 ks.length q2, .slice A3 kids.length q3] 26)).cell? ⟨w2.heap.size, 2, none⟩ = some (.slice A2 ks.length q2) := (blk_cell hxi 2).trans rfl
 have ci3 : (w2.alloc (.cells #[.bool b, .slice A1 cs.length q1, .slice A2 ks.length q2, .slice A3 kids.length q3] 26)).cell? ⟨w2.heap.size, 3, none⟩ = some (.slice A3 kids.length q3) := (blk_cell hxi 3).trans rfl
 go_wp2_with fail
 clear cn0 cn1 cn2 cn3 ci0 ci1 ci2 ci3
 have hli := blk_lt hxi
 generalize (w2.alloc (.cells #[.bool b, .slice A1 cs.length q1, .slice A2 ks.length q2, .slice A3 kids.length q3] 26)) = w3 at *
 obtain ⟨gi, hei⟩ : ∃ g, g = w2.heap.size := ⟨_, rfl⟩
 rw [← hei] at hxi hli ⊢
 have hgei : w2.heap.size ≤ gi := Nat.le_of_eq hei.symm
 clear hei
 have X := hW _ HB b B1 c1 cs B2 c2 ks B3 c3 kids hc1 hc2 hc3 (Kd.C_below h1 HB) (Kd.C_below h2 HB) (Kd.C_below h3 HB) hn hk
 rw [hV0] at X
 dsimp only at X
 refine (X).mono ?_
 rintro e_ w4 ⟨E1, z1, E2, z2, E3, z3, rfl, hP, hb4⟩
 have hs4 : w3.heap.size ≤ w4.heap.size := hb4.size
 replace hF := NR_below hF hb4
 replace hV := NR_below hV hb4
 replace hxn := blk_below hxn hb4
 replace hxi := blk_below hxi hb4
 replace HB := below_then HB (below_size HB) hb4
 clear hb4
 clear X
 have hb5 : Below w4.heap.size w4 (w4.alloc (.cells #[.bool v0, .slice E1 x1.length z1, .slice E2 x2.length z2, .slice E3 x3.length z3] 26)) := (Below.refl _ _).alloc (Nat.le_refl _) _
 have hs5 : w4.heap.size ≤ (w4.alloc (.cells #[.bool v0, .slice E1 x1.length z1, .slice E2 x2.length z2, .slice E3 x3.length z3] 26)).heap.size := hb5.size
 replace hF := NR_below hF hb5
 replace hV := NR_below hV hb5
 replace hP := NR_below hP hb5
 replace hxn := blk_below hxn hb5
 replace hxi := blk_below hxi hb5
 replace HB := below_then HB (below_size HB) hb5
 clear hb5
 have hxa : (w4.alloc (.cells #[.bool v0, .slice E1 x1.length z1, .slice E2 x2.length z2, .slice E3 x3.length z3] 26)).heap[w4.heap.size]? = some (.cells #[.bool v0, .slice E1 x1.length z1, .slice E2 x2.length z2, .slice E3 x3.length z3] 26 (0, 0)) := blk_new w4 _
 have cn0 : (w4.alloc (.cells #[.bool v0, .slice E1 x1.length z1, .slice E2 x2.length z2, .slice E3 x3.length z3] 26)).cell? ⟨gn, 0, none⟩ = some (.bool b) := (blk_cell hxn 0).trans rfl
 have cn1 : (w4.alloc (.cells #[.bool v0, .slice E1 x1.length z1, .slice E2 x2.length z2, .slice E3 x3.length z3] 26)).cell? ⟨gn, 1, none⟩ = some (.slice B1 cs.length c1) := (blk_cell hxn 1).trans rfl
 have cn2 : (w4.alloc (.cells #[.bool v0, .slice E1 x1.length z1, .slice E2 x2.length z2, .slice E3 x3.length z3] 26)).cell? ⟨gn, 2, none⟩ = some (.slice B2 ks.length c2) := (blk_cell hxn 2).trans rfl
 have cn3 : (w4.alloc (.cells #[.bool v0, .slice E1 x1.length z1, .slice E2 x2.length z2, .slice E3 x3.length z3] 26)).cell? ⟨gn, 3, none⟩ = some (.slice B3 kids.length c3) := (blk_cell hxn 3).trans rfl
 have ci0 : (w4.alloc (.cells #[.bool v0, .slice E1 x1.length z1, .slice E2 x2.length z2, .slice E3 x3.length z3] 26)).cell? ⟨gi, 0, none⟩ = some (.bool b) := (blk_cell hxi 0).trans rfl
 have ci1 : (w4.alloc (.cells #[.bool v0, .slice E1 x1.length z1, .slice E2 x2.length z2, .slice E3 x3.length z3] 26)).cell? ⟨gi, 1, none⟩ = some (.slice A1 cs.length q1) := (blk_cell hxi 1).trans rfl
 have ci2 : (w4.alloc (.cells #[.bool v0, .slice E1 x1.length z1, .slice E2 x2.length z2, .slice E3 x3.length z3] 26)).cell? ⟨gi, 2, none⟩ = some (.slice A2 ks.length q2) := (blk_cell hxi 2).trans rfl
 have ci3 : (w4.alloc (.cells #[.bool v0, .slice E1 x1.length z1, .slice E2 x2.length z2, .slice E3 x3.length z3] 26)).cell? ⟨gi, 3, none⟩ = some (.slice A3 kids.length q3) := (blk_cell hxi 3).trans rfl
 have ca0 : (w4.alloc (.cells #[.bool v0, .slice E1 x1.length z1, .slice E2 x2.length z2, .slice E3 x3.length z3] 26)).cell? ⟨w4.heap.size, 0, none⟩ = some (.bool v0) := (blk_cell hxa 0).trans rfl
 have ca1 : (w4.alloc (.cells #[.bool v0, .slice E1 x1.length z1, .slice E2 x2.length z2, .slice E3 x3.length z3] 26)).cell? ⟨w4.heap.size, 1, none⟩ = some (.slice E1 x1.length z1) := (blk_cell hxa 1).trans rfl
 have ca2 : (w4.alloc (.cells #[.bool v0, .slice E1 x1.length z1, .slice E2 x2.length z2, .slice E3 x3.length z3] 26)).cell? ⟨w4.heap.size, 2, none⟩ = some (.slice E2 x2.length z2) := (blk_cell hxa 2).trans rfl
 have ca3 : (w4.alloc (.cells #[.bool v0, .slice E1 x1.length z1, .slice E2 x2.length z2, .slice E3 x3.length z3] 26)).cell? ⟨w4.heap.size, 3, none⟩ = some (.slice E3 x3.length z3) := (blk_cell hxa 3).trans rfl
 go_wp2_with fail
 clear cn0 cn1 cn2 cn3 ci0 ci1 ci2 ci3 ca0 ca1 ca2 ca3
 have hla := blk_lt hxa
 generalize (w4.alloc (.cells #[.bool v0, .slice E1 x1.length z1, .slice E2 x2.length z2, .slice E3 x3.length z3] 26)) = w5 at *
 obtain ⟨ga, hea⟩ : ∃ g, g = w4.heap.size := ⟨_, rfl⟩
 rw [← hea] at hxa hla ⊢
 have hgea : w4.heap.size ≤ ga := Nat.le_of_eq hea.symm
 clear hea
 obtain ⟨gC, gL, -, -, -⟩ := NR_C hV
 have X := hA _ HB b A1 q1 cs A2 q2 ks A3 q3 kids gL.1 gL.2.1 gL.2.2 gC.1 gC.2.1 gC.2.2 hn hk
 rw [hV0] at X
 dsimp only at X
 refine (X).mono ?_
 rintro e_ w6 ⟨D1, d1, D2, d2, D3, d3, rfl, hQ, hb6⟩
 have hs6 : w5.heap.size ≤ w6.heap.size := hb6.size
 replace hF := NR_below hF hb6
 replace hV := NR_below hV hb6
 replace hP := NR_below hP hb6
 replace hxn := blk_below hxn hb6
 replace hxi := blk_below hxi hb6
 replace hxa := blk_below hxa hb6
 replace HB := below_then HB (below_size HB) hb6
 clear hb6
 clear X gC gL
 have hb7 : Below w6.heap.size w6 (w6.alloc (.cells #[.bool v0, .slice D1 x1.length d1, .slice D2 x2.length d2, .slice D3 x3.length d3] 26)) := (Below.refl _ _).alloc (Nat.le_refl _) _
 have hs7 : w6.heap.size ≤ (w6.alloc (.cells #[.bool v0, .slice D1 x1.length d1, .slice D2 x2.length d2, .slice D3 x3.length d3] 26)).heap.size := hb7.size
 replace hF := NR_below hF hb7
 replace hV := NR_below hV hb7
 replace hP := NR_below hP hb7
 replace hQ := NR_below hQ hb7
 replace hxn := blk_below hxn hb7
 replace hxi := blk_below hxi hb7
 replace hxa := blk_below hxa hb7
 replace HB := below_then HB (below_size HB) hb7
 clear hb7
 have hxb : (w6.alloc (.cells #[.bool v0, .slice D1 x1.length d1, .slice D2 x2.length d2, .slice D3 x3.length d3] 26)).heap[w6.heap.size]? = some (.cells #[.bool v0, .slice D1 x1.length d1, .slice D2 x2.length d2, .slice D3 x3.length d3] 26 (0, 0)) := blk_new w6 _
 have cn0 : (w6.alloc (.cells #[.bool v0, .slice D1 x1.length d1, .slice D2 x2.length d2, .slice D3 x3.length d3] 26)).cell? ⟨gn, 0, none⟩ = some (.bool b) := (blk_cell hxn 0).trans rfl
 have cn1 : (w6.alloc (.cells #[.bool v0, .slice D1 x1.length d1, .slice D2 x2.length d2, .slice D3 x3.length d3] 26)).cell? ⟨gn, 1, none⟩ = some (.slice B1 cs.length c1) := (blk_cell hxn 1).trans rfl
 have cn2 : (w6.alloc (.cells #[.bool v0, .slice D1 x1.length d1, .slice D2 x2.length d2, .slice D3 x3.length d3] 26)).cell? ⟨gn, 2, none⟩ = some (.slice B2 ks.length c2) := (blk_cell hxn 2).trans rfl
 have cn3 : (w6.alloc (.cells #[.bool v0, .slice D1 x1.length d1, .slice D2 x2.length d2, .slice D3 x3.length d3] 26)).cell? ⟨gn, 3, none⟩ = some (.slice B3 kids.length c3) := (blk_cell hxn 3).trans rfl
 have ci0 : (w6.alloc (.cells #[.bool v0, .slice D1 x1.length d1, .slice D2 x2.length d2, .slice D3 x3.length d3] 26)).cell? ⟨gi, 0, none⟩ = some (.bool b) := (blk_cell hxi 0).trans rfl
 have ci1 : (w6.alloc (.cells #[.bool v0, .slice D1 x1.length d1, .slice D2 x2.length d2, .slice D3 x3.length d3] 26)).cell? ⟨gi, 1, none⟩ = some (.slice A1 cs.length q1) := (blk_cell hxi 1).trans rfl
 have ci2 : (w6.alloc (.cells #[.bool v0, .slice D1 x1.length d1, .slice D2 x2.length d2, .slice D3 x3.length d3] 26)).cell? ⟨gi, 2, none⟩ = some (.slice A2 ks.length q2) := (blk_cell hxi 2).trans rfl
 have ci3 : (w6.alloc (.cells #[.bool v0, .slice D1 x1.length d1, .slice D2 x2.length d2, .slice D3 x3.length d3] 26)).cell? ⟨gi, 3, none⟩ = some (.slice A3 kids.length q3) := (blk_cell hxi 3).trans rfl
 have ca0 : (w6.alloc (.cells #[.bool v0, .slice D1 x1.length d1, .slice D2 x2.length d2, .slice D3 x3.length d3] 26)).cell? ⟨ga, 0, none⟩ = some (.bool v0) := (blk_cell hxa 0).trans rfl
 have ca1 : (w6.alloc (.cells #[.bool v0, .slice D1 x1.length d1, .slice D2 x2.length d2, .slice D3 x3.length d3] 26)).cell? ⟨ga, 1, none⟩ = some (.slice E1 x1.length z1) := (blk_cell hxa 1).trans rfl
 have ca2 : (w6.alloc (.cells #[.bool v0, .slice D1 x1.length d1, .slice D2 x2.length d2, .slice D3 x3.length d3] 26)).cell? ⟨ga, 2, none⟩ = some (.slice E2 x2.length z2) := (blk_cell hxa 2).trans rfl
 have ca3 : (w6.alloc (.cells #[.bool v0, .slice D1 x1.length d1, .slice D2 x2.length d2, .slice D3 x3.length d3] 26)).cell? ⟨ga, 3, none⟩ = some (.slice E3 x3.length z3) := (blk_cell hxa 3).trans rfl
 have cb0 : (w6.alloc (.cells #[.bool v0, .slice D1 x1.length d1, .slice D2 x2.length d2, .slice D3 x3.length d3] 26)).cell? ⟨w6.heap.size, 0, none⟩ = some (.bool v0) := (blk_cell hxb 0).trans rfl
 have cb1 : (w6.alloc (.cells #[.bool v0, .slice D1 x1.length d1, .slice D2 x2.length d2, .slice D3 x3.length d3] 26)).cell? ⟨w6.heap.size, 1, none⟩ = some (.slice D1 x1.length d1) := (blk_cell hxb 1).trans rfl
 have cb2 : (w6.alloc (.cells #[.bool v0, .slice D1 x1.length d1, .slice D2 x2.length d2, .slice D3 x3.length d3] 26)).cell? ⟨w6.heap.size, 2, none⟩ = some (.slice D2 x2.length d2) := (blk_cell hxb 2).trans rfl
 have cb3 : (w6.alloc (.cells #[.bool v0, .slice D1 x1.length d1, .slice D2 x2.length d2, .slice D3 x3.length d3] 26)).cell? ⟨w6.heap.size, 3, none⟩ = some (.slice D3 x3.length d3) := (blk_cell hxb 3).trans rfl
 go_wp2_with fail
 clear cn0 cn1 cn2 cn3 ci0 ci1 ci2 ci3 ca0 ca1 ca2 ca3 cb0 cb1 cb2 cb3
 have hlb := blk_lt hxb
 generalize (w6.alloc (.cells #[.bool v0, .slice D1 x1.length d1, .slice D2 x2.length d2, .slice D3 x3.length d3] 26)) = w7 at *
 obtain ⟨gb, heb⟩ : ∃ g, g = w6.heap.size := ⟨_, rfl⟩
 rw [← heb] at hxb hlb ⊢
 have hgeb : w6.heap.size ≤ gb := Nat.le_of_eq heb.symm
 clear heb
 refine (sameN _ v0 D1 x1.length d1 D2 x2.length d2 D3 x3.length d3 E1 z1 E2 z2 E3 z3 x1 x2 x3  hQ hP hlx).mono ?_
 rintro e_ w8 ⟨rfl, hb8⟩
 have hs8 : w7.heap.size ≤ w8.heap.size := hb8.size
 replace hF := NR_below hF hb8
 replace hV := NR_below hV hb8
 replace hP := NR_below hP hb8
 replace hQ := NR_below hQ hb8
 replace hxn := blk_below hxn hb8
 replace hxi := blk_below hxi hb8
 replace hxa := blk_below hxa hb8
 replace hxb := blk_below hxb hb8
 replace HB := below_then HB (below_size HB) hb8
 clear hb8
 have cn0 : w8.cell? ⟨gn, 0, none⟩ = some (.bool b) := (blk_cell hxn 0).trans rfl
 have cn1 : w8.cell? ⟨gn, 1, none⟩ = some (.slice B1 cs.length c1) := (blk_cell hxn 1).trans rfl
 have cn2 : w8.cell? ⟨gn, 2, none⟩ = some (.slice B2 ks.length c2) := (blk_cell hxn 2).trans rfl
 have cn3 : w8.cell? ⟨gn, 3, none⟩ = some (.slice B3 kids.length c3) := (blk_cell hxn 3).trans rfl
 have ci0 : w8.cell? ⟨gi, 0, none⟩ = some (.bool b) := (blk_cell hxi 0).trans rfl
 have ci1 : w8.cell? ⟨gi, 1, none⟩ = some (.slice A1 cs.length q1) := (blk_cell hxi 1).trans rfl
 have ci2 : w8.cell? ⟨gi, 2, none⟩ = some (.slice A2 ks.length q2) := (blk_cell hxi 2).trans rfl
 have ci3 : w8.cell? ⟨gi, 3, none⟩ = some (.slice A3 kids.length q3) := (blk_cell hxi 3).trans rfl
 have ca0 : w8.cell? ⟨ga, 0, none⟩ = some (.bool v0) := (blk_cell hxa 0).trans rfl
 have ca1 : w8.cell? ⟨ga, 1, none⟩ = some (.slice E1 x1.length z1) := (blk_cell hxa 1).trans rfl
 have ca2 : w8.cell? ⟨ga, 2, none⟩ = some (.slice E2 x2.length z2) := (blk_cell hxa 2).trans rfl
 have ca3 : w8.cell? ⟨ga, 3, none⟩ = some (.slice E3 x3.length z3) := (blk_cell hxa 3).trans rfl
 have cb0 : w8.cell? ⟨gb, 0, none⟩ = some (.bool v0) := (blk_cell hxb 0).trans rfl
 have cb1 : w8.cell? ⟨gb, 1, none⟩ = some (.slice D1 x1.length d1) := (blk_cell hxb 1).trans rfl
 have cb2 : w8.cell? ⟨gb, 2, none⟩ = some (.slice D2 x2.length d2) := (blk_cell hxb 2).trans rfl
 have cb3 : w8.cell? ⟨gb, 3, none⟩ = some (.slice D3 x3.length d3) := (blk_cell hxb 3).trans rfl
 go_wp2_with fail
 refine (keptN _ b A1 q1 t1 A2 q2 t2 A3 q3 t3 B1 c1 cs B2 c2 ks B3 c3 kids hF hc1 hc2 hc3 (Kd.C_below h1 HB) (Kd.C_below h2 HB) (Kd.C_below h3 HB) hn hl e1 e2 e3).mono ?_
 rintro e_ w9 ⟨rfl, hb9⟩
 clear cn0 cn1 cn2 cn3 ci0 ci1 ci2 ci3 ca0 ca1 ca2 ca3 cb0 cb1 cb2 cb3
 have hs9 : w8.heap.size ≤ w9.heap.size := hb9.size
 replace hF := NR_below hF hb9
 replace hV := NR_below hV hb9
 replace hP := NR_below hP hb9
 replace hQ := NR_below hQ hb9
 replace hxn := blk_below hxn hb9
 replace hxi := blk_below hxi hb9
 replace hxa := blk_below hxa hb9
 replace hxb := blk_below hxb hb9
 replace HB := below_then HB (below_size HB) hb9
 clear hb9
 have cn0 : w9.cell? ⟨gn, 0, none⟩ = some (.bool b) := (blk_cell hxn 0).trans rfl
 have cn1 : w9.cell? ⟨gn, 1, none⟩ = some (.slice B1 cs.length c1) := (blk_cell hxn 1).trans rfl
 have cn2 : w9.cell? ⟨gn, 2, none⟩ = some (.slice B2 ks.length c2) := (blk_cell hxn 2).trans rfl
 have cn3 : w9.cell? ⟨gn, 3, none⟩ = some (.slice B3 kids.length c3) := (blk_cell hxn 3).trans rfl
 have ci0 : w9.cell? ⟨gi, 0, none⟩ = some (.bool b) := (blk_cell hxi 0).trans rfl
 have ci1 : w9.cell? ⟨gi, 1, none⟩ = some (.slice A1 cs.length q1) := (blk_cell hxi 1).trans rfl
 have ci2 : w9.cell? ⟨gi, 2, none⟩ = some (.slice A2 ks.length q2) := (blk_cell hxi 2).trans rfl
 have ci3 : w9.cell? ⟨gi, 3, none⟩ = some (.slice A3 kids.length q3) := (blk_cell hxi 3).trans rfl
 have ca0 : w9.cell? ⟨ga, 0, none⟩ = some (.bool v0) := (blk_cell hxa 0).trans rfl
 have ca1 : w9.cell? ⟨ga, 1, none⟩ = some (.slice E1 x1.length z1) := (blk_cell hxa 1).trans rfl
 have ca2 : w9.cell? ⟨ga, 2, none⟩ = some (.slice E2 x2.length z2) := (blk_cell hxa 2).trans rfl
 have ca3 : w9.cell? ⟨ga, 3, none⟩ = some (.slice E3 x3.length z3) := (blk_cell hxa 3).trans rfl
 have cb0 : w9.cell? ⟨gb, 0, none⟩ = some (.bool v0) := (blk_cell hxb 0).trans rfl
 have cb1 : w9.cell? ⟨gb, 1, none⟩ = some (.slice D1 x1.length d1) := (blk_cell hxb 1).trans rfl
 have cb2 : w9.cell? ⟨gb, 2, none⟩ = some (.slice D2 x2.length d2) := (blk_cell hxb 2).trans rfl
 have cb3 : w9.cell? ⟨gb, 3, none⟩ = some (.slice D3 x3.length d3) := (blk_cell hxb 3).trans rfl
 go_wp2_with fail
 refine (overN w _ K b _ _ A1 q1 cs A2 q2 ks A3 q3 kids hV HB r1 r2 r3 ho).mono ?_
 rintro e_ w10 ⟨rfl, hV2, hW2, hk10⟩
 clear cn0 cn1 cn2 cn3 ci0 ci1 ci2 ci3 ca0 ca1 ca2 ca3 cb0 cb1 cb2 cb3
 have hs10 : w9.heap.size ≤ w10.heap.size := hk10.1
 replace hP := NR_kept hP hk10 (fun k q1 q2 q3 => by omega)
 replace hQ := NR_kept hQ hk10 (fun k q1 q2 q3 => by omega)
 replace hxn := (hk10.2 gn (blk_lt hxn) (fun q1 => by omega)).trans hxn
 replace hxi := (hk10.2 gi (blk_lt hxi) (fun q1 => by omega)).trans hxi
 replace hxa := (hk10.2 ga (blk_lt hxa) (fun q1 => by omega)).trans hxa
 replace hxb := (hk10.2 gb (blk_lt hxb) (fun q1 => by omega)).trans hxb
 replace HB := hW2
 clear hW2
 clear hk10
 clear hV hF
 have hV := hV2
 clear hV2
 have cn0 : w10.cell? ⟨gn, 0, none⟩ = some (.bool b) := (blk_cell hxn 0).trans rfl
 have cn1 : w10.cell? ⟨gn, 1, none⟩ = some (.slice B1 cs.length c1) := (blk_cell hxn 1).trans rfl
 have cn2 : w10.cell? ⟨gn, 2, none⟩ = some (.slice B2 ks.length c2) := (blk_cell hxn 2).trans rfl
 have cn3 : w10.cell? ⟨gn, 3, none⟩ = some (.slice B3 kids.length c3) := (blk_cell hxn 3).trans rfl
 have ci0 : w10.cell? ⟨gi, 0, none⟩ = some (.bool b) := (blk_cell hxi 0).trans rfl
 have ci1 : w10.cell? ⟨gi, 1, none⟩ = some (.slice A1 cs.length q1) := (blk_cell hxi 1).trans rfl
 have ci2 : w10.cell? ⟨gi, 2, none⟩ = some (.slice A2 ks.length q2) := (blk_cell hxi 2).trans rfl
 have ci3 : w10.cell? ⟨gi, 3, none⟩ = some (.slice A3 kids.length q3) := (blk_cell hxi 3).trans rfl
 have ca0 : w10.cell? ⟨ga, 0, none⟩ = some (.bool v0) := (blk_cell hxa 0).trans rfl
 have ca1 : w10.cell? ⟨ga, 1, none⟩ = some (.slice E1 x1.length z1) := (blk_cell hxa 1).trans rfl
 have ca2 : w10.cell? ⟨ga, 2, none⟩ = some (.slice E2 x2.length z2) := (blk_cell hxa 2).trans rfl
 have ca3 : w10.cell? ⟨ga, 3, none⟩ = some (.slice E3 x3.length z3) := (blk_cell hxa 3).trans rfl
 have cb0 : w10.cell? ⟨gb, 0, none⟩ = some (.bool v0) := (blk_cell hxb 0).trans rfl
 have cb1 : w10.cell? ⟨gb, 1, none⟩ = some (.slice D1 x1.length d1) := (blk_cell hxb 1).trans rfl
 have cb2 : w10.cell? ⟨gb, 2, none⟩ = some (.slice D2 x2.length d2) := (blk_cell hxb 2).trans rfl
 have cb3 : w10.cell? ⟨gb, 3, none⟩ = some (.slice D3 x3.length d3) := (blk_cell hxb 3).trans rfl
 go_wp2_with fail
 refine (sameN _ v0 D1 x1.length d1 D2 x2.length d2 D3 x3.length d3 E1 z1 E2 z2 E3 z3 x1 x2 x3  hQ hP hlx).mono ?_
 rintro e_ w11 ⟨rfl, hb11⟩
 clear cn0 cn1 cn2 cn3 ci0 ci1 ci2 ci3 ca0 ca1 ca2 ca3 cb0 cb1 cb2 cb3
 have hs11 : w10.heap.size ≤ w11.heap.size := hb11.size
 replace hV := NR_below hV hb11
 replace hP := NR_below hP hb11
 replace hQ := NR_below hQ hb11
 replace hxn := blk_below hxn hb11
 replace hxi := blk_below hxi hb11
 replace hxa := blk_below hxa hb11
 replace hxb := blk_below hxb hb11
 replace HB := below_then HB (below_size HB) hb11
 clear hb11
 have cn0 : w11.cell? ⟨gn, 0, none⟩ = some (.bool b) := (blk_cell hxn 0).trans rfl
 have cn1 : w11.cell? ⟨gn, 1, none⟩ = some (.slice B1 cs.length c1) := (blk_cell hxn 1).trans rfl
 have cn2 : w11.cell? ⟨gn, 2, none⟩ = some (.slice B2 ks.length c2) := (blk_cell hxn 2).trans rfl
 have cn3 : w11.cell? ⟨gn, 3, none⟩ = some (.slice B3 kids.length c3) := (blk_cell hxn 3).trans rfl
 have ci0 : w11.cell? ⟨gi, 0, none⟩ = some (.bool b) := (blk_cell hxi 0).trans rfl
 have ci1 : w11.cell? ⟨gi, 1, none⟩ = some (.slice A1 cs.length q1) := (blk_cell hxi 1).trans rfl
 have ci2 : w11.cell? ⟨gi, 2, none⟩ = some (.slice A2 ks.length q2) := (blk_cell hxi 2).trans rfl
 have ci3 : w11.cell? ⟨gi, 3, none⟩ = some (.slice A3 kids.length q3) := (blk_cell hxi 3).trans rfl
 have ca0 : w11.cell? ⟨ga, 0, none⟩ = some (.bool v0) := (blk_cell hxa 0).trans rfl
 have ca1 : w11.cell? ⟨ga, 1, none⟩ = some (.slice E1 x1.length z1) := (blk_cell hxa 1).trans rfl
 have ca2 : w11.cell? ⟨ga, 2, none⟩ = some (.slice E2 x2.length z2) := (blk_cell hxa 2).trans rfl
 have ca3 : w11.cell? ⟨ga, 3, none⟩ = some (.slice E3 x3.length z3) := (blk_cell hxa 3).trans rfl
 have cb0 : w11.cell? ⟨gb, 0, none⟩ = some (.bool v0) := (blk_cell hxb 0).trans rfl
 have cb1 : w11.cell? ⟨gb, 1, none⟩ = some (.slice D1 x1.length d1) := (blk_cell hxb 1).trans rfl
 have cb2 : w11.cell? ⟨gb, 2, none⟩ = some (.slice D2 x2.length d2) := (blk_cell hxb 2).trans rfl
 have cb3 : w11.cell? ⟨gb, 3, none⟩ = some (.slice D3 x3.length d3) := (blk_cell hxb 3).trans rfl
 go_wp2_with fail
 obtain ⟨gC, gL, -, -, -⟩ := NR_C hV
 have X := twinN _ b A1 q1 r1 A2 q2 r2 A3 q3 r3 gL.1 gL.2.1 gL.2.2 gC.1 gC.2.1 gC.2.2 hn' w.heap.size (below_size HB)
 rw [l1, l2, l3] at X
 refine (X).mono ?_
 rintro e_ w12 ⟨T1, u1, T2, u2, T3, u3, rfl, hT, hb12⟩
 clear cn0 cn1 cn2 cn3 ci0 ci1 ci2 ci3 ca0 ca1 ca2 ca3 cb0 cb1 cb2 cb3
 have hs12 : w11.heap.size ≤ w12.heap.size := hb12.size
 replace hV := NR_below hV hb12
 replace hP := NR_below hP hb12
 replace hQ := NR_below hQ hb12
 replace hxn := blk_below hxn hb12
 replace hxi := blk_below hxi hb12
 replace hxa := blk_below hxa hb12
 replace hxb := blk_below hxb hb12
 replace HB := below_then HB (below_size HB) hb12
 clear hb12
 clear X gC gL
 have hb13 : Below w12.heap.size w12 (w12.alloc (.cells #[.bool b, .slice T1 cs.length u1, .slice T2 ks.length u2, .slice T3 kids.length u3] 26)) := (Below.refl _ _).alloc (Nat.le_refl _) _
 have hs13 : w12.heap.size ≤ (w12.alloc (.cells #[.bool b, .slice T1 cs.length u1, .slice T2 ks.length u2, .slice T3 kids.length u3] 26)).heap.size := hb13.size
 replace hV := NR_below hV hb13
 replace hP := NR_below hP hb13
 replace hQ := NR_below hQ hb13
 replace hT := NR_below hT hb13
 replace hxn := blk_below hxn hb13
 replace hxi := blk_below hxi hb13
 replace hxa := blk_below hxa hb13
 replace hxb := blk_below hxb hb13
 replace HB := below_then HB (below_size HB) hb13
 clear hb13
 have hxt : (w12.alloc (.cells #[.bool b, .slice T1 cs.length u1, .slice T2 ks.length u2, .slice T3 kids.length u3] 26)).heap[w12.heap.size]? = some (.cells #[.bool b, .slice T1 cs.length u1, .slice T2 ks.length u2, .slice T3 kids.length u3] 26 (0, 0)) := blk_new w12 _
 have cn0 : (w12.alloc (.cells #[.bool b, .slice T1 cs.length u1, .slice T2 ks.length u2, .slice T3 kids.length u3] 26)).cell? ⟨gn, 0, none⟩ = some (.bool b) := (blk_cell hxn 0).trans rfl
 have cn1 : (w12.alloc (.cells #[.bool b, .slice T1 cs.length u1, .slice T2 ks.length u2, .slice T3 kids.length u3] 26)).cell? ⟨gn, 1, none⟩ = some (.slice B1 cs.length c1) := (blk_cell hxn 1).trans rfl
 have cn2 : (w12.alloc (.cells #[.bool b, .slice T1 cs.length u1, .slice T2 ks.length u2, .slice T3 kids.length u3] 26)).cell? ⟨gn, 2, none⟩ = some (.slice B2 ks.length c2) := (blk_cell hxn 2).trans rfl
 have cn3 : (w12.alloc (.cells #[.bool b, .slice T1 cs.length u1, .slice T2 ks.length u2, .slice T3 kids.length u3] 26)).cell? ⟨gn, 3, none⟩ = some (.slice B3 kids.length c3) := (blk_cell hxn 3).trans rfl
 have ci0 : (w12.alloc (.cells #[.bool b, .slice T1 cs.length u1, .slice T2 ks.length u2, .slice T3 kids.length u3] 26)).cell? ⟨gi, 0, none⟩ = some (.bool b) := (blk_cell hxi 0).trans rfl
 have ci1 : (w12.alloc (.cells #[.bool b, .slice T1 cs.length u1, .slice T2 ks.length u2, .slice T3 kids.length u3] 26)).cell? ⟨gi, 1, none⟩ = some (.slice A1 cs.length q1) := (blk_cell hxi 1).trans rfl
 have ci2 : (w12.alloc (.cells #[.bool b, .slice T1 cs.length u1, .slice T2 ks.length u2, .slice T3 kids.length u3] 26)).cell? ⟨gi, 2, none⟩ = some (.slice A2 ks.length q2) := (blk_cell hxi 2).trans rfl
 have ci3 : (w12.alloc (.cells #[.bool b, .slice T1 cs.length u1, .slice T2 ks.length u2, .slice T3 kids.length u3] 26)).cell? ⟨gi, 3, none⟩ = some (.slice A3 kids.length q3) := (blk_cell hxi 3).trans rfl
 have ca0 : (w12.alloc (.cells #[.bool b, .slice T1 cs.length u1, .slice T2 ks.length u2, .slice T3 kids.length u3] 26)).cell? ⟨ga, 0, none⟩ = some (.bool v0) := (blk_cell hxa 0).trans rfl
 have ca1 : (w12.alloc (.cells #[.bool b, .slice T1 cs.length u1, .slice T2 ks.length u2, .slice T3 kids.length u3] 26)).cell? ⟨ga, 1, none⟩ = some (.slice E1 x1.length z1) := (blk_cell hxa 1).trans rfl
 have ca2 : (w12.alloc (.cells #[.bool b, .slice T1 cs.length u1, .slice T2 ks.length u2, .slice T3 kids.length u3] 26)).cell? ⟨ga, 2, none⟩ = some (.slice E2 x2.length z2) := (blk_cell hxa 2).trans rfl
 have ca3 : (w12.alloc (.cells #[.bool b, .slice T1 cs.length u1, .slice T2 ks.length u2, .slice T3 kids.length u3] 26)).cell? ⟨ga, 3, none⟩ = some (.slice E3 x3.length z3) := (blk_cell hxa 3).trans rfl
 have cb0 : (w12.alloc (.cells #[.bool b, .slice T1 cs.length u1, .slice T2 ks.length u2, .slice T3 kids.length u3] 26)).cell? ⟨gb, 0, none⟩ = some (.bool v0) := (blk_cell hxb 0).trans rfl
 have cb1 : (w12.alloc (.cells #[.bool b, .slice T1 cs.length u1, .slice T2 ks.length u2, .slice T3 kids.length u3] 26)).cell? ⟨gb, 1, none⟩ = some (.slice D1 x1.length d1) := (blk_cell hxb 1).trans rfl
 have cb2 : (w12.alloc (.cells #[.bool b, .slice T1 cs.length u1, .slice T2 ks.length u2, .slice T3 kids.length u3] 26)).cell? ⟨gb, 2, none⟩ = some (.slice D2 x2.length d2) := (blk_cell hxb 2).trans rfl
 have cb3 : (w12.alloc (.cells #[.bool b, .slice T1 cs.length u1, .slice T2 ks.length u2, .slice T3 kids.length u3] 26)).cell? ⟨gb, 3, none⟩ = some (.slice D3 x3.length d3) := (blk_cell hxb 3).trans rfl
 have ct0 : (w12.alloc (.cells #[.bool b, .slice T1 cs.length u1, .slice T2 ks.length u2, .slice T3 kids.length u3] 26)).cell? ⟨w12.heap.size, 0, none⟩ = some (.bool b) := (blk_cell hxt 0).trans rfl
 have ct1 : (w12.alloc (.cells #[.bool b, .slice T1 cs.length u1, .slice T2 ks.length u2, .slice T3 kids.length u3] 26)).cell? ⟨w12.heap.size, 1, none⟩ = some (.slice T1 cs.length u1) := (blk_cell hxt 1).trans rfl
 have ct2 : (w12.alloc (.cells #[.bool b, .slice T1 cs.length u1, .slice T2 ks.length u2, .slice T3 kids.length u3] 26)).cell? ⟨w12.heap.size, 2, none⟩ = some (.slice T2 ks.length u2) := (blk_cell hxt 2).trans rfl
 have ct3 : (w12.alloc (.cells #[.bool b, .slice T1 cs.length u1, .slice T2 ks.length u2, .slice T3 kids.length u3] 26)).cell? ⟨w12.heap.size, 3, none⟩ = some (.slice T3 kids.length u3) := (blk_cell hxt 3).trans rfl
 go_wp2_with fail
 clear cn0 cn1 cn2 cn3 ci0 ci1 ci2 ci3 ca0 ca1 ca2 ca3 cb0 cb1 cb2 cb3 ct0 ct1 ct2 ct3
 have hlt := blk_lt hxt
 generalize (w12.alloc (.cells #[.bool b, .slice T1 cs.length u1, .slice T2 ks.length u2, .slice T3 kids.length u3] 26)) = w13 at *
 obtain ⟨gt, het⟩ : ∃ g, g = w12.heap.size := ⟨_, rfl⟩
 rw [← het] at hxt hlt ⊢
 have hget : w12.heap.size ≤ gt := Nat.le_of_eq het.symm
 clear het
 refine (spoilN w _ v0 _ _ D1 _ d1 x1 D2 _ d2 x2 D3 _ d3 x3 hQ HB (by omega) (by omega) hx).mono ?_
 rintro e_ w14 ⟨rfl, hW2, hk14⟩
 have hs14 : w13.heap.size ≤ w14.heap.size := hk14.1
 replace hV := NR_kept hV hk14 (fun k q1 q2 q3 => by omega)
 replace hP := NR_kept hP hk14 (fun k q1 q2 q3 => by omega)
 replace hT := NR_kept hT hk14 (fun k q1 q2 q3 => by omega)
 replace hxn := (hk14.2 gn (blk_lt hxn) (fun q1 => by omega)).trans hxn
 replace hxi := (hk14.2 gi (blk_lt hxi) (fun q1 => by omega)).trans hxi
 replace hxa := (hk14.2 ga (blk_lt hxa) (fun q1 => by omega)).trans hxa
 replace hxb := (hk14.2 gb (blk_lt hxb) (fun q1 => by omega)).trans hxb
 replace hxt := (hk14.2 gt (blk_lt hxt) (fun q1 => by omega)).trans hxt
 replace HB := hW2
 clear hW2
 clear hk14
 clear hQ
 have cn0 : w14.cell? ⟨gn, 0, none⟩ = some (.bool b) := (blk_cell hxn 0).trans rfl
 have cn1 : w14.cell? ⟨gn, 1, none⟩ = some (.slice B1 cs.length c1) := (blk_cell hxn 1).trans rfl
 have cn2 : w14.cell? ⟨gn, 2, none⟩ = some (.slice B2 ks.length c2) := (blk_cell hxn 2).trans rfl
 have cn3 : w14.cell? ⟨gn, 3, none⟩ = some (.slice B3 kids.length c3) := (blk_cell hxn 3).trans rfl
 have ci0 : w14.cell? ⟨gi, 0, none⟩ = some (.bool b) := (blk_cell hxi 0).trans rfl
 have ci1 : w14.cell? ⟨gi, 1, none⟩ = some (.slice A1 cs.length q1) := (blk_cell hxi 1).trans rfl
 have ci2 : w14.cell? ⟨gi, 2, none⟩ = some (.slice A2 ks.length q2) := (blk_cell hxi 2).trans rfl
 have ci3 : w14.cell? ⟨gi, 3, none⟩ = some (.slice A3 kids.length q3) := (blk_cell hxi 3).trans rfl
 have ca0 : w14.cell? ⟨ga, 0, none⟩ = some (.bool v0) := (blk_cell hxa 0).trans rfl
 have ca1 : w14.cell? ⟨ga, 1, none⟩ = some (.slice E1 x1.length z1) := (blk_cell hxa 1).trans rfl
 have ca2 : w14.cell? ⟨ga, 2, none⟩ = some (.slice E2 x2.length z2) := (blk_cell hxa 2).trans rfl
 have ca3 : w14.cell? ⟨ga, 3, none⟩ = some (.slice E3 x3.length z3) := (blk_cell hxa 3).trans rfl
 have cb0 : w14.cell? ⟨gb, 0, none⟩ = some (.bool v0) := (blk_cell hxb 0).trans rfl
 have cb1 : w14.cell? ⟨gb, 1, none⟩ = some (.slice D1 x1.length d1) := (blk_cell hxb 1).trans rfl
 have cb2 : w14.cell? ⟨gb, 2, none⟩ = some (.slice D2 x2.length d2) := (blk_cell hxb 2).trans rfl
 have cb3 : w14.cell? ⟨gb, 3, none⟩ = some (.slice D3 x3.length d3) := (blk_cell hxb 3).trans rfl
 have ct0 : w14.cell? ⟨gt, 0, none⟩ = some (.bool b) := (blk_cell hxt 0).trans rfl
 have ct1 : w14.cell? ⟨gt, 1, none⟩ = some (.slice T1 cs.length u1) := (blk_cell hxt 1).trans rfl
 have ct2 : w14.cell? ⟨gt, 2, none⟩ = some (.slice T2 ks.length u2) := (blk_cell hxt 2).trans rfl
 have ct3 : w14.cell? ⟨gt, 3, none⟩ = some (.slice T3 kids.length u3) := (blk_cell hxt 3).trans rfl
 go_wp2_with fail
 refine (sameN _ b A1 cs.length q1 A2 ks.length q2 A3 kids.length q3 T1 u1 T2 u2 T3 u3 r1 r2 r3 hV hT hlr).mono ?_
 rintro e_ w15 ⟨rfl, hb15⟩
 clear cn0 cn1 cn2 cn3 ci0 ci1 ci2 ci3 ca0 ca1 ca2 ca3 cb0 cb1 cb2 cb3 ct0 ct1 ct2 ct3
 have hs15 : w14.heap.size ≤ w15.heap.size := hb15.size
 replace hV := NR_below hV hb15
 replace hP := NR_below hP hb15
 replace hT := NR_below hT hb15
 replace hxn := blk_below hxn hb15
 replace hxi := blk_below hxi hb15
 replace hxa := blk_below hxa hb15
 replace hxb := blk_below hxb hb15
 replace hxt := blk_below hxt hb15
 replace HB := below_then HB (below_size HB) hb15
 clear hb15
 have cn0 : w15.cell? ⟨gn, 0, none⟩ = some (.bool b) := (blk_cell hxn 0).trans rfl
 have cn1 : w15.cell? ⟨gn, 1, none⟩ = some (.slice B1 cs.length c1) := (blk_cell hxn 1).trans rfl
 have cn2 : w15.cell? ⟨gn, 2, none⟩ = some (.slice B2 ks.length c2) := (blk_cell hxn 2).trans rfl
 have cn3 : w15.cell? ⟨gn, 3, none⟩ = some (.slice B3 kids.length c3) := (blk_cell hxn 3).trans rfl
 have ci0 : w15.cell? ⟨gi, 0, none⟩ = some (.bool b) := (blk_cell hxi 0).trans rfl
 have ci1 : w15.cell? ⟨gi, 1, none⟩ = some (.slice A1 cs.length q1) := (blk_cell hxi 1).trans rfl
 have ci2 : w15.cell? ⟨gi, 2, none⟩ = some (.slice A2 ks.length q2) := (blk_cell hxi 2).trans rfl
 have ci3 : w15.cell? ⟨gi, 3, none⟩ = some (.slice A3 kids.length q3) := (blk_cell hxi 3).trans rfl
 have ca0 : w15.cell? ⟨ga, 0, none⟩ = some (.bool v0) := (blk_cell hxa 0).trans rfl
 have ca1 : w15.cell? ⟨ga, 1, none⟩ = some (.slice E1 x1.length z1) := (blk_cell hxa 1).trans rfl
 have ca2 : w15.cell? ⟨ga, 2, none⟩ = some (.slice E2 x2.length z2) := (blk_cell hxa 2).trans rfl
 have ca3 : w15.cell? ⟨ga, 3, none⟩ = some (.slice E3 x3.length z3) := (blk_cell hxa 3).trans rfl
 have cb0 : w15.cell? ⟨gb, 0, none⟩ = some (.bool v0) := (blk_cell hxb 0).trans rfl
 have cb1 : w15.cell? ⟨gb, 1, none⟩ = some (.slice D1 x1.length d1) := (blk_cell hxb 1).trans rfl
 have cb2 : w15.cell? ⟨gb, 2, none⟩ = some (.slice D2 x2.length d2) := (blk_cell hxb 2).trans rfl
 have cb3 : w15.cell? ⟨gb, 3, none⟩ = some (.slice D3 x3.length d3) := (blk_cell hxb 3).trans rfl
 have ct0 : w15.cell? ⟨gt, 0, none⟩ = some (.bool b) := (blk_cell hxt 0).trans rfl
 have ct1 : w15.cell? ⟨gt, 1, none⟩ = some (.slice T1 cs.length u1) := (blk_cell hxt 1).trans rfl
 have ct2 : w15.cell? ⟨gt, 2, none⟩ = some (.slice T2 ks.length u2) := (blk_cell hxt 2).trans rfl
 have ct3 : w15.cell? ⟨gt, 3, none⟩ = some (.slice T3 kids.length u3) := (blk_cell hxt 3).trans rfl
 go_wp2_with fail
 obtain ⟨gC, gL, -, -, -⟩ := NR_C hT
 have X := hW _ HB b T1 u1 r1 T2 u2 r2 T3 u3 r3 gL.1 gL.2.1 gL.2.2 gC.1 gC.2.1 gC.2.2 hn' hk'
 rw [l1, l2, l3, hV1] at X
 dsimp only at X
 refine (X).mono ?_
 rintro e_ w16 ⟨M1, m1, M2, m2, M3, m3, rfl, hM, hb16⟩
 clear cn0 cn1 cn2 cn3 ci0 ci1 ci2 ci3 ca0 ca1 ca2 ca3 cb0 cb1 cb2 cb3 ct0 ct1 ct2 ct3
 have hs16 : w15.heap.size ≤ w16.heap.size := hb16.size
 replace hV := NR_below hV hb16
 replace hP := NR_below hP hb16
 replace hT := NR_below hT hb16
 replace hxn := blk_below hxn hb16
 replace hxi := blk_below hxi hb16
 replace hxa := blk_below hxa hb16
 replace hxb := blk_below hxb hb16
 replace hxt := blk_below hxt hb16
 replace HB := below_then HB (below_size HB) hb16
 clear hb16
 clear X gC gL
 have hb17 : Below w16.heap.size w16 (w16.alloc (.cells #[.bool v1, .slice M1 y1.length m1, .slice M2 y2.length m2, .slice M3 y3.length m3] 26)) := (Below.refl _ _).alloc (Nat.le_refl _) _
 have hs17 : w16.heap.size ≤ (w16.alloc (.cells #[.bool v1, .slice M1 y1.length m1, .slice M2 y2.length m2, .slice M3 y3.length m3] 26)).heap.size := hb17.size
 replace hV := NR_below hV hb17
 replace hP := NR_below hP hb17
 replace hT := NR_below hT hb17
 replace hM := NR_below hM hb17
 replace hxn := blk_below hxn hb17
 replace hxi := blk_below hxi hb17
 replace hxa := blk_below hxa hb17
 replace hxb := blk_below hxb hb17
 replace hxt := blk_below hxt hb17
 replace HB := below_then HB (below_size HB) hb17
 clear hb17
 have hxo : (w16.alloc (.cells #[.bool v1, .slice M1 y1.length m1, .slice M2 y2.length m2, .slice M3 y3.length m3] 26)).heap[w16.heap.size]? = some (.cells #[.bool v1, .slice M1 y1.length m1, .slice M2 y2.length m2, .slice M3 y3.length m3] 26 (0, 0)) := blk_new w16 _
 have cn0 : (w16.alloc (.cells #[.bool v1, .slice M1 y1.length m1, .slice M2 y2.length m2, .slice M3 y3.length m3] 26)).cell? ⟨gn, 0, none⟩ = some (.bool b) := (blk_cell hxn 0).trans rfl
 have cn1 : (w16.alloc (.cells #[.bool v1, .slice M1 y1.length m1, .slice M2 y2.length m2, .slice M3 y3.length m3] 26)).cell? ⟨gn, 1, none⟩ = some (.slice B1 cs.length c1) := (blk_cell hxn 1).trans rfl
 have cn2 : (w16.alloc (.cells #[.bool v1, .slice M1 y1.length m1, .slice M2 y2.length m2, .slice M3 y3.length m3] 26)).cell? ⟨gn, 2, none⟩ = some (.slice B2 ks.length c2) := (blk_cell hxn 2).trans rfl
 have cn3 : (w16.alloc (.cells #[.bool v1, .slice M1 y1.length m1, .slice M2 y2.length m2, .slice M3 y3.length m3] 26)).cell? ⟨gn, 3, none⟩ = some (.slice B3 kids.length c3) := (blk_cell hxn 3).trans rfl
 have ci0 : (w16.alloc (.cells #[.bool v1, .slice M1 y1.length m1, .slice M2 y2.length m2, .slice M3 y3.length m3] 26)).cell? ⟨gi, 0, none⟩ = some (.bool b) := (blk_cell hxi 0).trans rfl
 have ci1 : (w16.alloc (.cells #[.bool v1, .slice M1 y1.length m1, .slice M2 y2.length m2, .slice M3 y3.length m3] 26)).cell? ⟨gi, 1, none⟩ = some (.slice A1 cs.length q1) := (blk_cell hxi 1).trans rfl
 have ci2 : (w16.alloc (.cells #[.bool v1, .slice M1 y1.length m1, .slice M2 y2.length m2, .slice M3 y3.length m3] 26)).cell? ⟨gi, 2, none⟩ = some (.slice A2 ks.length q2) := (blk_cell hxi 2).trans rfl
 have ci3 : (w16.alloc (.cells #[.bool v1, .slice M1 y1.length m1, .slice M2 y2.length m2, .slice M3 y3.length m3] 26)).cell? ⟨gi, 3, none⟩ = some (.slice A3 kids.length q3) := (blk_cell hxi 3).trans rfl
 have ca0 : (w16.alloc (.cells #[.bool v1, .slice M1 y1.length m1, .slice M2 y2.length m2, .slice M3 y3.length m3] 26)).cell? ⟨ga, 0, none⟩ = some (.bool v0) := (blk_cell hxa 0).trans rfl
 have ca1 : (w16.alloc (.cells #[.bool v1, .slice M1 y1.length m1, .slice M2 y2.length m2, .slice M3 y3.length m3] 26)).cell? ⟨ga, 1, none⟩ = some (.slice E1 x1.length z1) := (blk_cell hxa 1).trans rfl
 have ca2 : (w16.alloc (.cells #[.bool v1, .slice M1 y1.length m1, .slice M2 y2.length m2, .slice M3 y3.length m3] 26)).cell? ⟨ga, 2, none⟩ = some (.slice E2 x2.length z2) := (blk_cell hxa 2).trans rfl
 have ca3 : (w16.alloc (.cells #[.bool v1, .slice M1 y1.length m1, .slice M2 y2.length m2, .slice M3 y3.length m3] 26)).cell? ⟨ga, 3, none⟩ = some (.slice E3 x3.length z3) := (blk_cell hxa 3).trans rfl
 have cb0 : (w16.alloc (.cells #[.bool v1, .slice M1 y1.length m1, .slice M2 y2.length m2, .slice M3 y3.length m3] 26)).cell? ⟨gb, 0, none⟩ = some (.bool v0) := (blk_cell hxb 0).trans rfl
 have cb1 : (w16.alloc (.cells #[.bool v1, .slice M1 y1.length m1, .slice M2 y2.length m2, .slice M3 y3.length m3] 26)).cell? ⟨gb, 1, none⟩ = some (.slice D1 x1.length d1) := (blk_cell hxb 1).trans rfl
 have cb2 : (w16.alloc (.cells #[.bool v1, .slice M1 y1.length m1, .slice M2 y2.length m2, .slice M3 y3.length m3] 26)).cell? ⟨gb, 2, none⟩ = some (.slice D2 x2.length d2) := (blk_cell hxb 2).trans rfl
 have cb3 : (w16.alloc (.cells #[.bool v1, .slice M1 y1.length m1, .slice M2 y2.length m2, .slice M3 y3.length m3] 26)).cell? ⟨gb, 3, none⟩ = some (.slice D3 x3.length d3) := (blk_cell hxb 3).trans rfl
 have ct0 : (w16.alloc (.cells #[.bool v1, .slice M1 y1.length m1, .slice M2 y2.length m2, .slice M3 y3.length m3] 26)).cell? ⟨gt, 0, none⟩ = some (.bool b) := (blk_cell hxt 0).trans rfl
 have ct1 : (w16.alloc (.cells #[.bool v1, .slice M1 y1.length m1, .slice M2 y2.length m2, .slice M3 y3.length m3] 26)).cell? ⟨gt, 1, none⟩ = some (.slice T1 cs.length u1) := (blk_cell hxt 1).trans rfl
 have ct2 : (w16.alloc (.cells #[.bool v1, .slice M1 y1.length m1, .slice M2 y2.length m2, .slice M3 y3.length m3] 26)).cell? ⟨gt, 2, none⟩ = some (.slice T2 ks.length u2) := (blk_cell hxt 2).trans rfl
 have ct3 : (w16.alloc (.cells #[.bool v1, .slice M1 y1.length m1, .slice M2 y2.length m2, .slice M3 y3.length m3] 26)).cell? ⟨gt, 3, none⟩ = some (.slice T3 kids.length u3) := (blk_cell hxt 3).trans rfl
 have co0 : (w16.alloc (.cells #[.bool v1, .slice M1 y1.length m1, .slice M2 y2.length m2, .slice M3 y3.length m3] 26)).cell? ⟨w16.heap.size, 0, none⟩ = some (.bool v1) := (blk_cell hxo 0).trans rfl
 have co1 : (w16.alloc (.cells #[.bool v1, .slice M1 y1.length m1, .slice M2 y2.length m2, .slice M3 y3.length m3] 26)).cell? ⟨w16.heap.size, 1, none⟩ = some (.slice M1 y1.length m1) := (blk_cell hxo 1).trans rfl
 have co2 : (w16.alloc (.cells #[.bool v1, .slice M1 y1.length m1, .slice M2 y2.length m2, .slice M3 y3.length m3] 26)).cell? ⟨w16.heap.size, 2, none⟩ = some (.slice M2 y2.length m2) := (blk_cell hxo 2).trans rfl
 have co3 : (w16.alloc (.cells #[.bool v1, .slice M1 y1.length m1, .slice M2 y2.length m2, .slice M3 y3.length m3] 26)).cell? ⟨w16.heap.size, 3, none⟩ = some (.slice M3 y3.length m3) := (blk_cell hxo 3).trans rfl
 go_wp2_with fail
 clear cn0 cn1 cn2 cn3 ci0 ci1 ci2 ci3 ca0 ca1 ca2 ca3 cb0 cb1 cb2 cb3 ct0 ct1 ct2 ct3 co0 co1 co2 co3
 have hlo := blk_lt hxo
 generalize (w16.alloc (.cells #[.bool v1, .slice M1 y1.length m1, .slice M2 y2.length m2, .slice M3 y3.length m3] 26)) = w17 at *
 obtain ⟨go, heo⟩ : ∃ g, g = w16.heap.size := ⟨_, rfl⟩
 rw [← heo] at hxo hlo ⊢
 have hgeo : w16.heap.size ≤ go := Nat.le_of_eq heo.symm
 clear heo
 obtain ⟨gC, gL, -, -, -⟩ := NR_C hV
 have X := hA _ HB b A1 q1 r1 A2 q2 r2 A3 q3 r3 gL.1 gL.2.1 gL.2.2 gC.1 gC.2.1 gC.2.2 hn' hk'
 rw [l1, l2, l3, hV1] at X
 dsimp only at X
 refine (X).mono ?_
 rintro e_ w18 ⟨O1, o1, O2, o2, O3, o3, rfl, hO, hb18⟩
 have hs18 : w17.heap.size ≤ w18.heap.size := hb18.size
 replace hV := NR_below hV hb18
 replace hP := NR_below hP hb18
 replace hT := NR_below hT hb18
 replace hM := NR_below hM hb18
 replace hxn := blk_below hxn hb18
 replace hxi := blk_below hxi hb18
 replace hxa := blk_below hxa hb18
 replace hxb := blk_below hxb hb18
 replace hxt := blk_below hxt hb18
 replace hxo := blk_below hxo hb18
 replace HB := below_then HB (below_size HB) hb18
 clear hb18
 clear X gC gL
 have hb19 : Below w18.heap.size w18 (w18.alloc (.cells #[.bool v1, .slice O1 y1.length o1, .slice O2 y2.length o2, .slice O3 y3.length o3] 26)) := (Below.refl _ _).alloc (Nat.le_refl _) _
 have hs19 : w18.heap.size ≤ (w18.alloc (.cells #[.bool v1, .slice O1 y1.length o1, .slice O2 y2.length o2, .slice O3 y3.length o3] 26)).heap.size := hb19.size
 replace hV := NR_below hV hb19
 replace hP := NR_below hP hb19
 replace hT := NR_below hT hb19
 replace hM := NR_below hM hb19
 replace hO := NR_below hO hb19
 replace hxn := blk_below hxn hb19
 replace hxi := blk_below hxi hb19
 replace hxa := blk_below hxa hb19
 replace hxb := blk_below hxb hb19
 replace hxt := blk_below hxt hb19
 replace hxo := blk_below hxo hb19
 replace HB := below_then HB (below_size HB) hb19
 clear hb19
 have hxm : (w18.alloc (.cells #[.bool v1, .slice O1 y1.length o1, .slice O2 y2.length o2, .slice O3 y3.length o3] 26)).heap[w18.heap.size]? = some (.cells #[.bool v1, .slice O1 y1.length o1, .slice O2 y2.length o2, .slice O3 y3.length o3] 26 (0, 0)) := blk_new w18 _
 have cn0 : (w18.alloc (.cells #[.bool v1, .slice O1 y1.length o1, .slice O2 y2.length o2, .slice O3 y3.length o3] 26)).cell? ⟨gn, 0, none⟩ = some (.bool b) := (blk_cell hxn 0).trans rfl
 have cn1 : (w18.alloc (.cells #[.bool v1, .slice O1 y1.length o1, .slice O2 y2.length o2, .slice O3 y3.length o3] 26)).cell? ⟨gn, 1, none⟩ = some (.slice B1 cs.length c1) := (blk_cell hxn 1).trans rfl
 have cn2 : (w18.alloc (.cells #[.bool v1, .slice O1 y1.length o1, .slice O2 y2.length o2, .slice O3 y3.length o3] 26)).cell? ⟨gn, 2, none⟩ = some (.slice B2 ks.length c2) := (blk_cell hxn 2).trans rfl
 have cn3 : (w18.alloc (.cells #[.bool v1, .slice O1 y1.length o1, .slice O2 y2.length o2, .slice O3 y3.length o3] 26)).cell? ⟨gn, 3, none⟩ = some (.slice B3 kids.length c3) := (blk_cell hxn 3).trans rfl
 have ci0 : (w18.alloc (.cells #[.bool v1, .slice O1 y1.length o1, .slice O2 y2.length o2, .slice O3 y3.length o3] 26)).cell? ⟨gi, 0, none⟩ = some (.bool b) := (blk_cell hxi 0).trans rfl
 have ci1 : (w18.alloc (.cells #[.bool v1, .slice O1 y1.length o1, .slice O2 y2.length o2, .slice O3 y3.length o3] 26)).cell? ⟨gi, 1, none⟩ = some (.slice A1 cs.length q1) := (blk_cell hxi 1).trans rfl
 have ci2 : (w18.alloc (.cells #[.bool v1, .slice O1 y1.length o1, .slice O2 y2.length o2, .slice O3 y3.length o3] 26)).cell? ⟨gi, 2, none⟩ = some (.slice A2 ks.length q2) := (blk_cell hxi 2).trans rfl
 have ci3 : (w18.alloc (.cells #[.bool v1, .slice O1 y1.length o1, .slice O2 y2.length o2, .slice O3 y3.length o3] 26)).cell? ⟨gi, 3, none⟩ = some (.slice A3 kids.length q3) := (blk_cell hxi 3).trans rfl
 have ca0 : (w18.alloc (.cells #[.bool v1, .slice O1 y1.length o1, .slice O2 y2.length o2, .slice O3 y3.length o3] 26)).cell? ⟨ga, 0, none⟩ = some (.bool v0) := (blk_cell hxa 0).trans rfl
 have ca1 : (w18.alloc (.cells #[.bool v1, .slice O1 y1.length o1, .slice O2 y2.length o2, .slice O3 y3.length o3] 26)).cell? ⟨ga, 1, none⟩ = some (.slice E1 x1.length z1) := (blk_cell hxa 1).trans rfl
 have ca2 : (w18.alloc (.cells #[.bool v1, .slice O1 y1.length o1, .slice O2 y2.length o2, .slice O3 y3.length o3] 26)).cell? ⟨ga, 2, none⟩ = some (.slice E2 x2.length z2) := (blk_cell hxa 2).trans rfl
 have ca3 : (w18.alloc (.cells #[.bool v1, .slice O1 y1.length o1, .slice O2 y2.length o2, .slice O3 y3.length o3] 26)).cell? ⟨ga, 3, none⟩ = some (.slice E3 x3.length z3) := (blk_cell hxa 3).trans rfl
 have cb0 : (w18.alloc (.cells #[.bool v1, .slice O1 y1.length o1, .slice O2 y2.length o2, .slice O3 y3.length o3] 26)).cell? ⟨gb, 0, none⟩ = some (.bool v0) := (blk_cell hxb 0).trans rfl
 have cb1 : (w18.alloc (.cells #[.bool v1, .slice O1 y1.length o1, .slice O2 y2.length o2, .slice O3 y3.length o3] 26)).cell? ⟨gb, 1, none⟩ = some (.slice D1 x1.length d1) := (blk_cell hxb 1).trans rfl
 have cb2 : (w18.alloc (.cells #[.bool v1, .slice O1 y1.length o1, .slice O2 y2.length o2, .slice O3 y3.length o3] 26)).cell? ⟨gb, 2, none⟩ = some (.slice D2 x2.length d2) := (blk_cell hxb 2).trans rfl
 have cb3 : (w18.alloc (.cells #[.bool v1, .slice O1 y1.length o1, .slice O2 y2.length o2, .slice O3 y3.length o3] 26)).cell? ⟨gb, 3, none⟩ = some (.slice D3 x3.length d3) := (blk_cell hxb 3).trans rfl
 have ct0 : (w18.alloc (.cells #[.bool v1, .slice O1 y1.length o1, .slice O2 y2.length o2, .slice O3 y3.length o3] 26)).cell? ⟨gt, 0, none⟩ = some (.bool b) := (blk_cell hxt 0).trans rfl
 have ct1 : (w18.alloc (.cells #[.bool v1, .slice O1 y1.length o1, .slice O2 y2.length o2, .slice O3 y3.length o3] 26)).cell? ⟨gt, 1, none⟩ = some (.slice T1 cs.length u1) := (blk_cell hxt 1).trans rfl
 have ct2 : (w18.alloc (.cells #[.bool v1, .slice O1 y1.length o1, .slice O2 y2.length o2, .slice O3 y3.length o3] 26)).cell? ⟨gt, 2, none⟩ = some (.slice T2 ks.length u2) := (blk_cell hxt 2).trans rfl
 have ct3 : (w18.alloc (.cells #[.bool v1, .slice O1 y1.length o1, .slice O2 y2.length o2, .slice O3 y3.length o3] 26)).cell? ⟨gt, 3, none⟩ = some (.slice T3 kids.length u3) := (blk_cell hxt 3).trans rfl
 have co0 : (w18.alloc (.cells #[.bool v1, .slice O1 y1.length o1, .slice O2 y2.length o2, .slice O3 y3.length o3] 26)).cell? ⟨go, 0, none⟩ = some (.bool v1) := (blk_cell hxo 0).trans rfl
 have co1 : (w18.alloc (.cells #[.bool v1, .slice O1 y1.length o1, .slice O2 y2.length o2, .slice O3 y3.length o3] 26)).cell? ⟨go, 1, none⟩ = some (.slice M1 y1.length m1) := (blk_cell hxo 1).trans rfl
 have co2 : (w18.alloc (.cells #[.bool v1, .slice O1 y1.length o1, .slice O2 y2.length o2, .slice O3 y3.length o3] 26)).cell? ⟨go, 2, none⟩ = some (.slice M2 y2.length m2) := (blk_cell hxo 2).trans rfl
 have co3 : (w18.alloc (.cells #[.bool v1, .slice O1 y1.length o1, .slice O2 y2.length o2, .slice O3 y3.length o3] 26)).cell? ⟨go, 3, none⟩ = some (.slice M3 y3.length m3) := (blk_cell hxo 3).trans rfl
 have cm0 : (w18.alloc (.cells #[.bool v1, .slice O1 y1.length o1, .slice O2 y2.length o2, .slice O3 y3.length o3] 26)).cell? ⟨w18.heap.size, 0, none⟩ = some (.bool v1) := (blk_cell hxm 0).trans rfl
 have cm1 : (w18.alloc (.cells #[.bool v1, .slice O1 y1.length o1, .slice O2 y2.length o2, .slice O3 y3.length o3] 26)).cell? ⟨w18.heap.size, 1, none⟩ = some (.slice O1 y1.length o1) := (blk_cell hxm 1).trans rfl
 have cm2 : (w18.alloc (.cells #[.bool v1, .slice O1 y1.length o1, .slice O2 y2.length o2, .slice O3 y3.length o3] 26)).cell? ⟨w18.heap.size, 2, none⟩ = some (.slice O2 y2.length o2) := (blk_cell hxm 2).trans rfl
 have cm3 : (w18.alloc (.cells #[.bool v1, .slice O1 y1.length o1, .slice O2 y2.length o2, .slice O3 y3.length o3] 26)).cell? ⟨w18.heap.size, 3, none⟩ = some (.slice O3 y3.length o3) := (blk_cell hxm 3).trans rfl
 go_wp2_with fail
 clear cn0 cn1 cn2 cn3 ci0 ci1 ci2 ci3 ca0 ca1 ca2 ca3 cb0 cb1 cb2 cb3 ct0 ct1 ct2 ct3 co0 co1 co2 co3 cm0 cm1 cm2 cm3
 have hlm := blk_lt hxm
 generalize (w18.alloc (.cells #[.bool v1, .slice O1 y1.length o1, .slice O2 y2.length o2, .slice O3 y3.length o3] 26)) = w19 at *
 obtain ⟨gm, hem⟩ : ∃ g, g = w18.heap.size := ⟨_, rfl⟩
 rw [← hem] at hxm hlm ⊢
 have hgem : w18.heap.size ≤ gm := Nat.le_of_eq hem.symm
 clear hem
 refine (sameN _ v1 O1 y1.length o1 O2 y2.length o2 O3 y3.length o3 M1 m1 M2 m2 M3 m3 y1 y2 y3  hO hM hly).mono ?_
 rintro e_ w20 ⟨rfl, hb20⟩
 have hs20 : w19.heap.size ≤ w20.heap.size := hb20.size
 replace hV := NR_below hV hb20
 replace hP := NR_below hP hb20
 replace hT := NR_below hT hb20
 replace hM := NR_below hM hb20
 replace hO := NR_below hO hb20
 replace hxn := blk_below hxn hb20
 replace hxi := blk_below hxi hb20
 replace hxa := blk_below hxa hb20
 replace hxb := blk_below hxb hb20
 replace hxt := blk_below hxt hb20
 replace hxo := blk_below hxo hb20
 replace hxm := blk_below hxm hb20
 replace HB := below_then HB (below_size HB) hb20
 clear hb20
 have cn0 : w20.cell? ⟨gn, 0, none⟩ = some (.bool b) := (blk_cell hxn 0).trans rfl
 have cn1 : w20.cell? ⟨gn, 1, none⟩ = some (.slice B1 cs.length c1) := (blk_cell hxn 1).trans rfl
 have cn2 : w20.cell? ⟨gn, 2, none⟩ = some (.slice B2 ks.length c2) := (blk_cell hxn 2).trans rfl
 have cn3 : w20.cell? ⟨gn, 3, none⟩ = some (.slice B3 kids.length c3) := (blk_cell hxn 3).trans rfl
 have ci0 : w20.cell? ⟨gi, 0, none⟩ = some (.bool b) := (blk_cell hxi 0).trans rfl
 have ci1 : w20.cell? ⟨gi, 1, none⟩ = some (.slice A1 cs.length q1) := (blk_cell hxi 1).trans rfl
 have ci2 : w20.cell? ⟨gi, 2, none⟩ = some (.slice A2 ks.length q2) := (blk_cell hxi 2).trans rfl
 have ci3 : w20.cell? ⟨gi, 3, none⟩ = some (.slice A3 kids.length q3) := (blk_cell hxi 3).trans rfl
 have ca0 : w20.cell? ⟨ga, 0, none⟩ = some (.bool v0) := (blk_cell hxa 0).trans rfl
 have ca1 : w20.cell? ⟨ga, 1, none⟩ = some (.slice E1 x1.length z1) := (blk_cell hxa 1).trans rfl
 have ca2 : w20.cell? ⟨ga, 2, none⟩ = some (.slice E2 x2.length z2) := (blk_cell hxa 2).trans rfl
 have ca3 : w20.cell? ⟨ga, 3, none⟩ = some (.slice E3 x3.length z3) := (blk_cell hxa 3).trans rfl
 have cb0 : w20.cell? ⟨gb, 0, none⟩ = some (.bool v0) := (blk_cell hxb 0).trans rfl
 have cb1 : w20.cell? ⟨gb, 1, none⟩ = some (.slice D1 x1.length d1) := (blk_cell hxb 1).trans rfl
 have cb2 : w20.cell? ⟨gb, 2, none⟩ = some (.slice D2 x2.length d2) := (blk_cell hxb 2).trans rfl
 have cb3 : w20.cell? ⟨gb, 3, none⟩ = some (.slice D3 x3.length d3) := (blk_cell hxb 3).trans rfl
 have ct0 : w20.cell? ⟨gt, 0, none⟩ = some (.bool b) := (blk_cell hxt 0).trans rfl
 have ct1 : w20.cell? ⟨gt, 1, none⟩ = some (.slice T1 cs.length u1) := (blk_cell hxt 1).trans rfl
 have ct2 : w20.cell? ⟨gt, 2, none⟩ = some (.slice T2 ks.length u2) := (blk_cell hxt 2).trans rfl
 have ct3 : w20.cell? ⟨gt, 3, none⟩ = some (.slice T3 kids.length u3) := (blk_cell hxt 3).trans rfl
 have co0 : w20.cell? ⟨go, 0, none⟩ = some (.bool v1) := (blk_cell hxo 0).trans rfl
 have co1 : w20.cell? ⟨go, 1, none⟩ = some (.slice M1 y1.length m1) := (blk_cell hxo 1).trans rfl
 have co2 : w20.cell? ⟨go, 2, none⟩ = some (.slice M2 y2.length m2) := (blk_cell hxo 2).trans rfl
 have co3 : w20.cell? ⟨go, 3, none⟩ = some (.slice M3 y3.length m3) := (blk_cell hxo 3).trans rfl
 have cm0 : w20.cell? ⟨gm, 0, none⟩ = some (.bool v1) := (blk_cell hxm 0).trans rfl
 have cm1 : w20.cell? ⟨gm, 1, none⟩ = some (.slice O1 y1.length o1) := (blk_cell hxm 1).trans rfl
 have cm2 : w20.cell? ⟨gm, 2, none⟩ = some (.slice O2 y2.length o2) := (blk_cell hxm 2).trans rfl
 have cm3 : w20.cell? ⟨gm, 3, none⟩ = some (.slice O3 y3.length o3) := (blk_cell hxm 3).trans rfl
 go_wp2_with fail
 refine (lentN _ b B1 c1 cs B2 c2 ks B3 c3 kids hc1 hc2 hc3 (Kd.C_below h1 HB) (Kd.C_below h2 HB) (Kd.C_below h3 HB) t1 t2 t3 hl w.heap.size (below_size HB)).mono ?_
 rintro e_ w21 ⟨F1, f1, F2, f2, F3, f3, rfl, hF, hb21⟩
 clear cn0 cn1 cn2 cn3 ci0 ci1 ci2 ci3 ca0 ca1 ca2 ca3 cb0 cb1 cb2 cb3 ct0 ct1 ct2 ct3 co0 co1 co2 co3 cm0 cm1 cm2 cm3
 have hs21 : w20.heap.size ≤ w21.heap.size := hb21.size
 replace hV := NR_below hV hb21
 replace hP := NR_below hP hb21
 replace hT := NR_below hT hb21
 replace hM := NR_below hM hb21
 replace hO := NR_below hO hb21
 replace hxn := blk_below hxn hb21
 replace hxi := blk_below hxi hb21
 replace hxa := blk_below hxa hb21
 replace hxb := blk_below hxb hb21
 replace hxt := blk_below hxt hb21
 replace hxo := blk_below hxo hb21
 replace hxm := blk_below hxm hb21
 replace HB := below_then HB (below_size HB) hb21
 clear hb21
 have hU := NR_front hF
 clear hF
 have cn0 : w21.cell? ⟨gn, 0, none⟩ = some (.bool b) := (blk_cell hxn 0).trans rfl
 have cn1 : w21.cell? ⟨gn, 1, none⟩ = some (.slice B1 cs.length c1) := (blk_cell hxn 1).trans rfl
 have cn2 : w21.cell? ⟨gn, 2, none⟩ = some (.slice B2 ks.length c2) := (blk_cell hxn 2).trans rfl
 have cn3 : w21.cell? ⟨gn, 3, none⟩ = some (.slice B3 kids.length c3) := (blk_cell hxn 3).trans rfl
 have ci0 : w21.cell? ⟨gi, 0, none⟩ = some (.bool b) := (blk_cell hxi 0).trans rfl
 have ci1 : w21.cell? ⟨gi, 1, none⟩ = some (.slice A1 cs.length q1) := (blk_cell hxi 1).trans rfl
 have ci2 : w21.cell? ⟨gi, 2, none⟩ = some (.slice A2 ks.length q2) := (blk_cell hxi 2).trans rfl
 have ci3 : w21.cell? ⟨gi, 3, none⟩ = some (.slice A3 kids.length q3) := (blk_cell hxi 3).trans rfl
 have ca0 : w21.cell? ⟨ga, 0, none⟩ = some (.bool v0) := (blk_cell hxa 0).trans rfl
 have ca1 : w21.cell? ⟨ga, 1, none⟩ = some (.slice E1 x1.length z1) := (blk_cell hxa 1).trans rfl
 have ca2 : w21.cell? ⟨ga, 2, none⟩ = some (.slice E2 x2.length z2) := (blk_cell hxa 2).trans rfl
 have ca3 : w21.cell? ⟨ga, 3, none⟩ = some (.slice E3 x3.length z3) := (blk_cell hxa 3).trans rfl
 have cb0 : w21.cell? ⟨gb, 0, none⟩ = some (.bool v0) := (blk_cell hxb 0).trans rfl
 have cb1 : w21.cell? ⟨gb, 1, none⟩ = some (.slice D1 x1.length d1) := (blk_cell hxb 1).trans rfl
 have cb2 : w21.cell? ⟨gb, 2, none⟩ = some (.slice D2 x2.length d2) := (blk_cell hxb 2).trans rfl
 have cb3 : w21.cell? ⟨gb, 3, none⟩ = some (.slice D3 x3.length d3) := (blk_cell hxb 3).trans rfl
 have ct0 : w21.cell? ⟨gt, 0, none⟩ = some (.bool b) := (blk_cell hxt 0).trans rfl
 have ct1 : w21.cell? ⟨gt, 1, none⟩ = some (.slice T1 cs.length u1) := (blk_cell hxt 1).trans rfl
 have ct2 : w21.cell? ⟨gt, 2, none⟩ = some (.slice T2 ks.length u2) := (blk_cell hxt 2).trans rfl
 have ct3 : w21.cell? ⟨gt, 3, none⟩ = some (.slice T3 kids.length u3) := (blk_cell hxt 3).trans rfl
 have co0 : w21.cell? ⟨go, 0, none⟩ = some (.bool v1) := (blk_cell hxo 0).trans rfl
 have co1 : w21.cell? ⟨go, 1, none⟩ = some (.slice M1 y1.length m1) := (blk_cell hxo 1).trans rfl
 have co2 : w21.cell? ⟨go, 2, none⟩ = some (.slice M2 y2.length m2) := (blk_cell hxo 2).trans rfl
 have co3 : w21.cell? ⟨go, 3, none⟩ = some (.slice M3 y3.length m3) := (blk_cell hxo 3).trans rfl
 have cm0 : w21.cell? ⟨gm, 0, none⟩ = some (.bool v1) := (blk_cell hxm 0).trans rfl
 have cm1 : w21.cell? ⟨gm, 1, none⟩ = some (.slice O1 y1.length o1) := (blk_cell hxm 1).trans rfl
 have cm2 : w21.cell? ⟨gm, 2, none⟩ = some (.slice O2 y2.length o2) := (blk_cell hxm 2).trans rfl
 have cm3 : w21.cell? ⟨gm, 3, none⟩ = some (.slice O3 y3.length o3) := (blk_cell hxm 3).trans rfl
 go_wp2_with fail
 obtain ⟨gC, gL, -, -, -⟩ := NR_C hU
 have X := hA _ HB b F1 f1 cs F2 f2 ks F3 f3 kids gL.1 gL.2.1 gL.2.2 gC.1 gC.2.1 gC.2.2 hn hk
 rw [hV0] at X
 dsimp only at X
 refine (X).mono ?_
 rintro e_ w22 ⟨R1, s1, R2, s2, R3, s3, rfl, hR, hb22⟩
 clear cn0 cn1 cn2 cn3 ci0 ci1 ci2 ci3 ca0 ca1 ca2 ca3 cb0 cb1 cb2 cb3 ct0 ct1 ct2 ct3 co0 co1 co2 co3 cm0 cm1 cm2 cm3
 have hs22 : w21.heap.size ≤ w22.heap.size := hb22.size
 replace hV := NR_below hV hb22
 replace hP := NR_below hP hb22
 replace hT := NR_below hT hb22
 replace hM := NR_below hM hb22
 replace hO := NR_below hO hb22
 replace hU := NR_below hU hb22
 replace hxn := blk_below hxn hb22
 replace hxi := blk_below hxi hb22
 replace hxa := blk_below hxa hb22
 replace hxb := blk_below hxb hb22
 replace hxt := blk_below hxt hb22
 replace hxo := blk_below hxo hb22
 replace hxm := blk_below hxm hb22
 replace HB := below_then HB (below_size HB) hb22
 clear hb22
 clear X gC gL
 have hb23 : Below w22.heap.size w22 (w22.alloc (.cells #[.bool v0, .slice R1 x1.length s1, .slice R2 x2.length s2, .slice R3 x3.length s3] 26)) := (Below.refl _ _).alloc (Nat.le_refl _) _
 have hs23 : w22.heap.size ≤ (w22.alloc (.cells #[.bool v0, .slice R1 x1.length s1, .slice R2 x2.length s2, .slice R3 x3.length s3] 26)).heap.size := hb23.size
 replace hV := NR_below hV hb23
 replace hP := NR_below hP hb23
 replace hT := NR_below hT hb23
 replace hM := NR_below hM hb23
 replace hO := NR_below hO hb23
 replace hU := NR_below hU hb23
 replace hR := NR_below hR hb23
 replace hxn := blk_below hxn hb23
 replace hxi := blk_below hxi hb23
 replace hxa := blk_below hxa hb23
 replace hxb := blk_below hxb hb23
 replace hxt := blk_below hxt hb23
 replace hxo := blk_below hxo hb23
 replace hxm := blk_below hxm hb23
 replace HB := below_then HB (below_size HB) hb23
 clear hb23
 have hxc : (w22.alloc (.cells #[.bool v0, .slice R1 x1.length s1, .slice R2 x2.length s2, .slice R3 x3.length s3] 26)).heap[w22.heap.size]? = some (.cells #[.bool v0, .slice R1 x1.length s1, .slice R2 x2.length s2, .slice R3 x3.length s3] 26 (0, 0)) := blk_new w22 _
 have cn0 : (w22.alloc (.cells #[.bool v0, .slice R1 x1.length s1, .slice R2 x2.length s2, .slice R3 x3.length s3] 26)).cell? ⟨gn, 0, none⟩ = some (.bool b) := (blk_cell hxn 0).trans rfl
 have cn1 : (w22.alloc (.cells #[.bool v0, .slice R1 x1.length s1, .slice R2 x2.length s2, .slice R3 x3.length s3] 26)).cell? ⟨gn, 1, none⟩ = some (.slice B1 cs.length c1) := (blk_cell hxn 1).trans rfl
 have cn2 : (w22.alloc (.cells #[.bool v0, .slice R1 x1.length s1, .slice R2 x2.length s2, .slice R3 x3.length s3] 26)).cell? ⟨gn, 2, none⟩ = some (.slice B2 ks.length c2) := (blk_cell hxn 2).trans rfl
 have cn3 : (w22.alloc (.cells #[.bool v0, .slice R1 x1.length s1, .slice R2 x2.length s2, .slice R3 x3.length s3] 26)).cell? ⟨gn, 3, none⟩ = some (.slice B3 kids.length c3) := (blk_cell hxn 3).trans rfl
 have ci0 : (w22.alloc (.cells #[.bool v0, .slice R1 x1.length s1, .slice R2 x2.length s2, .slice R3 x3.length s3] 26)).cell? ⟨gi, 0, none⟩ = some (.bool b) := (blk_cell hxi 0).trans rfl
 have ci1 : (w22.alloc (.cells #[.bool v0, .slice R1 x1.length s1, .slice R2 x2.length s2, .slice R3 x3.length s3] 26)).cell? ⟨gi, 1, none⟩ = some (.slice A1 cs.length q1) := (blk_cell hxi 1).trans rfl
 have ci2 : (w22.alloc (.cells #[.bool v0, .slice R1 x1.length s1, .slice R2 x2.length s2, .slice R3 x3.length s3] 26)).cell? ⟨gi, 2, none⟩ = some (.slice A2 ks.length q2) := (blk_cell hxi 2).trans rfl
 have ci3 : (w22.alloc (.cells #[.bool v0, .slice R1 x1.length s1, .slice R2 x2.length s2, .slice R3 x3.length s3] 26)).cell? ⟨gi, 3, none⟩ = some (.slice A3 kids.length q3) := (blk_cell hxi 3).trans rfl
 have ca0 : (w22.alloc (.cells #[.bool v0, .slice R1 x1.length s1, .slice R2 x2.length s2, .slice R3 x3.length s3] 26)).cell? ⟨ga, 0, none⟩ = some (.bool v0) := (blk_cell hxa 0).trans rfl
 have ca1 : (w22.alloc (.cells #[.bool v0, .slice R1 x1.length s1, .slice R2 x2.length s2, .slice R3 x3.length s3] 26)).cell? ⟨ga, 1, none⟩ = some (.slice E1 x1.length z1) := (blk_cell hxa 1).trans rfl
 have ca2 : (w22.alloc (.cells #[.bool v0, .slice R1 x1.length s1, .slice R2 x2.length s2, .slice R3 x3.length s3] 26)).cell? ⟨ga, 2, none⟩ = some (.slice E2 x2.length z2) := (blk_cell hxa 2).trans rfl
 have ca3 : (w22.alloc (.cells #[.bool v0, .slice R1 x1.length s1, .slice R2 x2.length s2, .slice R3 x3.length s3] 26)).cell? ⟨ga, 3, none⟩ = some (.slice E3 x3.length z3) := (blk_cell hxa 3).trans rfl
 have cb0 : (w22.alloc (.cells #[.bool v0, .slice R1 x1.length s1, .slice R2 x2.length s2, .slice R3 x3.length s3] 26)).cell? ⟨gb, 0, none⟩ = some (.bool v0) := (blk_cell hxb 0).trans rfl
 have cb1 : (w22.alloc (.cells #[.bool v0, .slice R1 x1.length s1, .slice R2 x2.length s2, .slice R3 x3.length s3] 26)).cell? ⟨gb, 1, none⟩ = some (.slice D1 x1.length d1) := (blk_cell hxb 1).trans rfl
 have cb2 : (w22.alloc (.cells #[.bool v0, .slice R1 x1.length s1, .slice R2 x2.length s2, .slice R3 x3.length s3] 26)).cell? ⟨gb, 2, none⟩ = some (.slice D2 x2.length d2) := (blk_cell hxb 2).trans rfl
 have cb3 : (w22.alloc (.cells #[.bool v0, .slice R1 x1.length s1, .slice R2 x2.length s2, .slice R3 x3.length s3] 26)).cell? ⟨gb, 3, none⟩ = some (.slice D3 x3.length d3) := (blk_cell hxb 3).trans rfl
 have ct0 : (w22.alloc (.cells #[.bool v0, .slice R1 x1.length s1, .slice R2 x2.length s2, .slice R3 x3.length s3] 26)).cell? ⟨gt, 0, none⟩ = some (.bool b) := (blk_cell hxt 0).trans rfl
 have ct1 : (w22.alloc (.cells #[.bool v0, .slice R1 x1.length s1, .slice R2 x2.length s2, .slice R3 x3.length s3] 26)).cell? ⟨gt, 1, none⟩ = some (.slice T1 cs.length u1) := (blk_cell hxt 1).trans rfl
 have ct2 : (w22.alloc (.cells #[.bool v0, .slice R1 x1.length s1, .slice R2 x2.length s2, .slice R3 x3.length s3] 26)).cell? ⟨gt, 2, none⟩ = some (.slice T2 ks.length u2) := (blk_cell hxt 2).trans rfl
 have ct3 : (w22.alloc (.cells #[.bool v0, .slice R1 x1.length s1, .slice R2 x2.length s2, .slice R3 x3.length s3] 26)).cell? ⟨gt, 3, none⟩ = some (.slice T3 kids.length u3) := (blk_cell hxt 3).trans rfl
 have co0 : (w22.alloc (.cells #[.bool v0, .slice R1 x1.length s1, .slice R2 x2.length s2, .slice R3 x3.length s3] 26)).cell? ⟨go, 0, none⟩ = some (.bool v1) := (blk_cell hxo 0).trans rfl
 have co1 : (w22.alloc (.cells #[.bool v0, .slice R1 x1.length s1, .slice R2 x2.length s2, .slice R3 x3.length s3] 26)).cell? ⟨go, 1, none⟩ = some (.slice M1 y1.length m1) := (blk_cell hxo 1).trans rfl
 have co2 : (w22.alloc (.cells #[.bool v0, .slice R1 x1.length s1, .slice R2 x2.length s2, .slice R3 x3.length s3] 26)).cell? ⟨go, 2, none⟩ = some (.slice M2 y2.length m2) := (blk_cell hxo 2).trans rfl
 have co3 : (w22.alloc (.cells #[.bool v0, .slice R1 x1.length s1, .slice R2 x2.length s2, .slice R3 x3.length s3] 26)).cell? ⟨go, 3, none⟩ = some (.slice M3 y3.length m3) := (blk_cell hxo 3).trans rfl
 have cm0 : (w22.alloc (.cells #[.bool v0, .slice R1 x1.length s1, .slice R2 x2.length s2, .slice R3 x3.length s3] 26)).cell? ⟨gm, 0, none⟩ = some (.bool v1) := (blk_cell hxm 0).trans rfl
 have cm1 : (w22.alloc (.cells #[.bool v0, .slice R1 x1.length s1, .slice R2 x2.length s2, .slice R3 x3.length s3] 26)).cell? ⟨gm, 1, none⟩ = some (.slice O1 y1.length o1) := (blk_cell hxm 1).trans rfl
 have cm2 : (w22.alloc (.cells #[.bool v0, .slice R1 x1.length s1, .slice R2 x2.length s2, .slice R3 x3.length s3] 26)).cell? ⟨gm, 2, none⟩ = some (.slice O2 y2.length o2) := (blk_cell hxm 2).trans rfl
 have cm3 : (w22.alloc (.cells #[.bool v0, .slice R1 x1.length s1, .slice R2 x2.length s2, .slice R3 x3.length s3] 26)).cell? ⟨gm, 3, none⟩ = some (.slice O3 y3.length o3) := (blk_cell hxm 3).trans rfl
 have cc0 : (w22.alloc (.cells #[.bool v0, .slice R1 x1.length s1, .slice R2 x2.length s2, .slice R3 x3.length s3] 26)).cell? ⟨w22.heap.size, 0, none⟩ = some (.bool v0) := (blk_cell hxc 0).trans rfl
 have cc1 : (w22.alloc (.cells #[.bool v0, .slice R1 x1.length s1, .slice R2 x2.length s2, .slice R3 x3.length s3] 26)).cell? ⟨w22.heap.size, 1, none⟩ = some (.slice R1 x1.length s1) := (blk_cell hxc 1).trans rfl
 have cc2 : (w22.alloc (.cells #[.bool v0, .slice R1 x1.length s1, .slice R2 x2.length s2, .slice R3 x3.length s3] 26)).cell? ⟨w22.heap.size, 2, none⟩ = some (.slice R2 x2.length s2) := (blk_cell hxc 2).trans rfl
 have cc3 : (w22.alloc (.cells #[.bool v0, .slice R1 x1.length s1, .slice R2 x2.length s2, .slice R3 x3.length s3] 26)).cell? ⟨w22.heap.size, 3, none⟩ = some (.slice R3 x3.length s3) := (blk_cell hxc 3).trans rfl
 go_wp2_with fail
 clear cn0 cn1 cn2 cn3 ci0 ci1 ci2 ci3 ca0 ca1 ca2 ca3 cb0 cb1 cb2 cb3 ct0 ct1 ct2 ct3 co0 co1 co2 co3 cm0 cm1 cm2 cm3 cc0 cc1 cc2 cc3
 have hlc := blk_lt hxc
 generalize (w22.alloc (.cells #[.bool v0, .slice R1 x1.length s1, .slice R2 x2.length s2, .slice R3 x3.length s3] 26)) = w23 at *
 obtain ⟨gc, hec⟩ : ∃ g, g = w22.heap.size := ⟨_, rfl⟩
 rw [← hec] at hxc hlc ⊢
 have hgec : w22.heap.size ≤ gc := Nat.le_of_eq hec.symm
 clear hec
 refine (sameN _ v0 R1 x1.length s1 R2 x2.length s2 R3 x3.length s3 E1 z1 E2 z2 E3 z3 x1 x2 x3  hR hP hlx).mono ?_
 rintro e_ w24 ⟨rfl, hb24⟩
 have hs24 : w23.heap.size ≤ w24.heap.size := hb24.size
 replace hV := NR_below hV hb24
 replace hP := NR_below hP hb24
 replace hT := NR_below hT hb24
 replace hM := NR_below hM hb24
 replace hO := NR_below hO hb24
 replace hU := NR_below hU hb24
 replace hR := NR_below hR hb24
 replace hxn := blk_below hxn hb24
 replace hxi := blk_below hxi hb24
 replace hxa := blk_below hxa hb24
 replace hxb := blk_below hxb hb24
 replace hxt := blk_below hxt hb24
 replace hxo := blk_below hxo hb24
 replace hxm := blk_below hxm hb24
 replace hxc := blk_below hxc hb24
 replace HB := below_then HB (below_size HB) hb24
 clear hb24
 have cn0 : w24.cell? ⟨gn, 0, none⟩ = some (.bool b) := (blk_cell hxn 0).trans rfl
 have cn1 : w24.cell? ⟨gn, 1, none⟩ = some (.slice B1 cs.length c1) := (blk_cell hxn 1).trans rfl
 have cn2 : w24.cell? ⟨gn, 2, none⟩ = some (.slice B2 ks.length c2) := (blk_cell hxn 2).trans rfl
 have cn3 : w24.cell? ⟨gn, 3, none⟩ = some (.slice B3 kids.length c3) := (blk_cell hxn 3).trans rfl
 have ci0 : w24.cell? ⟨gi, 0, none⟩ = some (.bool b) := (blk_cell hxi 0).trans rfl
 have ci1 : w24.cell? ⟨gi, 1, none⟩ = some (.slice A1 cs.length q1) := (blk_cell hxi 1).trans rfl
 have ci2 : w24.cell? ⟨gi, 2, none⟩ = some (.slice A2 ks.length q2) := (blk_cell hxi 2).trans rfl
 have ci3 : w24.cell? ⟨gi, 3, none⟩ = some (.slice A3 kids.length q3) := (blk_cell hxi 3).trans rfl
 have ca0 : w24.cell? ⟨ga, 0, none⟩ = some (.bool v0) := (blk_cell hxa 0).trans rfl
 have ca1 : w24.cell? ⟨ga, 1, none⟩ = some (.slice E1 x1.length z1) := (blk_cell hxa 1).trans rfl
 have ca2 : w24.cell? ⟨ga, 2, none⟩ = some (.slice E2 x2.length z2) := (blk_cell hxa 2).trans rfl
 have ca3 : w24.cell? ⟨ga, 3, none⟩ = some (.slice E3 x3.length z3) := (blk_cell hxa 3).trans rfl
 have cb0 : w24.cell? ⟨gb, 0, none⟩ = some (.bool v0) := (blk_cell hxb 0).trans rfl
 have cb1 : w24.cell? ⟨gb, 1, none⟩ = some (.slice D1 x1.length d1) := (blk_cell hxb 1).trans rfl
 have cb2 : w24.cell? ⟨gb, 2, none⟩ = some (.slice D2 x2.length d2) := (blk_cell hxb 2).trans rfl
 have cb3 : w24.cell? ⟨gb, 3, none⟩ = some (.slice D3 x3.length d3) := (blk_cell hxb 3).trans rfl
 have ct0 : w24.cell? ⟨gt, 0, none⟩ = some (.bool b) := (blk_cell hxt 0).trans rfl
 have ct1 : w24.cell? ⟨gt, 1, none⟩ = some (.slice T1 cs.length u1) := (blk_cell hxt 1).trans rfl
 have ct2 : w24.cell? ⟨gt, 2, none⟩ = some (.slice T2 ks.length u2) := (blk_cell hxt 2).trans rfl
 have ct3 : w24.cell? ⟨gt, 3, none⟩ = some (.slice T3 kids.length u3) := (blk_cell hxt 3).trans rfl
 have co0 : w24.cell? ⟨go, 0, none⟩ = some (.bool v1) := (blk_cell hxo 0).trans rfl
 have co1 : w24.cell? ⟨go, 1, none⟩ = some (.slice M1 y1.length m1) := (blk_cell hxo 1).trans rfl
 have co2 : w24.cell? ⟨go, 2, none⟩ = some (.slice M2 y2.length m2) := (blk_cell hxo 2).trans rfl
 have co3 : w24.cell? ⟨go, 3, none⟩ = some (.slice M3 y3.length m3) := (blk_cell hxo 3).trans rfl
 have cm0 : w24.cell? ⟨gm, 0, none⟩ = some (.bool v1) := (blk_cell hxm 0).trans rfl
 have cm1 : w24.cell? ⟨gm, 1, none⟩ = some (.slice O1 y1.length o1) := (blk_cell hxm 1).trans rfl
 have cm2 : w24.cell? ⟨gm, 2, none⟩ = some (.slice O2 y2.length o2) := (blk_cell hxm 2).trans rfl
 have cm3 : w24.cell? ⟨gm, 3, none⟩ = some (.slice O3 y3.length o3) := (blk_cell hxm 3).trans rfl
 have cc0 : w24.cell? ⟨gc, 0, none⟩ = some (.bool v0) := (blk_cell hxc 0).trans rfl
 have cc1 : w24.cell? ⟨gc, 1, none⟩ = some (.slice R1 x1.length s1) := (blk_cell hxc 1).trans rfl
 have cc2 : w24.cell? ⟨gc, 2, none⟩ = some (.slice R2 x2.length s2) := (blk_cell hxc 2).trans rfl
 have cc3 : w24.cell? ⟨gc, 3, none⟩ = some (.slice R3 x3.length s3) := (blk_cell hxc 3).trans rfl
 go_wp2_with fail
 go_ret
 exact ⟨rfl, HB⟩
end Go.Proofs.Ytdjjpgdhnoibkaa.My
