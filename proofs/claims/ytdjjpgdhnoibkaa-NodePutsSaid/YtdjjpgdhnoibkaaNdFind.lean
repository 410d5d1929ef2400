/- node.find and node.Kid as the print asks them. -/
import Derived.Test.YtdjjpgdhnoibkaaNdSrch
import Derived.Test.YtdjjpgdhnoibkaaPZx5
namespace Go.Proofs.Ytdjjpgdhnoibkaa.My
open Go.RowKit Go.Proofs.YtdjjpgdhnoibkaaW.PrintWords Go.Proofs.YtdjjpgdhnoibkaaW.PrintLast Go.Proofs.YtdjjpgdhnoibkaaW.PrintMore Go.Proofs.Ytdjjpgdhnoibkaa Go.Proofs.Ytdjjpgdhnoibkaa.PZ
set_option linter.unusedSimpArgs false
set_option linter.unusedVariables false
set_option maxRecDepth 100000
set_option maxHeartbeats 1600000
attribute [local go_sem high] conv_rune str_leq str_gtr
def findV (l : List Ce) (s : ByteArray) : Int × Bool := ((srch (pF l s) l.length 0 l.length : Nat), decide (srch (pF l s) l.length 0 l.length < l.length) && ((rd_T66 l (srch (pF l s) l.length 0 l.length : Nat)).f0.toList == s.toList))
def node_find.f (a0_0 : Bool) (l0_1 : List S66) (l0_2 : List ByteArray) (l0_3 : List Int) (a1 : ByteArray) : Option (Int × Bool) := if l0_1.length ≤ 8800000000000 then some (findV l0_1 a1) else none
theorem node_find.calls (a0_0 : Bool) (A0_1 : Option Addr) (c0_1 : Nat) (l0_1 : List S66) (A0_2 : Option Addr) (c0_2 : Nat) (l0_2 : List ByteArray) (A0_3 : Option Addr) (c0_3 : Nat) (l0_3 : List Int) (a1 : ByteArray) (r1 : Int) (r2 : Bool) (w : World) (hr0_1 : Kd.C k66 w A0_1 l0_1.length l0_1) (hc0_1 : l0_1.length ≤ c0_1) (hr0_2 : Kd.C Kd.string w A0_2 l0_2.length l0_2) (hc0_2 : l0_2.length ≤ c0_2) (hr0_3 : Kd.C (Kd.int .u32) w A0_3 l0_3.length l0_3) (hc0_3 : l0_3.length ≤ c0_3) (h : node_find.f a0_0 l0_1 l0_2 l0_3 a1 = some (r1, r2)) :
    Calls Try.prog 64 #[.agg #[.bool a0_0, .slice A0_1 l0_1.length c0_1, .slice A0_2 l0_2.length c0_2, .slice A0_3 l0_3.length c0_3], .string a1] w fun e w' => e = .returned (.tuple #[.int .i64 r1, .bool r2]) ∧ Below w.heap.size w w' := by
  unfold node_find.f at h
  split at h
  case isFalse => cases h
  rename_i hlen
  have h := Option.some.inj h
  clear hr0_2 hr0_3 hc0_2 hc0_3
  have HR := Aside0.mk hr0_1
  clear hr0_1
  go_enter Try.func64, Try.ntmps64
  go_wp2_with fail
  have hs1 : (w.alloc (.cells #[.bool a0_0, .slice A0_1 l0_1.length c0_1, .slice A0_2 l0_2.length c0_2, .slice A0_3 l0_3.length c0_3] 26)).heap.size = w.heap.size + 1 := by show (w.heap.push _).size = _; rw [Array.size_push]
  have hN : NB ((w.alloc (.cells #[.bool a0_0, .slice A0_1 l0_1.length c0_1, .slice A0_2 l0_2.length c0_2, .slice A0_3 l0_3.length c0_3] 26)).alloc (.cells #[.string a1] 9)) w.heap.size (w.heap.size + 1) a0_0 A0_1 l0_1.length c0_1 A0_2 l0_2.length c0_2 A0_3 l0_3.length c0_3 a1 := by
    refine ⟨blk_below (blk_new w _) ((Below.refl _ _).alloc (Nat.le_refl _) _), ?_⟩
    rw [← hs1]
    exact blk_new _ _
  have hb0 : Below w.heap.size w ((w.alloc (.cells #[.bool a0_0, .slice A0_1 l0_1.length c0_1, .slice A0_2 l0_2.length c0_2, .slice A0_3 l0_3.length c0_3] 26)).alloc (.cells #[.string a1] 9)) := ((Below.refl w.heap.size w).alloc (Nat.le_refl _) _).alloc (by omega) _
  generalize (w.alloc (.cells #[.bool a0_0, .slice A0_1 l0_1.length c0_1, .slice A0_2 l0_2.length c0_2, .slice A0_3 l0_3.length c0_3] 26)).alloc (.cells #[.string a1] 9) = wn at *
  generalize w.heap.size + 1 = gh at hN ⊢
  clear hs1
  refine (searchF wn w.heap.size gh a0_0 A0_1 l0_1 c0_1 A0_2 l0_2.length c0_2 A0_3 l0_3.length c0_3 a1 hN (Kd.C_below HR.out hb0) hlen).mono ?_
  rintro e_ w2 ⟨rfl, hb2⟩
  have hN2 := hN.below hb2
  have hHR := Kd.C_below (Kd.C_below HR.out hb0) hb2
  have HB := Aside0.mk (below_then hb0 (below_size hb0) hb2)
  clear hb2 hb0 hN HR
  unfold findV at h
  generalize hR : srch (pF l0_1 a1) l0_1.length 0 l0_1.length = R at h ⊢
  clear hR
  obtain ⟨h1, h2⟩ := Prod.mk.inj h
  subst h1 h2
  clear h
  have c1 : w2.cell? ⟨w.heap.size, 1, none⟩ = some (.slice A0_1 l0_1.length c0_1) := (blk_cell hN2.1 1).trans rfl
  have c2 : w2.cell? ⟨gh, 0, none⟩ = some (.string a1) := (blk_cell hN2.2 0).trans rfl
  clear hN2
  generalize w.heap.size = gn at c1 ⊢
  by_cases hRl : R < l0_1.length
  · have d1 : decide ((R : Int) < (l0_1.length : Int)) = true := decide_eq_true (by omega)
    have m0 : (0 : Int) ≤ (R : Int) := by omega
    have m1 : (R : Int) < (l0_1.length : Int) := by omega
    obtain ⟨ad, rfl, hx0, hx1⟩ := at_T66 hHR (R : Int) m0 m1
    simp only [Int.toNat_natCast] at hx0 hx1
    generalize hx : rd_T66 l0_1 (R : Int) = x at hx0 hx1
    have HX := Aside0.mk hx
    clear hx
    clear hHR
    have HL := Aside0.mk hRl
    clear hRl
    go_wp2_with fail
    repeat (go_quiet (fail); try go_wp2_with fail)
    go_ret2
    rw [decide_eq_true HL.out, Bool.true_and, HX.out]
    exact ⟨rfl, below_then HB.out (below_size HB.out) (pw_below_drewN (Below.refl _ _) _)⟩
  · have d2 : decide (R < l0_1.length) = false := decide_eq_false hRl
    have HL := Aside0.mk hRl
    clear hRl
    go_wp2_with fail
    go_quiet (fail)
    go_wp2_with fail
    go_ret2
    rw [d2, Bool.false_and]
    exact ⟨rfl, below_then HB.out (below_size HB.out) (pw_below_drewN (Below.refl _ _) _)⟩
end Go.Proofs.Ytdjjpgdhnoibkaa.My
