/- node.Kid as the print asks it. -/
import Derived.Test.YtdjjpgdhnoibkaaNdEnc
namespace Go.Proofs.Ytdjjpgdhnoibkaa.My
open Go.RowKit Go.Proofs.YtdjjpgdhnoibkaaW.PrintWords Go.Proofs.YtdjjpgdhnoibkaaW.PrintLast Go.Proofs.YtdjjpgdhnoibkaaW.PrintMore Go.Proofs.Ytdjjpgdhnoibkaa Go.Proofs.Ytdjjpgdhnoibkaa.PZ
set_option linter.unusedSimpArgs false
set_option linter.unusedVariables false
set_option maxRecDepth 100000
set_option maxHeartbeats 1600000
attribute [local go_sem high] conv_rune str_leq str_gtr
def kidA (b : Bool) (cs : List Ce) (ks : List ByteArray) (kids : List Int) (key : ByteArray) : Int :=
  if b = true then -1 else if chkV b cs ks kids = 0 then kidV ks key else -1
def node_Kid.f (b : Bool) (cs : List S66) (ks : List ByteArray) (kids : List Int) (key : ByteArray) : Option Int := if ndB cs ks kids = true then some (kidA b cs ks kids key) else none
theorem node_Kid.calls (b : Bool) (A0_1 : Option Addr) (c0_1 : Nat) (cs : List S66) (A0_2 : Option Addr) (c0_2 : Nat) (ks : List ByteArray) (A0_3 : Option Addr) (c0_3 : Nat) (kids : List Int) (key : ByteArray) (r : Int) (w : World) (hr0_1 : Kd.C k66 w A0_1 cs.length cs) (hc0_1 : cs.length ≤ c0_1) (hr0_2 : Kd.C Kd.string w A0_2 ks.length ks) (hc0_2 : ks.length ≤ c0_2) (hr0_3 : Kd.C (Kd.int .u32) w A0_3 kids.length kids) (hc0_3 : kids.length ≤ c0_3) (h : node_Kid.f b cs ks kids key = some r) :
    Calls Try.prog 18 #[.agg #[.bool b, .slice A0_1 cs.length c0_1, .slice A0_2 ks.length c0_2, .slice A0_3 kids.length c0_3], .string key] w fun e w' => e = .returned (.int .i64 r) ∧ Below w.heap.size w w' := by
  unfold node_Kid.f at h
  split at h
  case isFalse => cases h
  rename_i hnd
  have h := Option.some.inj h
  obtain ⟨hn, hkid⟩ := ndB_ok hnd
  have hchk := ochk_f b cs ks kids hn (2 * (cs.length + ks.length) + kids.length + 60) (Nat.le_refl _)
  have hkl := hn.1.2.1
  have H := Aside0.mk h
  have HR := Aside0.mk hr0_2
  have HR1 := Aside0.mk hr0_1
  have HR3 := Aside0.mk hr0_3
  clear h hn hnd hkid hr0_1 hr0_2 hr0_3
  have HL := Aside0.mk (show ks.length ≤ 8800000000000 by omega)
  clear hkl
  generalize hC : chkV b cs ks kids = C at hchk
  have HC := Aside0.mk hC
  have HCK := Aside0.mk hchk
  clear hC hchk
  go_enter Try.func18, Try.ntmps18
  cases b with
  | true =>
    go_wp2_with fail
    go_ret
    have h9 := H.out
    unfold kidA at h9
    rw [if_pos rfl] at h9
    subst h9
    exact ⟨rfl, below_alloc (below_alloc (Below.refl _ _) _) _⟩
  | false =>
  go_wp2_with fail
  have hs1 : (w.alloc (.cells #[.bool false, .slice A0_1 cs.length c0_1, .slice A0_2 ks.length c0_2, .slice A0_3 kids.length c0_3] 26)).heap.size = w.heap.size + 1 := by show (w.heap.push _).size = _; rw [Array.size_push]
  have hN : NB ((w.alloc (.cells #[.bool false, .slice A0_1 cs.length c0_1, .slice A0_2 ks.length c0_2, .slice A0_3 kids.length c0_3] 26)).alloc (.cells #[.string key] 9)) w.heap.size (w.heap.size + 1) false A0_1 cs.length c0_1 A0_2 ks.length c0_2 A0_3 kids.length c0_3 key := by
    refine ⟨blk_below (blk_new w _) ((Below.refl _ _).alloc (Nat.le_refl _) _), ?_⟩
    rw [← hs1]
    exact blk_new _ _
  have hb0 : Below w.heap.size w ((w.alloc (.cells #[.bool false, .slice A0_1 cs.length c0_1, .slice A0_2 ks.length c0_2, .slice A0_3 kids.length c0_3] 26)).alloc (.cells #[.string key] 9)) := ((Below.refl w.heap.size w).alloc (Nat.le_refl _) _).alloc (by omega) _
  generalize (w.alloc (.cells #[.bool false, .slice A0_1 cs.length c0_1, .slice A0_2 ks.length c0_2, .slice A0_3 kids.length c0_3] 26)).alloc (.cells #[.string key] 9) = wn at *
  generalize w.heap.size + 1 = gh at hN ⊢
  clear hs1
  generalize hgn : w.heap.size = gn at hN ⊢
  have HG := Aside0.mk hgn
  clear hgn
  have HB := Aside0.mk hb0
  have HNB := Aside0.mk hN
  have c0 : wn.cell? ⟨gn, 0, none⟩ = some (.bool false) := (blk_cell hN.1 0).trans rfl
  have c1 : wn.cell? ⟨gn, 1, none⟩ = some (.slice A0_1 cs.length c0_1) := (blk_cell hN.1 1).trans rfl
  have c2 : wn.cell? ⟨gn, 2, none⟩ = some (.slice A0_2 ks.length c0_2) := (blk_cell hN.1 2).trans rfl
  have c3 : wn.cell? ⟨gn, 3, none⟩ = some (.slice A0_3 kids.length c0_3) := (blk_cell hN.1 3).trans rfl
  clear hb0 hN
  refine (node_Check.calls _ false A0_1 c0_1 cs A0_2 c0_2 ks A0_3 c0_3 kids C wn (Kd.C_below HR1.out HB.out) hc0_1 (Kd.C_below HR.out HB.out) hc0_2 (Kd.C_below HR3.out HB.out) hc0_3 HCK.out).mono ?_
  rintro e_ w2 ⟨rfl, hb2⟩
  clear c0 c1 c2 c3
  have HNB2 := Aside0.mk (HNB.out.below hb2)
  have HB2 := Aside0.mk (below_then HB.out (below_size HB.out) hb2)
  clear hb2 HB HNB
  have c2 : w2.cell? ⟨gn, 2, none⟩ = some (.slice A0_2 ks.length c0_2) := (blk_cell HNB2.out.1 2).trans rfl
  have h9 := H.out
  unfold kidA at h9
  rw [if_neg (show ¬ (false = true) by decide), HC.out] at h9
  by_cases hC0 : C = 0
  · rw [if_pos hC0] at h9
    have h8 := Aside0.mk h9
    clear h9 HC H HCK
    subst hC0
    go_wp2_with fail
    refine (searchK w2 gn gh false A0_1 cs.length c0_1 A0_2 ks c0_2 A0_3 kids.length c0_3 key HNB2.out (Kd.C_below HR.out HB2.out) HL.out).mono ?_
    rintro e_ w3 ⟨rfl, hb3⟩
    have HB3 := Aside0.mk (below_then HB2.out (below_size HB2.out) hb3)
    clear hb3
    go_wp2_with fail
    go_ret
    rw [← h8.out]
    exact ⟨rfl, HB3.out⟩
  · rw [if_neg hC0] at h9
    subst h9
    have d1 : (C != 0) = true := by simpa using hC0
    have HH := Aside0.mk hC0
    clear hC0
    go_wp2_with fail
    go_ret
    exact ⟨rfl, HB2.out⟩
end Go.Proofs.Ytdjjpgdhnoibkaa.My
