/- node.Grow and node.Shrink, as the print asks of a function that is told. -/
import Derived.Test.YtdjjpgdhnoibkaaNdPut
import Derived.Test.YtdjjpgdhnoibkaaNdSrt
import Derived.Test.YtdjjpgdhnoibkaaPZx2
import Derived.Test.YtdjjpgdhnoibkaaPZx3
import Derived.Test.YtdjjpgdhnoibkaaNdCat
import Derived.Test.YtdjjpgdhnoibkaaPDy6
namespace Go.Proofs.Ytdjjpgdhnoibkaa.My
open Go.RowKit Go.Proofs.YtdjjpgdhnoibkaaW.PrintWords Go.Proofs.YtdjjpgdhnoibkaaW.PrintLast Go.Proofs.YtdjjpgdhnoibkaaW.PrintMore Go.Proofs.Ytdjjpgdhnoibkaa Go.Proofs.Ytdjjpgdhnoibkaa.PZ
set_option linter.unusedSimpArgs false
set_option linter.unusedVariables false
set_option maxRecDepth 100000
set_option maxHeartbeats 3200000
attribute [local go_sem high] conv_rune str_leq str_gtr
theorem ret_all {w2 : World} {g : Nat} {u0 u1 u2 u3 : Value} (h : w2.heap[g]? = some (.cells #[u0, u1, u2, u3] 26 (0, 0))) (v0 v1 v2 v3 : Value) :
    ((((w2.setCell ⟨g, 0, none⟩ v0).setCell ⟨g, 1, none⟩ v1).setCell ⟨g, 2, none⟩ v2).setCell ⟨g, 3, none⟩ v3).heap[g]? = some (.cells #[v0, v1, v2, v3] 26 (0, 0)) := by
  refine blk_put (cs := #[v0, v1, v2, u3]) ?_ 3 _ rfl
  refine blk_put (cs := #[v0, v1, u2, u3]) ?_ 2 _ rfl
  refine blk_put (cs := #[v0, u1, u2, u3]) ?_ 1 _ rfl
  exact blk_put (cs := #[u0, u1, u2, u3]) h 0 _ rfl
theorem R_ret {α : Type} {d : Kd α} {e g : Nat} {w : World} {base : Nat} {ok : Nat → Prop} {v : Value} {xs : List α} (h : d.R e w base ok v xs) {cells : Array Value} (hb : w.heap[g]? = some (.cells cells 26 (0, 0))) (ht : ∀ q, q ∈ e :: d.E → q ≠ 26) (v0 v1 v2 v3 : Value) :
    d.R e ((((w.setCell ⟨g, 0, none⟩ v0).setCell ⟨g, 1, none⟩ v1).setCell ⟨g, 2, none⟩ v2).setCell ⟨g, 3, none⟩ v3) base ok v xs :=
  Kd.R_mono (Kd.R_far (p := ⟨g, 3, none⟩) (Kd.R_far (p := ⟨g, 2, none⟩) (Kd.R_far (p := ⟨g, 1, none⟩) (Kd.R_far (p := ⟨g, 0, none⟩) (Kd.R_types h hb ht) (fun _ hk => hk.2) v0) (fun _ hk => hk.2) v1) (fun _ hk => hk.2) v2) (fun _ hk => hk.2) v3) (fun _ hk => hk.1)
end Go.Proofs.Ytdjjpgdhnoibkaa.My
namespace Go.Proofs.Ytdjjpgdhnoibkaa.My
open Go.RowKit Go.Proofs.YtdjjpgdhnoibkaaW.PrintWords Go.Proofs.YtdjjpgdhnoibkaaW.PrintLast Go.Proofs.YtdjjpgdhnoibkaaW.PrintMore Go.Proofs.Ytdjjpgdhnoibkaa Go.Proofs.Ytdjjpgdhnoibkaa.PZ
set_option linter.unusedSimpArgs false
set_option linter.unusedVariables false
theorem C_lit {α : Type} {d : Kd α} {e T g : Nat} {w : World} (rows : List (Option Addr × Nat × List α)) (hm : rows.length ≤ 1000000) (hb : w.heap[g]? = some (.cells (rows.map (fun r => Value.slice r.1 r.2.2.length r.2.1)).toArray T (0, 0))) (hC : ∀ r ∈ rows, r.2.2.length ≤ r.2.1 ∧ d.C w r.1 r.2.2.length r.2.2) : Kd.C (Kd.slice e d) w (some ⟨g, 0, none⟩) rows.length (rows.map (fun r => r.2.2)) := by
  refine ⟨by rw [List.length_map], by omega, fun hp => ⟨_, rfl, fun j x hj => ?_⟩⟩
  rw [List.getElem?_map] at hj
  obtain ⟨r, hr, rfl⟩ := Option.map_eq_some_iff.1 hj
  have hmem := List.mem_of_getElem? hr
  refine ⟨[.slice r.1 r.2.2.length r.2.1], rfl, ⟨r.1, r.2.1, rfl, (hC r hmem).1, (hC r hmem).2⟩, fun i u hu => ?_⟩
  have hi : i = 0 := by
    rcases Nat.eq_zero_or_pos i with h | h
    · exact h
    · rw [List.getElem?_eq_none (by simp only [List.length_cons, List.length_nil]; omega)] at hu
      cases hu
  subst hi
  obtain rfl := Option.some.inj hu
  have h0 := blk_cell hb j
  have ha : (⟨g, 0, none⟩ : Addr).add (j * (Kd.slice e d).sz + 0) = ⟨g, j, none⟩ := by
    show (⟨g, 0, none⟩ : Addr).add (j * 1 + 0) = _
    rw [Nat.mul_one, Nat.add_zero]
    unfold Addr.add
    by_cases h : j = 0
    · subst h; rfl
    · rw [if_neg h, Nat.zero_add]
  rw [ha, h0]
  simp [hr]
end Go.Proofs.Ytdjjpgdhnoibkaa.My
namespace Go.Proofs.Ytdjjpgdhnoibkaa.My
open Go.RowKit Go.Proofs.YtdjjpgdhnoibkaaW.PrintWords Go.Proofs.YtdjjpgdhnoibkaaW.PrintLast Go.Proofs.YtdjjpgdhnoibkaaW.PrintMore Go.Proofs.Ytdjjpgdhnoibkaa Go.Proofs.Ytdjjpgdhnoibkaa.PZ Go.Proofs.Ytdjjpgdhnoibkaa.PD
set_option linter.unusedSimpArgs false
set_option linter.unusedVariables false
set_option maxRecDepth 100000
set_option maxHeartbeats 3200000
attribute [local go_sem high] conv_rune str_leq str_gtr
theorem all2 {α : Type} {P : α → Prop} {x y : α} (hx : P x) (hy : P y) : ∀ r ∈ [x, y], P r := by
 intro r hr
 rcases List.mem_cons.1 hr with rfl | hr
 ·exact hx
 ·obtain rfl := List.mem_singleton.1 hr
  exact hy
def brV (b : Bool) (cs : List Ce) (ks : List ByteArray) (kids : List Int) : Int := if chkV b cs ks kids = 0 ∧ b = true then 80 else chkV b cs ks kids
theorem branch_f (b : Bool) (cs : List Ce) (ks : List ByteArray) (kids : List Int) (hn : NdOk cs ks kids) (k : Nat) (hk : 2 * (cs.length + ks.length) + kids.length + 60 ≤ k) : node_branch.f k b cs ks kids = some (brV b cs ks kids) := by
 unfold node_branch.f brV
 rw [ochk_f b cs ks kids hn k hk, Option.bind_some]
 by_cases h : chkV b cs ks kids = 0
 ·rw [if_pos h]
  cases b with
  | true => rw [if_pos rfl, if_pos ⟨h, rfl⟩]
  | false => rw [if_neg (by decide), if_neg (by rintro ⟨_, h⟩; cases h)]
 ·rw [if_neg h, if_neg (fun h1 => h h1.1)]
theorem brV_zero {b : Bool} {cs : List Ce} {ks : List ByteArray} {kids : List Int} (h : brV b cs ks kids = 0) : b = false ∧ chkV b cs ks kids = 0 := by
 unfold brV at h
 by_cases hc : chkV b cs ks kids = 0 ∧ b = true
 ·rw [if_pos hc] at h
  cases h
 ·rw [if_neg hc] at h
  cases b with
  | true => exact absurd ⟨h, rfl⟩ hc
  | false => exact ⟨rfl, h⟩
def shrinkV (b : Bool) (cs : List Ce) (ks : List ByteArray) (kids : List Int) (i : Int) : Bool × List Ce × List ByteArray × List Int × Int :=
 if brV b cs ks kids = 0 then (if i < 0 ∨ (ks.length : Int) ≤ i then (false, [], [], [], 1) else (false, [], ks.take i.toNat ++ ks.drop (i.toNat + 1), kids.take (i.toNat + 1) ++ kids.drop (i.toNat + 2), 0)) else (false, [], [], [], brV b cs ks kids)
abbrev mS0 : Array Bool := #[false,false,false,false,false,false,false,false,false,false,false,false,false,false,false,false,false,false,false,false,false,false,false,false,false,false]
abbrev mS1 : Array Bool := #[true,false,false,false,false,false,false,false,false,false,false,false,false,false,false,false,false,false,false,false,false,false,false,false,false,false]
abbrev mS2 : Array Bool := #[true,true,false,false,false,false,false,false,false,false,false,false,false,false,false,false,false,false,false,false,false,false,false,false,false,false]
abbrev mS3 : Array Bool := #[true,true,true,false,false,false,false,false,false,false,false,false,false,false,false,false,false,false,false,false,false,false,false,false,false,false]
abbrev mS4 : Array Bool := #[true,true,true,true,false,false,false,false,false,false,false,false,false,false,false,false,false,false,false,false,false,false,false,false,false,false]
abbrev mS5 : Array Bool := #[true,true,true,true,true,false,false,false,false,false,false,false,false,false,false,false,false,false,false,false,false,false,false,false,false,false]
abbrev mS6 : Array Bool := #[true,true,true,true,true,true,false,false,false,false,false,false,false,false,false,false,false,false,false,false,false,false,false,false,false,false]
abbrev mS7 : Array Bool := #[true,true,true,true,true,true,true,false,false,false,false,false,false,false,false,false,false,false,false,false,false,false,false,false,false,false]
abbrev mS8 : Array Bool := #[true,true,true,true,true,true,true,true,false,false,false,false,false,false,false,false,false,false,false,false,false,false,false,false,false,false]
abbrev mS9 : Array Bool := #[true,true,true,true,true,true,true,true,true,false,false,false,false,false,false,false,false,false,false,false,false,false,false,false,false,false]
abbrev mS10 : Array Bool := #[true,true,true,true,true,true,true,true,true,false,false,true,false,false,false,false,false,false,false,false,false,false,false,false,false,false]
abbrev mS11 : Array Bool := #[true,true,true,true,true,true,true,true,true,false,false,true,true,false,false,false,false,false,false,false,false,false,false,false,false,false]
abbrev mS12 : Array Bool := #[true,true,true,true,true,true,true,true,true,false,false,true,true,true,false,false,false,false,false,false,false,false,false,false,false,false]
abbrev mS13 : Array Bool := #[true,true,true,true,true,true,true,true,true,false,false,true,true,true,true,false,false,false,false,false,false,false,false,false,false,false]
abbrev mS14 : Array Bool := #[true,true,true,true,true,true,true,true,true,false,false,true,true,true,true,true,false,false,false,false,false,false,false,false,false,false]
abbrev mS15 : Array Bool := #[true,true,true,true,true,true,true,true,true,false,false,true,true,true,true,true,true,false,false,false,false,false,false,false,false,false]
abbrev mS16 : Array Bool := #[true,true,true,true,true,true,true,true,true,false,false,true,true,true,true,true,true,true,false,false,false,false,false,false,false,false]
abbrev mS17 : Array Bool := #[true,true,true,true,true,true,true,true,true,false,false,true,true,true,true,true,true,true,true,false,false,false,false,false,false,false]
abbrev mS18 : Array Bool := #[true,true,true,true,true,true,true,true,true,false,false,true,true,true,true,true,true,true,true,true,false,false,false,false,false,false]
abbrev mS19 : Array Bool := #[true,true,true,true,true,true,true,true,true,false,false,true,true,true,true,true,true,true,true,true,true,false,false,false,false,false]
abbrev mS20 : Array Bool := #[true,true,true,true,true,true,true,true,true,true,false,true,true,true,true,true,true,true,true,true,true,false,false,false,false,false]
abbrev mS21 : Array Bool := #[true,true,true,true,true,true,true,true,true,false,false,true,true,true,true,true,true,true,true,true,true,true,false,false,false,false]
abbrev mS22 : Array Bool := #[true,true,true,true,true,true,true,true,true,true,true,true,true,true,true,true,true,true,true,true,true,false,false,false,false,false]
abbrev mS23 : Array Bool := #[true,true,true,true,true,true,true,true,true,true,false,true,true,true,true,true,true,true,true,true,true,true,false,false,false,false]
abbrev mS24 : Array Bool := #[true,true,true,true,true,true,true,true,true,true,true,true,true,true,true,true,true,true,true,true,true,true,false,false,false,false]
abbrev mS25 : Array Bool := #[true,true,true,true,true,true,true,true,true,true,true,true,true,true,true,true,true,true,true,true,true,true,true,false,false,false]
abbrev mS26 : Array Bool := #[true,true,true,true,true,true,true,true,true,true,true,true,true,true,true,true,true,true,true,true,true,true,true,true,false,false]
abbrev mS27 : Array Bool := #[true,true,true,true,true,true,true,true,true,true,true,true,true,true,true,true,true,true,true,true,true,true,true,true,true,false]
abbrev mS28 : Array Bool := #[true,true,true,true,true,true,true,true,true,true,true,true,true,true,true,true,true,true,true,true,true,true,true,true,true,true]
theorem shrink_calls (W : World) (b : Bool) (B1 : Option Addr) (c1 : Nat) (cs : List Ce) (B2 : Option Addr) (c2 : Nat) (ks : List ByteArray) (B3 : Option Addr) (c3 : Nat) (kids : List Int) (i : Int) (hc1 : cs.length ≤ c1) (hc2 : ks.length ≤ c2) (hc3 : kids.length ≤ c3) (h1 : Kd.C k66 W B1 cs.length cs) (h2 : Kd.C Kd.string W B2 ks.length ks) (h3 : Kd.C (Kd.int .u32) W B3 kids.length kids) (hn : NdOk cs ks kids) (r1 : Bool) (r2 : List Ce) (r3 : List ByteArray) (r4 : List Int) (r5 : Int) (h : shrinkV b cs ks kids i = (r1, r2, r3, r4, r5)) :
  Calls Try.prog 42 #[.agg #[.bool b, .slice B1 cs.length c1, .slice B2 ks.length c2, .slice B3 kids.length c3], .int .i64 i] W fun e w' => ∃ v1_ v2_ v3_ : Value, e = .returned (.tuple #[.agg #[.bool r1, v1_, v2_, v3_], .int .i64 r5]) ∧ Kd.R k66 66 w' W.heap.size (fun _ => True) v1_ r2 ∧ Kd.R Kd.string 9 w' W.heap.size (fun _ => True) v2_ r3 ∧ Kd.R (Kd.int .u32) 45 w' W.heap.size (fun _ => True) v3_ r4 ∧ Below W.heap.size W w' := by
 have hbr := branch_f b cs ks kids hn (2 * (cs.length + ks.length) + kids.length + 60) (Nat.le_refl _)
 generalize hC : brV b cs ks kids = C at hbr
 have H := Aside0.mk h
 have HN := Aside0.mk hn
 clear h hn
 go_enter Try.func42, Try.ntmps42
 go_wp2_with fail
 have hbx : (W.alloc (.cells #[.bool b, .slice B1 cs.length c1, .slice B2 ks.length c2, .slice B3 kids.length c3] 26)).heap[W.heap.size]? = some (.cells #[.bool b, .slice B1 cs.length c1, .slice B2 ks.length c2, .slice B3 kids.length c3] 26 (0, 0)) := blk_new W _
 have hb0 : Below W.heap.size W (W.alloc (.cells #[.bool b, .slice B1 cs.length c1, .slice B2 ks.length c2, .slice B3 kids.length c3] 26)) := (Below.refl _ _).alloc (Nat.le_refl _) _
 have hs1 : (W.alloc (.cells #[.bool b, .slice B1 cs.length c1, .slice B2 ks.length c2, .slice B3 kids.length c3] 26)).heap.size = W.heap.size + 1 := by show (W.heap.push _).size = _; rw [Array.size_push]
 generalize W.alloc (.cells #[.bool b, .slice B1 cs.length c1, .slice B2 ks.length c2, .slice B3 kids.length c3] 26) = wa at *
 have hbo : (wa.alloc (.cells #[.bool false, .slice none 0 0, .slice none 0 0, .slice none 0 0] 26)).heap[wa.heap.size]? = some (.cells #[.bool false, .slice none 0 0, .slice none 0 0, .slice none 0 0] 26 (0, 0)) := blk_new wa _
 have hb1 : Below wa.heap.size wa (wa.alloc (.cells #[.bool false, .slice none 0 0, .slice none 0 0, .slice none 0 0] 26)) := (Below.refl _ _).alloc (Nat.le_refl _) _
 rw [hs1] at hbo
 replace hbx := blk_below hbx hb1
 replace hb0 := below_then hb0 (below_size hb0) hb1
 clear hb1 hs1
 generalize wa.alloc (.cells #[.bool false, .slice none 0 0, .slice none 0 0, .slice none 0 0] 26) = w1 at *
 obtain ⟨go, hgo⟩ : ∃ g, g = W.heap.size + 1 := ⟨_, rfl⟩
 obtain ⟨gn, hgn⟩ : ∃ g, g = W.heap.size := ⟨_, rfl⟩
 rw [← hgo] at hbo ⊢
 rw [← hgn] at hbx ⊢
 have HG2 := Aside0.mk (show W.heap.size ≤ go by omega)
 have HNE := Aside0.mk (show gn ≠ go by omega)
 clear hgo hgn
 have H2 := Aside0.mk h2
 have H3 := Aside0.mk h3
 refine (node_branch.calls _ b B1 c1 cs B2 c2 ks B3 c3 kids C w1 (Kd.C_below h1 hb0) hc1 (Kd.C_below h2 hb0) hc2 (Kd.C_below h3 hb0) hc3 hbr).mono ?_
 rintro e_ w2 ⟨rfl, hb2⟩
 clear h1 h2 h3 hbr
 have HX := Aside0.mk (And.intro (blk_below hbx hb2) (blk_below hbo hb2))
 have HB := Aside0.mk (below_then hb0 (below_size hb0) hb2)
 clear hbx hbo hb0 hb2
 have k0 : w2.cell? ⟨gn, 0, none⟩ = some (.bool b) := (blk_cell HX.out.1 0).trans rfl
 have k1 : w2.cell? ⟨gn, 1, none⟩ = some (.slice B1 cs.length c1) := (blk_cell HX.out.1 1).trans rfl
 have k2 : w2.cell? ⟨gn, 2, none⟩ = some (.slice B2 ks.length c2) := (blk_cell HX.out.1 2).trans rfl
 have k3 : w2.cell? ⟨gn, 3, none⟩ = some (.slice B3 kids.length c3) := (blk_cell HX.out.1 3).trans rfl
 have o0 : w2.cell? ⟨go, 0, none⟩ = some (.bool false) := (blk_cell HX.out.2 0).trans rfl
 have o1 : w2.cell? ⟨go, 1, none⟩ = some (.slice none 0 0) := (blk_cell HX.out.2 1).trans rfl
 have o2 : w2.cell? ⟨go, 2, none⟩ = some (.slice none 0 0) := (blk_cell HX.out.2 2).trans rfl
 have o3 : w2.cell? ⟨go, 3, none⟩ = some (.slice none 0 0) := (blk_cell HX.out.2 3).trans rfl
 have f0 := blk_frozen HX.out.2 0
 have f1 := blk_frozen HX.out.2 1
 have f2 := blk_frozen HX.out.2 2
 have f3 := blk_frozen HX.out.2 3
 have hv := H.out
 unfold shrinkV at hv
 rw [hC] at hv
 by_cases hC0 : C = 0
 ·subst hC0
  obtain ⟨rfl, hck⟩ := brV_zero hC
  rw [if_pos rfl] at hv
  have hkl : kids.length = ks.length + 1 ∧ ks.length ≤ 2000 := by
   have f1 := (chk_facts hck).1
   have f5 := (chk_facts hck).2.2.2.2
   have f6 := ks_len ks
   unfold shpV at f1
   unfold lngV at f5
   rw [if_neg (by decide)] at f1 f5
   rw [Bool.and_eq_true, Bool.and_eq_true, decide_eq_true_eq] at f1
   omega
  have HKL := Aside0.mk hkl
  clear hkl hC hck
  by_cases hi0 : i < 0
  ·have d1 : decide (i < 0) = true := decide_eq_true hi0
   rw [if_pos (Or.inl hi0)] at hv
   have hp := hv.symm
   clear hv
   injection hp with e1 hp
   injection hp with e2 hp
   injection hp with e3 hp
   injection hp with e4 e5
   subst e1 e2 e3 e4 e5
   go_wp2_with fail
   (try simp only [Exit.inBlock, Exit.then]); refine bodyPost_ret (results_ct rfl _ _ go 26 _ (0, 0) _ rfl (ret_all HX.out.2 _ _ _ _) Try.underlying26 rfl (by kernel_rfl)) rfl ?_
   exact ⟨_, _, _, rfl, Kd.R_nil _ _ _ _ _, Kd.R_nil _ _ _ _ _, Kd.R_nil _ _ _ _ _, below_set (below_set (below_set (below_set HB.out HG2.out) HG2.out) HG2.out) HG2.out⟩
  ·have d1 : decide (i < 0) = false := decide_eq_false hi0
   by_cases hi1 : (ks.length : Int) ≤ i
   ·have d2 : decide (i ≥ (ks.length : Int)) = true := decide_eq_true hi1
    rw [if_pos (Or.inr hi1)] at hv
    have hp := hv.symm
    clear hv
    injection hp with e1 hp
    injection hp with e2 hp
    injection hp with e3 hp
    injection hp with e4 e5
    subst e1 e2 e3 e4 e5
    go_wp2_with fail
    (try simp only [Exit.inBlock, Exit.then]); refine bodyPost_ret (results_ct rfl _ _ go 26 _ (0, 0) _ rfl (ret_all HX.out.2 _ _ _ _) Try.underlying26 rfl (by kernel_rfl)) rfl ?_
    exact ⟨_, _, _, rfl, Kd.R_nil _ _ _ _ _, Kd.R_nil _ _ _ _ _, Kd.R_nil _ _ _ _ _, below_set (below_set (below_set (below_set HB.out HG2.out) HG2.out) HG2.out) HG2.out⟩
   ·have d2 : decide (i ≥ (ks.length : Int)) = false := decide_eq_false hi1
    rw [if_neg (by omega)] at hv
    obtain ⟨p, rfl⟩ : ∃ p : Nat, i = (p : Int) := ⟨i.toNat, by omega⟩
    rw [Int.toNat_natCast] at hv
    have hp := hv.symm
    clear hv
    injection hp with e1 hp
    injection hp with e2 hp
    injection hp with e3 hp
    injection hp with e4 e5
    subst e1 e2 e3 e4 e5
    have hpl : p < ks.length := by omega
    have HP := Aside0.mk hpl
    clear hi1
    go_wp2_with fail
    clear k0 k1 k2 k3 o0 o1 o2 o3 f0 f1 f2 f3 d1 d2 hi0
    obtain ⟨p1, hp1⟩ : ∃ q, q = p + 1 := ⟨_, rfl⟩
    obtain ⟨p2, hp2⟩ : ∃ q, q = p + 2 := ⟨_, rfl⟩
    have ca := cut_to (P := Try.prog) 23 9 .i64 Try.underlying23 (Option.some_get cis0).symm B2 ks.length c2 (p : Int) (by omega) (by omega) hc2
    have cb := cut_from (P := Try.prog) 23 9 .i64 Try.underlying23 (Option.some_get cis0).symm 1 (by kernel_rfl) B2 ks.length c2 (p1 : Int) (by omega) (by omega)
    have cc := cut_to (P := Try.prog) 24 45 .i64 Try.underlying24 (Option.some_get ciu0).symm B3 kids.length c3 (p1 : Int) (by omega) (by have := HKL.out; omega) hc3
    have cd := cut_from (P := Try.prog) 24 45 .i64 Try.underlying24 (Option.some_get ciu0).symm 1 (by kernel_rfl) B3 kids.length c3 (p2 : Int) (by omega) (by have := HKL.out; omega)
    rw [Int.toNat_natCast] at ca cb cc cd
    have R1 := Kd.C_take (m := p) H2.out (by omega)
    have R2 := Kd.C_drop (c := c2) (m := p1) H2.out (by omega) hc2
    have R3 := Kd.C_take (m := p1) H3.out (by have := HKL.out; omega)
    have R4 := Kd.C_drop (c := c3) (m := p2) H3.out (by have := HKL.out; omega) hc3
    change Kd.C Kd.string W (if c2 = p1 then B2 else B2.map (·.add (p1 * 1))) _ _ at R2
    change Kd.C (Kd.int .u32) W (if c3 = p2 then B3 else B3.map (·.add (p2 * 1))) _ _ at R4
    generalize (if c2 = p1 then B2 else B2.map (·.add (p1 * 1))) = B2d at cb R2
    generalize (if c3 = p2 then B3 else B3.map (·.add (p2 * 1))) = B3d at cd R4
    have q1 : (ks.take p).length = p := by rw [List.length_take]; omega
    have q2 : (ks.drop p1).length = ks.length - p1 := List.length_drop
    have q3 : (kids.take p1).length = p1 := by rw [List.length_take]; have := HKL.out; omega
    have q4 : (kids.drop p2).length = kids.length - p2 := List.length_drop
    replace ca := fun W_ => (ca W_).trans (show _ = Result.ok (Value.slice B2 (ks.take p).length c2) W_ by rw [q1])
    replace cb := fun W_ => (cb W_).trans (show _ = Result.ok (Value.slice B2d (ks.drop p1).length (c2 - p1)) W_ by rw [q2])
    replace cc := fun W_ => (cc W_).trans (show _ = Result.ok (Value.slice B3 (kids.take p1).length c3) W_ by rw [q3])
    replace cd := fun W_ => (cd W_).trans (show _ = Result.ok (Value.slice B3d (kids.drop p2).length (c3 - p2)) W_ by rw [q4])
    have l1 : (ks.take p).length ≤ c2 := by rw [q1]; omega
    have l2 : (ks.drop p1).length ≤ c2 - p1 := by rw [q2]; omega
    have l3 : (kids.take p1).length ≤ c3 := by rw [q3]; have := HKL.out; omega
    have l4 : (kids.drop p2).length ≤ c3 - p2 := by rw [q4]; omega
    have HQ := Aside0.mk (And.intro R1 (And.intro R2 (And.intro R3 (And.intro R4 (And.intro l1 (And.intro l2 (And.intro l3 l4)))))))
    have HLn : Aside0 ((ks.take p ++ ks.drop p1).length ≤ 1000000 ∧ (kids.take p1 ++ kids.drop p2).length ≤ 1000000) := ⟨by rw [List.length_append, List.length_append, q1, q2, q3, q4]; have := HKL.out; omega⟩
    have hp5 : p < 5000 := by have := HKL.out; omega
    have m1 : wrap64 ((p : Int) + 1) = (p1 : Int) := by rw [hp1]; exact w64S p (Nat.lt_trans hp5 (by decide))
    have m2 : wrap64 ((p : Int) + 2) = (p2 : Int) := by rw [hp2]; exact w64A p 2 (Nat.lt_of_lt_of_le (Nat.add_lt_add_right hp5 2) (by decide))
    clear R1 R2 R3 R4 l1 l2 l3 l4 q1 q2 q3 q4 hpl hp5
    generalize hK1 : ks.take p = K1 at ca HQ HLn ⊢
    generalize hK2 : ks.drop p1 = K2 at cb HQ HLn ⊢
    generalize hD1 : kids.take p1 = D1 at cc HQ HLn ⊢
    generalize hD2 : kids.drop p2 = D2 at cd HQ HLn ⊢
    have HEQ : Aside0 (ks.take p ++ ks.drop (p + 1) = K1 ++ K2 ∧ kids.take (p + 1) ++ kids.drop (p + 2) = D1 ++ D2) := ⟨by rw [← hK1, ← hK2, hp1], by rw [← hD1, ← hD2, hp1, hp2]⟩
    clear hK1 hK2 hD1 hD2 hp1 hp2
    have k2 : w2.cell? ⟨gn, 2, none⟩ = some (.slice B2 ks.length c2) := (blk_cell HX.out.1 2).trans rfl
    have k3 : w2.cell? ⟨gn, 3, none⟩ = some (.slice B3 kids.length c3) := (blk_cell HX.out.1 3).trans rfl
    refine start_ (n := 26) (S := fun w' => w'.cell? ⟨gn, 2, none⟩ = some (.slice B2 ks.length c2) ∧ w'.cell? ⟨gn, 3, none⟩ = some (.slice B3 kids.length c3)) (ds := []) mS0 (by kernel_rfl) rfl rfl (⟨k2, k3⟩) (fun hHeld => ?_)
    have hb : Below w2.heap.size w2 w2.drew := below_drew (Below.refl _ _)
    replace HX := Aside0.mk (And.intro (blk_below HX.out.1 hb) (blk_below HX.out.2 hb))
    replace HB := Aside0.mk (below_then HB.out (below_size HB.out) hb)
    clear hb k2 k3
    generalize w2.drew = w3 at *
    refine pure_ (i := 0) (N := some 23) (v := ?_) (a' := ?_) mS1 rfl rfl (by kernel_rfl) (fun _ _ _ h => h) (Or.inl ⟨by rfl, ?_⟩) ?_ ?_
    rotate_left
    ·intro w'
     go_simp
     with_reducible rfl
    rotate_left
    ·simp only [Act.put, List.setIfInBounds_toArray, List.set_cons_zero, List.set_cons_succ, i64_w, i32_w]
     rfl
    refine take_ (i := 1) (N := some 24) (v := ?_) (a' := ?_) mS2 rfl rfl (by kernel_rfl) (fun _ _ _ h => h) (Or.inl ⟨by rfl, ?_⟩) hHeld ?_ ?_
    rotate_left
    ·intro w' hS
     go_simp
     with_reducible rfl
    rotate_left
    ·simp only [Act.put, List.setIfInBounds_toArray, List.set_cons_zero, List.set_cons_succ, i64_w, i32_w]
     rfl
    refine pure_ (i := 2) (N := some 25) (v := ?_) (a' := ?_) mS3 rfl rfl (by kernel_rfl) (fun _ _ _ h => h) (Or.inl ⟨by rfl, ?_⟩) ?_ ?_
    rotate_left
    ·intro w'
     go_simp
     with_reducible rfl
    rotate_left
    ·simp only [Act.put, List.setIfInBounds_toArray, List.set_cons_zero, List.set_cons_succ, i64_w, i32_w]
     rfl
    refine pure_ (i := 3) (N := some 26) (v := ?_) (a' := ?_) mS4 rfl rfl (by kernel_rfl) (fun _ _ _ h => h) (Or.inl ⟨by rfl, ?_⟩) ?_ ?_
    rotate_left
    ·intro w'
     go_simp
     with_reducible rfl
    rotate_left
    ·simp only [Act.put, List.setIfInBounds_toArray, List.set_cons_zero, List.set_cons_succ, i64_w, i32_w]
     rfl
    refine pure_ (i := 4) (N := some 27) (v := ?_) (a' := ?_) mS5 rfl rfl (by kernel_rfl) (fun _ _ _ h => h) (Or.inl ⟨by rfl, ?_⟩) ?_ ?_
    rotate_left
    ·intro w'
     go_simp
     with_reducible rfl
    rotate_left
    ·simp only [Act.put, List.setIfInBounds_toArray, List.set_cons_zero, List.set_cons_succ, i64_w, i32_w]
     rfl
    refine take_ (i := 5) (N := some 28) (v := ?_) (a' := ?_) mS6 rfl rfl (by kernel_rfl) (fun _ _ _ h => h) (Or.inl ⟨by rfl, ?_⟩) hHeld ?_ ?_
    rotate_left
    ·intro w' hS
     go_simp
     with_reducible rfl
    rotate_left
    ·simp only [Act.put, List.setIfInBounds_toArray, List.set_cons_zero, List.set_cons_succ, i64_w, i32_w]
     rfl
    refine pure_ (i := 6) (N := some 29) (v := ?_) (a' := ?_) mS7 rfl rfl (by kernel_rfl) (fun _ _ _ h => h) (Or.inl ⟨by rfl, ?_⟩) ?_ ?_
    rotate_left
    ·intro w'
     go_simp
     with_reducible rfl
    rotate_left
    ·simp only [Act.put, List.setIfInBounds_toArray, List.set_cons_zero, List.set_cons_succ, i64_w, i32_w]
     rfl
    refine pure_ (i := 7) (N := some 30) (v := ?_) (a' := ?_) mS8 rfl rfl (by kernel_rfl) (fun _ _ _ h => h) (Or.inl ⟨by rfl, ?_⟩) ?_ ?_
    rotate_left
    ·intro w'
     go_simp
     with_reducible rfl
    rotate_left
    ·simp only [Act.put, List.setIfInBounds_toArray, List.set_cons_zero, List.set_cons_succ, i64_w, i32_w]
     rfl
    refine pure_ (i := 8) (N := some 31) (v := ?_) (a' := ?_) mS9 rfl rfl (by kernel_rfl) (fun _ _ _ h => h) (Or.inl ⟨by rfl, ?_⟩) ?_ ?_
    rotate_left
    ·intro w'
     go_simp
     with_reducible rfl
    rotate_left
    ·simp only [Act.put, List.setIfInBounds_toArray, List.set_cons_zero, List.set_cons_succ, i64_w, i32_w]
     rfl
    refine pure_ (i := 11) (N := some 34) (v := ?_) (a' := ?_) mS10 rfl rfl (by kernel_rfl) (fun _ _ _ h => h) (Or.inl ⟨by rfl, ?_⟩) ?_ ?_
    rotate_left
    ·intro w'
     go_simp
     with_reducible rfl
    rotate_left
    ·simp only [Act.put, List.setIfInBounds_toArray, List.set_cons_zero, List.set_cons_succ, i64_w, i32_w]
     rfl
    refine take_ (i := 12) (N := some 35) (v := ?_) (a' := ?_) mS11 rfl rfl (by kernel_rfl) (fun _ _ _ h => h) (Or.inl ⟨by rfl, ?_⟩) hHeld ?_ ?_
    rotate_left
    ·intro w' hS
     go_simp
     with_reducible rfl
    rotate_left
    ·simp only [Act.put, List.setIfInBounds_toArray, List.set_cons_zero, List.set_cons_succ, i64_w, i32_w]
     rfl
    refine pure_ (i := 13) (N := some 36) (v := ?_) (a' := ?_) mS12 rfl rfl (by kernel_rfl) (fun _ _ _ h => h) (Or.inl ⟨by rfl, ?_⟩) ?_ ?_
    rotate_left
    ·intro w'
     go_simp
     with_reducible rfl
    rotate_left
    ·simp only [Act.put, List.setIfInBounds_toArray, List.set_cons_zero, List.set_cons_succ, i64_w, i32_w]
     rfl
    refine pure_ (i := 14) (N := some 37) (v := ?_) (a' := ?_) mS13 rfl rfl (by kernel_rfl) (fun _ _ _ h => h) (Or.inl ⟨by rfl, ?_⟩) ?_ ?_
    rotate_left
    ·intro w'
     go_simp
     with_reducible rfl
    rotate_left
    ·simp only [Act.put, List.setIfInBounds_toArray, List.set_cons_zero, List.set_cons_succ, i64_w, i32_w]
     rfl
    refine pure_ (i := 15) (N := some 38) (v := ?_) (a' := ?_) mS14 rfl rfl (by kernel_rfl) (fun _ _ _ h => h) (Or.inl ⟨by rfl, ?_⟩) ?_ ?_
    rotate_left
    ·intro w'
     go_simp
     with_reducible rfl
    rotate_left
    ·simp only [Act.put, List.setIfInBounds_toArray, List.set_cons_zero, List.set_cons_succ, i64_w, i32_w]
     rfl
    refine pure_ (i := 16) (N := some 39) (v := ?_) (a' := ?_) mS15 rfl rfl (by kernel_rfl) (fun _ _ _ h => h) (Or.inl ⟨by rfl, ?_⟩) ?_ ?_
    rotate_left
    ·intro w'
     go_simp
     with_reducible rfl
    rotate_left
    ·simp only [Act.put, List.setIfInBounds_toArray, List.set_cons_zero, List.set_cons_succ, i64_w, i32_w]
     rfl
    refine take_ (i := 17) (N := some 40) (v := ?_) (a' := ?_) mS16 rfl rfl (by kernel_rfl) (fun _ _ _ h => h) (Or.inl ⟨by rfl, ?_⟩) hHeld ?_ ?_
    rotate_left
    ·intro w' hS
     go_simp
     with_reducible rfl
    rotate_left
    ·simp only [Act.put, List.setIfInBounds_toArray, List.set_cons_zero, List.set_cons_succ, i64_w, i32_w]
     rfl
    refine pure_ (i := 18) (N := some 41) (v := ?_) (a' := ?_) mS17 rfl rfl (by kernel_rfl) (fun _ _ _ h => h) (Or.inl ⟨by rfl, ?_⟩) ?_ ?_
    rotate_left
    ·intro w'
     go_simp
     with_reducible rfl
    rotate_left
    ·simp only [Act.put, List.setIfInBounds_toArray, List.set_cons_zero, List.set_cons_succ, i64_w, i32_w]
     rfl
    refine pure_ (i := 19) (N := some 42) (v := ?_) (a' := ?_) mS18 rfl rfl (by kernel_rfl) (fun _ _ _ h => h) (Or.inl ⟨by rfl, ?_⟩) ?_ ?_
    rotate_left
    ·intro w'
     go_simp
     with_reducible rfl
    rotate_left
    ·simp only [Act.put, List.setIfInBounds_toArray, List.set_cons_zero, List.set_cons_succ, i64_w, i32_w]
     rfl
    refine pure_ (i := 20) (N := some 43) (v := ?_) (a' := ?_) mS19 rfl rfl (by kernel_rfl) (fun _ _ _ h => h) (Or.inl ⟨by rfl, ?_⟩) ?_ ?_
    rotate_left
    ·intro w'
     go_simp
     with_reducible rfl
    rotate_left
    ·simp only [Act.put, List.setIfInBounds_toArray, List.set_cons_zero, List.set_cons_succ, i64_w, i32_w]
     rfl
    refine two_ (i := 9) (j := 21) (Ni := some 32) (Nj := some 44) mS20 mS21 rfl rfl rfl rfl (by kernel_rfl) (by decide) (by decide) (fun K hK => ?_) (fun K hK => ?_)
    ·refine value_ (w1 := ?_) (v := ?_) (by rfl) rfl ?_ ?_
     rotate_left 2
     ·go_simp
      constructor
      ·rfl
      ·rfl
     clear hHeld
     have HL9 : Aside0 ((w3.alloc (.cells #[.slice B2 K1.length c2, .slice B2d K2.length (c2 - p1)] 23)).heap[w3.heap.size]? = some (.cells #[.slice B2 K1.length c2, .slice B2d K2.length (c2 - p1)] 23 (0, 0))) := ⟨blk_new _ _⟩
     have hb : Below w3.heap.size w3 (w3.alloc (.cells #[.slice B2 K1.length c2, .slice B2d K2.length (c2 - p1)] 23)) := (Below.refl _ _).alloc (Nat.le_refl _) _
     replace HX := Aside0.mk (And.intro (blk_below HX.out.1 hb) (blk_below HX.out.2 hb))
     replace HB := Aside0.mk (below_then HB.out (below_size HB.out) hb)
     clear hb
     generalize w3.alloc (.cells #[.slice B2 K1.length c2, .slice B2d K2.length (c2 - p1)] 23) = w4 at *
     obtain ⟨g9, hg_⟩ : ∃ g, g = w3.heap.size := ⟨_, rfl⟩
     rw [← hg_] at HL9 ⊢
     clear hg_
     refine hK.out _ _ (⟨(blk_cell HX.out.1 2).trans rfl, (blk_cell HX.out.1 3).trans rfl⟩) (fun hHeld => ?_)
     clear hK K
     refine norm_ (a' := ?_) ?_ ?_
     rotate_left
     ·show Act.put _ (some 32) _ = _
      simp only [Act.put, List.setIfInBounds_toArray, List.set_cons_zero, List.set_cons_succ, i64_w, i32_w]
      rfl
     refine two_ (i := 10) (j := 21) (Ni := some 33) (Nj := some 44) mS22 mS23 rfl rfl rfl rfl (by kernel_rfl) (by decide) (by decide) (fun K hK => ?_) (fun K hK => ?_)
     ·refine goes_ Try.func80 (by kernel_rfl) rfl #[.slice (some ⟨g9, 0, none⟩) 2 2] (by rfl) rfl rfl (by (try simp only [List.map_toArray, List.map_cons, List.map_nil]); first | done | rfl) ?_
      have hCL := C_lit (d := Kd.string) (e := 9) [(B2, c2, K1), (B2d, c2 - p1, K2)] (by simp) HL9.out (all2 ⟨HQ.out.2.2.2.2.1, Kd.C_below HQ.out.1 HB.out⟩ ⟨HQ.out.2.2.2.2.2.1, Kd.C_below HQ.out.2.1 HB.out⟩)
      refine (slices_Concat_string_string.calls (some ⟨g9, 0, none⟩) 2 [K1, K2] (K1 ++ K2) w4 hCL (Nat.le_refl _) (by unfold slices_Concat_string_string.f; rw [if_pos ⟨by simp, by simpa using HLn.out.1⟩]; simp)).mono ?_
      rintro e_ w5 ⟨v_, rfl, hr_, hb⟩
      refine ⟨_, rfl, ?_⟩
      clear hHeld hCL
      have HRK := Aside0.mk (Kd.R_lower hr_ HB.out.size)
      clear hr_
      replace HX := Aside0.mk (And.intro (blk_below HX.out.1 hb) (blk_below HX.out.2 hb))
      replace HB := Aside0.mk (below_then HB.out (below_size HB.out) hb)
      replace HL9 := Aside0.mk (blk_below HL9.out hb)
      clear hb
      obtain ⟨vk, ck, e9⟩ := Kd.R_slice HRK.out
      subst e9
      refine hK.out _ _ (⟨(blk_cell HX.out.1 2).trans rfl, (blk_cell HX.out.1 3).trans rfl⟩) (fun hHeld => ?_)
      clear hK K
      refine norm_ (a' := ?_) ?_ ?_
      rotate_left
      ·show Act.put _ (some 33) _ = _
       simp only [Act.put, List.setIfInBounds_toArray, List.set_cons_zero, List.set_cons_succ, i64_w, i32_w]
       rfl
      refine one_ (i := 21) (N := some 44) mS24 rfl rfl (by kernel_rfl) (by decide) (fun K hK => ?_)
      refine value_ (w1 := ?_) (v := ?_) (by rfl) rfl ?_ ?_
      rotate_left 2
      ·go_simp
       constructor
       ·rfl
       ·rfl
      clear hHeld
      have HL21 : Aside0 ((w5.alloc (.cells #[.slice B3 D1.length c3, .slice B3d D2.length (c3 - p2)] 24)).heap[w5.heap.size]? = some (.cells #[.slice B3 D1.length c3, .slice B3d D2.length (c3 - p2)] 24 (0, 0))) := ⟨blk_new _ _⟩
      have hb : Below w5.heap.size w5 (w5.alloc (.cells #[.slice B3 D1.length c3, .slice B3d D2.length (c3 - p2)] 24)) := (Below.refl _ _).alloc (Nat.le_refl _) _
      replace HX := Aside0.mk (And.intro (blk_below HX.out.1 hb) (blk_below HX.out.2 hb))
      replace HB := Aside0.mk (below_then HB.out (below_size HB.out) hb)
      replace HL9 := Aside0.mk (blk_below HL9.out hb)
      replace HRK := Aside0.mk (Kd.R_below HRK.out hb)
      clear hb
      generalize w5.alloc (.cells #[.slice B3 D1.length c3, .slice B3d D2.length (c3 - p2)] 24) = w6 at *
      obtain ⟨g21, hg_⟩ : ∃ g, g = w5.heap.size := ⟨_, rfl⟩
      rw [← hg_] at HL21 ⊢
      clear hg_
      refine hK.out _ _ (⟨(blk_cell HX.out.1 2).trans rfl, (blk_cell HX.out.1 3).trans rfl⟩) (fun hHeld => ?_)
      clear hK K
      refine norm_ (a' := ?_) ?_ ?_
      rotate_left
      ·show Act.put _ (some 44) _ = _
       simp only [Act.put, List.setIfInBounds_toArray, List.set_cons_zero, List.set_cons_succ, i64_w, i32_w]
       rfl
      refine one_ (i := 22) (N := some 45) mS25 rfl rfl (by kernel_rfl) (by decide) (fun K hK => ?_)
      refine goes_ Try.func81 (by kernel_rfl) rfl #[.slice (some ⟨g21, 0, none⟩) 2 2] (by rfl) rfl rfl (by (try simp only [List.map_toArray, List.map_cons, List.map_nil]); first | done | rfl) ?_
      have hCL := C_lit (d := (Kd.int .u32)) (e := 45) [(B3, c3, D1), (B3d, c3 - p2, D2)] (by simp) HL21.out (all2 ⟨HQ.out.2.2.2.2.2.2.1, Kd.C_below HQ.out.2.2.1 HB.out⟩ ⟨HQ.out.2.2.2.2.2.2.2, Kd.C_below HQ.out.2.2.2.1 HB.out⟩)
      refine (slices_Concat_uint32_uint32.calls (some ⟨g21, 0, none⟩) 2 [D1, D2] (D1 ++ D2) w6 hCL (Nat.le_refl _) (by unfold slices_Concat_uint32_uint32.f; rw [if_pos ⟨by simp, by simpa using HLn.out.2⟩]; simp)).mono ?_
      rintro e_ w7 ⟨v_, rfl, hr_, hb⟩
      refine ⟨_, rfl, ?_⟩
      clear hHeld hCL
      have HRD := Aside0.mk (Kd.R_lower hr_ HB.out.size)
      clear hr_
      replace HX := Aside0.mk (And.intro (blk_below HX.out.1 hb) (blk_below HX.out.2 hb))
      replace HB := Aside0.mk (below_then HB.out (below_size HB.out) hb)
      replace HL9 := Aside0.mk (blk_below HL9.out hb)
      replace HRK := Aside0.mk (Kd.R_below HRK.out hb)
      replace HL21 := Aside0.mk (blk_below HL21.out hb)
      clear hb
      obtain ⟨vd, cd_, e9⟩ := Kd.R_slice HRD.out
      subst e9
      refine hK.out _ _ (⟨(blk_cell HX.out.1 2).trans rfl, (blk_cell HX.out.1 3).trans rfl⟩) (fun hHeld => ?_)
      clear hK K
      refine norm_ (a' := ?_) ?_ ?_
      rotate_left
      ·show Act.put _ (some 45) _ = _
       simp only [Act.put, List.setIfInBounds_toArray, List.set_cons_zero, List.set_cons_succ, i64_w, i32_w]
       rfl
      refine pure_ (i := 23) (N := some 46) (v := ?_) (a' := ?_) mS26 rfl rfl (by kernel_rfl) (fun _ _ _ h => h) (Or.inl ⟨by rfl, ?_⟩) ?_ ?_
      rotate_left
      ·intro w'
       go_simp
       with_reducible rfl
      rotate_left
      ·simp only [Act.put, List.setIfInBounds_toArray, List.set_cons_zero, List.set_cons_succ, i64_w, i32_w]
       rfl
      refine one_ (i := 24) (N := none) mS27 rfl rfl (by kernel_rfl) (by decide) (fun K hK => ?_)
      have o0 : w7.cell? ⟨go, 0, none⟩ = some (.bool false) := (blk_cell HX.out.2 0).trans rfl
      have o1 : w7.cell? ⟨go, 1, none⟩ = some (.slice none 0 0) := (blk_cell HX.out.2 1).trans rfl
      have o2 : w7.cell? ⟨go, 2, none⟩ = some (.slice none 0 0) := (blk_cell HX.out.2 2).trans rfl
      have o3 : w7.cell? ⟨go, 3, none⟩ = some (.slice none 0 0) := (blk_cell HX.out.2 3).trans rfl
      have f0 := blk_frozen HX.out.2 0
      have f1 := blk_frozen HX.out.2 1
      have f2 := blk_frozen HX.out.2 2
      have f3 := blk_frozen HX.out.2 3
      refine skip_ (w1 := ?_) (by rfl) rfl ?_ ?_
      rotate_left
      ·go_simp
       rfl
      refine hK.out _ _ ⟨(blk_cell (blk_far (p := ⟨go, 3, none⟩) (blk_far (p := ⟨go, 2, none⟩) (blk_far (p := ⟨go, 1, none⟩) (blk_far (p := ⟨go, 0, none⟩) HX.out.1 HNE.out _) HNE.out _) HNE.out _) HNE.out _) 2).trans rfl, (blk_cell (blk_far (p := ⟨go, 3, none⟩) (blk_far (p := ⟨go, 2, none⟩) (blk_far (p := ⟨go, 1, none⟩) (blk_far (p := ⟨go, 0, none⟩) HX.out.1 HNE.out _) HNE.out _) HNE.out _) HNE.out _) 3).trans rfl⟩ (fun hHeld => ?_)
      clear hK K
      refine pure_ (i := 25) (N := some 5) (v := ?_) (a' := ?_) mS28 rfl rfl (by kernel_rfl) (fun _ _ _ h => h) (Or.inl ⟨by rfl, ?_⟩) ?_ ?_
      rotate_left
      ·intro w'
       go_simp
       with_reducible rfl
      rotate_left
      ·simp only [Act.put, List.setIfInBounds_toArray, List.set_cons_zero, List.set_cons_succ, i64_w, i32_w]
       rfl
      refine done_ (by kernel_rfl) ?_
      clear hHeld
      try go_wp2
      (try simp only [Exit.inBlock, Exit.then]); refine bodyPost_ret (results_ct rfl _ _ go 26 _ (0, 0) _ rfl (ret_all HX.out.2 _ _ _ _) Try.underlying26 rfl (by kernel_rfl)) rfl ?_
      have hk_ := HRK.out
      have hd_ := HRD.out
      rw [List.length_append] at hk_ hd_
      rw [HEQ.out.1, HEQ.out.2]
      exact ⟨_, _, _, rfl, Kd.R_nil _ _ _ _ _, R_ret hk_ HX.out.2 (by decide) _ _ _ _, R_ret hd_ HX.out.2 (by decide) _ _ _ _, below_set (below_set (below_set (below_set HB.out HG2.out) HG2.out) HG2.out) HG2.out⟩
     ·refine value_ (w1 := ?_) (v := ?_) (by rfl) rfl ?_ ?_
      rotate_left 2
      ·go_simp
       constructor
       ·rfl
       ·rfl
      clear hHeld
      have HL21 : Aside0 ((w4.alloc (.cells #[.slice B3 D1.length c3, .slice B3d D2.length (c3 - p2)] 24)).heap[w4.heap.size]? = some (.cells #[.slice B3 D1.length c3, .slice B3d D2.length (c3 - p2)] 24 (0, 0))) := ⟨blk_new _ _⟩
      have hb : Below w4.heap.size w4 (w4.alloc (.cells #[.slice B3 D1.length c3, .slice B3d D2.length (c3 - p2)] 24)) := (Below.refl _ _).alloc (Nat.le_refl _) _
      replace HX := Aside0.mk (And.intro (blk_below HX.out.1 hb) (blk_below HX.out.2 hb))
      replace HB := Aside0.mk (below_then HB.out (below_size HB.out) hb)
      replace HL9 := Aside0.mk (blk_below HL9.out hb)
      clear hb
      generalize w4.alloc (.cells #[.slice B3 D1.length c3, .slice B3d D2.length (c3 - p2)] 24) = w5 at *
      obtain ⟨g21, hg_⟩ : ∃ g, g = w4.heap.size := ⟨_, rfl⟩
      rw [← hg_] at HL21 ⊢
      clear hg_
      refine hK.out _ _ (⟨(blk_cell HX.out.1 2).trans rfl, (blk_cell HX.out.1 3).trans rfl⟩) (fun hHeld => ?_)
      clear hK K
      refine norm_ (a' := ?_) ?_ ?_
      rotate_left
      ·show Act.put _ (some 44) _ = _
       simp only [Act.put, List.setIfInBounds_toArray, List.set_cons_zero, List.set_cons_succ, i64_w, i32_w]
       rfl
      refine one_ (i := 10) (N := some 33) mS24 rfl rfl (by kernel_rfl) (by decide) (fun K hK => ?_)
      refine goes_ Try.func80 (by kernel_rfl) rfl #[.slice (some ⟨g9, 0, none⟩) 2 2] (by rfl) rfl rfl (by (try simp only [List.map_toArray, List.map_cons, List.map_nil]); first | done | rfl) ?_
      have hCL := C_lit (d := Kd.string) (e := 9) [(B2, c2, K1), (B2d, c2 - p1, K2)] (by simp) HL9.out (all2 ⟨HQ.out.2.2.2.2.1, Kd.C_below HQ.out.1 HB.out⟩ ⟨HQ.out.2.2.2.2.2.1, Kd.C_below HQ.out.2.1 HB.out⟩)
      refine (slices_Concat_string_string.calls (some ⟨g9, 0, none⟩) 2 [K1, K2] (K1 ++ K2) w5 hCL (Nat.le_refl _) (by unfold slices_Concat_string_string.f; rw [if_pos ⟨by simp, by simpa using HLn.out.1⟩]; simp)).mono ?_
      rintro e_ w6 ⟨v_, rfl, hr_, hb⟩
      refine ⟨_, rfl, ?_⟩
      clear hHeld hCL
      have HRK := Aside0.mk (Kd.R_lower hr_ HB.out.size)
      clear hr_
      replace HX := Aside0.mk (And.intro (blk_below HX.out.1 hb) (blk_below HX.out.2 hb))
      replace HB := Aside0.mk (below_then HB.out (below_size HB.out) hb)
      replace HL9 := Aside0.mk (blk_below HL9.out hb)
      replace HL21 := Aside0.mk (blk_below HL21.out hb)
      clear hb
      obtain ⟨vk, ck, e9⟩ := Kd.R_slice HRK.out
      subst e9
      refine hK.out _ _ (⟨(blk_cell HX.out.1 2).trans rfl, (blk_cell HX.out.1 3).trans rfl⟩) (fun hHeld => ?_)
      clear hK K
      refine norm_ (a' := ?_) ?_ ?_
      rotate_left
      ·show Act.put _ (some 33) _ = _
       simp only [Act.put, List.setIfInBounds_toArray, List.set_cons_zero, List.set_cons_succ, i64_w, i32_w]
       rfl
      refine one_ (i := 22) (N := some 45) mS25 rfl rfl (by kernel_rfl) (by decide) (fun K hK => ?_)
      refine goes_ Try.func81 (by kernel_rfl) rfl #[.slice (some ⟨g21, 0, none⟩) 2 2] (by rfl) rfl rfl (by (try simp only [List.map_toArray, List.map_cons, List.map_nil]); first | done | rfl) ?_
      have hCL := C_lit (d := (Kd.int .u32)) (e := 45) [(B3, c3, D1), (B3d, c3 - p2, D2)] (by simp) HL21.out (all2 ⟨HQ.out.2.2.2.2.2.2.1, Kd.C_below HQ.out.2.2.1 HB.out⟩ ⟨HQ.out.2.2.2.2.2.2.2, Kd.C_below HQ.out.2.2.2.1 HB.out⟩)
      refine (slices_Concat_uint32_uint32.calls (some ⟨g21, 0, none⟩) 2 [D1, D2] (D1 ++ D2) w6 hCL (Nat.le_refl _) (by unfold slices_Concat_uint32_uint32.f; rw [if_pos ⟨by simp, by simpa using HLn.out.2⟩]; simp)).mono ?_
      rintro e_ w7 ⟨v_, rfl, hr_, hb⟩
      refine ⟨_, rfl, ?_⟩
      clear hHeld hCL
      have HRD := Aside0.mk (Kd.R_lower hr_ HB.out.size)
      clear hr_
      replace HX := Aside0.mk (And.intro (blk_below HX.out.1 hb) (blk_below HX.out.2 hb))
      replace HB := Aside0.mk (below_then HB.out (below_size HB.out) hb)
      replace HL9 := Aside0.mk (blk_below HL9.out hb)
      replace HL21 := Aside0.mk (blk_below HL21.out hb)
      replace HRK := Aside0.mk (Kd.R_below HRK.out hb)
      clear hb
      obtain ⟨vd, cd_, e9⟩ := Kd.R_slice HRD.out
      subst e9
      refine hK.out _ _ (⟨(blk_cell HX.out.1 2).trans rfl, (blk_cell HX.out.1 3).trans rfl⟩) (fun hHeld => ?_)
      clear hK K
      refine norm_ (a' := ?_) ?_ ?_
      rotate_left
      ·show Act.put _ (some 45) _ = _
       simp only [Act.put, List.setIfInBounds_toArray, List.set_cons_zero, List.set_cons_succ, i64_w, i32_w]
       rfl
      refine pure_ (i := 23) (N := some 46) (v := ?_) (a' := ?_) mS26 rfl rfl (by kernel_rfl) (fun _ _ _ h => h) (Or.inl ⟨by rfl, ?_⟩) ?_ ?_
      rotate_left
      ·intro w'
       go_simp
       with_reducible rfl
      rotate_left
      ·simp only [Act.put, List.setIfInBounds_toArray, List.set_cons_zero, List.set_cons_succ, i64_w, i32_w]
       rfl
      refine one_ (i := 24) (N := none) mS27 rfl rfl (by kernel_rfl) (by decide) (fun K hK => ?_)
      have o0 : w7.cell? ⟨go, 0, none⟩ = some (.bool false) := (blk_cell HX.out.2 0).trans rfl
      have o1 : w7.cell? ⟨go, 1, none⟩ = some (.slice none 0 0) := (blk_cell HX.out.2 1).trans rfl
      have o2 : w7.cell? ⟨go, 2, none⟩ = some (.slice none 0 0) := (blk_cell HX.out.2 2).trans rfl
      have o3 : w7.cell? ⟨go, 3, none⟩ = some (.slice none 0 0) := (blk_cell HX.out.2 3).trans rfl
      have f0 := blk_frozen HX.out.2 0
      have f1 := blk_frozen HX.out.2 1
      have f2 := blk_frozen HX.out.2 2
      have f3 := blk_frozen HX.out.2 3
      refine skip_ (w1 := ?_) (by rfl) rfl ?_ ?_
      rotate_left
      ·go_simp
       rfl
      refine hK.out _ _ ⟨(blk_cell (blk_far (p := ⟨go, 3, none⟩) (blk_far (p := ⟨go, 2, none⟩) (blk_far (p := ⟨go, 1, none⟩) (blk_far (p := ⟨go, 0, none⟩) HX.out.1 HNE.out _) HNE.out _) HNE.out _) HNE.out _) 2).trans rfl, (blk_cell (blk_far (p := ⟨go, 3, none⟩) (blk_far (p := ⟨go, 2, none⟩) (blk_far (p := ⟨go, 1, none⟩) (blk_far (p := ⟨go, 0, none⟩) HX.out.1 HNE.out _) HNE.out _) HNE.out _) HNE.out _) 3).trans rfl⟩ (fun hHeld => ?_)
      clear hK K
      refine pure_ (i := 25) (N := some 5) (v := ?_) (a' := ?_) mS28 rfl rfl (by kernel_rfl) (fun _ _ _ h => h) (Or.inl ⟨by rfl, ?_⟩) ?_ ?_
      rotate_left
      ·intro w'
       go_simp
       with_reducible rfl
      rotate_left
      ·simp only [Act.put, List.setIfInBounds_toArray, List.set_cons_zero, List.set_cons_succ, i64_w, i32_w]
       rfl
      refine done_ (by kernel_rfl) ?_
      clear hHeld
      try go_wp2
      (try simp only [Exit.inBlock, Exit.then]); refine bodyPost_ret (results_ct rfl _ _ go 26 _ (0, 0) _ rfl (ret_all HX.out.2 _ _ _ _) Try.underlying26 rfl (by kernel_rfl)) rfl ?_
      have hk_ := HRK.out
      have hd_ := HRD.out
      rw [List.length_append] at hk_ hd_
      rw [HEQ.out.1, HEQ.out.2]
      exact ⟨_, _, _, rfl, Kd.R_nil _ _ _ _ _, R_ret hk_ HX.out.2 (by decide) _ _ _ _, R_ret hd_ HX.out.2 (by decide) _ _ _ _, below_set (below_set (below_set (below_set HB.out HG2.out) HG2.out) HG2.out) HG2.out⟩
    ·refine value_ (w1 := ?_) (v := ?_) (by rfl) rfl ?_ ?_
     rotate_left 2
     ·go_simp
      constructor
      ·rfl
      ·rfl
     clear hHeld
     have HL21 : Aside0 ((w3.alloc (.cells #[.slice B3 D1.length c3, .slice B3d D2.length (c3 - p2)] 24)).heap[w3.heap.size]? = some (.cells #[.slice B3 D1.length c3, .slice B3d D2.length (c3 - p2)] 24 (0, 0))) := ⟨blk_new _ _⟩
     have hb : Below w3.heap.size w3 (w3.alloc (.cells #[.slice B3 D1.length c3, .slice B3d D2.length (c3 - p2)] 24)) := (Below.refl _ _).alloc (Nat.le_refl _) _
     replace HX := Aside0.mk (And.intro (blk_below HX.out.1 hb) (blk_below HX.out.2 hb))
     replace HB := Aside0.mk (below_then HB.out (below_size HB.out) hb)
     clear hb
     generalize w3.alloc (.cells #[.slice B3 D1.length c3, .slice B3d D2.length (c3 - p2)] 24) = w4 at *
     obtain ⟨g21, hg_⟩ : ∃ g, g = w3.heap.size := ⟨_, rfl⟩
     rw [← hg_] at HL21 ⊢
     clear hg_
     refine hK.out _ _ (⟨(blk_cell HX.out.1 2).trans rfl, (blk_cell HX.out.1 3).trans rfl⟩) (fun hHeld => ?_)
     clear hK K
     refine norm_ (a' := ?_) ?_ ?_
     rotate_left
     ·show Act.put _ (some 44) _ = _
      simp only [Act.put, List.setIfInBounds_toArray, List.set_cons_zero, List.set_cons_succ, i64_w, i32_w]
      rfl
     refine one_ (i := 9) (N := some 32) mS23 rfl rfl (by kernel_rfl) (by decide) (fun K hK => ?_)
     refine value_ (w1 := ?_) (v := ?_) (by rfl) rfl ?_ ?_
     rotate_left 2
     ·go_simp
      constructor
      ·rfl
      ·rfl
     clear hHeld
     have HL9 : Aside0 ((w4.alloc (.cells #[.slice B2 K1.length c2, .slice B2d K2.length (c2 - p1)] 23)).heap[w4.heap.size]? = some (.cells #[.slice B2 K1.length c2, .slice B2d K2.length (c2 - p1)] 23 (0, 0))) := ⟨blk_new _ _⟩
     have hb : Below w4.heap.size w4 (w4.alloc (.cells #[.slice B2 K1.length c2, .slice B2d K2.length (c2 - p1)] 23)) := (Below.refl _ _).alloc (Nat.le_refl _) _
     replace HX := Aside0.mk (And.intro (blk_below HX.out.1 hb) (blk_below HX.out.2 hb))
     replace HB := Aside0.mk (below_then HB.out (below_size HB.out) hb)
     replace HL21 := Aside0.mk (blk_below HL21.out hb)
     clear hb
     generalize w4.alloc (.cells #[.slice B2 K1.length c2, .slice B2d K2.length (c2 - p1)] 23) = w5 at *
     obtain ⟨g9, hg_⟩ : ∃ g, g = w4.heap.size := ⟨_, rfl⟩
     rw [← hg_] at HL9 ⊢
     clear hg_
     refine hK.out _ _ (⟨(blk_cell HX.out.1 2).trans rfl, (blk_cell HX.out.1 3).trans rfl⟩) (fun hHeld => ?_)
     clear hK K
     refine norm_ (a' := ?_) ?_ ?_
     rotate_left
     ·show Act.put _ (some 32) _ = _
      simp only [Act.put, List.setIfInBounds_toArray, List.set_cons_zero, List.set_cons_succ, i64_w, i32_w]
      rfl
     refine one_ (i := 10) (N := some 33) mS24 rfl rfl (by kernel_rfl) (by decide) (fun K hK => ?_)
     refine goes_ Try.func80 (by kernel_rfl) rfl #[.slice (some ⟨g9, 0, none⟩) 2 2] (by rfl) rfl rfl (by (try simp only [List.map_toArray, List.map_cons, List.map_nil]); first | done | rfl) ?_
     have hCL := C_lit (d := Kd.string) (e := 9) [(B2, c2, K1), (B2d, c2 - p1, K2)] (by simp) HL9.out (all2 ⟨HQ.out.2.2.2.2.1, Kd.C_below HQ.out.1 HB.out⟩ ⟨HQ.out.2.2.2.2.2.1, Kd.C_below HQ.out.2.1 HB.out⟩)
     refine (slices_Concat_string_string.calls (some ⟨g9, 0, none⟩) 2 [K1, K2] (K1 ++ K2) w5 hCL (Nat.le_refl _) (by unfold slices_Concat_string_string.f; rw [if_pos ⟨by simp, by simpa using HLn.out.1⟩]; simp)).mono ?_
     rintro e_ w6 ⟨v_, rfl, hr_, hb⟩
     refine ⟨_, rfl, ?_⟩
     clear hHeld hCL
     have HRK := Aside0.mk (Kd.R_lower hr_ HB.out.size)
     clear hr_
     replace HX := Aside0.mk (And.intro (blk_below HX.out.1 hb) (blk_below HX.out.2 hb))
     replace HB := Aside0.mk (below_then HB.out (below_size HB.out) hb)
     replace HL21 := Aside0.mk (blk_below HL21.out hb)
     replace HL9 := Aside0.mk (blk_below HL9.out hb)
     clear hb
     obtain ⟨vk, ck, e9⟩ := Kd.R_slice HRK.out
     subst e9
     refine hK.out _ _ (⟨(blk_cell HX.out.1 2).trans rfl, (blk_cell HX.out.1 3).trans rfl⟩) (fun hHeld => ?_)
     clear hK K
     refine norm_ (a' := ?_) ?_ ?_
     rotate_left
     ·show Act.put _ (some 33) _ = _
      simp only [Act.put, List.setIfInBounds_toArray, List.set_cons_zero, List.set_cons_succ, i64_w, i32_w]
      rfl
     refine one_ (i := 22) (N := some 45) mS25 rfl rfl (by kernel_rfl) (by decide) (fun K hK => ?_)
     refine goes_ Try.func81 (by kernel_rfl) rfl #[.slice (some ⟨g21, 0, none⟩) 2 2] (by rfl) rfl rfl (by (try simp only [List.map_toArray, List.map_cons, List.map_nil]); first | done | rfl) ?_
     have hCL := C_lit (d := (Kd.int .u32)) (e := 45) [(B3, c3, D1), (B3d, c3 - p2, D2)] (by simp) HL21.out (all2 ⟨HQ.out.2.2.2.2.2.2.1, Kd.C_below HQ.out.2.2.1 HB.out⟩ ⟨HQ.out.2.2.2.2.2.2.2, Kd.C_below HQ.out.2.2.2.1 HB.out⟩)
     refine (slices_Concat_uint32_uint32.calls (some ⟨g21, 0, none⟩) 2 [D1, D2] (D1 ++ D2) w6 hCL (Nat.le_refl _) (by unfold slices_Concat_uint32_uint32.f; rw [if_pos ⟨by simp, by simpa using HLn.out.2⟩]; simp)).mono ?_
     rintro e_ w7 ⟨v_, rfl, hr_, hb⟩
     refine ⟨_, rfl, ?_⟩
     clear hHeld hCL
     have HRD := Aside0.mk (Kd.R_lower hr_ HB.out.size)
     clear hr_
     replace HX := Aside0.mk (And.intro (blk_below HX.out.1 hb) (blk_below HX.out.2 hb))
     replace HB := Aside0.mk (below_then HB.out (below_size HB.out) hb)
     replace HL21 := Aside0.mk (blk_below HL21.out hb)
     replace HL9 := Aside0.mk (blk_below HL9.out hb)
     replace HRK := Aside0.mk (Kd.R_below HRK.out hb)
     clear hb
     obtain ⟨vd, cd_, e9⟩ := Kd.R_slice HRD.out
     subst e9
     refine hK.out _ _ (⟨(blk_cell HX.out.1 2).trans rfl, (blk_cell HX.out.1 3).trans rfl⟩) (fun hHeld => ?_)
     clear hK K
     refine norm_ (a' := ?_) ?_ ?_
     rotate_left
     ·show Act.put _ (some 45) _ = _
      simp only [Act.put, List.setIfInBounds_toArray, List.set_cons_zero, List.set_cons_succ, i64_w, i32_w]
      rfl
     refine pure_ (i := 23) (N := some 46) (v := ?_) (a' := ?_) mS26 rfl rfl (by kernel_rfl) (fun _ _ _ h => h) (Or.inl ⟨by rfl, ?_⟩) ?_ ?_
     rotate_left
     ·intro w'
      go_simp
      with_reducible rfl
     rotate_left
     ·simp only [Act.put, List.setIfInBounds_toArray, List.set_cons_zero, List.set_cons_succ, i64_w, i32_w]
      rfl
     refine one_ (i := 24) (N := none) mS27 rfl rfl (by kernel_rfl) (by decide) (fun K hK => ?_)
     have o0 : w7.cell? ⟨go, 0, none⟩ = some (.bool false) := (blk_cell HX.out.2 0).trans rfl
     have o1 : w7.cell? ⟨go, 1, none⟩ = some (.slice none 0 0) := (blk_cell HX.out.2 1).trans rfl
     have o2 : w7.cell? ⟨go, 2, none⟩ = some (.slice none 0 0) := (blk_cell HX.out.2 2).trans rfl
     have o3 : w7.cell? ⟨go, 3, none⟩ = some (.slice none 0 0) := (blk_cell HX.out.2 3).trans rfl
     have f0 := blk_frozen HX.out.2 0
     have f1 := blk_frozen HX.out.2 1
     have f2 := blk_frozen HX.out.2 2
     have f3 := blk_frozen HX.out.2 3
     refine skip_ (w1 := ?_) (by rfl) rfl ?_ ?_
     rotate_left
     ·go_simp
      rfl
     refine hK.out _ _ ⟨(blk_cell (blk_far (p := ⟨go, 3, none⟩) (blk_far (p := ⟨go, 2, none⟩) (blk_far (p := ⟨go, 1, none⟩) (blk_far (p := ⟨go, 0, none⟩) HX.out.1 HNE.out _) HNE.out _) HNE.out _) HNE.out _) 2).trans rfl, (blk_cell (blk_far (p := ⟨go, 3, none⟩) (blk_far (p := ⟨go, 2, none⟩) (blk_far (p := ⟨go, 1, none⟩) (blk_far (p := ⟨go, 0, none⟩) HX.out.1 HNE.out _) HNE.out _) HNE.out _) HNE.out _) 3).trans rfl⟩ (fun hHeld => ?_)
     clear hK K
     refine pure_ (i := 25) (N := some 5) (v := ?_) (a' := ?_) mS28 rfl rfl (by kernel_rfl) (fun _ _ _ h => h) (Or.inl ⟨by rfl, ?_⟩) ?_ ?_
     rotate_left
     ·intro w'
      go_simp
      with_reducible rfl
     rotate_left
     ·simp only [Act.put, List.setIfInBounds_toArray, List.set_cons_zero, List.set_cons_succ, i64_w, i32_w]
      rfl
     refine done_ (by kernel_rfl) ?_
     clear hHeld
     try go_wp2
     (try simp only [Exit.inBlock, Exit.then]); refine bodyPost_ret (results_ct rfl _ _ go 26 _ (0, 0) _ rfl (ret_all HX.out.2 _ _ _ _) Try.underlying26 rfl (by kernel_rfl)) rfl ?_
     have hk_ := HRK.out
     have hd_ := HRD.out
     rw [List.length_append] at hk_ hd_
     rw [HEQ.out.1, HEQ.out.2]
     exact ⟨_, _, _, rfl, Kd.R_nil _ _ _ _ _, R_ret hk_ HX.out.2 (by decide) _ _ _ _, R_ret hd_ HX.out.2 (by decide) _ _ _ _, below_set (below_set (below_set (below_set HB.out HG2.out) HG2.out) HG2.out) HG2.out⟩
 ·have d1 : (C != 0) = true := by simpa using hC0
  rw [if_neg hC0] at hv
  have hp := hv.symm
  have HC := Aside0.mk hC0
  clear hv hC0 hC
  injection hp with e1 hp
  injection hp with e2 hp
  injection hp with e3 hp
  injection hp with e4 e5
  subst e1 e2 e3 e4 e5
  go_wp2_with fail
  (try simp only [Exit.inBlock, Exit.then]); refine bodyPost_ret (results_ct rfl _ _ go 26 _ (0, 0) _ rfl (ret_all HX.out.2 _ _ _ _) Try.underlying26 rfl (by kernel_rfl)) rfl ?_
  exact ⟨_, _, _, rfl, Kd.R_nil _ _ _ _ _, Kd.R_nil _ _ _ _ _, Kd.R_nil _ _ _ _ _, below_set (below_set (below_set (below_set HB.out HG2.out) HG2.out) HG2.out) HG2.out⟩
end Go.Proofs.Ytdjjpgdhnoibkaa.My
namespace Go.Proofs.Ytdjjpgdhnoibkaa.My
open Go.RowKit Go.Proofs.YtdjjpgdhnoibkaaW.PrintWords Go.Proofs.YtdjjpgdhnoibkaaW.PrintLast Go.Proofs.YtdjjpgdhnoibkaaW.PrintMore Go.Proofs.Ytdjjpgdhnoibkaa Go.Proofs.Ytdjjpgdhnoibkaa.PZ Go.Proofs.Ytdjjpgdhnoibkaa.PD
set_option linter.unusedSimpArgs false
set_option linter.unusedVariables false
set_option maxRecDepth 100000
set_option maxHeartbeats 6400000
attribute [local go_sem high] conv_rune str_leq str_gtr
theorem C_one {α : Type} {d : Kd α} {T g : Nat} {w : World} {x : α} {v : Value} (h1 : d.sz = 1) (hK : d.K w x [v]) (hb : w.heap[g]? = some (.cells #[v] T (0, 0))) : Kd.C d w (some ⟨g, 0, none⟩) 1 [x] := by
 refine ⟨rfl, by decide, fun hp => ⟨_, rfl, fun j y hj => ?_⟩⟩
 cases j with
 | succ j => cases hj
 | zero =>
  obtain rfl := Option.some.inj hj
  refine ⟨[v], by rw [h1]; rfl, hK, fun i u hu => ?_⟩
  cases i with
  | succ i => cases hu
  | zero =>
   obtain rfl := Option.some.inj hu
   have h0 := (blk_cell hb 0).trans rfl
   have ha : (⟨g, 0, none⟩ : Addr).add (0 * d.sz + 0) = ⟨g, 0, none⟩ := by
    rw [Nat.zero_mul]
    rfl
   rw [ha]
   exact h0
theorem all3 {α : Type} {P : α → Prop} {x y z : α} (hx : P x) (hy : P y) (hz : P z) : ∀ r ∈ [x, y, z], P r := by
 intro r hr
 rcases List.mem_cons.1 hr with rfl | hr
 ·exact hx
 ·exact all2 hy hz r hr
theorem R_from {α : Type} {d : Kd α} {e : Nat} {w : World} {base b base' : Nat} {v : Value} {xs : List α} (h : d.R e w base (fun _ => True) v xs) (hb : b ≤ base) (h0 : base' ≤ b) : d.R e w base' (fun k => b ≤ k) v xs := Kd.R_lower (Kd.R_mono (Kd.R_bound (Kd.R_lower h hb)) (fun k hk => hk.2.1)) h0
theorem kX {w w1 : World} {g g' : Nat} {o o' : Obj} (h : Aside0 (w.heap[g]? = some o ∧ w.heap[g']? = some o')) (hb : Below w.heap.size w w1) : Aside0 (w1.heap[g]? = some o ∧ w1.heap[g']? = some o') := ⟨blk_below h.out.1 hb, blk_below h.out.2 hb⟩
theorem kL {w w1 : World} {g : Nat} {o : Obj} (h : Aside0 (w.heap[g]? = some o)) (hb : Below w.heap.size w w1) : Aside0 (w1.heap[g]? = some o) := ⟨blk_below h.out hb⟩
theorem kB {W w w1 : World} (h : Aside0 (Below W.heap.size W w)) (hb : Below w.heap.size w w1) : Aside0 (Below W.heap.size W w1) := ⟨below_then h.out (below_size h.out) hb⟩
theorem kS {b : Nat} {w w1 : World} (h : Aside0 (b ≤ w.heap.size)) (hb : Below w.heap.size w w1) : Aside0 (b ≤ w1.heap.size) := ⟨Nat.le_trans h.out (below_size hb)⟩
theorem kR {α : Type} {d : Kd α} {e base : Nat} {ok : Nat → Prop} {v : Value} {xs : List α} {w w1 : World} (h : Aside0 (d.R e w base ok v xs)) (hb : Below w.heap.size w w1) : Aside0 (d.R e w1 base ok v xs) := ⟨Kd.R_below h.out hb⟩
theorem tail_ {G F : World → Nat → Nat → Nat → Nat → Option Addr → Nat → Option Addr → Nat → Prop} {Q : Prop} (main : (∀ w g5 g10 g18 g24 vk ck vd cd_, F w g5 g10 g18 g24 vk ck vd cd_ → G w g5 g10 g18 g24 vk ck vd cd_) → Q) (t : ∀ w g5 g10 g18 g24 vk ck vd cd_, F w g5 g10 g18 g24 vk ck vd cd_ → G w g5 g10 g18 g24 vk ck vd cd_) : Q := main t
def wholeV (cs : List Ce) (ks : List ByteArray) (kids : List Int) : Bool × List Ce × List ByteArray × List Int × Int :=
 if chkV false cs ks kids = 0 then (false, cs, ks, kids, 0) else (false, [], [], [], chkV false cs ks kids)
theorem owhole_f (cs : List Ce) (ks : List ByteArray) (kids : List Int) (hn : NdOk cs ks kids) (k : Nat) (hk : 2 * (cs.length + ks.length) + kids.length + 60 ≤ k) : node_whole.f k false cs ks kids = some (wholeV cs ks kids) := by
 unfold node_whole.f wholeV
 rw [ochk_f false cs ks kids hn k hk, Option.bind_some]
 by_cases h : chkV false cs ks kids = 0
 ·rw [if_pos h, if_pos h]
 ·rw [if_neg h, if_neg h]
theorem key_size {key : ByteArray} (h : okK key = true) : key.size ≤ 140737488351232 := by
 unfold okK at h
 rw [Bool.and_eq_true, decide_eq_true_eq, decide_eq_true_eq] at h
 omega
def growV (b : Bool) (cs : List Ce) (ks : List ByteArray) (kids : List Int) (i : Int) (key : ByteArray) (kid : Int) : Bool × List Ce × List ByteArray × List Int × Int :=
 if brV b cs ks kids = 0 then (if i < 0 ∨ (kids.length : Int) ≤ i ∨ okK key = false ∨ kid = 0 then (false, [], [], [], 1) else wholeV [] (ks.take i.toNat ++ ([key] ++ ks.drop i.toNat)) (kids.take (i.toNat + 1) ++ ([kid] ++ kids.drop (i.toNat + 1)))) else (false, [], [], [], brV b cs ks kids)
theorem grow_calls (W : World) (b : Bool) (B1 : Option Addr) (c1 : Nat) (cs : List Ce) (B2 : Option Addr) (c2 : Nat) (ks : List ByteArray) (B3 : Option Addr) (c3 : Nat) (kids : List Int) (i : Int) (key : ByteArray) (kid : Int) (hc1 : cs.length ≤ c1) (hc2 : ks.length ≤ c2) (hc3 : kids.length ≤ c3) (h1 : Kd.C k66 W B1 cs.length cs) (h2 : Kd.C Kd.string W B2 ks.length ks) (h3 : Kd.C (Kd.int .u32) W B3 kids.length kids) (hn : NdOk cs ks kids) (r1 : Bool) (r2 : List Ce) (r3 : List ByteArray) (r4 : List Int) (r5 : Int) (h : growV b cs ks kids i key kid = (r1, r2, r3, r4, r5)) :
  Calls Try.prog 38 #[.agg #[.bool b, .slice B1 cs.length c1, .slice B2 ks.length c2, .slice B3 kids.length c3], .int .i64 i, .string key, .int .u32 kid] W fun e w' => ∃ v1_ v2_ v3_ : Value, e = .returned (.tuple #[.agg #[.bool r1, v1_, v2_, v3_], .int .i64 r5]) ∧ Kd.R k66 66 w' W.heap.size (fun _ => True) v1_ r2 ∧ Kd.R Kd.string 9 w' W.heap.size (fun _ => True) v2_ r3 ∧ Kd.R (Kd.int .u32) 45 w' W.heap.size (fun _ => True) v3_ r4 ∧ Below W.heap.size W w' := by
 have hbr := branch_f b cs ks kids hn (2 * (cs.length + ks.length) + kids.length + 60) (Nat.le_refl _)
 generalize hC : brV b cs ks kids = C at hbr
 have H := Aside0.mk h
 have HN := Aside0.mk hn
 clear h hn
 go_enter Try.func38, Try.ntmps38
 go_wp2_with fail
 have hbx : (W.alloc (.cells #[.bool b, .slice B1 cs.length c1, .slice B2 ks.length c2, .slice B3 kids.length c3] 26)).heap[W.heap.size]? = some (.cells #[.bool b, .slice B1 cs.length c1, .slice B2 ks.length c2, .slice B3 kids.length c3] 26 (0, 0)) := blk_new W _
 have hb0 : Below W.heap.size W (W.alloc (.cells #[.bool b, .slice B1 cs.length c1, .slice B2 ks.length c2, .slice B3 kids.length c3] 26)) := (Below.refl _ _).alloc (Nat.le_refl _) _
 have hs1 : (W.alloc (.cells #[.bool b, .slice B1 cs.length c1, .slice B2 ks.length c2, .slice B3 kids.length c3] 26)).heap.size = W.heap.size + 1 := by show (W.heap.push _).size = _; rw [Array.size_push]
 generalize W.alloc (.cells #[.bool b, .slice B1 cs.length c1, .slice B2 ks.length c2, .slice B3 kids.length c3] 26) = wa at *
 have hbo : (wa.alloc (.cells #[.bool false, .slice none 0 0, .slice none 0 0, .slice none 0 0] 26)).heap[wa.heap.size]? = some (.cells #[.bool false, .slice none 0 0, .slice none 0 0, .slice none 0 0] 26 (0, 0)) := blk_new wa _
 have hb1 : Below wa.heap.size wa (wa.alloc (.cells #[.bool false, .slice none 0 0, .slice none 0 0, .slice none 0 0] 26)) := (Below.refl _ _).alloc (Nat.le_refl _) _
 rw [hs1] at hbo
 replace hbx := blk_below hbx hb1
 replace hb0 := below_then hb0 (below_size hb0) hb1
 clear hb1 hs1
 generalize wa.alloc (.cells #[.bool false, .slice none 0 0, .slice none 0 0, .slice none 0 0] 26) = w1 at *
 obtain ⟨go, hgo⟩ : ∃ g, g = W.heap.size + 1 := ⟨_, rfl⟩
 obtain ⟨gn, hgn⟩ : ∃ g, g = W.heap.size := ⟨_, rfl⟩
 rw [← hgo] at hbo ⊢
 rw [← hgn] at hbx ⊢
 have HG2 := Aside0.mk (show W.heap.size ≤ go by omega)
 have HNE := Aside0.mk (show gn ≠ go by omega)
 clear hgo hgn
 have H2 := Aside0.mk h2
 have H3 := Aside0.mk h3
 refine (node_branch.calls _ b B1 c1 cs B2 c2 ks B3 c3 kids C w1 (Kd.C_below h1 hb0) hc1 (Kd.C_below h2 hb0) hc2 (Kd.C_below h3 hb0) hc3 hbr).mono ?_
 rintro e_ w2 ⟨rfl, hb2⟩
 clear h1 h2 h3 hbr
 have HX := Aside0.mk (And.intro (blk_below hbx hb2) (blk_below hbo hb2))
 have HB := Aside0.mk (below_then hb0 (below_size hb0) hb2)
 clear hbx hbo hb0 hb2
 have k0 : w2.cell? ⟨gn, 0, none⟩ = some (.bool b) := (blk_cell HX.out.1 0).trans rfl
 have k1 : w2.cell? ⟨gn, 1, none⟩ = some (.slice B1 cs.length c1) := (blk_cell HX.out.1 1).trans rfl
 have k2 : w2.cell? ⟨gn, 2, none⟩ = some (.slice B2 ks.length c2) := (blk_cell HX.out.1 2).trans rfl
 have k3 : w2.cell? ⟨gn, 3, none⟩ = some (.slice B3 kids.length c3) := (blk_cell HX.out.1 3).trans rfl
 have o0 : w2.cell? ⟨go, 0, none⟩ = some (.bool false) := (blk_cell HX.out.2 0).trans rfl
 have o1 : w2.cell? ⟨go, 1, none⟩ = some (.slice none 0 0) := (blk_cell HX.out.2 1).trans rfl
 have o2 : w2.cell? ⟨go, 2, none⟩ = some (.slice none 0 0) := (blk_cell HX.out.2 2).trans rfl
 have o3 : w2.cell? ⟨go, 3, none⟩ = some (.slice none 0 0) := (blk_cell HX.out.2 3).trans rfl
 have f0 := blk_frozen HX.out.2 0
 have f1 := blk_frozen HX.out.2 1
 have f2 := blk_frozen HX.out.2 2
 have f3 := blk_frozen HX.out.2 3
 have hv := H.out
 unfold growV at hv
 rw [hC] at hv
 by_cases hC0 : C = 0
 ·subst hC0
  obtain ⟨rfl, hck⟩ := brV_zero hC
  rw [if_pos rfl] at hv
  have hkl : kids.length = ks.length + 1 ∧ ks.length ≤ 2000 := by
   have f1 := (chk_facts hck).1
   have f5 := (chk_facts hck).2.2.2.2
   have f6 := ks_len ks
   unfold shpV at f1
   unfold lngV at f5
   rw [if_neg (by decide)] at f1 f5
   rw [Bool.and_eq_true, Bool.and_eq_true, decide_eq_true_eq] at f1
   omega
  have HKL := Aside0.mk hkl
  clear hkl hC hck
  by_cases hi0 : i < 0
  ·have d1 : decide (i < 0) = true := decide_eq_true hi0
   rw [if_pos (Or.inl hi0)] at hv
   have hp := hv.symm
   clear hv
   injection hp with e1 hp
   injection hp with e2 hp
   injection hp with e3 hp
   injection hp with e4 e5
   subst e1 e2 e3 e4 e5
   go_wp2_with fail
   (try simp only [Exit.inBlock, Exit.then]); refine bodyPost_ret (results_ct rfl _ _ go 26 _ (0, 0) _ rfl (ret_all HX.out.2 _ _ _ _) Try.underlying26 rfl (by kernel_rfl)) rfl ?_
   exact ⟨_, _, _, rfl, Kd.R_nil _ _ _ _ _, Kd.R_nil _ _ _ _ _, Kd.R_nil _ _ _ _ _, below_set (below_set (below_set (below_set HB.out HG2.out) HG2.out) HG2.out) HG2.out⟩
  ·have d1 : decide (i < 0) = false := decide_eq_false hi0
   by_cases hi1 : (kids.length : Int) ≤ i
   ·have d2 : decide (i ≥ (kids.length : Int)) = true := decide_eq_true hi1
    rw [if_pos (Or.inr (Or.inl hi1))] at hv
    have hp := hv.symm
    clear hv
    injection hp with e1 hp
    injection hp with e2 hp
    injection hp with e3 hp
    injection hp with e4 e5
    subst e1 e2 e3 e4 e5
    go_wp2_with fail
    (try simp only [Exit.inBlock, Exit.then]); refine bodyPost_ret (results_ct rfl _ _ go 26 _ (0, 0) _ rfl (ret_all HX.out.2 _ _ _ _) Try.underlying26 rfl (by kernel_rfl)) rfl ?_
    exact ⟨_, _, _, rfl, Kd.R_nil _ _ _ _ _, Kd.R_nil _ _ _ _ _, Kd.R_nil _ _ _ _ _, below_set (below_set (below_set (below_set HB.out HG2.out) HG2.out) HG2.out) HG2.out⟩
   ·have d2 : decide (i ≥ (kids.length : Int)) = false := decide_eq_false hi1
    go_wp2_with fail
    refine (node_keyed.calls key (okK key) _ (keyed_f key)).mono ?_
    rintro e_ w3 ⟨rfl, hd⟩
    have hb := hd.below
    replace HX := Aside0.mk (And.intro (blk_below HX.out.1 hb) (blk_below HX.out.2 hb))
    replace HB := Aside0.mk (below_then HB.out (below_size HB.out) hb)
    clear hd hb k0 k1 k2 k3 o0 o1 o2 o3 f0 f1 f2 f3
    have k0 : w3.cell? ⟨gn, 0, none⟩ = some (.bool false) := (blk_cell HX.out.1 0).trans rfl
    have k1 : w3.cell? ⟨gn, 1, none⟩ = some (.slice B1 cs.length c1) := (blk_cell HX.out.1 1).trans rfl
    have k2 : w3.cell? ⟨gn, 2, none⟩ = some (.slice B2 ks.length c2) := (blk_cell HX.out.1 2).trans rfl
    have k3 : w3.cell? ⟨gn, 3, none⟩ = some (.slice B3 kids.length c3) := (blk_cell HX.out.1 3).trans rfl
    have o0 : w3.cell? ⟨go, 0, none⟩ = some (.bool false) := (blk_cell HX.out.2 0).trans rfl
    have o1 : w3.cell? ⟨go, 1, none⟩ = some (.slice none 0 0) := (blk_cell HX.out.2 1).trans rfl
    have o2 : w3.cell? ⟨go, 2, none⟩ = some (.slice none 0 0) := (blk_cell HX.out.2 2).trans rfl
    have o3 : w3.cell? ⟨go, 3, none⟩ = some (.slice none 0 0) := (blk_cell HX.out.2 3).trans rfl
    have f0 := blk_frozen HX.out.2 0
    have f1 := blk_frozen HX.out.2 1
    have f2 := blk_frozen HX.out.2 2
    have f3 := blk_frozen HX.out.2 3
    by_cases hok : okK key = false
    ·rw [hok]
     rw [if_pos (Or.inr (Or.inr (Or.inl hok)))] at hv
     have hp := hv.symm
     clear hv
     injection hp with e1 hp
     injection hp with e2 hp
     injection hp with e3 hp
     injection hp with e4 e5
     subst e1 e2 e3 e4 e5
     go_wp2_with fail
     (try simp only [Exit.inBlock, Exit.then]); refine bodyPost_ret (results_ct rfl _ _ go 26 _ (0, 0) _ rfl (ret_all HX.out.2 _ _ _ _) Try.underlying26 rfl (by kernel_rfl)) rfl ?_
     exact ⟨_, _, _, rfl, Kd.R_nil _ _ _ _ _, Kd.R_nil _ _ _ _ _, Kd.R_nil _ _ _ _ _, below_set (below_set (below_set (below_set HB.out HG2.out) HG2.out) HG2.out) HG2.out⟩
    ·replace hok : okK key = true := by simpa using hok
     rw [hok]
     by_cases hkd : kid = 0
     ·have d3 : (kid == 0) = true := by simpa using hkd
      rw [if_pos (Or.inr (Or.inr (Or.inr hkd)))] at hv
      have hp := hv.symm
      clear hv
      injection hp with e1 hp
      injection hp with e2 hp
      injection hp with e3 hp
      injection hp with e4 e5
      subst e1 e2 e3 e4 e5
      go_wp2_with fail
      (try simp only [Exit.inBlock, Exit.then]); refine bodyPost_ret (results_ct rfl _ _ go 26 _ (0, 0) _ rfl (ret_all HX.out.2 _ _ _ _) Try.underlying26 rfl (by kernel_rfl)) rfl ?_
      exact ⟨_, _, _, rfl, Kd.R_nil _ _ _ _ _, Kd.R_nil _ _ _ _ _, Kd.R_nil _ _ _ _ _, below_set (below_set (below_set (below_set HB.out HG2.out) HG2.out) HG2.out) HG2.out⟩
     ·have d3 : (kid == 0) = false := by simpa using hkd
      rw [if_neg (by rintro (h | h | h | h); omega; omega; rw [hok] at h; cases h; exact hkd h)] at hv
      have HOK := Aside0.mk hok
      obtain ⟨p, rfl⟩ : ∃ p : Nat, i = (p : Int) := ⟨i.toNat, by omega⟩
      rw [Int.toNat_natCast] at hv
      have HV := Aside0.mk hv
      clear hv hok hkd
      have hpl : p ≤ ks.length := by have := HKL.out; omega
      clear hi1
      go_wp2_with fail
      clear k0 k1 k2 k3 o0 o1 o2 o3 f0 f1 f2 f3 d1 d2 hi0 d3
      obtain ⟨p1, hp1⟩ : ∃ q, q = p + 1 := ⟨_, rfl⟩
      have ca := cut_to (P := Try.prog) 23 9 .i64 Try.underlying23 (Option.some_get cis0).symm B2 ks.length c2 (p : Int) (by omega) (by omega) hc2
      have cb := cut_from (P := Try.prog) 23 9 .i64 Try.underlying23 (Option.some_get cis0).symm 1 (by kernel_rfl) B2 ks.length c2 (p : Int) (by omega) (by omega)
      have cc := cut_to (P := Try.prog) 24 45 .i64 Try.underlying24 (Option.some_get ciu0).symm B3 kids.length c3 (p1 : Int) (by omega) (by have := HKL.out; omega) hc3
      have cd := cut_from (P := Try.prog) 24 45 .i64 Try.underlying24 (Option.some_get ciu0).symm 1 (by kernel_rfl) B3 kids.length c3 (p1 : Int) (by omega) (by have := HKL.out; omega)
      rw [Int.toNat_natCast] at ca cb cc cd
      have R1 := Kd.C_take (m := p) H2.out (by omega)
      have R2 := Kd.C_drop (c := c2) (m := p) H2.out (by omega) hc2
      have R3 := Kd.C_take (m := p1) H3.out (by have := HKL.out; omega)
      have R4 := Kd.C_drop (c := c3) (m := p1) H3.out (by have := HKL.out; omega) hc3
      change Kd.C Kd.string W (if c2 = p then B2 else B2.map (·.add (p * 1))) _ _ at R2
      change Kd.C (Kd.int .u32) W (if c3 = p1 then B3 else B3.map (·.add (p1 * 1))) _ _ at R4
      generalize (if c2 = p then B2 else B2.map (·.add (p * 1))) = B2d at cb R2
      generalize (if c3 = p1 then B3 else B3.map (·.add (p1 * 1))) = B3d at cd R4
      have q1 : (ks.take p).length = p := by rw [List.length_take]; omega
      have q2 : (ks.drop p).length = ks.length - p := List.length_drop
      have q3 : (kids.take p1).length = p1 := by rw [List.length_take]; have := HKL.out; omega
      have q4 : (kids.drop p1).length = kids.length - p1 := List.length_drop
      replace ca := fun W_ => (ca W_).trans (show _ = Result.ok (Value.slice B2 (ks.take p).length c2) W_ by rw [q1])
      replace cb := fun W_ => (cb W_).trans (show _ = Result.ok (Value.slice B2d (ks.drop p).length (c2 - p)) W_ by rw [q2])
      replace cc := fun W_ => (cc W_).trans (show _ = Result.ok (Value.slice B3 (kids.take p1).length c3) W_ by rw [q3])
      replace cd := fun W_ => (cd W_).trans (show _ = Result.ok (Value.slice B3d (kids.drop p1).length (c3 - p1)) W_ by rw [q4])
      have l1 : (ks.take p).length ≤ c2 := by rw [q1]; omega
      have l2 : (ks.drop p).length ≤ c2 - p := by rw [q2]; omega
      have l3 : (kids.take p1).length ≤ c3 := by rw [q3]; have := HKL.out; omega
      have l4 : (kids.drop p1).length ≤ c3 - p1 := by rw [q4]; omega
      have HQ := Aside0.mk (And.intro R1 (And.intro R2 (And.intro R3 (And.intro R4 (And.intro l1 (And.intro l2 (And.intro l3 l4)))))))
      have HLn : Aside0 ((ks.take p ++ ([key] ++ ks.drop p)).length ≤ 1000000 ∧ (kids.take p1 ++ ([kid] ++ kids.drop p1)).length ≤ 1000000) := ⟨by rw [List.length_append, List.length_append, List.length_append, List.length_append, q1, q2, q3, q4]; have := HKL.out; simp only [List.length_cons, List.length_nil]; omega⟩
      have hp5 : p < 5000 := by have := HKL.out; omega
      have m1 : wrap64 ((p : Int) + 1) = (p1 : Int) := by rw [hp1]; exact w64S p (Nat.lt_trans hp5 (by decide))
      have HNK : Aside0 (NdOk [] (ks.take p ++ ([key] ++ ks.drop p)) (kids.take p1 ++ ([kid] ++ kids.drop p1))) := ⟨by
       refine ⟨⟨by simp, Nat.lt_of_le_of_lt HLn.out.1 (by decide), Nat.lt_of_le_of_lt HLn.out.2 (by decide)⟩, by simp, ?_⟩
       intro x hx
       rcases List.mem_append.1 hx with hx | hx
       ·exact HN.out.2.2 x (List.mem_of_mem_take hx)
       ·rcases List.mem_append.1 hx with hx | hx
        ·obtain rfl := List.mem_singleton.1 hx
         exact key_size HOK.out
        ·exact HN.out.2.2 x (List.mem_of_mem_drop hx)⟩
      replace HV := Aside0.mk ((show wholeV [] (ks.take p ++ ([key] ++ ks.drop p)) (kids.take p1 ++ ([kid] ++ kids.drop p1)) = _ by rw [hp1]).trans HV.out)
      clear R1 R2 R3 R4 l1 l2 l3 l4 q1 q2 q3 q4 hpl hp5 hp1
      generalize ks.take p = K1 at ca HQ HLn HNK HV ⊢
      generalize ks.drop p = K2 at cb HQ HLn HNK HV ⊢
      generalize kids.take p1 = D1 at cc HQ HLn HNK HV ⊢
      generalize kids.drop p1 = D2 at cd HQ HLn HNK HV ⊢
      obtain ⟨KK, hKK⟩ : ∃ l, l = K1 ++ ([key] ++ K2) := ⟨_, rfl⟩
      rw [← hKK] at HNK HV
      obtain ⟨DD, hDD⟩ : ∃ l, l = D1 ++ ([kid] ++ D2) := ⟨_, rfl⟩
      rw [← hDD] at HNK HV
      have k2 : w3.cell? ⟨gn, 2, none⟩ = some (.slice B2 ks.length c2) := (blk_cell HX.out.1 2).trans rfl
      have k3 : w3.cell? ⟨gn, 3, none⟩ = some (.slice B3 kids.length c3) := (blk_cell HX.out.1 3).trans rfl
      refine start_ (n := 32) (S := fun w' => w'.cell? ⟨gn, 2, none⟩ = some (.slice B2 ks.length c2) ∧ w'.cell? ⟨gn, 3, none⟩ = some (.slice B3 kids.length c3)) (ds := []) #[false,false,false,false,false,false,false,false,false,false,false,false,false,false,false,false,false,false,false,false,false,false,false,false,false,false,false,false,false,false,false,false] (by kernel_rfl) rfl rfl (⟨k2, k3⟩) (fun hHeld => ?_)
      have hb : Below w3.heap.size w3 w3.drew := below_drew (Below.refl _ _)
      replace HX := Aside0.mk (And.intro (blk_below HX.out.1 hb) (blk_below HX.out.2 hb))
      replace HB := Aside0.mk (below_then HB.out (below_size HB.out) hb)
      clear hb k2 k3
      generalize w3.drew = w4 at *
      obtain ⟨B4, hB4⟩ : ∃ B, B = w4.heap.size := ⟨_, rfl⟩
      have HSZ : Aside0 (B4 ≤ w4.heap.size) := ⟨Nat.le_of_eq hB4⟩
      have HB4l : Aside0 (W.heap.size ≤ B4) := ⟨by rw [hB4]; exact HB.out.size⟩
      have HLT : Aside0 (gn < B4 ∧ go < B4) := ⟨by rw [hB4]; exact ⟨blk_lt HX.out.1, blk_lt HX.out.2⟩⟩
      clear hB4
      refine pure_ (i := 0) (N := some 36) (v := ?_) (a' := ?_) #[true,false,false,false,false,false,false,false,false,false,false,false,false,false,false,false,false,false,false,false,false,false,false,false,false,false,false,false,false,false,false,false] rfl rfl (by kernel_rfl) (fun _ _ _ h => h) (Or.inl ⟨by rfl, ?_⟩) ?_ ?_
      rotate_left
      ·intro w'
       go_simp
       with_reducible rfl
      rotate_left
      ·simp only [Act.put, List.setIfInBounds_toArray, List.set_cons_zero, List.set_cons_succ, i64_w, i32_w]
       rfl
      refine take_ (i := 1) (N := some 37) (v := ?_) (a' := ?_) #[true,true,false,false,false,false,false,false,false,false,false,false,false,false,false,false,false,false,false,false,false,false,false,false,false,false,false,false,false,false,false,false] rfl rfl (by kernel_rfl) (fun _ _ _ h => h) (Or.inl ⟨by rfl, ?_⟩) hHeld ?_ ?_
      rotate_left
      ·intro w' hS
       go_simp
       with_reducible rfl
      rotate_left
      ·simp only [Act.put, List.setIfInBounds_toArray, List.set_cons_zero, List.set_cons_succ, i64_w, i32_w]
       rfl
      refine pure_ (i := 2) (N := some 38) (v := ?_) (a' := ?_) #[true,true,true,false,false,false,false,false,false,false,false,false,false,false,false,false,false,false,false,false,false,false,false,false,false,false,false,false,false,false,false,false] rfl rfl (by kernel_rfl) (fun _ _ _ h => h) (Or.inl ⟨by rfl, ?_⟩) ?_ ?_
      rotate_left
      ·intro w'
       go_simp
       with_reducible rfl
      rotate_left
      ·simp only [Act.put, List.setIfInBounds_toArray, List.set_cons_zero, List.set_cons_succ, i64_w, i32_w]
       rfl
      refine pure_ (i := 3) (N := some 39) (v := ?_) (a' := ?_) #[true,true,true,true,false,false,false,false,false,false,false,false,false,false,false,false,false,false,false,false,false,false,false,false,false,false,false,false,false,false,false,false] rfl rfl (by kernel_rfl) (fun _ _ _ h => h) (Or.inl ⟨by rfl, ?_⟩) ?_ ?_
      rotate_left
      ·intro w'
       go_simp
       with_reducible rfl
      rotate_left
      ·simp only [Act.put, List.setIfInBounds_toArray, List.set_cons_zero, List.set_cons_succ, i64_w, i32_w]
       rfl
      refine pure_ (i := 4) (N := some 40) (v := ?_) (a' := ?_) #[true,true,true,true,true,false,false,false,false,false,false,false,false,false,false,false,false,false,false,false,false,false,false,false,false,false,false,false,false,false,false,false] rfl rfl (by kernel_rfl) (fun _ _ _ h => h) (Or.inl ⟨by rfl, ?_⟩) ?_ ?_
      rotate_left
      ·intro w'
       go_simp
       with_reducible rfl
      rotate_left
      ·simp only [Act.put, List.setIfInBounds_toArray, List.set_cons_zero, List.set_cons_succ, i64_w, i32_w]
       rfl
      refine pure_ (i := 6) (N := some 42) (v := ?_) (a' := ?_) #[true,true,true,true,true,false,true,false,false,false,false,false,false,false,false,false,false,false,false,false,false,false,false,false,false,false,false,false,false,false,false,false] rfl rfl (by kernel_rfl) (fun _ _ _ h => h) (Or.inl ⟨by rfl, ?_⟩) ?_ ?_
      rotate_left
      ·intro w'
       go_simp
       with_reducible rfl
      rotate_left
      ·simp only [Act.put, List.setIfInBounds_toArray, List.set_cons_zero, List.set_cons_succ, i64_w, i32_w]
       rfl
      refine take_ (i := 7) (N := some 43) (v := ?_) (a' := ?_) #[true,true,true,true,true,false,true,true,false,false,false,false,false,false,false,false,false,false,false,false,false,false,false,false,false,false,false,false,false,false,false,false] rfl rfl (by kernel_rfl) (fun _ _ _ h => h) (Or.inl ⟨by rfl, ?_⟩) hHeld ?_ ?_
      rotate_left
      ·intro w' hS
       go_simp
       with_reducible rfl
      rotate_left
      ·simp only [Act.put, List.setIfInBounds_toArray, List.set_cons_zero, List.set_cons_succ, i64_w, i32_w]
       rfl
      refine pure_ (i := 8) (N := some 44) (v := ?_) (a' := ?_) #[true,true,true,true,true,false,true,true,true,false,false,false,false,false,false,false,false,false,false,false,false,false,false,false,false,false,false,false,false,false,false,false] rfl rfl (by kernel_rfl) (fun _ _ _ h => h) (Or.inl ⟨by rfl, ?_⟩) ?_ ?_
      rotate_left
      ·intro w'
       go_simp
       with_reducible rfl
      rotate_left
      ·simp only [Act.put, List.setIfInBounds_toArray, List.set_cons_zero, List.set_cons_succ, i64_w, i32_w]
       rfl
      refine pure_ (i := 9) (N := some 45) (v := ?_) (a' := ?_) #[true,true,true,true,true,false,true,true,true,true,false,false,false,false,false,false,false,false,false,false,false,false,false,false,false,false,false,false,false,false,false,false] rfl rfl (by kernel_rfl) (fun _ _ _ h => h) (Or.inl ⟨by rfl, ?_⟩) ?_ ?_
      rotate_left
      ·intro w'
       go_simp
       with_reducible rfl
      rotate_left
      ·simp only [Act.put, List.setIfInBounds_toArray, List.set_cons_zero, List.set_cons_succ, i64_w, i32_w]
       rfl
      refine pure_ (i := 12) (N := some 48) (v := ?_) (a' := ?_) #[true,true,true,true,true,false,true,true,true,true,false,false,true,false,false,false,false,false,false,false,false,false,false,false,false,false,false,false,false,false,false,false] rfl rfl (by kernel_rfl) (fun _ _ _ h => h) (Or.inl ⟨by rfl, ?_⟩) ?_ ?_
      rotate_left
      ·intro w'
       go_simp
       with_reducible rfl
      rotate_left
      ·simp only [Act.put, List.setIfInBounds_toArray, List.set_cons_zero, List.set_cons_succ, i64_w, i32_w]
       rfl
      refine take_ (i := 13) (N := some 49) (v := ?_) (a' := ?_) #[true,true,true,true,true,false,true,true,true,true,false,false,true,true,false,false,false,false,false,false,false,false,false,false,false,false,false,false,false,false,false,false] rfl rfl (by kernel_rfl) (fun _ _ _ h => h) (Or.inl ⟨by rfl, ?_⟩) hHeld ?_ ?_
      rotate_left
      ·intro w' hS
       go_simp
       with_reducible rfl
      rotate_left
      ·simp only [Act.put, List.setIfInBounds_toArray, List.set_cons_zero, List.set_cons_succ, i64_w, i32_w]
       rfl
      refine pure_ (i := 14) (N := some 50) (v := ?_) (a' := ?_) #[true,true,true,true,true,false,true,true,true,true,false,false,true,true,true,false,false,false,false,false,false,false,false,false,false,false,false,false,false,false,false,false] rfl rfl (by kernel_rfl) (fun _ _ _ h => h) (Or.inl ⟨by rfl, ?_⟩) ?_ ?_
      rotate_left
      ·intro w'
       go_simp
       with_reducible rfl
      rotate_left
      ·simp only [Act.put, List.setIfInBounds_toArray, List.set_cons_zero, List.set_cons_succ, i64_w, i32_w]
       rfl
      refine pure_ (i := 15) (N := some 51) (v := ?_) (a' := ?_) #[true,true,true,true,true,false,true,true,true,true,false,false,true,true,true,true,false,false,false,false,false,false,false,false,false,false,false,false,false,false,false,false] rfl rfl (by kernel_rfl) (fun _ _ _ h => h) (Or.inl ⟨by rfl, ?_⟩) ?_ ?_
      rotate_left
      ·intro w'
       go_simp
       with_reducible rfl
      rotate_left
      ·simp only [Act.put, List.setIfInBounds_toArray, List.set_cons_zero, List.set_cons_succ, i64_w, i32_w]
       rfl
      refine pure_ (i := 16) (N := some 52) (v := ?_) (a' := ?_) #[true,true,true,true,true,false,true,true,true,true,false,false,true,true,true,true,true,false,false,false,false,false,false,false,false,false,false,false,false,false,false,false] rfl rfl (by kernel_rfl) (fun _ _ _ h => h) (Or.inl ⟨by rfl, ?_⟩) ?_ ?_
      rotate_left
      ·intro w'
       go_simp
       with_reducible rfl
      rotate_left
      ·simp only [Act.put, List.setIfInBounds_toArray, List.set_cons_zero, List.set_cons_succ, i64_w, i32_w]
       rfl
      refine pure_ (i := 17) (N := some 53) (v := ?_) (a' := ?_) #[true,true,true,true,true,false,true,true,true,true,false,false,true,true,true,true,true,true,false,false,false,false,false,false,false,false,false,false,false,false,false,false] rfl rfl (by kernel_rfl) (fun _ _ _ h => h) (Or.inl ⟨by rfl, ?_⟩) ?_ ?_
      rotate_left
      ·intro w'
       go_simp
       with_reducible rfl
      rotate_left
      ·simp only [Act.put, List.setIfInBounds_toArray, List.set_cons_zero, List.set_cons_succ, i64_w, i32_w]
       rfl
      refine pure_ (i := 19) (N := some 55) (v := ?_) (a' := ?_) #[true,true,true,true,true,false,true,true,true,true,false,false,true,true,true,true,true,true,false,true,false,false,false,false,false,false,false,false,false,false,false,false] rfl rfl (by kernel_rfl) (fun _ _ _ h => h) (Or.inl ⟨by rfl, ?_⟩) ?_ ?_
      rotate_left
      ·intro w'
       go_simp
       with_reducible rfl
      rotate_left
      ·simp only [Act.put, List.setIfInBounds_toArray, List.set_cons_zero, List.set_cons_succ, i64_w, i32_w]
       rfl
      refine take_ (i := 20) (N := some 56) (v := ?_) (a' := ?_) #[true,true,true,true,true,false,true,true,true,true,false,false,true,true,true,true,true,true,false,true,true,false,false,false,false,false,false,false,false,false,false,false] rfl rfl (by kernel_rfl) (fun _ _ _ h => h) (Or.inl ⟨by rfl, ?_⟩) hHeld ?_ ?_
      rotate_left
      ·intro w' hS
       go_simp
       with_reducible rfl
      rotate_left
      ·simp only [Act.put, List.setIfInBounds_toArray, List.set_cons_zero, List.set_cons_succ, i64_w, i32_w]
       rfl
      refine pure_ (i := 21) (N := some 57) (v := ?_) (a' := ?_) #[true,true,true,true,true,false,true,true,true,true,false,false,true,true,true,true,true,true,false,true,true,true,false,false,false,false,false,false,false,false,false,false] rfl rfl (by kernel_rfl) (fun _ _ _ h => h) (Or.inl ⟨by rfl, ?_⟩) ?_ ?_
      rotate_left
      ·intro w'
       go_simp
       with_reducible rfl
      rotate_left
      ·simp only [Act.put, List.setIfInBounds_toArray, List.set_cons_zero, List.set_cons_succ, i64_w, i32_w]
       rfl
      refine pure_ (i := 22) (N := some 58) (v := ?_) (a' := ?_) #[true,true,true,true,true,false,true,true,true,true,false,false,true,true,true,true,true,true,false,true,true,true,true,false,false,false,false,false,false,false,false,false] rfl rfl (by kernel_rfl) (fun _ _ _ h => h) (Or.inl ⟨by rfl, ?_⟩) ?_ ?_
      rotate_left
      ·intro w'
       go_simp
       with_reducible rfl
      rotate_left
      ·simp only [Act.put, List.setIfInBounds_toArray, List.set_cons_zero, List.set_cons_succ, i64_w, i32_w]
       rfl
      refine pure_ (i := 23) (N := some 59) (v := ?_) (a' := ?_) #[true,true,true,true,true,false,true,true,true,true,false,false,true,true,true,true,true,true,false,true,true,true,true,true,false,false,false,false,false,false,false,false] rfl rfl (by kernel_rfl) (fun _ _ _ h => h) (Or.inl ⟨by rfl, ?_⟩) ?_ ?_
      rotate_left
      ·intro w'
       go_simp
       with_reducible rfl
      rotate_left
      ·simp only [Act.put, List.setIfInBounds_toArray, List.set_cons_zero, List.set_cons_succ, i64_w, i32_w]
       rfl
      clear hHeld
      apply tail_ (F := fun w g5 g10 g18 g24 vk ck vd cd_ => Aside0 (w.heap[gn]? = some (.cells #[.bool false, .slice B1 cs.length c1, .slice B2 ks.length c2, .slice B3 kids.length c3] 26 (0, 0)) ∧ w.heap[go]? = some (.cells #[.bool false, .slice none 0 0, .slice none 0 0, .slice none 0 0] 26 (0, 0))) ∧ Aside0 (Below W.heap.size W w) ∧ Aside0 (Kd.R Kd.string 9 w W.heap.size (fun k => B4 ≤ k) (.slice vk KK.length ck) KK) ∧ Aside0 (Kd.R (Kd.int .u32) 45 w W.heap.size (fun k => B4 ≤ k) (.slice vd DD.length cd_) DD))
      case main =>
       intro TL
       refine two_ (i := 5) (j := 18) (Ni := some 41) (Nj := some 54) #[true,true,true,true,true,true,true,true,true,true,false,false,true,true,true,true,true,true,false,true,true,true,true,true,false,false,false,false,false,false,false,false] #[true,true,true,true,true,false,true,true,true,true,false,false,true,true,true,true,true,true,true,true,true,true,true,true,false,false,false,false,false,false,false,false] rfl rfl rfl rfl (by kernel_rfl) (by decide) (by decide) (fun K hK => ?_) (fun K hK => ?_)
       ·refine value_ (w1 := ?_) (v := ?_) (by rfl) rfl ?_ ?_
        rotate_left 2
        ·go_simp
         constructor
         ·rfl
         ·rfl
        try clear hHeld
        have HL5 : Aside0 ((w4.alloc (.cells #[.string key] 9)).heap[w4.heap.size]? = some (.cells #[.string key] 9 (0, 0))) := ⟨blk_new _ _⟩
        have hb : Below w4.heap.size w4 (w4.alloc (.cells #[.string key] 9)) := (Below.refl _ _).alloc (Nat.le_refl _) _
        replace HSZ := kS HSZ hb
        replace HX := kX HX hb
        replace HB := kB HB hb
        clear hb
        generalize w4.alloc (.cells #[.string key] 9) = w5 at *
        obtain ⟨g5, hg_⟩ : ∃ g, g = w4.heap.size := ⟨_, rfl⟩
        rw [← hg_] at HL5 ⊢
        clear hg_
        refine hK.out _ _ (⟨(blk_cell HX.out.1 2).trans rfl, (blk_cell HX.out.1 3).trans rfl⟩) (fun hHeld => ?_)
        clear hK K
        refine norm_ (a' := ?_) ?_ ?_
        rotate_left
        ·show Act.put _ (some 41) _ = _
         simp only [Act.put, List.setIfInBounds_toArray, List.set_cons_zero, List.set_cons_succ, i64_w, i32_w]
         rfl
        refine two_ (i := 10) (j := 18) (Ni := some 46) (Nj := some 54) #[true,true,true,true,true,true,true,true,true,true,true,false,true,true,true,true,true,true,false,true,true,true,true,true,false,false,false,false,false,false,false,false] #[true,true,true,true,true,true,true,true,true,true,false,false,true,true,true,true,true,true,true,true,true,true,true,true,false,false,false,false,false,false,false,false] rfl rfl rfl rfl (by kernel_rfl) (by decide) (by decide) (fun K hK => ?_) (fun K hK => ?_)
        ·refine value_ (w1 := ?_) (v := ?_) (by rfl) rfl ?_ ?_
         rotate_left 2
         ·go_simp
          constructor
          ·rfl
          ·rfl
         try clear hHeld
         have HL10 : Aside0 ((w5.alloc (.cells #[.slice B2 K1.length c2, .slice (some ⟨g5, 0, none⟩) 1 1, .slice B2d K2.length (c2 - p)] 23)).heap[w5.heap.size]? = some (.cells #[.slice B2 K1.length c2, .slice (some ⟨g5, 0, none⟩) 1 1, .slice B2d K2.length (c2 - p)] 23 (0, 0))) := ⟨blk_new _ _⟩
         have hb : Below w5.heap.size w5 (w5.alloc (.cells #[.slice B2 K1.length c2, .slice (some ⟨g5, 0, none⟩) 1 1, .slice B2d K2.length (c2 - p)] 23)) := (Below.refl _ _).alloc (Nat.le_refl _) _
         replace HSZ := kS HSZ hb
         replace HX := kX HX hb
         replace HB := kB HB hb
         replace HL5 := kL HL5 hb
         clear hb
         generalize w5.alloc (.cells #[.slice B2 K1.length c2, .slice (some ⟨g5, 0, none⟩) 1 1, .slice B2d K2.length (c2 - p)] 23) = w6 at *
         obtain ⟨g10, hg_⟩ : ∃ g, g = w5.heap.size := ⟨_, rfl⟩
         rw [← hg_] at HL10 ⊢
         clear hg_
         refine hK.out _ _ (⟨(blk_cell HX.out.1 2).trans rfl, (blk_cell HX.out.1 3).trans rfl⟩) (fun hHeld => ?_)
         clear hK K
         refine norm_ (a' := ?_) ?_ ?_
         rotate_left
         ·show Act.put _ (some 46) _ = _
          simp only [Act.put, List.setIfInBounds_toArray, List.set_cons_zero, List.set_cons_succ, i64_w, i32_w]
          rfl
         refine two_ (i := 11) (j := 18) (Ni := some 47) (Nj := some 54) #[true,true,true,true,true,true,true,true,true,true,true,true,true,true,true,true,true,true,false,true,true,true,true,true,false,false,false,false,false,false,false,false] #[true,true,true,true,true,true,true,true,true,true,true,false,true,true,true,true,true,true,true,true,true,true,true,true,false,false,false,false,false,false,false,false] rfl rfl rfl rfl (by kernel_rfl) (by decide) (by decide) (fun K hK => ?_) (fun K hK => ?_)
         ·refine goes_ Try.func80 (by kernel_rfl) rfl #[.slice (some ⟨g10, 0, none⟩) 3 3] (by rfl) rfl rfl (by (try simp only [List.map_toArray, List.map_cons, List.map_nil]); first | done | rfl) ?_
          have hCO := C_one (d := Kd.string) (x := key) rfl rfl HL5.out
          have hCL := C_lit (d := Kd.string) (e := 9) [(B2, c2, K1), (some ⟨g5, 0, none⟩, 1, [key]), (B2d, c2 - p, K2)] (by simp) HL10.out (all3 ⟨HQ.out.2.2.2.2.1, Kd.C_below HQ.out.1 HB.out⟩ ⟨Nat.le_refl _, hCO⟩ ⟨HQ.out.2.2.2.2.2.1, Kd.C_below HQ.out.2.1 HB.out⟩)
          refine (slices_Concat_string_string.calls (some ⟨g10, 0, none⟩) 3 [K1, [key], K2] (K1 ++ ([key] ++ K2)) w6 hCL (Nat.le_refl _) (by unfold slices_Concat_string_string.f; rw [if_pos ⟨by simp, by simpa using HLn.out.1⟩]; simp)).mono ?_
          rintro e_ w7 ⟨v_, rfl, hr_, hb⟩
          refine ⟨_, rfl, ?_⟩
          try clear hHeld
          clear hCL hCO
          rw [← hKK] at hr_
          have HRK := Aside0.mk (R_from hr_ HSZ.out HB4l.out)
          clear hr_
          replace HSZ := kS HSZ hb
          replace HX := kX HX hb
          replace HB := kB HB hb
          replace HL5 := kL HL5 hb
          replace HL10 := kL HL10 hb
          clear hb
          obtain ⟨vk, ck, e9⟩ := Kd.R_slice HRK.out
          subst e9
          refine hK.out _ _ (⟨(blk_cell HX.out.1 2).trans rfl, (blk_cell HX.out.1 3).trans rfl⟩) (fun hHeld => ?_)
          clear hK K
          refine norm_ (a' := ?_) ?_ ?_
          rotate_left
          ·show Act.put _ (some 47) _ = _
           simp only [Act.put, List.setIfInBounds_toArray, List.set_cons_zero, List.set_cons_succ, i64_w, i32_w]
           rfl
          refine one_ (i := 18) (N := some 54) #[true,true,true,true,true,true,true,true,true,true,true,true,true,true,true,true,true,true,true,true,true,true,true,true,false,false,false,false,false,false,false,false] rfl rfl (by kernel_rfl) (by decide) (fun K hK => ?_)
          refine value_ (w1 := ?_) (v := ?_) (by rfl) rfl ?_ ?_
          rotate_left 2
          ·go_simp
           constructor
           ·rfl
           ·rfl
          try clear hHeld
          have HL18 : Aside0 ((w7.alloc (.cells #[.int .u32 kid] 45)).heap[w7.heap.size]? = some (.cells #[.int .u32 kid] 45 (0, 0))) := ⟨blk_new _ _⟩
          have hb : Below w7.heap.size w7 (w7.alloc (.cells #[.int .u32 kid] 45)) := (Below.refl _ _).alloc (Nat.le_refl _) _
          replace HSZ := kS HSZ hb
          replace HX := kX HX hb
          replace HB := kB HB hb
          replace HL5 := kL HL5 hb
          replace HL10 := kL HL10 hb
          replace HRK := kR HRK hb
          clear hb
          generalize w7.alloc (.cells #[.int .u32 kid] 45) = w8 at *
          obtain ⟨g18, hg_⟩ : ∃ g, g = w7.heap.size := ⟨_, rfl⟩
          rw [← hg_] at HL18 ⊢
          clear hg_
          refine hK.out _ _ (⟨(blk_cell HX.out.1 2).trans rfl, (blk_cell HX.out.1 3).trans rfl⟩) (fun hHeld => ?_)
          clear hK K
          refine norm_ (a' := ?_) ?_ ?_
          rotate_left
          ·show Act.put _ (some 54) _ = _
           simp only [Act.put, List.setIfInBounds_toArray, List.set_cons_zero, List.set_cons_succ, i64_w, i32_w]
           rfl
          refine one_ (i := 24) (N := some 60) #[true,true,true,true,true,true,true,true,true,true,true,true,true,true,true,true,true,true,true,true,true,true,true,true,true,false,false,false,false,false,false,false] rfl rfl (by kernel_rfl) (by decide) (fun K hK => ?_)
          refine value_ (w1 := ?_) (v := ?_) (by rfl) rfl ?_ ?_
          rotate_left 2
          ·go_simp
           constructor
           ·rfl
           ·rfl
          try clear hHeld
          have HL24 : Aside0 ((w8.alloc (.cells #[.slice B3 D1.length c3, .slice (some ⟨g18, 0, none⟩) 1 1, .slice B3d D2.length (c3 - p1)] 24)).heap[w8.heap.size]? = some (.cells #[.slice B3 D1.length c3, .slice (some ⟨g18, 0, none⟩) 1 1, .slice B3d D2.length (c3 - p1)] 24 (0, 0))) := ⟨blk_new _ _⟩
          have hb : Below w8.heap.size w8 (w8.alloc (.cells #[.slice B3 D1.length c3, .slice (some ⟨g18, 0, none⟩) 1 1, .slice B3d D2.length (c3 - p1)] 24)) := (Below.refl _ _).alloc (Nat.le_refl _) _
          replace HSZ := kS HSZ hb
          replace HX := kX HX hb
          replace HB := kB HB hb
          replace HL5 := kL HL5 hb
          replace HL10 := kL HL10 hb
          replace HRK := kR HRK hb
          replace HL18 := kL HL18 hb
          clear hb
          generalize w8.alloc (.cells #[.slice B3 D1.length c3, .slice (some ⟨g18, 0, none⟩) 1 1, .slice B3d D2.length (c3 - p1)] 24) = w9 at *
          obtain ⟨g24, hg_⟩ : ∃ g, g = w8.heap.size := ⟨_, rfl⟩
          rw [← hg_] at HL24 ⊢
          clear hg_
          refine hK.out _ _ (⟨(blk_cell HX.out.1 2).trans rfl, (blk_cell HX.out.1 3).trans rfl⟩) (fun hHeld => ?_)
          clear hK K
          refine norm_ (a' := ?_) ?_ ?_
          rotate_left
          ·show Act.put _ (some 60) _ = _
           simp only [Act.put, List.setIfInBounds_toArray, List.set_cons_zero, List.set_cons_succ, i64_w, i32_w]
           rfl
          refine one_ (i := 25) (N := some 61) #[true,true,true,true,true,true,true,true,true,true,true,true,true,true,true,true,true,true,true,true,true,true,true,true,true,true,false,false,false,false,false,false] rfl rfl (by kernel_rfl) (by decide) (fun K hK => ?_)
          refine goes_ Try.func81 (by kernel_rfl) rfl #[.slice (some ⟨g24, 0, none⟩) 3 3] (by rfl) rfl rfl (by (try simp only [List.map_toArray, List.map_cons, List.map_nil]); first | done | rfl) ?_
          have hCO := C_one (d := (Kd.int .u32)) (x := kid) rfl rfl HL18.out
          have hCL := C_lit (d := (Kd.int .u32)) (e := 45) [(B3, c3, D1), (some ⟨g18, 0, none⟩, 1, [kid]), (B3d, c3 - p1, D2)] (by simp) HL24.out (all3 ⟨HQ.out.2.2.2.2.2.2.1, Kd.C_below HQ.out.2.2.1 HB.out⟩ ⟨Nat.le_refl _, hCO⟩ ⟨HQ.out.2.2.2.2.2.2.2, Kd.C_below HQ.out.2.2.2.1 HB.out⟩)
          refine (slices_Concat_uint32_uint32.calls (some ⟨g24, 0, none⟩) 3 [D1, [kid], D2] (D1 ++ ([kid] ++ D2)) w9 hCL (Nat.le_refl _) (by unfold slices_Concat_uint32_uint32.f; rw [if_pos ⟨by simp, by simpa using HLn.out.2⟩]; simp)).mono ?_
          rintro e_ w10 ⟨v_, rfl, hr_, hb⟩
          refine ⟨_, rfl, ?_⟩
          try clear hHeld
          clear hCL hCO
          rw [← hDD] at hr_
          have HRD := Aside0.mk (R_from hr_ HSZ.out HB4l.out)
          clear hr_
          replace HSZ := kS HSZ hb
          replace HX := kX HX hb
          replace HB := kB HB hb
          replace HL5 := kL HL5 hb
          replace HL10 := kL HL10 hb
          replace HRK := kR HRK hb
          replace HL18 := kL HL18 hb
          replace HL24 := kL HL24 hb
          clear hb
          obtain ⟨vd, cd_, e9⟩ := Kd.R_slice HRD.out
          subst e9
          refine hK.out _ _ (⟨(blk_cell HX.out.1 2).trans rfl, (blk_cell HX.out.1 3).trans rfl⟩) (fun hHeld => ?_)
          clear hK K
          refine norm_ (a' := ?_) ?_ ?_
          rotate_left
          ·show Act.put _ (some 61) _ = _
           simp only [Act.put, List.setIfInBounds_toArray, List.set_cons_zero, List.set_cons_succ, i64_w, i32_w]
           rfl
          exact TL w10 g5 g10 g18 g24 vk ck vd cd_ ⟨HX, HB, HRK, HRD⟩
         ·refine value_ (w1 := ?_) (v := ?_) (by rfl) rfl ?_ ?_
          rotate_left 2
          ·go_simp
           constructor
           ·rfl
           ·rfl
          try clear hHeld
          have HL18 : Aside0 ((w6.alloc (.cells #[.int .u32 kid] 45)).heap[w6.heap.size]? = some (.cells #[.int .u32 kid] 45 (0, 0))) := ⟨blk_new _ _⟩
          have hb : Below w6.heap.size w6 (w6.alloc (.cells #[.int .u32 kid] 45)) := (Below.refl _ _).alloc (Nat.le_refl _) _
          replace HSZ := kS HSZ hb
          replace HX := kX HX hb
          replace HB := kB HB hb
          replace HL5 := kL HL5 hb
          replace HL10 := kL HL10 hb
          clear hb
          generalize w6.alloc (.cells #[.int .u32 kid] 45) = w7 at *
          obtain ⟨g18, hg_⟩ : ∃ g, g = w6.heap.size := ⟨_, rfl⟩
          rw [← hg_] at HL18 ⊢
          clear hg_
          refine hK.out _ _ (⟨(blk_cell HX.out.1 2).trans rfl, (blk_cell HX.out.1 3).trans rfl⟩) (fun hHeld => ?_)
          clear hK K
          refine norm_ (a' := ?_) ?_ ?_
          rotate_left
          ·show Act.put _ (some 54) _ = _
           simp only [Act.put, List.setIfInBounds_toArray, List.set_cons_zero, List.set_cons_succ, i64_w, i32_w]
           rfl
          refine two_ (i := 11) (j := 24) (Ni := some 47) (Nj := some 60) #[true,true,true,true,true,true,true,true,true,true,true,true,true,true,true,true,true,true,true,true,true,true,true,true,false,false,false,false,false,false,false,false] #[true,true,true,true,true,true,true,true,true,true,true,false,true,true,true,true,true,true,true,true,true,true,true,true,true,false,false,false,false,false,false,false] rfl rfl rfl rfl (by kernel_rfl) (by decide) (by decide) (fun K hK => ?_) (fun K hK => ?_)
          ·refine goes_ Try.func80 (by kernel_rfl) rfl #[.slice (some ⟨g10, 0, none⟩) 3 3] (by rfl) rfl rfl (by (try simp only [List.map_toArray, List.map_cons, List.map_nil]); first | done | rfl) ?_
           have hCO := C_one (d := Kd.string) (x := key) rfl rfl HL5.out
           have hCL := C_lit (d := Kd.string) (e := 9) [(B2, c2, K1), (some ⟨g5, 0, none⟩, 1, [key]), (B2d, c2 - p, K2)] (by simp) HL10.out (all3 ⟨HQ.out.2.2.2.2.1, Kd.C_below HQ.out.1 HB.out⟩ ⟨Nat.le_refl _, hCO⟩ ⟨HQ.out.2.2.2.2.2.1, Kd.C_below HQ.out.2.1 HB.out⟩)
           refine (slices_Concat_string_string.calls (some ⟨g10, 0, none⟩) 3 [K1, [key], K2] (K1 ++ ([key] ++ K2)) w7 hCL (Nat.le_refl _) (by unfold slices_Concat_string_string.f; rw [if_pos ⟨by simp, by simpa using HLn.out.1⟩]; simp)).mono ?_
           rintro e_ w8 ⟨v_, rfl, hr_, hb⟩
           refine ⟨_, rfl, ?_⟩
           try clear hHeld
           clear hCL hCO
           rw [← hKK] at hr_
           have HRK := Aside0.mk (R_from hr_ HSZ.out HB4l.out)
           clear hr_
           replace HSZ := kS HSZ hb
           replace HX := kX HX hb
           replace HB := kB HB hb
           replace HL5 := kL HL5 hb
           replace HL10 := kL HL10 hb
           replace HL18 := kL HL18 hb
           clear hb
           obtain ⟨vk, ck, e9⟩ := Kd.R_slice HRK.out
           subst e9
           refine hK.out _ _ (⟨(blk_cell HX.out.1 2).trans rfl, (blk_cell HX.out.1 3).trans rfl⟩) (fun hHeld => ?_)
           clear hK K
           refine norm_ (a' := ?_) ?_ ?_
           rotate_left
           ·show Act.put _ (some 47) _ = _
            simp only [Act.put, List.setIfInBounds_toArray, List.set_cons_zero, List.set_cons_succ, i64_w, i32_w]
            rfl
           refine one_ (i := 24) (N := some 60) #[true,true,true,true,true,true,true,true,true,true,true,true,true,true,true,true,true,true,true,true,true,true,true,true,true,false,false,false,false,false,false,false] rfl rfl (by kernel_rfl) (by decide) (fun K hK => ?_)
           refine value_ (w1 := ?_) (v := ?_) (by rfl) rfl ?_ ?_
           rotate_left 2
           ·go_simp
            constructor
            ·rfl
            ·rfl
           try clear hHeld
           have HL24 : Aside0 ((w8.alloc (.cells #[.slice B3 D1.length c3, .slice (some ⟨g18, 0, none⟩) 1 1, .slice B3d D2.length (c3 - p1)] 24)).heap[w8.heap.size]? = some (.cells #[.slice B3 D1.length c3, .slice (some ⟨g18, 0, none⟩) 1 1, .slice B3d D2.length (c3 - p1)] 24 (0, 0))) := ⟨blk_new _ _⟩
           have hb : Below w8.heap.size w8 (w8.alloc (.cells #[.slice B3 D1.length c3, .slice (some ⟨g18, 0, none⟩) 1 1, .slice B3d D2.length (c3 - p1)] 24)) := (Below.refl _ _).alloc (Nat.le_refl _) _
           replace HSZ := kS HSZ hb
           replace HX := kX HX hb
           replace HB := kB HB hb
           replace HL5 := kL HL5 hb
           replace HL10 := kL HL10 hb
           replace HL18 := kL HL18 hb
           replace HRK := kR HRK hb
           clear hb
           generalize w8.alloc (.cells #[.slice B3 D1.length c3, .slice (some ⟨g18, 0, none⟩) 1 1, .slice B3d D2.length (c3 - p1)] 24) = w9 at *
           obtain ⟨g24, hg_⟩ : ∃ g, g = w8.heap.size := ⟨_, rfl⟩
           rw [← hg_] at HL24 ⊢
           clear hg_
           refine hK.out _ _ (⟨(blk_cell HX.out.1 2).trans rfl, (blk_cell HX.out.1 3).trans rfl⟩) (fun hHeld => ?_)
           clear hK K
           refine norm_ (a' := ?_) ?_ ?_
           rotate_left
           ·show Act.put _ (some 60) _ = _
            simp only [Act.put, List.setIfInBounds_toArray, List.set_cons_zero, List.set_cons_succ, i64_w, i32_w]
            rfl
           refine one_ (i := 25) (N := some 61) #[true,true,true,true,true,true,true,true,true,true,true,true,true,true,true,true,true,true,true,true,true,true,true,true,true,true,false,false,false,false,false,false] rfl rfl (by kernel_rfl) (by decide) (fun K hK => ?_)
           refine goes_ Try.func81 (by kernel_rfl) rfl #[.slice (some ⟨g24, 0, none⟩) 3 3] (by rfl) rfl rfl (by (try simp only [List.map_toArray, List.map_cons, List.map_nil]); first | done | rfl) ?_
           have hCO := C_one (d := (Kd.int .u32)) (x := kid) rfl rfl HL18.out
           have hCL := C_lit (d := (Kd.int .u32)) (e := 45) [(B3, c3, D1), (some ⟨g18, 0, none⟩, 1, [kid]), (B3d, c3 - p1, D2)] (by simp) HL24.out (all3 ⟨HQ.out.2.2.2.2.2.2.1, Kd.C_below HQ.out.2.2.1 HB.out⟩ ⟨Nat.le_refl _, hCO⟩ ⟨HQ.out.2.2.2.2.2.2.2, Kd.C_below HQ.out.2.2.2.1 HB.out⟩)
           refine (slices_Concat_uint32_uint32.calls (some ⟨g24, 0, none⟩) 3 [D1, [kid], D2] (D1 ++ ([kid] ++ D2)) w9 hCL (Nat.le_refl _) (by unfold slices_Concat_uint32_uint32.f; rw [if_pos ⟨by simp, by simpa using HLn.out.2⟩]; simp)).mono ?_
           rintro e_ w10 ⟨v_, rfl, hr_, hb⟩
           refine ⟨_, rfl, ?_⟩
           try clear hHeld
           clear hCL hCO
           rw [← hDD] at hr_
           have HRD := Aside0.mk (R_from hr_ HSZ.out HB4l.out)
           clear hr_
           replace HSZ := kS HSZ hb
           replace HX := kX HX hb
           replace HB := kB HB hb
           replace HL5 := kL HL5 hb
           replace HL10 := kL HL10 hb
           replace HL18 := kL HL18 hb
           replace HRK := kR HRK hb
           replace HL24 := kL HL24 hb
           clear hb
           obtain ⟨vd, cd_, e9⟩ := Kd.R_slice HRD.out
           subst e9
           refine hK.out _ _ (⟨(blk_cell HX.out.1 2).trans rfl, (blk_cell HX.out.1 3).trans rfl⟩) (fun hHeld => ?_)
           clear hK K
           refine norm_ (a' := ?_) ?_ ?_
           rotate_left
           ·show Act.put _ (some 61) _ = _
            simp only [Act.put, List.setIfInBounds_toArray, List.set_cons_zero, List.set_cons_succ, i64_w, i32_w]
            rfl
           exact TL w10 g5 g10 g18 g24 vk ck vd cd_ ⟨HX, HB, HRK, HRD⟩
          ·refine value_ (w1 := ?_) (v := ?_) (by rfl) rfl ?_ ?_
           rotate_left 2
           ·go_simp
            constructor
            ·rfl
            ·rfl
           try clear hHeld
           have HL24 : Aside0 ((w7.alloc (.cells #[.slice B3 D1.length c3, .slice (some ⟨g18, 0, none⟩) 1 1, .slice B3d D2.length (c3 - p1)] 24)).heap[w7.heap.size]? = some (.cells #[.slice B3 D1.length c3, .slice (some ⟨g18, 0, none⟩) 1 1, .slice B3d D2.length (c3 - p1)] 24 (0, 0))) := ⟨blk_new _ _⟩
           have hb : Below w7.heap.size w7 (w7.alloc (.cells #[.slice B3 D1.length c3, .slice (some ⟨g18, 0, none⟩) 1 1, .slice B3d D2.length (c3 - p1)] 24)) := (Below.refl _ _).alloc (Nat.le_refl _) _
           replace HSZ := kS HSZ hb
           replace HX := kX HX hb
           replace HB := kB HB hb
           replace HL5 := kL HL5 hb
           replace HL10 := kL HL10 hb
           replace HL18 := kL HL18 hb
           clear hb
           generalize w7.alloc (.cells #[.slice B3 D1.length c3, .slice (some ⟨g18, 0, none⟩) 1 1, .slice B3d D2.length (c3 - p1)] 24) = w8 at *
           obtain ⟨g24, hg_⟩ : ∃ g, g = w7.heap.size := ⟨_, rfl⟩
           rw [← hg_] at HL24 ⊢
           clear hg_
           refine hK.out _ _ (⟨(blk_cell HX.out.1 2).trans rfl, (blk_cell HX.out.1 3).trans rfl⟩) (fun hHeld => ?_)
           clear hK K
           refine norm_ (a' := ?_) ?_ ?_
           rotate_left
           ·show Act.put _ (some 60) _ = _
            simp only [Act.put, List.setIfInBounds_toArray, List.set_cons_zero, List.set_cons_succ, i64_w, i32_w]
            rfl
           refine one_ (i := 11) (N := some 47) #[true,true,true,true,true,true,true,true,true,true,true,true,true,true,true,true,true,true,true,true,true,true,true,true,true,false,false,false,false,false,false,false] rfl rfl (by kernel_rfl) (by decide) (fun K hK => ?_)
           refine goes_ Try.func80 (by kernel_rfl) rfl #[.slice (some ⟨g10, 0, none⟩) 3 3] (by rfl) rfl rfl (by (try simp only [List.map_toArray, List.map_cons, List.map_nil]); first | done | rfl) ?_
           have hCO := C_one (d := Kd.string) (x := key) rfl rfl HL5.out
           have hCL := C_lit (d := Kd.string) (e := 9) [(B2, c2, K1), (some ⟨g5, 0, none⟩, 1, [key]), (B2d, c2 - p, K2)] (by simp) HL10.out (all3 ⟨HQ.out.2.2.2.2.1, Kd.C_below HQ.out.1 HB.out⟩ ⟨Nat.le_refl _, hCO⟩ ⟨HQ.out.2.2.2.2.2.1, Kd.C_below HQ.out.2.1 HB.out⟩)
           refine (slices_Concat_string_string.calls (some ⟨g10, 0, none⟩) 3 [K1, [key], K2] (K1 ++ ([key] ++ K2)) w8 hCL (Nat.le_refl _) (by unfold slices_Concat_string_string.f; rw [if_pos ⟨by simp, by simpa using HLn.out.1⟩]; simp)).mono ?_
           rintro e_ w9 ⟨v_, rfl, hr_, hb⟩
           refine ⟨_, rfl, ?_⟩
           try clear hHeld
           clear hCL hCO
           rw [← hKK] at hr_
           have HRK := Aside0.mk (R_from hr_ HSZ.out HB4l.out)
           clear hr_
           replace HSZ := kS HSZ hb
           replace HX := kX HX hb
           replace HB := kB HB hb
           replace HL5 := kL HL5 hb
           replace HL10 := kL HL10 hb
           replace HL18 := kL HL18 hb
           replace HL24 := kL HL24 hb
           clear hb
           obtain ⟨vk, ck, e9⟩ := Kd.R_slice HRK.out
           subst e9
           refine hK.out _ _ (⟨(blk_cell HX.out.1 2).trans rfl, (blk_cell HX.out.1 3).trans rfl⟩) (fun hHeld => ?_)
           clear hK K
           refine norm_ (a' := ?_) ?_ ?_
           rotate_left
           ·show Act.put _ (some 47) _ = _
            simp only [Act.put, List.setIfInBounds_toArray, List.set_cons_zero, List.set_cons_succ, i64_w, i32_w]
            rfl
           refine one_ (i := 25) (N := some 61) #[true,true,true,true,true,true,true,true,true,true,true,true,true,true,true,true,true,true,true,true,true,true,true,true,true,true,false,false,false,false,false,false] rfl rfl (by kernel_rfl) (by decide) (fun K hK => ?_)
           refine goes_ Try.func81 (by kernel_rfl) rfl #[.slice (some ⟨g24, 0, none⟩) 3 3] (by rfl) rfl rfl (by (try simp only [List.map_toArray, List.map_cons, List.map_nil]); first | done | rfl) ?_
           have hCO := C_one (d := (Kd.int .u32)) (x := kid) rfl rfl HL18.out
           have hCL := C_lit (d := (Kd.int .u32)) (e := 45) [(B3, c3, D1), (some ⟨g18, 0, none⟩, 1, [kid]), (B3d, c3 - p1, D2)] (by simp) HL24.out (all3 ⟨HQ.out.2.2.2.2.2.2.1, Kd.C_below HQ.out.2.2.1 HB.out⟩ ⟨Nat.le_refl _, hCO⟩ ⟨HQ.out.2.2.2.2.2.2.2, Kd.C_below HQ.out.2.2.2.1 HB.out⟩)
           refine (slices_Concat_uint32_uint32.calls (some ⟨g24, 0, none⟩) 3 [D1, [kid], D2] (D1 ++ ([kid] ++ D2)) w9 hCL (Nat.le_refl _) (by unfold slices_Concat_uint32_uint32.f; rw [if_pos ⟨by simp, by simpa using HLn.out.2⟩]; simp)).mono ?_
           rintro e_ w10 ⟨v_, rfl, hr_, hb⟩
           refine ⟨_, rfl, ?_⟩
           try clear hHeld
           clear hCL hCO
           rw [← hDD] at hr_
           have HRD := Aside0.mk (R_from hr_ HSZ.out HB4l.out)
           clear hr_
           replace HSZ := kS HSZ hb
           replace HX := kX HX hb
           replace HB := kB HB hb
           replace HL5 := kL HL5 hb
           replace HL10 := kL HL10 hb
           replace HL18 := kL HL18 hb
           replace HL24 := kL HL24 hb
           replace HRK := kR HRK hb
           clear hb
           obtain ⟨vd, cd_, e9⟩ := Kd.R_slice HRD.out
           subst e9
           refine hK.out _ _ (⟨(blk_cell HX.out.1 2).trans rfl, (blk_cell HX.out.1 3).trans rfl⟩) (fun hHeld => ?_)
           clear hK K
           refine norm_ (a' := ?_) ?_ ?_
           rotate_left
           ·show Act.put _ (some 61) _ = _
            simp only [Act.put, List.setIfInBounds_toArray, List.set_cons_zero, List.set_cons_succ, i64_w, i32_w]
            rfl
           exact TL w10 g5 g10 g18 g24 vk ck vd cd_ ⟨HX, HB, HRK, HRD⟩
        ·refine value_ (w1 := ?_) (v := ?_) (by rfl) rfl ?_ ?_
         rotate_left 2
         ·go_simp
          constructor
          ·rfl
          ·rfl
         try clear hHeld
         have HL18 : Aside0 ((w5.alloc (.cells #[.int .u32 kid] 45)).heap[w5.heap.size]? = some (.cells #[.int .u32 kid] 45 (0, 0))) := ⟨blk_new _ _⟩
         have hb : Below w5.heap.size w5 (w5.alloc (.cells #[.int .u32 kid] 45)) := (Below.refl _ _).alloc (Nat.le_refl _) _
         replace HSZ := kS HSZ hb
         replace HX := kX HX hb
         replace HB := kB HB hb
         replace HL5 := kL HL5 hb
         clear hb
         generalize w5.alloc (.cells #[.int .u32 kid] 45) = w6 at *
         obtain ⟨g18, hg_⟩ : ∃ g, g = w5.heap.size := ⟨_, rfl⟩
         rw [← hg_] at HL18 ⊢
         clear hg_
         refine hK.out _ _ (⟨(blk_cell HX.out.1 2).trans rfl, (blk_cell HX.out.1 3).trans rfl⟩) (fun hHeld => ?_)
         clear hK K
         refine norm_ (a' := ?_) ?_ ?_
         rotate_left
         ·show Act.put _ (some 54) _ = _
          simp only [Act.put, List.setIfInBounds_toArray, List.set_cons_zero, List.set_cons_succ, i64_w, i32_w]
          rfl
         refine two_ (i := 10) (j := 24) (Ni := some 46) (Nj := some 60) #[true,true,true,true,true,true,true,true,true,true,true,false,true,true,true,true,true,true,true,true,true,true,true,true,false,false,false,false,false,false,false,false] #[true,true,true,true,true,true,true,true,true,true,false,false,true,true,true,true,true,true,true,true,true,true,true,true,true,false,false,false,false,false,false,false] rfl rfl rfl rfl (by kernel_rfl) (by decide) (by decide) (fun K hK => ?_) (fun K hK => ?_)
         ·refine value_ (w1 := ?_) (v := ?_) (by rfl) rfl ?_ ?_
          rotate_left 2
          ·go_simp
           constructor
           ·rfl
           ·rfl
          try clear hHeld
          have HL10 : Aside0 ((w6.alloc (.cells #[.slice B2 K1.length c2, .slice (some ⟨g5, 0, none⟩) 1 1, .slice B2d K2.length (c2 - p)] 23)).heap[w6.heap.size]? = some (.cells #[.slice B2 K1.length c2, .slice (some ⟨g5, 0, none⟩) 1 1, .slice B2d K2.length (c2 - p)] 23 (0, 0))) := ⟨blk_new _ _⟩
          have hb : Below w6.heap.size w6 (w6.alloc (.cells #[.slice B2 K1.length c2, .slice (some ⟨g5, 0, none⟩) 1 1, .slice B2d K2.length (c2 - p)] 23)) := (Below.refl _ _).alloc (Nat.le_refl _) _
          replace HSZ := kS HSZ hb
          replace HX := kX HX hb
          replace HB := kB HB hb
          replace HL5 := kL HL5 hb
          replace HL18 := kL HL18 hb
          clear hb
          generalize w6.alloc (.cells #[.slice B2 K1.length c2, .slice (some ⟨g5, 0, none⟩) 1 1, .slice B2d K2.length (c2 - p)] 23) = w7 at *
          obtain ⟨g10, hg_⟩ : ∃ g, g = w6.heap.size := ⟨_, rfl⟩
          rw [← hg_] at HL10 ⊢
          clear hg_
          refine hK.out _ _ (⟨(blk_cell HX.out.1 2).trans rfl, (blk_cell HX.out.1 3).trans rfl⟩) (fun hHeld => ?_)
          clear hK K
          refine norm_ (a' := ?_) ?_ ?_
          rotate_left
          ·show Act.put _ (some 46) _ = _
           simp only [Act.put, List.setIfInBounds_toArray, List.set_cons_zero, List.set_cons_succ, i64_w, i32_w]
           rfl
          refine two_ (i := 11) (j := 24) (Ni := some 47) (Nj := some 60) #[true,true,true,true,true,true,true,true,true,true,true,true,true,true,true,true,true,true,true,true,true,true,true,true,false,false,false,false,false,false,false,false] #[true,true,true,true,true,true,true,true,true,true,true,false,true,true,true,true,true,true,true,true,true,true,true,true,true,false,false,false,false,false,false,false] rfl rfl rfl rfl (by kernel_rfl) (by decide) (by decide) (fun K hK => ?_) (fun K hK => ?_)
          ·refine goes_ Try.func80 (by kernel_rfl) rfl #[.slice (some ⟨g10, 0, none⟩) 3 3] (by rfl) rfl rfl (by (try simp only [List.map_toArray, List.map_cons, List.map_nil]); first | done | rfl) ?_
           have hCO := C_one (d := Kd.string) (x := key) rfl rfl HL5.out
           have hCL := C_lit (d := Kd.string) (e := 9) [(B2, c2, K1), (some ⟨g5, 0, none⟩, 1, [key]), (B2d, c2 - p, K2)] (by simp) HL10.out (all3 ⟨HQ.out.2.2.2.2.1, Kd.C_below HQ.out.1 HB.out⟩ ⟨Nat.le_refl _, hCO⟩ ⟨HQ.out.2.2.2.2.2.1, Kd.C_below HQ.out.2.1 HB.out⟩)
           refine (slices_Concat_string_string.calls (some ⟨g10, 0, none⟩) 3 [K1, [key], K2] (K1 ++ ([key] ++ K2)) w7 hCL (Nat.le_refl _) (by unfold slices_Concat_string_string.f; rw [if_pos ⟨by simp, by simpa using HLn.out.1⟩]; simp)).mono ?_
           rintro e_ w8 ⟨v_, rfl, hr_, hb⟩
           refine ⟨_, rfl, ?_⟩
           try clear hHeld
           clear hCL hCO
           rw [← hKK] at hr_
           have HRK := Aside0.mk (R_from hr_ HSZ.out HB4l.out)
           clear hr_
           replace HSZ := kS HSZ hb
           replace HX := kX HX hb
           replace HB := kB HB hb
           replace HL5 := kL HL5 hb
           replace HL18 := kL HL18 hb
           replace HL10 := kL HL10 hb
           clear hb
           obtain ⟨vk, ck, e9⟩ := Kd.R_slice HRK.out
           subst e9
           refine hK.out _ _ (⟨(blk_cell HX.out.1 2).trans rfl, (blk_cell HX.out.1 3).trans rfl⟩) (fun hHeld => ?_)
           clear hK K
           refine norm_ (a' := ?_) ?_ ?_
           rotate_left
           ·show Act.put _ (some 47) _ = _
            simp only [Act.put, List.setIfInBounds_toArray, List.set_cons_zero, List.set_cons_succ, i64_w, i32_w]
            rfl
           refine one_ (i := 24) (N := some 60) #[true,true,true,true,true,true,true,true,true,true,true,true,true,true,true,true,true,true,true,true,true,true,true,true,true,false,false,false,false,false,false,false] rfl rfl (by kernel_rfl) (by decide) (fun K hK => ?_)
           refine value_ (w1 := ?_) (v := ?_) (by rfl) rfl ?_ ?_
           rotate_left 2
           ·go_simp
            constructor
            ·rfl
            ·rfl
           try clear hHeld
           have HL24 : Aside0 ((w8.alloc (.cells #[.slice B3 D1.length c3, .slice (some ⟨g18, 0, none⟩) 1 1, .slice B3d D2.length (c3 - p1)] 24)).heap[w8.heap.size]? = some (.cells #[.slice B3 D1.length c3, .slice (some ⟨g18, 0, none⟩) 1 1, .slice B3d D2.length (c3 - p1)] 24 (0, 0))) := ⟨blk_new _ _⟩
           have hb : Below w8.heap.size w8 (w8.alloc (.cells #[.slice B3 D1.length c3, .slice (some ⟨g18, 0, none⟩) 1 1, .slice B3d D2.length (c3 - p1)] 24)) := (Below.refl _ _).alloc (Nat.le_refl _) _
           replace HSZ := kS HSZ hb
           replace HX := kX HX hb
           replace HB := kB HB hb
           replace HL5 := kL HL5 hb
           replace HL18 := kL HL18 hb
           replace HL10 := kL HL10 hb
           replace HRK := kR HRK hb
           clear hb
           generalize w8.alloc (.cells #[.slice B3 D1.length c3, .slice (some ⟨g18, 0, none⟩) 1 1, .slice B3d D2.length (c3 - p1)] 24) = w9 at *
           obtain ⟨g24, hg_⟩ : ∃ g, g = w8.heap.size := ⟨_, rfl⟩
           rw [← hg_] at HL24 ⊢
           clear hg_
           refine hK.out _ _ (⟨(blk_cell HX.out.1 2).trans rfl, (blk_cell HX.out.1 3).trans rfl⟩) (fun hHeld => ?_)
           clear hK K
           refine norm_ (a' := ?_) ?_ ?_
           rotate_left
           ·show Act.put _ (some 60) _ = _
            simp only [Act.put, List.setIfInBounds_toArray, List.set_cons_zero, List.set_cons_succ, i64_w, i32_w]
            rfl
           refine one_ (i := 25) (N := some 61) #[true,true,true,true,true,true,true,true,true,true,true,true,true,true,true,true,true,true,true,true,true,true,true,true,true,true,false,false,false,false,false,false] rfl rfl (by kernel_rfl) (by decide) (fun K hK => ?_)
           refine goes_ Try.func81 (by kernel_rfl) rfl #[.slice (some ⟨g24, 0, none⟩) 3 3] (by rfl) rfl rfl (by (try simp only [List.map_toArray, List.map_cons, List.map_nil]); first | done | rfl) ?_
           have hCO := C_one (d := (Kd.int .u32)) (x := kid) rfl rfl HL18.out
           have hCL := C_lit (d := (Kd.int .u32)) (e := 45) [(B3, c3, D1), (some ⟨g18, 0, none⟩, 1, [kid]), (B3d, c3 - p1, D2)] (by simp) HL24.out (all3 ⟨HQ.out.2.2.2.2.2.2.1, Kd.C_below HQ.out.2.2.1 HB.out⟩ ⟨Nat.le_refl _, hCO⟩ ⟨HQ.out.2.2.2.2.2.2.2, Kd.C_below HQ.out.2.2.2.1 HB.out⟩)
           refine (slices_Concat_uint32_uint32.calls (some ⟨g24, 0, none⟩) 3 [D1, [kid], D2] (D1 ++ ([kid] ++ D2)) w9 hCL (Nat.le_refl _) (by unfold slices_Concat_uint32_uint32.f; rw [if_pos ⟨by simp, by simpa using HLn.out.2⟩]; simp)).mono ?_
           rintro e_ w10 ⟨v_, rfl, hr_, hb⟩
           refine ⟨_, rfl, ?_⟩
           try clear hHeld
           clear hCL hCO
           rw [← hDD] at hr_
           have HRD := Aside0.mk (R_from hr_ HSZ.out HB4l.out)
           clear hr_
           replace HSZ := kS HSZ hb
           replace HX := kX HX hb
           replace HB := kB HB hb
           replace HL5 := kL HL5 hb
           replace HL18 := kL HL18 hb
           replace HL10 := kL HL10 hb
           replace HRK := kR HRK hb
           replace HL24 := kL HL24 hb
           clear hb
           obtain ⟨vd, cd_, e9⟩ := Kd.R_slice HRD.out
           subst e9
           refine hK.out _ _ (⟨(blk_cell HX.out.1 2).trans rfl, (blk_cell HX.out.1 3).trans rfl⟩) (fun hHeld => ?_)
           clear hK K
           refine norm_ (a' := ?_) ?_ ?_
           rotate_left
           ·show Act.put _ (some 61) _ = _
            simp only [Act.put, List.setIfInBounds_toArray, List.set_cons_zero, List.set_cons_succ, i64_w, i32_w]
            rfl
           exact TL w10 g5 g10 g18 g24 vk ck vd cd_ ⟨HX, HB, HRK, HRD⟩
          ·refine value_ (w1 := ?_) (v := ?_) (by rfl) rfl ?_ ?_
           rotate_left 2
           ·go_simp
            constructor
            ·rfl
            ·rfl
           try clear hHeld
           have HL24 : Aside0 ((w7.alloc (.cells #[.slice B3 D1.length c3, .slice (some ⟨g18, 0, none⟩) 1 1, .slice B3d D2.length (c3 - p1)] 24)).heap[w7.heap.size]? = some (.cells #[.slice B3 D1.length c3, .slice (some ⟨g18, 0, none⟩) 1 1, .slice B3d D2.length (c3 - p1)] 24 (0, 0))) := ⟨blk_new _ _⟩
           have hb : Below w7.heap.size w7 (w7.alloc (.cells #[.slice B3 D1.length c3, .slice (some ⟨g18, 0, none⟩) 1 1, .slice B3d D2.length (c3 - p1)] 24)) := (Below.refl _ _).alloc (Nat.le_refl _) _
           replace HSZ := kS HSZ hb
           replace HX := kX HX hb
           replace HB := kB HB hb
           replace HL5 := kL HL5 hb
           replace HL18 := kL HL18 hb
           replace HL10 := kL HL10 hb
           clear hb
           generalize w7.alloc (.cells #[.slice B3 D1.length c3, .slice (some ⟨g18, 0, none⟩) 1 1, .slice B3d D2.length (c3 - p1)] 24) = w8 at *
           obtain ⟨g24, hg_⟩ : ∃ g, g = w7.heap.size := ⟨_, rfl⟩
           rw [← hg_] at HL24 ⊢
           clear hg_
           refine hK.out _ _ (⟨(blk_cell HX.out.1 2).trans rfl, (blk_cell HX.out.1 3).trans rfl⟩) (fun hHeld => ?_)
           clear hK K
           refine norm_ (a' := ?_) ?_ ?_
           rotate_left
           ·show Act.put _ (some 60) _ = _
            simp only [Act.put, List.setIfInBounds_toArray, List.set_cons_zero, List.set_cons_succ, i64_w, i32_w]
            rfl
           refine one_ (i := 11) (N := some 47) #[true,true,true,true,true,true,true,true,true,true,true,true,true,true,true,true,true,true,true,true,true,true,true,true,true,false,false,false,false,false,false,false] rfl rfl (by kernel_rfl) (by decide) (fun K hK => ?_)
           refine goes_ Try.func80 (by kernel_rfl) rfl #[.slice (some ⟨g10, 0, none⟩) 3 3] (by rfl) rfl rfl (by (try simp only [List.map_toArray, List.map_cons, List.map_nil]); first | done | rfl) ?_
           have hCO := C_one (d := Kd.string) (x := key) rfl rfl HL5.out
           have hCL := C_lit (d := Kd.string) (e := 9) [(B2, c2, K1), (some ⟨g5, 0, none⟩, 1, [key]), (B2d, c2 - p, K2)] (by simp) HL10.out (all3 ⟨HQ.out.2.2.2.2.1, Kd.C_below HQ.out.1 HB.out⟩ ⟨Nat.le_refl _, hCO⟩ ⟨HQ.out.2.2.2.2.2.1, Kd.C_below HQ.out.2.1 HB.out⟩)
           refine (slices_Concat_string_string.calls (some ⟨g10, 0, none⟩) 3 [K1, [key], K2] (K1 ++ ([key] ++ K2)) w8 hCL (Nat.le_refl _) (by unfold slices_Concat_string_string.f; rw [if_pos ⟨by simp, by simpa using HLn.out.1⟩]; simp)).mono ?_
           rintro e_ w9 ⟨v_, rfl, hr_, hb⟩
           refine ⟨_, rfl, ?_⟩
           try clear hHeld
           clear hCL hCO
           rw [← hKK] at hr_
           have HRK := Aside0.mk (R_from hr_ HSZ.out HB4l.out)
           clear hr_
           replace HSZ := kS HSZ hb
           replace HX := kX HX hb
           replace HB := kB HB hb
           replace HL5 := kL HL5 hb
           replace HL18 := kL HL18 hb
           replace HL10 := kL HL10 hb
           replace HL24 := kL HL24 hb
           clear hb
           obtain ⟨vk, ck, e9⟩ := Kd.R_slice HRK.out
           subst e9
           refine hK.out _ _ (⟨(blk_cell HX.out.1 2).trans rfl, (blk_cell HX.out.1 3).trans rfl⟩) (fun hHeld => ?_)
           clear hK K
           refine norm_ (a' := ?_) ?_ ?_
           rotate_left
           ·show Act.put _ (some 47) _ = _
            simp only [Act.put, List.setIfInBounds_toArray, List.set_cons_zero, List.set_cons_succ, i64_w, i32_w]
            rfl
           refine one_ (i := 25) (N := some 61) #[true,true,true,true,true,true,true,true,true,true,true,true,true,true,true,true,true,true,true,true,true,true,true,true,true,true,false,false,false,false,false,false] rfl rfl (by kernel_rfl) (by decide) (fun K hK => ?_)
           refine goes_ Try.func81 (by kernel_rfl) rfl #[.slice (some ⟨g24, 0, none⟩) 3 3] (by rfl) rfl rfl (by (try simp only [List.map_toArray, List.map_cons, List.map_nil]); first | done | rfl) ?_
           have hCO := C_one (d := (Kd.int .u32)) (x := kid) rfl rfl HL18.out
           have hCL := C_lit (d := (Kd.int .u32)) (e := 45) [(B3, c3, D1), (some ⟨g18, 0, none⟩, 1, [kid]), (B3d, c3 - p1, D2)] (by simp) HL24.out (all3 ⟨HQ.out.2.2.2.2.2.2.1, Kd.C_below HQ.out.2.2.1 HB.out⟩ ⟨Nat.le_refl _, hCO⟩ ⟨HQ.out.2.2.2.2.2.2.2, Kd.C_below HQ.out.2.2.2.1 HB.out⟩)
           refine (slices_Concat_uint32_uint32.calls (some ⟨g24, 0, none⟩) 3 [D1, [kid], D2] (D1 ++ ([kid] ++ D2)) w9 hCL (Nat.le_refl _) (by unfold slices_Concat_uint32_uint32.f; rw [if_pos ⟨by simp, by simpa using HLn.out.2⟩]; simp)).mono ?_
           rintro e_ w10 ⟨v_, rfl, hr_, hb⟩
           refine ⟨_, rfl, ?_⟩
           try clear hHeld
           clear hCL hCO
           rw [← hDD] at hr_
           have HRD := Aside0.mk (R_from hr_ HSZ.out HB4l.out)
           clear hr_
           replace HSZ := kS HSZ hb
           replace HX := kX HX hb
           replace HB := kB HB hb
           replace HL5 := kL HL5 hb
           replace HL18 := kL HL18 hb
           replace HL10 := kL HL10 hb
           replace HL24 := kL HL24 hb
           replace HRK := kR HRK hb
           clear hb
           obtain ⟨vd, cd_, e9⟩ := Kd.R_slice HRD.out
           subst e9
           refine hK.out _ _ (⟨(blk_cell HX.out.1 2).trans rfl, (blk_cell HX.out.1 3).trans rfl⟩) (fun hHeld => ?_)
           clear hK K
           refine norm_ (a' := ?_) ?_ ?_
           rotate_left
           ·show Act.put _ (some 61) _ = _
            simp only [Act.put, List.setIfInBounds_toArray, List.set_cons_zero, List.set_cons_succ, i64_w, i32_w]
            rfl
           exact TL w10 g5 g10 g18 g24 vk ck vd cd_ ⟨HX, HB, HRK, HRD⟩
         ·refine value_ (w1 := ?_) (v := ?_) (by rfl) rfl ?_ ?_
          rotate_left 2
          ·go_simp
           constructor
           ·rfl
           ·rfl
          try clear hHeld
          have HL24 : Aside0 ((w6.alloc (.cells #[.slice B3 D1.length c3, .slice (some ⟨g18, 0, none⟩) 1 1, .slice B3d D2.length (c3 - p1)] 24)).heap[w6.heap.size]? = some (.cells #[.slice B3 D1.length c3, .slice (some ⟨g18, 0, none⟩) 1 1, .slice B3d D2.length (c3 - p1)] 24 (0, 0))) := ⟨blk_new _ _⟩
          have hb : Below w6.heap.size w6 (w6.alloc (.cells #[.slice B3 D1.length c3, .slice (some ⟨g18, 0, none⟩) 1 1, .slice B3d D2.length (c3 - p1)] 24)) := (Below.refl _ _).alloc (Nat.le_refl _) _
          replace HSZ := kS HSZ hb
          replace HX := kX HX hb
          replace HB := kB HB hb
          replace HL5 := kL HL5 hb
          replace HL18 := kL HL18 hb
          clear hb
          generalize w6.alloc (.cells #[.slice B3 D1.length c3, .slice (some ⟨g18, 0, none⟩) 1 1, .slice B3d D2.length (c3 - p1)] 24) = w7 at *
          obtain ⟨g24, hg_⟩ : ∃ g, g = w6.heap.size := ⟨_, rfl⟩
          rw [← hg_] at HL24 ⊢
          clear hg_
          refine hK.out _ _ (⟨(blk_cell HX.out.1 2).trans rfl, (blk_cell HX.out.1 3).trans rfl⟩) (fun hHeld => ?_)
          clear hK K
          refine norm_ (a' := ?_) ?_ ?_
          rotate_left
          ·show Act.put _ (some 60) _ = _
           simp only [Act.put, List.setIfInBounds_toArray, List.set_cons_zero, List.set_cons_succ, i64_w, i32_w]
           rfl
          refine one_ (i := 10) (N := some 46) #[true,true,true,true,true,true,true,true,true,true,true,false,true,true,true,true,true,true,true,true,true,true,true,true,true,false,false,false,false,false,false,false] rfl rfl (by kernel_rfl) (by decide) (fun K hK => ?_)
          refine value_ (w1 := ?_) (v := ?_) (by rfl) rfl ?_ ?_
          rotate_left 2
          ·go_simp
           constructor
           ·rfl
           ·rfl
          try clear hHeld
          have HL10 : Aside0 ((w7.alloc (.cells #[.slice B2 K1.length c2, .slice (some ⟨g5, 0, none⟩) 1 1, .slice B2d K2.length (c2 - p)] 23)).heap[w7.heap.size]? = some (.cells #[.slice B2 K1.length c2, .slice (some ⟨g5, 0, none⟩) 1 1, .slice B2d K2.length (c2 - p)] 23 (0, 0))) := ⟨blk_new _ _⟩
          have hb : Below w7.heap.size w7 (w7.alloc (.cells #[.slice B2 K1.length c2, .slice (some ⟨g5, 0, none⟩) 1 1, .slice B2d K2.length (c2 - p)] 23)) := (Below.refl _ _).alloc (Nat.le_refl _) _
          replace HSZ := kS HSZ hb
          replace HX := kX HX hb
          replace HB := kB HB hb
          replace HL5 := kL HL5 hb
          replace HL18 := kL HL18 hb
          replace HL24 := kL HL24 hb
          clear hb
          generalize w7.alloc (.cells #[.slice B2 K1.length c2, .slice (some ⟨g5, 0, none⟩) 1 1, .slice B2d K2.length (c2 - p)] 23) = w8 at *
          obtain ⟨g10, hg_⟩ : ∃ g, g = w7.heap.size := ⟨_, rfl⟩
          rw [← hg_] at HL10 ⊢
          clear hg_
          refine hK.out _ _ (⟨(blk_cell HX.out.1 2).trans rfl, (blk_cell HX.out.1 3).trans rfl⟩) (fun hHeld => ?_)
          clear hK K
          refine norm_ (a' := ?_) ?_ ?_
          rotate_left
          ·show Act.put _ (some 46) _ = _
           simp only [Act.put, List.setIfInBounds_toArray, List.set_cons_zero, List.set_cons_succ, i64_w, i32_w]
           rfl
          refine one_ (i := 11) (N := some 47) #[true,true,true,true,true,true,true,true,true,true,true,true,true,true,true,true,true,true,true,true,true,true,true,true,true,false,false,false,false,false,false,false] rfl rfl (by kernel_rfl) (by decide) (fun K hK => ?_)
          refine goes_ Try.func80 (by kernel_rfl) rfl #[.slice (some ⟨g10, 0, none⟩) 3 3] (by rfl) rfl rfl (by (try simp only [List.map_toArray, List.map_cons, List.map_nil]); first | done | rfl) ?_
          have hCO := C_one (d := Kd.string) (x := key) rfl rfl HL5.out
          have hCL := C_lit (d := Kd.string) (e := 9) [(B2, c2, K1), (some ⟨g5, 0, none⟩, 1, [key]), (B2d, c2 - p, K2)] (by simp) HL10.out (all3 ⟨HQ.out.2.2.2.2.1, Kd.C_below HQ.out.1 HB.out⟩ ⟨Nat.le_refl _, hCO⟩ ⟨HQ.out.2.2.2.2.2.1, Kd.C_below HQ.out.2.1 HB.out⟩)
          refine (slices_Concat_string_string.calls (some ⟨g10, 0, none⟩) 3 [K1, [key], K2] (K1 ++ ([key] ++ K2)) w8 hCL (Nat.le_refl _) (by unfold slices_Concat_string_string.f; rw [if_pos ⟨by simp, by simpa using HLn.out.1⟩]; simp)).mono ?_
          rintro e_ w9 ⟨v_, rfl, hr_, hb⟩
          refine ⟨_, rfl, ?_⟩
          try clear hHeld
          clear hCL hCO
          rw [← hKK] at hr_
          have HRK := Aside0.mk (R_from hr_ HSZ.out HB4l.out)
          clear hr_
          replace HSZ := kS HSZ hb
          replace HX := kX HX hb
          replace HB := kB HB hb
          replace HL5 := kL HL5 hb
          replace HL18 := kL HL18 hb
          replace HL24 := kL HL24 hb
          replace HL10 := kL HL10 hb
          clear hb
          obtain ⟨vk, ck, e9⟩ := Kd.R_slice HRK.out
          subst e9
          refine hK.out _ _ (⟨(blk_cell HX.out.1 2).trans rfl, (blk_cell HX.out.1 3).trans rfl⟩) (fun hHeld => ?_)
          clear hK K
          refine norm_ (a' := ?_) ?_ ?_
          rotate_left
          ·show Act.put _ (some 47) _ = _
           simp only [Act.put, List.setIfInBounds_toArray, List.set_cons_zero, List.set_cons_succ, i64_w, i32_w]
           rfl
          refine one_ (i := 25) (N := some 61) #[true,true,true,true,true,true,true,true,true,true,true,true,true,true,true,true,true,true,true,true,true,true,true,true,true,true,false,false,false,false,false,false] rfl rfl (by kernel_rfl) (by decide) (fun K hK => ?_)
          refine goes_ Try.func81 (by kernel_rfl) rfl #[.slice (some ⟨g24, 0, none⟩) 3 3] (by rfl) rfl rfl (by (try simp only [List.map_toArray, List.map_cons, List.map_nil]); first | done | rfl) ?_
          have hCO := C_one (d := (Kd.int .u32)) (x := kid) rfl rfl HL18.out
          have hCL := C_lit (d := (Kd.int .u32)) (e := 45) [(B3, c3, D1), (some ⟨g18, 0, none⟩, 1, [kid]), (B3d, c3 - p1, D2)] (by simp) HL24.out (all3 ⟨HQ.out.2.2.2.2.2.2.1, Kd.C_below HQ.out.2.2.1 HB.out⟩ ⟨Nat.le_refl _, hCO⟩ ⟨HQ.out.2.2.2.2.2.2.2, Kd.C_below HQ.out.2.2.2.1 HB.out⟩)
          refine (slices_Concat_uint32_uint32.calls (some ⟨g24, 0, none⟩) 3 [D1, [kid], D2] (D1 ++ ([kid] ++ D2)) w9 hCL (Nat.le_refl _) (by unfold slices_Concat_uint32_uint32.f; rw [if_pos ⟨by simp, by simpa using HLn.out.2⟩]; simp)).mono ?_
          rintro e_ w10 ⟨v_, rfl, hr_, hb⟩
          refine ⟨_, rfl, ?_⟩
          try clear hHeld
          clear hCL hCO
          rw [← hDD] at hr_
          have HRD := Aside0.mk (R_from hr_ HSZ.out HB4l.out)
          clear hr_
          replace HSZ := kS HSZ hb
          replace HX := kX HX hb
          replace HB := kB HB hb
          replace HL5 := kL HL5 hb
          replace HL18 := kL HL18 hb
          replace HL24 := kL HL24 hb
          replace HL10 := kL HL10 hb
          replace HRK := kR HRK hb
          clear hb
          obtain ⟨vd, cd_, e9⟩ := Kd.R_slice HRD.out
          subst e9
          refine hK.out _ _ (⟨(blk_cell HX.out.1 2).trans rfl, (blk_cell HX.out.1 3).trans rfl⟩) (fun hHeld => ?_)
          clear hK K
          refine norm_ (a' := ?_) ?_ ?_
          rotate_left
          ·show Act.put _ (some 61) _ = _
           simp only [Act.put, List.setIfInBounds_toArray, List.set_cons_zero, List.set_cons_succ, i64_w, i32_w]
           rfl
          exact TL w10 g5 g10 g18 g24 vk ck vd cd_ ⟨HX, HB, HRK, HRD⟩
       ·refine value_ (w1 := ?_) (v := ?_) (by rfl) rfl ?_ ?_
        rotate_left 2
        ·go_simp
         constructor
         ·rfl
         ·rfl
        try clear hHeld
        have HL18 : Aside0 ((w4.alloc (.cells #[.int .u32 kid] 45)).heap[w4.heap.size]? = some (.cells #[.int .u32 kid] 45 (0, 0))) := ⟨blk_new _ _⟩
        have hb : Below w4.heap.size w4 (w4.alloc (.cells #[.int .u32 kid] 45)) := (Below.refl _ _).alloc (Nat.le_refl _) _
        replace HSZ := kS HSZ hb
        replace HX := kX HX hb
        replace HB := kB HB hb
        clear hb
        generalize w4.alloc (.cells #[.int .u32 kid] 45) = w5 at *
        obtain ⟨g18, hg_⟩ : ∃ g, g = w4.heap.size := ⟨_, rfl⟩
        rw [← hg_] at HL18 ⊢
        clear hg_
        refine hK.out _ _ (⟨(blk_cell HX.out.1 2).trans rfl, (blk_cell HX.out.1 3).trans rfl⟩) (fun hHeld => ?_)
        clear hK K
        refine norm_ (a' := ?_) ?_ ?_
        rotate_left
        ·show Act.put _ (some 54) _ = _
         simp only [Act.put, List.setIfInBounds_toArray, List.set_cons_zero, List.set_cons_succ, i64_w, i32_w]
         rfl
        refine two_ (i := 5) (j := 24) (Ni := some 41) (Nj := some 60) #[true,true,true,true,true,true,true,true,true,true,false,false,true,true,true,true,true,true,true,true,true,true,true,true,false,false,false,false,false,false,false,false] #[true,true,true,true,true,false,true,true,true,true,false,false,true,true,true,true,true,true,true,true,true,true,true,true,true,false,false,false,false,false,false,false] rfl rfl rfl rfl (by kernel_rfl) (by decide) (by decide) (fun K hK => ?_) (fun K hK => ?_)
        ·refine value_ (w1 := ?_) (v := ?_) (by rfl) rfl ?_ ?_
         rotate_left 2
         ·go_simp
          constructor
          ·rfl
          ·rfl
         try clear hHeld
         have HL5 : Aside0 ((w5.alloc (.cells #[.string key] 9)).heap[w5.heap.size]? = some (.cells #[.string key] 9 (0, 0))) := ⟨blk_new _ _⟩
         have hb : Below w5.heap.size w5 (w5.alloc (.cells #[.string key] 9)) := (Below.refl _ _).alloc (Nat.le_refl _) _
         replace HSZ := kS HSZ hb
         replace HX := kX HX hb
         replace HB := kB HB hb
         replace HL18 := kL HL18 hb
         clear hb
         generalize w5.alloc (.cells #[.string key] 9) = w6 at *
         obtain ⟨g5, hg_⟩ : ∃ g, g = w5.heap.size := ⟨_, rfl⟩
         rw [← hg_] at HL5 ⊢
         clear hg_
         refine hK.out _ _ (⟨(blk_cell HX.out.1 2).trans rfl, (blk_cell HX.out.1 3).trans rfl⟩) (fun hHeld => ?_)
         clear hK K
         refine norm_ (a' := ?_) ?_ ?_
         rotate_left
         ·show Act.put _ (some 41) _ = _
          simp only [Act.put, List.setIfInBounds_toArray, List.set_cons_zero, List.set_cons_succ, i64_w, i32_w]
          rfl
         refine two_ (i := 10) (j := 24) (Ni := some 46) (Nj := some 60) #[true,true,true,true,true,true,true,true,true,true,true,false,true,true,true,true,true,true,true,true,true,true,true,true,false,false,false,false,false,false,false,false] #[true,true,true,true,true,true,true,true,true,true,false,false,true,true,true,true,true,true,true,true,true,true,true,true,true,false,false,false,false,false,false,false] rfl rfl rfl rfl (by kernel_rfl) (by decide) (by decide) (fun K hK => ?_) (fun K hK => ?_)
         ·refine value_ (w1 := ?_) (v := ?_) (by rfl) rfl ?_ ?_
          rotate_left 2
          ·go_simp
           constructor
           ·rfl
           ·rfl
          try clear hHeld
          have HL10 : Aside0 ((w6.alloc (.cells #[.slice B2 K1.length c2, .slice (some ⟨g5, 0, none⟩) 1 1, .slice B2d K2.length (c2 - p)] 23)).heap[w6.heap.size]? = some (.cells #[.slice B2 K1.length c2, .slice (some ⟨g5, 0, none⟩) 1 1, .slice B2d K2.length (c2 - p)] 23 (0, 0))) := ⟨blk_new _ _⟩
          have hb : Below w6.heap.size w6 (w6.alloc (.cells #[.slice B2 K1.length c2, .slice (some ⟨g5, 0, none⟩) 1 1, .slice B2d K2.length (c2 - p)] 23)) := (Below.refl _ _).alloc (Nat.le_refl _) _
          replace HSZ := kS HSZ hb
          replace HX := kX HX hb
          replace HB := kB HB hb
          replace HL18 := kL HL18 hb
          replace HL5 := kL HL5 hb
          clear hb
          generalize w6.alloc (.cells #[.slice B2 K1.length c2, .slice (some ⟨g5, 0, none⟩) 1 1, .slice B2d K2.length (c2 - p)] 23) = w7 at *
          obtain ⟨g10, hg_⟩ : ∃ g, g = w6.heap.size := ⟨_, rfl⟩
          rw [← hg_] at HL10 ⊢
          clear hg_
          refine hK.out _ _ (⟨(blk_cell HX.out.1 2).trans rfl, (blk_cell HX.out.1 3).trans rfl⟩) (fun hHeld => ?_)
          clear hK K
          refine norm_ (a' := ?_) ?_ ?_
          rotate_left
          ·show Act.put _ (some 46) _ = _
           simp only [Act.put, List.setIfInBounds_toArray, List.set_cons_zero, List.set_cons_succ, i64_w, i32_w]
           rfl
          refine two_ (i := 11) (j := 24) (Ni := some 47) (Nj := some 60) #[true,true,true,true,true,true,true,true,true,true,true,true,true,true,true,true,true,true,true,true,true,true,true,true,false,false,false,false,false,false,false,false] #[true,true,true,true,true,true,true,true,true,true,true,false,true,true,true,true,true,true,true,true,true,true,true,true,true,false,false,false,false,false,false,false] rfl rfl rfl rfl (by kernel_rfl) (by decide) (by decide) (fun K hK => ?_) (fun K hK => ?_)
          ·refine goes_ Try.func80 (by kernel_rfl) rfl #[.slice (some ⟨g10, 0, none⟩) 3 3] (by rfl) rfl rfl (by (try simp only [List.map_toArray, List.map_cons, List.map_nil]); first | done | rfl) ?_
           have hCO := C_one (d := Kd.string) (x := key) rfl rfl HL5.out
           have hCL := C_lit (d := Kd.string) (e := 9) [(B2, c2, K1), (some ⟨g5, 0, none⟩, 1, [key]), (B2d, c2 - p, K2)] (by simp) HL10.out (all3 ⟨HQ.out.2.2.2.2.1, Kd.C_below HQ.out.1 HB.out⟩ ⟨Nat.le_refl _, hCO⟩ ⟨HQ.out.2.2.2.2.2.1, Kd.C_below HQ.out.2.1 HB.out⟩)
           refine (slices_Concat_string_string.calls (some ⟨g10, 0, none⟩) 3 [K1, [key], K2] (K1 ++ ([key] ++ K2)) w7 hCL (Nat.le_refl _) (by unfold slices_Concat_string_string.f; rw [if_pos ⟨by simp, by simpa using HLn.out.1⟩]; simp)).mono ?_
           rintro e_ w8 ⟨v_, rfl, hr_, hb⟩
           refine ⟨_, rfl, ?_⟩
           try clear hHeld
           clear hCL hCO
           rw [← hKK] at hr_
           have HRK := Aside0.mk (R_from hr_ HSZ.out HB4l.out)
           clear hr_
           replace HSZ := kS HSZ hb
           replace HX := kX HX hb
           replace HB := kB HB hb
           replace HL18 := kL HL18 hb
           replace HL5 := kL HL5 hb
           replace HL10 := kL HL10 hb
           clear hb
           obtain ⟨vk, ck, e9⟩ := Kd.R_slice HRK.out
           subst e9
           refine hK.out _ _ (⟨(blk_cell HX.out.1 2).trans rfl, (blk_cell HX.out.1 3).trans rfl⟩) (fun hHeld => ?_)
           clear hK K
           refine norm_ (a' := ?_) ?_ ?_
           rotate_left
           ·show Act.put _ (some 47) _ = _
            simp only [Act.put, List.setIfInBounds_toArray, List.set_cons_zero, List.set_cons_succ, i64_w, i32_w]
            rfl
           refine one_ (i := 24) (N := some 60) #[true,true,true,true,true,true,true,true,true,true,true,true,true,true,true,true,true,true,true,true,true,true,true,true,true,false,false,false,false,false,false,false] rfl rfl (by kernel_rfl) (by decide) (fun K hK => ?_)
           refine value_ (w1 := ?_) (v := ?_) (by rfl) rfl ?_ ?_
           rotate_left 2
           ·go_simp
            constructor
            ·rfl
            ·rfl
           try clear hHeld
           have HL24 : Aside0 ((w8.alloc (.cells #[.slice B3 D1.length c3, .slice (some ⟨g18, 0, none⟩) 1 1, .slice B3d D2.length (c3 - p1)] 24)).heap[w8.heap.size]? = some (.cells #[.slice B3 D1.length c3, .slice (some ⟨g18, 0, none⟩) 1 1, .slice B3d D2.length (c3 - p1)] 24 (0, 0))) := ⟨blk_new _ _⟩
           have hb : Below w8.heap.size w8 (w8.alloc (.cells #[.slice B3 D1.length c3, .slice (some ⟨g18, 0, none⟩) 1 1, .slice B3d D2.length (c3 - p1)] 24)) := (Below.refl _ _).alloc (Nat.le_refl _) _
           replace HSZ := kS HSZ hb
           replace HX := kX HX hb
           replace HB := kB HB hb
           replace HL18 := kL HL18 hb
           replace HL5 := kL HL5 hb
           replace HL10 := kL HL10 hb
           replace HRK := kR HRK hb
           clear hb
           generalize w8.alloc (.cells #[.slice B3 D1.length c3, .slice (some ⟨g18, 0, none⟩) 1 1, .slice B3d D2.length (c3 - p1)] 24) = w9 at *
           obtain ⟨g24, hg_⟩ : ∃ g, g = w8.heap.size := ⟨_, rfl⟩
           rw [← hg_] at HL24 ⊢
           clear hg_
           refine hK.out _ _ (⟨(blk_cell HX.out.1 2).trans rfl, (blk_cell HX.out.1 3).trans rfl⟩) (fun hHeld => ?_)
           clear hK K
           refine norm_ (a' := ?_) ?_ ?_
           rotate_left
           ·show Act.put _ (some 60) _ = _
            simp only [Act.put, List.setIfInBounds_toArray, List.set_cons_zero, List.set_cons_succ, i64_w, i32_w]
            rfl
           refine one_ (i := 25) (N := some 61) #[true,true,true,true,true,true,true,true,true,true,true,true,true,true,true,true,true,true,true,true,true,true,true,true,true,true,false,false,false,false,false,false] rfl rfl (by kernel_rfl) (by decide) (fun K hK => ?_)
           refine goes_ Try.func81 (by kernel_rfl) rfl #[.slice (some ⟨g24, 0, none⟩) 3 3] (by rfl) rfl rfl (by (try simp only [List.map_toArray, List.map_cons, List.map_nil]); first | done | rfl) ?_
           have hCO := C_one (d := (Kd.int .u32)) (x := kid) rfl rfl HL18.out
           have hCL := C_lit (d := (Kd.int .u32)) (e := 45) [(B3, c3, D1), (some ⟨g18, 0, none⟩, 1, [kid]), (B3d, c3 - p1, D2)] (by simp) HL24.out (all3 ⟨HQ.out.2.2.2.2.2.2.1, Kd.C_below HQ.out.2.2.1 HB.out⟩ ⟨Nat.le_refl _, hCO⟩ ⟨HQ.out.2.2.2.2.2.2.2, Kd.C_below HQ.out.2.2.2.1 HB.out⟩)
           refine (slices_Concat_uint32_uint32.calls (some ⟨g24, 0, none⟩) 3 [D1, [kid], D2] (D1 ++ ([kid] ++ D2)) w9 hCL (Nat.le_refl _) (by unfold slices_Concat_uint32_uint32.f; rw [if_pos ⟨by simp, by simpa using HLn.out.2⟩]; simp)).mono ?_
           rintro e_ w10 ⟨v_, rfl, hr_, hb⟩
           refine ⟨_, rfl, ?_⟩
           try clear hHeld
           clear hCL hCO
           rw [← hDD] at hr_
           have HRD := Aside0.mk (R_from hr_ HSZ.out HB4l.out)
           clear hr_
           replace HSZ := kS HSZ hb
           replace HX := kX HX hb
           replace HB := kB HB hb
           replace HL18 := kL HL18 hb
           replace HL5 := kL HL5 hb
           replace HL10 := kL HL10 hb
           replace HRK := kR HRK hb
           replace HL24 := kL HL24 hb
           clear hb
           obtain ⟨vd, cd_, e9⟩ := Kd.R_slice HRD.out
           subst e9
           refine hK.out _ _ (⟨(blk_cell HX.out.1 2).trans rfl, (blk_cell HX.out.1 3).trans rfl⟩) (fun hHeld => ?_)
           clear hK K
           refine norm_ (a' := ?_) ?_ ?_
           rotate_left
           ·show Act.put _ (some 61) _ = _
            simp only [Act.put, List.setIfInBounds_toArray, List.set_cons_zero, List.set_cons_succ, i64_w, i32_w]
            rfl
           exact TL w10 g5 g10 g18 g24 vk ck vd cd_ ⟨HX, HB, HRK, HRD⟩
          ·refine value_ (w1 := ?_) (v := ?_) (by rfl) rfl ?_ ?_
           rotate_left 2
           ·go_simp
            constructor
            ·rfl
            ·rfl
           try clear hHeld
           have HL24 : Aside0 ((w7.alloc (.cells #[.slice B3 D1.length c3, .slice (some ⟨g18, 0, none⟩) 1 1, .slice B3d D2.length (c3 - p1)] 24)).heap[w7.heap.size]? = some (.cells #[.slice B3 D1.length c3, .slice (some ⟨g18, 0, none⟩) 1 1, .slice B3d D2.length (c3 - p1)] 24 (0, 0))) := ⟨blk_new _ _⟩
           have hb : Below w7.heap.size w7 (w7.alloc (.cells #[.slice B3 D1.length c3, .slice (some ⟨g18, 0, none⟩) 1 1, .slice B3d D2.length (c3 - p1)] 24)) := (Below.refl _ _).alloc (Nat.le_refl _) _
           replace HSZ := kS HSZ hb
           replace HX := kX HX hb
           replace HB := kB HB hb
           replace HL18 := kL HL18 hb
           replace HL5 := kL HL5 hb
           replace HL10 := kL HL10 hb
           clear hb
           generalize w7.alloc (.cells #[.slice B3 D1.length c3, .slice (some ⟨g18, 0, none⟩) 1 1, .slice B3d D2.length (c3 - p1)] 24) = w8 at *
           obtain ⟨g24, hg_⟩ : ∃ g, g = w7.heap.size := ⟨_, rfl⟩
           rw [← hg_] at HL24 ⊢
           clear hg_
           refine hK.out _ _ (⟨(blk_cell HX.out.1 2).trans rfl, (blk_cell HX.out.1 3).trans rfl⟩) (fun hHeld => ?_)
           clear hK K
           refine norm_ (a' := ?_) ?_ ?_
           rotate_left
           ·show Act.put _ (some 60) _ = _
            simp only [Act.put, List.setIfInBounds_toArray, List.set_cons_zero, List.set_cons_succ, i64_w, i32_w]
            rfl
           refine one_ (i := 11) (N := some 47) #[true,true,true,true,true,true,true,true,true,true,true,true,true,true,true,true,true,true,true,true,true,true,true,true,true,false,false,false,false,false,false,false] rfl rfl (by kernel_rfl) (by decide) (fun K hK => ?_)
           refine goes_ Try.func80 (by kernel_rfl) rfl #[.slice (some ⟨g10, 0, none⟩) 3 3] (by rfl) rfl rfl (by (try simp only [List.map_toArray, List.map_cons, List.map_nil]); first | done | rfl) ?_
           have hCO := C_one (d := Kd.string) (x := key) rfl rfl HL5.out
           have hCL := C_lit (d := Kd.string) (e := 9) [(B2, c2, K1), (some ⟨g5, 0, none⟩, 1, [key]), (B2d, c2 - p, K2)] (by simp) HL10.out (all3 ⟨HQ.out.2.2.2.2.1, Kd.C_below HQ.out.1 HB.out⟩ ⟨Nat.le_refl _, hCO⟩ ⟨HQ.out.2.2.2.2.2.1, Kd.C_below HQ.out.2.1 HB.out⟩)
           refine (slices_Concat_string_string.calls (some ⟨g10, 0, none⟩) 3 [K1, [key], K2] (K1 ++ ([key] ++ K2)) w8 hCL (Nat.le_refl _) (by unfold slices_Concat_string_string.f; rw [if_pos ⟨by simp, by simpa using HLn.out.1⟩]; simp)).mono ?_
           rintro e_ w9 ⟨v_, rfl, hr_, hb⟩
           refine ⟨_, rfl, ?_⟩
           try clear hHeld
           clear hCL hCO
           rw [← hKK] at hr_
           have HRK := Aside0.mk (R_from hr_ HSZ.out HB4l.out)
           clear hr_
           replace HSZ := kS HSZ hb
           replace HX := kX HX hb
           replace HB := kB HB hb
           replace HL18 := kL HL18 hb
           replace HL5 := kL HL5 hb
           replace HL10 := kL HL10 hb
           replace HL24 := kL HL24 hb
           clear hb
           obtain ⟨vk, ck, e9⟩ := Kd.R_slice HRK.out
           subst e9
           refine hK.out _ _ (⟨(blk_cell HX.out.1 2).trans rfl, (blk_cell HX.out.1 3).trans rfl⟩) (fun hHeld => ?_)
           clear hK K
           refine norm_ (a' := ?_) ?_ ?_
           rotate_left
           ·show Act.put _ (some 47) _ = _
            simp only [Act.put, List.setIfInBounds_toArray, List.set_cons_zero, List.set_cons_succ, i64_w, i32_w]
            rfl
           refine one_ (i := 25) (N := some 61) #[true,true,true,true,true,true,true,true,true,true,true,true,true,true,true,true,true,true,true,true,true,true,true,true,true,true,false,false,false,false,false,false] rfl rfl (by kernel_rfl) (by decide) (fun K hK => ?_)
           refine goes_ Try.func81 (by kernel_rfl) rfl #[.slice (some ⟨g24, 0, none⟩) 3 3] (by rfl) rfl rfl (by (try simp only [List.map_toArray, List.map_cons, List.map_nil]); first | done | rfl) ?_
           have hCO := C_one (d := (Kd.int .u32)) (x := kid) rfl rfl HL18.out
           have hCL := C_lit (d := (Kd.int .u32)) (e := 45) [(B3, c3, D1), (some ⟨g18, 0, none⟩, 1, [kid]), (B3d, c3 - p1, D2)] (by simp) HL24.out (all3 ⟨HQ.out.2.2.2.2.2.2.1, Kd.C_below HQ.out.2.2.1 HB.out⟩ ⟨Nat.le_refl _, hCO⟩ ⟨HQ.out.2.2.2.2.2.2.2, Kd.C_below HQ.out.2.2.2.1 HB.out⟩)
           refine (slices_Concat_uint32_uint32.calls (some ⟨g24, 0, none⟩) 3 [D1, [kid], D2] (D1 ++ ([kid] ++ D2)) w9 hCL (Nat.le_refl _) (by unfold slices_Concat_uint32_uint32.f; rw [if_pos ⟨by simp, by simpa using HLn.out.2⟩]; simp)).mono ?_
           rintro e_ w10 ⟨v_, rfl, hr_, hb⟩
           refine ⟨_, rfl, ?_⟩
           try clear hHeld
           clear hCL hCO
           rw [← hDD] at hr_
           have HRD := Aside0.mk (R_from hr_ HSZ.out HB4l.out)
           clear hr_
           replace HSZ := kS HSZ hb
           replace HX := kX HX hb
           replace HB := kB HB hb
           replace HL18 := kL HL18 hb
           replace HL5 := kL HL5 hb
           replace HL10 := kL HL10 hb
           replace HL24 := kL HL24 hb
           replace HRK := kR HRK hb
           clear hb
           obtain ⟨vd, cd_, e9⟩ := Kd.R_slice HRD.out
           subst e9
           refine hK.out _ _ (⟨(blk_cell HX.out.1 2).trans rfl, (blk_cell HX.out.1 3).trans rfl⟩) (fun hHeld => ?_)
           clear hK K
           refine norm_ (a' := ?_) ?_ ?_
           rotate_left
           ·show Act.put _ (some 61) _ = _
            simp only [Act.put, List.setIfInBounds_toArray, List.set_cons_zero, List.set_cons_succ, i64_w, i32_w]
            rfl
           exact TL w10 g5 g10 g18 g24 vk ck vd cd_ ⟨HX, HB, HRK, HRD⟩
         ·refine value_ (w1 := ?_) (v := ?_) (by rfl) rfl ?_ ?_
          rotate_left 2
          ·go_simp
           constructor
           ·rfl
           ·rfl
          try clear hHeld
          have HL24 : Aside0 ((w6.alloc (.cells #[.slice B3 D1.length c3, .slice (some ⟨g18, 0, none⟩) 1 1, .slice B3d D2.length (c3 - p1)] 24)).heap[w6.heap.size]? = some (.cells #[.slice B3 D1.length c3, .slice (some ⟨g18, 0, none⟩) 1 1, .slice B3d D2.length (c3 - p1)] 24 (0, 0))) := ⟨blk_new _ _⟩
          have hb : Below w6.heap.size w6 (w6.alloc (.cells #[.slice B3 D1.length c3, .slice (some ⟨g18, 0, none⟩) 1 1, .slice B3d D2.length (c3 - p1)] 24)) := (Below.refl _ _).alloc (Nat.le_refl _) _
          replace HSZ := kS HSZ hb
          replace HX := kX HX hb
          replace HB := kB HB hb
          replace HL18 := kL HL18 hb
          replace HL5 := kL HL5 hb
          clear hb
          generalize w6.alloc (.cells #[.slice B3 D1.length c3, .slice (some ⟨g18, 0, none⟩) 1 1, .slice B3d D2.length (c3 - p1)] 24) = w7 at *
          obtain ⟨g24, hg_⟩ : ∃ g, g = w6.heap.size := ⟨_, rfl⟩
          rw [← hg_] at HL24 ⊢
          clear hg_
          refine hK.out _ _ (⟨(blk_cell HX.out.1 2).trans rfl, (blk_cell HX.out.1 3).trans rfl⟩) (fun hHeld => ?_)
          clear hK K
          refine norm_ (a' := ?_) ?_ ?_
          rotate_left
          ·show Act.put _ (some 60) _ = _
           simp only [Act.put, List.setIfInBounds_toArray, List.set_cons_zero, List.set_cons_succ, i64_w, i32_w]
           rfl
          refine one_ (i := 10) (N := some 46) #[true,true,true,true,true,true,true,true,true,true,true,false,true,true,true,true,true,true,true,true,true,true,true,true,true,false,false,false,false,false,false,false] rfl rfl (by kernel_rfl) (by decide) (fun K hK => ?_)
          refine value_ (w1 := ?_) (v := ?_) (by rfl) rfl ?_ ?_
          rotate_left 2
          ·go_simp
           constructor
           ·rfl
           ·rfl
          try clear hHeld
          have HL10 : Aside0 ((w7.alloc (.cells #[.slice B2 K1.length c2, .slice (some ⟨g5, 0, none⟩) 1 1, .slice B2d K2.length (c2 - p)] 23)).heap[w7.heap.size]? = some (.cells #[.slice B2 K1.length c2, .slice (some ⟨g5, 0, none⟩) 1 1, .slice B2d K2.length (c2 - p)] 23 (0, 0))) := ⟨blk_new _ _⟩
          have hb : Below w7.heap.size w7 (w7.alloc (.cells #[.slice B2 K1.length c2, .slice (some ⟨g5, 0, none⟩) 1 1, .slice B2d K2.length (c2 - p)] 23)) := (Below.refl _ _).alloc (Nat.le_refl _) _
          replace HSZ := kS HSZ hb
          replace HX := kX HX hb
          replace HB := kB HB hb
          replace HL18 := kL HL18 hb
          replace HL5 := kL HL5 hb
          replace HL24 := kL HL24 hb
          clear hb
          generalize w7.alloc (.cells #[.slice B2 K1.length c2, .slice (some ⟨g5, 0, none⟩) 1 1, .slice B2d K2.length (c2 - p)] 23) = w8 at *
          obtain ⟨g10, hg_⟩ : ∃ g, g = w7.heap.size := ⟨_, rfl⟩
          rw [← hg_] at HL10 ⊢
          clear hg_
          refine hK.out _ _ (⟨(blk_cell HX.out.1 2).trans rfl, (blk_cell HX.out.1 3).trans rfl⟩) (fun hHeld => ?_)
          clear hK K
          refine norm_ (a' := ?_) ?_ ?_
          rotate_left
          ·show Act.put _ (some 46) _ = _
           simp only [Act.put, List.setIfInBounds_toArray, List.set_cons_zero, List.set_cons_succ, i64_w, i32_w]
           rfl
          refine one_ (i := 11) (N := some 47) #[true,true,true,true,true,true,true,true,true,true,true,true,true,true,true,true,true,true,true,true,true,true,true,true,true,false,false,false,false,false,false,false] rfl rfl (by kernel_rfl) (by decide) (fun K hK => ?_)
          refine goes_ Try.func80 (by kernel_rfl) rfl #[.slice (some ⟨g10, 0, none⟩) 3 3] (by rfl) rfl rfl (by (try simp only [List.map_toArray, List.map_cons, List.map_nil]); first | done | rfl) ?_
          have hCO := C_one (d := Kd.string) (x := key) rfl rfl HL5.out
          have hCL := C_lit (d := Kd.string) (e := 9) [(B2, c2, K1), (some ⟨g5, 0, none⟩, 1, [key]), (B2d, c2 - p, K2)] (by simp) HL10.out (all3 ⟨HQ.out.2.2.2.2.1, Kd.C_below HQ.out.1 HB.out⟩ ⟨Nat.le_refl _, hCO⟩ ⟨HQ.out.2.2.2.2.2.1, Kd.C_below HQ.out.2.1 HB.out⟩)
          refine (slices_Concat_string_string.calls (some ⟨g10, 0, none⟩) 3 [K1, [key], K2] (K1 ++ ([key] ++ K2)) w8 hCL (Nat.le_refl _) (by unfold slices_Concat_string_string.f; rw [if_pos ⟨by simp, by simpa using HLn.out.1⟩]; simp)).mono ?_
          rintro e_ w9 ⟨v_, rfl, hr_, hb⟩
          refine ⟨_, rfl, ?_⟩
          try clear hHeld
          clear hCL hCO
          rw [← hKK] at hr_
          have HRK := Aside0.mk (R_from hr_ HSZ.out HB4l.out)
          clear hr_
          replace HSZ := kS HSZ hb
          replace HX := kX HX hb
          replace HB := kB HB hb
          replace HL18 := kL HL18 hb
          replace HL5 := kL HL5 hb
          replace HL24 := kL HL24 hb
          replace HL10 := kL HL10 hb
          clear hb
          obtain ⟨vk, ck, e9⟩ := Kd.R_slice HRK.out
          subst e9
          refine hK.out _ _ (⟨(blk_cell HX.out.1 2).trans rfl, (blk_cell HX.out.1 3).trans rfl⟩) (fun hHeld => ?_)
          clear hK K
          refine norm_ (a' := ?_) ?_ ?_
          rotate_left
          ·show Act.put _ (some 47) _ = _
           simp only [Act.put, List.setIfInBounds_toArray, List.set_cons_zero, List.set_cons_succ, i64_w, i32_w]
           rfl
          refine one_ (i := 25) (N := some 61) #[true,true,true,true,true,true,true,true,true,true,true,true,true,true,true,true,true,true,true,true,true,true,true,true,true,true,false,false,false,false,false,false] rfl rfl (by kernel_rfl) (by decide) (fun K hK => ?_)
          refine goes_ Try.func81 (by kernel_rfl) rfl #[.slice (some ⟨g24, 0, none⟩) 3 3] (by rfl) rfl rfl (by (try simp only [List.map_toArray, List.map_cons, List.map_nil]); first | done | rfl) ?_
          have hCO := C_one (d := (Kd.int .u32)) (x := kid) rfl rfl HL18.out
          have hCL := C_lit (d := (Kd.int .u32)) (e := 45) [(B3, c3, D1), (some ⟨g18, 0, none⟩, 1, [kid]), (B3d, c3 - p1, D2)] (by simp) HL24.out (all3 ⟨HQ.out.2.2.2.2.2.2.1, Kd.C_below HQ.out.2.2.1 HB.out⟩ ⟨Nat.le_refl _, hCO⟩ ⟨HQ.out.2.2.2.2.2.2.2, Kd.C_below HQ.out.2.2.2.1 HB.out⟩)
          refine (slices_Concat_uint32_uint32.calls (some ⟨g24, 0, none⟩) 3 [D1, [kid], D2] (D1 ++ ([kid] ++ D2)) w9 hCL (Nat.le_refl _) (by unfold slices_Concat_uint32_uint32.f; rw [if_pos ⟨by simp, by simpa using HLn.out.2⟩]; simp)).mono ?_
          rintro e_ w10 ⟨v_, rfl, hr_, hb⟩
          refine ⟨_, rfl, ?_⟩
          try clear hHeld
          clear hCL hCO
          rw [← hDD] at hr_
          have HRD := Aside0.mk (R_from hr_ HSZ.out HB4l.out)
          clear hr_
          replace HSZ := kS HSZ hb
          replace HX := kX HX hb
          replace HB := kB HB hb
          replace HL18 := kL HL18 hb
          replace HL5 := kL HL5 hb
          replace HL24 := kL HL24 hb
          replace HL10 := kL HL10 hb
          replace HRK := kR HRK hb
          clear hb
          obtain ⟨vd, cd_, e9⟩ := Kd.R_slice HRD.out
          subst e9
          refine hK.out _ _ (⟨(blk_cell HX.out.1 2).trans rfl, (blk_cell HX.out.1 3).trans rfl⟩) (fun hHeld => ?_)
          clear hK K
          refine norm_ (a' := ?_) ?_ ?_
          rotate_left
          ·show Act.put _ (some 61) _ = _
           simp only [Act.put, List.setIfInBounds_toArray, List.set_cons_zero, List.set_cons_succ, i64_w, i32_w]
           rfl
          exact TL w10 g5 g10 g18 g24 vk ck vd cd_ ⟨HX, HB, HRK, HRD⟩
        ·refine value_ (w1 := ?_) (v := ?_) (by rfl) rfl ?_ ?_
         rotate_left 2
         ·go_simp
          constructor
          ·rfl
          ·rfl
         try clear hHeld
         have HL24 : Aside0 ((w5.alloc (.cells #[.slice B3 D1.length c3, .slice (some ⟨g18, 0, none⟩) 1 1, .slice B3d D2.length (c3 - p1)] 24)).heap[w5.heap.size]? = some (.cells #[.slice B3 D1.length c3, .slice (some ⟨g18, 0, none⟩) 1 1, .slice B3d D2.length (c3 - p1)] 24 (0, 0))) := ⟨blk_new _ _⟩
         have hb : Below w5.heap.size w5 (w5.alloc (.cells #[.slice B3 D1.length c3, .slice (some ⟨g18, 0, none⟩) 1 1, .slice B3d D2.length (c3 - p1)] 24)) := (Below.refl _ _).alloc (Nat.le_refl _) _
         replace HSZ := kS HSZ hb
         replace HX := kX HX hb
         replace HB := kB HB hb
         replace HL18 := kL HL18 hb
         clear hb
         generalize w5.alloc (.cells #[.slice B3 D1.length c3, .slice (some ⟨g18, 0, none⟩) 1 1, .slice B3d D2.length (c3 - p1)] 24) = w6 at *
         obtain ⟨g24, hg_⟩ : ∃ g, g = w5.heap.size := ⟨_, rfl⟩
         rw [← hg_] at HL24 ⊢
         clear hg_
         refine hK.out _ _ (⟨(blk_cell HX.out.1 2).trans rfl, (blk_cell HX.out.1 3).trans rfl⟩) (fun hHeld => ?_)
         clear hK K
         refine norm_ (a' := ?_) ?_ ?_
         rotate_left
         ·show Act.put _ (some 60) _ = _
          simp only [Act.put, List.setIfInBounds_toArray, List.set_cons_zero, List.set_cons_succ, i64_w, i32_w]
          rfl
         refine one_ (i := 5) (N := some 41) #[true,true,true,true,true,true,true,true,true,true,false,false,true,true,true,true,true,true,true,true,true,true,true,true,true,false,false,false,false,false,false,false] rfl rfl (by kernel_rfl) (by decide) (fun K hK => ?_)
         refine value_ (w1 := ?_) (v := ?_) (by rfl) rfl ?_ ?_
         rotate_left 2
         ·go_simp
          constructor
          ·rfl
          ·rfl
         try clear hHeld
         have HL5 : Aside0 ((w6.alloc (.cells #[.string key] 9)).heap[w6.heap.size]? = some (.cells #[.string key] 9 (0, 0))) := ⟨blk_new _ _⟩
         have hb : Below w6.heap.size w6 (w6.alloc (.cells #[.string key] 9)) := (Below.refl _ _).alloc (Nat.le_refl _) _
         replace HSZ := kS HSZ hb
         replace HX := kX HX hb
         replace HB := kB HB hb
         replace HL18 := kL HL18 hb
         replace HL24 := kL HL24 hb
         clear hb
         generalize w6.alloc (.cells #[.string key] 9) = w7 at *
         obtain ⟨g5, hg_⟩ : ∃ g, g = w6.heap.size := ⟨_, rfl⟩
         rw [← hg_] at HL5 ⊢
         clear hg_
         refine hK.out _ _ (⟨(blk_cell HX.out.1 2).trans rfl, (blk_cell HX.out.1 3).trans rfl⟩) (fun hHeld => ?_)
         clear hK K
         refine norm_ (a' := ?_) ?_ ?_
         rotate_left
         ·show Act.put _ (some 41) _ = _
          simp only [Act.put, List.setIfInBounds_toArray, List.set_cons_zero, List.set_cons_succ, i64_w, i32_w]
          rfl
         refine one_ (i := 10) (N := some 46) #[true,true,true,true,true,true,true,true,true,true,true,false,true,true,true,true,true,true,true,true,true,true,true,true,true,false,false,false,false,false,false,false] rfl rfl (by kernel_rfl) (by decide) (fun K hK => ?_)
         refine value_ (w1 := ?_) (v := ?_) (by rfl) rfl ?_ ?_
         rotate_left 2
         ·go_simp
          constructor
          ·rfl
          ·rfl
         try clear hHeld
         have HL10 : Aside0 ((w7.alloc (.cells #[.slice B2 K1.length c2, .slice (some ⟨g5, 0, none⟩) 1 1, .slice B2d K2.length (c2 - p)] 23)).heap[w7.heap.size]? = some (.cells #[.slice B2 K1.length c2, .slice (some ⟨g5, 0, none⟩) 1 1, .slice B2d K2.length (c2 - p)] 23 (0, 0))) := ⟨blk_new _ _⟩
         have hb : Below w7.heap.size w7 (w7.alloc (.cells #[.slice B2 K1.length c2, .slice (some ⟨g5, 0, none⟩) 1 1, .slice B2d K2.length (c2 - p)] 23)) := (Below.refl _ _).alloc (Nat.le_refl _) _
         replace HSZ := kS HSZ hb
         replace HX := kX HX hb
         replace HB := kB HB hb
         replace HL18 := kL HL18 hb
         replace HL24 := kL HL24 hb
         replace HL5 := kL HL5 hb
         clear hb
         generalize w7.alloc (.cells #[.slice B2 K1.length c2, .slice (some ⟨g5, 0, none⟩) 1 1, .slice B2d K2.length (c2 - p)] 23) = w8 at *
         obtain ⟨g10, hg_⟩ : ∃ g, g = w7.heap.size := ⟨_, rfl⟩
         rw [← hg_] at HL10 ⊢
         clear hg_
         refine hK.out _ _ (⟨(blk_cell HX.out.1 2).trans rfl, (blk_cell HX.out.1 3).trans rfl⟩) (fun hHeld => ?_)
         clear hK K
         refine norm_ (a' := ?_) ?_ ?_
         rotate_left
         ·show Act.put _ (some 46) _ = _
          simp only [Act.put, List.setIfInBounds_toArray, List.set_cons_zero, List.set_cons_succ, i64_w, i32_w]
          rfl
         refine one_ (i := 11) (N := some 47) #[true,true,true,true,true,true,true,true,true,true,true,true,true,true,true,true,true,true,true,true,true,true,true,true,true,false,false,false,false,false,false,false] rfl rfl (by kernel_rfl) (by decide) (fun K hK => ?_)
         refine goes_ Try.func80 (by kernel_rfl) rfl #[.slice (some ⟨g10, 0, none⟩) 3 3] (by rfl) rfl rfl (by (try simp only [List.map_toArray, List.map_cons, List.map_nil]); first | done | rfl) ?_
         have hCO := C_one (d := Kd.string) (x := key) rfl rfl HL5.out
         have hCL := C_lit (d := Kd.string) (e := 9) [(B2, c2, K1), (some ⟨g5, 0, none⟩, 1, [key]), (B2d, c2 - p, K2)] (by simp) HL10.out (all3 ⟨HQ.out.2.2.2.2.1, Kd.C_below HQ.out.1 HB.out⟩ ⟨Nat.le_refl _, hCO⟩ ⟨HQ.out.2.2.2.2.2.1, Kd.C_below HQ.out.2.1 HB.out⟩)
         refine (slices_Concat_string_string.calls (some ⟨g10, 0, none⟩) 3 [K1, [key], K2] (K1 ++ ([key] ++ K2)) w8 hCL (Nat.le_refl _) (by unfold slices_Concat_string_string.f; rw [if_pos ⟨by simp, by simpa using HLn.out.1⟩]; simp)).mono ?_
         rintro e_ w9 ⟨v_, rfl, hr_, hb⟩
         refine ⟨_, rfl, ?_⟩
         try clear hHeld
         clear hCL hCO
         rw [← hKK] at hr_
         have HRK := Aside0.mk (R_from hr_ HSZ.out HB4l.out)
         clear hr_
         replace HSZ := kS HSZ hb
         replace HX := kX HX hb
         replace HB := kB HB hb
         replace HL18 := kL HL18 hb
         replace HL24 := kL HL24 hb
         replace HL5 := kL HL5 hb
         replace HL10 := kL HL10 hb
         clear hb
         obtain ⟨vk, ck, e9⟩ := Kd.R_slice HRK.out
         subst e9
         refine hK.out _ _ (⟨(blk_cell HX.out.1 2).trans rfl, (blk_cell HX.out.1 3).trans rfl⟩) (fun hHeld => ?_)
         clear hK K
         refine norm_ (a' := ?_) ?_ ?_
         rotate_left
         ·show Act.put _ (some 47) _ = _
          simp only [Act.put, List.setIfInBounds_toArray, List.set_cons_zero, List.set_cons_succ, i64_w, i32_w]
          rfl
         refine one_ (i := 25) (N := some 61) #[true,true,true,true,true,true,true,true,true,true,true,true,true,true,true,true,true,true,true,true,true,true,true,true,true,true,false,false,false,false,false,false] rfl rfl (by kernel_rfl) (by decide) (fun K hK => ?_)
         refine goes_ Try.func81 (by kernel_rfl) rfl #[.slice (some ⟨g24, 0, none⟩) 3 3] (by rfl) rfl rfl (by (try simp only [List.map_toArray, List.map_cons, List.map_nil]); first | done | rfl) ?_
         have hCO := C_one (d := (Kd.int .u32)) (x := kid) rfl rfl HL18.out
         have hCL := C_lit (d := (Kd.int .u32)) (e := 45) [(B3, c3, D1), (some ⟨g18, 0, none⟩, 1, [kid]), (B3d, c3 - p1, D2)] (by simp) HL24.out (all3 ⟨HQ.out.2.2.2.2.2.2.1, Kd.C_below HQ.out.2.2.1 HB.out⟩ ⟨Nat.le_refl _, hCO⟩ ⟨HQ.out.2.2.2.2.2.2.2, Kd.C_below HQ.out.2.2.2.1 HB.out⟩)
         refine (slices_Concat_uint32_uint32.calls (some ⟨g24, 0, none⟩) 3 [D1, [kid], D2] (D1 ++ ([kid] ++ D2)) w9 hCL (Nat.le_refl _) (by unfold slices_Concat_uint32_uint32.f; rw [if_pos ⟨by simp, by simpa using HLn.out.2⟩]; simp)).mono ?_
         rintro e_ w10 ⟨v_, rfl, hr_, hb⟩
         refine ⟨_, rfl, ?_⟩
         try clear hHeld
         clear hCL hCO
         rw [← hDD] at hr_
         have HRD := Aside0.mk (R_from hr_ HSZ.out HB4l.out)
         clear hr_
         replace HSZ := kS HSZ hb
         replace HX := kX HX hb
         replace HB := kB HB hb
         replace HL18 := kL HL18 hb
         replace HL24 := kL HL24 hb
         replace HL5 := kL HL5 hb
         replace HL10 := kL HL10 hb
         replace HRK := kR HRK hb
         clear hb
         obtain ⟨vd, cd_, e9⟩ := Kd.R_slice HRD.out
         subst e9
         refine hK.out _ _ (⟨(blk_cell HX.out.1 2).trans rfl, (blk_cell HX.out.1 3).trans rfl⟩) (fun hHeld => ?_)
         clear hK K
         refine norm_ (a' := ?_) ?_ ?_
         rotate_left
         ·show Act.put _ (some 61) _ = _
          simp only [Act.put, List.setIfInBounds_toArray, List.set_cons_zero, List.set_cons_succ, i64_w, i32_w]
          rfl
         exact TL w10 g5 g10 g18 g24 vk ck vd cd_ ⟨HX, HB, HRK, HRD⟩
      case t =>
       rintro w10 g5 g10 g18 g24 vk ck vd cd_ ⟨HX, HB, HRK, HRD⟩
       clear hKK hDD
       refine pure_ (i := 26) (N := some 62) (v := ?_) (a' := ?_) #[true,true,true,true,true,true,true,true,true,true,true,true,true,true,true,true,true,true,true,true,true,true,true,true,true,true,true,false,false,false,false,false] rfl rfl (by kernel_rfl) (fun _ _ _ h => h) (Or.inl ⟨by rfl, ?_⟩) ?_ ?_
       rotate_left
       ·intro w'
        go_simp
        with_reducible rfl
       rotate_left
       ·simp only [Act.put, List.setIfInBounds_toArray, List.set_cons_zero, List.set_cons_succ, i64_w, i32_w]
        rfl
       refine one_ (i := 27) (N := some 63) #[true,true,true,true,true,true,true,true,true,true,true,true,true,true,true,true,true,true,true,true,true,true,true,true,true,true,true,true,false,false,false,false] rfl rfl (by kernel_rfl) (by decide) (fun K hK => ?_)
       refine goes_ Try.func79 (by kernel_rfl) rfl #[.agg #[.bool false, .slice none 0 0, .slice vk KK.length ck, .slice vd DD.length cd_]] (by (try simp only [List.length_append, List.length_cons, List.length_nil]); rfl) rfl rfl (by (try simp only [List.map_toArray, List.map_cons, List.map_nil]); first | done | rfl) ?_
       refine (node_whole.calls _ false (fun k_ => B4 ≤ k_) (.slice none 0 0) [] (fun k_ => B4 ≤ k_) (.slice vk KK.length ck) KK (fun k_ => B4 ≤ k_) (.slice vd DD.length cd_) DD r1 r2 r3 r4 r5 W w10 HB.out (Kd.R_nil _ _ _ _ _) HRK.out HRD.out ((owhole_f [] KK DD HNK.out _ (Nat.le_refl _)).trans (congrArg some HV.out))).mono ?_
       rintro e_ w11 ⟨v1, v2, v3, rfl, g1, g2, g3, hb, hkp⟩
       refine ⟨_, rfl, ?_⟩
       try clear hHeld
       replace HX := Aside0.mk (And.intro (blk_kept HX.out.1 hkp (fun h => by have := HLT.out.1; rcases h with h | h | h <;> exact absurd (Nat.lt_of_lt_of_le this h) (Nat.lt_irrefl _))) (blk_kept HX.out.2 hkp (fun h => by have := HLT.out.2; rcases h with h | h | h <;> exact absurd (Nat.lt_of_lt_of_le this h) (Nat.lt_irrefl _))))
       replace HB := Aside0.mk hb
       obtain ⟨y1, z1, rfl⟩ := Kd.R_slice g1
       obtain ⟨y2, z2, rfl⟩ := Kd.R_slice g2
       obtain ⟨y3, z3, rfl⟩ := Kd.R_slice g3
       have G1 := Aside0.mk (Kd.R_mono g1 (fun _ _ => True.intro))
       have G2 := Aside0.mk (Kd.R_mono g2 (fun _ _ => True.intro))
       have G3 := Aside0.mk (Kd.R_mono g3 (fun _ _ => True.intro))
       clear g1 g2 g3 hb hkp HRK HRD HV HNK
       refine hK.out _ _ (⟨(blk_cell HX.out.1 2).trans rfl, (blk_cell HX.out.1 3).trans rfl⟩) (fun hHeld => ?_)
       clear hK K
       refine norm_ (a' := ?_) ?_ ?_
       rotate_left
       ·show Act.put _ (some 63) _ = _
        simp only [Act.put, List.setIfInBounds_toArray, List.set_cons_zero, List.set_cons_succ, i64_w, i32_w]
        rfl
       refine pure_ (i := 28) (N := some 64) (v := ?_) (a' := ?_) #[true,true,true,true,true,true,true,true,true,true,true,true,true,true,true,true,true,true,true,true,true,true,true,true,true,true,true,true,true,false,false,false] rfl rfl (by kernel_rfl) (fun _ _ _ h => h) (Or.inl ⟨by rfl, ?_⟩) ?_ ?_
       rotate_left
       ·intro w'
        go_simp
        with_reducible rfl
       rotate_left
       ·simp only [Act.put, List.setIfInBounds_toArray, List.set_cons_zero, List.set_cons_succ, i64_w, i32_w]
        rfl
       refine pure_ (i := 29) (N := some 65) (v := ?_) (a' := ?_) #[true,true,true,true,true,true,true,true,true,true,true,true,true,true,true,true,true,true,true,true,true,true,true,true,true,true,true,true,true,true,false,false] rfl rfl (by kernel_rfl) (fun _ _ _ h => h) (Or.inl ⟨by rfl, ?_⟩) ?_ ?_
       rotate_left
       ·intro w'
        go_simp
        with_reducible rfl
       rotate_left
       ·simp only [Act.put, List.setIfInBounds_toArray, List.set_cons_zero, List.set_cons_succ, i64_w, i32_w]
        rfl
       refine one_ (i := 30) (N := none) #[true,true,true,true,true,true,true,true,true,true,true,true,true,true,true,true,true,true,true,true,true,true,true,true,true,true,true,true,true,true,true,false] rfl rfl (by kernel_rfl) (by decide) (fun K hK => ?_)
       have o0 : w11.cell? ⟨go, 0, none⟩ = some (.bool false) := (blk_cell HX.out.2 0).trans rfl
       have o1 : w11.cell? ⟨go, 1, none⟩ = some (.slice none 0 0) := (blk_cell HX.out.2 1).trans rfl
       have o2 : w11.cell? ⟨go, 2, none⟩ = some (.slice none 0 0) := (blk_cell HX.out.2 2).trans rfl
       have o3 : w11.cell? ⟨go, 3, none⟩ = some (.slice none 0 0) := (blk_cell HX.out.2 3).trans rfl
       have f0 := blk_frozen HX.out.2 0
       have f1 := blk_frozen HX.out.2 1
       have f2 := blk_frozen HX.out.2 2
       have f3 := blk_frozen HX.out.2 3
       refine skip_ (w1 := ?_) (by rfl) rfl ?_ ?_
       rotate_left
       ·go_simp
        rfl
       refine hK.out _ _ ⟨(blk_cell (blk_far (p := ⟨go, 3, none⟩) (blk_far (p := ⟨go, 2, none⟩) (blk_far (p := ⟨go, 1, none⟩) (blk_far (p := ⟨go, 0, none⟩) HX.out.1 HNE.out _) HNE.out _) HNE.out _) HNE.out _) 2).trans rfl, (blk_cell (blk_far (p := ⟨go, 3, none⟩) (blk_far (p := ⟨go, 2, none⟩) (blk_far (p := ⟨go, 1, none⟩) (blk_far (p := ⟨go, 0, none⟩) HX.out.1 HNE.out _) HNE.out _) HNE.out _) HNE.out _) 3).trans rfl⟩ (fun hHeld => ?_)
       clear hK K
       refine pure_ (i := 31) (N := some 9) (v := ?_) (a' := ?_) #[true,true,true,true,true,true,true,true,true,true,true,true,true,true,true,true,true,true,true,true,true,true,true,true,true,true,true,true,true,true,true,true] rfl rfl (by kernel_rfl) (fun _ _ _ h => h) (Or.inl ⟨by rfl, ?_⟩) ?_ ?_
       rotate_left
       ·intro w'
        go_simp
        with_reducible rfl
       rotate_left
       ·simp only [Act.put, List.setIfInBounds_toArray, List.set_cons_zero, List.set_cons_succ, i64_w, i32_w]
        rfl
       refine done_ (by kernel_rfl) ?_
       try clear hHeld
       try go_wp2
       (try simp only [Exit.inBlock, Exit.then]); refine bodyPost_ret (results_ct rfl _ _ go 26 _ (0, 0) _ rfl (ret_all HX.out.2 _ _ _ _) Try.underlying26 rfl (by kernel_rfl)) rfl ?_
       exact ⟨_, _, _, rfl, R_ret G1.out HX.out.2 (by decide) _ _ _ _, R_ret G2.out HX.out.2 (by decide) _ _ _ _, R_ret G3.out HX.out.2 (by decide) _ _ _ _, below_set (below_set (below_set (below_set HB.out HG2.out) HG2.out) HG2.out) HG2.out⟩
 ·have d1 : (C != 0) = true := by simpa using hC0
  rw [if_neg hC0] at hv
  have hp := hv.symm
  have HC := Aside0.mk hC0
  clear hv hC0 hC
  injection hp with e1 hp
  injection hp with e2 hp
  injection hp with e3 hp
  injection hp with e4 e5
  subst e1 e2 e3 e4 e5
  go_wp2_with fail
  (try simp only [Exit.inBlock, Exit.then]); refine bodyPost_ret (results_ct rfl _ _ go 26 _ (0, 0) _ rfl (ret_all HX.out.2 _ _ _ _) Try.underlying26 rfl (by kernel_rfl)) rfl ?_
  exact ⟨_, _, _, rfl, Kd.R_nil _ _ _ _ _, Kd.R_nil _ _ _ _ _, Kd.R_nil _ _ _ _ _, below_set (below_set (below_set (below_set HB.out HG2.out) HG2.out) HG2.out) HG2.out⟩
end Go.Proofs.Ytdjjpgdhnoibkaa.My
namespace Go.Proofs.Ytdjjpgdhnoibkaa.My
open Go.RowKit Go.Proofs.YtdjjpgdhnoibkaaW.PrintWords Go.Proofs.YtdjjpgdhnoibkaaW.PrintLast Go.Proofs.YtdjjpgdhnoibkaaW.PrintMore Go.Proofs.Ytdjjpgdhnoibkaa Go.Proofs.Ytdjjpgdhnoibkaa.PZ
def node_Grow.f (b : Bool) (cs : List S66) (ks : List ByteArray) (kids : List Int) (i : Int) (key : ByteArray) (kid : Int) : Option (Bool × List S66 × List ByteArray × List Int × Int) := if ndB cs ks kids = true then some (growV b cs ks kids i key kid) else none
def node_Shrink.f (b : Bool) (cs : List S66) (ks : List ByteArray) (kids : List Int) (i : Int) : Option (Bool × List S66 × List ByteArray × List Int × Int) := if ndB cs ks kids = true then some (shrinkV b cs ks kids i) else none
theorem node_Grow.calls (b : Bool) (A0_1 : Option Addr) (c0_1 : Nat) (cs : List S66) (A0_2 : Option Addr) (c0_2 : Nat) (ks : List ByteArray) (A0_3 : Option Addr) (c0_3 : Nat) (kids : List Int) (i : Int) (key : ByteArray) (kid : Int) (r1 : Bool) (r2 : List S66) (r3 : List ByteArray) (r4 : List Int) (r5 : Int) (w : World) (hr0_1 : Kd.C k66 w A0_1 cs.length cs) (hc0_1 : cs.length ≤ c0_1) (hr0_2 : Kd.C Kd.string w A0_2 ks.length ks) (hc0_2 : ks.length ≤ c0_2) (hr0_3 : Kd.C (Kd.int .u32) w A0_3 kids.length kids) (hc0_3 : kids.length ≤ c0_3) (h : node_Grow.f b cs ks kids i key kid = some (r1, r2, r3, r4, r5)) :
    Calls Try.prog 38 #[.agg #[.bool b, .slice A0_1 cs.length c0_1, .slice A0_2 ks.length c0_2, .slice A0_3 kids.length c0_3], .int .i64 i, .string key, .int .u32 kid] w fun e w' => ∃ v1_ v2_ v3_ : Value, e = .returned (.tuple #[.agg #[.bool r1, v1_, v2_, v3_], .int .i64 r5]) ∧ Kd.R k66 66 w' w.heap.size (fun _ => True) v1_ r2 ∧ Kd.R Kd.string 9 w' w.heap.size (fun _ => True) v2_ r3 ∧ Kd.R (Kd.int .u32) 45 w' w.heap.size (fun _ => True) v3_ r4 ∧ Below w.heap.size w w' := by
  unfold node_Grow.f at h
  by_cases hn : ndB cs ks kids = true
  · rw [if_pos hn] at h
    exact grow_calls w b A0_1 c0_1 cs A0_2 c0_2 ks A0_3 c0_3 kids i key kid hc0_1 hc0_2 hc0_3 hr0_1 hr0_2 hr0_3 (ndB_ok hn).1 r1 r2 r3 r4 r5 (Option.some.inj h)
  · rw [if_neg hn] at h
    cases h
theorem node_Shrink.calls (b : Bool) (A0_1 : Option Addr) (c0_1 : Nat) (cs : List S66) (A0_2 : Option Addr) (c0_2 : Nat) (ks : List ByteArray) (A0_3 : Option Addr) (c0_3 : Nat) (kids : List Int) (i : Int) (r1 : Bool) (r2 : List S66) (r3 : List ByteArray) (r4 : List Int) (r5 : Int) (w : World) (hr0_1 : Kd.C k66 w A0_1 cs.length cs) (hc0_1 : cs.length ≤ c0_1) (hr0_2 : Kd.C Kd.string w A0_2 ks.length ks) (hc0_2 : ks.length ≤ c0_2) (hr0_3 : Kd.C (Kd.int .u32) w A0_3 kids.length kids) (hc0_3 : kids.length ≤ c0_3) (h : node_Shrink.f b cs ks kids i = some (r1, r2, r3, r4, r5)) :
    Calls Try.prog 42 #[.agg #[.bool b, .slice A0_1 cs.length c0_1, .slice A0_2 ks.length c0_2, .slice A0_3 kids.length c0_3], .int .i64 i] w fun e w' => ∃ v1_ v2_ v3_ : Value, e = .returned (.tuple #[.agg #[.bool r1, v1_, v2_, v3_], .int .i64 r5]) ∧ Kd.R k66 66 w' w.heap.size (fun _ => True) v1_ r2 ∧ Kd.R Kd.string 9 w' w.heap.size (fun _ => True) v2_ r3 ∧ Kd.R (Kd.int .u32) 45 w' w.heap.size (fun _ => True) v3_ r4 ∧ Below w.heap.size w w' := by
  unfold node_Shrink.f at h
  by_cases hn : ndB cs ks kids = true
  · rw [if_pos hn] at h
    exact shrink_calls w b A0_1 c0_1 cs A0_2 c0_2 ks A0_3 c0_3 kids i hc0_1 hc0_2 hc0_3 hr0_1 hr0_2 hr0_3 (ndB_ok hn).1 r1 r2 r3 r4 r5 (Option.some.inj h)
  · rw [if_neg hn] at h
    cases h
end Go.Proofs.Ytdjjpgdhnoibkaa.My
