/- node.Shrink. -/
import Derived.Test.YtdjjpgdhnoibkaaPDy3
import Derived.Test.YtdjjpgdhnoibkaaNdSrt
import Derived.Test.YtdjjpgdhnoibkaaPZx2
import Derived.Test.YtdjjpgdhnoibkaaPZx3
import Derived.Test.YtdjjpgdhnoibkaaNdCat
import Derived.Test.YtdjjpgdhnoibkaaPDy6
namespace Go.Proofs.Ytdjjpgdhnoibkaa.My
open Go.RowKit Go.Proofs.YtdjjpgdhnoibkaaW.PrintWords Go.Proofs.YtdjjpgdhnoibkaaW.PrintLast Go.Proofs.YtdjjpgdhnoibkaaW.PrintMore Go.Proofs.Ytdjjpgdhnoibkaa Go.Proofs.Ytdjjpgdhnoibkaa.PZ
set_option linter.unusedSimpArgs false
set_option linter.unusedVariables false
set_option maxRecDepth 100000
set_option maxHeartbeats 3200000
attribute [local go_sem high] conv_rune str_leq str_gtr
theorem ret_all {w2 : World} {g : Nat} {u0 u1 u2 u3 : Value} (h : w2.heap[g]? = some (.cells #[u0, u1, u2, u3] 26 (0, 0))) (v0 v1 v2 v3 : Value) :
    ((((w2.setCell ⟨g, 0, none⟩ v0).setCell ⟨g, 1, none⟩ v1).setCell ⟨g, 2, none⟩ v2).setCell ⟨g, 3, none⟩ v3).heap[g]? = some (.cells #[v0, v1, v2, v3] 26 (0, 0)) := by
  refine blk_put (cs := #[v0, v1, v2, u3]) ?_ 3 _ rfl
  refine blk_put (cs := #[v0, v1, u2, u3]) ?_ 2 _ rfl
  refine blk_put (cs := #[v0, u1, u2, u3]) ?_ 1 _ rfl
  exact blk_put (cs := #[u0, u1, u2, u3]) h 0 _ rfl
theorem R_ret {α : Type} {d : Kd α} {e g : Nat} {w : World} {base : Nat} {ok : Nat → Prop} {v : Value} {xs : List α} (h : d.R e w base ok v xs) {cells : Array Value} (hb : w.heap[g]? = some (.cells cells 26 (0, 0))) (ht : ∀ q, q ∈ e :: d.E → q ≠ 26) (v0 v1 v2 v3 : Value) :
    d.R e ((((w.setCell ⟨g, 0, none⟩ v0).setCell ⟨g, 1, none⟩ v1).setCell ⟨g, 2, none⟩ v2).setCell ⟨g, 3, none⟩ v3) base ok v xs :=
  Kd.R_mono (Kd.R_far (p := ⟨g, 3, none⟩) (Kd.R_far (p := ⟨g, 2, none⟩) (Kd.R_far (p := ⟨g, 1, none⟩) (Kd.R_far (p := ⟨g, 0, none⟩) (Kd.R_types h hb ht) (fun _ hk => hk.2) v0) (fun _ hk => hk.2) v1) (fun _ hk => hk.2) v2) (fun _ hk => hk.2) v3) (fun _ hk => hk.1)
end Go.Proofs.Ytdjjpgdhnoibkaa.My
namespace Go.Proofs.Ytdjjpgdhnoibkaa.My
open Go.RowKit Go.Proofs.YtdjjpgdhnoibkaaW.PrintWords Go.Proofs.YtdjjpgdhnoibkaaW.PrintLast Go.Proofs.YtdjjpgdhnoibkaaW.PrintMore Go.Proofs.Ytdjjpgdhnoibkaa Go.Proofs.Ytdjjpgdhnoibkaa.PZ
set_option linter.unusedSimpArgs false
set_option linter.unusedVariables false
theorem C_lit {α : Type} {d : Kd α} {e T g : Nat} {w : World} (rows : List (Option Addr × Nat × List α)) (hm : rows.length ≤ 1000000) (hb : w.heap[g]? = some (.cells (rows.map (fun r => Value.slice r.1 r.2.2.length r.2.1)).toArray T (0, 0))) (hC : ∀ r ∈ rows, r.2.2.length ≤ r.2.1 ∧ d.C w r.1 r.2.2.length r.2.2) : Kd.C (Kd.slice e d) w (some ⟨g, 0, none⟩) rows.length (rows.map (fun r => r.2.2)) := by
  refine ⟨by rw [List.length_map], by omega, fun hp => ⟨_, rfl, fun j x hj => ?_⟩⟩
  rw [List.getElem?_map] at hj
  obtain ⟨r, hr, rfl⟩ := Option.map_eq_some_iff.1 hj
  have hmem := List.mem_of_getElem? hr
  refine ⟨[.slice r.1 r.2.2.length r.2.1], rfl, ⟨r.1, r.2.1, rfl, (hC r hmem).1, (hC r hmem).2⟩, fun i u hu => ?_⟩
  have hi : i = 0 := by
    rcases Nat.eq_zero_or_pos i with h | h
    · exact h
    · rw [List.getElem?_eq_none (by simp only [List.length_cons, List.length_nil]; omega)] at hu
      cases hu
  subst hi
  obtain rfl := Option.some.inj hu
  have h0 := blk_cell hb j
  have ha : (⟨g, 0, none⟩ : Addr).add (j * (Kd.slice e d).sz + 0) = ⟨g, j, none⟩ := by
    show (⟨g, 0, none⟩ : Addr).add (j * 1 + 0) = _
    rw [Nat.mul_one, Nat.add_zero]
    unfold Addr.add
    by_cases h : j = 0
    · subst h; rfl
    · rw [if_neg h, Nat.zero_add]
  rw [ha, h0]
  simp [hr]
end Go.Proofs.Ytdjjpgdhnoibkaa.My
namespace Go.Proofs.Ytdjjpgdhnoibkaa.My
open Go.RowKit Go.Proofs.YtdjjpgdhnoibkaaW.PrintWords Go.Proofs.YtdjjpgdhnoibkaaW.PrintLast Go.Proofs.YtdjjpgdhnoibkaaW.PrintMore Go.Proofs.Ytdjjpgdhnoibkaa Go.Proofs.Ytdjjpgdhnoibkaa.PZ Go.Proofs.Ytdjjpgdhnoibkaa.PD
set_option linter.unusedSimpArgs false
set_option linter.unusedVariables false
set_option maxRecDepth 100000
set_option maxHeartbeats 3200000
attribute [local go_sem high] conv_rune str_leq str_gtr
theorem all2 {α : Type} {P : α → Prop} {x y : α} (hx : P x) (hy : P y) : ∀ r ∈ [x, y], P r := by
 intro r hr
 rcases List.mem_cons.1 hr with rfl | hr
 ·exact hx
 ·obtain rfl := List.mem_singleton.1 hr
  exact hy
def brV (b : Bool) (cs : List Ce) (ks : List ByteArray) (kids : List Int) : Int := if chkV b cs ks kids = 0 ∧ b = true then 80 else chkV b cs ks kids
theorem branch_f (b : Bool) (cs : List Ce) (ks : List ByteArray) (kids : List Int) (hn : NdOk cs ks kids) (k : Nat) (hk : 2 * (cs.length + ks.length) + kids.length + 60 ≤ k) : node_branch.f k b cs ks kids = some (brV b cs ks kids) := by
 unfold node_branch.f brV
 rw [ochk_f b cs ks kids hn k hk, Option.bind_some]
 by_cases h : chkV b cs ks kids = 0
 ·rw [if_pos h]
  cases b with
  | true => rw [if_pos rfl, if_pos ⟨h, rfl⟩]
  | false => rw [if_neg (by decide), if_neg (by rintro ⟨_, h⟩; cases h)]
 ·rw [if_neg h, if_neg (fun h1 => h h1.1)]
theorem brV_zero {b : Bool} {cs : List Ce} {ks : List ByteArray} {kids : List Int} (h : brV b cs ks kids = 0) : b = false ∧ chkV b cs ks kids = 0 := by
 unfold brV at h
 by_cases hc : chkV b cs ks kids = 0 ∧ b = true
 ·rw [if_pos hc] at h
  cases h
 ·rw [if_neg hc] at h
  cases b with
  | true => exact absurd ⟨h, rfl⟩ hc
  | false => exact ⟨rfl, h⟩
def shrinkV (b : Bool) (cs : List Ce) (ks : List ByteArray) (kids : List Int) (i : Int) : Bool × List Ce × List ByteArray × List Int × Int :=
 if brV b cs ks kids = 0 then (if i < 0 ∨ (ks.length : Int) ≤ i then (false, [], [], [], 1) else (false, [], ks.take i.toNat ++ ks.drop (i.toNat + 1), kids.take (i.toNat + 1) ++ kids.drop (i.toNat + 2), 0)) else (false, [], [], [], brV b cs ks kids)
abbrev mS0 : Array Bool := #[false,false,false,false,false,false,false,false,false,false,false,false,false,false,false,false,false,false,false,false,false,false,false,false,false,false]
abbrev mS1 : Array Bool := #[true,false,false,false,false,false,false,false,false,false,false,false,false,false,false,false,false,false,false,false,false,false,false,false,false,false]
abbrev mS2 : Array Bool := #[true,true,false,false,false,false,false,false,false,false,false,false,false,false,false,false,false,false,false,false,false,false,false,false,false,false]
abbrev mS3 : Array Bool := #[true,true,true,false,false,false,false,false,false,false,false,false,false,false,false,false,false,false,false,false,false,false,false,false,false,false]
abbrev mS4 : Array Bool := #[true,true,true,true,false,false,false,false,false,false,false,false,false,false,false,false,false,false,false,false,false,false,false,false,false,false]
abbrev mS5 : Array Bool := #[true,true,true,true,true,false,false,false,false,false,false,false,false,false,false,false,false,false,false,false,false,false,false,false,false,false]
abbrev mS6 : Array Bool := #[true,true,true,true,true,true,false,false,false,false,false,false,false,false,false,false,false,false,false,false,false,false,false,false,false,false]
abbrev mS7 : Array Bool := #[true,true,true,true,true,true,true,false,false,false,false,false,false,false,false,false,false,false,false,false,false,false,false,false,false,false]
abbrev mS8 : Array Bool := #[true,true,true,true,true,true,true,true,false,false,false,false,false,false,false,false,false,false,false,false,false,false,false,false,false,false]
abbrev mS9 : Array Bool := #[true,true,true,true,true,true,true,true,true,false,false,false,false,false,false,false,false,false,false,false,false,false,false,false,false,false]
abbrev mS10 : Array Bool := #[true,true,true,true,true,true,true,true,true,false,false,true,false,false,false,false,false,false,false,false,false,false,false,false,false,false]
abbrev mS11 : Array Bool := #[true,true,true,true,true,true,true,true,true,false,false,true,true,false,false,false,false,false,false,false,false,false,false,false,false,false]
abbrev mS12 : Array Bool := #[true,true,true,true,true,true,true,true,true,false,false,true,true,true,false,false,false,false,false,false,false,false,false,false,false,false]
abbrev mS13 : Array Bool := #[true,true,true,true,true,true,true,true,true,false,false,true,true,true,true,false,false,false,false,false,false,false,false,false,false,false]
abbrev mS14 : Array Bool := #[true,true,true,true,true,true,true,true,true,false,false,true,true,true,true,true,false,false,false,false,false,false,false,false,false,false]
abbrev mS15 : Array Bool := #[true,true,true,true,true,true,true,true,true,false,false,true,true,true,true,true,true,false,false,false,false,false,false,false,false,false]
abbrev mS16 : Array Bool := #[true,true,true,true,true,true,true,true,true,false,false,true,true,true,true,true,true,true,false,false,false,false,false,false,false,false]
abbrev mS17 : Array Bool := #[true,true,true,true,true,true,true,true,true,false,false,true,true,true,true,true,true,true,true,false,false,false,false,false,false,false]
abbrev mS18 : Array Bool := #[true,true,true,true,true,true,true,true,true,false,false,true,true,true,true,true,true,true,true,true,false,false,false,false,false,false]
abbrev mS19 : Array Bool := #[true,true,true,true,true,true,true,true,true,false,false,true,true,true,true,true,true,true,true,true,true,false,false,false,false,false]
abbrev mS20 : Array Bool := #[true,true,true,true,true,true,true,true,true,true,false,true,true,true,true,true,true,true,true,true,true,false,false,false,false,false]
abbrev mS21 : Array Bool := #[true,true,true,true,true,true,true,true,true,false,false,true,true,true,true,true,true,true,true,true,true,true,false,false,false,false]
abbrev mS22 : Array Bool := #[true,true,true,true,true,true,true,true,true,true,true,true,true,true,true,true,true,true,true,true,true,false,false,false,false,false]
abbrev mS23 : Array Bool := #[true,true,true,true,true,true,true,true,true,true,false,true,true,true,true,true,true,true,true,true,true,true,false,false,false,false]
abbrev mS24 : Array Bool := #[true,true,true,true,true,true,true,true,true,true,true,true,true,true,true,true,true,true,true,true,true,true,false,false,false,false]
abbrev mS25 : Array Bool := #[true,true,true,true,true,true,true,true,true,true,true,true,true,true,true,true,true,true,true,true,true,true,true,false,false,false]
abbrev mS26 : Array Bool := #[true,true,true,true,true,true,true,true,true,true,true,true,true,true,true,true,true,true,true,true,true,true,true,true,false,false]
abbrev mS27 : Array Bool := #[true,true,true,true,true,true,true,true,true,true,true,true,true,true,true,true,true,true,true,true,true,true,true,true,true,false]
abbrev mS28 : Array Bool := #[true,true,true,true,true,true,true,true,true,true,true,true,true,true,true,true,true,true,true,true,true,true,true,true,true,true]
theorem shrink_calls (W : World) (b : Bool) (B1 : Option Addr) (c1 : Nat) (cs : List Ce) (B2 : Option Addr) (c2 : Nat) (ks : List ByteArray) (B3 : Option Addr) (c3 : Nat) (kids : List Int) (i : Int) (hc1 : cs.length ≤ c1) (hc2 : ks.length ≤ c2) (hc3 : kids.length ≤ c3) (h1 : Kd.C k66 W B1 cs.length cs) (h2 : Kd.C Kd.string W B2 ks.length ks) (h3 : Kd.C (Kd.int .u32) W B3 kids.length kids) (hn : NdOk cs ks kids) (r1 : Bool) (r2 : List Ce) (r3 : List ByteArray) (r4 : List Int) (r5 : Int) (h : shrinkV b cs ks kids i = (r1, r2, r3, r4, r5)) :
  Calls Try.prog 42 #[.agg #[.bool b, .slice B1 cs.length c1, .slice B2 ks.length c2, .slice B3 kids.length c3], .int .i64 i] W fun e w' => ∃ v1_ v2_ v3_ : Value, e = .returned (.tuple #[.agg #[.bool r1, v1_, v2_, v3_], .int .i64 r5]) ∧ Kd.R k66 66 w' W.heap.size (fun _ => True) v1_ r2 ∧ Kd.R Kd.string 9 w' W.heap.size (fun _ => True) v2_ r3 ∧ Kd.R (Kd.int .u32) 45 w' W.heap.size (fun _ => True) v3_ r4 ∧ Below W.heap.size W w' := by
 have hbr := branch_f b cs ks kids hn (2 * (cs.length + ks.length) + kids.length + 60) (Nat.le_refl _)
 generalize hC : brV b cs ks kids = C at hbr
 have H := Aside0.mk h
 have HN := Aside0.mk hn
 clear h hn
 go_enter Try.func42, Try.ntmps42
 go_wp2_with fail
 have hbx : (W.alloc (.cells #[.bool b, .slice B1 cs.length c1, .slice B2 ks.length c2, .slice B3 kids.length c3] 26)).heap[W.heap.size]? = some (.cells #[.bool b, .slice B1 cs.length c1, .slice B2 ks.length c2, .slice B3 kids.length c3] 26 (0, 0)) := blk_new W _
 have hb0 : Below W.heap.size W (W.alloc (.cells #[.bool b, .slice B1 cs.length c1, .slice B2 ks.length c2, .slice B3 kids.length c3] 26)) := (Below.refl _ _).alloc (Nat.le_refl _) _
 have hs1 : (W.alloc (.cells #[.bool b, .slice B1 cs.length c1, .slice B2 ks.length c2, .slice B3 kids.length c3] 26)).heap.size = W.heap.size + 1 := by show (W.heap.push _).size = _; rw [Array.size_push]
 generalize W.alloc (.cells #[.bool b, .slice B1 cs.length c1, .slice B2 ks.length c2, .slice B3 kids.length c3] 26) = wa at *
 have hbo : (wa.alloc (.cells #[.bool false, .slice none 0 0, .slice none 0 0, .slice none 0 0] 26)).heap[wa.heap.size]? = some (.cells #[.bool false, .slice none 0 0, .slice none 0 0, .slice none 0 0] 26 (0, 0)) := blk_new wa _
 have hb1 : Below wa.heap.size wa (wa.alloc (.cells #[.bool false, .slice none 0 0, .slice none 0 0, .slice none 0 0] 26)) := (Below.refl _ _).alloc (Nat.le_refl _) _
 rw [hs1] at hbo
 replace hbx := blk_below hbx hb1
 replace hb0 := below_then hb0 (below_size hb0) hb1
 clear hb1 hs1
 generalize wa.alloc (.cells #[.bool false, .slice none 0 0, .slice none 0 0, .slice none 0 0] 26) = w1 at *
 obtain ⟨go, hgo⟩ : ∃ g, g = W.heap.size + 1 := ⟨_, rfl⟩
 obtain ⟨gn, hgn⟩ : ∃ g, g = W.heap.size := ⟨_, rfl⟩
 rw [← hgo] at hbo ⊢
 rw [← hgn] at hbx ⊢
 have HG2 := Aside0.mk (show W.heap.size ≤ go by omega)
 have HNE := Aside0.mk (show gn ≠ go by omega)
 clear hgo hgn
 have H2 := Aside0.mk h2
 have H3 := Aside0.mk h3
 refine (node_branch.calls _ b B1 c1 cs B2 c2 ks B3 c3 kids C w1 (Kd.C_below h1 hb0) hc1 (Kd.C_below h2 hb0) hc2 (Kd.C_below h3 hb0) hc3 hbr).mono ?_
 rintro e_ w2 ⟨rfl, hb2⟩
 clear h1 h2 h3 hbr
 have HX := Aside0.mk (And.intro (blk_below hbx hb2) (blk_below hbo hb2))
 have HB := Aside0.mk (below_then hb0 (below_size hb0) hb2)
 clear hbx hbo hb0 hb2
 have k0 : w2.cell? ⟨gn, 0, none⟩ = some (.bool b) := (blk_cell HX.out.1 0).trans rfl
 have k1 : w2.cell? ⟨gn, 1, none⟩ = some (.slice B1 cs.length c1) := (blk_cell HX.out.1 1).trans rfl
 have k2 : w2.cell? ⟨gn, 2, none⟩ = some (.slice B2 ks.length c2) := (blk_cell HX.out.1 2).trans rfl
 have k3 : w2.cell? ⟨gn, 3, none⟩ = some (.slice B3 kids.length c3) := (blk_cell HX.out.1 3).trans rfl
 have o0 : w2.cell? ⟨go, 0, none⟩ = some (.bool false) := (blk_cell HX.out.2 0).trans rfl
 have o1 : w2.cell? ⟨go, 1, none⟩ = some (.slice none 0 0) := (blk_cell HX.out.2 1).trans rfl
 have o2 : w2.cell? ⟨go, 2, none⟩ = some (.slice none 0 0) := (blk_cell HX.out.2 2).trans rfl
 have o3 : w2.cell? ⟨go, 3, none⟩ = some (.slice none 0 0) := (blk_cell HX.out.2 3).trans rfl
 have f0 := blk_frozen HX.out.2 0
 have f1 := blk_frozen HX.out.2 1
 have f2 := blk_frozen HX.out.2 2
 have f3 := blk_frozen HX.out.2 3
 have hv := H.out
 unfold shrinkV at hv
 rw [hC] at hv
 by_cases hC0 : C = 0
 ·subst hC0
  obtain ⟨rfl, hck⟩ := brV_zero hC
  rw [if_pos rfl] at hv
  have hkl : kids.length = ks.length + 1 ∧ ks.length ≤ 2000 := by
   have f1 := (chk_facts hck).1
   have f5 := (chk_facts hck).2.2.2.2
   have f6 := ks_len ks
   unfold shpV at f1
   unfold lngV at f5
   rw [if_neg (by decide)] at f1 f5
   rw [Bool.and_eq_true, Bool.and_eq_true, decide_eq_true_eq] at f1
   omega
  have HKL := Aside0.mk hkl
  clear hkl hC hck
  by_cases hi0 : i < 0
  ·have d1 : decide (i < 0) = true := decide_eq_true hi0
   rw [if_pos (Or.inl hi0)] at hv
   have hp := hv.symm
   clear hv
   injection hp with e1 hp
   injection hp with e2 hp
   injection hp with e3 hp
   injection hp with e4 e5
   subst e1 e2 e3 e4 e5
   go_wp2_with fail
   (try simp only [Exit.inBlock, Exit.then]); refine bodyPost_ret (results_ct rfl _ _ go 26 _ (0, 0) _ rfl (ret_all HX.out.2 _ _ _ _) Try.underlying26 rfl (by kernel_rfl)) rfl ?_
   exact ⟨_, _, _, rfl, Kd.R_nil _ _ _ _ _, Kd.R_nil _ _ _ _ _, Kd.R_nil _ _ _ _ _, below_set (below_set (below_set (below_set HB.out HG2.out) HG2.out) HG2.out) HG2.out⟩
  ·have d1 : decide (i < 0) = false := decide_eq_false hi0
   by_cases hi1 : (ks.length : Int) ≤ i
   ·have d2 : decide (i ≥ (ks.length : Int)) = true := decide_eq_true hi1
    rw [if_pos (Or.inr hi1)] at hv
    have hp := hv.symm
    clear hv
    injection hp with e1 hp
    injection hp with e2 hp
    injection hp with e3 hp
    injection hp with e4 e5
    subst e1 e2 e3 e4 e5
    go_wp2_with fail
    (try simp only [Exit.inBlock, Exit.then]); refine bodyPost_ret (results_ct rfl _ _ go 26 _ (0, 0) _ rfl (ret_all HX.out.2 _ _ _ _) Try.underlying26 rfl (by kernel_rfl)) rfl ?_
    exact ⟨_, _, _, rfl, Kd.R_nil _ _ _ _ _, Kd.R_nil _ _ _ _ _, Kd.R_nil _ _ _ _ _, below_set (below_set (below_set (below_set HB.out HG2.out) HG2.out) HG2.out) HG2.out⟩
   ·have d2 : decide (i ≥ (ks.length : Int)) = false := decide_eq_false hi1
    rw [if_neg (by omega)] at hv
    obtain ⟨p, rfl⟩ : ∃ p : Nat, i = (p : Int) := ⟨i.toNat, by omega⟩
    rw [Int.toNat_natCast] at hv
    have hp := hv.symm
    clear hv
    injection hp with e1 hp
    injection hp with e2 hp
    injection hp with e3 hp
    injection hp with e4 e5
    subst e1 e2 e3 e4 e5
    have hpl : p < ks.length := by omega
    have HP := Aside0.mk hpl
    clear hi1
    go_wp2_with fail
    clear k0 k1 k2 k3 o0 o1 o2 o3 f0 f1 f2 f3 d1 d2 hi0
    obtain ⟨p1, hp1⟩ : ∃ q, q = p + 1 := ⟨_, rfl⟩
    obtain ⟨p2, hp2⟩ : ∃ q, q = p + 2 := ⟨_, rfl⟩
    have ca := cut_to (P := Try.prog) 23 9 .i64 Try.underlying23 (Option.some_get cis0).symm B2 ks.length c2 (p : Int) (by omega) (by omega) hc2
    have cb := cut_from (P := Try.prog) 23 9 .i64 Try.underlying23 (Option.some_get cis0).symm 1 (by kernel_rfl) B2 ks.length c2 (p1 : Int) (by omega) (by omega)
    have cc := cut_to (P := Try.prog) 24 45 .i64 Try.underlying24 (Option.some_get ciu0).symm B3 kids.length c3 (p1 : Int) (by omega) (by have := HKL.out; omega) hc3
    have cd := cut_from (P := Try.prog) 24 45 .i64 Try.underlying24 (Option.some_get ciu0).symm 1 (by kernel_rfl) B3 kids.length c3 (p2 : Int) (by omega) (by have := HKL.out; omega)
    rw [Int.toNat_natCast] at ca cb cc cd
    have R1 := Kd.C_take (m := p) H2.out (by omega)
    have R2 := Kd.C_drop (c := c2) (m := p1) H2.out (by omega) hc2
    have R3 := Kd.C_take (m := p1) H3.out (by have := HKL.out; omega)
    have R4 := Kd.C_drop (c := c3) (m := p2) H3.out (by have := HKL.out; omega) hc3
    change Kd.C Kd.string W (if c2 = p1 then B2 else B2.map (·.add (p1 * 1))) _ _ at R2
    change Kd.C (Kd.int .u32) W (if c3 = p2 then B3 else B3.map (·.add (p2 * 1))) _ _ at R4
    generalize (if c2 = p1 then B2 else B2.map (·.add (p1 * 1))) = B2d at cb R2
    generalize (if c3 = p2 then B3 else B3.map (·.add (p2 * 1))) = B3d at cd R4
    have q1 : (ks.take p).length = p := by rw [List.length_take]; omega
    have q2 : (ks.drop p1).length = ks.length - p1 := List.length_drop
    have q3 : (kids.take p1).length = p1 := by rw [List.length_take]; have := HKL.out; omega
    have q4 : (kids.drop p2).length = kids.length - p2 := List.length_drop
    replace ca := fun W_ => (ca W_).trans (show _ = Result.ok (Value.slice B2 (ks.take p).length c2) W_ by rw [q1])
    replace cb := fun W_ => (cb W_).trans (show _ = Result.ok (Value.slice B2d (ks.drop p1).length (c2 - p1)) W_ by rw [q2])
    replace cc := fun W_ => (cc W_).trans (show _ = Result.ok (Value.slice B3 (kids.take p1).length c3) W_ by rw [q3])
    replace cd := fun W_ => (cd W_).trans (show _ = Result.ok (Value.slice B3d (kids.drop p2).length (c3 - p2)) W_ by rw [q4])
    have l1 : (ks.take p).length ≤ c2 := by rw [q1]; omega
    have l2 : (ks.drop p1).length ≤ c2 - p1 := by rw [q2]; omega
    have l3 : (kids.take p1).length ≤ c3 := by rw [q3]; have := HKL.out; omega
    have l4 : (kids.drop p2).length ≤ c3 - p2 := by rw [q4]; omega
    have HQ := Aside0.mk (And.intro R1 (And.intro R2 (And.intro R3 (And.intro R4 (And.intro l1 (And.intro l2 (And.intro l3 l4)))))))
    have HLn : Aside0 ((ks.take p ++ ks.drop p1).length ≤ 1000000 ∧ (kids.take p1 ++ kids.drop p2).length ≤ 1000000) := ⟨by rw [List.length_append, List.length_append, q1, q2, q3, q4]; have := HKL.out; omega⟩
    have hp5 : p < 5000 := by have := HKL.out; omega
    have m1 : wrap64 ((p : Int) + 1) = (p1 : Int) := by rw [hp1]; exact w64S p (Nat.lt_trans hp5 (by decide))
    have m2 : wrap64 ((p : Int) + 2) = (p2 : Int) := by rw [hp2]; exact w64A p 2 (Nat.lt_of_lt_of_le (Nat.add_lt_add_right hp5 2) (by decide))
    clear R1 R2 R3 R4 l1 l2 l3 l4 q1 q2 q3 q4 hpl hp5
    generalize hK1 : ks.take p = K1 at ca HQ HLn ⊢
    generalize hK2 : ks.drop p1 = K2 at cb HQ HLn ⊢
    generalize hD1 : kids.take p1 = D1 at cc HQ HLn ⊢
    generalize hD2 : kids.drop p2 = D2 at cd HQ HLn ⊢
    have HEQ : Aside0 (ks.take p ++ ks.drop (p + 1) = K1 ++ K2 ∧ kids.take (p + 1) ++ kids.drop (p + 2) = D1 ++ D2) := ⟨by rw [← hK1, ← hK2, hp1], by rw [← hD1, ← hD2, hp1, hp2]⟩
    clear hK1 hK2 hD1 hD2 hp1 hp2
    have k2 : w2.cell? ⟨gn, 2, none⟩ = some (.slice B2 ks.length c2) := (blk_cell HX.out.1 2).trans rfl
    have k3 : w2.cell? ⟨gn, 3, none⟩ = some (.slice B3 kids.length c3) := (blk_cell HX.out.1 3).trans rfl
    refine start_ (n := 26) (S := fun w' => w'.cell? ⟨gn, 2, none⟩ = some (.slice B2 ks.length c2) ∧ w'.cell? ⟨gn, 3, none⟩ = some (.slice B3 kids.length c3)) (ds := []) mS0 (by kernel_rfl) rfl rfl (⟨k2, k3⟩) (fun hHeld => ?_)
    have hb : Below w2.heap.size w2 w2.drew := below_drew (Below.refl _ _)
    replace HX := Aside0.mk (And.intro (blk_below HX.out.1 hb) (blk_below HX.out.2 hb))
    replace HB := Aside0.mk (below_then HB.out (below_size HB.out) hb)
    clear hb k2 k3
    generalize w2.drew = w3 at *
    refine pure_ (i := 0) (N := some 23) (v := ?_) (a' := ?_) mS1 rfl rfl (by kernel_rfl) (fun _ _ _ h => h) (Or.inl ⟨by rfl, ?_⟩) ?_ ?_
    rotate_left
    ·intro w'
     go_simp
     with_reducible rfl
    rotate_left
    ·simp only [Act.put, List.setIfInBounds_toArray, List.set_cons_zero, List.set_cons_succ, i64_w, i32_w]
     rfl
    refine take_ (i := 1) (N := some 24) (v := ?_) (a' := ?_) mS2 rfl rfl (by kernel_rfl) (fun _ _ _ h => h) (Or.inl ⟨by rfl, ?_⟩) hHeld ?_ ?_
    rotate_left
    ·intro w' hS
     go_simp
     with_reducible rfl
    rotate_left
    ·simp only [Act.put, List.setIfInBounds_toArray, List.set_cons_zero, List.set_cons_succ, i64_w, i32_w]
     rfl
    refine pure_ (i := 2) (N := some 25) (v := ?_) (a' := ?_) mS3 rfl rfl (by kernel_rfl) (fun _ _ _ h => h) (Or.inl ⟨by rfl, ?_⟩) ?_ ?_
    rotate_left
    ·intro w'
     go_simp
     with_reducible rfl
    rotate_left
    ·simp only [Act.put, List.setIfInBounds_toArray, List.set_cons_zero, List.set_cons_succ, i64_w, i32_w]
     rfl
    refine pure_ (i := 3) (N := some 26) (v := ?_) (a' := ?_) mS4 rfl rfl (by kernel_rfl) (fun _ _ _ h => h) (Or.inl ⟨by rfl, ?_⟩) ?_ ?_
    rotate_left
    ·intro w'
     go_simp
     with_reducible rfl
    rotate_left
    ·simp only [Act.put, List.setIfInBounds_toArray, List.set_cons_zero, List.set_cons_succ, i64_w, i32_w]
     rfl
    refine pure_ (i := 4) (N := some 27) (v := ?_) (a' := ?_) mS5 rfl rfl (by kernel_rfl) (fun _ _ _ h => h) (Or.inl ⟨by rfl, ?_⟩) ?_ ?_
    rotate_left
    ·intro w'
     go_simp
     with_reducible rfl
    rotate_left
    ·simp only [Act.put, List.setIfInBounds_toArray, List.set_cons_zero, List.set_cons_succ, i64_w, i32_w]
     rfl
    refine take_ (i := 5) (N := some 28) (v := ?_) (a' := ?_) mS6 rfl rfl (by kernel_rfl) (fun _ _ _ h => h) (Or.inl ⟨by rfl, ?_⟩) hHeld ?_ ?_
    rotate_left
    ·intro w' hS
     go_simp
     with_reducible rfl
    rotate_left
    ·simp only [Act.put, List.setIfInBounds_toArray, List.set_cons_zero, List.set_cons_succ, i64_w, i32_w]
     rfl
    refine pure_ (i := 6) (N := some 29) (v := ?_) (a' := ?_) mS7 rfl rfl (by kernel_rfl) (fun _ _ _ h => h) (Or.inl ⟨by rfl, ?_⟩) ?_ ?_
    rotate_left
    ·intro w'
     go_simp
     with_reducible rfl
    rotate_left
    ·simp only [Act.put, List.setIfInBounds_toArray, List.set_cons_zero, List.set_cons_succ, i64_w, i32_w]
     rfl
    refine pure_ (i := 7) (N := some 30) (v := ?_) (a' := ?_) mS8 rfl rfl (by kernel_rfl) (fun _ _ _ h => h) (Or.inl ⟨by rfl, ?_⟩) ?_ ?_
    rotate_left
    ·intro w'
     go_simp
     with_reducible rfl
    rotate_left
    ·simp only [Act.put, List.setIfInBounds_toArray, List.set_cons_zero, List.set_cons_succ, i64_w, i32_w]
     rfl
    refine pure_ (i := 8) (N := some 31) (v := ?_) (a' := ?_) mS9 rfl rfl (by kernel_rfl) (fun _ _ _ h => h) (Or.inl ⟨by rfl, ?_⟩) ?_ ?_
    rotate_left
    ·intro w'
     go_simp
     with_reducible rfl
    rotate_left
    ·simp only [Act.put, List.setIfInBounds_toArray, List.set_cons_zero, List.set_cons_succ, i64_w, i32_w]
     rfl
    refine pure_ (i := 11) (N := some 34) (v := ?_) (a' := ?_) mS10 rfl rfl (by kernel_rfl) (fun _ _ _ h => h) (Or.inl ⟨by rfl, ?_⟩) ?_ ?_
    rotate_left
    ·intro w'
     go_simp
     with_reducible rfl
    rotate_left
    ·simp only [Act.put, List.setIfInBounds_toArray, List.set_cons_zero, List.set_cons_succ, i64_w, i32_w]
     rfl
    refine take_ (i := 12) (N := some 35) (v := ?_) (a' := ?_) mS11 rfl rfl (by kernel_rfl) (fun _ _ _ h => h) (Or.inl ⟨by rfl, ?_⟩) hHeld ?_ ?_
    rotate_left
    ·intro w' hS
     go_simp
     with_reducible rfl
    rotate_left
    ·simp only [Act.put, List.setIfInBounds_toArray, List.set_cons_zero, List.set_cons_succ, i64_w, i32_w]
     rfl
    refine pure_ (i := 13) (N := some 36) (v := ?_) (a' := ?_) mS12 rfl rfl (by kernel_rfl) (fun _ _ _ h => h) (Or.inl ⟨by rfl, ?_⟩) ?_ ?_
    rotate_left
    ·intro w'
     go_simp
     with_reducible rfl
    rotate_left
    ·simp only [Act.put, List.setIfInBounds_toArray, List.set_cons_zero, List.set_cons_succ, i64_w, i32_w]
     rfl
    refine pure_ (i := 14) (N := some 37) (v := ?_) (a' := ?_) mS13 rfl rfl (by kernel_rfl) (fun _ _ _ h => h) (Or.inl ⟨by rfl, ?_⟩) ?_ ?_
    rotate_left
    ·intro w'
     go_simp
     with_reducible rfl
    rotate_left
    ·simp only [Act.put, List.setIfInBounds_toArray, List.set_cons_zero, List.set_cons_succ, i64_w, i32_w]
     rfl
    refine pure_ (i := 15) (N := some 38) (v := ?_) (a' := ?_) mS14 rfl rfl (by kernel_rfl) (fun _ _ _ h => h) (Or.inl ⟨by rfl, ?_⟩) ?_ ?_
    rotate_left
    ·intro w'
     go_simp
     with_reducible rfl
    rotate_left
    ·simp only [Act.put, List.setIfInBounds_toArray, List.set_cons_zero, List.set_cons_succ, i64_w, i32_w]
     rfl
    refine pure_ (i := 16) (N := some 39) (v := ?_) (a' := ?_) mS15 rfl rfl (by kernel_rfl) (fun _ _ _ h => h) (Or.inl ⟨by rfl, ?_⟩) ?_ ?_
    rotate_left
    ·intro w'
     go_simp
     with_reducible rfl
    rotate_left
    ·simp only [Act.put, List.setIfInBounds_toArray, List.set_cons_zero, List.set_cons_succ, i64_w, i32_w]
     rfl
    refine take_ (i := 17) (N := some 40) (v := ?_) (a' := ?_) mS16 rfl rfl (by kernel_rfl) (fun _ _ _ h => h) (Or.inl ⟨by rfl, ?_⟩) hHeld ?_ ?_
    rotate_left
    ·intro w' hS
     go_simp
     with_reducible rfl
    rotate_left
    ·simp only [Act.put, List.setIfInBounds_toArray, List.set_cons_zero, List.set_cons_succ, i64_w, i32_w]
     rfl
    refine pure_ (i := 18) (N := some 41) (v := ?_) (a' := ?_) mS17 rfl rfl (by kernel_rfl) (fun _ _ _ h => h) (Or.inl ⟨by rfl, ?_⟩) ?_ ?_
    rotate_left
    ·intro w'
     go_simp
     with_reducible rfl
    rotate_left
    ·simp only [Act.put, List.setIfInBounds_toArray, List.set_cons_zero, List.set_cons_succ, i64_w, i32_w]
     rfl
    refine pure_ (i := 19) (N := some 42) (v := ?_) (a' := ?_) mS18 rfl rfl (by kernel_rfl) (fun _ _ _ h => h) (Or.inl ⟨by rfl, ?_⟩) ?_ ?_
    rotate_left
    ·intro w'
     go_simp
     with_reducible rfl
    rotate_left
    ·simp only [Act.put, List.setIfInBounds_toArray, List.set_cons_zero, List.set_cons_succ, i64_w, i32_w]
     rfl
    refine pure_ (i := 20) (N := some 43) (v := ?_) (a' := ?_) mS19 rfl rfl (by kernel_rfl) (fun _ _ _ h => h) (Or.inl ⟨by rfl, ?_⟩) ?_ ?_
    rotate_left
    ·intro w'
     go_simp
     with_reducible rfl
    rotate_left
    ·simp only [Act.put, List.setIfInBounds_toArray, List.set_cons_zero, List.set_cons_succ, i64_w, i32_w]
     rfl
    refine two_ (i := 9) (j := 21) (Ni := some 32) (Nj := some 44) mS20 mS21 rfl rfl rfl rfl (by kernel_rfl) (by decide) (by decide) (fun K hK => ?_) (fun K hK => ?_)
    ·refine value_ (w1 := ?_) (v := ?_) (by rfl) rfl ?_ ?_
     rotate_left 2
     ·go_simp
      constructor
      ·rfl
      ·rfl
     clear hHeld
     have HL9 : Aside0 ((w3.alloc (.cells #[.slice B2 K1.length c2, .slice B2d K2.length (c2 - p1)] 23)).heap[w3.heap.size]? = some (.cells #[.slice B2 K1.length c2, .slice B2d K2.length (c2 - p1)] 23 (0, 0))) := ⟨blk_new _ _⟩
     have hb : Below w3.heap.size w3 (w3.alloc (.cells #[.slice B2 K1.length c2, .slice B2d K2.length (c2 - p1)] 23)) := (Below.refl _ _).alloc (Nat.le_refl _) _
     replace HX := Aside0.mk (And.intro (blk_below HX.out.1 hb) (blk_below HX.out.2 hb))
     replace HB := Aside0.mk (below_then HB.out (below_size HB.out) hb)
     clear hb
     generalize w3.alloc (.cells #[.slice B2 K1.length c2, .slice B2d K2.length (c2 - p1)] 23) = w4 at *
     obtain ⟨g9, hg_⟩ : ∃ g, g = w3.heap.size := ⟨_, rfl⟩
     rw [← hg_] at HL9 ⊢
     clear hg_
     refine hK.out _ _ (⟨(blk_cell HX.out.1 2).trans rfl, (blk_cell HX.out.1 3).trans rfl⟩) (fun hHeld => ?_)
     clear hK K
     refine norm_ (a' := ?_) ?_ ?_
     rotate_left
     ·show Act.put _ (some 32) _ = _
      simp only [Act.put, List.setIfInBounds_toArray, List.set_cons_zero, List.set_cons_succ, i64_w, i32_w]
      rfl
     refine two_ (i := 10) (j := 21) (Ni := some 33) (Nj := some 44) mS22 mS23 rfl rfl rfl rfl (by kernel_rfl) (by decide) (by decide) (fun K hK => ?_) (fun K hK => ?_)
     ·refine goes_ Try.func80 (by kernel_rfl) rfl #[.slice (some ⟨g9, 0, none⟩) 2 2] (by rfl) rfl rfl (by (try simp only [List.map_toArray, List.map_cons, List.map_nil]); first | done | rfl) ?_
      have hCL := C_lit (d := Kd.string) (e := 9) [(B2, c2, K1), (B2d, c2 - p1, K2)] (by simp) HL9.out (all2 ⟨HQ.out.2.2.2.2.1, Kd.C_below HQ.out.1 HB.out⟩ ⟨HQ.out.2.2.2.2.2.1, Kd.C_below HQ.out.2.1 HB.out⟩)
      refine (slices_Concat_string_string.calls (some ⟨g9, 0, none⟩) 2 [K1, K2] (K1 ++ K2) w4 hCL (Nat.le_refl _) (by unfold slices_Concat_string_string.f; rw [if_pos ⟨by simp, by simpa using HLn.out.1⟩]; simp)).mono ?_
      rintro e_ w5 ⟨v_, rfl, hr_, hb⟩
      refine ⟨_, rfl, ?_⟩
      clear hHeld hCL
      have HRK := Aside0.mk (Kd.R_lower hr_ HB.out.size)
      clear hr_
      replace HX := Aside0.mk (And.intro (blk_below HX.out.1 hb) (blk_below HX.out.2 hb))
      replace HB := Aside0.mk (below_then HB.out (below_size HB.out) hb)
      replace HL9 := Aside0.mk (blk_below HL9.out hb)
      clear hb
      obtain ⟨vk, ck, e9⟩ := Kd.R_slice HRK.out
      subst e9
      refine hK.out _ _ (⟨(blk_cell HX.out.1 2).trans rfl, (blk_cell HX.out.1 3).trans rfl⟩) (fun hHeld => ?_)
      clear hK K
      refine norm_ (a' := ?_) ?_ ?_
      rotate_left
      ·show Act.put _ (some 33) _ = _
       simp only [Act.put, List.setIfInBounds_toArray, List.set_cons_zero, List.set_cons_succ, i64_w, i32_w]
       rfl
      refine one_ (i := 21) (N := some 44) mS24 rfl rfl (by kernel_rfl) (by decide) (fun K hK => ?_)
      refine value_ (w1 := ?_) (v := ?_) (by rfl) rfl ?_ ?_
      rotate_left 2
      ·go_simp
       constructor
       ·rfl
       ·rfl
      clear hHeld
      have HL21 : Aside0 ((w5.alloc (.cells #[.slice B3 D1.length c3, .slice B3d D2.length (c3 - p2)] 24)).heap[w5.heap.size]? = some (.cells #[.slice B3 D1.length c3, .slice B3d D2.length (c3 - p2)] 24 (0, 0))) := ⟨blk_new _ _⟩
      have hb : Below w5.heap.size w5 (w5.alloc (.cells #[.slice B3 D1.length c3, .slice B3d D2.length (c3 - p2)] 24)) := (Below.refl _ _).alloc (Nat.le_refl _) _
      replace HX := Aside0.mk (And.intro (blk_below HX.out.1 hb) (blk_below HX.out.2 hb))
      replace HB := Aside0.mk (below_then HB.out (below_size HB.out) hb)
      replace HL9 := Aside0.mk (blk_below HL9.out hb)
      replace HRK := Aside0.mk (Kd.R_below HRK.out hb)
      clear hb
      generalize w5.alloc (.cells #[.slice B3 D1.length c3, .slice B3d D2.length (c3 - p2)] 24) = w6 at *
      obtain ⟨g21, hg_⟩ : ∃ g, g = w5.heap.size := ⟨_, rfl⟩
      rw [← hg_] at HL21 ⊢
      clear hg_
      refine hK.out _ _ (⟨(blk_cell HX.out.1 2).trans rfl, (blk_cell HX.out.1 3).trans rfl⟩) (fun hHeld => ?_)
      clear hK K
      refine norm_ (a' := ?_) ?_ ?_
      rotate_left
      ·show Act.put _ (some 44) _ = _
       simp only [Act.put, List.setIfInBounds_toArray, List.set_cons_zero, List.set_cons_succ, i64_w, i32_w]
       rfl
      refine one_ (i := 22) (N := some 45) mS25 rfl rfl (by kernel_rfl) (by decide) (fun K hK => ?_)
      refine goes_ Try.func81 (by kernel_rfl) rfl #[.slice (some ⟨g21, 0, none⟩) 2 2] (by rfl) rfl rfl (by (try simp only [List.map_toArray, List.map_cons, List.map_nil]); first | done | rfl) ?_
      have hCL := C_lit (d := (Kd.int .u32)) (e := 45) [(B3, c3, D1), (B3d, c3 - p2, D2)] (by simp) HL21.out (all2 ⟨HQ.out.2.2.2.2.2.2.1, Kd.C_below HQ.out.2.2.1 HB.out⟩ ⟨HQ.out.2.2.2.2.2.2.2, Kd.C_below HQ.out.2.2.2.1 HB.out⟩)
      refine (slices_Concat_uint32_uint32.calls (some ⟨g21, 0, none⟩) 2 [D1, D2] (D1 ++ D2) w6 hCL (Nat.le_refl _) (by unfold slices_Concat_uint32_uint32.f; rw [if_pos ⟨by simp, by simpa using HLn.out.2⟩]; simp)).mono ?_
      rintro e_ w7 ⟨v_, rfl, hr_, hb⟩
      refine ⟨_, rfl, ?_⟩
      clear hHeld hCL
      have HRD := Aside0.mk (Kd.R_lower hr_ HB.out.size)
      clear hr_
      replace HX := Aside0.mk (And.intro (blk_below HX.out.1 hb) (blk_below HX.out.2 hb))
      replace HB := Aside0.mk (below_then HB.out (below_size HB.out) hb)
      replace HL9 := Aside0.mk (blk_below HL9.out hb)
      replace HRK := Aside0.mk (Kd.R_below HRK.out hb)
      replace HL21 := Aside0.mk (blk_below HL21.out hb)
      clear hb
      obtain ⟨vd, cd_, e9⟩ := Kd.R_slice HRD.out
      subst e9
      refine hK.out _ _ (⟨(blk_cell HX.out.1 2).trans rfl, (blk_cell HX.out.1 3).trans rfl⟩) (fun hHeld => ?_)
      clear hK K
      refine norm_ (a' := ?_) ?_ ?_
      rotate_left
      ·show Act.put _ (some 45) _ = _
       simp only [Act.put, List.setIfInBounds_toArray, List.set_cons_zero, List.set_cons_succ, i64_w, i32_w]
       rfl
      refine pure_ (i := 23) (N := some 46) (v := ?_) (a' := ?_) mS26 rfl rfl (by kernel_rfl) (fun _ _ _ h => h) (Or.inl ⟨by rfl, ?_⟩) ?_ ?_
      rotate_left
      ·intro w'
       go_simp
       with_reducible rfl
      rotate_left
      ·simp only [Act.put, List.setIfInBounds_toArray, List.set_cons_zero, List.set_cons_succ, i64_w, i32_w]
       rfl
      refine one_ (i := 24) (N := none) mS27 rfl rfl (by kernel_rfl) (by decide) (fun K hK => ?_)
      have o0 : w7.cell? ⟨go, 0, none⟩ = some (.bool false) := (blk_cell HX.out.2 0).trans rfl
      have o1 : w7.cell? ⟨go, 1, none⟩ = some (.slice none 0 0) := (blk_cell HX.out.2 1).trans rfl
      have o2 : w7.cell? ⟨go, 2, none⟩ = some (.slice none 0 0) := (blk_cell HX.out.2 2).trans rfl
      have o3 : w7.cell? ⟨go, 3, none⟩ = some (.slice none 0 0) := (blk_cell HX.out.2 3).trans rfl
      have f0 := blk_frozen HX.out.2 0
      have f1 := blk_frozen HX.out.2 1
      have f2 := blk_frozen HX.out.2 2
      have f3 := blk_frozen HX.out.2 3
      refine skip_ (w1 := ?_) (by rfl) rfl ?_ ?_
      rotate_left
      ·go_simp
       rfl
      refine hK.out _ _ ⟨(blk_cell (blk_far (p := ⟨go, 3, none⟩) (blk_far (p := ⟨go, 2, none⟩) (blk_far (p := ⟨go, 1, none⟩) (blk_far (p := ⟨go, 0, none⟩) HX.out.1 HNE.out _) HNE.out _) HNE.out _) HNE.out _) 2).trans rfl, (blk_cell (blk_far (p := ⟨go, 3, none⟩) (blk_far (p := ⟨go, 2, none⟩) (blk_far (p := ⟨go, 1, none⟩) (blk_far (p := ⟨go, 0, none⟩) HX.out.1 HNE.out _) HNE.out _) HNE.out _) HNE.out _) 3).trans rfl⟩ (fun hHeld => ?_)
      clear hK K
      refine pure_ (i := 25) (N := some 5) (v := ?_) (a' := ?_) mS28 rfl rfl (by kernel_rfl) (fun _ _ _ h => h) (Or.inl ⟨by rfl, ?_⟩) ?_ ?_
      rotate_left
      ·intro w'
       go_simp
       with_reducible rfl
      rotate_left
      ·simp only [Act.put, List.setIfInBounds_toArray, List.set_cons_zero, List.set_cons_succ, i64_w, i32_w]
       rfl
      refine done_ (by kernel_rfl) ?_
      clear hHeld
      try go_wp2
      (try simp only [Exit.inBlock, Exit.then]); refine bodyPost_ret (results_ct rfl _ _ go 26 _ (0, 0) _ rfl (ret_all HX.out.2 _ _ _ _) Try.underlying26 rfl (by kernel_rfl)) rfl ?_
      have hk_ := HRK.out
      have hd_ := HRD.out
      rw [List.length_append] at hk_ hd_
      rw [HEQ.out.1, HEQ.out.2]
      exact ⟨_, _, _, rfl, Kd.R_nil _ _ _ _ _, R_ret hk_ HX.out.2 (by decide) _ _ _ _, R_ret hd_ HX.out.2 (by decide) _ _ _ _, below_set (below_set (below_set (below_set HB.out HG2.out) HG2.out) HG2.out) HG2.out⟩
     ·refine value_ (w1 := ?_) (v := ?_) (by rfl) rfl ?_ ?_
      rotate_left 2
      ·go_simp
       constructor
       ·rfl
       ·rfl
      clear hHeld
      have HL21 : Aside0 ((w4.alloc (.cells #[.slice B3 D1.length c3, .slice B3d D2.length (c3 - p2)] 24)).heap[w4.heap.size]? = some (.cells #[.slice B3 D1.length c3, .slice B3d D2.length (c3 - p2)] 24 (0, 0))) := ⟨blk_new _ _⟩
      have hb : Below w4.heap.size w4 (w4.alloc (.cells #[.slice B3 D1.length c3, .slice B3d D2.length (c3 - p2)] 24)) := (Below.refl _ _).alloc (Nat.le_refl _) _
      replace HX := Aside0.mk (And.intro (blk_below HX.out.1 hb) (blk_below HX.out.2 hb))
      replace HB := Aside0.mk (below_then HB.out (below_size HB.out) hb)
      replace HL9 := Aside0.mk (blk_below HL9.out hb)
      clear hb
      generalize w4.alloc (.cells #[.slice B3 D1.length c3, .slice B3d D2.length (c3 - p2)] 24) = w5 at *
      obtain ⟨g21, hg_⟩ : ∃ g, g = w4.heap.size := ⟨_, rfl⟩
      rw [← hg_] at HL21 ⊢
      clear hg_
      refine hK.out _ _ (⟨(blk_cell HX.out.1 2).trans rfl, (blk_cell HX.out.1 3).trans rfl⟩) (fun hHeld => ?_)
      clear hK K
      refine norm_ (a' := ?_) ?_ ?_
      rotate_left
      ·show Act.put _ (some 44) _ = _
       simp only [Act.put, List.setIfInBounds_toArray, List.set_cons_zero, List.set_cons_succ, i64_w, i32_w]
       rfl
      refine one_ (i := 10) (N := some 33) mS24 rfl rfl (by kernel_rfl) (by decide) (fun K hK => ?_)
      refine goes_ Try.func80 (by kernel_rfl) rfl #[.slice (some ⟨g9, 0, none⟩) 2 2] (by rfl) rfl rfl (by (try simp only [List.map_toArray, List.map_cons, List.map_nil]); first | done | rfl) ?_
      have hCL := C_lit (d := Kd.string) (e := 9) [(B2, c2, K1), (B2d, c2 - p1, K2)] (by simp) HL9.out (all2 ⟨HQ.out.2.2.2.2.1, Kd.C_below HQ.out.1 HB.out⟩ ⟨HQ.out.2.2.2.2.2.1, Kd.C_below HQ.out.2.1 HB.out⟩)
      refine (slices_Concat_string_string.calls (some ⟨g9, 0, none⟩) 2 [K1, K2] (K1 ++ K2) w5 hCL (Nat.le_refl _) (by unfold slices_Concat_string_string.f; rw [if_pos ⟨by simp, by simpa using HLn.out.1⟩]; simp)).mono ?_
      rintro e_ w6 ⟨v_, rfl, hr_, hb⟩
      refine ⟨_, rfl, ?_⟩
      clear hHeld hCL
      have HRK := Aside0.mk (Kd.R_lower hr_ HB.out.size)
      clear hr_
      replace HX := Aside0.mk (And.intro (blk_below HX.out.1 hb) (blk_below HX.out.2 hb))
      replace HB := Aside0.mk (below_then HB.out (below_size HB.out) hb)
      replace HL9 := Aside0.mk (blk_below HL9.out hb)
      replace HL21 := Aside0.mk (blk_below HL21.out hb)
      clear hb
      obtain ⟨vk, ck, e9⟩ := Kd.R_slice HRK.out
      subst e9
      refine hK.out _ _ (⟨(blk_cell HX.out.1 2).trans rfl, (blk_cell HX.out.1 3).trans rfl⟩) (fun hHeld => ?_)
      clear hK K
      refine norm_ (a' := ?_) ?_ ?_
      rotate_left
      ·show Act.put _ (some 33) _ = _
       simp only [Act.put, List.setIfInBounds_toArray, List.set_cons_zero, List.set_cons_succ, i64_w, i32_w]
       rfl
      refine one_ (i := 22) (N := some 45) mS25 rfl rfl (by kernel_rfl) (by decide) (fun K hK => ?_)
      refine goes_ Try.func81 (by kernel_rfl) rfl #[.slice (some ⟨g21, 0, none⟩) 2 2] (by rfl) rfl rfl (by (try simp only [List.map_toArray, List.map_cons, List.map_nil]); first | done | rfl) ?_
      have hCL := C_lit (d := (Kd.int .u32)) (e := 45) [(B3, c3, D1), (B3d, c3 - p2, D2)] (by simp) HL21.out (all2 ⟨HQ.out.2.2.2.2.2.2.1, Kd.C_below HQ.out.2.2.1 HB.out⟩ ⟨HQ.out.2.2.2.2.2.2.2, Kd.C_below HQ.out.2.2.2.1 HB.out⟩)
      refine (slices_Concat_uint32_uint32.calls (some ⟨g21, 0, none⟩) 2 [D1, D2] (D1 ++ D2) w6 hCL (Nat.le_refl _) (by unfold slices_Concat_uint32_uint32.f; rw [if_pos ⟨by simp, by simpa using HLn.out.2⟩]; simp)).mono ?_
      rintro e_ w7 ⟨v_, rfl, hr_, hb⟩
      refine ⟨_, rfl, ?_⟩
      clear hHeld hCL
      have HRD := Aside0.mk (Kd.R_lower hr_ HB.out.size)
      clear hr_
      replace HX := Aside0.mk (And.intro (blk_below HX.out.1 hb) (blk_below HX.out.2 hb))
      replace HB := Aside0.mk (below_then HB.out (below_size HB.out) hb)
      replace HL9 := Aside0.mk (blk_below HL9.out hb)
      replace HL21 := Aside0.mk (blk_below HL21.out hb)
      replace HRK := Aside0.mk (Kd.R_below HRK.out hb)
      clear hb
      obtain ⟨vd, cd_, e9⟩ := Kd.R_slice HRD.out
      subst e9
      refine hK.out _ _ (⟨(blk_cell HX.out.1 2).trans rfl, (blk_cell HX.out.1 3).trans rfl⟩) (fun hHeld => ?_)
      clear hK K
      refine norm_ (a' := ?_) ?_ ?_
      rotate_left
      ·show Act.put _ (some 45) _ = _
       simp only [Act.put, List.setIfInBounds_toArray, List.set_cons_zero, List.set_cons_succ, i64_w, i32_w]
       rfl
      refine pure_ (i := 23) (N := some 46) (v := ?_) (a' := ?_) mS26 rfl rfl (by kernel_rfl) (fun _ _ _ h => h) (Or.inl ⟨by rfl, ?_⟩) ?_ ?_
      rotate_left
      ·intro w'
       go_simp
       with_reducible rfl
      rotate_left
      ·simp only [Act.put, List.setIfInBounds_toArray, List.set_cons_zero, List.set_cons_succ, i64_w, i32_w]
       rfl
      refine one_ (i := 24) (N := none) mS27 rfl rfl (by kernel_rfl) (by decide) (fun K hK => ?_)
      have o0 : w7.cell? ⟨go, 0, none⟩ = some (.bool false) := (blk_cell HX.out.2 0).trans rfl
      have o1 : w7.cell? ⟨go, 1, none⟩ = some (.slice none 0 0) := (blk_cell HX.out.2 1).trans rfl
      have o2 : w7.cell? ⟨go, 2, none⟩ = some (.slice none 0 0) := (blk_cell HX.out.2 2).trans rfl
      have o3 : w7.cell? ⟨go, 3, none⟩ = some (.slice none 0 0) := (blk_cell HX.out.2 3).trans rfl
      have f0 := blk_frozen HX.out.2 0
      have f1 := blk_frozen HX.out.2 1
      have f2 := blk_frozen HX.out.2 2
      have f3 := blk_frozen HX.out.2 3
      refine skip_ (w1 := ?_) (by rfl) rfl ?_ ?_
      rotate_left
      ·go_simp
       rfl
      refine hK.out _ _ ⟨(blk_cell (blk_far (p := ⟨go, 3, none⟩) (blk_far (p := ⟨go, 2, none⟩) (blk_far (p := ⟨go, 1, none⟩) (blk_far (p := ⟨go, 0, none⟩) HX.out.1 HNE.out _) HNE.out _) HNE.out _) HNE.out _) 2).trans rfl, (blk_cell (blk_far (p := ⟨go, 3, none⟩) (blk_far (p := ⟨go, 2, none⟩) (blk_far (p := ⟨go, 1, none⟩) (blk_far (p := ⟨go, 0, none⟩) HX.out.1 HNE.out _) HNE.out _) HNE.out _) HNE.out _) 3).trans rfl⟩ (fun hHeld => ?_)
      clear hK K
      refine pure_ (i := 25) (N := some 5) (v := ?_) (a' := ?_) mS28 rfl rfl (by kernel_rfl) (fun _ _ _ h => h) (Or.inl ⟨by rfl, ?_⟩) ?_ ?_
      rotate_left
      ·intro w'
       go_simp
       with_reducible rfl
      rotate_left
      ·simp only [Act.put, List.setIfInBounds_toArray, List.set_cons_zero, List.set_cons_succ, i64_w, i32_w]
       rfl
      refine done_ (by kernel_rfl) ?_
      clear hHeld
      try go_wp2
      (try simp only [Exit.inBlock, Exit.then]); refine bodyPost_ret (results_ct rfl _ _ go 26 _ (0, 0) _ rfl (ret_all HX.out.2 _ _ _ _) Try.underlying26 rfl (by kernel_rfl)) rfl ?_
      have hk_ := HRK.out
      have hd_ := HRD.out
      rw [List.length_append] at hk_ hd_
      rw [HEQ.out.1, HEQ.out.2]
      exact ⟨_, _, _, rfl, Kd.R_nil _ _ _ _ _, R_ret hk_ HX.out.2 (by decide) _ _ _ _, R_ret hd_ HX.out.2 (by decide) _ _ _ _, below_set (below_set (below_set (below_set HB.out HG2.out) HG2.out) HG2.out) HG2.out⟩
    ·refine value_ (w1 := ?_) (v := ?_) (by rfl) rfl ?_ ?_
     rotate_left 2
     ·go_simp
      constructor
      ·rfl
      ·rfl
     clear hHeld
     have HL21 : Aside0 ((w3.alloc (.cells #[.slice B3 D1.length c3, .slice B3d D2.length (c3 - p2)] 24)).heap[w3.heap.size]? = some (.cells #[.slice B3 D1.length c3, .slice B3d D2.length (c3 - p2)] 24 (0, 0))) := ⟨blk_new _ _⟩
     have hb : Below w3.heap.size w3 (w3.alloc (.cells #[.slice B3 D1.length c3, .slice B3d D2.length (c3 - p2)] 24)) := (Below.refl _ _).alloc (Nat.le_refl _) _
     replace HX := Aside0.mk (And.intro (blk_below HX.out.1 hb) (blk_below HX.out.2 hb))
     replace HB := Aside0.mk (below_then HB.out (below_size HB.out) hb)
     clear hb
     generalize w3.alloc (.cells #[.slice B3 D1.length c3, .slice B3d D2.length (c3 - p2)] 24) = w4 at *
     obtain ⟨g21, hg_⟩ : ∃ g, g = w3.heap.size := ⟨_, rfl⟩
     rw [← hg_] at HL21 ⊢
     clear hg_
     refine hK.out _ _ (⟨(blk_cell HX.out.1 2).trans rfl, (blk_cell HX.out.1 3).trans rfl⟩) (fun hHeld => ?_)
     clear hK K
     refine norm_ (a' := ?_) ?_ ?_
     rotate_left
     ·show Act.put _ (some 44) _ = _
      simp only [Act.put, List.setIfInBounds_toArray, List.set_cons_zero, List.set_cons_succ, i64_w, i32_w]
      rfl
     refine one_ (i := 9) (N := some 32) mS23 rfl rfl (by kernel_rfl) (by decide) (fun K hK => ?_)
     refine value_ (w1 := ?_) (v := ?_) (by rfl) rfl ?_ ?_
     rotate_left 2
     ·go_simp
      constructor
      ·rfl
      ·rfl
     clear hHeld
     have HL9 : Aside0 ((w4.alloc (.cells #[.slice B2 K1.length c2, .slice B2d K2.length (c2 - p1)] 23)).heap[w4.heap.size]? = some (.cells #[.slice B2 K1.length c2, .slice B2d K2.length (c2 - p1)] 23 (0, 0))) := ⟨blk_new _ _⟩
     have hb : Below w4.heap.size w4 (w4.alloc (.cells #[.slice B2 K1.length c2, .slice B2d K2.length (c2 - p1)] 23)) := (Below.refl _ _).alloc (Nat.le_refl _) _
     replace HX := Aside0.mk (And.intro (blk_below HX.out.1 hb) (blk_below HX.out.2 hb))
     replace HB := Aside0.mk (below_then HB.out (below_size HB.out) hb)
     replace HL21 := Aside0.mk (blk_below HL21.out hb)
     clear hb
     generalize w4.alloc (.cells #[.slice B2 K1.length c2, .slice B2d K2.length (c2 - p1)] 23) = w5 at *
     obtain ⟨g9, hg_⟩ : ∃ g, g = w4.heap.size := ⟨_, rfl⟩
     rw [← hg_] at HL9 ⊢
     clear hg_
     refine hK.out _ _ (⟨(blk_cell HX.out.1 2).trans rfl, (blk_cell HX.out.1 3).trans rfl⟩) (fun hHeld => ?_)
     clear hK K
     refine norm_ (a' := ?_) ?_ ?_
     rotate_left
     ·show Act.put _ (some 32) _ = _
      simp only [Act.put, List.setIfInBounds_toArray, List.set_cons_zero, List.set_cons_succ, i64_w, i32_w]
      rfl
     refine one_ (i := 10) (N := some 33) mS24 rfl rfl (by kernel_rfl) (by decide) (fun K hK => ?_)
     refine goes_ Try.func80 (by kernel_rfl) rfl #[.slice (some ⟨g9, 0, none⟩) 2 2] (by rfl) rfl rfl (by (try simp only [List.map_toArray, List.map_cons, List.map_nil]); first | done | rfl) ?_
     have hCL := C_lit (d := Kd.string) (e := 9) [(B2, c2, K1), (B2d, c2 - p1, K2)] (by simp) HL9.out (all2 ⟨HQ.out.2.2.2.2.1, Kd.C_below HQ.out.1 HB.out⟩ ⟨HQ.out.2.2.2.2.2.1, Kd.C_below HQ.out.2.1 HB.out⟩)
     refine (slices_Concat_string_string.calls (some ⟨g9, 0, none⟩) 2 [K1, K2] (K1 ++ K2) w5 hCL (Nat.le_refl _) (by unfold slices_Concat_string_string.f; rw [if_pos ⟨by simp, by simpa using HLn.out.1⟩]; simp)).mono ?_
     rintro e_ w6 ⟨v_, rfl, hr_, hb⟩
     refine ⟨_, rfl, ?_⟩
     clear hHeld hCL
     have HRK := Aside0.mk (Kd.R_lower hr_ HB.out.size)
     clear hr_
     replace HX := Aside0.mk (And.intro (blk_below HX.out.1 hb) (blk_below HX.out.2 hb))
     replace HB := Aside0.mk (below_then HB.out (below_size HB.out) hb)
     replace HL21 := Aside0.mk (blk_below HL21.out hb)
     replace HL9 := Aside0.mk (blk_below HL9.out hb)
     clear hb
     obtain ⟨vk, ck, e9⟩ := Kd.R_slice HRK.out
     subst e9
     refine hK.out _ _ (⟨(blk_cell HX.out.1 2).trans rfl, (blk_cell HX.out.1 3).trans rfl⟩) (fun hHeld => ?_)
     clear hK K
     refine norm_ (a' := ?_) ?_ ?_
     rotate_left
     ·show Act.put _ (some 33) _ = _
      simp only [Act.put, List.setIfInBounds_toArray, List.set_cons_zero, List.set_cons_succ, i64_w, i32_w]
      rfl
     refine one_ (i := 22) (N := some 45) mS25 rfl rfl (by kernel_rfl) (by decide) (fun K hK => ?_)
     refine goes_ Try.func81 (by kernel_rfl) rfl #[.slice (some ⟨g21, 0, none⟩) 2 2] (by rfl) rfl rfl (by (try simp only [List.map_toArray, List.map_cons, List.map_nil]); first | done | rfl) ?_
     have hCL := C_lit (d := (Kd.int .u32)) (e := 45) [(B3, c3, D1), (B3d, c3 - p2, D2)] (by simp) HL21.out (all2 ⟨HQ.out.2.2.2.2.2.2.1, Kd.C_below HQ.out.2.2.1 HB.out⟩ ⟨HQ.out.2.2.2.2.2.2.2, Kd.C_below HQ.out.2.2.2.1 HB.out⟩)
     refine (slices_Concat_uint32_uint32.calls (some ⟨g21, 0, none⟩) 2 [D1, D2] (D1 ++ D2) w6 hCL (Nat.le_refl _) (by unfold slices_Concat_uint32_uint32.f; rw [if_pos ⟨by simp, by simpa using HLn.out.2⟩]; simp)).mono ?_
     rintro e_ w7 ⟨v_, rfl, hr_, hb⟩
     refine ⟨_, rfl, ?_⟩
     clear hHeld hCL
     have HRD := Aside0.mk (Kd.R_lower hr_ HB.out.size)
     clear hr_
     replace HX := Aside0.mk (And.intro (blk_below HX.out.1 hb) (blk_below HX.out.2 hb))
     replace HB := Aside0.mk (below_then HB.out (below_size HB.out) hb)
     replace HL21 := Aside0.mk (blk_below HL21.out hb)
     replace HL9 := Aside0.mk (blk_below HL9.out hb)
     replace HRK := Aside0.mk (Kd.R_below HRK.out hb)
     clear hb
     obtain ⟨vd, cd_, e9⟩ := Kd.R_slice HRD.out
     subst e9
     refine hK.out _ _ (⟨(blk_cell HX.out.1 2).trans rfl, (blk_cell HX.out.1 3).trans rfl⟩) (fun hHeld => ?_)
     clear hK K
     refine norm_ (a' := ?_) ?_ ?_
     rotate_left
     ·show Act.put _ (some 45) _ = _
      simp only [Act.put, List.setIfInBounds_toArray, List.set_cons_zero, List.set_cons_succ, i64_w, i32_w]
      rfl
     refine pure_ (i := 23) (N := some 46) (v := ?_) (a' := ?_) mS26 rfl rfl (by kernel_rfl) (fun _ _ _ h => h) (Or.inl ⟨by rfl, ?_⟩) ?_ ?_
     rotate_left
     ·intro w'
      go_simp
      with_reducible rfl
     rotate_left
     ·simp only [Act.put, List.setIfInBounds_toArray, List.set_cons_zero, List.set_cons_succ, i64_w, i32_w]
      rfl
     refine one_ (i := 24) (N := none) mS27 rfl rfl (by kernel_rfl) (by decide) (fun K hK => ?_)
     have o0 : w7.cell? ⟨go, 0, none⟩ = some (.bool false) := (blk_cell HX.out.2 0).trans rfl
     have o1 : w7.cell? ⟨go, 1, none⟩ = some (.slice none 0 0) := (blk_cell HX.out.2 1).trans rfl
     have o2 : w7.cell? ⟨go, 2, none⟩ = some (.slice none 0 0) := (blk_cell HX.out.2 2).trans rfl
     have o3 : w7.cell? ⟨go, 3, none⟩ = some (.slice none 0 0) := (blk_cell HX.out.2 3).trans rfl
     have f0 := blk_frozen HX.out.2 0
     have f1 := blk_frozen HX.out.2 1
     have f2 := blk_frozen HX.out.2 2
     have f3 := blk_frozen HX.out.2 3
     refine skip_ (w1 := ?_) (by rfl) rfl ?_ ?_
     rotate_left
     ·go_simp
      rfl
     refine hK.out _ _ ⟨(blk_cell (blk_far (p := ⟨go, 3, none⟩) (blk_far (p := ⟨go, 2, none⟩) (blk_far (p := ⟨go, 1, none⟩) (blk_far (p := ⟨go, 0, none⟩) HX.out.1 HNE.out _) HNE.out _) HNE.out _) HNE.out _) 2).trans rfl, (blk_cell (blk_far (p := ⟨go, 3, none⟩) (blk_far (p := ⟨go, 2, none⟩) (blk_far (p := ⟨go, 1, none⟩) (blk_far (p := ⟨go, 0, none⟩) HX.out.1 HNE.out _) HNE.out _) HNE.out _) HNE.out _) 3).trans rfl⟩ (fun hHeld => ?_)
     clear hK K
     refine pure_ (i := 25) (N := some 5) (v := ?_) (a' := ?_) mS28 rfl rfl (by kernel_rfl) (fun _ _ _ h => h) (Or.inl ⟨by rfl, ?_⟩) ?_ ?_
     rotate_left
     ·intro w'
      go_simp
      with_reducible rfl
     rotate_left
     ·simp only [Act.put, List.setIfInBounds_toArray, List.set_cons_zero, List.set_cons_succ, i64_w, i32_w]
      rfl
     refine done_ (by kernel_rfl) ?_
     clear hHeld
     try go_wp2
     (try simp only [Exit.inBlock, Exit.then]); refine bodyPost_ret (results_ct rfl _ _ go 26 _ (0, 0) _ rfl (ret_all HX.out.2 _ _ _ _) Try.underlying26 rfl (by kernel_rfl)) rfl ?_
     have hk_ := HRK.out
     have hd_ := HRD.out
     rw [List.length_append] at hk_ hd_
     rw [HEQ.out.1, HEQ.out.2]
     exact ⟨_, _, _, rfl, Kd.R_nil _ _ _ _ _, R_ret hk_ HX.out.2 (by decide) _ _ _ _, R_ret hd_ HX.out.2 (by decide) _ _ _ _, below_set (below_set (below_set (below_set HB.out HG2.out) HG2.out) HG2.out) HG2.out⟩
 ·have d1 : (C != 0) = true := by simpa using hC0
  rw [if_neg hC0] at hv
  have hp := hv.symm
  have HC := Aside0.mk hC0
  clear hv hC0 hC
  injection hp with e1 hp
  injection hp with e2 hp
  injection hp with e3 hp
  injection hp with e4 e5
  subst e1 e2 e3 e4 e5
  go_wp2_with fail
  (try simp only [Exit.inBlock, Exit.then]); refine bodyPost_ret (results_ct rfl _ _ go 26 _ (0, 0) _ rfl (ret_all HX.out.2 _ _ _ _) Try.underlying26 rfl (by kernel_rfl)) rfl ?_
  exact ⟨_, _, _, rfl, Kd.R_nil _ _ _ _ _, Kd.R_nil _ _ _ _ _, Kd.R_nil _ _ _ _ _, below_set (below_set (below_set (below_set HB.out HG2.out) HG2.out) HG2.out) HG2.out⟩
end Go.Proofs.Ytdjjpgdhnoibkaa.My
