/- wakes. -/
import Derived.Test.YtjaalegkmldaeaaDkT
namespace Go.Proofs.Ytjaalegkmldaeaa.My
open Go.RowKit Go.Proofs.YtjaalegkmldaeaaW.PrintWords Go.Proofs.YtjaalegkmldaeaaW.PrintLast Go.Proofs.YtjaalegkmldaeaaW.PrintMore Go.Proofs.Ytjaalegkmldaeaa Go.Maps Go.Proofs.Ytjaalegkmldaeaa.PA
set_option linter.unusedSimpArgs false
set_option linter.unusedVariables false
set_option maxRecDepth 100000
set_option maxHeartbeats 1600000
def dA : Dk := newD (List.replicate 2 blank)
def dB : Dk := { dA with pend := [(0, pgc 7)] }
def dC : Dk := { dA with lies := [pgc 7, blank] }
def dD : Dk := { dC with pend := [(1, pgc 9)] }
theorem w_1 : writeV dA 0 (pgc 7) = (dB, 0) := by
  unfold writeV
  rw [if_neg (by decide), if_neg (by rw [pgc_size]; decide)]
  rfl
theorem w_2 : syncV dB = (dC, 0) := by
  unfold syncV
  rw [if_neg (by decide)]
  rfl
theorem w_3 : writeV dC 1 (pgc 9) = (dD, 0) := by
  unfold writeV
  rw [if_neg (by decide), if_neg (by rw [pgc_size]; decide)]
  rfl
theorem w_4 : readV dD 1 = (pgc 9, 0) := by
  unfold readV
  rw [if_neg (by decide)]
  rfl
theorem conv_at {w : World} {ad : Addr} {c : Nat} {s : ByteArray} (h : Kd.C (Kd.int .u8) w (some ad) s.size (bytesOf s)) : (convert 34 9 (.slice (some ad) s.size c)).run Try.prog w = .ok (.string s) w := by
  have h1 := Kd.C_string (P := Try.prog) (src := 34) (dst := 9) (c := c) Try.underlying34 Try.underlying5 Try.underlying9 h
  rw [str_bytes] at h1
  exact h1
theorem R_base0 {α : Type} {d : Kd α} {e base : Nat} {ok : Nat → Prop} {w : World} {A : Option Addr} {n c : Nat} {xs : List α} (h : d.R e w base ok (.slice A n c) xs) (hp : 0 < xs.length) : ∃ b, A = some ⟨b, 0, none⟩ := by
  obtain ⟨_, inner, ⟨_, ho⟩, _⟩ := h
  rcases ho with ⟨_, e⟩ | ⟨gp, cap, cur, e, _⟩
  · omega
  · injection e with e
    exact ⟨gp, e⟩
theorem conv_held {w w' : World} {ad : Addr} {c : Nat} {s : ByteArray} (h : Kd.C (Kd.int .u8) w (some ad) s.size (bytesOf s)) (hb : Below w.heap.size w w') {n : Nat} (hn : s.size = n := by exact pgc_size _) : (convert 34 9 (.slice (some ad) n c)).run Try.prog w' = .ok (.string s) w' := by
  subst hn
  exact conv_at (Kd.C_below h hb)
theorem wakes_calls (w : World) : Calls Try.prog 10 #[] w fun e w' => e = .returned (.bool true) ∧ Below w.heap.size w w' := by
  go_enter Try.func10, Try.ntmps10
  go_wp2_with fail
  refine (stands_new w w (Below.refl _ _) 2 (by decide)).mono ?_
  rintro e_ w1 ⟨g, rfl, hS⟩
  have H := Aside0.mk (show Stands w w1 g dA from hS)
  clear hS
  go_wp2_with fail
  refine (page_calls 7 (by decide) w1).mono ?_
  rintro e_ w2 ⟨a7, c7, rfl, h1, h2, hC, hb⟩
  go_wp2_with fail
  have hw := stands_write H.out hb 0 a7 c7 (pgc 7) h1 h2 hC (by decide)
  rw [w_1, pgc_size] at hw
  clear h1 h2 hC hb
  refine hw.mono ?_
  rintro e_ w3 ⟨rfl, hS⟩
  replace H := Aside0.mk hS
  clear hS hw
  go_wp2_with fail
  refine (stands_pending H.out).mono ?_
  rintro e_ w3' ⟨rfl, rfl⟩
  rw [show ((dB.pend.length : Nat) : Int) = 1 from rfl]
  go_wp2_with fail
  have hw := stands_sync H.out
  rw [w_2] at hw
  refine hw.mono ?_
  rintro e_ w4 ⟨rfl, hS⟩
  replace H := Aside0.mk hS
  clear hS hw
  go_wp2_with fail
  refine (page_calls 9 (by decide) w4).mono ?_
  rintro e_ w5 ⟨a9, c9, rfl, h1, h2, hC, hb⟩
  go_wp2_with fail
  have hw := stands_write H.out hb 1 a9 c9 (pgc 9) h1 h2 hC (by decide)
  rw [w_3, pgc_size] at hw
  clear h1 h2 hC hb
  refine hw.mono ?_
  rintro e_ w6 ⟨rfl, hS⟩
  replace H := Aside0.mk hS
  clear hS hw
  go_wp2_with fail
  have hw := stands_read H.out 1 (by decide)
  rw [w_4] at hw
  refine hw.mono ?_
  rintro e_ w7 ⟨v, rfl, hr, hb⟩
  obtain ⟨Ar, cr, rfl⟩ := Kd.R_slice hr
  have HR := Aside0.mk (show Kd.C (Kd.int .u8) w7 Ar 1024 (bytesOf (pgc 9)) by
    have := (Kd.R_reads' hr).2.2
    rw [bytesOf_len, pgc_size] at this
    exact this)
  rw [bytesOf_len, pgc_size]
  replace H := Aside0.mk (H.out.below hb)
  clear hr hb hw
  go_wp2_with fail
  refine (stands_durable H.out).mono ?_
  rintro e_ w8 ⟨v, rfl, hr, hb⟩
  obtain ⟨Ad, cd, rfl⟩ := Kd.R_slice hr
  have hrr := (Kd.R_reads' hr).2.2
  have hl2 : dD.lies.length = 2 := rfl
  rw [hl2] at hrr ⊢
  obtain ⟨gl, rfl⟩ := R_base0 hr (by decide)
  obtain ⟨ad, hAd, hx0⟩ := Kd.at_string hrr 0 (by decide) (by decide)
  obtain ⟨ad', hAd', hx1⟩ := Kd.at_string hrr 1 (by decide) (by decide)
  obtain rfl := Option.some.inj hAd
  obtain rfl := Option.some.inj hAd'
  have HX := Aside0.mk (show w8.cell? ⟨gl, 0, none⟩ = some (.string (pgc 7)) ∧ w8.cell? ⟨gl, 1, none⟩ = some (.string blank) from ⟨hx0, (congrArg w8.cell? (add0 gl 1).symm).trans hx1⟩)
  obtain ⟨ar, rfl, _⟩ := HR.out.2.2 (by decide)
  replace HR := Aside0.mk (show Kd.C (Kd.int .u8) w8 (some ar) (pgc 9).size (bytesOf (pgc 9)) by rw [pgc_size]; exact Kd.C_below HR.out hb)
  replace H := Aside0.mk (H.out.below hb)
  clear hr hb hrr hl2 hx0 hx1 hAd hAd'
  go_wp2_with fail
  refine start_ (n := 31) (S := fun w' => (convert 34 9 (.slice (some ar) 1024 cr)).run Try.prog w' = .ok (.string (pgc 9)) w' ∧ w'.cell? ⟨gl, 0, none⟩ = some (.string (pgc 7)) ∧ w'.cell? ⟨gl, 1, none⟩ = some (.string blank)) (ds := []) #[false, false, false, false, false, false, false, false, false, false, false, false, false, false, false, false, false, false, false, false, false, false, false, false, false, false, false, false, false, false, false] (by kernel_rfl) rfl rfl (⟨conv_held HR.out (below_drew (Below.refl _ _)), HX.out⟩) (fun hHeld => ?_)
  have HB := Aside0.mk (show Below w8.heap.size w8 w8.drew from below_drew (Below.refl _ _))
  generalize w8.drew = w9 at *
  refine pure_ (i := 0) (N := some 45) (v := ?_) (a' := ?_) #[true, false, false, false, false, false, false, false, false, false, false, false, false, false, false, false, false, false, false, false, false, false, false, false, false, false, false, false, false, false, false] rfl rfl (by kernel_rfl) (fun _ _ _ h => h) (Or.inl ⟨by rfl, ?_⟩) ?_ ?_
  rotate_left
  · intro w'
    go_simp
    with_reducible rfl
  rotate_left
  · simp only [Act.put, List.setIfInBounds_toArray, List.set_cons_zero, List.set_cons_succ, i64_w, i32_w]
    rfl
  refine pure_ (i := 1) (N := some 46) (v := ?_) (a' := ?_) #[true, true, false, false, false, false, false, false, false, false, false, false, false, false, false, false, false, false, false, false, false, false, false, false, false, false, false, false, false, false, false] rfl rfl (by kernel_rfl) (fun _ _ _ h => h) (Or.inl ⟨by rfl, ?_⟩) ?_ ?_
  rotate_left
  · intro w'
    go_simp
    with_reducible rfl
  rotate_left
  · simp only [Act.put, List.setIfInBounds_toArray, List.set_cons_zero, List.set_cons_succ, i64_w, i32_w]
    rfl
  refine pure_ (i := 2) (N := some 47) (v := ?_) (a' := ?_) #[true, true, true, false, false, false, false, false, false, false, false, false, false, false, false, false, false, false, false, false, false, false, false, false, false, false, false, false, false, false, false] rfl rfl (by kernel_rfl) (fun _ _ _ h => h) (Or.inl ⟨by rfl, ?_⟩) ?_ ?_
  rotate_left
  · intro w'
    go_simp
    with_reducible rfl
  rotate_left
  · simp only [Act.put, List.setIfInBounds_toArray, List.set_cons_zero, List.set_cons_succ, i64_w, i32_w]
    rfl
  refine pure_ (i := 3) (N := some 48) (v := ?_) (a' := ?_) #[true, true, true, true, false, false, false, false, false, false, false, false, false, false, false, false, false, false, false, false, false, false, false, false, false, false, false, false, false, false, false] rfl rfl (by kernel_rfl) (fun _ _ _ h => h) (Or.inl ⟨by rfl, ?_⟩) ?_ ?_
  rotate_left
  · intro w'
    go_simp
    with_reducible rfl
  rotate_left
  · simp only [Act.put, List.setIfInBounds_toArray, List.set_cons_zero, List.set_cons_succ, i64_w, i32_w]
    rfl
  refine take_ (i := 4) (N := some 49) (v := ?_) (a' := ?_) #[true, true, true, true, true, false, false, false, false, false, false, false, false, false, false, false, false, false, false, false, false, false, false, false, false, false, false, false, false, false, false] rfl rfl (by kernel_rfl) (fun _ _ _ h => h) (Or.inl ⟨by rfl, ?_⟩) hHeld ?_ ?_
  rotate_left
  · intro w' hS
    go_simp
    with_reducible rfl
  rotate_left
  · simp only [Act.put, List.setIfInBounds_toArray, List.set_cons_zero, List.set_cons_succ, i64_w, i32_w]
    rfl
  refine one_ (i := 5) (N := some 50) #[true, true, true, true, true, true, false, false, false, false, false, false, false, false, false, false, false, false, false, false, false, false, false, false, false, false, false, false, false, false, false] rfl rfl (by kernel_rfl) (by decide) (fun K hK => ?_)
  refine call_ 27 #[.int .u8 9] (by rfl) rfl (by go_simp) ?_
  refine (page_calls 9 (by decide) w9).mono ?_
  rintro e_ w10 ⟨ap5, cp5, rfl, h1, h2, hC, hb⟩
  refine ⟨_, rfl, ?_⟩
  clear hHeld
  replace HB := Aside0.mk (below_then HB.out (below_size HB.out) hb)
  have hcp := conv_at (c := cp5) hC
  rw [pgc_size] at hcp
  clear h1 h2 hC hb
  refine hK.out _ _ (⟨conv_held HR.out HB.out, (HB.out.cell (World.block_lt_of_cell? _ _ HX.out.1)).trans HX.out.1, (HB.out.cell (World.block_lt_of_cell? _ _ HX.out.2)).trans HX.out.2⟩) (fun hHeld => ?_)
  clear hK K
  refine norm_ (a' := ?_) ?_ ?_
  rotate_left
  · show Act.put _ (some 50) _ = _
    simp only [Act.put, List.setIfInBounds_toArray, List.set_cons_zero, List.set_cons_succ, i64_w, i32_w]
    rfl
  refine one_ (i := 6) (N := some 51) #[true, true, true, true, true, true, true, false, false, false, false, false, false, false, false, false, false, false, false, false, false, false, false, false, false, false, false, false, false, false, false] rfl rfl (by kernel_rfl) (by decide) (fun K hK => ?_)
  refine value_ (w1 := ?_) (v := ?_) (by rfl) rfl ?_ ?_
  rotate_left 2
  · go_simp
    constructor
    · rfl
    · rfl
  clear hcp
  refine hK.out _ _ (⟨conv_held HR.out HB.out, (HB.out.cell (World.block_lt_of_cell? _ _ HX.out.1)).trans HX.out.1, (HB.out.cell (World.block_lt_of_cell? _ _ HX.out.2)).trans HX.out.2⟩) (fun hHeld => ?_)
  clear hK K
  refine norm_ (a' := ?_) ?_ ?_
  rotate_left
  · show Act.put _ (some 51) _ = _
    simp only [Act.put, List.setIfInBounds_toArray, List.set_cons_zero, List.set_cons_succ, i64_w, i32_w]
    rfl
  refine pure_ (i := 7) (N := some 52) (v := ?_) (a' := ?_) #[true, true, true, true, true, true, true, true, false, false, false, false, false, false, false, false, false, false, false, false, false, false, false, false, false, false, false, false, false, false, false] rfl rfl (by kernel_rfl) (fun _ _ _ h => h) (Or.inl ⟨by rfl, ?_⟩) ?_ ?_
  rotate_left
  · intro w'
    go_simp
    with_reducible rfl
  rotate_left
  · simp only [Act.put, List.setIfInBounds_toArray, List.set_cons_zero, List.set_cons_succ, i64_w, i32_w]
    rfl
  refine pure_ (i := 8) (N := some 53) (v := ?_) (a' := ?_) #[true, true, true, true, true, true, true, true, true, false, false, false, false, false, false, false, false, false, false, false, false, false, false, false, false, false, false, false, false, false, false] rfl rfl (by kernel_rfl) (fun _ _ _ h => h) (Or.inl ⟨by rfl, ?_⟩) ?_ ?_
  rotate_left
  · intro w'
    go_simp
    with_reducible rfl
  rotate_left
  · simp only [Act.put, List.setIfInBounds_toArray, List.set_cons_zero, List.set_cons_succ, i64_w, i32_w]
    rfl
  refine pure_ (i := 9) (N := some 54) (v := ?_) (a' := ?_) #[true, true, true, true, true, true, true, true, true, true, false, false, false, false, false, false, false, false, false, false, false, false, false, false, false, false, false, false, false, false, false] rfl rfl (by kernel_rfl) (fun _ _ _ h => h) (Or.inl ⟨by rfl, ?_⟩) ?_ ?_
  rotate_left
  · intro w'
    go_simp
    with_reducible rfl
  rotate_left
  · simp only [Act.put, List.setIfInBounds_toArray, List.set_cons_zero, List.set_cons_succ, i64_w, i32_w]
    rfl
  refine pure_ (i := 10) (N := some 55) (v := ?_) (a' := ?_) #[true, true, true, true, true, true, true, true, true, true, true, false, false, false, false, false, false, false, false, false, false, false, false, false, false, false, false, false, false, false, false] rfl rfl (by kernel_rfl) (fun _ _ _ h => h) (Or.inl ⟨by rfl, ?_⟩) ?_ ?_
  rotate_left
  · intro w'
    go_simp
    with_reducible rfl
  rotate_left
  · simp only [Act.put, List.setIfInBounds_toArray, List.set_cons_zero, List.set_cons_succ, i64_w, i32_w]
    rfl
  refine pure_ (i := 11) (N := some 56) (v := ?_) (a' := ?_) #[true, true, true, true, true, true, true, true, true, true, true, true, false, false, false, false, false, false, false, false, false, false, false, false, false, false, false, false, false, false, false] rfl rfl (by kernel_rfl) (fun _ _ _ h => h) (Or.inl ⟨by rfl, ?_⟩) ?_ ?_
  rotate_left
  · intro w'
    go_simp
    with_reducible rfl
  rotate_left
  · simp only [Act.put, List.setIfInBounds_toArray, List.set_cons_zero, List.set_cons_succ, i64_w, i32_w]
    rfl
  refine pure_ (i := 12) (N := some 57) (v := ?_) (a' := ?_) #[true, true, true, true, true, true, true, true, true, true, true, true, true, false, false, false, false, false, false, false, false, false, false, false, false, false, false, false, false, false, false] rfl rfl (by kernel_rfl) (fun _ _ _ h => h) (Or.inl ⟨by rfl, ?_⟩) ?_ ?_
  rotate_left
  · intro w'
    go_simp
    with_reducible rfl
  rotate_left
  · simp only [Act.put, List.setIfInBounds_toArray, List.set_cons_zero, List.set_cons_succ, i64_w, i32_w]
    rfl
  refine pure_ (i := 13) (N := some 58) (v := ?_) (a' := ?_) #[true, true, true, true, true, true, true, true, true, true, true, true, true, true, false, false, false, false, false, false, false, false, false, false, false, false, false, false, false, false, false] rfl rfl (by kernel_rfl) (fun _ _ _ h => h) (Or.inl ⟨by rfl, ?_⟩) ?_ ?_
  rotate_left
  · intro w'
    go_simp
    with_reducible rfl
  rotate_left
  · simp only [Act.put, List.setIfInBounds_toArray, List.set_cons_zero, List.set_cons_succ, i64_w, i32_w]
    rfl
  refine pure_ (i := 14) (N := some 59) (v := ?_) (a' := ?_) #[true, true, true, true, true, true, true, true, true, true, true, true, true, true, true, false, false, false, false, false, false, false, false, false, false, false, false, false, false, false, false] rfl rfl (by kernel_rfl) (fun _ _ _ h => h) (Or.inl ⟨by rfl, ?_⟩) ?_ ?_
  rotate_left
  · intro w'
    go_simp
    with_reducible rfl
  rotate_left
  · simp only [Act.put, List.setIfInBounds_toArray, List.set_cons_zero, List.set_cons_succ, i64_w, i32_w]
    rfl
  refine pure_ (i := 15) (N := some 60) (v := ?_) (a' := ?_) #[true, true, true, true, true, true, true, true, true, true, true, true, true, true, true, true, false, false, false, false, false, false, false, false, false, false, false, false, false, false, false] rfl rfl (by kernel_rfl) (fun _ _ _ h => h) (Or.inl ⟨by rfl, ?_⟩) ?_ ?_
  rotate_left
  · intro w'
    go_simp
    with_reducible rfl
  rotate_left
  · simp only [Act.put, List.setIfInBounds_toArray, List.set_cons_zero, List.set_cons_succ, i64_w, i32_w]
    rfl
  refine pure_ (i := 16) (N := some 61) (v := ?_) (a' := ?_) #[true, true, true, true, true, true, true, true, true, true, true, true, true, true, true, true, true, false, false, false, false, false, false, false, false, false, false, false, false, false, false] rfl rfl (by kernel_rfl) (fun _ _ _ h => h) (Or.inl ⟨by rfl, ?_⟩) ?_ ?_
  rotate_left
  · intro w'
    go_simp
    with_reducible rfl
  rotate_left
  · simp only [Act.put, List.setIfInBounds_toArray, List.set_cons_zero, List.set_cons_succ, i64_w, i32_w]
    rfl
  refine take_ (i := 17) (N := some 62) (v := ?_) (a' := ?_) #[true, true, true, true, true, true, true, true, true, true, true, true, true, true, true, true, true, true, false, false, false, false, false, false, false, false, false, false, false, false, false] rfl rfl (by kernel_rfl) (fun _ _ _ h => h) (Or.inl ⟨by rfl, ?_⟩) hHeld ?_ ?_
  rotate_left
  · intro w' hS
    go_simp
    with_reducible rfl
  rotate_left
  · simp only [Act.put, List.setIfInBounds_toArray, List.set_cons_zero, List.set_cons_succ, i64_w, i32_w]
    rfl
  refine one_ (i := 18) (N := some 63) #[true, true, true, true, true, true, true, true, true, true, true, true, true, true, true, true, true, true, true, false, false, false, false, false, false, false, false, false, false, false, false] rfl rfl (by kernel_rfl) (by decide) (fun K hK => ?_)
  refine call_ 27 #[.int .u8 7] (by rfl) rfl (by go_simp) ?_
  refine (page_calls 7 (by decide) w10).mono ?_
  rintro e_ w11 ⟨ap18, cp18, rfl, h1, h2, hC, hb⟩
  refine ⟨_, rfl, ?_⟩
  clear hHeld
  replace HB := Aside0.mk (below_then HB.out (below_size HB.out) hb)
  have hcp := conv_at (c := cp18) hC
  rw [pgc_size] at hcp
  clear h1 h2 hC hb
  refine hK.out _ _ (⟨conv_held HR.out HB.out, (HB.out.cell (World.block_lt_of_cell? _ _ HX.out.1)).trans HX.out.1, (HB.out.cell (World.block_lt_of_cell? _ _ HX.out.2)).trans HX.out.2⟩) (fun hHeld => ?_)
  clear hK K
  refine norm_ (a' := ?_) ?_ ?_
  rotate_left
  · show Act.put _ (some 63) _ = _
    simp only [Act.put, List.setIfInBounds_toArray, List.set_cons_zero, List.set_cons_succ, i64_w, i32_w]
    rfl
  refine one_ (i := 19) (N := some 64) #[true, true, true, true, true, true, true, true, true, true, true, true, true, true, true, true, true, true, true, true, false, false, false, false, false, false, false, false, false, false, false] rfl rfl (by kernel_rfl) (by decide) (fun K hK => ?_)
  refine value_ (w1 := ?_) (v := ?_) (by rfl) rfl ?_ ?_
  rotate_left 2
  · go_simp
    constructor
    · rfl
    · rfl
  clear hcp
  refine hK.out _ _ (⟨conv_held HR.out HB.out, (HB.out.cell (World.block_lt_of_cell? _ _ HX.out.1)).trans HX.out.1, (HB.out.cell (World.block_lt_of_cell? _ _ HX.out.2)).trans HX.out.2⟩) (fun hHeld => ?_)
  clear hK K
  refine norm_ (a' := ?_) ?_ ?_
  rotate_left
  · show Act.put _ (some 64) _ = _
    simp only [Act.put, List.setIfInBounds_toArray, List.set_cons_zero, List.set_cons_succ, i64_w, i32_w]
    rfl
  refine pure_ (i := 20) (N := some 65) (v := ?_) (a' := ?_) #[true, true, true, true, true, true, true, true, true, true, true, true, true, true, true, true, true, true, true, true, true, false, false, false, false, false, false, false, false, false, false] rfl rfl (by kernel_rfl) (fun _ _ _ h => h) (Or.inl ⟨by rfl, ?_⟩) ?_ ?_
  rotate_left
  · intro w'
    go_simp
    with_reducible rfl
  rotate_left
  · simp only [Act.put, List.setIfInBounds_toArray, List.set_cons_zero, List.set_cons_succ, i64_w, i32_w]
    rfl
  refine pure_ (i := 21) (N := some 66) (v := ?_) (a' := ?_) #[true, true, true, true, true, true, true, true, true, true, true, true, true, true, true, true, true, true, true, true, true, true, false, false, false, false, false, false, false, false, false] rfl rfl (by kernel_rfl) (fun _ _ _ h => h) (Or.inl ⟨by rfl, ?_⟩) ?_ ?_
  rotate_left
  · intro w'
    go_simp
    with_reducible rfl
  rotate_left
  · simp only [Act.put, List.setIfInBounds_toArray, List.set_cons_zero, List.set_cons_succ, i64_w, i32_w]
    rfl
  refine pure_ (i := 22) (N := some 67) (v := ?_) (a' := ?_) #[true, true, true, true, true, true, true, true, true, true, true, true, true, true, true, true, true, true, true, true, true, true, true, false, false, false, false, false, false, false, false] rfl rfl (by kernel_rfl) (fun _ _ _ h => h) (Or.inl ⟨by rfl, ?_⟩) ?_ ?_
  rotate_left
  · intro w'
    go_simp
    with_reducible rfl
  rotate_left
  · simp only [Act.put, List.setIfInBounds_toArray, List.set_cons_zero, List.set_cons_succ, i64_w, i32_w]
    rfl
  refine pure_ (i := 23) (N := some 68) (v := ?_) (a' := ?_) #[true, true, true, true, true, true, true, true, true, true, true, true, true, true, true, true, true, true, true, true, true, true, true, true, false, false, false, false, false, false, false] rfl rfl (by kernel_rfl) (fun _ _ _ h => h) (Or.inl ⟨by rfl, ?_⟩) ?_ ?_
  rotate_left
  · intro w'
    go_simp
    with_reducible rfl
  rotate_left
  · simp only [Act.put, List.setIfInBounds_toArray, List.set_cons_zero, List.set_cons_succ, i64_w, i32_w]
    rfl
  refine pure_ (i := 24) (N := some 69) (v := ?_) (a' := ?_) #[true, true, true, true, true, true, true, true, true, true, true, true, true, true, true, true, true, true, true, true, true, true, true, true, true, false, false, false, false, false, false] rfl rfl (by kernel_rfl) (fun _ _ _ h => h) (Or.inl ⟨by rfl, ?_⟩) ?_ ?_
  rotate_left
  · intro w'
    go_simp
    with_reducible rfl
  rotate_left
  · simp only [Act.put, List.setIfInBounds_toArray, List.set_cons_zero, List.set_cons_succ, i64_w, i32_w]
    rfl
  refine take_ (i := 25) (N := some 70) (v := ?_) (a' := ?_) #[true, true, true, true, true, true, true, true, true, true, true, true, true, true, true, true, true, true, true, true, true, true, true, true, true, true, false, false, false, false, false] rfl rfl (by kernel_rfl) (fun _ _ _ h => h) (Or.inl ⟨by rfl, ?_⟩) hHeld ?_ ?_
  rotate_left
  · intro w' hS
    go_simp
    with_reducible rfl
  rotate_left
  · simp only [Act.put, List.setIfInBounds_toArray, List.set_cons_zero, List.set_cons_succ, i64_w, i32_w]
    rfl
  refine one_ (i := 26) (N := some 71) #[true, true, true, true, true, true, true, true, true, true, true, true, true, true, true, true, true, true, true, true, true, true, true, true, true, true, true, false, false, false, false] rfl rfl (by kernel_rfl) (by decide) (fun K hK => ?_)
  refine call_ 27 #[.int .u8 0] (by rfl) rfl (by go_simp) ?_
  refine (page_calls 0 (by decide) w11).mono ?_
  rintro e_ w12 ⟨ap26, cp26, rfl, h1, h2, hC, hb⟩
  refine ⟨_, rfl, ?_⟩
  clear hHeld
  replace HB := Aside0.mk (below_then HB.out (below_size HB.out) hb)
  have hcp := conv_at (c := cp26) hC
  rw [pgc_size] at hcp
  clear h1 h2 hC hb
  refine hK.out _ _ (⟨conv_held HR.out HB.out, (HB.out.cell (World.block_lt_of_cell? _ _ HX.out.1)).trans HX.out.1, (HB.out.cell (World.block_lt_of_cell? _ _ HX.out.2)).trans HX.out.2⟩) (fun hHeld => ?_)
  clear hK K
  refine norm_ (a' := ?_) ?_ ?_
  rotate_left
  · show Act.put _ (some 71) _ = _
    simp only [Act.put, List.setIfInBounds_toArray, List.set_cons_zero, List.set_cons_succ, i64_w, i32_w]
    rfl
  refine one_ (i := 27) (N := some 72) #[true, true, true, true, true, true, true, true, true, true, true, true, true, true, true, true, true, true, true, true, true, true, true, true, true, true, true, true, false, false, false] rfl rfl (by kernel_rfl) (by decide) (fun K hK => ?_)
  refine value_ (w1 := ?_) (v := ?_) (by rfl) rfl ?_ ?_
  rotate_left 2
  · go_simp
    constructor
    · rfl
    · rfl
  clear hcp
  refine hK.out _ _ (⟨conv_held HR.out HB.out, (HB.out.cell (World.block_lt_of_cell? _ _ HX.out.1)).trans HX.out.1, (HB.out.cell (World.block_lt_of_cell? _ _ HX.out.2)).trans HX.out.2⟩) (fun hHeld => ?_)
  clear hK K
  refine norm_ (a' := ?_) ?_ ?_
  rotate_left
  · show Act.put _ (some 72) _ = _
    simp only [Act.put, List.setIfInBounds_toArray, List.set_cons_zero, List.set_cons_succ, i64_w, i32_w]
    rfl
  refine pure_ (i := 28) (N := some 73) (v := ?_) (a' := ?_) #[true, true, true, true, true, true, true, true, true, true, true, true, true, true, true, true, true, true, true, true, true, true, true, true, true, true, true, true, true, false, false] rfl rfl (by kernel_rfl) (fun _ _ _ h => h) (Or.inl ⟨by rfl, ?_⟩) ?_ ?_
  rotate_left
  · intro w'
    go_simp
    with_reducible rfl
  rotate_left
  · simp only [Act.put, List.setIfInBounds_toArray, List.set_cons_zero, List.set_cons_succ, i64_w, i32_w]
    rfl
  refine pure_ (i := 29) (N := some 74) (v := ?_) (a' := ?_) #[true, true, true, true, true, true, true, true, true, true, true, true, true, true, true, true, true, true, true, true, true, true, true, true, true, true, true, true, true, true, false] rfl rfl (by kernel_rfl) (fun _ _ _ h => h) (Or.inl ⟨by rfl, ?_⟩) ?_ ?_
  rotate_left
  · intro w'
    go_simp
    with_reducible rfl
  rotate_left
  · simp only [Act.put, List.setIfInBounds_toArray, List.set_cons_zero, List.set_cons_succ, i64_w, i32_w]
    rfl
  refine pure_ (i := 30) (N := some 0) (v := ?_) (a' := ?_) #[true, true, true, true, true, true, true, true, true, true, true, true, true, true, true, true, true, true, true, true, true, true, true, true, true, true, true, true, true, true, true] rfl rfl (by kernel_rfl) (fun _ _ _ h => h) (Or.inl ⟨by rfl, ?_⟩) ?_ ?_
  rotate_left
  · intro w'
    go_simp
    with_reducible rfl
  rotate_left
  · simp only [Act.put, List.setIfInBounds_toArray, List.set_cons_zero, List.set_cons_succ, i64_w, i32_w]
    rfl
  refine done_ (by kernel_rfl) ?_
  try clear hHeld
  try go_wp2
  go_ret
  refine ⟨?_, below_then H.out.low (below_size H.out.low) HB.out⟩
  show Ending.returned (Value.bool (blank.toList == (pgc 0).toList)) = _
  rw [pgc_zero, beq_self_eq_true]
end Go.Proofs.Ytjaalegkmldaeaa.My
