/- VectorAsks. -/
import Derived.Test.YtgcmmiihjiiemaaVecAsksC
import Derived.Test.YtgcmmiihjiiemaaVecMaxP
import Derived.Test.YtgcmmiihjiiemaaVecDots
namespace Go.Proofs.Ytgcmmiihjiiemaa.My
open Go.RowKit Go.Proofs.YtgcmmiihjiiemaaW.PrintWords Go.Proofs.YtgcmmiihjiiemaaW.PrintLast Go.Proofs.YtgcmmiihjiiemaaW.PrintMore Go.Proofs.Ytgcmmiihjiiemaa Go.Proofs.Ytgcmmiihjiiemaa.PVectorMax
set_option linter.unusedSimpArgs false
set_option linter.unusedVariables false
set_option maxRecDepth 100000
set_option maxHeartbeats 3200000
theorem keptM (W : World) {b1 : Nat} {o1 : Nat → Prop} {B A : Option Addr} {n d c : Nat} {a : List Dt} (hF : Kd.R kD 35 W b1 o1 (.slice B (n + 3) d) (a ++ marks)) (hA : Kd.C kD W A a.length a) (hc : a.length ≤ c) (hn : a.length = n) (hl : a.length < 8800000000000) :
    Calls Try.prog 15 #[.slice B n d, .slice A n c] W fun e w' => e = .returned (.bool true) ∧ Below W.heap.size W w' := by
  subst hn
  exact keptN W hF hA hc hl
theorem asksM (W : World) (X : Option Addr) (cx : Nat) (Y : Option Addr) (cy : Nat) (A : Option Addr) (ca : Nat) (B : Option Addr) (cb : Nat) (n m : Nat) (a b : List Dt) (d0 d1 : Int) (hn : a.length = n) (hm : b.length = m) (hX : Kd.C kD W X a.length a) (hcx : a.length ≤ cx) (hY : Kd.C kD W Y b.length b) (hcy : b.length ≤ cy) (hA : Kd.C kD W A a.length a) (hca : a.length ≤ ca) (hB : Kd.C kD W B b.length b) (hcb : b.length ≤ cb) (oa : okD a = true) (ob : okD b = true) :
    Calls Try.prog 37 #[.slice X n cx, .slice Y m cy, .slice A n ca, .slice B m cb, .agg #[.int .u32 d0, .int .u64 d1]] W fun e w' => e = .returned (.bool true) ∧ Below W.heap.size W w' := by
  subst hn hm
  exact asks_go W X cx Y cy A ca B cb a b d0 d1 hX hcx hY hcy hA hca hB hcb oa ob
theorem okD_of {l : List Dt} (h : ∀ x ∈ l, DotOk x) (hl : l.length * 16 ≤ 140737488351232) : okD l = true := by
  refine Bool.and_eq_true_iff.2 ⟨decide_eq_true (by omega), List.all_eq_true.2 (fun x hx => decide_eq_true ?_)⟩
  have := h x hx
  exact ⟨this.1.1, this.1.2, this.2.1⟩
theorem okD_trn {l : List Dt} (h : okD l = true) : okD (l.map trn) = true := by
  refine Bool.and_eq_true_iff.2 ⟨decide_eq_true (by rw [List.length_map]; exact okD_len h), List.all_eq_true.2 (fun x hx => decide_eq_true ?_)⟩
  obtain ⟨y, hy, rfl⟩ := List.mem_map.1 hx
  have := okD_pos h y hy
  exact ⟨this.1, this.2.1, trn_pos y⟩
theorem vectorAsks_go (w : World) (A : Option Addr) (c : Nat) (a : List Dt) (hA0 : Kd.C kD w A a.length a) (hc : a.length ≤ c) (oa : okD a = true) (hla : a.length * 16 ≤ 140737488351232) (B : Option Addr) (d : Nat) (b : List Dt) (hB0 : Kd.C kD w B b.length b) (hd : b.length ≤ d) (ob : okD b = true) (hlb : b.length * 16 ≤ 140737488351232) (d0 d1 : Int) :
    Calls Try.prog 6 #[.slice A a.length c, .slice B b.length d, .agg #[.int .u32 d0, .int .u64 d1]] w fun e w' => e = .returned (.bool true) ∧ Below w.heap.size w w' := by
  have hA := hA0
  have hB := hB0
  have hn0 : w.heap.size ≤ w.heap.size := Nat.le_refl _
  have hW : Below w.heap.size w w := Below.refl _ _
  have ota := okD_trn oa
  have otb := okD_trn ob
  go_enter Try.func6, Try.ntmps6
  go_wp2_with fail
  have hD : (w.alloc (.cells #[.int .u32 d0, .int .u64 d1] 35)).heap[w.heap.size]? = some (.cells #[.int .u32 d0, .int .u64 d1] 35 (0, 0)) := blk_new w _
  have hb1 : Below w.heap.size w (w.alloc (.cells #[.int .u32 d0, .int .u64 d1] 35)) := (Below.refl _ _).alloc (Nat.le_refl _) _
  have hs1 : w.heap.size ≤ (w.alloc (.cells #[.int .u32 d0, .int .u64 d1] 35)).heap.size := hb1.size
  replace hA := Kd.C_below hA hb1
  replace hB := Kd.C_below hB hb1
  replace hW := below_then hW hn0 hb1
  replace hn0 := Nat.le_trans hn0 hs1
  generalize w.alloc (.cells #[.int .u32 d0, .int .u64 d1] 35) = w1 at *
  have hlD := blk_lt hD
  generalize hgD : w.heap.size = gd at hD hlD ⊢
  clear hgD
  refine (lentN _ A c a hA hc hla w.heap.size hn0).mono ?_
  rintro e_ w2 ⟨vX, qX, rfl, hX, hb2⟩
  have hs2 : w1.heap.size ≤ w2.heap.size := hb2.size
  replace hA := Kd.C_below hA hb2
  replace hB := Kd.C_below hB hb2
  replace hD := blk_below hD hb2
  replace hW := below_then hW hn0 hb2
  replace hn0 := Nat.le_trans hn0 hs2
  have cD0 : w2.cell? ⟨gd, 0, none⟩ = some (.int .u32 d0) := (blk_cell hD 0).trans rfl
  have cD1 : w2.cell? ⟨gd, 1, none⟩ = some (.int .u64 d1) := (blk_cell hD 1).trans rfl
  go_wp2_with fail
  all_goals clear cD0 cD1
  refine (lentN _ B d b hB hd hlb w.heap.size hn0).mono ?_
  rintro e_ w3 ⟨vY, qY, rfl, hY, hb3⟩
  have hs3 : w2.heap.size ≤ w3.heap.size := hb3.size
  replace hX := Kd.R_below hX hb3
  replace hA := Kd.C_below hA hb3
  replace hB := Kd.C_below hB hb3
  replace hD := blk_below hD hb3
  replace hW := below_then hW hn0 hb3
  replace hn0 := Nat.le_trans hn0 hs3
  have cD0 : w3.cell? ⟨gd, 0, none⟩ = some (.int .u32 d0) := (blk_cell hD 0).trans rfl
  have cD1 : w3.cell? ⟨gd, 1, none⟩ = some (.int .u64 d1) := (blk_cell hD 1).trans rfl
  go_wp2_with fail
  all_goals clear cD0 cD1
  obtain ⟨cx, -, dx⟩ := C_of_R (short_row hX rfl)
  obtain ⟨cy, -, dy⟩ := C_of_R (short_row hY rfl)
  refine (asksM _ vX qX vY qY A c B d a.length b.length a b d0 d1 rfl rfl cx dx cy dy hA hc hB hd oa ob).mono ?_
  rintro e_ w4 ⟨rfl, hb4⟩
  have hs4 : w3.heap.size ≤ w4.heap.size := hb4.size
  replace hX := Kd.R_below hX hb4
  replace hY := Kd.R_below hY hb4
  replace hA := Kd.C_below hA hb4
  replace hB := Kd.C_below hB hb4
  replace hD := blk_below hD hb4
  replace hW := below_then hW hn0 hb4
  replace hn0 := Nat.le_trans hn0 hs4
  clear cx dx cy dy
  have cD0 : w4.cell? ⟨gd, 0, none⟩ = some (.int .u32 d0) := (blk_cell hD 0).trans rfl
  have cD1 : w4.cell? ⟨gd, 1, none⟩ = some (.int .u64 d1) := (blk_cell hD 1).trans rfl
  go_wp2_with fail
  all_goals clear cD0 cD1
  refine (keptN _ hX hA hc (by omega)).mono ?_
  rintro e_ w5 ⟨rfl, hb5⟩
  have hs5 : w4.heap.size ≤ w5.heap.size := hb5.size
  replace hX := Kd.R_below hX hb5
  replace hY := Kd.R_below hY hb5
  replace hA := Kd.C_below hA hb5
  replace hB := Kd.C_below hB hb5
  replace hD := blk_below hD hb5
  replace hW := below_then hW hn0 hb5
  replace hn0 := Nat.le_trans hn0 hs5
  have cD0 : w5.cell? ⟨gd, 0, none⟩ = some (.int .u32 d0) := (blk_cell hD 0).trans rfl
  have cD1 : w5.cell? ⟨gd, 1, none⟩ = some (.int .u64 d1) := (blk_cell hD 1).trans rfl
  go_wp2_with fail
  all_goals clear cD0 cD1
  refine (keptN _ hY hB hd (by omega)).mono ?_
  rintro e_ w6 ⟨rfl, hb6⟩
  have hs6 : w5.heap.size ≤ w6.heap.size := hb6.size
  replace hX := Kd.R_below hX hb6
  replace hY := Kd.R_below hY hb6
  replace hA := Kd.C_below hA hb6
  replace hB := Kd.C_below hB hb6
  replace hD := blk_below hD hb6
  replace hW := below_then hW hn0 hb6
  replace hn0 := Nat.le_trans hn0 hs6
  have cD0 : w6.cell? ⟨gd, 0, none⟩ = some (.int .u32 d0) := (blk_cell hD 0).trans rfl
  have cD1 : w6.cell? ⟨gd, 1, none⟩ = some (.int .u64 d1) := (blk_cell hD 1).trans rfl
  go_wp2_with fail
  all_goals clear cD0 cD1
  refine (turnedN _ A c a hA hc (by omega) w.heap.size hn0).mono ?_
  rintro e_ w7 ⟨vT1, qT1, rfl, hT1, hb7⟩
  have hs7 : w6.heap.size ≤ w7.heap.size := hb7.size
  replace hX := Kd.R_below hX hb7
  replace hY := Kd.R_below hY hb7
  replace hA := Kd.C_below hA hb7
  replace hB := Kd.C_below hB hb7
  replace hD := blk_below hD hb7
  replace hW := below_then hW hn0 hb7
  replace hn0 := Nat.le_trans hn0 hs7
  obtain ⟨w8, run8, hX2, hk8, hbb8⟩ := copy_dots _ _ _ _ _ vX vT1 qX qT1 a (a.map trn) 3 hX (by rw [List.length_map]; exact hT1) (List.length_map _)
  rw [List.length_map] at run8
  have hs8 : w7.heap.size ≤ w8.heap.size := hk8.1
  replace hY := Kd.R_kept hY hk8 (fun k q1 q2 => by omega)
  replace hT1 := Kd.R_kept hT1 hk8 (fun k q1 q2 => by omega)
  replace hD := (hk8.2 gd (blk_lt hD) (fun q1 => by omega)).trans hD
  replace hX := hX2
  clear hX2
  replace hW := hbb8 _ _ hW (Nat.le_refl _)
  replace hn0 := Nat.le_trans hn0 hs8
  replace hA := Kd.C_below hA0 hW
  replace hB := Kd.C_below hB0 hW
  have cD0 : w8.cell? ⟨gd, 0, none⟩ = some (.int .u32 d0) := (blk_cell hD 0).trans rfl
  have cD1 : w8.cell? ⟨gd, 1, none⟩ = some (.int .u64 d1) := (blk_cell hD 1).trans rfl
  go_wp2_with fail
  all_goals clear cD0 cD1
  refine (turnedN _ B d b hB hd (by omega) w.heap.size hn0).mono ?_
  rintro e_ w9 ⟨vT2, qT2, rfl, hT2, hb9⟩
  have hs9 : w8.heap.size ≤ w9.heap.size := hb9.size
  replace hX := Kd.R_below hX hb9
  replace hY := Kd.R_below hY hb9
  replace hA := Kd.C_below hA hb9
  replace hB := Kd.C_below hB hb9
  replace hD := blk_below hD hb9
  replace hW := below_then hW hn0 hb9
  replace hn0 := Nat.le_trans hn0 hs9
  obtain ⟨w10, run10, hY2, hk10, hbb10⟩ := copy_dots _ _ _ _ _ vY vT2 qY qT2 b (b.map trn) 3 hY (by rw [List.length_map]; exact hT2) (List.length_map _)
  rw [List.length_map] at run10
  have hs10 : w9.heap.size ≤ w10.heap.size := hk10.1
  replace hX := Kd.R_kept hX hk10 (fun k q1 q2 => by omega)
  replace hT2 := Kd.R_kept hT2 hk10 (fun k q1 q2 => by omega)
  replace hD := (hk10.2 gd (blk_lt hD) (fun q1 => by omega)).trans hD
  replace hY := hY2
  clear hY2
  replace hW := hbb10 _ _ hW (Nat.le_refl _)
  replace hn0 := Nat.le_trans hn0 hs10
  replace hA := Kd.C_below hA0 hW
  replace hB := Kd.C_below hB0 hW
  have cD0 : w10.cell? ⟨gd, 0, none⟩ = some (.int .u32 d0) := (blk_cell hD 0).trans rfl
  have cD1 : w10.cell? ⟨gd, 1, none⟩ = some (.int .u64 d1) := (blk_cell hD 1).trans rfl
  go_wp2_with fail
  all_goals clear cD0 cD1
  have cD0 : w10.cell? ⟨gd, 0, none⟩ = some (.int .u32 d0) := (blk_cell hD 0).trans rfl
  have cD1 : w10.cell? ⟨gd, 1, none⟩ = some (.int .u64 d1) := (blk_cell hD 1).trans rfl
  refine start_ (n := 21) (S := fun w' => w'.cell? ⟨gd, 0, none⟩ = some (.int .u32 d0) ∧ w'.cell? ⟨gd, 1, none⟩ = some (.int .u64 d1)) (ds := []) #[false, false, false, false, false, false, false, false, false, false, false, false, false, false, false, false, false, false, false, false, false] (by kernel_rfl) rfl rfl (⟨cD0, cD1⟩) (fun hHeld => ?_)
  clear cD0 cD1
  have hb11 : Below w10.heap.size w10 w10.drew := below_drew (Below.refl _ _)
  have hs11 : w10.heap.size ≤ w10.drew.heap.size := hb11.size
  replace hX := Kd.R_below hX hb11
  replace hY := Kd.R_below hY hb11
  replace hA := Kd.C_below hA hb11
  replace hB := Kd.C_below hB hb11
  replace hD := blk_below hD hb11
  replace hW := below_then hW hn0 hb11
  replace hn0 := Nat.le_trans hn0 hs11
  generalize w10.drew = w11 at *
  refine pure_ (i := 0) (N := some 40) (v := ?_) (a' := ?_) #[true, false, false, false, false, false, false, false, false, false, false, false, false, false, false, false, false, false, false, false, false] rfl rfl (by kernel_rfl) (fun _ _ _ h => h) (Or.inl ⟨by rfl, ?_⟩) ?_ ?_
  rotate_left
  · intro w'
    go_simp
    with_reducible rfl
  rotate_left
  · simp only [Act.put, List.setIfInBounds_toArray, List.set_cons_zero, List.set_cons_succ, i64_w, i32_w]
    rfl
  refine pure_ (i := 1) (N := some 41) (v := ?_) (a' := ?_) #[true, true, false, false, false, false, false, false, false, false, false, false, false, false, false, false, false, false, false, false, false] rfl rfl (by kernel_rfl) (fun _ _ _ h => h) (Or.inl ⟨by rfl, ?_⟩) ?_ ?_
  rotate_left
  · intro w'
    go_simp
    with_reducible rfl
  rotate_left
  · simp only [Act.put, List.setIfInBounds_toArray, List.set_cons_zero, List.set_cons_succ, i64_w, i32_w]
    rfl
  refine pure_ (i := 2) (N := some 42) (v := ?_) (a' := ?_) #[true, true, true, false, false, false, false, false, false, false, false, false, false, false, false, false, false, false, false, false, false] rfl rfl (by kernel_rfl) (fun _ _ _ h => h) (Or.inl ⟨by rfl, ?_⟩) ?_ ?_
  rotate_left
  · intro w'
    go_simp
    with_reducible rfl
  rotate_left
  · simp only [Act.put, List.setIfInBounds_toArray, List.set_cons_zero, List.set_cons_succ, i64_w, i32_w]
    rfl
  refine pure_ (i := 4) (N := some 44) (v := ?_) (a' := ?_) #[true, true, true, false, true, false, false, false, false, false, false, false, false, false, false, false, false, false, false, false, false] rfl rfl (by kernel_rfl) (fun _ _ _ h => h) (Or.inl ⟨by rfl, ?_⟩) ?_ ?_
  rotate_left
  · intro w'
    go_simp
    with_reducible rfl
  rotate_left
  · simp only [Act.put, List.setIfInBounds_toArray, List.set_cons_zero, List.set_cons_succ, i64_w, i32_w]
    rfl
  refine take_ (i := 6) (N := some 46) (v := ?_) (a' := ?_) #[true, true, true, false, true, false, true, false, false, false, false, false, false, false, false, false, false, false, false, false, false] rfl rfl (by kernel_rfl) (fun _ _ _ h => h) (Or.inl ⟨by rfl, ?_⟩) hHeld ?_ ?_
  rotate_left
  · intro w' hS
    go_simp
    with_reducible rfl
  rotate_left
  · simp only [Act.put, List.setIfInBounds_toArray, List.set_cons_zero, List.set_cons_succ, i64_w, i32_w]
    rfl
  refine one_ (i := 3) (N := some 43) #[true, true, true, true, true, false, true, false, false, false, false, false, false, false, false, false, false, false, false, false, false] rfl rfl (by kernel_rfl) (by decide) (fun K hK => ?_)
  refine goes_ Try.func18 (by kernel_rfl) rfl #[.slice A a.length c] (by rfl) rfl rfl (by (try simp only [List.map_toArray, List.map_cons, List.map_nil]); first | done | rfl) ?_
  refine (turnedN _ A c a hA hc (by omega) w.heap.size hn0).mono ?_
  rintro e_ w12 ⟨vU1, qU1, rfl, hU1, hb12⟩
  refine ⟨_, rfl, ?_⟩
  clear hHeld
  have hs12 : w11.heap.size ≤ w12.heap.size := hb12.size
  replace hX := Kd.R_below hX hb12
  replace hY := Kd.R_below hY hb12
  replace hA := Kd.C_below hA hb12
  replace hB := Kd.C_below hB hb12
  replace hD := blk_below hD hb12
  replace hW := below_then hW hn0 hb12
  replace hn0 := Nat.le_trans hn0 hs12
  have cD0 : w12.cell? ⟨gd, 0, none⟩ = some (.int .u32 d0) := (blk_cell hD 0).trans rfl
  have cD1 : w12.cell? ⟨gd, 1, none⟩ = some (.int .u64 d1) := (blk_cell hD 1).trans rfl
  refine hK.out _ _ (⟨cD0, cD1⟩) (fun hHeld => ?_)
  clear hK K
  refine norm_ (a' := ?_) ?_ ?_
  rotate_left
  · show Act.put _ (some 43) _ = _
    simp only [Act.put, List.setIfInBounds_toArray, List.set_cons_zero, List.set_cons_succ, i64_w, i32_w]
    rfl
  clear cD0 cD1
  refine one_ (i := 5) (N := some 45) #[true, true, true, true, true, true, true, false, false, false, false, false, false, false, false, false, false, false, false, false, false] rfl rfl (by kernel_rfl) (by decide) (fun K hK => ?_)
  refine goes_ Try.func18 (by kernel_rfl) rfl #[.slice B b.length d] (by rfl) rfl rfl (by (try simp only [List.map_toArray, List.map_cons, List.map_nil]); first | done | rfl) ?_
  refine (turnedN _ B d b hB hd (by omega) w.heap.size hn0).mono ?_
  rintro e_ w13 ⟨vU2, qU2, rfl, hU2, hb13⟩
  refine ⟨_, rfl, ?_⟩
  clear hHeld
  have hs13 : w12.heap.size ≤ w13.heap.size := hb13.size
  replace hX := Kd.R_below hX hb13
  replace hY := Kd.R_below hY hb13
  replace hU1 := Kd.R_below hU1 hb13
  replace hA := Kd.C_below hA hb13
  replace hB := Kd.C_below hB hb13
  replace hD := blk_below hD hb13
  replace hW := below_then hW hn0 hb13
  replace hn0 := Nat.le_trans hn0 hs13
  have cD0 : w13.cell? ⟨gd, 0, none⟩ = some (.int .u32 d0) := (blk_cell hD 0).trans rfl
  have cD1 : w13.cell? ⟨gd, 1, none⟩ = some (.int .u64 d1) := (blk_cell hD 1).trans rfl
  refine hK.out _ _ (⟨cD0, cD1⟩) (fun hHeld => ?_)
  clear hK K
  refine norm_ (a' := ?_) ?_ ?_
  rotate_left
  · show Act.put _ (some 45) _ = _
    simp only [Act.put, List.setIfInBounds_toArray, List.set_cons_zero, List.set_cons_succ, i64_w, i32_w]
    rfl
  clear cD0 cD1
  refine one_ (i := 7) (N := some 47) #[true, true, true, true, true, true, true, true, false, false, false, false, false, false, false, false, false, false, false, false, false] rfl rfl (by kernel_rfl) (by decide) (fun K hK => ?_)
  obtain ⟨cx, -, dx⟩ := C_of_R (short_row hX (List.length_map _))
  obtain ⟨cy, -, dy⟩ := C_of_R (short_row hY (List.length_map _))
  obtain ⟨u1, -, u2⟩ := C_of_R hU1
  obtain ⟨u3, -, u4⟩ := C_of_R hU2
  refine goes_ Try.func37 (by kernel_rfl) rfl #[.slice vX a.length qX, .slice vY b.length qY, .slice vU1 a.length qU1, .slice vU2 b.length qU2, .agg #[.int .u32 d0, .int .u64 d1]] (by rfl) rfl rfl (by (try simp only [List.map_toArray, List.map_cons, List.map_nil]); first | done | rfl) ?_
  refine (asksM _ vX qX vY qY vU1 qU1 vU2 qU2 a.length b.length (a.map trn) (b.map trn) d0 d1 (List.length_map _) (List.length_map _) cx dx cy dy u1 u2 u3 u4 ota otb).mono ?_
  rintro e_ w14 ⟨rfl, hb14⟩
  refine ⟨_, rfl, ?_⟩
  clear hHeld
  have hs14 : w13.heap.size ≤ w14.heap.size := hb14.size
  replace hX := Kd.R_below hX hb14
  replace hY := Kd.R_below hY hb14
  replace hU1 := Kd.R_below hU1 hb14
  replace hU2 := Kd.R_below hU2 hb14
  replace hA := Kd.C_below hA hb14
  replace hB := Kd.C_below hB hb14
  replace hD := blk_below hD hb14
  replace hW := below_then hW hn0 hb14
  replace hn0 := Nat.le_trans hn0 hs14
  have cD0 : w14.cell? ⟨gd, 0, none⟩ = some (.int .u32 d0) := (blk_cell hD 0).trans rfl
  have cD1 : w14.cell? ⟨gd, 1, none⟩ = some (.int .u64 d1) := (blk_cell hD 1).trans rfl
  clear cx dx cy dy u1 u2 u3 u4
  refine hK.out _ _ (⟨cD0, cD1⟩) (fun hHeld => ?_)
  clear hK K
  refine norm_ (a' := ?_) ?_ ?_
  rotate_left
  · show Act.put _ (some 47) _ = _
    simp only [Act.put, List.setIfInBounds_toArray, List.set_cons_zero, List.set_cons_succ, i64_w, i32_w]
    rfl
  clear cD0 cD1
  refine pure_ (i := 8) (N := some 48) (v := ?_) (a' := ?_) #[true, true, true, true, true, true, true, true, true, false, false, false, false, false, false, false, false, false, false, false, false] rfl rfl (by kernel_rfl) (fun _ _ _ h => h) (Or.inl ⟨by rfl, ?_⟩) ?_ ?_
  rotate_left
  · intro w'
    go_simp
    with_reducible rfl
  rotate_left
  · simp only [Act.put, List.setIfInBounds_toArray, List.set_cons_zero, List.set_cons_succ, i64_w, i32_w]
    rfl
  refine pure_ (i := 9) (N := some 49) (v := ?_) (a' := ?_) #[true, true, true, true, true, true, true, true, true, true, false, false, false, false, false, false, false, false, false, false, false] rfl rfl (by kernel_rfl) (fun _ _ _ h => h) (Or.inl ⟨by rfl, ?_⟩) ?_ ?_
  rotate_left
  · intro w'
    go_simp
    with_reducible rfl
  rotate_left
  · simp only [Act.put, List.setIfInBounds_toArray, List.set_cons_zero, List.set_cons_succ, i64_w, i32_w]
    rfl
  refine pure_ (i := 10) (N := some 50) (v := ?_) (a' := ?_) #[true, true, true, true, true, true, true, true, true, true, true, false, false, false, false, false, false, false, false, false, false] rfl rfl (by kernel_rfl) (fun _ _ _ h => h) (Or.inl ⟨by rfl, ?_⟩) ?_ ?_
  rotate_left
  · intro w'
    go_simp
    with_reducible rfl
  rotate_left
  · simp only [Act.put, List.setIfInBounds_toArray, List.set_cons_zero, List.set_cons_succ, i64_w, i32_w]
    rfl
  refine one_ (i := 11) (N := some 51) #[true, true, true, true, true, true, true, true, true, true, true, true, false, false, false, false, false, false, false, false, false] rfl rfl (by kernel_rfl) (by decide) (fun K hK => ?_)
  refine goes_ Try.func18 (by kernel_rfl) rfl #[.slice A a.length c] (by rfl) rfl rfl (by (try simp only [List.map_toArray, List.map_cons, List.map_nil]); first | done | rfl) ?_
  refine (turnedN _ A c a hA hc (by omega) w.heap.size hn0).mono ?_
  rintro e_ w15 ⟨vVX, qVX, rfl, hVX, hb15⟩
  refine ⟨_, rfl, ?_⟩
  clear hHeld
  have hs15 : w14.heap.size ≤ w15.heap.size := hb15.size
  replace hX := Kd.R_below hX hb15
  replace hY := Kd.R_below hY hb15
  replace hU1 := Kd.R_below hU1 hb15
  replace hU2 := Kd.R_below hU2 hb15
  replace hA := Kd.C_below hA hb15
  replace hB := Kd.C_below hB hb15
  replace hD := blk_below hD hb15
  replace hW := below_then hW hn0 hb15
  replace hn0 := Nat.le_trans hn0 hs15
  have cD0 : w15.cell? ⟨gd, 0, none⟩ = some (.int .u32 d0) := (blk_cell hD 0).trans rfl
  have cD1 : w15.cell? ⟨gd, 1, none⟩ = some (.int .u64 d1) := (blk_cell hD 1).trans rfl
  refine hK.out _ _ (⟨cD0, cD1⟩) (fun hHeld => ?_)
  clear hK K
  refine norm_ (a' := ?_) ?_ ?_
  rotate_left
  · show Act.put _ (some 51) _ = _
    simp only [Act.put, List.setIfInBounds_toArray, List.set_cons_zero, List.set_cons_succ, i64_w, i32_w]
    rfl
  clear cD0 cD1
  refine one_ (i := 12) (N := some 52) #[true, true, true, true, true, true, true, true, true, true, true, true, true, false, false, false, false, false, false, false, false] rfl rfl (by kernel_rfl) (by decide) (fun K hK => ?_)
  obtain ⟨u1, -, u2⟩ := C_of_R hVX
  refine goes_ Try.func15 (by kernel_rfl) rfl #[.slice vX a.length qX, .slice vVX a.length qVX] (by rfl) rfl rfl (by (try simp only [List.map_toArray, List.map_cons, List.map_nil]); first | done | rfl) ?_
  refine (keptM _ hX u1 u2 (List.length_map _) (by rw [List.length_map]; omega)).mono ?_
  rintro e_ w16 ⟨rfl, hb16⟩
  refine ⟨_, rfl, ?_⟩
  clear hHeld
  have hs16 : w15.heap.size ≤ w16.heap.size := hb16.size
  replace hX := Kd.R_below hX hb16
  replace hY := Kd.R_below hY hb16
  replace hU1 := Kd.R_below hU1 hb16
  replace hU2 := Kd.R_below hU2 hb16
  replace hVX := Kd.R_below hVX hb16
  replace hA := Kd.C_below hA hb16
  replace hB := Kd.C_below hB hb16
  replace hD := blk_below hD hb16
  replace hW := below_then hW hn0 hb16
  replace hn0 := Nat.le_trans hn0 hs16
  have cD0 : w16.cell? ⟨gd, 0, none⟩ = some (.int .u32 d0) := (blk_cell hD 0).trans rfl
  have cD1 : w16.cell? ⟨gd, 1, none⟩ = some (.int .u64 d1) := (blk_cell hD 1).trans rfl
  clear u1 u2
  refine hK.out _ _ (⟨cD0, cD1⟩) (fun hHeld => ?_)
  clear hK K
  refine norm_ (a' := ?_) ?_ ?_
  rotate_left
  · show Act.put _ (some 52) _ = _
    simp only [Act.put, List.setIfInBounds_toArray, List.set_cons_zero, List.set_cons_succ, i64_w, i32_w]
    rfl
  clear cD0 cD1
  refine pure_ (i := 13) (N := some 53) (v := ?_) (a' := ?_) #[true, true, true, true, true, true, true, true, true, true, true, true, true, true, false, false, false, false, false, false, false] rfl rfl (by kernel_rfl) (fun _ _ _ h => h) (Or.inl ⟨by rfl, ?_⟩) ?_ ?_
  rotate_left
  · intro w'
    go_simp
    with_reducible rfl
  rotate_left
  · simp only [Act.put, List.setIfInBounds_toArray, List.set_cons_zero, List.set_cons_succ, i64_w, i32_w]
    rfl
  refine pure_ (i := 14) (N := some 54) (v := ?_) (a' := ?_) #[true, true, true, true, true, true, true, true, true, true, true, true, true, true, true, false, false, false, false, false, false] rfl rfl (by kernel_rfl) (fun _ _ _ h => h) (Or.inl ⟨by rfl, ?_⟩) ?_ ?_
  rotate_left
  · intro w'
    go_simp
    with_reducible rfl
  rotate_left
  · simp only [Act.put, List.setIfInBounds_toArray, List.set_cons_zero, List.set_cons_succ, i64_w, i32_w]
    rfl
  refine pure_ (i := 15) (N := some 55) (v := ?_) (a' := ?_) #[true, true, true, true, true, true, true, true, true, true, true, true, true, true, true, true, false, false, false, false, false] rfl rfl (by kernel_rfl) (fun _ _ _ h => h) (Or.inl ⟨by rfl, ?_⟩) ?_ ?_
  rotate_left
  · intro w'
    go_simp
    with_reducible rfl
  rotate_left
  · simp only [Act.put, List.setIfInBounds_toArray, List.set_cons_zero, List.set_cons_succ, i64_w, i32_w]
    rfl
  refine pure_ (i := 16) (N := some 56) (v := ?_) (a' := ?_) #[true, true, true, true, true, true, true, true, true, true, true, true, true, true, true, true, true, false, false, false, false] rfl rfl (by kernel_rfl) (fun _ _ _ h => h) (Or.inl ⟨by rfl, ?_⟩) ?_ ?_
  rotate_left
  · intro w'
    go_simp
    with_reducible rfl
  rotate_left
  · simp only [Act.put, List.setIfInBounds_toArray, List.set_cons_zero, List.set_cons_succ, i64_w, i32_w]
    rfl
  refine one_ (i := 17) (N := some 57) #[true, true, true, true, true, true, true, true, true, true, true, true, true, true, true, true, true, true, false, false, false] rfl rfl (by kernel_rfl) (by decide) (fun K hK => ?_)
  refine goes_ Try.func18 (by kernel_rfl) rfl #[.slice B b.length d] (by rfl) rfl rfl (by (try simp only [List.map_toArray, List.map_cons, List.map_nil]); first | done | rfl) ?_
  refine (turnedN _ B d b hB hd (by omega) w.heap.size hn0).mono ?_
  rintro e_ w17 ⟨vVY, qVY, rfl, hVY, hb17⟩
  refine ⟨_, rfl, ?_⟩
  clear hHeld
  have hs17 : w16.heap.size ≤ w17.heap.size := hb17.size
  replace hX := Kd.R_below hX hb17
  replace hY := Kd.R_below hY hb17
  replace hU1 := Kd.R_below hU1 hb17
  replace hU2 := Kd.R_below hU2 hb17
  replace hVX := Kd.R_below hVX hb17
  replace hA := Kd.C_below hA hb17
  replace hB := Kd.C_below hB hb17
  replace hD := blk_below hD hb17
  replace hW := below_then hW hn0 hb17
  replace hn0 := Nat.le_trans hn0 hs17
  have cD0 : w17.cell? ⟨gd, 0, none⟩ = some (.int .u32 d0) := (blk_cell hD 0).trans rfl
  have cD1 : w17.cell? ⟨gd, 1, none⟩ = some (.int .u64 d1) := (blk_cell hD 1).trans rfl
  refine hK.out _ _ (⟨cD0, cD1⟩) (fun hHeld => ?_)
  clear hK K
  refine norm_ (a' := ?_) ?_ ?_
  rotate_left
  · show Act.put _ (some 57) _ = _
    simp only [Act.put, List.setIfInBounds_toArray, List.set_cons_zero, List.set_cons_succ, i64_w, i32_w]
    rfl
  clear cD0 cD1
  refine one_ (i := 18) (N := some 58) #[true, true, true, true, true, true, true, true, true, true, true, true, true, true, true, true, true, true, true, false, false] rfl rfl (by kernel_rfl) (by decide) (fun K hK => ?_)
  obtain ⟨u1, -, u2⟩ := C_of_R hVY
  refine goes_ Try.func15 (by kernel_rfl) rfl #[.slice vY b.length qY, .slice vVY b.length qVY] (by rfl) rfl rfl (by (try simp only [List.map_toArray, List.map_cons, List.map_nil]); first | done | rfl) ?_
  refine (keptM _ hY u1 u2 (List.length_map _) (by rw [List.length_map]; omega)).mono ?_
  rintro e_ w18 ⟨rfl, hb18⟩
  refine ⟨_, rfl, ?_⟩
  clear hHeld
  have hs18 : w17.heap.size ≤ w18.heap.size := hb18.size
  replace hX := Kd.R_below hX hb18
  replace hY := Kd.R_below hY hb18
  replace hU1 := Kd.R_below hU1 hb18
  replace hU2 := Kd.R_below hU2 hb18
  replace hVX := Kd.R_below hVX hb18
  replace hVY := Kd.R_below hVY hb18
  replace hA := Kd.C_below hA hb18
  replace hB := Kd.C_below hB hb18
  replace hD := blk_below hD hb18
  replace hW := below_then hW hn0 hb18
  replace hn0 := Nat.le_trans hn0 hs18
  have cD0 : w18.cell? ⟨gd, 0, none⟩ = some (.int .u32 d0) := (blk_cell hD 0).trans rfl
  have cD1 : w18.cell? ⟨gd, 1, none⟩ = some (.int .u64 d1) := (blk_cell hD 1).trans rfl
  clear u1 u2
  refine hK.out _ _ (⟨cD0, cD1⟩) (fun hHeld => ?_)
  clear hK K
  refine norm_ (a' := ?_) ?_ ?_
  rotate_left
  · show Act.put _ (some 58) _ = _
    simp only [Act.put, List.setIfInBounds_toArray, List.set_cons_zero, List.set_cons_succ, i64_w, i32_w]
    rfl
  clear cD0 cD1
  refine pure_ (i := 19) (N := some 59) (v := ?_) (a' := ?_) #[true, true, true, true, true, true, true, true, true, true, true, true, true, true, true, true, true, true, true, true, false] rfl rfl (by kernel_rfl) (fun _ _ _ h => h) (Or.inl ⟨by rfl, ?_⟩) ?_ ?_
  rotate_left
  · intro w'
    go_simp
    with_reducible rfl
  rotate_left
  · simp only [Act.put, List.setIfInBounds_toArray, List.set_cons_zero, List.set_cons_succ, i64_w, i32_w]
    rfl
  refine pure_ (i := 20) (N := some 6) (v := ?_) (a' := ?_) #[true, true, true, true, true, true, true, true, true, true, true, true, true, true, true, true, true, true, true, true, true] rfl rfl (by kernel_rfl) (fun _ _ _ h => h) (Or.inl ⟨by rfl, ?_⟩) ?_ ?_
  rotate_left
  · intro w'
    go_simp
    with_reducible rfl
  rotate_left
  · simp only [Act.put, List.setIfInBounds_toArray, List.set_cons_zero, List.set_cons_succ, i64_w, i32_w]
    rfl
  refine done_ (by kernel_rfl) ?_
  clear hHeld
  go_wp2_with fail
  go_ret
  exact ⟨rfl, hW⟩
theorem VectorAsks_walk (w : World) (A : Option Addr) (c : Nat) (a : List Dt) (hc : a.length ≤ c) (hA : Kd.C kD w A a.length a) (wa : ∀ x ∈ a, DotOk x) (la : a.length * 16 ≤ 140737488351232) (B : Option Addr) (d : Nat) (b : List Dt) (hd : b.length ≤ d) (hB : Kd.C kD w B b.length b) (wb : ∀ x ∈ b, DotOk x) (lb : b.length * 16 ≤ 140737488351232) (d0 : Int) (_ : (Lit.int .u32 d0).wf = true) (d1 : Int) (_ : (Lit.int .u64 d1).wf = true) :
    Calls Try.prog 6 #[.slice A a.length c, .slice B b.length d, .agg #[.int .u32 d0, .int .u64 d1]] w fun e w' => e = .returned (.bool true) ∧ Below w.heap.size w w' :=
  vectorAsks_go w A c a hA hc (okD_of wa la) la B d b hB hd (okD_of wb lb) lb d0 d1
end Go.Proofs.Ytgcmmiihjiiemaa.My
