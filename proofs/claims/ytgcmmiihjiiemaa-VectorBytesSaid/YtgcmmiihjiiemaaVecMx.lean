/- vector.Max's own closure: the greater of two dots is put behind the list. -/
import Derived.Test.YtgcmmiihjiiemaaPVectorMaxx4
import Derived.StillTailTactics
namespace Go.Proofs.Ytgcmmiihjiiemaa.My
open Go.RowKit Go.Proofs.YtgcmmiihjiiemaaW.PrintWords Go.Proofs.YtgcmmiihjiiemaaW.PrintLast Go.Proofs.YtgcmmiihjiiemaaW.PrintMore Go.Proofs.Ytgcmmiihjiiemaa Go.Proofs.Ytgcmmiihjiiemaa.PVectorMax
set_option linter.unusedSimpArgs false
set_option linter.unusedVariables false
set_option maxRecDepth 100000
set_option maxHeartbeats 1600000
abbrev Dt := S35
/-- The list that is made: its header at block g, its row the call's own. -/
def LS (w : World) (base g : Nat) (v : Value) (xs : List Dt) : Prop := base ≤ g ∧ w.heap[g]? = some (.cells #[v] 22 (0, 0)) ∧ Kd.R k35 35 w base (fun _ => True) v xs
/-- A dot at an address. -/
def DA (w : World) (b o : Nat) (d : Dt) : Prop := w.cell? ⟨b, o, none⟩ = some (.int .u32 d.f0) ∧ w.cell? ⟨b, o + 1, none⟩ = some (.int .u64 d.f1)
theorem infoDot : (Try.prog.info? 35).map (fun i => (i.zero, i.size, i.bytes)) = some (some (.agg #[.int .u32 0, .int .u64 0]), 2, 16) := by kernel_rfl
theorem mxA {w0 w : World} (g : Nat) (v : Value) (xs : List Dt) (HB0 : Below w0.heap.size w0 w) (h : LS w w0.heap.size g v xs) (hl : (xs.length + 1) * 16 ≤ 140737488355328) (bx ox : Nat) (x : Dt) (hx : DA w0 bx ox x) (hbx : bx < w0.heap.size) :
    Calls Try.prog 52 #[.pointer (some ⟨bx, ox, none⟩), .pointer none, .pointer (some ⟨g, 0, none⟩)] w fun e w' => e = .returned (.tuple #[]) ∧ (∃ v', LS w' w0.heap.size g v' (xs ++ [x])) ∧ Below w0.heap.size w0 w' := by
  obtain ⟨hg0, hblk, hR⟩ := h
  have HB := Aside0.mk HB0
  have HO := Aside0.mk hR
  have BK := Aside0.mk hblk
  have hx0 := (HB0.cell (p := ⟨bx, ox, none⟩) hbx).trans hx.1
  have hx1 := (HB0.cell (p := ⟨bx, ox + 1, none⟩) hbx).trans hx.2
  have HX0 := Aside0.mk hx.1
  have HX1 := Aside0.mk hx.2
  clear hx
  have hc0 : w.cell? ⟨g, 0, none⟩ = some v := (blk_cell hblk 0).trans rfl
  obtain ⟨A, c, ev⟩ := Kd.R_slice hR
  subst ev
  clear hblk hR HB0
  go_enter Try.func52, Try.ntmps52
  go_wp2_with fail
  go_quiet (fail)
  go_wp2_with fail
  obtain ⟨ys, hys⟩ : ∃ ys, ys = xs ++ [x] := ⟨_, rfl⟩
  have HYS := Aside0.mk hys
  clear hys
  refine start_ (n := 7) (S := fun w' => w'.cell? ⟨g, 0, none⟩ = some (.slice A xs.length c) ∧ w'.cell? ⟨bx, ox, none⟩ = some (.int .u32 x.f0) ∧ w'.cell? ⟨bx, ox + 1, none⟩ = some (.int .u64 x.f1)) (ds := [6]) #[false, false, false, false, false, false, false] (by kernel_rfl) rfl rfl (⟨hc0, hx0, hx1⟩) (fun hHeld => ?_)
  have HB1 : Aside0 (Below w0.heap.size w0 (w.drewN nq).drew) := ⟨below_drew1 (pw_below_drewN HB.out nq)⟩
  have HO1 : Aside0 (Kd.R k35 35 (w.drewN nq).drew w0.heap.size (fun _ => True) (.slice A xs.length c) xs) := ⟨Kd.R_drew (Kd.R_drewN HO.out nq)⟩
  have BK1 : Aside0 ((w.drewN nq).drew.heap[g]? = some (.cells #[.slice A xs.length c] 22 (0, 0))) := ⟨BK.out⟩
  generalize (w.drewN nq).drew = w2 at HB1 HO1 BK1 hHeld ⊢
  refine take_ (i := 0) (N := some 23) (v := ?_) (a' := ?_) #[true, false, false, false, false, false, false] rfl rfl (by kernel_rfl) (fun _ _ _ h => h) (Or.inl ⟨by rfl, ?_⟩) hHeld ?_ ?_
  rotate_left
  · intro w' hS
    go_simp
    with_reducible rfl
  rotate_left
  · simp only [Act.put, List.setIfInBounds_toArray, List.set_cons_zero, List.set_cons_succ, i64_w, i32_w]
    rfl
  refine pure_ (i := 1) (N := some 24) (v := ?_) (a' := ?_) #[true, true, false, false, false, false, false] rfl rfl (by kernel_rfl) (fun _ _ _ h => h) (Or.inl ⟨by rfl, ?_⟩) ?_ ?_
  rotate_left
  · intro w'
    go_simp
    with_reducible rfl
  rotate_left
  · simp only [Act.put, List.setIfInBounds_toArray, List.set_cons_zero, List.set_cons_succ, i64_w, i32_w]
    rfl
  refine pure_ (i := 2) (N := some 25) (v := ?_) (a' := ?_) #[true, true, true, false, false, false, false] rfl rfl (by kernel_rfl) (fun _ _ _ h => h) (Or.inl ⟨by rfl, ?_⟩) ?_ ?_
  rotate_left
  · intro w'
    go_simp
    with_reducible rfl
  rotate_left
  · simp only [Act.put, List.setIfInBounds_toArray, List.set_cons_zero, List.set_cons_succ, i64_w, i32_w]
    rfl
  refine take_ (i := 3) (N := some 26) (v := ?_) (a' := ?_) #[true, true, true, true, false, false, false] rfl rfl (by kernel_rfl) (fun _ _ _ h => h) (Or.inl ⟨by rfl, ?_⟩) hHeld ?_ ?_
  rotate_left
  · intro w' hS
    go_simp
    with_reducible rfl
  rotate_left
  · simp only [Act.put, List.setIfInBounds_toArray, List.set_cons_zero, List.set_cons_succ, i64_w, i32_w]
    rfl
  refine one_ (i := 4) (N := some 27) #[true, true, true, true, true, false, false] rfl rfl (by kernel_rfl) (by decide) (fun K hK => ?_)
  refine value_ (w1 := ?_) (v := ?_) (by rfl) rfl ?_ ?_
  rotate_left 2
  · go_simp
    constructor
    · rfl
    · rfl
  refine hK.out _ _ (⟨(World.cell?_alloc_lt _ _ _ (World.block_lt_of_cell? _ _ hHeld.1)).trans hHeld.1, (World.cell?_alloc_lt _ _ _ (World.block_lt_of_cell? _ _ hHeld.2.1)).trans hHeld.2.1, (World.cell?_alloc_lt _ _ _ (World.block_lt_of_cell? _ _ hHeld.2.2)).trans hHeld.2.2⟩) (fun hHeld => ?_)
  clear hK K
  refine norm_ (a' := ?_) ?_ ?_
  rotate_left
  · show Act.put _ (some 27) _ = _
    simp only [Act.put, List.setIfInBounds_toArray, List.set_cons_zero, List.set_cons_succ, i64_w, i32_w]
    rfl
  refine one_ (i := 5) (N := some 28) #[true, true, true, true, true, true, false] rfl rfl (by kernel_rfl) (by decide) (fun K hK => ?_)
  refine Kd.R_append_step k35 (w0 := w0) w0.heap.size (by rfl) (.tmp 23) (.tmp 27) 22 35 (.agg #[.int .u32 0, .int .u64 0]) 16 rfl Try.underlying22 infoDot rfl (by decide) (by omega) (.slice A xs.length c) xs x [.int .u32 x.f0, .int .u64 x.f1] (fun _ => True) (fun _ => False) rfl rfl ?aP (fun _ hk => hk.elim) ?aF ?aO ?aB ?aS ?aL ?_
  (case aP => exact k35_mkM _ _ _ _)
  (case aB => exact HB1.out)
  (case aF => exact (fun _ _ => trivial))
  (case aO => exact HO1.out)
  (case aS => exact (below_size HB1.out))
  (case aL => omega)
  intro v3 w3 ho3 hb3 hg3 hat3
  rw [← HYS.out] at ho3
  obtain ⟨A3, c3, e3⟩ := Kd.R_slice ho3
  subst e3
  have BK4 := blk_grown BK1.out hg3 (Kd.R_ne HO1.out BK1.out (by decide))
  have cl3 : w3.cell? ⟨g, 0, none⟩ = some (.slice A xs.length c) := (blk_cell BK4 0).trans rfl
  have fr3 := blk_frozen BK4 0
  have cx0 := (hb3.cell (p := ⟨bx, ox, none⟩) hbx).trans HX0.out
  have cx1 := (hb3.cell (p := ⟨bx, ox + 1, none⟩) hbx).trans HX1.out
  refine hK.out _ _ (⟨cl3, cx0, cx1⟩) (fun hHeld => ?_)
  clear hK K
  refine norm_ (a' := ?_) ?_ ?_
  rotate_left
  · show Act.put _ (some 28) _ = _
    simp only [Act.put, List.setIfInBounds_toArray, List.set_cons_zero, List.set_cons_succ, i64_w, i32_w]
    rfl
  refine last_ (i := 6) (N := none) #[true, true, true, true, true, true, true] rfl rfl (by kernel_rfl) (by decide) (fun K hK => ?_)
  refine skip_ (w1 := ?_) (by rfl) rfl ?_ ?_
  rotate_left
  · go_simp
    rfl
  refine hK.out _ _ ?_
  clear hK K
  refine done_ (by kernel_rfl) ?_
  try go_wp2
  go_end0
  exact ⟨rfl, ⟨_, hg0, blk_set BK4 0 _, by rw [← HYS.out]; exact Kd.R_set ho3 BK4 (by simp [k35, Kd.iso, Kd.pair, Kd.int, Kd.scalar]) 0 _⟩, below_set hb3 hg0⟩
theorem mxB {w0 w : World} (g : Nat) (v : Value) (xs : List Dt) (HB0 : Below w0.heap.size w0 w) (h : LS w w0.heap.size g v xs) (hl : (xs.length + 1) * 16 ≤ 140737488355328) (by_ oy : Nat) (y : Dt) (hy : DA w0 by_ oy y) (hby : by_ < w0.heap.size) :
    Calls Try.prog 52 #[.pointer none, .pointer (some ⟨by_, oy, none⟩), .pointer (some ⟨g, 0, none⟩)] w fun e w' => e = .returned (.tuple #[]) ∧ (∃ v', LS w' w0.heap.size g v' (xs ++ [y])) ∧ Below w0.heap.size w0 w' := by
  obtain ⟨hg0, hblk, hR⟩ := h
  have HB := Aside0.mk HB0
  have HO := Aside0.mk hR
  have BK := Aside0.mk hblk
  have hy0 := (HB0.cell (p := ⟨by_, oy, none⟩) hby).trans hy.1
  have hy1 := (HB0.cell (p := ⟨by_, oy + 1, none⟩) hby).trans hy.2
  have HY0 := Aside0.mk hy.1
  have HY1 := Aside0.mk hy.2
  clear hy
  have hc0 : w.cell? ⟨g, 0, none⟩ = some v := (blk_cell hblk 0).trans rfl
  obtain ⟨A, c, ev⟩ := Kd.R_slice hR
  subst ev
  clear hblk hR HB0
  go_enter Try.func52, Try.ntmps52
  go_wp2_with fail
  go_quiet (fail)
  go_wp2_with fail
  obtain ⟨ys, hys⟩ : ∃ ys, ys = xs ++ [y] := ⟨_, rfl⟩
  have HYS := Aside0.mk hys
  clear hys
  refine start_ (n := 7) (S := fun w' => w'.cell? ⟨g, 0, none⟩ = some (.slice A xs.length c) ∧ w'.cell? ⟨by_, oy, none⟩ = some (.int .u32 y.f0) ∧ w'.cell? ⟨by_, oy + 1, none⟩ = some (.int .u64 y.f1)) (ds := [6]) #[false, false, false, false, false, false, false] (by kernel_rfl) rfl rfl (⟨hc0, hy0, hy1⟩) (fun hHeld => ?_)
  have HB1 : Aside0 (Below w0.heap.size w0 (w.drewN nq).drew) := ⟨below_drew1 (pw_below_drewN HB.out nq)⟩
  have HO1 : Aside0 (Kd.R k35 35 (w.drewN nq).drew w0.heap.size (fun _ => True) (.slice A xs.length c) xs) := ⟨Kd.R_drew (Kd.R_drewN HO.out nq)⟩
  have BK1 : Aside0 ((w.drewN nq).drew.heap[g]? = some (.cells #[.slice A xs.length c] 22 (0, 0))) := ⟨BK.out⟩
  generalize (w.drewN nq).drew = w2 at HB1 HO1 BK1 hHeld ⊢
  refine take_ (i := 0) (N := some 23) (v := ?_) (a' := ?_) #[true, false, false, false, false, false, false] rfl rfl (by kernel_rfl) (fun _ _ _ h => h) (Or.inl ⟨by rfl, ?_⟩) hHeld ?_ ?_
  rotate_left
  · intro w' hS
    go_simp
    with_reducible rfl
  rotate_left
  · simp only [Act.put, List.setIfInBounds_toArray, List.set_cons_zero, List.set_cons_succ, i64_w, i32_w]
    rfl
  refine pure_ (i := 1) (N := some 24) (v := ?_) (a' := ?_) #[true, true, false, false, false, false, false] rfl rfl (by kernel_rfl) (fun _ _ _ h => h) (Or.inl ⟨by rfl, ?_⟩) ?_ ?_
  rotate_left
  · intro w'
    go_simp
    with_reducible rfl
  rotate_left
  · simp only [Act.put, List.setIfInBounds_toArray, List.set_cons_zero, List.set_cons_succ, i64_w, i32_w]
    rfl
  refine pure_ (i := 2) (N := some 25) (v := ?_) (a' := ?_) #[true, true, true, false, false, false, false] rfl rfl (by kernel_rfl) (fun _ _ _ h => h) (Or.inl ⟨by rfl, ?_⟩) ?_ ?_
  rotate_left
  · intro w'
    go_simp
    with_reducible rfl
  rotate_left
  · simp only [Act.put, List.setIfInBounds_toArray, List.set_cons_zero, List.set_cons_succ, i64_w, i32_w]
    rfl
  refine take_ (i := 3) (N := some 26) (v := ?_) (a' := ?_) #[true, true, true, true, false, false, false] rfl rfl (by kernel_rfl) (fun _ _ _ h => h) (Or.inl ⟨by rfl, ?_⟩) hHeld ?_ ?_
  rotate_left
  · intro w' hS
    go_simp
    with_reducible rfl
  rotate_left
  · simp only [Act.put, List.setIfInBounds_toArray, List.set_cons_zero, List.set_cons_succ, i64_w, i32_w]
    rfl
  refine one_ (i := 4) (N := some 27) #[true, true, true, true, true, false, false] rfl rfl (by kernel_rfl) (by decide) (fun K hK => ?_)
  refine value_ (w1 := ?_) (v := ?_) (by rfl) rfl ?_ ?_
  rotate_left 2
  · go_simp
    constructor
    · rfl
    · rfl
  refine hK.out _ _ (⟨(World.cell?_alloc_lt _ _ _ (World.block_lt_of_cell? _ _ hHeld.1)).trans hHeld.1, (World.cell?_alloc_lt _ _ _ (World.block_lt_of_cell? _ _ hHeld.2.1)).trans hHeld.2.1, (World.cell?_alloc_lt _ _ _ (World.block_lt_of_cell? _ _ hHeld.2.2)).trans hHeld.2.2⟩) (fun hHeld => ?_)
  clear hK K
  refine norm_ (a' := ?_) ?_ ?_
  rotate_left
  · show Act.put _ (some 27) _ = _
    simp only [Act.put, List.setIfInBounds_toArray, List.set_cons_zero, List.set_cons_succ, i64_w, i32_w]
    rfl
  refine one_ (i := 5) (N := some 28) #[true, true, true, true, true, true, false] rfl rfl (by kernel_rfl) (by decide) (fun K hK => ?_)
  refine Kd.R_append_step k35 (w0 := w0) w0.heap.size (by rfl) (.tmp 23) (.tmp 27) 22 35 (.agg #[.int .u32 0, .int .u64 0]) 16 rfl Try.underlying22 infoDot rfl (by decide) (by omega) (.slice A xs.length c) xs y [.int .u32 y.f0, .int .u64 y.f1] (fun _ => True) (fun _ => False) rfl rfl ?aP (fun _ hk => hk.elim) ?aF ?aO ?aB ?aS ?aL ?_
  (case aP => exact k35_mkM _ _ _ _)
  (case aB => exact HB1.out)
  (case aF => exact (fun _ _ => trivial))
  (case aO => exact HO1.out)
  (case aS => exact (below_size HB1.out))
  (case aL => omega)
  intro v3 w3 ho3 hb3 hg3 hat3
  rw [← HYS.out] at ho3
  obtain ⟨A3, c3, e3⟩ := Kd.R_slice ho3
  subst e3
  have BK4 := blk_grown BK1.out hg3 (Kd.R_ne HO1.out BK1.out (by decide))
  have cl3 : w3.cell? ⟨g, 0, none⟩ = some (.slice A xs.length c) := (blk_cell BK4 0).trans rfl
  have fr3 := blk_frozen BK4 0
  have cx0 := (hb3.cell (p := ⟨by_, oy, none⟩) hby).trans HY0.out
  have cx1 := (hb3.cell (p := ⟨by_, oy + 1, none⟩) hby).trans HY1.out
  refine hK.out _ _ (⟨cl3, cx0, cx1⟩) (fun hHeld => ?_)
  clear hK K
  refine norm_ (a' := ?_) ?_ ?_
  rotate_left
  · show Act.put _ (some 28) _ = _
    simp only [Act.put, List.setIfInBounds_toArray, List.set_cons_zero, List.set_cons_succ, i64_w, i32_w]
    rfl
  refine last_ (i := 6) (N := none) #[true, true, true, true, true, true, true] rfl rfl (by kernel_rfl) (by decide) (fun K hK => ?_)
  refine skip_ (w1 := ?_) (by rfl) rfl ?_ ?_
  rotate_left
  · go_simp
    rfl
  refine hK.out _ _ ?_
  clear hK K
  refine done_ (by kernel_rfl) ?_
  try go_wp2
  go_end0
  exact ⟨rfl, ⟨_, hg0, blk_set BK4 0 _, by rw [← HYS.out]; exact Kd.R_set ho3 BK4 (by simp [k35, Kd.iso, Kd.pair, Kd.int, Kd.scalar]) 0 _⟩, below_set hb3 hg0⟩
theorem mxC {w0 w : World} (g : Nat) (v : Value) (xs : List Dt) (HB0 : Below w0.heap.size w0 w) (h : LS w w0.heap.size g v xs) (hl : (xs.length + 1) * 16 ≤ 140737488355328) (bx ox : Nat) (x : Dt) (hx : DA w0 bx ox x) (hbx : bx < w0.heap.size) (by_ oy : Nat) (y : Dt) (hy : DA w0 by_ oy y) (hby : by_ < w0.heap.size) (hxy : x.f1 < y.f1) :
    Calls Try.prog 52 #[.pointer (some ⟨bx, ox, none⟩), .pointer (some ⟨by_, oy, none⟩), .pointer (some ⟨g, 0, none⟩)] w fun e w' => e = .returned (.tuple #[]) ∧ (∃ v', LS w' w0.heap.size g v' (xs ++ [y])) ∧ Below w0.heap.size w0 w' := by
  obtain ⟨hg0, hblk, hR⟩ := h
  have HB := Aside0.mk HB0
  have HO := Aside0.mk hR
  have BK := Aside0.mk hblk
  have hx0 := (HB0.cell (p := ⟨bx, ox, none⟩) hbx).trans hx.1
  have hx1 := (HB0.cell (p := ⟨bx, ox + 1, none⟩) hbx).trans hx.2
  have HX0 := Aside0.mk hx.1
  have HX1 := Aside0.mk hx.2
  clear hx
  have hy0 := (HB0.cell (p := ⟨by_, oy, none⟩) hby).trans hy.1
  have hy1 := (HB0.cell (p := ⟨by_, oy + 1, none⟩) hby).trans hy.2
  have HY0 := Aside0.mk hy.1
  have HY1 := Aside0.mk hy.2
  clear hy
  have hc0 : w.cell? ⟨g, 0, none⟩ = some v := (blk_cell hblk 0).trans rfl
  obtain ⟨A, c, ev⟩ := Kd.R_slice hR
  subst ev
  clear hblk hR HB0
  go_enter Try.func52, Try.ntmps52
  go_wp2_with fail
  go_quiet (fail)
  go_wp2_with fail
  obtain ⟨ys, hys⟩ : ∃ ys, ys = xs ++ [y] := ⟨_, rfl⟩
  have HYS := Aside0.mk hys
  clear hys
  refine start_ (n := 7) (S := fun w' => w'.cell? ⟨g, 0, none⟩ = some (.slice A xs.length c) ∧ w'.cell? ⟨by_, oy, none⟩ = some (.int .u32 y.f0) ∧ w'.cell? ⟨by_, oy + 1, none⟩ = some (.int .u64 y.f1)) (ds := [6]) #[false, false, false, false, false, false, false] (by kernel_rfl) rfl rfl (⟨hc0, hy0, hy1⟩) (fun hHeld => ?_)
  have HB1 : Aside0 (Below w0.heap.size w0 (w.drewN nq).drew) := ⟨below_drew1 (pw_below_drewN HB.out nq)⟩
  have HO1 : Aside0 (Kd.R k35 35 (w.drewN nq).drew w0.heap.size (fun _ => True) (.slice A xs.length c) xs) := ⟨Kd.R_drew (Kd.R_drewN HO.out nq)⟩
  have BK1 : Aside0 ((w.drewN nq).drew.heap[g]? = some (.cells #[.slice A xs.length c] 22 (0, 0))) := ⟨BK.out⟩
  generalize (w.drewN nq).drew = w2 at HB1 HO1 BK1 hHeld ⊢
  refine take_ (i := 0) (N := some 23) (v := ?_) (a' := ?_) #[true, false, false, false, false, false, false] rfl rfl (by kernel_rfl) (fun _ _ _ h => h) (Or.inl ⟨by rfl, ?_⟩) hHeld ?_ ?_
  rotate_left
  · intro w' hS
    go_simp
    with_reducible rfl
  rotate_left
  · simp only [Act.put, List.setIfInBounds_toArray, List.set_cons_zero, List.set_cons_succ, i64_w, i32_w]
    rfl
  refine pure_ (i := 1) (N := some 24) (v := ?_) (a' := ?_) #[true, true, false, false, false, false, false] rfl rfl (by kernel_rfl) (fun _ _ _ h => h) (Or.inl ⟨by rfl, ?_⟩) ?_ ?_
  rotate_left
  · intro w'
    go_simp
    with_reducible rfl
  rotate_left
  · simp only [Act.put, List.setIfInBounds_toArray, List.set_cons_zero, List.set_cons_succ, i64_w, i32_w]
    rfl
  refine pure_ (i := 2) (N := some 25) (v := ?_) (a' := ?_) #[true, true, true, false, false, false, false] rfl rfl (by kernel_rfl) (fun _ _ _ h => h) (Or.inl ⟨by rfl, ?_⟩) ?_ ?_
  rotate_left
  · intro w'
    go_simp
    with_reducible rfl
  rotate_left
  · simp only [Act.put, List.setIfInBounds_toArray, List.set_cons_zero, List.set_cons_succ, i64_w, i32_w]
    rfl
  refine take_ (i := 3) (N := some 26) (v := ?_) (a' := ?_) #[true, true, true, true, false, false, false] rfl rfl (by kernel_rfl) (fun _ _ _ h => h) (Or.inl ⟨by rfl, ?_⟩) hHeld ?_ ?_
  rotate_left
  · intro w' hS
    go_simp
    with_reducible rfl
  rotate_left
  · simp only [Act.put, List.setIfInBounds_toArray, List.set_cons_zero, List.set_cons_succ, i64_w, i32_w]
    rfl
  refine one_ (i := 4) (N := some 27) #[true, true, true, true, true, false, false] rfl rfl (by kernel_rfl) (by decide) (fun K hK => ?_)
  refine value_ (w1 := ?_) (v := ?_) (by rfl) rfl ?_ ?_
  rotate_left 2
  · go_simp
    constructor
    · rfl
    · rfl
  refine hK.out _ _ (⟨(World.cell?_alloc_lt _ _ _ (World.block_lt_of_cell? _ _ hHeld.1)).trans hHeld.1, (World.cell?_alloc_lt _ _ _ (World.block_lt_of_cell? _ _ hHeld.2.1)).trans hHeld.2.1, (World.cell?_alloc_lt _ _ _ (World.block_lt_of_cell? _ _ hHeld.2.2)).trans hHeld.2.2⟩) (fun hHeld => ?_)
  clear hK K
  refine norm_ (a' := ?_) ?_ ?_
  rotate_left
  · show Act.put _ (some 27) _ = _
    simp only [Act.put, List.setIfInBounds_toArray, List.set_cons_zero, List.set_cons_succ, i64_w, i32_w]
    rfl
  refine one_ (i := 5) (N := some 28) #[true, true, true, true, true, true, false] rfl rfl (by kernel_rfl) (by decide) (fun K hK => ?_)
  refine Kd.R_append_step k35 (w0 := w0) w0.heap.size (by rfl) (.tmp 23) (.tmp 27) 22 35 (.agg #[.int .u32 0, .int .u64 0]) 16 rfl Try.underlying22 infoDot rfl (by decide) (by omega) (.slice A xs.length c) xs y [.int .u32 y.f0, .int .u64 y.f1] (fun _ => True) (fun _ => False) rfl rfl ?aP (fun _ hk => hk.elim) ?aF ?aO ?aB ?aS ?aL ?_
  (case aP => exact k35_mkM _ _ _ _)
  (case aB => exact HB1.out)
  (case aF => exact (fun _ _ => trivial))
  (case aO => exact HO1.out)
  (case aS => exact (below_size HB1.out))
  (case aL => omega)
  intro v3 w3 ho3 hb3 hg3 hat3
  rw [← HYS.out] at ho3
  obtain ⟨A3, c3, e3⟩ := Kd.R_slice ho3
  subst e3
  have BK4 := blk_grown BK1.out hg3 (Kd.R_ne HO1.out BK1.out (by decide))
  have cl3 : w3.cell? ⟨g, 0, none⟩ = some (.slice A xs.length c) := (blk_cell BK4 0).trans rfl
  have fr3 := blk_frozen BK4 0
  have cx0 := (hb3.cell (p := ⟨by_, oy, none⟩) hby).trans HY0.out
  have cx1 := (hb3.cell (p := ⟨by_, oy + 1, none⟩) hby).trans HY1.out
  refine hK.out _ _ (⟨cl3, cx0, cx1⟩) (fun hHeld => ?_)
  clear hK K
  refine norm_ (a' := ?_) ?_ ?_
  rotate_left
  · show Act.put _ (some 28) _ = _
    simp only [Act.put, List.setIfInBounds_toArray, List.set_cons_zero, List.set_cons_succ, i64_w, i32_w]
    rfl
  refine last_ (i := 6) (N := none) #[true, true, true, true, true, true, true] rfl rfl (by kernel_rfl) (by decide) (fun K hK => ?_)
  refine skip_ (w1 := ?_) (by rfl) rfl ?_ ?_
  rotate_left
  · go_simp
    rfl
  refine hK.out _ _ ?_
  clear hK K
  refine done_ (by kernel_rfl) ?_
  try go_wp2
  go_end0
  exact ⟨rfl, ⟨_, hg0, blk_set BK4 0 _, by rw [← HYS.out]; exact Kd.R_set ho3 BK4 (by simp [k35, Kd.iso, Kd.pair, Kd.int, Kd.scalar]) 0 _⟩, below_set hb3 hg0⟩
theorem mxD {w0 w : World} (g : Nat) (v : Value) (xs : List Dt) (HB0 : Below w0.heap.size w0 w) (h : LS w w0.heap.size g v xs) (hl : (xs.length + 1) * 16 ≤ 140737488355328) (bx ox : Nat) (x : Dt) (hx : DA w0 bx ox x) (hbx : bx < w0.heap.size) (by_ oy : Nat) (y : Dt) (hy : DA w0 by_ oy y) (hby : by_ < w0.heap.size) (hxy : ¬ x.f1 < y.f1) :
    Calls Try.prog 52 #[.pointer (some ⟨bx, ox, none⟩), .pointer (some ⟨by_, oy, none⟩), .pointer (some ⟨g, 0, none⟩)] w fun e w' => e = .returned (.tuple #[]) ∧ (∃ v', LS w' w0.heap.size g v' (xs ++ [x])) ∧ Below w0.heap.size w0 w' := by
  obtain ⟨hg0, hblk, hR⟩ := h
  have HB := Aside0.mk HB0
  have HO := Aside0.mk hR
  have BK := Aside0.mk hblk
  have hx0 := (HB0.cell (p := ⟨bx, ox, none⟩) hbx).trans hx.1
  have hx1 := (HB0.cell (p := ⟨bx, ox + 1, none⟩) hbx).trans hx.2
  have HX0 := Aside0.mk hx.1
  have HX1 := Aside0.mk hx.2
  clear hx
  have hy0 := (HB0.cell (p := ⟨by_, oy, none⟩) hby).trans hy.1
  have hy1 := (HB0.cell (p := ⟨by_, oy + 1, none⟩) hby).trans hy.2
  have HY0 := Aside0.mk hy.1
  have HY1 := Aside0.mk hy.2
  clear hy
  have hc0 : w.cell? ⟨g, 0, none⟩ = some v := (blk_cell hblk 0).trans rfl
  obtain ⟨A, c, ev⟩ := Kd.R_slice hR
  subst ev
  clear hblk hR HB0
  go_enter Try.func52, Try.ntmps52
  go_wp2_with fail
  go_quiet (fail)
  go_wp2_with fail
  obtain ⟨ys, hys⟩ : ∃ ys, ys = xs ++ [x] := ⟨_, rfl⟩
  have HYS := Aside0.mk hys
  clear hys
  refine start_ (n := 7) (S := fun w' => w'.cell? ⟨g, 0, none⟩ = some (.slice A xs.length c) ∧ w'.cell? ⟨bx, ox, none⟩ = some (.int .u32 x.f0) ∧ w'.cell? ⟨bx, ox + 1, none⟩ = some (.int .u64 x.f1)) (ds := [6]) #[false, false, false, false, false, false, false] (by kernel_rfl) rfl rfl (⟨hc0, hx0, hx1⟩) (fun hHeld => ?_)
  have HB1 : Aside0 (Below w0.heap.size w0 (w.drewN nq).drew) := ⟨below_drew1 (pw_below_drewN HB.out nq)⟩
  have HO1 : Aside0 (Kd.R k35 35 (w.drewN nq).drew w0.heap.size (fun _ => True) (.slice A xs.length c) xs) := ⟨Kd.R_drew (Kd.R_drewN HO.out nq)⟩
  have BK1 : Aside0 ((w.drewN nq).drew.heap[g]? = some (.cells #[.slice A xs.length c] 22 (0, 0))) := ⟨BK.out⟩
  generalize (w.drewN nq).drew = w2 at HB1 HO1 BK1 hHeld ⊢
  refine take_ (i := 0) (N := some 23) (v := ?_) (a' := ?_) #[true, false, false, false, false, false, false] rfl rfl (by kernel_rfl) (fun _ _ _ h => h) (Or.inl ⟨by rfl, ?_⟩) hHeld ?_ ?_
  rotate_left
  · intro w' hS
    go_simp
    with_reducible rfl
  rotate_left
  · simp only [Act.put, List.setIfInBounds_toArray, List.set_cons_zero, List.set_cons_succ, i64_w, i32_w]
    rfl
  refine pure_ (i := 1) (N := some 24) (v := ?_) (a' := ?_) #[true, true, false, false, false, false, false] rfl rfl (by kernel_rfl) (fun _ _ _ h => h) (Or.inl ⟨by rfl, ?_⟩) ?_ ?_
  rotate_left
  · intro w'
    go_simp
    with_reducible rfl
  rotate_left
  · simp only [Act.put, List.setIfInBounds_toArray, List.set_cons_zero, List.set_cons_succ, i64_w, i32_w]
    rfl
  refine pure_ (i := 2) (N := some 25) (v := ?_) (a' := ?_) #[true, true, true, false, false, false, false] rfl rfl (by kernel_rfl) (fun _ _ _ h => h) (Or.inl ⟨by rfl, ?_⟩) ?_ ?_
  rotate_left
  · intro w'
    go_simp
    with_reducible rfl
  rotate_left
  · simp only [Act.put, List.setIfInBounds_toArray, List.set_cons_zero, List.set_cons_succ, i64_w, i32_w]
    rfl
  refine take_ (i := 3) (N := some 26) (v := ?_) (a' := ?_) #[true, true, true, true, false, false, false] rfl rfl (by kernel_rfl) (fun _ _ _ h => h) (Or.inl ⟨by rfl, ?_⟩) hHeld ?_ ?_
  rotate_left
  · intro w' hS
    go_simp
    with_reducible rfl
  rotate_left
  · simp only [Act.put, List.setIfInBounds_toArray, List.set_cons_zero, List.set_cons_succ, i64_w, i32_w]
    rfl
  refine one_ (i := 4) (N := some 27) #[true, true, true, true, true, false, false] rfl rfl (by kernel_rfl) (by decide) (fun K hK => ?_)
  refine value_ (w1 := ?_) (v := ?_) (by rfl) rfl ?_ ?_
  rotate_left 2
  · go_simp
    constructor
    · rfl
    · rfl
  refine hK.out _ _ (⟨(World.cell?_alloc_lt _ _ _ (World.block_lt_of_cell? _ _ hHeld.1)).trans hHeld.1, (World.cell?_alloc_lt _ _ _ (World.block_lt_of_cell? _ _ hHeld.2.1)).trans hHeld.2.1, (World.cell?_alloc_lt _ _ _ (World.block_lt_of_cell? _ _ hHeld.2.2)).trans hHeld.2.2⟩) (fun hHeld => ?_)
  clear hK K
  refine norm_ (a' := ?_) ?_ ?_
  rotate_left
  · show Act.put _ (some 27) _ = _
    simp only [Act.put, List.setIfInBounds_toArray, List.set_cons_zero, List.set_cons_succ, i64_w, i32_w]
    rfl
  refine one_ (i := 5) (N := some 28) #[true, true, true, true, true, true, false] rfl rfl (by kernel_rfl) (by decide) (fun K hK => ?_)
  refine Kd.R_append_step k35 (w0 := w0) w0.heap.size (by rfl) (.tmp 23) (.tmp 27) 22 35 (.agg #[.int .u32 0, .int .u64 0]) 16 rfl Try.underlying22 infoDot rfl (by decide) (by omega) (.slice A xs.length c) xs x [.int .u32 x.f0, .int .u64 x.f1] (fun _ => True) (fun _ => False) rfl rfl ?aP (fun _ hk => hk.elim) ?aF ?aO ?aB ?aS ?aL ?_
  (case aP => exact k35_mkM _ _ _ _)
  (case aB => exact HB1.out)
  (case aF => exact (fun _ _ => trivial))
  (case aO => exact HO1.out)
  (case aS => exact (below_size HB1.out))
  (case aL => omega)
  intro v3 w3 ho3 hb3 hg3 hat3
  rw [← HYS.out] at ho3
  obtain ⟨A3, c3, e3⟩ := Kd.R_slice ho3
  subst e3
  have BK4 := blk_grown BK1.out hg3 (Kd.R_ne HO1.out BK1.out (by decide))
  have cl3 : w3.cell? ⟨g, 0, none⟩ = some (.slice A xs.length c) := (blk_cell BK4 0).trans rfl
  have fr3 := blk_frozen BK4 0
  have cx0 := (hb3.cell (p := ⟨bx, ox, none⟩) hbx).trans HX0.out
  have cx1 := (hb3.cell (p := ⟨bx, ox + 1, none⟩) hbx).trans HX1.out
  refine hK.out _ _ (⟨cl3, cx0, cx1⟩) (fun hHeld => ?_)
  clear hK K
  refine norm_ (a' := ?_) ?_ ?_
  rotate_left
  · show Act.put _ (some 28) _ = _
    simp only [Act.put, List.setIfInBounds_toArray, List.set_cons_zero, List.set_cons_succ, i64_w, i32_w]
    rfl
  refine last_ (i := 6) (N := none) #[true, true, true, true, true, true, true] rfl rfl (by kernel_rfl) (by decide) (fun K hK => ?_)
  refine skip_ (w1 := ?_) (by rfl) rfl ?_ ?_
  rotate_left
  · go_simp
    rfl
  refine hK.out _ _ ?_
  clear hK K
  refine done_ (by kernel_rfl) ?_
  try go_wp2
  go_end0
  exact ⟨rfl, ⟨_, hg0, blk_set BK4 0 _, by rw [← HYS.out]; exact Kd.R_set ho3 BK4 (by simp [k35, Kd.iso, Kd.pair, Kd.int, Kd.scalar]) 0 _⟩, below_set hb3 hg0⟩
end Go.Proofs.Ytgcmmiihjiiemaa.My
