/- asks. -/
import Derived.Test.YtgcmmiihjiiemaaVecAsksP
namespace Go.Proofs.Ytgcmmiihjiiemaa.My
open Go.RowKit Go.Proofs.YtgcmmiihjiiemaaW.PrintWords Go.Proofs.YtgcmmiihjiiemaaW.PrintLast Go.Proofs.YtgcmmiihjiiemaaW.PrintMore Go.Proofs.Ytgcmmiihjiiemaa Go.Proofs.Ytgcmmiihjiiemaa.PVectorMax Go.Proofs.Ytgcmmiihjiiemaa.PA
set_option linter.unusedSimpArgs false
set_option linter.unusedVariables false
set_option maxRecDepth 100000
set_option maxHeartbeats 3200000
attribute [local go_sem high] eqA35
theorem asks_go (w : World) (X : Option Addr) (cx : Nat) (Y : Option Addr) (cy : Nat) (A : Option Addr) (ca : Nat) (B : Option Addr) (cb : Nat) (a b : List Dt) (d0 d1 : Int) (hX : Kd.C kD w X a.length a) (hcx : a.length ≤ cx) (hY : Kd.C kD w Y b.length b) (hcy : b.length ≤ cy) (hA : Kd.C kD w A a.length a) (hca : a.length ≤ ca) (hB : Kd.C kD w B b.length b) (hcb : b.length ≤ cb) (oa : okD a = true) (ob : okD b = true) :
    Calls Try.prog 37 #[.slice X a.length cx, .slice Y b.length cy, .slice A a.length ca, .slice B b.length cb, .agg #[.int .u32 d0, .int .u64 d1]] w fun e w' => e = .returned (.bool true) ∧ Below w.heap.size w w' := by
  have hW : Below w.heap.size w w := Below.refl _ _
  obtain ⟨⟨p1, p2, p3⟩, hp⟩ : ∃ p, p = nextV a d0 := ⟨_, rfl⟩
  have f1 := rnext_f oa d0 (a.length + 1) (Nat.le_refl _)
  have f2 := vnext_f oa d0 (a.length + 1) (Nat.le_refl _)
  rw [← hp] at f1 f2
  obtain ⟨⟨q1, q2⟩, hq⟩ : ∃ q, q = ownEnc a := ⟨_, rfl⟩
  have g1 := renc_f oa (a.length + 40) (Nat.le_refl _)
  have g2 := venc_f oa
  rw [← hq] at g1 g2
  clear hp hq
  have v1 := vvalid_f oa (a.length + 1) (Nat.le_refl _)
  have v2 := rvalid_f oa (a.length + 1) (Nat.le_refl _)
  generalize validB a = va at v1 v2
  have n1 := vcount_f oa d0
  have n2 := rcount_f oa d0 (a.length + 1) (Nat.le_refl _)
  generalize ownCount a d0 = vn at n1 n2
  have k1 := vcov_f oa d0 d1
  have k2 := rcov_f oa d0 d1 (a.length + 1) (Nat.le_refl _)
  generalize covV a d0 d1 = vc at k1 k2
  have e1 := vbel_f oa ob
  have e2 := rbel_f oa ob (a.length + b.length + 4) (Nat.le_refl _)
  have e3 := vbel_f ob oa
  have e4 := rbel_f ob oa (a.length + b.length + 4) (by omega)
  have e5 := vcmp_f oa ob 1 (Nat.le_refl _)
  have e6 := rcmp_f oa ob (a.length + b.length + 4) (Nat.le_refl _)
  have e7 := vcmp_f ob oa 1 (Nat.le_refl _)
  have e8 := rcmp_f ob oa (a.length + b.length + 4) (by omega)
  generalize ownBelow a b = b1 at e1 e2
  generalize ownBelow b a = b2 at e3 e4
  generalize cmpV a b = x1 at e5 e6
  generalize cmpV b a = x2 at e7 e8
  go_enter Try.func37, Try.ntmps37
  go_wp2_with (first | ((with_reducible refine gate_dst (N := 9) rfl ?_); refine box_event ?hg (N := 9) ?hd (cs := #[.int .u32 d0, .int .u64 d1]) (t := 35) ?hr ?_; (case hd => rfl); (case hg => rfl); (case hr => first | (go_simp; done) | (go_simp; rfl)); intro gd hg_ w1 hD hb1; clear hg_; replace hX := Kd.C_below hX hb1; replace hY := Kd.C_below hY hb1; replace hA := Kd.C_below hA hb1; replace hB := Kd.C_below hB hb1; replace hW := below_then hW (below_size hW) hb1; clear hb1; have cD0 := (blk_cell hD 0).trans (rfl : _ = some (Value.int .u32 d0)); have cD1 := (blk_cell hD 1).trans (rfl : _ = some (Value.int .u64 d1))))
  refine (concordref10_Next.calls _ A ca a d0 p1 p2 p3 _ hA hca f1).mono ?_
  rintro e_ w2 ⟨rfl, hb2⟩
  clear cD0 cD1
  replace hX := Kd.C_below hX hb2
  replace hY := Kd.C_below hY hb2
  replace hA := Kd.C_below hA hb2
  replace hB := Kd.C_below hB hb2
  replace hD := blk_below hD hb2
  replace hW := below_then hW (below_size hW) hb2
  clear hb2
  have cD0 := (blk_cell hD 0).trans (rfl : _ = some (Value.int .u32 d0))
  have cD1 := (blk_cell hD 1).trans (rfl : _ = some (Value.int .u64 d1))
  go_upto_region 2 with (fail)
  have hN : (w2.alloc (.cells #[.int .u32 p1, .int .u64 p2] 35)).heap[w2.heap.size]? = some (.cells #[.int .u32 p1, .int .u64 p2] 35 (0, 0)) := blk_new w2 _
  have hb3 : Below w2.heap.size w2 (w2.alloc (.cells #[.int .u32 p1, .int .u64 p2] 35)) := (Below.refl _ _).alloc (Nat.le_refl _) _
  clear cD0 cD1
  replace hX := Kd.C_below hX hb3
  replace hY := Kd.C_below hY hb3
  replace hA := Kd.C_below hA hb3
  replace hB := Kd.C_below hB hb3
  replace hD := blk_below hD hb3
  replace hW := below_then hW (below_size hW) hb3
  clear hb3
  generalize w2.alloc (.cells #[.int .u32 p1, .int .u64 p2] 35) = w3 at hX hY hA hB hW hD hN ⊢
  generalize w2.heap.size = gn at hN ⊢
  have cD0 := (blk_cell hD 0).trans (rfl : _ = some (Value.int .u32 d0))
  have cD1 := (blk_cell hD 1).trans (rfl : _ = some (Value.int .u64 d1))
  have cN0 := (blk_cell hN 0).trans (rfl : _ = some (Value.int .u32 p1))
  have cN1 := (blk_cell hN 1).trans (rfl : _ = some (Value.int .u64 p2))
  go_wp2_with fail
  refine (vector_Next.calls _ X cx a d0 p1 p2 p3 _ hX hcx f2).mono ?_
  rintro e_ w4 ⟨rfl, hb4⟩
  clear cD0 cD1 cN0 cN1
  replace hX := Kd.C_below hX hb4
  replace hY := Kd.C_below hY hb4
  replace hA := Kd.C_below hA hb4
  replace hB := Kd.C_below hB hb4
  replace hD := blk_below hD hb4
  replace hN := blk_below hN hb4
  replace hW := below_then hW (below_size hW) hb4
  clear hb4
  have cD0 := (blk_cell hD 0).trans (rfl : _ = some (Value.int .u32 d0))
  have cD1 := (blk_cell hD 1).trans (rfl : _ = some (Value.int .u64 d1))
  have cN0 := (blk_cell hN 0).trans (rfl : _ = some (Value.int .u32 p1))
  have cN1 := (blk_cell hN 1).trans (rfl : _ = some (Value.int .u64 p2))
  go_upto_region 3 with (fail)
  have hM : (w4.alloc (.cells #[.int .u32 p1, .int .u64 p2] 35)).heap[w4.heap.size]? = some (.cells #[.int .u32 p1, .int .u64 p2] 35 (0, 0)) := blk_new w4 _
  have hb5 : Below w4.heap.size w4 (w4.alloc (.cells #[.int .u32 p1, .int .u64 p2] 35)) := (Below.refl _ _).alloc (Nat.le_refl _) _
  clear cD0 cD1 cN0 cN1
  replace hX := Kd.C_below hX hb5
  replace hY := Kd.C_below hY hb5
  replace hA := Kd.C_below hA hb5
  replace hB := Kd.C_below hB hb5
  replace hD := blk_below hD hb5
  replace hN := blk_below hN hb5
  replace hW := below_then hW (below_size hW) hb5
  clear hb5
  generalize w4.alloc (.cells #[.int .u32 p1, .int .u64 p2] 35) = w5 at hX hY hA hB hW hD hN hM ⊢
  generalize w4.heap.size = gm at hM ⊢
  have cD0 := (blk_cell hD 0).trans (rfl : _ = some (Value.int .u32 d0))
  have cD1 := (blk_cell hD 1).trans (rfl : _ = some (Value.int .u64 d1))
  have cN0 := (blk_cell hN 0).trans (rfl : _ = some (Value.int .u32 p1))
  have cN1 := (blk_cell hN 1).trans (rfl : _ = some (Value.int .u64 p2))
  have cM0 := (blk_cell hM 0).trans (rfl : _ = some (Value.int .u32 p1))
  have cM1 := (blk_cell hM 1).trans (rfl : _ = some (Value.int .u64 p2))
  refine start_ (n := 35) (S := fun w' => w'.cell? ⟨gd, 0, none⟩ = some (.int .u32 d0) ∧ w'.cell? ⟨gd, 1, none⟩ = some (.int .u64 d1) ∧ w'.cell? ⟨gn, 0, none⟩ = some (.int .u32 p1) ∧ w'.cell? ⟨gn, 1, none⟩ = some (.int .u64 p2) ∧ w'.cell? ⟨gm, 0, none⟩ = some (.int .u32 p1) ∧ w'.cell? ⟨gm, 1, none⟩ = some (.int .u64 p2)) (ds := []) #[false, false, false, false, false, false, false, false, false, false, false, false, false, false, false, false, false, false, false, false, false, false, false, false, false, false, false, false, false, false, false, false, false, false, false] (by kernel_rfl) rfl rfl (⟨cD0, cD1, cN0, cN1, cM0, cM1⟩) (fun hHeld => ?_)
  have hb6 : Below w5.heap.size w5 w5.drew := below_drew (Below.refl _ _)
  clear cD0 cD1 cN0 cN1 cM0 cM1
  replace hX := Kd.C_below hX hb6
  replace hY := Kd.C_below hY hb6
  replace hA := Kd.C_below hA hb6
  replace hB := Kd.C_below hB hb6
  replace hD := blk_below hD hb6
  replace hN := blk_below hN hb6
  replace hM := blk_below hM hb6
  replace hW := below_then hW (below_size hW) hb6
  clear hb6
  generalize w5.drew = w6 at hHeld hX hY hA hB hW hD hN hM ⊢
  refine take_ (i := 0) (N := some 33) (v := ?_) (a' := ?_) #[true, false, false, false, false, false, false, false, false, false, false, false, false, false, false, false, false, false, false, false, false, false, false, false, false, false, false, false, false, false, false, false, false, false, false] rfl rfl (by kernel_rfl) (fun _ _ _ h => h) (Or.inl ⟨by rfl, ?_⟩) hHeld ?_ ?_
  rotate_left
  · intro w' hS
    go_simp
    with_reducible rfl
  rotate_left
  · simp only [Act.put, List.setIfInBounds_toArray, List.set_cons_zero, List.set_cons_succ, i64_w, i32_w]
    rfl
  refine take_ (i := 1) (N := some 34) (v := ?_) (a' := ?_) #[true, true, false, false, false, false, false, false, false, false, false, false, false, false, false, false, false, false, false, false, false, false, false, false, false, false, false, false, false, false, false, false, false, false, false] rfl rfl (by kernel_rfl) (fun _ _ _ h => h) (Or.inl ⟨by rfl, ?_⟩) hHeld ?_ ?_
  rotate_left
  · intro w' hS
    go_simp
    with_reducible rfl
  rotate_left
  · simp only [Act.put, List.setIfInBounds_toArray, List.set_cons_zero, List.set_cons_succ, i64_w, i32_w]
    rfl
  refine pure_ (i := 2) (N := some 35) (v := ?_) (a' := ?_) #[true, true, true, false, false, false, false, false, false, false, false, false, false, false, false, false, false, false, false, false, false, false, false, false, false, false, false, false, false, false, false, false, false, false, false] rfl rfl (by kernel_rfl) (fun _ _ _ h => h) (Or.inl ⟨by rfl, ?_⟩) ?_ ?_
  rotate_left
  · intro w'
    go_simp
    with_reducible rfl
  rotate_left
  · simp only [Act.put, List.setIfInBounds_toArray, List.set_cons_zero, List.set_cons_succ, i64_w, i32_w]
    rfl
  refine pure_ (i := 3) (N := some 36) (v := ?_) (a' := ?_) #[true, true, true, true, false, false, false, false, false, false, false, false, false, false, false, false, false, false, false, false, false, false, false, false, false, false, false, false, false, false, false, false, false, false, false] rfl rfl (by kernel_rfl) (fun _ _ _ h => h) (Or.inl ⟨by rfl, ?_⟩) ?_ ?_
  rotate_left
  · intro w'
    go_simp
    with_reducible rfl
  rotate_left
  · simp only [Act.put, List.setIfInBounds_toArray, List.set_cons_zero, List.set_cons_succ, i64_w, i32_w]
    rfl
  refine pure_ (i := 4) (N := some 37) (v := ?_) (a' := ?_) #[true, true, true, true, true, false, false, false, false, false, false, false, false, false, false, false, false, false, false, false, false, false, false, false, false, false, false, false, false, false, false, false, false, false, false] rfl rfl (by kernel_rfl) (fun _ _ _ h => h) (Or.inl ⟨by rfl, ?_⟩) ?_ ?_
  rotate_left
  · intro w'
    go_simp
    with_reducible rfl
  rotate_left
  · simp only [Act.put, List.setIfInBounds_toArray, List.set_cons_zero, List.set_cons_succ, i64_w, i32_w]
    rfl
  refine pure_ (i := 5) (N := some 38) (v := ?_) (a' := ?_) #[true, true, true, true, true, true, false, false, false, false, false, false, false, false, false, false, false, false, false, false, false, false, false, false, false, false, false, false, false, false, false, false, false, false, false] rfl rfl (by kernel_rfl) (fun _ _ _ h => h) (Or.inl ⟨by rfl, ?_⟩) ?_ ?_
  rotate_left
  · intro w'
    go_simp
    with_reducible rfl
  rotate_left
  · simp only [Act.put, List.setIfInBounds_toArray, List.set_cons_zero, List.set_cons_succ, i64_w, i32_w]
    rfl
  refine pure_ (i := 6) (N := some 39) (v := ?_) (a' := ?_) #[true, true, true, true, true, true, true, false, false, false, false, false, false, false, false, false, false, false, false, false, false, false, false, false, false, false, false, false, false, false, false, false, false, false, false] rfl rfl (by kernel_rfl) (fun _ _ _ h => h) (Or.inl ⟨by rfl, ?_⟩) ?_ ?_
  rotate_left
  · intro w'
    go_simp
    with_reducible rfl
  rotate_left
  · simp only [Act.put, List.setIfInBounds_toArray, List.set_cons_zero, List.set_cons_succ, i64_w, i32_w]
    rfl
  refine pure_ (i := 7) (N := some 40) (v := ?_) (a' := ?_) #[true, true, true, true, true, true, true, true, false, false, false, false, false, false, false, false, false, false, false, false, false, false, false, false, false, false, false, false, false, false, false, false, false, false, false] rfl rfl (by kernel_rfl) (fun _ _ _ h => h) (Or.inl ⟨by rfl, ?_⟩) ?_ ?_
  rotate_left
  · intro w'
    go_simp
    with_reducible rfl
  rotate_left
  · simp only [Act.put, List.setIfInBounds_toArray, List.set_cons_zero, List.set_cons_succ, i64_w, i32_w]
    rfl
  refine pure_ (i := 8) (N := some 41) (v := ?_) (a' := ?_) #[true, true, true, true, true, true, true, true, true, false, false, false, false, false, false, false, false, false, false, false, false, false, false, false, false, false, false, false, false, false, false, false, false, false, false] rfl rfl (by kernel_rfl) (fun _ _ _ h => h) (Or.inl ⟨by rfl, ?_⟩) ?_ ?_
  rotate_left
  · intro w'
    go_simp
    with_reducible rfl
  rotate_left
  · simp only [Act.put, List.setIfInBounds_toArray, List.set_cons_zero, List.set_cons_succ, i64_w, i32_w]
    rfl
  refine pure_ (i := 9) (N := some 42) (v := ?_) (a' := ?_) #[true, true, true, true, true, true, true, true, true, true, false, false, false, false, false, false, false, false, false, false, false, false, false, false, false, false, false, false, false, false, false, false, false, false, false] rfl rfl (by kernel_rfl) (fun _ _ _ h => h) (Or.inl ⟨by rfl, ?_⟩) ?_ ?_
  rotate_left
  · intro w'
    go_simp
    with_reducible rfl
  rotate_left
  · simp only [Act.put, List.setIfInBounds_toArray, List.set_cons_zero, List.set_cons_succ, i64_w, i32_w]
    rfl
  refine pure_ (i := 11) (N := some 44) (v := ?_) (a' := ?_) #[true, true, true, true, true, true, true, true, true, true, false, true, false, false, false, false, false, false, false, false, false, false, false, false, false, false, false, false, false, false, false, false, false, false, false] rfl rfl (by kernel_rfl) (fun _ _ _ h => h) (Or.inl ⟨by rfl, ?_⟩) ?_ ?_
  rotate_left
  · intro w'
    go_simp
    with_reducible rfl
  rotate_left
  · simp only [Act.put, List.setIfInBounds_toArray, List.set_cons_zero, List.set_cons_succ, i64_w, i32_w]
    rfl
  refine one_ (i := 10) (N := some 43) #[true, true, true, true, true, true, true, true, true, true, true, true, false, false, false, false, false, false, false, false, false, false, false, false, false, false, false, false, false, false, false, false, false, false, false] rfl rfl (by kernel_rfl) (by decide) (fun K hK => ?_)
  refine goes_ Try.func41 (by kernel_rfl) rfl #[.slice X a.length cx] (by rfl) rfl rfl (by (try simp only [List.map_toArray, List.map_cons, List.map_nil]); first | done | rfl) ?_
  refine (vector_Valid.calls _ X cx a va _ hX hcx v1).mono ?_
  rintro e_ w7 ⟨rfl, hb7⟩
  refine ⟨_, rfl, ?_⟩
  clear hHeld
  replace hX := Kd.C_below hX hb7
  replace hY := Kd.C_below hY hb7
  replace hA := Kd.C_below hA hb7
  replace hB := Kd.C_below hB hb7
  replace hD := blk_below hD hb7
  replace hN := blk_below hN hb7
  replace hM := blk_below hM hb7
  replace hW := below_then hW (below_size hW) hb7
  clear hb7
  have cD0 := (blk_cell hD 0).trans (rfl : _ = some (Value.int .u32 d0))
  have cD1 := (blk_cell hD 1).trans (rfl : _ = some (Value.int .u64 d1))
  have cN0 := (blk_cell hN 0).trans (rfl : _ = some (Value.int .u32 p1))
  have cN1 := (blk_cell hN 1).trans (rfl : _ = some (Value.int .u64 p2))
  have cM0 := (blk_cell hM 0).trans (rfl : _ = some (Value.int .u32 p1))
  have cM1 := (blk_cell hM 1).trans (rfl : _ = some (Value.int .u64 p2))
  refine hK.out _ _ (⟨cD0, cD1, cN0, cN1, cM0, cM1⟩) (fun hHeld => ?_)
  clear hK K
  refine norm_ (a' := ?_) ?_ ?_
  rotate_left
  · show Act.put _ (some 43) _ = _
    simp only [Act.put, List.setIfInBounds_toArray, List.set_cons_zero, List.set_cons_succ, i64_w, i32_w]
    rfl
  clear cD0 cD1 cN0 cN1 cM0 cM1
  refine one_ (i := 12) (N := some 45) #[true, true, true, true, true, true, true, true, true, true, true, true, true, false, false, false, false, false, false, false, false, false, false, false, false, false, false, false, false, false, false, false, false, false, false] rfl rfl (by kernel_rfl) (by decide) (fun K hK => ?_)
  refine goes_ Try.func47 (by kernel_rfl) rfl #[.slice A a.length ca] (by rfl) rfl rfl (by (try simp only [List.map_toArray, List.map_cons, List.map_nil]); first | done | rfl) ?_
  refine (concordref10_Valid.calls _ A ca a va _ hA hca v2).mono ?_
  rintro e_ z_ ⟨rfl, nd, rfl⟩
  have hb8 : Below w7.heap.size w7 (w7.drewN nd) := pw_below_drewN (Below.refl _ _) nd
  refine ⟨_, rfl, ?_⟩
  generalize w7.drewN nd = w8 at hb8 ⊢
  clear hHeld
  replace hX := Kd.C_below hX hb8
  replace hY := Kd.C_below hY hb8
  replace hA := Kd.C_below hA hb8
  replace hB := Kd.C_below hB hb8
  replace hD := blk_below hD hb8
  replace hN := blk_below hN hb8
  replace hM := blk_below hM hb8
  replace hW := below_then hW (below_size hW) hb8
  clear hb8
  have cD0 := (blk_cell hD 0).trans (rfl : _ = some (Value.int .u32 d0))
  have cD1 := (blk_cell hD 1).trans (rfl : _ = some (Value.int .u64 d1))
  have cN0 := (blk_cell hN 0).trans (rfl : _ = some (Value.int .u32 p1))
  have cN1 := (blk_cell hN 1).trans (rfl : _ = some (Value.int .u64 p2))
  have cM0 := (blk_cell hM 0).trans (rfl : _ = some (Value.int .u32 p1))
  have cM1 := (blk_cell hM 1).trans (rfl : _ = some (Value.int .u64 p2))
  refine hK.out _ _ (⟨cD0, cD1, cN0, cN1, cM0, cM1⟩) (fun hHeld => ?_)
  clear hK K
  refine norm_ (a' := ?_) ?_ ?_
  rotate_left
  · show Act.put _ (some 45) _ = _
    simp only [Act.put, List.setIfInBounds_toArray, List.set_cons_zero, List.set_cons_succ, i64_w, i32_w]
    rfl
  clear cD0 cD1 cN0 cN1 cM0 cM1
  refine pure_ (i := 13) (N := some 46) (v := ?_) (a' := ?_) #[true, true, true, true, true, true, true, true, true, true, true, true, true, true, false, false, false, false, false, false, false, false, false, false, false, false, false, false, false, false, false, false, false, false, false] rfl rfl (by kernel_rfl) (fun _ _ _ h => h) (Or.inl ⟨by rfl, ?_⟩) ?_ ?_
  rotate_left
  · intro w'
    go_simp
    with_reducible rfl
  rotate_left
  · simp only [Act.put, List.setIfInBounds_toArray, List.set_cons_zero, List.set_cons_succ, i64_w, i32_w]
    rfl
  refine pure_ (i := 14) (N := some 47) (v := ?_) (a' := ?_) #[true, true, true, true, true, true, true, true, true, true, true, true, true, true, true, false, false, false, false, false, false, false, false, false, false, false, false, false, false, false, false, false, false, false, false] rfl rfl (by kernel_rfl) (fun _ _ _ h => h) (Or.inl ⟨by rfl, ?_⟩) ?_ ?_
  rotate_left
  · intro w'
    go_simp
    with_reducible rfl
  rotate_left
  · simp only [Act.put, List.setIfInBounds_toArray, List.set_cons_zero, List.set_cons_succ, i64_w, i32_w]
    rfl
  refine pure_ (i := 15) (N := some 48) (v := ?_) (a' := ?_) #[true, true, true, true, true, true, true, true, true, true, true, true, true, true, true, true, false, false, false, false, false, false, false, false, false, false, false, false, false, false, false, false, false, false, false] rfl rfl (by kernel_rfl) (fun _ _ _ h => h) (Or.inl ⟨by rfl, ?_⟩) ?_ ?_
  rotate_left
  · intro w'
    go_simp
    with_reducible rfl
  rotate_left
  · simp only [Act.put, List.setIfInBounds_toArray, List.set_cons_zero, List.set_cons_succ, i64_w, i32_w]
    rfl
  refine pure_ (i := 16) (N := some 49) (v := ?_) (a' := ?_) #[true, true, true, true, true, true, true, true, true, true, true, true, true, true, true, true, true, false, false, false, false, false, false, false, false, false, false, false, false, false, false, false, false, false, false] rfl rfl (by kernel_rfl) (fun _ _ _ h => h) (Or.inl ⟨by rfl, ?_⟩) ?_ ?_
  rotate_left
  · intro w'
    go_simp
    with_reducible rfl
  rotate_left
  · simp only [Act.put, List.setIfInBounds_toArray, List.set_cons_zero, List.set_cons_succ, i64_w, i32_w]
    rfl
  refine pure_ (i := 17) (N := some 50) (v := ?_) (a' := ?_) #[true, true, true, true, true, true, true, true, true, true, true, true, true, true, true, true, true, true, false, false, false, false, false, false, false, false, false, false, false, false, false, false, false, false, false] rfl rfl (by kernel_rfl) (fun _ _ _ h => h) (Or.inl ⟨by rfl, ?_⟩) ?_ ?_
  rotate_left
  · intro w'
    go_simp
    with_reducible rfl
  rotate_left
  · simp only [Act.put, List.setIfInBounds_toArray, List.set_cons_zero, List.set_cons_succ, i64_w, i32_w]
    rfl
  refine take_ (i := 18) (N := some 51) (v := ?_) (a' := ?_) #[true, true, true, true, true, true, true, true, true, true, true, true, true, true, true, true, true, true, true, false, false, false, false, false, false, false, false, false, false, false, false, false, false, false, false] rfl rfl (by kernel_rfl) (fun _ _ _ h => h) (Or.inl ⟨by rfl, ?_⟩) hHeld ?_ ?_
  rotate_left
  · intro w' hS
    go_simp
    with_reducible rfl
  rotate_left
  · simp only [Act.put, List.setIfInBounds_toArray, List.set_cons_zero, List.set_cons_succ, i64_w, i32_w]
    rfl
  refine pure_ (i := 20) (N := some 53) (v := ?_) (a' := ?_) #[true, true, true, true, true, true, true, true, true, true, true, true, true, true, true, true, true, true, true, false, true, false, false, false, false, false, false, false, false, false, false, false, false, false, false] rfl rfl (by kernel_rfl) (fun _ _ _ h => h) (Or.inl ⟨by rfl, ?_⟩) ?_ ?_
  rotate_left
  · intro w'
    go_simp
    with_reducible rfl
  rotate_left
  · simp only [Act.put, List.setIfInBounds_toArray, List.set_cons_zero, List.set_cons_succ, i64_w, i32_w]
    rfl
  refine pure_ (i := 21) (N := some 54) (v := ?_) (a' := ?_) #[true, true, true, true, true, true, true, true, true, true, true, true, true, true, true, true, true, true, true, false, true, true, false, false, false, false, false, false, false, false, false, false, false, false, false] rfl rfl (by kernel_rfl) (fun _ _ _ h => h) (Or.inl ⟨by rfl, ?_⟩) ?_ ?_
  rotate_left
  · intro w'
    go_simp
    with_reducible rfl
  rotate_left
  · simp only [Act.put, List.setIfInBounds_toArray, List.set_cons_zero, List.set_cons_succ, i64_w, i32_w]
    rfl
  refine take_ (i := 22) (N := some 55) (v := ?_) (a' := ?_) #[true, true, true, true, true, true, true, true, true, true, true, true, true, true, true, true, true, true, true, false, true, true, true, false, false, false, false, false, false, false, false, false, false, false, false] rfl rfl (by kernel_rfl) (fun _ _ _ h => h) (Or.inl ⟨by rfl, ?_⟩) hHeld ?_ ?_
  rotate_left
  · intro w' hS
    go_simp
    with_reducible rfl
  rotate_left
  · simp only [Act.put, List.setIfInBounds_toArray, List.set_cons_zero, List.set_cons_succ, i64_w, i32_w]
    rfl
  refine one_ (i := 19) (N := some 52) #[true, true, true, true, true, true, true, true, true, true, true, true, true, true, true, true, true, true, true, true, true, true, true, false, false, false, false, false, false, false, false, false, false, false, false] rfl rfl (by kernel_rfl) (by decide) (fun K hK => ?_)
  refine goes_ Try.func43 (by kernel_rfl) rfl #[.slice X a.length cx, .int .u32 d0] (by rfl) rfl rfl (by (try simp only [List.map_toArray, List.map_cons, List.map_nil]); first | done | rfl) ?_
  refine (vector_Count.calls X cx a d0 vn _ hX hcx n1).mono ?_
  rintro e_ w9 ⟨rfl, hb9⟩
  refine ⟨_, rfl, ?_⟩
  clear hHeld
  replace hX := Kd.C_below hX hb9
  replace hY := Kd.C_below hY hb9
  replace hA := Kd.C_below hA hb9
  replace hB := Kd.C_below hB hb9
  replace hD := blk_below hD hb9
  replace hN := blk_below hN hb9
  replace hM := blk_below hM hb9
  replace hW := below_then hW (below_size hW) hb9
  clear hb9
  have cD0 := (blk_cell hD 0).trans (rfl : _ = some (Value.int .u32 d0))
  have cD1 := (blk_cell hD 1).trans (rfl : _ = some (Value.int .u64 d1))
  have cN0 := (blk_cell hN 0).trans (rfl : _ = some (Value.int .u32 p1))
  have cN1 := (blk_cell hN 1).trans (rfl : _ = some (Value.int .u64 p2))
  have cM0 := (blk_cell hM 0).trans (rfl : _ = some (Value.int .u32 p1))
  have cM1 := (blk_cell hM 1).trans (rfl : _ = some (Value.int .u64 p2))
  refine hK.out _ _ (⟨cD0, cD1, cN0, cN1, cM0, cM1⟩) (fun hHeld => ?_)
  clear hK K
  refine norm_ (a' := ?_) ?_ ?_
  rotate_left
  · show Act.put _ (some 52) _ = _
    simp only [Act.put, List.setIfInBounds_toArray, List.set_cons_zero, List.set_cons_succ, i64_w, i32_w]
    rfl
  clear cD0 cD1 cN0 cN1 cM0 cM1
  refine one_ (i := 23) (N := some 56) #[true, true, true, true, true, true, true, true, true, true, true, true, true, true, true, true, true, true, true, true, true, true, true, true, false, false, false, false, false, false, false, false, false, false, false] rfl rfl (by kernel_rfl) (by decide) (fun K hK => ?_)
  refine goes_ Try.func48 (by kernel_rfl) rfl #[.slice A a.length ca, .int .u32 d0] (by rfl) rfl rfl (by (try simp only [List.map_toArray, List.map_cons, List.map_nil]); first | done | rfl) ?_
  refine (concordref10_Count.calls _ A ca a d0 vn _ hA hca n2).mono ?_
  rintro e_ z_ ⟨rfl, nd, rfl⟩
  have hb10 : Below w9.heap.size w9 (w9.drewN nd) := pw_below_drewN (Below.refl _ _) nd
  refine ⟨_, rfl, ?_⟩
  generalize w9.drewN nd = w10 at hb10 ⊢
  clear hHeld
  replace hX := Kd.C_below hX hb10
  replace hY := Kd.C_below hY hb10
  replace hA := Kd.C_below hA hb10
  replace hB := Kd.C_below hB hb10
  replace hD := blk_below hD hb10
  replace hN := blk_below hN hb10
  replace hM := blk_below hM hb10
  replace hW := below_then hW (below_size hW) hb10
  clear hb10
  have cD0 := (blk_cell hD 0).trans (rfl : _ = some (Value.int .u32 d0))
  have cD1 := (blk_cell hD 1).trans (rfl : _ = some (Value.int .u64 d1))
  have cN0 := (blk_cell hN 0).trans (rfl : _ = some (Value.int .u32 p1))
  have cN1 := (blk_cell hN 1).trans (rfl : _ = some (Value.int .u64 p2))
  have cM0 := (blk_cell hM 0).trans (rfl : _ = some (Value.int .u32 p1))
  have cM1 := (blk_cell hM 1).trans (rfl : _ = some (Value.int .u64 p2))
  refine hK.out _ _ (⟨cD0, cD1, cN0, cN1, cM0, cM1⟩) (fun hHeld => ?_)
  clear hK K
  refine norm_ (a' := ?_) ?_ ?_
  rotate_left
  · show Act.put _ (some 56) _ = _
    simp only [Act.put, List.setIfInBounds_toArray, List.set_cons_zero, List.set_cons_succ, i64_w, i32_w]
    rfl
  clear cD0 cD1 cN0 cN1 cM0 cM1
  refine pure_ (i := 24) (N := some 57) (v := ?_) (a' := ?_) #[true, true, true, true, true, true, true, true, true, true, true, true, true, true, true, true, true, true, true, true, true, true, true, true, true, false, false, false, false, false, false, false, false, false, false] rfl rfl (by kernel_rfl) (fun _ _ _ h => h) (Or.inl ⟨by rfl, ?_⟩) ?_ ?_
  rotate_left
  · intro w'
    go_simp
    with_reducible rfl
  rotate_left
  · simp only [Act.put, List.setIfInBounds_toArray, List.set_cons_zero, List.set_cons_succ, i64_w, i32_w]
    rfl
  refine pure_ (i := 25) (N := some 58) (v := ?_) (a' := ?_) #[true, true, true, true, true, true, true, true, true, true, true, true, true, true, true, true, true, true, true, true, true, true, true, true, true, true, false, false, false, false, false, false, false, false, false] rfl rfl (by kernel_rfl) (fun _ _ _ h => h) (Or.inl ⟨by rfl, ?_⟩) ?_ ?_
  rotate_left
  · intro w'
    go_simp
    with_reducible rfl
  rotate_left
  · simp only [Act.put, List.setIfInBounds_toArray, List.set_cons_zero, List.set_cons_succ, i64_w, i32_w]
    rfl
  refine pure_ (i := 26) (N := some 59) (v := ?_) (a' := ?_) #[true, true, true, true, true, true, true, true, true, true, true, true, true, true, true, true, true, true, true, true, true, true, true, true, true, true, true, false, false, false, false, false, false, false, false] rfl rfl (by kernel_rfl) (fun _ _ _ h => h) (Or.inl ⟨by rfl, ?_⟩) ?_ ?_
  rotate_left
  · intro w'
    go_simp
    with_reducible rfl
  rotate_left
  · simp only [Act.put, List.setIfInBounds_toArray, List.set_cons_zero, List.set_cons_succ, i64_w, i32_w]
    rfl
  refine pure_ (i := 27) (N := some 60) (v := ?_) (a' := ?_) #[true, true, true, true, true, true, true, true, true, true, true, true, true, true, true, true, true, true, true, true, true, true, true, true, true, true, true, true, false, false, false, false, false, false, false] rfl rfl (by kernel_rfl) (fun _ _ _ h => h) (Or.inl ⟨by rfl, ?_⟩) ?_ ?_
  rotate_left
  · intro w'
    go_simp
    with_reducible rfl
  rotate_left
  · simp only [Act.put, List.setIfInBounds_toArray, List.set_cons_zero, List.set_cons_succ, i64_w, i32_w]
    rfl
  refine take_ (i := 28) (N := some 61) (v := ?_) (a' := ?_) #[true, true, true, true, true, true, true, true, true, true, true, true, true, true, true, true, true, true, true, true, true, true, true, true, true, true, true, true, true, false, false, false, false, false, false] rfl rfl (by kernel_rfl) (fun _ _ _ h => h) (Or.inl ⟨by rfl, ?_⟩) hHeld ?_ ?_
  rotate_left
  · intro w' hS
    go_simp
    with_reducible rfl
  rotate_left
  · simp only [Act.put, List.setIfInBounds_toArray, List.set_cons_zero, List.set_cons_succ, i64_w, i32_w]
    rfl
  refine pure_ (i := 30) (N := some 63) (v := ?_) (a' := ?_) #[true, true, true, true, true, true, true, true, true, true, true, true, true, true, true, true, true, true, true, true, true, true, true, true, true, true, true, true, true, false, true, false, false, false, false] rfl rfl (by kernel_rfl) (fun _ _ _ h => h) (Or.inl ⟨by rfl, ?_⟩) ?_ ?_
  rotate_left
  · intro w'
    go_simp
    with_reducible rfl
  rotate_left
  · simp only [Act.put, List.setIfInBounds_toArray, List.set_cons_zero, List.set_cons_succ, i64_w, i32_w]
    rfl
  refine take_ (i := 31) (N := some 64) (v := ?_) (a' := ?_) #[true, true, true, true, true, true, true, true, true, true, true, true, true, true, true, true, true, true, true, true, true, true, true, true, true, true, true, true, true, false, true, true, false, false, false] rfl rfl (by kernel_rfl) (fun _ _ _ h => h) (Or.inl ⟨by rfl, ?_⟩) hHeld ?_ ?_
  rotate_left
  · intro w' hS
    go_simp
    with_reducible rfl
  rotate_left
  · simp only [Act.put, List.setIfInBounds_toArray, List.set_cons_zero, List.set_cons_succ, i64_w, i32_w]
    rfl
  refine one_ (i := 29) (N := some 62) #[true, true, true, true, true, true, true, true, true, true, true, true, true, true, true, true, true, true, true, true, true, true, true, true, true, true, true, true, true, true, true, true, false, false, false] rfl rfl (by kernel_rfl) (by decide) (fun K hK => ?_)
  refine goes_ Try.func45 (by kernel_rfl) rfl #[.slice X a.length cx, .agg #[.int .u32 d0, .int .u64 d1]] (by rfl) rfl rfl (by (try simp only [List.map_toArray, List.map_cons, List.map_nil]); first | done | rfl) ?_
  refine (vector_Covers.calls X cx a d0 d1 vc _ hX hcx k1).mono ?_
  rintro e_ w11 ⟨rfl, hb11⟩
  refine ⟨_, rfl, ?_⟩
  clear hHeld
  replace hX := Kd.C_below hX hb11
  replace hY := Kd.C_below hY hb11
  replace hA := Kd.C_below hA hb11
  replace hB := Kd.C_below hB hb11
  replace hD := blk_below hD hb11
  replace hN := blk_below hN hb11
  replace hM := blk_below hM hb11
  replace hW := below_then hW (below_size hW) hb11
  clear hb11
  have cD0 := (blk_cell hD 0).trans (rfl : _ = some (Value.int .u32 d0))
  have cD1 := (blk_cell hD 1).trans (rfl : _ = some (Value.int .u64 d1))
  have cN0 := (blk_cell hN 0).trans (rfl : _ = some (Value.int .u32 p1))
  have cN1 := (blk_cell hN 1).trans (rfl : _ = some (Value.int .u64 p2))
  have cM0 := (blk_cell hM 0).trans (rfl : _ = some (Value.int .u32 p1))
  have cM1 := (blk_cell hM 1).trans (rfl : _ = some (Value.int .u64 p2))
  refine hK.out _ _ (⟨cD0, cD1, cN0, cN1, cM0, cM1⟩) (fun hHeld => ?_)
  clear hK K
  refine norm_ (a' := ?_) ?_ ?_
  rotate_left
  · show Act.put _ (some 62) _ = _
    simp only [Act.put, List.setIfInBounds_toArray, List.set_cons_zero, List.set_cons_succ, i64_w, i32_w]
    rfl
  clear cD0 cD1 cN0 cN1 cM0 cM1
  refine one_ (i := 32) (N := some 65) #[true, true, true, true, true, true, true, true, true, true, true, true, true, true, true, true, true, true, true, true, true, true, true, true, true, true, true, true, true, true, true, true, true, false, false] rfl rfl (by kernel_rfl) (by decide) (fun K hK => ?_)
  refine goes_ Try.func59 (by kernel_rfl) rfl #[.slice A a.length ca, .agg #[.int .u32 d0, .int .u64 d1]] (by rfl) rfl rfl (by (try simp only [List.map_toArray, List.map_cons, List.map_nil]); first | done | rfl) ?_
  refine (concordref10_Covers.calls _ A ca a d0 d1 vc _ hA hca k2).mono ?_
  rintro e_ w12 ⟨rfl, hb12⟩
  refine ⟨_, rfl, ?_⟩
  clear hHeld
  replace hX := Kd.C_below hX hb12
  replace hY := Kd.C_below hY hb12
  replace hA := Kd.C_below hA hb12
  replace hB := Kd.C_below hB hb12
  replace hD := blk_below hD hb12
  replace hN := blk_below hN hb12
  replace hM := blk_below hM hb12
  replace hW := below_then hW (below_size hW) hb12
  clear hb12
  have cD0 := (blk_cell hD 0).trans (rfl : _ = some (Value.int .u32 d0))
  have cD1 := (blk_cell hD 1).trans (rfl : _ = some (Value.int .u64 d1))
  have cN0 := (blk_cell hN 0).trans (rfl : _ = some (Value.int .u32 p1))
  have cN1 := (blk_cell hN 1).trans (rfl : _ = some (Value.int .u64 p2))
  have cM0 := (blk_cell hM 0).trans (rfl : _ = some (Value.int .u32 p1))
  have cM1 := (blk_cell hM 1).trans (rfl : _ = some (Value.int .u64 p2))
  refine hK.out _ _ (⟨cD0, cD1, cN0, cN1, cM0, cM1⟩) (fun hHeld => ?_)
  clear hK K
  refine norm_ (a' := ?_) ?_ ?_
  rotate_left
  · show Act.put _ (some 65) _ = _
    simp only [Act.put, List.setIfInBounds_toArray, List.set_cons_zero, List.set_cons_succ, i64_w, i32_w]
    rfl
  clear cD0 cD1 cN0 cN1 cM0 cM1
  refine pure_ (i := 33) (N := some 66) (v := ?_) (a' := ?_) #[true, true, true, true, true, true, true, true, true, true, true, true, true, true, true, true, true, true, true, true, true, true, true, true, true, true, true, true, true, true, true, true, true, true, false] rfl rfl (by kernel_rfl) (fun _ _ _ h => h) (Or.inl ⟨by rfl, ?_⟩) ?_ ?_
  rotate_left
  · intro w'
    go_simp
    with_reducible rfl
  rotate_left
  · simp only [Act.put, List.setIfInBounds_toArray, List.set_cons_zero, List.set_cons_succ, i64_w, i32_w]
    rfl
  refine pure_ (i := 34) (N := some 67) (v := ?_) (a' := ?_) #[true, true, true, true, true, true, true, true, true, true, true, true, true, true, true, true, true, true, true, true, true, true, true, true, true, true, true, true, true, true, true, true, true, true, true] rfl rfl (by kernel_rfl) (fun _ _ _ h => h) (Or.inl ⟨by rfl, ?_⟩) ?_ ?_
  rotate_left
  · intro w'
    go_simp
    with_reducible rfl
  rotate_left
  · simp only [Act.put, List.setIfInBounds_toArray, List.set_cons_zero, List.set_cons_succ, i64_w, i32_w]
    rfl
  refine done_ (by kernel_rfl) ?_
  clear hHeld
  clear hD hN hM
  go_wp2_with fail
  refine (vector_Encode.calls X cx a q1 q2 _ hX hcx g2).mono ?_
  rintro e_ w13 ⟨rfl, hb13⟩
  replace hX := Kd.C_below hX hb13
  replace hY := Kd.C_below hY hb13
  replace hA := Kd.C_below hA hb13
  replace hB := Kd.C_below hB hb13
  replace hW := below_then hW (below_size hW) hb13
  clear hb13
  go_wp2_with fail
  refine (concordref10_Encode.calls _ A ca a q1 q2 _ hA hca g1).mono ?_
  rintro e_ w14 ⟨rfl, hb14⟩
  replace hX := Kd.C_below hX hb14
  replace hY := Kd.C_below hY hb14
  replace hA := Kd.C_below hA hb14
  replace hB := Kd.C_below hB hb14
  replace hW := below_then hW (below_size hW) hb14
  clear hb14
  go_wp2_with fail
  refine (vector_Below.calls X cx a Y cy b b1 _ hX hcx hY hcy e1).mono ?_
  rintro e_ w15 ⟨rfl, hb15⟩
  replace hX := Kd.C_below hX hb15
  replace hY := Kd.C_below hY hb15
  replace hA := Kd.C_below hA hb15
  replace hB := Kd.C_below hB hb15
  replace hW := below_then hW (below_size hW) hb15
  clear hb15
  go_wp2_with fail
  refine (concordref10_Below.calls _ A ca a B cb b b1 _ hA hca hB hcb e2).mono ?_
  rintro e_ z_ ⟨rfl, nd, rfl⟩
  have hb16 : Below w15.heap.size w15 (w15.drewN nd) := pw_below_drewN (Below.refl _ _) nd
  generalize w15.drewN nd = w16 at hb16 ⊢
  replace hX := Kd.C_below hX hb16
  replace hY := Kd.C_below hY hb16
  replace hA := Kd.C_below hA hb16
  replace hB := Kd.C_below hB hb16
  replace hW := below_then hW (below_size hW) hb16
  clear hb16
  go_wp2_with fail
  refine (vector_Below.calls Y cy b X cx a b2 _ hY hcy hX hcx e3).mono ?_
  rintro e_ w17 ⟨rfl, hb17⟩
  replace hX := Kd.C_below hX hb17
  replace hY := Kd.C_below hY hb17
  replace hA := Kd.C_below hA hb17
  replace hB := Kd.C_below hB hb17
  replace hW := below_then hW (below_size hW) hb17
  clear hb17
  go_wp2_with fail
  refine (concordref10_Below.calls _ B cb b A ca a b2 _ hB hcb hA hca e4).mono ?_
  rintro e_ z_ ⟨rfl, nd, rfl⟩
  have hb18 : Below w17.heap.size w17 (w17.drewN nd) := pw_below_drewN (Below.refl _ _) nd
  generalize w17.drewN nd = w18 at hb18 ⊢
  replace hX := Kd.C_below hX hb18
  replace hY := Kd.C_below hY hb18
  replace hA := Kd.C_below hA hb18
  replace hB := Kd.C_below hB hb18
  replace hW := below_then hW (below_size hW) hb18
  clear hb18
  go_wp2_with fail
  refine (vector_Compare.calls _ X cx a Y cy b x1 _ hX hcx hY hcy e5).mono ?_
  rintro e_ w19 ⟨rfl, hb19⟩
  replace hX := Kd.C_below hX hb19
  replace hY := Kd.C_below hY hb19
  replace hA := Kd.C_below hA hb19
  replace hB := Kd.C_below hB hb19
  replace hW := below_then hW (below_size hW) hb19
  clear hb19
  go_wp2_with fail
  refine (concordref10_Compare.calls _ A ca a B cb b x1 _ hA hca hB hcb e6).mono ?_
  rintro e_ z_ ⟨rfl, nd, rfl⟩
  have hb20 : Below w19.heap.size w19 (w19.drewN nd) := pw_below_drewN (Below.refl _ _) nd
  generalize w19.drewN nd = w20 at hb20 ⊢
  replace hX := Kd.C_below hX hb20
  replace hY := Kd.C_below hY hb20
  replace hA := Kd.C_below hA hb20
  replace hB := Kd.C_below hB hb20
  replace hW := below_then hW (below_size hW) hb20
  clear hb20
  go_wp2_with fail
  refine (vector_Compare.calls _ Y cy b X cx a x2 _ hY hcy hX hcx e7).mono ?_
  rintro e_ w21 ⟨rfl, hb21⟩
  replace hX := Kd.C_below hX hb21
  replace hY := Kd.C_below hY hb21
  replace hA := Kd.C_below hA hb21
  replace hB := Kd.C_below hB hb21
  replace hW := below_then hW (below_size hW) hb21
  clear hb21
  go_wp2_with fail
  refine (concordref10_Compare.calls _ B cb b A ca a x2 _ hB hcb hA hca e8).mono ?_
  rintro e_ z_ ⟨rfl, nd, rfl⟩
  have hb22 : Below w21.heap.size w21 (w21.drewN nd) := pw_below_drewN (Below.refl _ _) nd
  generalize w21.drewN nd = w22 at hb22 ⊢
  replace hX := Kd.C_below hX hb22
  replace hY := Kd.C_below hY hb22
  replace hA := Kd.C_below hA hb22
  replace hB := Kd.C_below hB hb22
  replace hW := below_then hW (below_size hW) hb22
  clear hb22
  go_wp2_with fail
  go_ret
  exact ⟨rfl, hW⟩
end Go.Proofs.Ytgcmmiihjiiemaa.My
