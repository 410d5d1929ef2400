/- VectorBytes. -/
import Derived.Test.YtgcmmiihjiiemaaVecBytesAll
namespace Go.Proofs.Ytgcmmiihjiiemaa.My
open Go.RowKit Go.Proofs.YtgcmmiihjiiemaaW.PrintWords Go.Proofs.YtgcmmiihjiiemaaW.PrintLast Go.Proofs.YtgcmmiihjiiemaaW.PrintMore Go.Proofs.Ytgcmmiihjiiemaa Go.Proofs.Ytgcmmiihjiiemaa.PVectorMax
set_option linter.unusedSimpArgs false
set_option linter.unusedVariables false
set_option maxRecDepth 100000
set_option maxHeartbeats 3200000
theorem vectorBytes_go (w : World) (A : Option Addr) (c : Nat) (a : List Dt) (hA0 : Kd.C kD w A a.length a) (hc : a.length ≤ c) (oa : okD a = true) (hla : a.length * 16 ≤ 140737488351232) (s : ByteArray) (hs : s.size ≤ 140737488351232) (rest : ByteArray) (hrest : rest.size ≤ 140737488351232) (failed : Bool) :
    Calls Try.prog 5 #[.slice A a.length c, .string s, .string rest, .bool failed] w fun e w' => e = .returned (.bool true) ∧ Below w.heap.size w w' := by
  have hA := hA0
  have hn0 : w.heap.size ≤ w.heap.size := Nat.le_refl _
  have hW : Below w.heap.size w w := Below.refl _ _
  obtain ⟨want, en, hE⟩ : ∃ want en, ownEnc a = (want, en) := ⟨_, _, rfl⟩
  obtain ⟨ds, dn, hD⟩ : ∃ ds dn, decV s = (ds, dn) := ⟨_, _, rfl⟩
  have hdl : ds.length ≤ 64 := by have := decV_len s; rw [hD] at this; exact this
  have hwl : want.size ≤ 2000 := by
    have h1 : (ownEnc a).1 = want := by rw [hE]
    rw [← h1]
    exact own_size a
  go_enter Try.func5, Try.ntmps5
  go_wp2_with fail
  refine (encR _ A a.length c a hA hc rfl oa want en hE).mono ?_
  rintro e_ w1 ⟨rfl, hb1⟩
  have hs1 : w.heap.size ≤ w1.heap.size := hb1.size
  replace hA := Kd.C_below hA hb1
  replace hW := below_then hW hn0 hb1
  replace hn0 := Nat.le_trans hn0 hs1
  go_wp2_with fail
  refine (lentN _ A c a hA hc hla w.heap.size hn0).mono ?_
  rintro e_ w2 ⟨vX, qX, rfl, hX, hb2⟩
  have hs2 : w1.heap.size ≤ w2.heap.size := hb2.size
  replace hA := Kd.C_below hA hb2
  replace hW := below_then hW hn0 hb2
  replace hn0 := Nat.le_trans hn0 hs2
  go_wp2_with fail
  obtain ⟨cx, -, dx⟩ := C_of_R (short_row hX rfl)
  refine (encO _ vX a.length qX a cx dx rfl oa want en hE).mono ?_
  rintro e_ w3 ⟨rfl, hb3⟩
  have hs3 : w2.heap.size ≤ w3.heap.size := hb3.size
  replace hX := Kd.R_below hX hb3
  replace hA := Kd.C_below hA hb3
  replace hW := below_then hW hn0 hb3
  replace hn0 := Nat.le_trans hn0 hs3
  clear cx dx
  go_wp2_with fail
  refine (newWriterW _).mono ?_
  rintro e_ wA ⟨rfl, rfl⟩
  have hB0 : Below w3.heap.size w3 (w3.alloc (.cells #[.slice none 0 0] 76)) := (Below.refl _ _).alloc (Nat.le_refl _) _
  have hS0 := WS_new w3 w3.heap.size (Nat.le_refl _)
  generalize w3.alloc (.cells #[.slice none 0 0] 76 (0, 0)) = wA at *
  have HB0 := Aside0.mk hB0
  have HS0 := Aside0.mk hS0
  clear hB0 hS0
  go_wp2_with fail
  refine (Byte_calls w3.heap.size (.slice none 0 0) [] 9 w3 wA HB0.out HS0.out (by decide)).mono ?_
  rintro e_ wB ⟨rfl, v1, hS1, hB1, -⟩
  have HB1 := Aside0.mk hB1
  have HS1 := Aside0.mk hS1
  clear hB1 hS1 HB0 HS0
  go_wp2_with fail
  obtain ⟨cx, -, dx⟩ := C_of_R (short_row hX rfl)
  refine (Put_any w3.heap.size v1 ([] ++ [9]) w3 wB HB1.out HS1.out vX a.length qX a cx dx rfl oa (by decide)).mono ?_
  clear cx dx
  rintro e_ wC ⟨rfl, v2, hS2, hB2⟩
  rw [hE]
  have HB2 := Aside0.mk hB2
  have HS2 := Aside0.mk hS2
  clear hB2 hS2 HB1 HS1
  go_wp2_with fail
  refine (Told_calls w3.heap.size v2 _ w3.heap.size wC HS2.out).mono ?_
  rintro e_ wD ⟨rfl, rfl⟩
  rw [told_want, hE]
  have hb4 := HB2.out
  have hs4 : w3.heap.size ≤ wC.heap.size := hb4.size
  clear HB2 HS2
  replace hX := Kd.R_below hX hb4
  replace hA := Kd.C_below hA hb4
  replace hW := below_then hW hn0 hb4
  replace hn0 := Nat.le_trans hn0 hs4
  generalize w3.heap.size = gW
  go_wp2_with fail
  refine (keptN _ hX hA hc (by omega)).mono ?_
  rintro e_ w5 ⟨rfl, hb5⟩
  have hs5 : wC.heap.size ≤ w5.heap.size := hb5.size
  replace hX := Kd.R_below hX hb5
  replace hA := Kd.C_below hA hb5
  replace hW := below_then hW hn0 hb5
  replace hn0 := Nat.le_trans hn0 hs5
  go_wp2_with fail
  refine (decR _ s hs w.heap.size hn0 ds dn hD).mono ?_
  rintro e_ w6 ⟨vU, qU, rfl, hU, hb6⟩
  have hs6 : w5.heap.size ≤ w6.heap.size := hb6.size
  replace hX := Kd.R_below hX hb6
  replace hA := Kd.C_below hA hb6
  replace hW := below_then hW hn0 hb6
  replace hn0 := Nat.le_trans hn0 hs6
  go_wp2_with fail
  refine (decO _ s hs w.heap.size hn0 ds dn hD).mono ?_
  rintro e_ w7 ⟨vD, qD, rfl, hD1, hb7⟩
  have hs7 : w6.heap.size ≤ w7.heap.size := hb7.size
  replace hX := Kd.R_below hX hb7
  replace hU := Kd.R_below hU hb7
  replace hA := Kd.C_below hA hb7
  replace hW := below_then hW hn0 hb7
  replace hn0 := Nat.le_trans hn0 hs7
  go_wp2_with fail
  refine (decO _ s hs w.heap.size hn0 ds dn hD).mono ?_
  rintro e_ w8 ⟨vE, qE, rfl, hD2, hb8⟩
  have hs8 : w7.heap.size ≤ w8.heap.size := hb8.size
  replace hX := Kd.R_below hX hb8
  replace hU := Kd.R_below hU hb8
  replace hD1 := Kd.R_below hD1 hb8
  replace hA := Kd.C_below hA hb8
  replace hW := below_then hW hn0 hb8
  replace hn0 := Nat.le_trans hn0 hs8
  go_wp2_with fail
  refine (sameN _ hD1 hU hdl).mono ?_
  rintro e_ w9 ⟨rfl, hb9⟩
  have hs9 : w8.heap.size ≤ w9.heap.size := hb9.size
  replace hX := Kd.R_below hX hb9
  replace hU := Kd.R_below hU hb9
  replace hD1 := Kd.R_below hD1 hb9
  replace hD2 := Kd.R_below hD2 hb9
  replace hA := Kd.C_below hA hb9
  replace hW := below_then hW hn0 hb9
  replace hn0 := Nat.le_trans hn0 hs9
  go_wp2_with fail
  refine (sameN _ hD2 hU hdl).mono ?_
  rintro e_ w10 ⟨rfl, hb10⟩
  have hs10 : w9.heap.size ≤ w10.heap.size := hb10.size
  replace hX := Kd.R_below hX hb10
  replace hU := Kd.R_below hU hb10
  replace hD1 := Kd.R_below hD1 hb10
  replace hD2 := Kd.R_below hD2 hb10
  replace hA := Kd.C_below hA hb10
  replace hW := below_then hW hn0 hb10
  replace hn0 := Nat.le_trans hn0 hs10
  go_wp2_with fail
  refine (spoilN 7 w w10 hW hD1 (by omega)).mono ?_
  rintro e_ w11 ⟨rr, rfl, -, hW2, hk11⟩
  have hs11 : w10.heap.size ≤ w11.heap.size := hk11.1
  replace hX := Kd.R_kept hX hk11 (fun k q1 q2 => by omega)
  replace hU := Kd.R_kept hU hk11 (fun k q1 q2 => by omega)
  replace hD2 := Kd.R_kept hD2 hk11 (fun k q1 q2 => by omega)
  replace hn0 := Nat.le_trans hn0 hs11
  replace hW := hW2
  clear hW2
  replace hA := Kd.C_below hA0 hW
  go_wp2_with fail
  refine (sameN _ hD2 hU hdl).mono ?_
  rintro e_ w12 ⟨rfl, hb12⟩
  have hs12 : w11.heap.size ≤ w12.heap.size := hb12.size
  replace hX := Kd.R_below hX hb12
  replace hU := Kd.R_below hU hb12
  replace hD2 := Kd.R_below hD2 hb12
  replace hA := Kd.C_below hA hb12
  replace hW := below_then hW hn0 hb12
  replace hn0 := Nat.le_trans hn0 hs12
  go_wp2_with fail
  clear hX hU hD2 hA hA0
  have hSz : (s ++ rest).size ≤ 500000000000000 := by rw [ByteArray.size_append]; omega
  generalize s ++ rest = S at *
  have hM : MS (w12.alloc (.cells #[.string S, .int .i64 0, .int .i64 0] 47)) w12.heap.size S 0 0 := W_push w12 _ _ _
  have hbm : Below w12.heap.size w12 (w12.alloc (.cells #[.string S, .int .i64 0, .int .i64 0] 47)) := (Below.refl _ _).alloc (Nat.le_refl _) _
  replace hW := below_then hW hn0 hbm
  have hlm := blk_lt hM
  have hn1 := Nat.lt_of_le_of_lt hn0 hlm
  clear hbm
  generalize w12.alloc (.cells #[.string S, .int .i64 0, .int .i64 0] 47) = wm at *
  generalize w12.heap.size = gm at *
  refine (newReader S wm).mono ?_
  rintro e_ wx ⟨rfl, rfl⟩
  have hR : RS (wm.alloc (.cells #[.string S, .int .i64 0, .int .i64 0] 79)) wm.heap.size S 0 0 := W_push wm _ _ _
  have hbr : Below wm.heap.size wm (wm.alloc (.cells #[.string S, .int .i64 0, .int .i64 0] 79)) := (Below.refl _ _).alloc (Nat.le_refl _) _
  replace hM : MS (wm.alloc (.cells #[.string S, .int .i64 0, .int .i64 0] 79)) gm S 0 0 := (hbr.block gm hlm).trans hM
  replace hW := below_then hW (Nat.le_of_lt hn1) hbr
  have hlr := blk_lt hR
  have hgr : w.heap.size ≤ wm.heap.size := Nat.le_of_lt hn1
  clear hbr
  generalize wm.alloc (.cells #[.string S, .int .i64 0, .int .i64 0] 79) = wn at *
  generalize hgw : wm.heap.size = gr at *
  clear hgw
  clear hn1
  have hn2 : w.heap.size ≤ wn.heap.size := by omega
  have hne : gm ≠ gr := by omega
  cases failed
  case false =>
    go_wp2_with fail
    refine (MTake hM (Nat.zero_le _) hSz).mono ?_
    rintro e_ wt ⟨vx, rfl, hx, hM2, ha⟩
    have hR2 : RS wt gr S 0 0 := (ha.2 gr (Ne.symm hne) (blk_lt hR)).trans hR
    have hW2 := below_alone1 hW ha hn0 hn2
    have hn3 := Nat.le_trans hn2 ha.1.size
    clear hM hR ha hW
    go_wp2_with fail
    refine (RTake hR2 (Nat.zero_le _) hSz).mono ?_
    rintro e_ wu ⟨vy, rfl, hy, hR3, ha2⟩
    have hM3 := (ha2.2 gm hne (blk_lt hM2)).trans hM2
    have hx2 := ha2.block hx hR2 (by decide)
    have hW3 := below_alone1 hW2 ha2 hgr hn3
    have hn4 := Nat.le_trans hn3 ha2.1.size
    clear hM2 hR2 hx ha2 hW2
    have hTl := takeV_len S 0 0
    generalize takeV S 0 0 = T at *
    obtain ⟨ts, p, e⟩ := T
    dsimp only at hx2 hy hM3 hR3 hTl
    obtain ⟨Rx, qx, rfl⟩ := Kd.R_slice hx2
    obtain ⟨Ry, qy, rfl⟩ := Kd.R_slice hy
    go_wp2_with fail
    have hM : wu.heap[gm]? = some (.cells #[.string S, .int .i64 p, .int .i64 e] 47 (0, 0)) := hM3
    have hR : wu.heap[gr]? = some (.cells #[.string S, .int .i64 p, .int .i64 e] 79 (0, 0)) := hR3
    have hW := hW3
    have hn0 := hn4
    clear hM3 hR3 hW3 hn4 hn3
    have cM0 : wu.cell? ⟨gm, 0, none⟩ = some (.string S) := (blk_cell hM 0).trans rfl
    have cM1 : wu.cell? ⟨gm, 1, none⟩ = some (.int .i64 p) := (blk_cell hM 1).trans rfl
    have cM2 : wu.cell? ⟨gm, 2, none⟩ = some (.int .i64 e) := (blk_cell hM 2).trans rfl
    have cR0 : wu.cell? ⟨gr, 0, none⟩ = some (.string S) := (blk_cell hR 0).trans rfl
    have cR1 : wu.cell? ⟨gr, 1, none⟩ = some (.int .i64 p) := (blk_cell hR 1).trans rfl
    have cR2 : wu.cell? ⟨gr, 2, none⟩ = some (.int .i64 e) := (blk_cell hR 2).trans rfl
    refine start_ (n := 29) (S := fun w' => w'.cell? ⟨gm, 0, none⟩ = some (.string S) ∧ w'.cell? ⟨gm, 1, none⟩ = some (.int .i64 p) ∧ w'.cell? ⟨gm, 2, none⟩ = some (.int .i64 e) ∧ w'.cell? ⟨gr, 0, none⟩ = some (.string S) ∧ w'.cell? ⟨gr, 1, none⟩ = some (.int .i64 p) ∧ w'.cell? ⟨gr, 2, none⟩ = some (.int .i64 e)) (ds := []) #[false, false, false, false, false, false, false, false, false, false, false, false, false, false, false, false, false, false, false, false, false, false, false, false, false, false, false, false, false] (by kernel_rfl) rfl rfl (⟨cM0, cM1, cM2, cR0, cR1, cR2⟩) (fun hHeld => ?_)
    clear cM0 cM1 cM2 cR0 cR1 cR2
    have hb13 : Below wu.heap.size wu wu.drew := below_drew (Below.refl _ _)
    have hs13 : wu.heap.size ≤ wu.drew.heap.size := hb13.size
    replace hx2 := Kd.R_below hx2 hb13
    replace hy := Kd.R_below hy hb13
    replace hM := blk_below hM hb13
    replace hR := blk_below hR hb13
    replace hW := below_then hW hn0 hb13
    replace hn0 := Nat.le_trans hn0 hs13
    generalize wu.drew = w13 at *
    refine pure_ (i := 0) (N := some 129) (v := ?_) (a' := ?_) #[true, false, false, false, false, false, false, false, false, false, false, false, false, false, false, false, false, false, false, false, false, false, false, false, false, false, false, false, false] rfl rfl (by kernel_rfl) (fun _ _ _ h => h) (Or.inl ⟨by rfl, ?_⟩) ?_ ?_
    rotate_left
    · intro w'
      go_simp
      with_reducible rfl
    rotate_left
    · simp only [Act.put, List.setIfInBounds_toArray, List.set_cons_zero, List.set_cons_succ, i64_w, i32_w]
      rfl
    refine pure_ (i := 1) (N := some 130) (v := ?_) (a' := ?_) #[true, true, false, false, false, false, false, false, false, false, false, false, false, false, false, false, false, false, false, false, false, false, false, false, false, false, false, false, false] rfl rfl (by kernel_rfl) (fun _ _ _ h => h) (Or.inl ⟨by rfl, ?_⟩) ?_ ?_
    rotate_left
    · intro w'
      go_simp
      with_reducible rfl
    rotate_left
    · simp only [Act.put, List.setIfInBounds_toArray, List.set_cons_zero, List.set_cons_succ, i64_w, i32_w]
      rfl
    refine one_ (i := 2) (N := some 131) #[true, true, true, false, false, false, false, false, false, false, false, false, false, false, false, false, false, false, false, false, false, false, false, false, false, false, false, false, false] rfl rfl (by kernel_rfl) (by decide) (fun K hK => ?_)
    refine goes_ Try.func14 (by kernel_rfl) rfl #[.slice Rx ts.length qx, .slice Ry ts.length qy] (by rfl) rfl rfl (by (try simp only [List.map_toArray, List.map_cons, List.map_nil]); first | done | rfl) ?_
    refine (sameN _ hx2 hy hTl).mono ?_
    rintro e_ w14 ⟨rfl, hb14⟩
    refine ⟨_, rfl, ?_⟩
    clear hHeld
    have hs14 : w13.heap.size ≤ w14.heap.size := hb14.size
    replace hx2 := Kd.R_below hx2 hb14
    replace hy := Kd.R_below hy hb14
    replace hM := blk_below hM hb14
    replace hR := blk_below hR hb14
    replace hW := below_then hW hn0 hb14
    replace hn0 := Nat.le_trans hn0 hs14
    have cM0 : w14.cell? ⟨gm, 0, none⟩ = some (.string S) := (blk_cell hM 0).trans rfl
    have cM1 : w14.cell? ⟨gm, 1, none⟩ = some (.int .i64 p) := (blk_cell hM 1).trans rfl
    have cM2 : w14.cell? ⟨gm, 2, none⟩ = some (.int .i64 e) := (blk_cell hM 2).trans rfl
    have cR0 : w14.cell? ⟨gr, 0, none⟩ = some (.string S) := (blk_cell hR 0).trans rfl
    have cR1 : w14.cell? ⟨gr, 1, none⟩ = some (.int .i64 p) := (blk_cell hR 1).trans rfl
    have cR2 : w14.cell? ⟨gr, 2, none⟩ = some (.int .i64 e) := (blk_cell hR 2).trans rfl
    refine hK.out _ _ (⟨cM0, cM1, cM2, cR0, cR1, cR2⟩) (fun hHeld => ?_)
    clear hK K
    refine norm_ (a' := ?_) ?_ ?_
    rotate_left
    · show Act.put _ (some 131) _ = _
      simp only [Act.put, List.setIfInBounds_toArray, List.set_cons_zero, List.set_cons_succ, i64_w, i32_w]
      rfl
    clear cM0 cM1 cM2 cR0 cR1 cR2
    refine pure_ (i := 3) (N := some 132) (v := ?_) (a' := ?_) #[true, true, true, true, false, false, false, false, false, false, false, false, false, false, false, false, false, false, false, false, false, false, false, false, false, false, false, false, false] rfl rfl (by kernel_rfl) (fun _ _ _ h => h) (Or.inl ⟨by rfl, ?_⟩) ?_ ?_
    rotate_left
    · intro w'
      go_simp
      with_reducible rfl
    rotate_left
    · simp only [Act.put, List.setIfInBounds_toArray, List.set_cons_zero, List.set_cons_succ, i64_w, i32_w]
      rfl
    refine pure_ (i := 4) (N := some 133) (v := ?_) (a' := ?_) #[true, true, true, true, true, false, false, false, false, false, false, false, false, false, false, false, false, false, false, false, false, false, false, false, false, false, false, false, false] rfl rfl (by kernel_rfl) (fun _ _ _ h => h) (Or.inl ⟨by rfl, ?_⟩) ?_ ?_
    rotate_left
    · intro w'
      go_simp
      with_reducible rfl
    rotate_left
    · simp only [Act.put, List.setIfInBounds_toArray, List.set_cons_zero, List.set_cons_succ, i64_w, i32_w]
      rfl
    refine pure_ (i := 6) (N := some 135) (v := ?_) (a' := ?_) #[true, true, true, true, true, false, true, false, false, false, false, false, false, false, false, false, false, false, false, false, false, false, false, false, false, false, false, false, false] rfl rfl (by kernel_rfl) (fun _ _ _ h => h) (Or.inl ⟨by rfl, ?_⟩) ?_ ?_
    rotate_left
    · intro w'
      go_simp
      with_reducible rfl
    rotate_left
    · simp only [Act.put, List.setIfInBounds_toArray, List.set_cons_zero, List.set_cons_succ, i64_w, i32_w]
      rfl
    refine pure_ (i := 7) (N := some 136) (v := ?_) (a' := ?_) #[true, true, true, true, true, false, true, true, false, false, false, false, false, false, false, false, false, false, false, false, false, false, false, false, false, false, false, false, false] rfl rfl (by kernel_rfl) (fun _ _ _ h => h) (Or.inl ⟨by rfl, ?_⟩) ?_ ?_
    rotate_left
    · intro w'
      go_simp
      with_reducible rfl
    rotate_left
    · simp only [Act.put, List.setIfInBounds_toArray, List.set_cons_zero, List.set_cons_succ, i64_w, i32_w]
      rfl
    refine pure_ (i := 8) (N := some 137) (v := ?_) (a' := ?_) #[true, true, true, true, true, false, true, true, true, false, false, false, false, false, false, false, false, false, false, false, false, false, false, false, false, false, false, false, false] rfl rfl (by kernel_rfl) (fun _ _ _ h => h) (Or.inl ⟨by rfl, ?_⟩) ?_ ?_
    rotate_left
    · intro w'
      go_simp
      with_reducible rfl
    rotate_left
    · simp only [Act.put, List.setIfInBounds_toArray, List.set_cons_zero, List.set_cons_succ, i64_w, i32_w]
      rfl
    refine take_ (i := 9) (N := some 138) (v := ?_) (a' := ?_) #[true, true, true, true, true, false, true, true, true, true, false, false, false, false, false, false, false, false, false, false, false, false, false, false, false, false, false, false, false] rfl rfl (by kernel_rfl) (fun _ _ _ h => h) (Or.inl ⟨by rfl, ?_⟩) hHeld ?_ ?_
    rotate_left
    · intro w' hS
      go_simp
      with_reducible rfl
    rotate_left
    · simp only [Act.put, List.setIfInBounds_toArray, List.set_cons_zero, List.set_cons_succ, i64_w, i32_w]
      rfl
    refine one_ (i := 5) (N := some 134) #[true, true, true, true, true, true, true, true, true, true, false, false, false, false, false, false, false, false, false, false, false, false, false, false, false, false, false, false, false] rfl rfl (by kernel_rfl) (by decide) (fun K hK => ?_)
    refine goes_ Try.func33 (by kernel_rfl) rfl #[.pointer (some ⟨gr, 0, none⟩)] (by rfl) rfl rfl (by (try simp only [List.map_toArray, List.map_cons, List.map_nil]); first | done | rfl) ?_
    refine (RErrB (show RS _ gr S p e from hR)).mono ?_
    rintro e_ w15 ⟨rfl, hb15⟩
    refine ⟨_, rfl, ?_⟩
    clear hHeld
    have hs15 : w14.heap.size ≤ w15.heap.size := hb15.size
    replace hM := blk_below hM hb15
    replace hR := blk_below hR hb15
    replace hW := below_then hW hn0 hb15
    replace hn0 := Nat.le_trans hn0 hs15
    have cM0 : w15.cell? ⟨gm, 0, none⟩ = some (.string S) := (blk_cell hM 0).trans rfl
    have cM1 : w15.cell? ⟨gm, 1, none⟩ = some (.int .i64 p) := (blk_cell hM 1).trans rfl
    have cM2 : w15.cell? ⟨gm, 2, none⟩ = some (.int .i64 e) := (blk_cell hM 2).trans rfl
    have cR0 : w15.cell? ⟨gr, 0, none⟩ = some (.string S) := (blk_cell hR 0).trans rfl
    have cR1 : w15.cell? ⟨gr, 1, none⟩ = some (.int .i64 p) := (blk_cell hR 1).trans rfl
    have cR2 : w15.cell? ⟨gr, 2, none⟩ = some (.int .i64 e) := (blk_cell hR 2).trans rfl
    refine hK.out _ _ (⟨cM0, cM1, cM2, cR0, cR1, cR2⟩) (fun hHeld => ?_)
    clear hK K
    refine norm_ (a' := ?_) ?_ ?_
    rotate_left
    · show Act.put _ (some 134) _ = _
      simp only [Act.put, List.setIfInBounds_toArray, List.set_cons_zero, List.set_cons_succ, i64_w, i32_w]
      rfl
    clear cM0 cM1 cM2 cR0 cR1 cR2
    refine pure_ (i := 10) (N := some 139) (v := ?_) (a' := ?_) #[true, true, true, true, true, true, true, true, true, true, true, false, false, false, false, false, false, false, false, false, false, false, false, false, false, false, false, false, false] rfl rfl (by kernel_rfl) (fun _ _ _ h => h) (Or.inl ⟨by rfl, ?_⟩) ?_ ?_
    rotate_left
    · intro w'
      go_simp
      with_reducible rfl
    rotate_left
    · simp only [Act.put, List.setIfInBounds_toArray, List.set_cons_zero, List.set_cons_succ, i64_w, i32_w]
      rfl
    refine pure_ (i := 11) (N := some 140) (v := ?_) (a' := ?_) #[true, true, true, true, true, true, true, true, true, true, true, true, false, false, false, false, false, false, false, false, false, false, false, false, false, false, false, false, false] rfl rfl (by kernel_rfl) (fun _ _ _ h => h) (Or.inl ⟨by rfl, ?_⟩) ?_ ?_
    rotate_left
    · intro w'
      go_simp
      with_reducible rfl
    rotate_left
    · simp only [Act.put, List.setIfInBounds_toArray, List.set_cons_zero, List.set_cons_succ, i64_w, i32_w]
      rfl
    refine pure_ (i := 12) (N := some 141) (v := ?_) (a' := ?_) #[true, true, true, true, true, true, true, true, true, true, true, true, true, false, false, false, false, false, false, false, false, false, false, false, false, false, false, false, false] rfl rfl (by kernel_rfl) (fun _ _ _ h => h) (Or.inl ⟨by rfl, ?_⟩) ?_ ?_
    rotate_left
    · intro w'
      go_simp
      with_reducible rfl
    rotate_left
    · simp only [Act.put, List.setIfInBounds_toArray, List.set_cons_zero, List.set_cons_succ, i64_w, i32_w]
      rfl
    refine pure_ (i := 13) (N := some 142) (v := ?_) (a' := ?_) #[true, true, true, true, true, true, true, true, true, true, true, true, true, true, false, false, false, false, false, false, false, false, false, false, false, false, false, false, false] rfl rfl (by kernel_rfl) (fun _ _ _ h => h) (Or.inl ⟨by rfl, ?_⟩) ?_ ?_
    rotate_left
    · intro w'
      go_simp
      with_reducible rfl
    rotate_left
    · simp only [Act.put, List.setIfInBounds_toArray, List.set_cons_zero, List.set_cons_succ, i64_w, i32_w]
      rfl
    refine pure_ (i := 15) (N := some 144) (v := ?_) (a' := ?_) #[true, true, true, true, true, true, true, true, true, true, true, true, true, true, false, true, false, false, false, false, false, false, false, false, false, false, false, false, false] rfl rfl (by kernel_rfl) (fun _ _ _ h => h) (Or.inl ⟨by rfl, ?_⟩) ?_ ?_
    rotate_left
    · intro w'
      go_simp
      with_reducible rfl
    rotate_left
    · simp only [Act.put, List.setIfInBounds_toArray, List.set_cons_zero, List.set_cons_succ, i64_w, i32_w]
      rfl
    refine pure_ (i := 16) (N := some 145) (v := ?_) (a' := ?_) #[true, true, true, true, true, true, true, true, true, true, true, true, true, true, false, true, true, false, false, false, false, false, false, false, false, false, false, false, false] rfl rfl (by kernel_rfl) (fun _ _ _ h => h) (Or.inl ⟨by rfl, ?_⟩) ?_ ?_
    rotate_left
    · intro w'
      go_simp
      with_reducible rfl
    rotate_left
    · simp only [Act.put, List.setIfInBounds_toArray, List.set_cons_zero, List.set_cons_succ, i64_w, i32_w]
      rfl
    refine pure_ (i := 17) (N := some 146) (v := ?_) (a' := ?_) #[true, true, true, true, true, true, true, true, true, true, true, true, true, true, false, true, true, true, false, false, false, false, false, false, false, false, false, false, false] rfl rfl (by kernel_rfl) (fun _ _ _ h => h) (Or.inl ⟨by rfl, ?_⟩) ?_ ?_
    rotate_left
    · intro w'
      go_simp
      with_reducible rfl
    rotate_left
    · simp only [Act.put, List.setIfInBounds_toArray, List.set_cons_zero, List.set_cons_succ, i64_w, i32_w]
      rfl
    refine take_ (i := 18) (N := some 147) (v := ?_) (a' := ?_) #[true, true, true, true, true, true, true, true, true, true, true, true, true, true, false, true, true, true, true, false, false, false, false, false, false, false, false, false, false] rfl rfl (by kernel_rfl) (fun _ _ _ h => h) (Or.inl ⟨by rfl, ?_⟩) hHeld ?_ ?_
    rotate_left
    · intro w' hS
      go_simp
      with_reducible rfl
    rotate_left
    · simp only [Act.put, List.setIfInBounds_toArray, List.set_cons_zero, List.set_cons_succ, i64_w, i32_w]
      rfl
    refine one_ (i := 14) (N := some 143) #[true, true, true, true, true, true, true, true, true, true, true, true, true, true, true, true, true, true, true, false, false, false, false, false, false, false, false, false, false] rfl rfl (by kernel_rfl) (by decide) (fun K hK => ?_)
    refine goes_ Try.func34 (by kernel_rfl) rfl #[.pointer (some ⟨gr, 0, none⟩)] (by rfl) rfl rfl (by (try simp only [List.map_toArray, List.map_cons, List.map_nil]); first | done | rfl) ?_
    refine (RAtB (show RS _ gr S p e from hR)).mono ?_
    rintro e_ w16 ⟨rfl, hb16⟩
    refine ⟨_, rfl, ?_⟩
    clear hHeld
    have hs16 : w15.heap.size ≤ w16.heap.size := hb16.size
    replace hM := blk_below hM hb16
    replace hR := blk_below hR hb16
    replace hW := below_then hW hn0 hb16
    replace hn0 := Nat.le_trans hn0 hs16
    have cM0 : w16.cell? ⟨gm, 0, none⟩ = some (.string S) := (blk_cell hM 0).trans rfl
    have cM1 : w16.cell? ⟨gm, 1, none⟩ = some (.int .i64 p) := (blk_cell hM 1).trans rfl
    have cM2 : w16.cell? ⟨gm, 2, none⟩ = some (.int .i64 e) := (blk_cell hM 2).trans rfl
    have cR0 : w16.cell? ⟨gr, 0, none⟩ = some (.string S) := (blk_cell hR 0).trans rfl
    have cR1 : w16.cell? ⟨gr, 1, none⟩ = some (.int .i64 p) := (blk_cell hR 1).trans rfl
    have cR2 : w16.cell? ⟨gr, 2, none⟩ = some (.int .i64 e) := (blk_cell hR 2).trans rfl
    refine hK.out _ _ (⟨cM0, cM1, cM2, cR0, cR1, cR2⟩) (fun hHeld => ?_)
    clear hK K
    refine norm_ (a' := ?_) ?_ ?_
    rotate_left
    · show Act.put _ (some 143) _ = _
      simp only [Act.put, List.setIfInBounds_toArray, List.set_cons_zero, List.set_cons_succ, i64_w, i32_w]
      rfl
    clear cM0 cM1 cM2 cR0 cR1 cR2
    refine pure_ (i := 19) (N := some 148) (v := ?_) (a' := ?_) #[true, true, true, true, true, true, true, true, true, true, true, true, true, true, true, true, true, true, true, true, false, false, false, false, false, false, false, false, false] rfl rfl (by kernel_rfl) (fun _ _ _ h => h) (Or.inl ⟨by rfl, ?_⟩) ?_ ?_
    rotate_left
    · intro w'
      go_simp
      with_reducible rfl
    rotate_left
    · simp only [Act.put, List.setIfInBounds_toArray, List.set_cons_zero, List.set_cons_succ, i64_w, i32_w]
      rfl
    refine pure_ (i := 20) (N := some 149) (v := ?_) (a' := ?_) #[true, true, true, true, true, true, true, true, true, true, true, true, true, true, true, true, true, true, true, true, true, false, false, false, false, false, false, false, false] rfl rfl (by kernel_rfl) (fun _ _ _ h => h) (Or.inl ⟨by rfl, ?_⟩) ?_ ?_
    rotate_left
    · intro w'
      go_simp
      with_reducible rfl
    rotate_left
    · simp only [Act.put, List.setIfInBounds_toArray, List.set_cons_zero, List.set_cons_succ, i64_w, i32_w]
      rfl
    refine pure_ (i := 21) (N := some 150) (v := ?_) (a' := ?_) #[true, true, true, true, true, true, true, true, true, true, true, true, true, true, true, true, true, true, true, true, true, true, false, false, false, false, false, false, false] rfl rfl (by kernel_rfl) (fun _ _ _ h => h) (Or.inl ⟨by rfl, ?_⟩) ?_ ?_
    rotate_left
    · intro w'
      go_simp
      with_reducible rfl
    rotate_left
    · simp only [Act.put, List.setIfInBounds_toArray, List.set_cons_zero, List.set_cons_succ, i64_w, i32_w]
      rfl
    refine pure_ (i := 22) (N := some 151) (v := ?_) (a' := ?_) #[true, true, true, true, true, true, true, true, true, true, true, true, true, true, true, true, true, true, true, true, true, true, true, false, false, false, false, false, false] rfl rfl (by kernel_rfl) (fun _ _ _ h => h) (Or.inl ⟨by rfl, ?_⟩) ?_ ?_
    rotate_left
    · intro w'
      go_simp
      with_reducible rfl
    rotate_left
    · simp only [Act.put, List.setIfInBounds_toArray, List.set_cons_zero, List.set_cons_succ, i64_w, i32_w]
      rfl
    refine pure_ (i := 24) (N := some 153) (v := ?_) (a' := ?_) #[true, true, true, true, true, true, true, true, true, true, true, true, true, true, true, true, true, true, true, true, true, true, true, false, true, false, false, false, false] rfl rfl (by kernel_rfl) (fun _ _ _ h => h) (Or.inl ⟨by rfl, ?_⟩) ?_ ?_
    rotate_left
    · intro w'
      go_simp
      with_reducible rfl
    rotate_left
    · simp only [Act.put, List.setIfInBounds_toArray, List.set_cons_zero, List.set_cons_succ, i64_w, i32_w]
      rfl
    refine one_ (i := 23) (N := some 152) #[true, true, true, true, true, true, true, true, true, true, true, true, true, true, true, true, true, true, true, true, true, true, true, true, true, false, false, false, false] rfl rfl (by kernel_rfl) (by decide) (fun K hK => ?_)
    refine goes_ Try.func35 (by kernel_rfl) rfl #[.pointer (some ⟨gr, 0, none⟩)] (by rfl) rfl rfl (by (try simp only [List.map_toArray, List.map_cons, List.map_nil]); first | done | rfl) ?_
    refine (REndB (show RS _ gr S p e from hR)).mono ?_
    rintro e_ w17 ⟨rfl, hb17⟩
    refine ⟨_, rfl, ?_⟩
    clear hHeld
    have hs17 : w16.heap.size ≤ w17.heap.size := hb17.size
    replace hM := blk_below hM hb17
    replace hR := blk_below hR hb17
    replace hW := below_then hW hn0 hb17
    replace hn0 := Nat.le_trans hn0 hs17
    have cM0 : w17.cell? ⟨gm, 0, none⟩ = some (.string S) := (blk_cell hM 0).trans rfl
    have cM1 : w17.cell? ⟨gm, 1, none⟩ = some (.int .i64 p) := (blk_cell hM 1).trans rfl
    have cM2 : w17.cell? ⟨gm, 2, none⟩ = some (.int .i64 e) := (blk_cell hM 2).trans rfl
    have cR0 : w17.cell? ⟨gr, 0, none⟩ = some (.string S) := (blk_cell hR 0).trans rfl
    have cR1 : w17.cell? ⟨gr, 1, none⟩ = some (.int .i64 p) := (blk_cell hR 1).trans rfl
    have cR2 : w17.cell? ⟨gr, 2, none⟩ = some (.int .i64 e) := (blk_cell hR 2).trans rfl
    refine hK.out _ _ (⟨cM0, cM1, cM2, cR0, cR1, cR2⟩) (fun hHeld => ?_)
    clear hK K
    refine norm_ (a' := ?_) ?_ ?_
    rotate_left
    · show Act.put _ (some 152) _ = _
      simp only [Act.put, List.setIfInBounds_toArray, List.set_cons_zero, List.set_cons_succ, i64_w, i32_w]
      rfl
    clear cM0 cM1 cM2 cR0 cR1 cR2
    refine one_ (i := 25) (N := some 154) #[true, true, true, true, true, true, true, true, true, true, true, true, true, true, true, true, true, true, true, true, true, true, true, true, true, true, false, false, false] rfl rfl (by kernel_rfl) (by decide) (fun K hK => ?_)
    refine goes_ Try.func36 (by kernel_rfl) rfl #[.pointer (some ⟨gm, 0, none⟩)] (by rfl) rfl rfl (by (try simp only [List.map_toArray, List.map_cons, List.map_nil]); first | done | rfl) ?_
    refine (MEndB (show MS _ gm S p e from hM)).mono ?_
    rintro e_ w18 ⟨rfl, hb18⟩
    refine ⟨_, rfl, ?_⟩
    clear hHeld
    have hs18 : w17.heap.size ≤ w18.heap.size := hb18.size
    replace hM := blk_below hM hb18
    replace hR := blk_below hR hb18
    replace hW := below_then hW hn0 hb18
    replace hn0 := Nat.le_trans hn0 hs18
    have cM0 : w18.cell? ⟨gm, 0, none⟩ = some (.string S) := (blk_cell hM 0).trans rfl
    have cM1 : w18.cell? ⟨gm, 1, none⟩ = some (.int .i64 p) := (blk_cell hM 1).trans rfl
    have cM2 : w18.cell? ⟨gm, 2, none⟩ = some (.int .i64 e) := (blk_cell hM 2).trans rfl
    have cR0 : w18.cell? ⟨gr, 0, none⟩ = some (.string S) := (blk_cell hR 0).trans rfl
    have cR1 : w18.cell? ⟨gr, 1, none⟩ = some (.int .i64 p) := (blk_cell hR 1).trans rfl
    have cR2 : w18.cell? ⟨gr, 2, none⟩ = some (.int .i64 e) := (blk_cell hR 2).trans rfl
    refine hK.out _ _ (⟨cM0, cM1, cM2, cR0, cR1, cR2⟩) (fun hHeld => ?_)
    clear hK K
    refine norm_ (a' := ?_) ?_ ?_
    rotate_left
    · show Act.put _ (some 154) _ = _
      simp only [Act.put, List.setIfInBounds_toArray, List.set_cons_zero, List.set_cons_succ, i64_w, i32_w]
      rfl
    clear cM0 cM1 cM2 cR0 cR1 cR2
    refine pure_ (i := 26) (N := some 155) (v := ?_) (a' := ?_) #[true, true, true, true, true, true, true, true, true, true, true, true, true, true, true, true, true, true, true, true, true, true, true, true, true, true, true, false, false] rfl rfl (by kernel_rfl) (fun _ _ _ h => h) (Or.inl ⟨by rfl, ?_⟩) ?_ ?_
    rotate_left
    · intro w'
      go_simp
      with_reducible rfl
    rotate_left
    · simp only [Act.put, List.setIfInBounds_toArray, List.set_cons_zero, List.set_cons_succ, i64_w, i32_w]
      rfl
    refine pure_ (i := 27) (N := some 156) (v := ?_) (a' := ?_) #[true, true, true, true, true, true, true, true, true, true, true, true, true, true, true, true, true, true, true, true, true, true, true, true, true, true, true, true, false] rfl rfl (by kernel_rfl) (fun _ _ _ h => h) (Or.inl ⟨by rfl, ?_⟩) ?_ ?_
    rotate_left
    · intro w'
      go_simp
      with_reducible rfl
    rotate_left
    · simp only [Act.put, List.setIfInBounds_toArray, List.set_cons_zero, List.set_cons_succ, i64_w, i32_w]
      rfl
    refine pure_ (i := 28) (N := some 8) (v := ?_) (a' := ?_) #[true, true, true, true, true, true, true, true, true, true, true, true, true, true, true, true, true, true, true, true, true, true, true, true, true, true, true, true, true] rfl rfl (by kernel_rfl) (fun _ _ _ h => h) (Or.inl ⟨by rfl, ?_⟩) ?_ ?_
    rotate_left
    · intro w'
      go_simp
      with_reducible rfl
    rotate_left
    · simp only [Act.put, List.setIfInBounds_toArray, List.set_cons_zero, List.set_cons_succ, i64_w, i32_w]
      rfl
    refine done_ (by kernel_rfl) ?_
    clear hHeld
    go_wp2_with fail
    go_ret
    exact ⟨rfl, hW⟩
  case true =>
    go_wp2_with fail
    refine (MFail hM _).mono ?_
    rintro e_ w1 ⟨rfl, hM1, ha⟩
    have hR1 : RS w1 gr S 0 0 := (ha.2 gr (Ne.symm hne) (blk_lt hR)).trans hR
    replace hW := below_alone1 hW ha hn0 hn2
    replace hn2 := Nat.le_trans hn2 ha.1.size
    clear hM hR ha
    go_wp2_with fail
    refine (RFail_any hR1 _).mono ?_
    rintro e_ w2 ⟨rfl, hR, ha⟩
    have hM := (ha.2 gm hne (blk_lt hM1)).trans hM1
    replace hW := below_alone1 hW ha hgr hn2
    replace hn2 := Nat.le_trans hn2 ha.1.size
    clear hM1 hR1 ha
    go_wp2_with fail
    refine (MTake hM (Nat.zero_le _) hSz).mono ?_
    rintro e_ wt ⟨vx, rfl, hx, hM2, ha⟩
    have hR2 : RS wt gr S 0 (fe 0 4) := (ha.2 gr (Ne.symm hne) (blk_lt hR)).trans hR
    have hW2 := below_alone1 hW ha hn0 hn2
    have hn3 := Nat.le_trans hn2 ha.1.size
    clear hM hR ha hW
    go_wp2_with fail
    refine (RTake hR2 (Nat.zero_le _) hSz).mono ?_
    rintro e_ wu ⟨vy, rfl, hy, hR3, ha2⟩
    have hM3 := (ha2.2 gm hne (blk_lt hM2)).trans hM2
    have hx2 := ha2.block hx hR2 (by decide)
    have hW3 := below_alone1 hW2 ha2 hgr hn3
    have hn4 := Nat.le_trans hn3 ha2.1.size
    clear hM2 hR2 hx ha2 hW2
    have hTl := takeV_len S 0 (fe 0 4)
    generalize takeV S 0 (fe 0 4) = T at *
    obtain ⟨ts, p, e⟩ := T
    dsimp only at hx2 hy hM3 hR3 hTl
    obtain ⟨Rx, qx, rfl⟩ := Kd.R_slice hx2
    obtain ⟨Ry, qy, rfl⟩ := Kd.R_slice hy
    go_wp2_with fail
    have hM : wu.heap[gm]? = some (.cells #[.string S, .int .i64 p, .int .i64 e] 47 (0, 0)) := hM3
    have hR : wu.heap[gr]? = some (.cells #[.string S, .int .i64 p, .int .i64 e] 79 (0, 0)) := hR3
    have hW := hW3
    have hn0 := hn4
    clear hM3 hR3 hW3 hn4 hn3
    have cM0 : wu.cell? ⟨gm, 0, none⟩ = some (.string S) := (blk_cell hM 0).trans rfl
    have cM1 : wu.cell? ⟨gm, 1, none⟩ = some (.int .i64 p) := (blk_cell hM 1).trans rfl
    have cM2 : wu.cell? ⟨gm, 2, none⟩ = some (.int .i64 e) := (blk_cell hM 2).trans rfl
    have cR0 : wu.cell? ⟨gr, 0, none⟩ = some (.string S) := (blk_cell hR 0).trans rfl
    have cR1 : wu.cell? ⟨gr, 1, none⟩ = some (.int .i64 p) := (blk_cell hR 1).trans rfl
    have cR2 : wu.cell? ⟨gr, 2, none⟩ = some (.int .i64 e) := (blk_cell hR 2).trans rfl
    refine start_ (n := 29) (S := fun w' => w'.cell? ⟨gm, 0, none⟩ = some (.string S) ∧ w'.cell? ⟨gm, 1, none⟩ = some (.int .i64 p) ∧ w'.cell? ⟨gm, 2, none⟩ = some (.int .i64 e) ∧ w'.cell? ⟨gr, 0, none⟩ = some (.string S) ∧ w'.cell? ⟨gr, 1, none⟩ = some (.int .i64 p) ∧ w'.cell? ⟨gr, 2, none⟩ = some (.int .i64 e)) (ds := []) #[false, false, false, false, false, false, false, false, false, false, false, false, false, false, false, false, false, false, false, false, false, false, false, false, false, false, false, false, false] (by kernel_rfl) rfl rfl (⟨cM0, cM1, cM2, cR0, cR1, cR2⟩) (fun hHeld => ?_)
    clear cM0 cM1 cM2 cR0 cR1 cR2
    have hb19 : Below wu.heap.size wu wu.drew := below_drew (Below.refl _ _)
    have hs19 : wu.heap.size ≤ wu.drew.heap.size := hb19.size
    replace hx2 := Kd.R_below hx2 hb19
    replace hy := Kd.R_below hy hb19
    replace hM := blk_below hM hb19
    replace hR := blk_below hR hb19
    replace hW := below_then hW hn0 hb19
    replace hn0 := Nat.le_trans hn0 hs19
    generalize wu.drew = w19 at *
    refine pure_ (i := 0) (N := some 129) (v := ?_) (a' := ?_) #[true, false, false, false, false, false, false, false, false, false, false, false, false, false, false, false, false, false, false, false, false, false, false, false, false, false, false, false, false] rfl rfl (by kernel_rfl) (fun _ _ _ h => h) (Or.inl ⟨by rfl, ?_⟩) ?_ ?_
    rotate_left
    · intro w'
      go_simp
      with_reducible rfl
    rotate_left
    · simp only [Act.put, List.setIfInBounds_toArray, List.set_cons_zero, List.set_cons_succ, i64_w, i32_w]
      rfl
    refine pure_ (i := 1) (N := some 130) (v := ?_) (a' := ?_) #[true, true, false, false, false, false, false, false, false, false, false, false, false, false, false, false, false, false, false, false, false, false, false, false, false, false, false, false, false] rfl rfl (by kernel_rfl) (fun _ _ _ h => h) (Or.inl ⟨by rfl, ?_⟩) ?_ ?_
    rotate_left
    · intro w'
      go_simp
      with_reducible rfl
    rotate_left
    · simp only [Act.put, List.setIfInBounds_toArray, List.set_cons_zero, List.set_cons_succ, i64_w, i32_w]
      rfl
    refine one_ (i := 2) (N := some 131) #[true, true, true, false, false, false, false, false, false, false, false, false, false, false, false, false, false, false, false, false, false, false, false, false, false, false, false, false, false] rfl rfl (by kernel_rfl) (by decide) (fun K hK => ?_)
    refine goes_ Try.func14 (by kernel_rfl) rfl #[.slice Rx ts.length qx, .slice Ry ts.length qy] (by rfl) rfl rfl (by (try simp only [List.map_toArray, List.map_cons, List.map_nil]); first | done | rfl) ?_
    refine (sameN _ hx2 hy hTl).mono ?_
    rintro e_ w20 ⟨rfl, hb20⟩
    refine ⟨_, rfl, ?_⟩
    clear hHeld
    have hs20 : w19.heap.size ≤ w20.heap.size := hb20.size
    replace hx2 := Kd.R_below hx2 hb20
    replace hy := Kd.R_below hy hb20
    replace hM := blk_below hM hb20
    replace hR := blk_below hR hb20
    replace hW := below_then hW hn0 hb20
    replace hn0 := Nat.le_trans hn0 hs20
    have cM0 : w20.cell? ⟨gm, 0, none⟩ = some (.string S) := (blk_cell hM 0).trans rfl
    have cM1 : w20.cell? ⟨gm, 1, none⟩ = some (.int .i64 p) := (blk_cell hM 1).trans rfl
    have cM2 : w20.cell? ⟨gm, 2, none⟩ = some (.int .i64 e) := (blk_cell hM 2).trans rfl
    have cR0 : w20.cell? ⟨gr, 0, none⟩ = some (.string S) := (blk_cell hR 0).trans rfl
    have cR1 : w20.cell? ⟨gr, 1, none⟩ = some (.int .i64 p) := (blk_cell hR 1).trans rfl
    have cR2 : w20.cell? ⟨gr, 2, none⟩ = some (.int .i64 e) := (blk_cell hR 2).trans rfl
    refine hK.out _ _ (⟨cM0, cM1, cM2, cR0, cR1, cR2⟩) (fun hHeld => ?_)
    clear hK K
    refine norm_ (a' := ?_) ?_ ?_
    rotate_left
    · show Act.put _ (some 131) _ = _
      simp only [Act.put, List.setIfInBounds_toArray, List.set_cons_zero, List.set_cons_succ, i64_w, i32_w]
      rfl
    clear cM0 cM1 cM2 cR0 cR1 cR2
    refine pure_ (i := 3) (N := some 132) (v := ?_) (a' := ?_) #[true, true, true, true, false, false, false, false, false, false, false, false, false, false, false, false, false, false, false, false, false, false, false, false, false, false, false, false, false] rfl rfl (by kernel_rfl) (fun _ _ _ h => h) (Or.inl ⟨by rfl, ?_⟩) ?_ ?_
    rotate_left
    · intro w'
      go_simp
      with_reducible rfl
    rotate_left
    · simp only [Act.put, List.setIfInBounds_toArray, List.set_cons_zero, List.set_cons_succ, i64_w, i32_w]
      rfl
    refine pure_ (i := 4) (N := some 133) (v := ?_) (a' := ?_) #[true, true, true, true, true, false, false, false, false, false, false, false, false, false, false, false, false, false, false, false, false, false, false, false, false, false, false, false, false] rfl rfl (by kernel_rfl) (fun _ _ _ h => h) (Or.inl ⟨by rfl, ?_⟩) ?_ ?_
    rotate_left
    · intro w'
      go_simp
      with_reducible rfl
    rotate_left
    · simp only [Act.put, List.setIfInBounds_toArray, List.set_cons_zero, List.set_cons_succ, i64_w, i32_w]
      rfl
    refine pure_ (i := 6) (N := some 135) (v := ?_) (a' := ?_) #[true, true, true, true, true, false, true, false, false, false, false, false, false, false, false, false, false, false, false, false, false, false, false, false, false, false, false, false, false] rfl rfl (by kernel_rfl) (fun _ _ _ h => h) (Or.inl ⟨by rfl, ?_⟩) ?_ ?_
    rotate_left
    · intro w'
      go_simp
      with_reducible rfl
    rotate_left
    · simp only [Act.put, List.setIfInBounds_toArray, List.set_cons_zero, List.set_cons_succ, i64_w, i32_w]
      rfl
    refine pure_ (i := 7) (N := some 136) (v := ?_) (a' := ?_) #[true, true, true, true, true, false, true, true, false, false, false, false, false, false, false, false, false, false, false, false, false, false, false, false, false, false, false, false, false] rfl rfl (by kernel_rfl) (fun _ _ _ h => h) (Or.inl ⟨by rfl, ?_⟩) ?_ ?_
    rotate_left
    · intro w'
      go_simp
      with_reducible rfl
    rotate_left
    · simp only [Act.put, List.setIfInBounds_toArray, List.set_cons_zero, List.set_cons_succ, i64_w, i32_w]
      rfl
    refine pure_ (i := 8) (N := some 137) (v := ?_) (a' := ?_) #[true, true, true, true, true, false, true, true, true, false, false, false, false, false, false, false, false, false, false, false, false, false, false, false, false, false, false, false, false] rfl rfl (by kernel_rfl) (fun _ _ _ h => h) (Or.inl ⟨by rfl, ?_⟩) ?_ ?_
    rotate_left
    · intro w'
      go_simp
      with_reducible rfl
    rotate_left
    · simp only [Act.put, List.setIfInBounds_toArray, List.set_cons_zero, List.set_cons_succ, i64_w, i32_w]
      rfl
    refine take_ (i := 9) (N := some 138) (v := ?_) (a' := ?_) #[true, true, true, true, true, false, true, true, true, true, false, false, false, false, false, false, false, false, false, false, false, false, false, false, false, false, false, false, false] rfl rfl (by kernel_rfl) (fun _ _ _ h => h) (Or.inl ⟨by rfl, ?_⟩) hHeld ?_ ?_
    rotate_left
    · intro w' hS
      go_simp
      with_reducible rfl
    rotate_left
    · simp only [Act.put, List.setIfInBounds_toArray, List.set_cons_zero, List.set_cons_succ, i64_w, i32_w]
      rfl
    refine one_ (i := 5) (N := some 134) #[true, true, true, true, true, true, true, true, true, true, false, false, false, false, false, false, false, false, false, false, false, false, false, false, false, false, false, false, false] rfl rfl (by kernel_rfl) (by decide) (fun K hK => ?_)
    refine goes_ Try.func33 (by kernel_rfl) rfl #[.pointer (some ⟨gr, 0, none⟩)] (by rfl) rfl rfl (by (try simp only [List.map_toArray, List.map_cons, List.map_nil]); first | done | rfl) ?_
    refine (RErrB (show RS _ gr S p e from hR)).mono ?_
    rintro e_ w21 ⟨rfl, hb21⟩
    refine ⟨_, rfl, ?_⟩
    clear hHeld
    have hs21 : w20.heap.size ≤ w21.heap.size := hb21.size
    replace hM := blk_below hM hb21
    replace hR := blk_below hR hb21
    replace hW := below_then hW hn0 hb21
    replace hn0 := Nat.le_trans hn0 hs21
    have cM0 : w21.cell? ⟨gm, 0, none⟩ = some (.string S) := (blk_cell hM 0).trans rfl
    have cM1 : w21.cell? ⟨gm, 1, none⟩ = some (.int .i64 p) := (blk_cell hM 1).trans rfl
    have cM2 : w21.cell? ⟨gm, 2, none⟩ = some (.int .i64 e) := (blk_cell hM 2).trans rfl
    have cR0 : w21.cell? ⟨gr, 0, none⟩ = some (.string S) := (blk_cell hR 0).trans rfl
    have cR1 : w21.cell? ⟨gr, 1, none⟩ = some (.int .i64 p) := (blk_cell hR 1).trans rfl
    have cR2 : w21.cell? ⟨gr, 2, none⟩ = some (.int .i64 e) := (blk_cell hR 2).trans rfl
    refine hK.out _ _ (⟨cM0, cM1, cM2, cR0, cR1, cR2⟩) (fun hHeld => ?_)
    clear hK K
    refine norm_ (a' := ?_) ?_ ?_
    rotate_left
    · show Act.put _ (some 134) _ = _
      simp only [Act.put, List.setIfInBounds_toArray, List.set_cons_zero, List.set_cons_succ, i64_w, i32_w]
      rfl
    clear cM0 cM1 cM2 cR0 cR1 cR2
    refine pure_ (i := 10) (N := some 139) (v := ?_) (a' := ?_) #[true, true, true, true, true, true, true, true, true, true, true, false, false, false, false, false, false, false, false, false, false, false, false, false, false, false, false, false, false] rfl rfl (by kernel_rfl) (fun _ _ _ h => h) (Or.inl ⟨by rfl, ?_⟩) ?_ ?_
    rotate_left
    · intro w'
      go_simp
      with_reducible rfl
    rotate_left
    · simp only [Act.put, List.setIfInBounds_toArray, List.set_cons_zero, List.set_cons_succ, i64_w, i32_w]
      rfl
    refine pure_ (i := 11) (N := some 140) (v := ?_) (a' := ?_) #[true, true, true, true, true, true, true, true, true, true, true, true, false, false, false, false, false, false, false, false, false, false, false, false, false, false, false, false, false] rfl rfl (by kernel_rfl) (fun _ _ _ h => h) (Or.inl ⟨by rfl, ?_⟩) ?_ ?_
    rotate_left
    · intro w'
      go_simp
      with_reducible rfl
    rotate_left
    · simp only [Act.put, List.setIfInBounds_toArray, List.set_cons_zero, List.set_cons_succ, i64_w, i32_w]
      rfl
    refine pure_ (i := 12) (N := some 141) (v := ?_) (a' := ?_) #[true, true, true, true, true, true, true, true, true, true, true, true, true, false, false, false, false, false, false, false, false, false, false, false, false, false, false, false, false] rfl rfl (by kernel_rfl) (fun _ _ _ h => h) (Or.inl ⟨by rfl, ?_⟩) ?_ ?_
    rotate_left
    · intro w'
      go_simp
      with_reducible rfl
    rotate_left
    · simp only [Act.put, List.setIfInBounds_toArray, List.set_cons_zero, List.set_cons_succ, i64_w, i32_w]
      rfl
    refine pure_ (i := 13) (N := some 142) (v := ?_) (a' := ?_) #[true, true, true, true, true, true, true, true, true, true, true, true, true, true, false, false, false, false, false, false, false, false, false, false, false, false, false, false, false] rfl rfl (by kernel_rfl) (fun _ _ _ h => h) (Or.inl ⟨by rfl, ?_⟩) ?_ ?_
    rotate_left
    · intro w'
      go_simp
      with_reducible rfl
    rotate_left
    · simp only [Act.put, List.setIfInBounds_toArray, List.set_cons_zero, List.set_cons_succ, i64_w, i32_w]
      rfl
    refine pure_ (i := 15) (N := some 144) (v := ?_) (a' := ?_) #[true, true, true, true, true, true, true, true, true, true, true, true, true, true, false, true, false, false, false, false, false, false, false, false, false, false, false, false, false] rfl rfl (by kernel_rfl) (fun _ _ _ h => h) (Or.inl ⟨by rfl, ?_⟩) ?_ ?_
    rotate_left
    · intro w'
      go_simp
      with_reducible rfl
    rotate_left
    · simp only [Act.put, List.setIfInBounds_toArray, List.set_cons_zero, List.set_cons_succ, i64_w, i32_w]
      rfl
    refine pure_ (i := 16) (N := some 145) (v := ?_) (a' := ?_) #[true, true, true, true, true, true, true, true, true, true, true, true, true, true, false, true, true, false, false, false, false, false, false, false, false, false, false, false, false] rfl rfl (by kernel_rfl) (fun _ _ _ h => h) (Or.inl ⟨by rfl, ?_⟩) ?_ ?_
    rotate_left
    · intro w'
      go_simp
      with_reducible rfl
    rotate_left
    · simp only [Act.put, List.setIfInBounds_toArray, List.set_cons_zero, List.set_cons_succ, i64_w, i32_w]
      rfl
    refine pure_ (i := 17) (N := some 146) (v := ?_) (a' := ?_) #[true, true, true, true, true, true, true, true, true, true, true, true, true, true, false, true, true, true, false, false, false, false, false, false, false, false, false, false, false] rfl rfl (by kernel_rfl) (fun _ _ _ h => h) (Or.inl ⟨by rfl, ?_⟩) ?_ ?_
    rotate_left
    · intro w'
      go_simp
      with_reducible rfl
    rotate_left
    · simp only [Act.put, List.setIfInBounds_toArray, List.set_cons_zero, List.set_cons_succ, i64_w, i32_w]
      rfl
    refine take_ (i := 18) (N := some 147) (v := ?_) (a' := ?_) #[true, true, true, true, true, true, true, true, true, true, true, true, true, true, false, true, true, true, true, false, false, false, false, false, false, false, false, false, false] rfl rfl (by kernel_rfl) (fun _ _ _ h => h) (Or.inl ⟨by rfl, ?_⟩) hHeld ?_ ?_
    rotate_left
    · intro w' hS
      go_simp
      with_reducible rfl
    rotate_left
    · simp only [Act.put, List.setIfInBounds_toArray, List.set_cons_zero, List.set_cons_succ, i64_w, i32_w]
      rfl
    refine one_ (i := 14) (N := some 143) #[true, true, true, true, true, true, true, true, true, true, true, true, true, true, true, true, true, true, true, false, false, false, false, false, false, false, false, false, false] rfl rfl (by kernel_rfl) (by decide) (fun K hK => ?_)
    refine goes_ Try.func34 (by kernel_rfl) rfl #[.pointer (some ⟨gr, 0, none⟩)] (by rfl) rfl rfl (by (try simp only [List.map_toArray, List.map_cons, List.map_nil]); first | done | rfl) ?_
    refine (RAtB (show RS _ gr S p e from hR)).mono ?_
    rintro e_ w22 ⟨rfl, hb22⟩
    refine ⟨_, rfl, ?_⟩
    clear hHeld
    have hs22 : w21.heap.size ≤ w22.heap.size := hb22.size
    replace hM := blk_below hM hb22
    replace hR := blk_below hR hb22
    replace hW := below_then hW hn0 hb22
    replace hn0 := Nat.le_trans hn0 hs22
    have cM0 : w22.cell? ⟨gm, 0, none⟩ = some (.string S) := (blk_cell hM 0).trans rfl
    have cM1 : w22.cell? ⟨gm, 1, none⟩ = some (.int .i64 p) := (blk_cell hM 1).trans rfl
    have cM2 : w22.cell? ⟨gm, 2, none⟩ = some (.int .i64 e) := (blk_cell hM 2).trans rfl
    have cR0 : w22.cell? ⟨gr, 0, none⟩ = some (.string S) := (blk_cell hR 0).trans rfl
    have cR1 : w22.cell? ⟨gr, 1, none⟩ = some (.int .i64 p) := (blk_cell hR 1).trans rfl
    have cR2 : w22.cell? ⟨gr, 2, none⟩ = some (.int .i64 e) := (blk_cell hR 2).trans rfl
    refine hK.out _ _ (⟨cM0, cM1, cM2, cR0, cR1, cR2⟩) (fun hHeld => ?_)
    clear hK K
    refine norm_ (a' := ?_) ?_ ?_
    rotate_left
    · show Act.put _ (some 143) _ = _
      simp only [Act.put, List.setIfInBounds_toArray, List.set_cons_zero, List.set_cons_succ, i64_w, i32_w]
      rfl
    clear cM0 cM1 cM2 cR0 cR1 cR2
    refine pure_ (i := 19) (N := some 148) (v := ?_) (a' := ?_) #[true, true, true, true, true, true, true, true, true, true, true, true, true, true, true, true, true, true, true, true, false, false, false, false, false, false, false, false, false] rfl rfl (by kernel_rfl) (fun _ _ _ h => h) (Or.inl ⟨by rfl, ?_⟩) ?_ ?_
    rotate_left
    · intro w'
      go_simp
      with_reducible rfl
    rotate_left
    · simp only [Act.put, List.setIfInBounds_toArray, List.set_cons_zero, List.set_cons_succ, i64_w, i32_w]
      rfl
    refine pure_ (i := 20) (N := some 149) (v := ?_) (a' := ?_) #[true, true, true, true, true, true, true, true, true, true, true, true, true, true, true, true, true, true, true, true, true, false, false, false, false, false, false, false, false] rfl rfl (by kernel_rfl) (fun _ _ _ h => h) (Or.inl ⟨by rfl, ?_⟩) ?_ ?_
    rotate_left
    · intro w'
      go_simp
      with_reducible rfl
    rotate_left
    · simp only [Act.put, List.setIfInBounds_toArray, List.set_cons_zero, List.set_cons_succ, i64_w, i32_w]
      rfl
    refine pure_ (i := 21) (N := some 150) (v := ?_) (a' := ?_) #[true, true, true, true, true, true, true, true, true, true, true, true, true, true, true, true, true, true, true, true, true, true, false, false, false, false, false, false, false] rfl rfl (by kernel_rfl) (fun _ _ _ h => h) (Or.inl ⟨by rfl, ?_⟩) ?_ ?_
    rotate_left
    · intro w'
      go_simp
      with_reducible rfl
    rotate_left
    · simp only [Act.put, List.setIfInBounds_toArray, List.set_cons_zero, List.set_cons_succ, i64_w, i32_w]
      rfl
    refine pure_ (i := 22) (N := some 151) (v := ?_) (a' := ?_) #[true, true, true, true, true, true, true, true, true, true, true, true, true, true, true, true, true, true, true, true, true, true, true, false, false, false, false, false, false] rfl rfl (by kernel_rfl) (fun _ _ _ h => h) (Or.inl ⟨by rfl, ?_⟩) ?_ ?_
    rotate_left
    · intro w'
      go_simp
      with_reducible rfl
    rotate_left
    · simp only [Act.put, List.setIfInBounds_toArray, List.set_cons_zero, List.set_cons_succ, i64_w, i32_w]
      rfl
    refine pure_ (i := 24) (N := some 153) (v := ?_) (a' := ?_) #[true, true, true, true, true, true, true, true, true, true, true, true, true, true, true, true, true, true, true, true, true, true, true, false, true, false, false, false, false] rfl rfl (by kernel_rfl) (fun _ _ _ h => h) (Or.inl ⟨by rfl, ?_⟩) ?_ ?_
    rotate_left
    · intro w'
      go_simp
      with_reducible rfl
    rotate_left
    · simp only [Act.put, List.setIfInBounds_toArray, List.set_cons_zero, List.set_cons_succ, i64_w, i32_w]
      rfl
    refine one_ (i := 23) (N := some 152) #[true, true, true, true, true, true, true, true, true, true, true, true, true, true, true, true, true, true, true, true, true, true, true, true, true, false, false, false, false] rfl rfl (by kernel_rfl) (by decide) (fun K hK => ?_)
    refine goes_ Try.func35 (by kernel_rfl) rfl #[.pointer (some ⟨gr, 0, none⟩)] (by rfl) rfl rfl (by (try simp only [List.map_toArray, List.map_cons, List.map_nil]); first | done | rfl) ?_
    refine (REndB (show RS _ gr S p e from hR)).mono ?_
    rintro e_ w23 ⟨rfl, hb23⟩
    refine ⟨_, rfl, ?_⟩
    clear hHeld
    have hs23 : w22.heap.size ≤ w23.heap.size := hb23.size
    replace hM := blk_below hM hb23
    replace hR := blk_below hR hb23
    replace hW := below_then hW hn0 hb23
    replace hn0 := Nat.le_trans hn0 hs23
    have cM0 : w23.cell? ⟨gm, 0, none⟩ = some (.string S) := (blk_cell hM 0).trans rfl
    have cM1 : w23.cell? ⟨gm, 1, none⟩ = some (.int .i64 p) := (blk_cell hM 1).trans rfl
    have cM2 : w23.cell? ⟨gm, 2, none⟩ = some (.int .i64 e) := (blk_cell hM 2).trans rfl
    have cR0 : w23.cell? ⟨gr, 0, none⟩ = some (.string S) := (blk_cell hR 0).trans rfl
    have cR1 : w23.cell? ⟨gr, 1, none⟩ = some (.int .i64 p) := (blk_cell hR 1).trans rfl
    have cR2 : w23.cell? ⟨gr, 2, none⟩ = some (.int .i64 e) := (blk_cell hR 2).trans rfl
    refine hK.out _ _ (⟨cM0, cM1, cM2, cR0, cR1, cR2⟩) (fun hHeld => ?_)
    clear hK K
    refine norm_ (a' := ?_) ?_ ?_
    rotate_left
    · show Act.put _ (some 152) _ = _
      simp only [Act.put, List.setIfInBounds_toArray, List.set_cons_zero, List.set_cons_succ, i64_w, i32_w]
      rfl
    clear cM0 cM1 cM2 cR0 cR1 cR2
    refine one_ (i := 25) (N := some 154) #[true, true, true, true, true, true, true, true, true, true, true, true, true, true, true, true, true, true, true, true, true, true, true, true, true, true, false, false, false] rfl rfl (by kernel_rfl) (by decide) (fun K hK => ?_)
    refine goes_ Try.func36 (by kernel_rfl) rfl #[.pointer (some ⟨gm, 0, none⟩)] (by rfl) rfl rfl (by (try simp only [List.map_toArray, List.map_cons, List.map_nil]); first | done | rfl) ?_
    refine (MEndB (show MS _ gm S p e from hM)).mono ?_
    rintro e_ w24 ⟨rfl, hb24⟩
    refine ⟨_, rfl, ?_⟩
    clear hHeld
    have hs24 : w23.heap.size ≤ w24.heap.size := hb24.size
    replace hM := blk_below hM hb24
    replace hR := blk_below hR hb24
    replace hW := below_then hW hn0 hb24
    replace hn0 := Nat.le_trans hn0 hs24
    have cM0 : w24.cell? ⟨gm, 0, none⟩ = some (.string S) := (blk_cell hM 0).trans rfl
    have cM1 : w24.cell? ⟨gm, 1, none⟩ = some (.int .i64 p) := (blk_cell hM 1).trans rfl
    have cM2 : w24.cell? ⟨gm, 2, none⟩ = some (.int .i64 e) := (blk_cell hM 2).trans rfl
    have cR0 : w24.cell? ⟨gr, 0, none⟩ = some (.string S) := (blk_cell hR 0).trans rfl
    have cR1 : w24.cell? ⟨gr, 1, none⟩ = some (.int .i64 p) := (blk_cell hR 1).trans rfl
    have cR2 : w24.cell? ⟨gr, 2, none⟩ = some (.int .i64 e) := (blk_cell hR 2).trans rfl
    refine hK.out _ _ (⟨cM0, cM1, cM2, cR0, cR1, cR2⟩) (fun hHeld => ?_)
    clear hK K
    refine norm_ (a' := ?_) ?_ ?_
    rotate_left
    · show Act.put _ (some 154) _ = _
      simp only [Act.put, List.setIfInBounds_toArray, List.set_cons_zero, List.set_cons_succ, i64_w, i32_w]
      rfl
    clear cM0 cM1 cM2 cR0 cR1 cR2
    refine pure_ (i := 26) (N := some 155) (v := ?_) (a' := ?_) #[true, true, true, true, true, true, true, true, true, true, true, true, true, true, true, true, true, true, true, true, true, true, true, true, true, true, true, false, false] rfl rfl (by kernel_rfl) (fun _ _ _ h => h) (Or.inl ⟨by rfl, ?_⟩) ?_ ?_
    rotate_left
    · intro w'
      go_simp
      with_reducible rfl
    rotate_left
    · simp only [Act.put, List.setIfInBounds_toArray, List.set_cons_zero, List.set_cons_succ, i64_w, i32_w]
      rfl
    refine pure_ (i := 27) (N := some 156) (v := ?_) (a' := ?_) #[true, true, true, true, true, true, true, true, true, true, true, true, true, true, true, true, true, true, true, true, true, true, true, true, true, true, true, true, false] rfl rfl (by kernel_rfl) (fun _ _ _ h => h) (Or.inl ⟨by rfl, ?_⟩) ?_ ?_
    rotate_left
    · intro w'
      go_simp
      with_reducible rfl
    rotate_left
    · simp only [Act.put, List.setIfInBounds_toArray, List.set_cons_zero, List.set_cons_succ, i64_w, i32_w]
      rfl
    refine pure_ (i := 28) (N := some 8) (v := ?_) (a' := ?_) #[true, true, true, true, true, true, true, true, true, true, true, true, true, true, true, true, true, true, true, true, true, true, true, true, true, true, true, true, true] rfl rfl (by kernel_rfl) (fun _ _ _ h => h) (Or.inl ⟨by rfl, ?_⟩) ?_ ?_
    rotate_left
    · intro w'
      go_simp
      with_reducible rfl
    rotate_left
    · simp only [Act.put, List.setIfInBounds_toArray, List.set_cons_zero, List.set_cons_succ, i64_w, i32_w]
      rfl
    refine done_ (by kernel_rfl) ?_
    clear hHeld
    go_wp2_with fail
    go_ret
    exact ⟨rfl, hW⟩
theorem VectorBytes_walk (w : World) (A : Option Addr) (c : Nat) (a : List Dt) (hc : a.length ≤ c) (hA : Kd.C kD w A a.length a) (wa : ∀ x ∈ a, DotOk x) (la : a.length * 16 ≤ 140737488351232) (s : ByteArray) (hs : s.size ≤ 140737488351232) (rest : ByteArray) (hrest : rest.size ≤ 140737488351232) (failed : Bool) :
    Calls Try.prog 5 #[.slice A a.length c, .string s, .string rest, .bool failed] w fun e w' => e = .returned (.bool true) ∧ Below w.heap.size w w' :=
  vectorBytes_go w A c a hA hc (by
    refine Bool.and_eq_true_iff.2 ⟨decide_eq_true (by omega), List.all_eq_true.2 (fun x hx => decide_eq_true ?_)⟩
    have := wa x hx
    exact ⟨this.1.1, this.1.2, this.2.1⟩) la s hs rest hrest failed
end Go.Proofs.Ytgcmmiihjiiemaa.My
