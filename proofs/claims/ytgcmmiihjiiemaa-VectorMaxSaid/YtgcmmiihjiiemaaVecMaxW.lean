/- VectorMax. -/
import Derived.Test.YtgcmmiihjiiemaaVecMaxP
import Derived.Test.YtgcmmiihjiiemaaVecDots
namespace Go.Proofs.Ytgcmmiihjiiemaa.My
open Go.RowKit Go.Proofs.YtgcmmiihjiiemaaW.PrintWords Go.Proofs.YtgcmmiihjiiemaaW.PrintLast Go.Proofs.YtgcmmiihjiiemaaW.PrintMore Go.Proofs.Ytgcmmiihjiiemaa Go.Proofs.Ytgcmmiihjiiemaa.PVectorMax
set_option linter.unusedSimpArgs false
set_option linter.unusedVariables false
set_option maxRecDepth 100000
set_option maxHeartbeats 3200000
theorem vectorMax_go (w : World) (A : Option Addr) (c : Nat) (a : List Dt) (hA0 : Kd.C kD w A a.length a) (hc : a.length ≤ c) (ha : ∀ x ∈ a, 0 ≤ x.f1) (hla : a.length * 16 ≤ 140737488351232) (B : Option Addr) (d : Nat) (b : List Dt) (hB0 : Kd.C kD w B b.length b) (hd : b.length ≤ d) (hb : ∀ x ∈ b, 0 ≤ x.f1) (hlb : b.length * 16 ≤ 140737488351232) (r1 : List Dt) (r2 : Int) (hr : ownMax (validB a) (validB b) a b = (r1, r2)) (s1 : List Dt) (s2 : Int) (hs : ownMax (validB (a.map trn)) (validB (b.map trn)) (a.map trn) (b.map trn) = (s1, s2)) (hl1 : r1.length ≤ 64) (hl2 : s1.length ≤ 64) :
    Calls Try.prog 3 #[.slice A a.length c, .slice B b.length d] w fun e w' => e = .returned (.bool true) ∧ Below w.heap.size w w' := by
  have hA := hA0
  have hB := hB0
  have hn0 : w.heap.size ≤ w.heap.size := Nat.le_refl _
  have hW : Below w.heap.size w w := Below.refl _ _
  have hta : ∀ x ∈ a.map trn, 0 ≤ x.f1 := fun x h => by obtain ⟨y, _, rfl⟩ := List.mem_map.1 h; exact trn_pos y
  have htb : ∀ x ∈ b.map trn, 0 ≤ x.f1 := fun x h => by obtain ⟨y, _, rfl⟩ := List.mem_map.1 h; exact trn_pos y
  go_enter Try.func3, Try.ntmps3
  go_wp2_with fail
  refine (refN _ A a.length c a hA hc B b.length d b hB hd rfl rfl (by omega) (by omega) r1 r2 hr w.heap.size hn0).mono ?_
  rintro e_ w1 ⟨vR, vq, rfl, hV, hb1⟩
  have hs1 : w.heap.size ≤ w1.heap.size := hb1.size
  replace hA := Kd.C_below hA hb1
  replace hB := Kd.C_below hB hb1
  replace hW := below_then hW hn0 hb1
  replace hn0 := Nat.le_trans hn0 hs1
  go_wp2_with fail
  refine (lentN _ A c a hA hc hla w.heap.size hn0).mono ?_
  rintro e_ w2 ⟨vX, qX, rfl, hX, hb2⟩
  have hs2 : w1.heap.size ≤ w2.heap.size := hb2.size
  replace hV := Kd.R_below hV hb2
  replace hA := Kd.C_below hA hb2
  replace hB := Kd.C_below hB hb2
  replace hW := below_then hW hn0 hb2
  replace hn0 := Nat.le_trans hn0 hs2
  go_wp2_with fail
  refine (lentN _ B d b hB hd hlb w.heap.size hn0).mono ?_
  rintro e_ w3 ⟨vY, qY, rfl, hY, hb3⟩
  have hs3 : w2.heap.size ≤ w3.heap.size := hb3.size
  replace hV := Kd.R_below hV hb3
  replace hX := Kd.R_below hX hb3
  replace hA := Kd.C_below hA hb3
  replace hB := Kd.C_below hB hb3
  replace hW := below_then hW hn0 hb3
  replace hn0 := Nat.le_trans hn0 hs3
  go_wp2_with fail
  obtain ⟨cx1, -, dx1⟩ := C_of_R (short_row hX rfl)
  obtain ⟨cy1, -, dy1⟩ := C_of_R (short_row hY rfl)
  refine (vmaxN _ vX a.length qX a cx1 dx1 vY b.length qY b cy1 dy1 rfl rfl ha hb (by first | omega | (rw [List.length_map]; omega)) (by first | omega | (rw [List.length_map]; omega)) r1 r2 hr w.heap.size hn0).mono ?_
  rintro e_ w4 ⟨vM, qM, rfl, hM, hb4⟩
  have hs4 : w3.heap.size ≤ w4.heap.size := hb4.size
  replace hV := Kd.R_below hV hb4
  replace hX := Kd.R_below hX hb4
  replace hY := Kd.R_below hY hb4
  replace hA := Kd.C_below hA hb4
  replace hB := Kd.C_below hB hb4
  replace hW := below_then hW hn0 hb4
  replace hn0 := Nat.le_trans hn0 hs4
  clear cx1 dx1 cy1 dy1
  go_wp2_with fail
  obtain ⟨cx2, -, dx2⟩ := C_of_R (short_row hX rfl)
  obtain ⟨cy2, -, dy2⟩ := C_of_R (short_row hY rfl)
  refine (vmaxN _ vX a.length qX a cx2 dx2 vY b.length qY b cy2 dy2 rfl rfl ha hb (by first | omega | (rw [List.length_map]; omega)) (by first | omega | (rw [List.length_map]; omega)) r1 r2 hr w.heap.size hn0).mono ?_
  rintro e_ w5 ⟨vN, qN, rfl, hN, hb5⟩
  have hs5 : w4.heap.size ≤ w5.heap.size := hb5.size
  replace hV := Kd.R_below hV hb5
  replace hX := Kd.R_below hX hb5
  replace hY := Kd.R_below hY hb5
  replace hM := Kd.R_below hM hb5
  replace hA := Kd.C_below hA hb5
  replace hB := Kd.C_below hB hb5
  replace hW := below_then hW hn0 hb5
  replace hn0 := Nat.le_trans hn0 hs5
  clear cx2 dx2 cy2 dy2
  go_wp2_with fail
  refine (sameN _ hM hV hl1).mono ?_
  rintro e_ w6 ⟨rfl, hb6⟩
  have hs6 : w5.heap.size ≤ w6.heap.size := hb6.size
  replace hV := Kd.R_below hV hb6
  replace hX := Kd.R_below hX hb6
  replace hY := Kd.R_below hY hb6
  replace hM := Kd.R_below hM hb6
  replace hN := Kd.R_below hN hb6
  replace hA := Kd.C_below hA hb6
  replace hB := Kd.C_below hB hb6
  replace hW := below_then hW hn0 hb6
  replace hn0 := Nat.le_trans hn0 hs6
  go_wp2_with fail
  refine (sameN _ hN hV hl1).mono ?_
  rintro e_ w7 ⟨rfl, hb7⟩
  have hs7 : w6.heap.size ≤ w7.heap.size := hb7.size
  replace hV := Kd.R_below hV hb7
  replace hX := Kd.R_below hX hb7
  replace hY := Kd.R_below hY hb7
  replace hM := Kd.R_below hM hb7
  replace hN := Kd.R_below hN hb7
  replace hA := Kd.C_below hA hb7
  replace hB := Kd.C_below hB hb7
  replace hW := below_then hW hn0 hb7
  replace hn0 := Nat.le_trans hn0 hs7
  go_wp2_with fail
  refine (keptN _ hX hA hc (by omega)).mono ?_
  rintro e_ w8 ⟨rfl, hb8⟩
  have hs8 : w7.heap.size ≤ w8.heap.size := hb8.size
  replace hV := Kd.R_below hV hb8
  replace hX := Kd.R_below hX hb8
  replace hY := Kd.R_below hY hb8
  replace hM := Kd.R_below hM hb8
  replace hN := Kd.R_below hN hb8
  replace hA := Kd.C_below hA hb8
  replace hB := Kd.C_below hB hb8
  replace hW := below_then hW hn0 hb8
  replace hn0 := Nat.le_trans hn0 hs8
  go_wp2_with fail
  refine (keptN _ hY hB hd (by omega)).mono ?_
  rintro e_ w9 ⟨rfl, hb9⟩
  have hs9 : w8.heap.size ≤ w9.heap.size := hb9.size
  replace hV := Kd.R_below hV hb9
  replace hX := Kd.R_below hX hb9
  replace hY := Kd.R_below hY hb9
  replace hM := Kd.R_below hM hb9
  replace hN := Kd.R_below hN hb9
  replace hA := Kd.C_below hA hb9
  replace hB := Kd.C_below hB hb9
  replace hW := below_then hW hn0 hb9
  replace hn0 := Nat.le_trans hn0 hs9
  go_wp2_with fail
  refine (spoilN 4 w _ hW hM (by omega)).mono ?_
  rintro e_ w10 ⟨M2, rfl, hM2, hW2, hk10⟩
  have hs10 : w9.heap.size ≤ w10.heap.size := hk10.1
  replace hV := Kd.R_kept hV hk10 (fun k q1 q2 => by omega)
  replace hX := Kd.R_kept hX hk10 (fun k q1 q2 => by omega)
  replace hY := Kd.R_kept hY hk10 (fun k q1 q2 => by omega)
  replace hN := Kd.R_kept hN hk10 (fun k q1 q2 => by omega)
  replace hn0 := Nat.le_trans hn0 hs10
  replace hW := hW2
  clear hW2
  replace hA := Kd.C_below hA0 hW
  replace hB := Kd.C_below hB0 hW
  go_wp2_with fail
  obtain ⟨-, eM2, -⟩ := C_of_R hM2
  refine (grownN 4 w _ hW hM2 (by omega)).mono ?_
  rintro e_ w11 ⟨vP, qP, rfl, hW2, hk11⟩
  have hs11 : w10.heap.size ≤ w11.heap.size := hk11.1
  replace hV := Kd.R_kept hV hk11 (fun k q1 q2 => by omega)
  replace hX := Kd.R_kept hX hk11 (fun k q1 q2 => by omega)
  replace hY := Kd.R_kept hY hk11 (fun k q1 q2 => by omega)
  replace hN := Kd.R_kept hN hk11 (fun k q1 q2 => by omega)
  replace hn0 := Nat.le_trans hn0 hs11
  replace hW := hW2
  clear hW2 hM2 hM
  replace hA := Kd.C_below hA0 hW
  replace hB := Kd.C_below hB0 hW
  go_wp2_with fail
  refine (sameN _ hN hV hl1).mono ?_
  rintro e_ w12 ⟨rfl, hb12⟩
  have hs12 : w11.heap.size ≤ w12.heap.size := hb12.size
  replace hV := Kd.R_below hV hb12
  replace hX := Kd.R_below hX hb12
  replace hY := Kd.R_below hY hb12
  replace hN := Kd.R_below hN hb12
  replace hA := Kd.C_below hA hb12
  replace hB := Kd.C_below hB hb12
  replace hW := below_then hW hn0 hb12
  replace hn0 := Nat.le_trans hn0 hs12
  go_wp2_with fail
  refine (keptN _ hX hA hc (by omega)).mono ?_
  rintro e_ w13 ⟨rfl, hb13⟩
  have hs13 : w12.heap.size ≤ w13.heap.size := hb13.size
  replace hV := Kd.R_below hV hb13
  replace hX := Kd.R_below hX hb13
  replace hY := Kd.R_below hY hb13
  replace hN := Kd.R_below hN hb13
  replace hA := Kd.C_below hA hb13
  replace hB := Kd.C_below hB hb13
  replace hW := below_then hW hn0 hb13
  replace hn0 := Nat.le_trans hn0 hs13
  go_wp2_with fail
  refine (keptN _ hY hB hd (by omega)).mono ?_
  rintro e_ w14 ⟨rfl, hb14⟩
  have hs14 : w13.heap.size ≤ w14.heap.size := hb14.size
  replace hV := Kd.R_below hV hb14
  replace hX := Kd.R_below hX hb14
  replace hY := Kd.R_below hY hb14
  replace hN := Kd.R_below hN hb14
  replace hA := Kd.C_below hA hb14
  replace hB := Kd.C_below hB hb14
  replace hW := below_then hW hn0 hb14
  replace hn0 := Nat.le_trans hn0 hs14
  go_wp2_with fail
  refine (turnedN _ A c a hA hc (by omega) w.heap.size hn0).mono ?_
  rintro e_ w15 ⟨vT1, qT1, rfl, hT1, hb15⟩
  have hs15 : w14.heap.size ≤ w15.heap.size := hb15.size
  replace hV := Kd.R_below hV hb15
  replace hX := Kd.R_below hX hb15
  replace hY := Kd.R_below hY hb15
  replace hN := Kd.R_below hN hb15
  replace hA := Kd.C_below hA hb15
  replace hB := Kd.C_below hB hb15
  replace hW := below_then hW hn0 hb15
  replace hn0 := Nat.le_trans hn0 hs15
  obtain ⟨w16, run16, hX2, hk16, hbb16⟩ := copy_dots _ _ _ _ _ vX vT1 qX qT1 a (a.map trn) 3 hX (by rw [List.length_map]; exact hT1) (List.length_map _)
  rw [List.length_map] at run16
  have hs16 : w15.heap.size ≤ w16.heap.size := hk16.1
  replace hV := Kd.R_kept hV hk16 (fun k q1 q2 => by omega)
  replace hY := Kd.R_kept hY hk16 (fun k q1 q2 => by omega)
  replace hN := Kd.R_kept hN hk16 (fun k q1 q2 => by omega)
  replace hT1 := Kd.R_kept hT1 hk16 (fun k q1 q2 => by omega)
  replace hX := hX2
  clear hX2
  replace hW := hbb16 _ _ hW (Nat.le_refl _)
  replace hn0 := Nat.le_trans hn0 hs16
  replace hA := Kd.C_below hA0 hW
  replace hB := Kd.C_below hB0 hW
  go_wp2_with fail
  refine (turnedN _ B d b hB hd (by omega) w.heap.size hn0).mono ?_
  rintro e_ w17 ⟨vT2, qT2, rfl, hT2, hb17⟩
  have hs17 : w16.heap.size ≤ w17.heap.size := hb17.size
  replace hV := Kd.R_below hV hb17
  replace hX := Kd.R_below hX hb17
  replace hY := Kd.R_below hY hb17
  replace hN := Kd.R_below hN hb17
  replace hA := Kd.C_below hA hb17
  replace hB := Kd.C_below hB hb17
  replace hW := below_then hW hn0 hb17
  replace hn0 := Nat.le_trans hn0 hs17
  obtain ⟨w18, run18, hY2, hk18, hbb18⟩ := copy_dots _ _ _ _ _ vY vT2 qY qT2 b (b.map trn) 3 hY (by rw [List.length_map]; exact hT2) (List.length_map _)
  rw [List.length_map] at run18
  have hs18 : w17.heap.size ≤ w18.heap.size := hk18.1
  replace hV := Kd.R_kept hV hk18 (fun k q1 q2 => by omega)
  replace hX := Kd.R_kept hX hk18 (fun k q1 q2 => by omega)
  replace hN := Kd.R_kept hN hk18 (fun k q1 q2 => by omega)
  replace hT2 := Kd.R_kept hT2 hk18 (fun k q1 q2 => by omega)
  replace hY := hY2
  clear hY2
  replace hW := hbb18 _ _ hW (Nat.le_refl _)
  replace hn0 := Nat.le_trans hn0 hs18
  replace hA := Kd.C_below hA0 hW
  replace hB := Kd.C_below hB0 hW
  go_wp2_with fail
  refine (turnedN _ A c a hA hc (by omega) w.heap.size hn0).mono ?_
  rintro e_ w19 ⟨vU1, qU1, rfl, hU1, hb19⟩
  have hs19 : w18.heap.size ≤ w19.heap.size := hb19.size
  replace hV := Kd.R_below hV hb19
  replace hX := Kd.R_below hX hb19
  replace hY := Kd.R_below hY hb19
  replace hN := Kd.R_below hN hb19
  replace hA := Kd.C_below hA hb19
  replace hB := Kd.C_below hB hb19
  replace hW := below_then hW hn0 hb19
  replace hn0 := Nat.le_trans hn0 hs19
  go_wp2_with fail
  refine (turnedN _ B d b hB hd (by omega) w.heap.size hn0).mono ?_
  rintro e_ w20 ⟨vU2, qU2, rfl, hU2, hb20⟩
  have hs20 : w19.heap.size ≤ w20.heap.size := hb20.size
  replace hV := Kd.R_below hV hb20
  replace hX := Kd.R_below hX hb20
  replace hY := Kd.R_below hY hb20
  replace hN := Kd.R_below hN hb20
  replace hU1 := Kd.R_below hU1 hb20
  replace hA := Kd.C_below hA hb20
  replace hB := Kd.C_below hB hb20
  replace hW := below_then hW hn0 hb20
  replace hn0 := Nat.le_trans hn0 hs20
  go_wp2_with fail
  obtain ⟨u1, -, u2⟩ := C_of_R hU1
  obtain ⟨u3, -, u4⟩ := C_of_R hU2
  refine (refN _ vU1 a.length qU1 (a.map trn) u1 u2 vU2 b.length qU2 (b.map trn) u3 u4 (List.length_map _) (List.length_map _) (by rw [List.length_map]; omega) (by rw [List.length_map]; omega) s1 s2 hs w.heap.size hn0).mono ?_
  rintro e_ w21 ⟨vO, qO, rfl, hO, hb21⟩
  have hs21 : w20.heap.size ≤ w21.heap.size := hb21.size
  replace hV := Kd.R_below hV hb21
  replace hX := Kd.R_below hX hb21
  replace hY := Kd.R_below hY hb21
  replace hN := Kd.R_below hN hb21
  replace hU1 := Kd.R_below hU1 hb21
  replace hU2 := Kd.R_below hU2 hb21
  replace hA := Kd.C_below hA hb21
  replace hB := Kd.C_below hB hb21
  replace hW := below_then hW hn0 hb21
  replace hn0 := Nat.le_trans hn0 hs21
  clear u1 u2 u3 u4
  go_wp2_with fail
  obtain ⟨cx3, -, dx3⟩ := C_of_R (short_row hX (List.length_map _))
  obtain ⟨cy3, -, dy3⟩ := C_of_R (short_row hY (List.length_map _))
  refine (vmaxN _ vX a.length qX (a.map trn) cx3 dx3 vY b.length qY (b.map trn) cy3 dy3 (List.length_map _) (List.length_map _) hta htb (by first | omega | (rw [List.length_map]; omega)) (by first | omega | (rw [List.length_map]; omega)) s1 s2 hs w.heap.size hn0).mono ?_
  rintro e_ w22 ⟨vZ, qZ, rfl, hZ, hb22⟩
  have hs22 : w21.heap.size ≤ w22.heap.size := hb22.size
  replace hV := Kd.R_below hV hb22
  replace hX := Kd.R_below hX hb22
  replace hY := Kd.R_below hY hb22
  replace hN := Kd.R_below hN hb22
  replace hU1 := Kd.R_below hU1 hb22
  replace hU2 := Kd.R_below hU2 hb22
  replace hO := Kd.R_below hO hb22
  replace hA := Kd.C_below hA hb22
  replace hB := Kd.C_below hB hb22
  replace hW := below_then hW hn0 hb22
  replace hn0 := Nat.le_trans hn0 hs22
  clear cx3 dx3 cy3 dy3
  go_wp2_with fail
  refine (sameN _ hZ hO hl2).mono ?_
  rintro e_ w23 ⟨rfl, hb23⟩
  have hs23 : w22.heap.size ≤ w23.heap.size := hb23.size
  replace hV := Kd.R_below hV hb23
  replace hX := Kd.R_below hX hb23
  replace hY := Kd.R_below hY hb23
  replace hN := Kd.R_below hN hb23
  replace hU1 := Kd.R_below hU1 hb23
  replace hU2 := Kd.R_below hU2 hb23
  replace hO := Kd.R_below hO hb23
  replace hZ := Kd.R_below hZ hb23
  replace hA := Kd.C_below hA hb23
  replace hB := Kd.C_below hB hb23
  replace hW := below_then hW hn0 hb23
  replace hn0 := Nat.le_trans hn0 hs23
  go_wp2_with fail
  refine (sameN _ hN hV hl1).mono ?_
  rintro e_ w24 ⟨rfl, hb24⟩
  have hs24 : w23.heap.size ≤ w24.heap.size := hb24.size
  replace hV := Kd.R_below hV hb24
  replace hX := Kd.R_below hX hb24
  replace hY := Kd.R_below hY hb24
  replace hN := Kd.R_below hN hb24
  replace hU1 := Kd.R_below hU1 hb24
  replace hU2 := Kd.R_below hU2 hb24
  replace hO := Kd.R_below hO hb24
  replace hZ := Kd.R_below hZ hb24
  replace hA := Kd.C_below hA hb24
  replace hB := Kd.C_below hB hb24
  replace hW := below_then hW hn0 hb24
  replace hn0 := Nat.le_trans hn0 hs24
  go_wp2_with fail
  replace hX := short_row hX (List.length_map _)
  replace hY := short_row hY (List.length_map _)
  refine (spoilN 5 w _ hW hX (by rw [List.length_map]; omega)).mono ?_
  rintro e_ w25 ⟨X2, rfl, hX2, hW2, hk25⟩
  have hs25 : w24.heap.size ≤ w25.heap.size := hk25.1
  replace hV := Kd.R_kept hV hk25 (fun k q1 q2 => by omega)
  replace hY := Kd.R_kept hY hk25 (fun k q1 q2 => by omega)
  replace hN := Kd.R_kept hN hk25 (fun k q1 q2 => by omega)
  replace hU1 := Kd.R_kept hU1 hk25 (fun k q1 q2 => by omega)
  replace hU2 := Kd.R_kept hU2 hk25 (fun k q1 q2 => by omega)
  replace hO := Kd.R_kept hO hk25 (fun k q1 q2 => by omega)
  replace hZ := Kd.R_kept hZ hk25 (fun k q1 q2 => by omega)
  replace hn0 := Nat.le_trans hn0 hs25
  replace hW := hW2
  clear hW2 hX2
  replace hA := Kd.C_below hA0 hW
  replace hB := Kd.C_below hB0 hW
  go_wp2_with fail
  refine (spoilN 6 w _ hW hY (by rw [List.length_map]; omega)).mono ?_
  rintro e_ w26 ⟨Y2, rfl, hX2, hW2, hk26⟩
  have hs26 : w25.heap.size ≤ w26.heap.size := hk26.1
  replace hV := Kd.R_kept hV hk26 (fun k q1 q2 => by omega)
  replace hN := Kd.R_kept hN hk26 (fun k q1 q2 => by omega)
  replace hU1 := Kd.R_kept hU1 hk26 (fun k q1 q2 => by omega)
  replace hU2 := Kd.R_kept hU2 hk26 (fun k q1 q2 => by omega)
  replace hO := Kd.R_kept hO hk26 (fun k q1 q2 => by omega)
  replace hZ := Kd.R_kept hZ hk26 (fun k q1 q2 => by omega)
  replace hn0 := Nat.le_trans hn0 hs26
  replace hW := hW2
  clear hW2 hX2
  replace hA := Kd.C_below hA0 hW
  replace hB := Kd.C_below hB0 hW
  go_wp2_with fail
  refine (sameN _ hN hV hl1).mono ?_
  rintro e_ w27 ⟨rfl, hb27⟩
  have hs27 : w26.heap.size ≤ w27.heap.size := hb27.size
  replace hV := Kd.R_below hV hb27
  replace hN := Kd.R_below hN hb27
  replace hU1 := Kd.R_below hU1 hb27
  replace hU2 := Kd.R_below hU2 hb27
  replace hO := Kd.R_below hO hb27
  replace hZ := Kd.R_below hZ hb27
  replace hA := Kd.C_below hA hb27
  replace hB := Kd.C_below hB hb27
  replace hW := below_then hW hn0 hb27
  replace hn0 := Nat.le_trans hn0 hs27
  go_wp2_with fail
  refine (sameN _ hZ hO hl2).mono ?_
  rintro e_ w28 ⟨rfl, hb28⟩
  have hs28 : w27.heap.size ≤ w28.heap.size := hb28.size
  replace hV := Kd.R_below hV hb28
  replace hN := Kd.R_below hN hb28
  replace hU1 := Kd.R_below hU1 hb28
  replace hU2 := Kd.R_below hU2 hb28
  replace hO := Kd.R_below hO hb28
  replace hZ := Kd.R_below hZ hb28
  replace hA := Kd.C_below hA hb28
  replace hB := Kd.C_below hB hb28
  replace hW := below_then hW hn0 hb28
  replace hn0 := Nat.le_trans hn0 hs28
  go_wp2_with fail
  go_ret
  exact ⟨rfl, hW⟩
theorem own_len (a b r1 : List Dt) (r2 : Int) (h : ownMax (validB a) (validB b) a b = (r1, r2)) : r1.length ≤ 64 := by
  unfold ownMax at h
  split at h
  · split at h
    · obtain rfl := (Prod.mk.inj h).1
      exact Nat.zero_le _
    · obtain rfl := (Prod.mk.inj h).1
      omega
  · obtain rfl := (Prod.mk.inj h).1
    exact Nat.zero_le _
theorem VectorMax_walk (w : World) (A : Option Addr) (c : Nat) (a : List Dt) (hc : a.length ≤ c) (hA : Kd.C kD w A a.length a) (wa : ∀ x ∈ a, DotOk x) (la : a.length * 16 ≤ 140737488351232) (B : Option Addr) (d : Nat) (b : List Dt) (hd : b.length ≤ d) (hB : Kd.C kD w B b.length b) (wb : ∀ x ∈ b, DotOk x) (lb : b.length * 16 ≤ 140737488351232) :
    Calls Try.prog 3 #[.slice A a.length c, .slice B b.length d] w fun e w' => e = .returned (.bool true) ∧ Below w.heap.size w w' :=
  vectorMax_go w A c a hA hc (fun x h => (wa x h).2.1) la B d b hB hd (fun x h => (wb x h).2.1) lb _ _ rfl _ _ rfl (own_len a b _ _ rfl) (own_len _ _ _ _ rfl)
end Go.Proofs.Ytgcmmiihjiiemaa.My
