-- written by wip/mp.py of this claim's author, over the print of this machine
import Derived.Test.YtdjjpgdhnoibkaaSq
import Derived.Test.YtdjjpgdhnoibkaaPZx0
namespace Go.Proofs.Ytdjjpgdhnoibkaa.PZ
open Go.Proofs.Ytdjjpgdhnoibkaa.My
attribute [local go_sem high] conv_rune str_leq str_gtr
open Go.RowKit Go.Proofs.YtdjjpgdhnoibkaaW.PrintWords Go.Proofs.YtdjjpgdhnoibkaaW.PrintLast Go.Proofs.YtdjjpgdhnoibkaaW.PrintMore
attribute [local go_sem] max2_int min2_int max_two min_two max_three min_three max_four min_four   -- for this text's walks alone
set_option linter.unusedVariables false
set_option linter.unusedSimpArgs false

/-! ### concordlaw08_rising: function 67 -/
def concordlaw08_rising.f (a0 : Int) : Option (ByteArray) := some (strOfNums (([111, (wrap64 (Int.tdiv a0 65536)) % 256, (Int.tmod (wrap64 (Int.tdiv a0 256)) 256) % 256, (Int.tmod a0 256) % 256] : List Int)))
set_option maxHeartbeats 8000000 in
set_option maxRecDepth 100000 in
theorem concordlaw08_rising.calls (a0 : Int) (r : ByteArray) (w : World) (h : concordlaw08_rising.f a0 = some r) :
    Calls Try.prog 67 #[.int .i64 a0] w fun e w' => e = .returned (.string r) ∧ Below w.heap.size w w' := by
  have HB := Aside0.mk (Below.refl w.heap.size w)
  have H : (some (strOfNums (([111, (wrap64 (Int.tdiv a0 65536)) % 256, (Int.tmod (wrap64 (Int.tdiv a0 256)) 256) % 256, (Int.tmod a0 256) % 256] : List Int)))) = some r := h
  clear h
  obtain ⟨y247, hy247⟩ : ∃ y_ : List Int, y_ = (([111, (wrap64 (Int.tdiv a0 65536)) % 256, (Int.tmod (wrap64 (Int.tdiv a0 256)) 256) % 256, (Int.tmod a0 256) % 256] : List Int)) := ⟨_, rfl⟩
  replace H : (some (strOfNums y247)) = some r := by first | (rw [hy247]; with_reducible exact H) | (have H2_ := (Option.bind_some _ _).symm.trans H; rw [hy247]; with_reducible exact H2_) | (have H2_ := (Option.bind_some _ _).symm.trans H; with_reducible exact H2_) | with_reducible exact H | (rw [hy247]; exact H) | exact H
  have Ny247 := Aside0.mk hy247
  clear hy247
  obtain rfl := Option.some.inj H
  go_enter Try.func67, Try.ntmps67
  go_wp2_with (first | ((with_reducible refine gate_dst (N := 13) rfl ?_); refine Kd.R_lit (Kd.int .u8) _ 5 ?hg (N := 13) ?hd (xs := ([111, (wrap64 (Int.tdiv a0 65536)) % 256, (Int.tmod (wrap64 (Int.tdiv a0 256)) 256) % 256, (Int.tmod a0 256) % 256] : List Int)) (inner := [.int .u8 111, .int .u8 ((wrap64 (Int.tdiv a0 65536)) % 256), .int .u8 ((Int.tmod (wrap64 (Int.tdiv a0 256)) 256) % 256), .int .u8 ((Int.tmod a0 256) % 256)]) (ok := fun _ => True) (okp := fun _ => True) ?hr ?hp (fun _ hk => hk) trivial (Below.refl _ _) (Nat.le_refl _) (by simp) ?_; (case hd => rfl); (case hg => rfl); (case hr => first | (go_simp; done) | (go_simp; rfl)); (case hp => exact (Reps.one (show Kd.M (Kd.int .u8) _ _ _ 111 [.int .u8 111] from rfl) (Reps.one (show Kd.M (Kd.int .u8) _ _ _ ((wrap64 (Int.tdiv a0 65536)) % 256) [.int .u8 ((wrap64 (Int.tdiv a0 65536)) % 256)] from rfl) (Reps.one (show Kd.M (Kd.int .u8) _ _ _ ((Int.tmod (wrap64 (Int.tdiv a0 256)) 256) % 256) [.int .u8 ((Int.tmod (wrap64 (Int.tdiv a0 256)) 256) % 256)] from rfl) (Reps.one (show Kd.M (Kd.int .u8) _ _ _ ((Int.tmod a0 256) % 256) [.int .u8 ((Int.tmod a0 256) % 256)] from rfl) (Reps.none _ _)))))); intro v248 w2 ho3 hb hg_ hnew_; clear hg_ hnew_; (first | rw [← Ny247.out] at ho3 | (simp only [Int.reduceToNat] at ho3; rw [← Ny247.out] at ho3)); have n0_ := Aside0.mk (Kd.R_lower ho3 (sSz HB)); have n1_ := sSt HB hb; clear HB; have HO249 := n0_; have HB := n1_; clear n0_ n1_; clear hb ho3; have hcv4 := own_string (P := Try.prog) Try.underlying105 Try.underlying5 Try.underlying9 (Kd.own_of_R HO249.out)))
  go_ret
  exact ⟨by first | rfl | (simp [errW_none, errW_some] <;> rfl) | (simp [*, errW_none, errW_some] <;> rfl), by exact qS0 HB⟩

/-! ### concordlaw08_over: function 21 -/
mutual
def concordlaw08_over.l0 : Nat → Int → Bool → List (S66) → List ByteArray → List Int → Option ((List (S66)) × List ByteArray × List Int)
  | 0, _, _, _, _, _ => none
  | k + 1, x2, x251000, x251001, x251002, x251003 => if x2 < (x251001.length : Int) then ((concordlaw08_rising.f x2).bind fun t251 => (if 0 ≤ x2 then (concordlaw08_over.l0 k (wrap64 (x2 + 1)) x251000 (x251001.set (x2 : Int).toNat (⟨t251, Utf8.encode (wrap32 (wrap64 (97 + (Int.tmod x2 26))))⟩ : S66)) x251002 x251003) else (none))) else (concordlaw08_over.l1 k 0 x251000 x251001 x251002 x251003)
def concordlaw08_over.l1 : Nat → Int → Bool → List (S66) → List ByteArray → List Int → Option ((List (S66)) × List ByteArray × List Int)
  | 0, _, _, _, _, _ => none
  | k + 1, x3, x251000, x251001, x251002, x251003 => if x3 < (x251002.length : Int) then ((concordlaw08_rising.f x3).bind fun t253 => (if 0 ≤ x3 then (concordlaw08_over.l1 k (wrap64 (x3 + 1)) x251000 x251001 (x251002.set (x3 : Int).toNat t253) x251003) else (none))) else (concordlaw08_over.l2 k 0 x251000 x251001 x251002 x251003)
def concordlaw08_over.l2 : Nat → Int → Bool → List (S66) → List ByteArray → List Int → Option ((List (S66)) × List ByteArray × List Int)
  | 0, _, _, _, _, _ => none
  | k + 1, x4, x251000, x251001, x251002, x251003 => if x4 < (x251003.length : Int) then (if 0 ≤ x4 then (concordlaw08_over.l2 k (wrap64 (x4 + 1)) x251000 x251001 x251002 (x251003.set (x4 : Int).toNat ((wrap64 (77 + x4)) % 4294967296))) else (none)) else (some (x251001, x251002, x251003))
end
def concordlaw08_over.f (k : Nat) (a0_0 : Bool) (l0_1 : List (S66)) (l0_2 : List ByteArray) (l0_3 : List Int) : Option ((List (S66)) × List ByteArray × List Int) := concordlaw08_over.l0 k 0 a0_0 l0_1 l0_2 l0_3
def concordlaw08_over.T4 : Bool × List (List Nat × List Nat) := (true, [([], []), ([0], [0]), ([], []), ([], []), ([3], [3]), ([], []), ([5], [5]), ([6], [6]), ([7], [7]), ([8], [8]), ([4, 9], [4, 9]), ([1, 2, 0, 1, 2, 3, 4, 5, 6, 7, 8, 9, 10], [1, 2]), ([11, 10, 4, 0, 1, 2, 3, 4, 5, 6, 7, 8, 9, 10], [10, 11])])
def concordlaw08_over.B4 : List Nat := [0, 1, 0, 0, 8, 0, 32, 96, 224, 480, 1016, 2047, 4095]
theorem concordlaw08_over.tab4 : rtab .any (opsOf Try.f21 4) = concordlaw08_over.T4 := by kernel_rfl
theorem concordlaw08_over.bits4 : waitsOk concordlaw08_over.T4.2 concordlaw08_over.B4 = true := by kernel_rfl
set_option maxHeartbeats 8000000 in
set_option maxRecDepth 100000 in
theorem concordlaw08_over.calls (k : Nat) (a0_0 : Bool) (P0_1_ : Nat → Prop) (u9000_ : Value) (l0_1 : List (S66)) (P0_2_ : Nat → Prop) (u9001_ : Value) (l0_2 : List ByteArray) (P0_3_ : Nat → Prop) (u9002_ : Value) (l0_3 : List Int) (r1 : List (S66)) (r2 : List ByteArray) (r3 : List Int) (w0 w : World) (hB : Below w0.heap.size w0 w) (ho0_1 : Kd.R k66 66 w w0.heap.size P0_1_ u9000_ l0_1) (ho0_2 : Kd.R Kd.string 9 w w0.heap.size P0_2_ u9001_ l0_2) (ho0_3 : Kd.R (Kd.int .u32) 45 w w0.heap.size P0_3_ u9002_ l0_3) (h : concordlaw08_over.f k a0_0 l0_1 l0_2 l0_3 = some (r1, r2, r3)) :
    Calls Try.prog 21 #[.agg #[.bool a0_0, u9000_, u9001_, u9002_]] w fun e w' => e = .returned (.tuple #[]) ∧ Kd.R k66 66 w' w0.heap.size (fun k_ => ((P0_1_ k_ ∨ P0_2_ k_ ∨ P0_3_ k_) ∨ w.heap.size ≤ k_)) u9000_ r1 ∧ Kd.R Kd.string 9 w' w0.heap.size (fun k_ => ((P0_1_ k_ ∨ P0_2_ k_ ∨ P0_3_ k_) ∨ w.heap.size ≤ k_)) u9001_ r2 ∧ Kd.R (Kd.int .u32) 45 w' w0.heap.size (fun k_ => ((P0_1_ k_ ∨ P0_2_ k_ ∨ P0_3_ k_) ∨ w.heap.size ≤ k_)) u9002_ r3 ∧ Below w0.heap.size w0 w' ∧ Kept w w' (fun k_ => P0_1_ k_ ∨ P0_2_ k_ ∨ P0_3_ k_) := by
  have hu26 := Try.underlying26
  have hu66 := Try.underlying66
  have HO0_1 := Aside0.mk (show Kd.R k66 66 w w0.heap.size (fun k_ => ((P0_1_ k_ ∨ P0_2_ k_ ∨ P0_3_ k_) ∨ w.heap.size ≤ k_)) u9000_ l0_1 from Kd.R_mono ho0_1 (fun k_ hk => (.inl (.inl hk))))
  have HO0_2 := Aside0.mk (show Kd.R Kd.string 9 w w0.heap.size (fun k_ => ((P0_1_ k_ ∨ P0_2_ k_ ∨ P0_3_ k_) ∨ w.heap.size ≤ k_)) u9001_ l0_2 from Kd.R_mono ho0_2 (fun k_ hk => (.inl (.inr (.inl hk)))))
  have HO0_3 := Aside0.mk (show Kd.R (Kd.int .u32) 45 w w0.heap.size (fun k_ => ((P0_1_ k_ ∨ P0_2_ k_ ∨ P0_3_ k_) ∨ w.heap.size ≤ k_)) u9002_ l0_3 from Kd.R_mono ho0_3 (fun k_ hk => (.inl (.inr (.inr hk)))))
  have HK := Aside0.mk (Kept.refl w (fun k_ => P0_1_ k_ ∨ P0_2_ k_ ∨ P0_3_ k_))
  have HW0 := Aside0.mk hB.size
  have HB := Aside0.mk hB
  clear hB
  have H : (concordlaw08_over.l0 k 0 a0_0 l0_1 l0_2 l0_3) = some (r1, r2, r3) := h
  clear h
  have H' := Aside0.mk H
  clear H
  obtain ⟨Ao2, co2, eo2⟩ := Kd.R_slice HO0_1.out
  subst eo2
  obtain ⟨Ao3, co3, eo3⟩ := Kd.R_slice HO0_2.out
  subst eo3
  obtain ⟨Ao4, co4, eo4⟩ := Kd.R_slice HO0_3.out
  subst eo4
  go_enter Try.func21, Try.ntmps21
  go_wp2_with (first | ((with_reducible refine gate_dst (N := 1) rfl ?_); refine box_event ?hg (N := 1) ?hd (cs := #[.bool a0_0, .slice Ao2 l0_1.length co2, .slice Ao3 l0_2.length co3, .slice Ao4 l0_3.length co4]) (t := 26) ?hr ?_; (case hd => rfl); (case hg => rfl); (case hr => first | (go_simp; done) | (go_simp; rfl)); intro gb250 hg w5 hbox hb; have n0_ := sBe HO0_1 hb; have n1_ := sBe HO0_2 hb; have n2_ := sBe HO0_3 hb; have n3_ := Aside0.mk (Kept.below (S := (fun k_ => P0_1_ k_ ∨ P0_2_ k_ ∨ P0_3_ k_)) (by repeat (first | (with_reducible first | exact HK.out | apply Kept.alloc | apply Kept.drewN | apply Kept.drew) | exact HK.out)) hb); have n4_ := sSt HB hb; have n5_ := Aside0.mk (hbox); have n6_ := Aside0.mk ((by rw [hg]; exact (by first | exact HK.out.1 | exact (show Kept w _ (fun k_ => P0_1_ k_ ∨ P0_2_ k_ ∨ P0_3_ k_) from by repeat (first | (with_reducible first | exact HK.out | apply Kept.alloc | apply Kept.drewN | apply Kept.drew) | exact HK.out)).1) : w.heap.size ≤ gb250)); have n7_ := Aside0.mk ((by rw [hg]; exact (sSz HB) : w0.heap.size ≤ gb250)); clear HO0_1; clear HO0_2; clear HO0_3; clear HK; clear HB; have HO0_1 := n0_; have HO0_2 := n1_; have HO0_3 := n2_; have HK := n3_; have HB := n4_; have BK250 := n5_; have GW250 := n6_; have GE250 := n7_; clear n0_ n1_ n2_ n3_ n4_ n5_ n6_ n7_; clear hb hbox hg))
  go_loopg [2] k (fun kq v2 w' => ∃ (x2_1 : Int) (x251001_1 : List (S66)), v2 = .int .i64 x2_1 ∧ Aside0 (concordlaw08_over.l0 kq x2_1 a0_0 x251001_1 l0_2 l0_3 = some (r1, r2, r3)) ∧ Aside0 (kq ≤ k) ∧ Aside0 (Kd.R k66 66 w' w0.heap.size (fun k_ => ((P0_1_ k_ ∨ P0_2_ k_ ∨ P0_3_ k_) ∨ w.heap.size ≤ k_)) (.slice Ao2 l0_1.length co2) x251001_1) ∧ Aside0 (Kd.R Kd.string 9 w' w0.heap.size (fun k_ => ((P0_1_ k_ ∨ P0_2_ k_ ∨ P0_3_ k_) ∨ w.heap.size ≤ k_)) (.slice Ao3 l0_2.length co3) l0_2) ∧ Aside0 (Kd.R (Kd.int .u32) 45 w' w0.heap.size (fun k_ => ((P0_1_ k_ ∨ P0_2_ k_ ∨ P0_3_ k_) ∨ w.heap.size ≤ k_)) (.slice Ao4 l0_3.length co4) l0_3) ∧ Aside0 (w'.heap[gb250]? = some (.cells #[.bool a0_0, (.slice Ao2 l0_1.length co2), (.slice Ao3 l0_2.length co3), (.slice Ao4 l0_3.length co4)] 26 (0, 0))) ∧ Aside0 (Kept w w' (fun k_ => P0_1_ k_ ∨ P0_2_ k_ ∨ P0_3_ k_)) ∧ Aside0 (Below w0.heap.size w0 w'))
  case atStart => exact ⟨(0), (l0_1), (by first | rfl | (simp; done) | (simp [*]; done) | (simp only [i64_w]; done)), H', ⟨Nat.le_refl _⟩, ⟨by (with_reducible repeat (first | apply Kd.R_alloc | apply Kd.R_drewN | apply Kd.R_drew)); exact HO0_1.out⟩, ⟨by (with_reducible repeat (first | apply Kd.R_alloc | apply Kd.R_drewN | apply Kd.R_drew)); exact HO0_2.out⟩, ⟨by (with_reducible repeat (first | apply Kd.R_alloc | apply Kd.R_drewN | apply Kd.R_drew)); exact HO0_3.out⟩, ⟨by (with_reducible repeat (first | refine blk_drewN ?_ _ | refine blk_drew ?_ | refine blk_alloc ?_ _)); exact BK250.out⟩, ⟨by repeat (first | (with_reducible first | exact HK.out | apply Kept.alloc | apply Kept.drewN | apply Kept.drew | refine Kept.setCell ?_ (.inr GW250.out) _) | exact HK.out)⟩, ⟨by exact qS1 HB GE250⟩⟩
  case round =>
    clear H'
    try clear c2
    try clear p2
    obtain ⟨x2_1, x251001_1, rfl, HA, HK1, HO_251001, HO_251002, HO_251003, BK250, HK, HB⟩ := hrel
    have hl251001_1 := (Kd.R_reads' HO_251001.out).1
    rw [hl251001_1] at HO_251001
    (try simp only [hl251001_1])
    (try simp only [hl251001_1] at BK250)
    (try simp only [hl251001_1] at HO_251002)
    (try simp only [hl251001_1] at HO_251003)
    cases gk with
    | zero => exact absurd HA.out (by simp [concordlaw08_over.l0])
    | succ k1 =>
      have H := HA.out
      clear HA
      simp only [concordlaw08_over.l0] at H
      by_cases c6 : x2_1 < (x251001_1.length : Int)
      · rw [if_pos c6] at H
        have c6b0 : decide (x2_1 < (x251001_1.length : Int)) = true := decide_eq_true c6
        clear c6
        replace H := Option.bind_eq_some_iff.mp H
        obtain ⟨t251, A70, H⟩ := H
        replace H : (if 0 ≤ x2_1 then (concordlaw08_over.l0 k1 (wrap64 (x2_1 + 1)) a0_0 (x251001_1.set (x2_1 : Int).toNat (⟨t251, Utf8.encode (wrap32 (wrap64 (97 + (Int.tmod x2_1 26))))⟩ : S66)) l0_2 l0_3) else (none)) = some (r1, r2, r3) := H
        have A7 := Aside0.mk A70
        clear A70
        by_cases c8 : 0 ≤ x2_1
        · rw [if_pos c8] at H
          have c8b0 : decide (0 ≤ x2_1) = true := decide_eq_true c8
          clear c8
          obtain ⟨y252, hy252⟩ : ∃ y_ : List (S66), y_ = (x251001_1.set (x2_1 : Int).toNat (⟨t251, Utf8.encode (wrap32 (wrap64 (97 + (Int.tmod x2_1 26))))⟩ : S66)) := ⟨_, rfl⟩
          replace H : (concordlaw08_over.l0 k1 (wrap64 (x2_1 + 1)) a0_0 y252 l0_2 l0_3) = some (r1, r2, r3) := by first | (rw [hy252]; with_reducible exact H) | (have H2_ := (Option.bind_some _ _).symm.trans H; rw [hy252]; with_reducible exact H2_) | (have H2_ := (Option.bind_some _ _).symm.trans H; with_reducible exact H2_) | with_reducible exact H | (rw [hy252]; exact H) | exact H
          have Ny252 := Aside0.mk hy252
          clear hy252
          have H' := Aside0.mk H
          clear H
          obtain ⟨hcz10_0, hcz10_1, hcz10_2, hcz10_3⟩ := qc4 BK250
          obtain ⟨hfz10_0, hfz10_1, hfz10_2, hfz10_3⟩ := qf4 BK250
          try go_wp2
          have n0_ := Aside0.mk (Kd.R_drew HO_251001.out)
          have n1_ := Aside0.mk (Kd.R_drew HO_251002.out)
          have n2_ := Aside0.mk (Kd.R_drew HO_251003.out)
          have n3_ := Aside0.mk (blk_drew BK250.out)
          have n4_ := Aside0.mk (Kept.drew HK.out)
          have n5_ := Aside0.mk (below_drew1 HB.out)
          clear HO_251001
          clear HO_251002
          clear HO_251003
          clear BK250
          clear HK
          clear HB
          have HO_251001 := n0_
          have HO_251002 := n1_
          have HO_251003 := n2_
          have BK250 := n3_
          have HK := n4_
          have HB := n5_
          clear n0_ n1_ n2_ n3_ n4_ n5_
          refine start_ (n := 13) (S := fun w' => w'.cell? ⟨gb250, 0, none⟩ = some (.bool a0_0) ∧ w'.cell? ⟨gb250, 1, none⟩ = some (.slice Ao2 x251001_1.length co2) ∧ w'.cell? ⟨gb250, 2, none⟩ = some (.slice Ao3 l0_2.length co3) ∧ w'.cell? ⟨gb250, 3, none⟩ = some (.slice Ao4 l0_3.length co4)) (ds := [12]) #[false, false, false, false, false, false, false, false, false, false, false, false, false] (by kernel_rfl) rfl rfl ⟨(blk_cell BK250.out 0).trans rfl, (blk_cell BK250.out 1).trans rfl, (blk_cell BK250.out 2).trans rfl, (blk_cell BK250.out 3).trans rfl⟩ (fun hHeld => ?_); refine with_tabW concordlaw08_over.tab4 concordlaw08_over.bits4 (fun HT_ HW_ => ?_)
          generalize wr.drew = w11 at HO_251001 HO_251002 HO_251003 BK250 HK HB hHeld ⊢
          refine pure_ (i := 0) (N := some 12) (v := ?_) (a' := ?_) #[true, false, false, false, false, false, false, false, false, false, false, false, false] rfl rfl (any_of HT_.out (by kernel_rfl)) (fun _ _ _ h => h) (Or.inl ⟨by rfl, ?_⟩) ?_ ?_
          rotate_left
          · intro w'
            go_simp
            with_reducible rfl
          rotate_left
          · simp only [Act.put, List.setIfInBounds_toArray, List.set_cons_zero, List.set_cons_succ, i64_w, i32_w]
            rfl
          refine pure_ (i := 2) (N := some 14) (v := ?_) (a' := ?_) #[true, false, true, false, false, false, false, false, false, false, false, false, false] rfl rfl (any_of HT_.out (by kernel_rfl)) (fun _ _ _ h => h) (Or.inl ⟨by rfl, ?_⟩) ?_ ?_
          rotate_left
          · intro w'
            go_simp
            with_reducible rfl
          rotate_left
          · simp only [Act.put, List.setIfInBounds_toArray, List.set_cons_zero, List.set_cons_succ, i64_w, i32_w]
            rfl
          refine pure_ (i := 3) (N := some 15) (v := ?_) (a' := ?_) #[true, false, true, true, false, false, false, false, false, false, false, false, false] rfl rfl (any_of HT_.out (by kernel_rfl)) (fun _ _ _ h => h) (Or.inl ⟨by rfl, ?_⟩) ?_ ?_
          rotate_left
          · intro w'
            go_simp
            with_reducible rfl
          rotate_left
          · simp only [Act.put, List.setIfInBounds_toArray, List.set_cons_zero, List.set_cons_succ, i64_w, i32_w]
            rfl
          refine pure_ (i := 5) (N := some 17) (v := ?_) (a' := ?_) #[true, false, true, true, false, true, false, false, false, false, false, false, false] rfl rfl (any_of HT_.out (by kernel_rfl)) (fun _ _ _ h => h) (Or.inl ⟨by rfl, ?_⟩) ?_ ?_
          rotate_left
          · intro w'
            go_simp
            with_reducible rfl
          rotate_left
          · simp only [Act.put, List.setIfInBounds_toArray, List.set_cons_zero, List.set_cons_succ, i64_w, i32_w]
            rfl
          refine pure_ (i := 6) (N := some 18) (v := ?_) (a' := ?_) #[true, false, true, true, false, true, true, false, false, false, false, false, false] rfl rfl (any_of HT_.out (by kernel_rfl)) (fun _ _ _ h => h) (Or.inl ⟨by rfl, ?_⟩) ?_ ?_
          rotate_left
          · intro w'
            go_simp
            with_reducible rfl
          rotate_left
          · simp only [Act.put, List.setIfInBounds_toArray, List.set_cons_zero, List.set_cons_succ, i64_w, i32_w]
            rfl
          refine pure_ (i := 7) (N := some 19) (v := ?_) (a' := ?_) #[true, false, true, true, false, true, true, true, false, false, false, false, false] rfl rfl (any_of HT_.out (by kernel_rfl)) (fun _ _ _ h => h) (Or.inl ⟨by rfl, ?_⟩) ?_ ?_
          rotate_left
          · intro w'
            go_simp
            with_reducible rfl
          rotate_left
          · simp only [Act.put, List.setIfInBounds_toArray, List.set_cons_zero, List.set_cons_succ, i64_w, i32_w]
            rfl
          refine pure_ (i := 8) (N := some 20) (v := ?_) (a' := ?_) #[true, false, true, true, false, true, true, true, true, false, false, false, false] rfl rfl (any_of HT_.out (by kernel_rfl)) (fun _ _ _ h => h) (Or.inl ⟨by rfl, ?_⟩) ?_ ?_
          rotate_left
          · intro w'
            go_simp
            with_reducible rfl
          rotate_left
          · simp only [Act.put, List.setIfInBounds_toArray, List.set_cons_zero, List.set_cons_succ, i64_w, i32_w]
            rfl
          refine pure_ (i := 9) (N := some 21) (v := ?_) (a' := ?_) #[true, false, true, true, false, true, true, true, true, true, false, false, false] rfl rfl (any_of HT_.out (by kernel_rfl)) (fun _ _ _ h => h) (Or.inl ⟨by rfl, ?_⟩) ?_ ?_
          rotate_left
          · intro w'
            go_simp
            with_reducible rfl
          rotate_left
          · simp only [Act.put, List.setIfInBounds_toArray, List.set_cons_zero, List.set_cons_succ, i64_w, i32_w]
            rfl
          refine take_ (i := 1) (N := some 13) (v := ?_) (a' := ?_) #[true, true, true, true, false, true, true, true, true, true, false, false, false] rfl rfl (take_ofW HT_.out HW_.out (by kernel_rfl)) (fun _ _ _ h => h) (Or.inl ⟨by rfl, ?_⟩) hHeld ?_ ?_
          rotate_left
          · rintro w' ⟨s0, s1, s2, s3⟩
            go_simp
            with_reducible rfl
          rotate_left
          · simp only [Act.put, List.setIfInBounds_toArray, List.set_cons_zero, List.set_cons_succ, i64_w, i32_w]
            rfl
          refine one_ (i := 4) (N := some 16) #[true, true, true, true, true, true, true, true, true, true, false, false, false] rfl rfl (one_of HT_.out (by kernel_rfl)) (by decide) (fun K hK => ?_)
          refine goes_ Try.func67 (by kernel_rfl) rfl #[.int .i64 x2_1] (by rfl) rfl rfl (by (try simp only [List.map_toArray, List.map_cons, List.map_nil]); first | done | rfl | (simp only [List.length_drop, List.length_take]; rfl)) ?_
          with_reducible refine (concordlaw08_rising.calls x2_1 t251 _ A7.out).mono ?_
          rintro e w12 ⟨rfl, hb⟩
          refine ⟨_, rfl, ?_⟩
          have n0_ := sBe HO_251001 hb
          have n1_ := sBe HO_251002 hb
          have n2_ := sBe HO_251003 hb
          have n3_ := Aside0.mk (blk_below (g := gb250) (o := .cells #[.bool a0_0, .slice Ao2 x251001_1.length co2, .slice Ao3 l0_2.length co3, .slice Ao4 l0_3.length co4] 26 (0, 0)) (qB BK250) hb)
          have n4_ := Aside0.mk (Kept.below (S := (fun k_ => P0_1_ k_ ∨ P0_2_ k_ ∨ P0_3_ k_)) (by repeat (first | (with_reducible first | exact HK.out | apply Kept.alloc | apply Kept.drewN | apply Kept.drew | refine Kept.setCell ?_ (.inr GW250.out) _) | exact HK.out)) hb)
          have n5_ := Aside0.mk (below_step (by exact qS1 HB GE250) hb)
          clear HO_251001
          clear HO_251002
          clear HO_251003
          clear BK250
          clear HK
          clear HB
          have HO_251001 := n0_
          have HO_251002 := n1_
          have HO_251003 := n2_
          have BK250 := n3_
          have HK := n4_
          have HB := n5_
          clear n0_ n1_ n2_ n3_ n4_ n5_
          (try clear hb)
          (try clear hb2)
          (try clear hk)
          (try clear hi)
          have p9 : 0 ≤ (x2_1 : Int) := of_decide_eq_true (by first | (with_reducible assumption) | assumption)
          have q9 : (x2_1 : Int) < ((x251001_1.length : Int) : Int) := of_decide_eq_true (by first | (with_reducible assumption) | assumption)
          obtain ⟨go9, co9, eo9, gb9, gl9, cl9, HG9⟩ := Kd.R_form HO_251001.out (by omega)
          (first | cases eo9 | (injection eo9 with ea_ en_ ec_; (first | subst ea_ | (injection ea_ with ea_; subst ea_)); subst ec_; clear en_))
          have GB9 := Aside0.mk gb9
          have GG9 := Aside0.mk HG9
          clear gb9 gl9 HG9
          have HMgo9 := Aside0.mk (show ((P0_1_ go9 ∨ P0_2_ go9 ∨ P0_3_ go9) ∨ w.heap.size ≤ go9) from (HO_251001.out.1 _ rfl))
          obtain ⟨ce9, hcl9, hM9, hcc9, hfr9⟩ := Kd.R_elem HO_251001.out z66 (x2_1 : Int) p9 q9
          obtain rfl := k66_openM hM9
          have hx9_0 : World.cell? _ ⟨go9, (x2_1 : Int).toNat * 2, none⟩ = some (.string ((rd_T66 x251001_1 x2_1).f0)) := hcc9 0 _ rfl
          have hx9_1 : World.cell? _ ⟨go9, (x2_1 : Int).toNat * 2 + 1, none⟩ = some (.string ((rd_T66 x251001_1 x2_1).f1)) := hcc9 1 _ rfl
          have hf9_0 : World.frozen? _ ⟨go9, (x2_1 : Int).toNat * 2, none⟩ = false := hfr9 0
          have hf9_1 : World.frozen? _ ⟨go9, (x2_1 : Int).toNat * 2 + 1, none⟩ = false := hfr9 1
          clear hcl9 hcc9 hfr9 hM9
          replace p9 := eq_true p9
          replace q9 := eq_true q9
          obtain ⟨ce13, hcl13, hM13, hcc13, hfr13⟩ := Kd.R_elem HO_251001.out z66 (x2_1 : Int) (of_decide_eq_true (by first | (with_reducible assumption) | assumption)) (by have h_ : (x2_1 : Int) < ((x251001_1.length : Int) : Int) := of_decide_eq_true (by first | (with_reducible assumption) | assumption); first | exact h_ | (have e_ := (Kd.R_reads' HO_251001.out).1; omega) | simpa using h_)
          obtain rfl := k66_openM hM13
          have HP13 := (Kd.R_seg HO_251001.out (x2_1 : Int) (of_decide_eq_true (by first | (with_reducible assumption) | assumption)) (by have h_ : (x2_1 : Int) < ((x251001_1.length : Int) : Int) := of_decide_eq_true (by first | (with_reducible assumption) | assumption); first | exact h_ | (have e_ := (Kd.R_reads' HO_251001.out).1; omega) | simpa using h_) (seg := [.string t251, .string (Utf8.encode (wrap32 (wrap64 (97 + (Int.tmod x2_1 26)))))]) (j := 0) hcl13 hcc13 (show 2 ≤ 2 from by decide) (x' := (⟨t251, Utf8.encode (wrap32 (wrap64 (97 + (Int.tmod x2_1 26))))⟩ : S66)) (k66_mkM _ _ _ (⟨t251, Utf8.encode (wrap32 (wrap64 (97 + (Int.tmod x2_1 26))))⟩ : S66) ) (fun _ hk => hk)).1
          rw [← Ny252.out] at HP13
          have HQ13 := Aside0.mk HP13
          clear hcl13 hcc13 hfr13 hM13 HP13
          refine hK.out _ _ ⟨(blk_cell BK250.out 0).trans rfl, (blk_cell BK250.out 1).trans rfl, (blk_cell BK250.out 2).trans rfl, (blk_cell BK250.out 3).trans rfl⟩ (fun hHeld => ?_)
          clear hK K
          refine norm_ (a' := ?_) ?_ ?_
          rotate_left
          · show Act.put _ (some 16) _ = _
            simp only [Act.put, List.setIfInBounds_toArray, List.set_cons_zero, List.set_cons_succ, i64_w, i32_w]
            rfl
          refine pure_ (i := 10) (N := some 22) (v := ?_) (a' := ?_) #[true, true, true, true, true, true, true, true, true, true, true, false, false] rfl rfl (any_of HT_.out (by kernel_rfl)) (fun _ _ _ h => h) (Or.inl ⟨by rfl, ?_⟩) ?_ ?_
          rotate_left
          · intro w'
            go_simp
            with_reducible rfl
          rotate_left
          · simp only [Act.put, List.setIfInBounds_toArray, List.set_cons_zero, List.set_cons_succ, i64_w, i32_w]
            rfl
          refine pure_ (i := 11) (N := some 23) (v := ?_) (a' := ?_) #[true, true, true, true, true, true, true, true, true, true, true, true, false] rfl rfl (any_of HT_.out (by kernel_rfl)) (fun _ _ _ h => h) (Or.inl ⟨by rfl, ?_⟩) ?_ ?_
          rotate_left
          · intro w'
            go_simp
            with_reducible rfl
          rotate_left
          · simp only [Act.put, List.setIfInBounds_toArray, List.set_cons_zero, List.set_cons_succ, i64_w, i32_w]
            rfl
          refine last_ (i := 12) (N := none) #[true, true, true, true, true, true, true, true, true, true, true, true, true] rfl rfl (one_of HT_.out (by kernel_rfl)) (by decide) (fun K hK => ?_)
          refine skip_ (w1 := ?_) (by rfl) rfl ?_ ?_
          rotate_left
          · go_simp
            rfl
          refine hK.out _ _ ?_
          clear hK K
          refine done_ (done_of HT_.out (by kernel_rfl)) ?_
          try go_wp2
          (try simp only [← hl251001_1])
          go_roundg k1
          case measure => have := HK1.out; omega
          case rel => exact ⟨(wrap64 (x2_1 + 1)), (y252), (by first | rfl | (simp; done) | (simp [*]; done) | (simp only [i64_w]; done)), H', ⟨by have := HK1.out; omega⟩, ⟨by (try simp only [hl251001_1]); (with_reducible repeat (first | apply Kd.R_alloc | apply Kd.R_drewN | apply Kd.R_drew)); exact HQ13.out⟩, ⟨by (try simp only [hl251001_1]); (with_reducible repeat (first | apply Kd.R_alloc | apply Kd.R_drewN | apply Kd.R_drew)); exact Kd.R_mono (Kd.R_far (p := ⟨go9, (x2_1 : Int).toNat * 2 + 1, none⟩) (Kd.R_far (p := ⟨go9, (x2_1 : Int).toNat * 2, none⟩) (Kd.R_types HO_251002.out GG9.out (by decide)) (fun _ hk => hk.2) (.string t251)) (fun _ hk => hk.2) (.string (Utf8.encode (wrap32 (wrap64 (97 + (Int.tmod x2_1 26))))))) (fun _ hk => hk.1)⟩, ⟨by (try simp only [hl251001_1]); (with_reducible repeat (first | apply Kd.R_alloc | apply Kd.R_drewN | apply Kd.R_drew)); exact Kd.R_mono (Kd.R_far (p := ⟨go9, (x2_1 : Int).toNat * 2 + 1, none⟩) (Kd.R_far (p := ⟨go9, (x2_1 : Int).toNat * 2, none⟩) (Kd.R_types HO_251003.out GG9.out (by decide)) (fun _ hk => hk.2) (.string t251)) (fun _ hk => hk.2) (.string (Utf8.encode (wrap32 (wrap64 (97 + (Int.tmod x2_1 26))))))) (fun _ hk => hk.1)⟩, ⟨by (try simp only [hl251001_1]); (with_reducible repeat (first | refine blk_drewN ?_ _ | refine blk_drew ?_ | refine blk_alloc ?_ _)); refine blk_far ?_ (by have h_ := Kd.R_ne HO_251001.out BK250.out (by decide); intro e_; exact h_ (by rw [e_]; rfl)) _; (with_reducible repeat (first | refine blk_drewN ?_ _ | refine blk_drew ?_ | refine blk_alloc ?_ _)); refine blk_far ?_ (by have h_ := Kd.R_ne HO_251001.out BK250.out (by decide); intro e_; exact h_ (by rw [e_]; rfl)) _; (with_reducible repeat (first | refine blk_drewN ?_ _ | refine blk_drew ?_ | refine blk_alloc ?_ _)); exact BK250.out⟩, ⟨by repeat (first | (with_reducible first | exact HK.out | apply Kept.alloc | apply Kept.drewN | apply Kept.drew | refine Kept.setCell ?_ HMgo9.out _ | refine Kept.setCell ?_ HMgo9.out _ | refine Kept.setCell ?_ (.inr GW250.out) _) | exact HK.out)⟩, ⟨by repeat (first | (with_reducible first | exact HB.out | apply below_alloc | apply pw_below_drewN | apply below_drew1 | refine below_set ?_ GB9.out | refine below_set ?_ GB9.out | refine below_set ?_ GE250.out) | exact HB.out)⟩⟩
        · rw [if_neg c8] at H
          exact absurd H (by simp)
      · rw [if_neg c6] at H
        have c6b0 : decide (x2_1 < (x251001_1.length : Int)) = false := decide_eq_false c6
        clear c6
        have H' := Aside0.mk H
        clear H
        obtain ⟨hcz14_0, hcz14_1, hcz14_2, hcz14_3⟩ := qc4 BK250
        obtain ⟨hfz14_0, hfz14_1, hfz14_2, hfz14_3⟩ := qf4 BK250
        go_wp2
        go_loopg [3] k1 (fun kq v3 w' => ∃ (x3_2 : Int) (x251002_2 : List ByteArray), v3 = .int .i64 x3_2 ∧ Aside0 (concordlaw08_over.l1 kq x3_2 a0_0 x251001_1 x251002_2 l0_3 = some (r1, r2, r3)) ∧ Aside0 (kq ≤ k1) ∧ Aside0 (Kd.R k66 66 w' w0.heap.size (fun k_ => ((P0_1_ k_ ∨ P0_2_ k_ ∨ P0_3_ k_) ∨ w.heap.size ≤ k_)) (.slice Ao2 x251001_1.length co2) x251001_1) ∧ Aside0 (Kd.R Kd.string 9 w' w0.heap.size (fun k_ => ((P0_1_ k_ ∨ P0_2_ k_ ∨ P0_3_ k_) ∨ w.heap.size ≤ k_)) (.slice Ao3 l0_2.length co3) x251002_2) ∧ Aside0 (Kd.R (Kd.int .u32) 45 w' w0.heap.size (fun k_ => ((P0_1_ k_ ∨ P0_2_ k_ ∨ P0_3_ k_) ∨ w.heap.size ≤ k_)) (.slice Ao4 l0_3.length co4) l0_3) ∧ Aside0 (w'.heap[gb250]? = some (.cells #[.bool a0_0, (.slice Ao2 x251001_1.length co2), (.slice Ao3 l0_2.length co3), (.slice Ao4 l0_3.length co4)] 26 (0, 0))) ∧ Aside0 (Kept w w' (fun k_ => P0_1_ k_ ∨ P0_2_ k_ ∨ P0_3_ k_)) ∧ Aside0 (Below w0.heap.size w0 w'))
        case atStart => exact ⟨(0), (l0_2), (by first | rfl | (simp; done) | (simp [*]; done) | (simp only [i64_w]; done)), H', ⟨Nat.le_refl _⟩, ⟨by (try simp only [hl251001_1]); (with_reducible repeat (first | apply Kd.R_alloc | apply Kd.R_drewN | apply Kd.R_drew)); exact HO_251001.out⟩, ⟨by (try simp only [hl251001_1]); (with_reducible repeat (first | apply Kd.R_alloc | apply Kd.R_drewN | apply Kd.R_drew)); exact HO_251002.out⟩, ⟨by (try simp only [hl251001_1]); (with_reducible repeat (first | apply Kd.R_alloc | apply Kd.R_drewN | apply Kd.R_drew)); exact HO_251003.out⟩, ⟨by (try simp only [hl251001_1]); (with_reducible repeat (first | refine blk_drewN ?_ _ | refine blk_drew ?_ | refine blk_alloc ?_ _)); exact BK250.out⟩, ⟨by repeat (first | (with_reducible first | exact HK.out | apply Kept.alloc | apply Kept.drewN | apply Kept.drew | refine Kept.setCell ?_ (.inr GW250.out) _) | exact HK.out)⟩, ⟨by exact qS1 HB GE250⟩⟩
        case round =>
          clear H'
          try clear c1
          try clear c2
          try clear p2
          try clear p3
          try clear c6
          try clear c6b0
          try clear p6
          try clear c8
          try clear c8b0
          try clear c9
          try clear p9
          try clear q9
          try clear hx9
          try clear hf9
          try clear c13
          try clear hcz10_0
          try clear hcz10_1
          try clear hcz10_2
          try clear hcz10_3
          try clear hcz14_0
          try clear hcz14_1
          try clear hcz14_2
          try clear hcz14_3
          try clear hfz10_0
          try clear hfz10_1
          try clear hfz10_2
          try clear hfz10_3
          try clear hfz14_0
          try clear hfz14_1
          try clear hfz14_2
          try clear hfz14_3
          try clear hx9_0
          try clear hx9_1
          try clear p2
          try clear p9
          try clear q9
          obtain ⟨x3_2, x251002_2, rfl, HA, HK2, HO_251001, HO_251002, HO_251003, BK250, HK, HB⟩ := hrel
          have hl251002_2 := (Kd.R_reads' HO_251002.out).1
          rw [hl251002_2] at HO_251002
          (try simp only [hl251002_2])
          (try simp only [hl251002_2] at BK250)
          (try simp only [hl251002_2] at HO_251001)
          (try simp only [hl251002_2] at HO_251003)
          cases gk with
          | zero => exact absurd HA.out (by simp [concordlaw08_over.l1])
          | succ k2 =>
            have H := HA.out
            clear HA
            simp only [concordlaw08_over.l1] at H
            by_cases c15 : x3_2 < (x251002_2.length : Int)
            · rw [if_pos c15] at H
              have c15b0 : decide (x3_2 < (x251002_2.length : Int)) = true := decide_eq_true c15
              clear c15
              replace H := Option.bind_eq_some_iff.mp H
              obtain ⟨t253, A160, H⟩ := H
              replace H : (if 0 ≤ x3_2 then (concordlaw08_over.l1 k2 (wrap64 (x3_2 + 1)) a0_0 x251001_1 (x251002_2.set (x3_2 : Int).toNat t253) l0_3) else (none)) = some (r1, r2, r3) := H
              have A16 := Aside0.mk A160
              clear A160
              by_cases c17 : 0 ≤ x3_2
              · rw [if_pos c17] at H
                have c17b0 : decide (0 ≤ x3_2) = true := decide_eq_true c17
                clear c17
                obtain ⟨y254, hy254⟩ : ∃ y_ : List ByteArray, y_ = (x251002_2.set (x3_2 : Int).toNat t253) := ⟨_, rfl⟩
                replace H : (concordlaw08_over.l1 k2 (wrap64 (x3_2 + 1)) a0_0 x251001_1 y254 l0_3) = some (r1, r2, r3) := by first | (rw [hy254]; with_reducible exact H) | (have H2_ := (Option.bind_some _ _).symm.trans H; rw [hy254]; with_reducible exact H2_) | (have H2_ := (Option.bind_some _ _).symm.trans H; with_reducible exact H2_) | with_reducible exact H | (rw [hy254]; exact H) | exact H
                have Ny254 := Aside0.mk hy254
                clear hy254
                have H' := Aside0.mk H
                clear H
                obtain ⟨hcz19_0, hcz19_1, hcz19_2, hcz19_3⟩ := qc4 BK250
                obtain ⟨hfz19_0, hfz19_1, hfz19_2, hfz19_3⟩ := qf4 BK250
                try go_wp2
                have n0_ := Aside0.mk (Kd.R_drew HO_251001.out)
                have n1_ := Aside0.mk (Kd.R_drew HO_251002.out)
                have n2_ := Aside0.mk (Kd.R_drew HO_251003.out)
                have n3_ := Aside0.mk (blk_drew BK250.out)
                have n4_ := Aside0.mk (Kept.drew HK.out)
                have n5_ := Aside0.mk (below_drew1 HB.out)
                clear HO_251001
                clear HO_251002
                clear HO_251003
                clear BK250
                clear HK
                clear HB
                have HO_251001 := n0_
                have HO_251002 := n1_
                have HO_251003 := n2_
                have BK250 := n3_
                have HK := n4_
                have HB := n5_
                clear n0_ n1_ n2_ n3_ n4_ n5_
                refine start_ (n := 7) (S := fun w' => w'.cell? ⟨gb250, 0, none⟩ = some (.bool a0_0) ∧ w'.cell? ⟨gb250, 1, none⟩ = some (.slice Ao2 x251001_1.length co2) ∧ w'.cell? ⟨gb250, 2, none⟩ = some (.slice Ao3 x251002_2.length co3) ∧ w'.cell? ⟨gb250, 3, none⟩ = some (.slice Ao4 l0_3.length co4)) (ds := [6]) #[false, false, false, false, false, false, false] (by kernel_rfl) rfl rfl ⟨(blk_cell BK250.out 0).trans rfl, (blk_cell BK250.out 1).trans rfl, (blk_cell BK250.out 2).trans rfl, (blk_cell BK250.out 3).trans rfl⟩ (fun hHeld => ?_)
                generalize wr.drew = w20 at HO_251001 HO_251002 HO_251003 BK250 HK HB hHeld ⊢
                refine pure_ (i := 0) (N := some 31) (v := ?_) (a' := ?_) #[true, false, false, false, false, false, false] rfl rfl (by kernel_rfl) (fun _ _ _ h => h) (Or.inl ⟨by rfl, ?_⟩) ?_ ?_
                rotate_left
                · intro w'
                  go_simp
                  with_reducible rfl
                rotate_left
                · simp only [Act.put, List.setIfInBounds_toArray, List.set_cons_zero, List.set_cons_succ, i64_w, i32_w]
                  rfl
                refine pure_ (i := 2) (N := some 33) (v := ?_) (a' := ?_) #[true, false, true, false, false, false, false] rfl rfl (by kernel_rfl) (fun _ _ _ h => h) (Or.inl ⟨by rfl, ?_⟩) ?_ ?_
                rotate_left
                · intro w'
                  go_simp
                  with_reducible rfl
                rotate_left
                · simp only [Act.put, List.setIfInBounds_toArray, List.set_cons_zero, List.set_cons_succ, i64_w, i32_w]
                  rfl
                refine pure_ (i := 3) (N := some 34) (v := ?_) (a' := ?_) #[true, false, true, true, false, false, false] rfl rfl (by kernel_rfl) (fun _ _ _ h => h) (Or.inl ⟨by rfl, ?_⟩) ?_ ?_
                rotate_left
                · intro w'
                  go_simp
                  with_reducible rfl
                rotate_left
                · simp only [Act.put, List.setIfInBounds_toArray, List.set_cons_zero, List.set_cons_succ, i64_w, i32_w]
                  rfl
                refine take_ (i := 1) (N := some 32) (v := ?_) (a' := ?_) #[true, true, true, true, false, false, false] rfl rfl (by kernel_rfl) (fun _ _ _ h => h) (Or.inl ⟨by rfl, ?_⟩) hHeld ?_ ?_
                rotate_left
                · rintro w' ⟨s0, s1, s2, s3⟩
                  go_simp
                  with_reducible rfl
                rotate_left
                · simp only [Act.put, List.setIfInBounds_toArray, List.set_cons_zero, List.set_cons_succ, i64_w, i32_w]
                  rfl
                refine one_ (i := 4) (N := some 35) #[true, true, true, true, true, false, false] rfl rfl (by kernel_rfl) (by decide) (fun K hK => ?_)
                refine goes_ Try.func67 (by kernel_rfl) rfl #[.int .i64 x3_2] (by rfl) rfl rfl (by (try simp only [List.map_toArray, List.map_cons, List.map_nil]); first | done | rfl | (simp only [List.length_drop, List.length_take]; rfl)) ?_
                with_reducible refine (concordlaw08_rising.calls x3_2 t253 _ A16.out).mono ?_
                rintro e w21 ⟨rfl, hb⟩
                refine ⟨_, rfl, ?_⟩
                have n0_ := sBe HO_251001 hb
                have n1_ := sBe HO_251002 hb
                have n2_ := sBe HO_251003 hb
                have n3_ := Aside0.mk (blk_below (g := gb250) (o := .cells #[.bool a0_0, .slice Ao2 x251001_1.length co2, .slice Ao3 x251002_2.length co3, .slice Ao4 l0_3.length co4] 26 (0, 0)) (qB BK250) hb)
                have n4_ := Aside0.mk (Kept.below (S := (fun k_ => P0_1_ k_ ∨ P0_2_ k_ ∨ P0_3_ k_)) (by repeat (first | (with_reducible first | exact HK.out | apply Kept.alloc | apply Kept.drewN | apply Kept.drew | refine Kept.setCell ?_ (.inr GW250.out) _) | exact HK.out)) hb)
                have n5_ := Aside0.mk (below_step (by exact qS1 HB GE250) hb)
                clear HO_251001
                clear HO_251002
                clear HO_251003
                clear BK250
                clear HK
                clear HB
                have HO_251001 := n0_
                have HO_251002 := n1_
                have HO_251003 := n2_
                have BK250 := n3_
                have HK := n4_
                have HB := n5_
                clear n0_ n1_ n2_ n3_ n4_ n5_
                (try clear hb)
                (try clear hb2)
                (try clear hk)
                (try clear hi)
                have p18 : 0 ≤ (x3_2 : Int) := of_decide_eq_true (by first | (with_reducible assumption) | assumption)
                have q18 : (x3_2 : Int) < ((x251002_2.length : Int) : Int) := of_decide_eq_true (by first | (with_reducible assumption) | assumption)
                obtain ⟨go18, co18, eo18, gb18, gl18, cl18, HG18⟩ := Kd.R_form HO_251002.out (by omega)
                (first | cases eo18 | (injection eo18 with ea_ en_ ec_; (first | subst ea_ | (injection ea_ with ea_; subst ea_)); subst ec_; clear en_))
                have GB18 := Aside0.mk gb18
                have GG18 := Aside0.mk HG18
                clear gb18 gl18 HG18
                have HMgo18 := Aside0.mk (show ((P0_1_ go18 ∨ P0_2_ go18 ∨ P0_3_ go18) ∨ w.heap.size ≤ go18) from (HO_251002.out.1 _ rfl))
                obtain ⟨hx18_0, hf18_0⟩ := Kd.R_celln (⟨#[]⟩ : ByteArray) HO_251002.out (x3_2 : Int) p18 q18
                replace p18 := eq_true p18
                replace q18 := eq_true q18
                have HP22 := Kd.R_putn HO_251002.out (x3_2 : Int) t253
                rw [← Ny254.out] at HP22
                have HQ22 := Aside0.mk HP22
                clear HP22
                refine hK.out _ _ ⟨(blk_cell BK250.out 0).trans rfl, (blk_cell BK250.out 1).trans rfl, (blk_cell BK250.out 2).trans rfl, (blk_cell BK250.out 3).trans rfl⟩ (fun hHeld => ?_)
                clear hK K
                refine norm_ (a' := ?_) ?_ ?_
                rotate_left
                · show Act.put _ (some 35) _ = _
                  simp only [Act.put, List.setIfInBounds_toArray, List.set_cons_zero, List.set_cons_succ, i64_w, i32_w]
                  rfl
                refine pure_ (i := 5) (N := some 36) (v := ?_) (a' := ?_) #[true, true, true, true, true, true, false] rfl rfl (by kernel_rfl) (fun _ _ _ h => h) (Or.inl ⟨by rfl, ?_⟩) ?_ ?_
                rotate_left
                · intro w'
                  go_simp
                  with_reducible rfl
                rotate_left
                · simp only [Act.put, List.setIfInBounds_toArray, List.set_cons_zero, List.set_cons_succ, i64_w, i32_w]
                  rfl
                refine last_ (i := 6) (N := none) #[true, true, true, true, true, true, true] rfl rfl (by kernel_rfl) (by decide) (fun K hK => ?_)
                refine skip_ (w1 := ?_) (by rfl) rfl ?_ ?_
                rotate_left
                · go_simp
                  rfl
                refine hK.out _ _ ?_
                clear hK K
                refine done_ (by kernel_rfl) ?_
                try go_wp2
                (try simp only [← hl251002_2])
                go_roundg k2
                case measure => have := HK1.out; have := HK2.out; omega
                case rel => exact ⟨(wrap64 (x3_2 + 1)), (y254), (by first | rfl | (simp; done) | (simp [*]; done) | (simp only [i64_w]; done)), H', ⟨by have := HK1.out; have := HK2.out; omega⟩, ⟨by (try simp only [hl251001_1]); (try simp only [hl251002_2]); (with_reducible repeat (first | apply Kd.R_alloc | apply Kd.R_drewN | apply Kd.R_drew)); exact Kd.R_mono (Kd.R_far (p := ⟨go18, (x3_2 : Int).toNat, none⟩) (Kd.R_types HO_251001.out GG18.out (by decide)) (fun _ hk => hk.2) (.string t253)) (fun _ hk => hk.1)⟩, ⟨by (try simp only [hl251001_1]); (try simp only [hl251002_2]); (with_reducible repeat (first | apply Kd.R_alloc | apply Kd.R_drewN | apply Kd.R_drew)); exact HQ22.out⟩, ⟨by (try simp only [hl251001_1]); (try simp only [hl251002_2]); (with_reducible repeat (first | apply Kd.R_alloc | apply Kd.R_drewN | apply Kd.R_drew)); exact Kd.R_mono (Kd.R_far (p := ⟨go18, (x3_2 : Int).toNat, none⟩) (Kd.R_types HO_251003.out GG18.out (by decide)) (fun _ hk => hk.2) (.string t253)) (fun _ hk => hk.1)⟩, ⟨by (try simp only [hl251001_1]); (try simp only [hl251002_2]); (with_reducible repeat (first | refine blk_drewN ?_ _ | refine blk_drew ?_ | refine blk_alloc ?_ _)); refine blk_far ?_ (by have h_ := Kd.R_ne HO_251002.out BK250.out (by decide); intro e_; exact h_ (by rw [e_]; rfl)) _; (with_reducible repeat (first | refine blk_drewN ?_ _ | refine blk_drew ?_ | refine blk_alloc ?_ _)); exact BK250.out⟩, ⟨by repeat (first | (with_reducible first | exact HK.out | apply Kept.alloc | apply Kept.drewN | apply Kept.drew | refine Kept.setCell ?_ HMgo18.out _ | refine Kept.setCell ?_ (.inr GW250.out) _) | exact HK.out)⟩, ⟨by repeat (first | (with_reducible first | exact HB.out | apply below_alloc | apply pw_below_drewN | apply below_drew1 | refine below_set ?_ GB18.out | refine below_set ?_ GE250.out) | exact HB.out)⟩⟩
              · rw [if_neg c17] at H
                exact absurd H (by simp)
            · rw [if_neg c15] at H
              have c15b0 : decide (x3_2 < (x251002_2.length : Int)) = false := decide_eq_false c15
              clear c15
              have H' := Aside0.mk H
              clear H
              obtain ⟨hcz23_0, hcz23_1, hcz23_2, hcz23_3⟩ := qc4 BK250
              obtain ⟨hfz23_0, hfz23_1, hfz23_2, hfz23_3⟩ := qf4 BK250
              go_wp2
              go_loopg [4] k2 (fun kq v4 w' => ∃ (x4_3 : Int) (x251003_3 : List Int), v4 = .int .i64 x4_3 ∧ Aside0 (concordlaw08_over.l2 kq x4_3 a0_0 x251001_1 x251002_2 x251003_3 = some (r1, r2, r3)) ∧ Aside0 (kq ≤ k2) ∧ Aside0 (Kd.R k66 66 w' w0.heap.size (fun k_ => ((P0_1_ k_ ∨ P0_2_ k_ ∨ P0_3_ k_) ∨ w.heap.size ≤ k_)) (.slice Ao2 x251001_1.length co2) x251001_1) ∧ Aside0 (Kd.R Kd.string 9 w' w0.heap.size (fun k_ => ((P0_1_ k_ ∨ P0_2_ k_ ∨ P0_3_ k_) ∨ w.heap.size ≤ k_)) (.slice Ao3 x251002_2.length co3) x251002_2) ∧ Aside0 (Kd.R (Kd.int .u32) 45 w' w0.heap.size (fun k_ => ((P0_1_ k_ ∨ P0_2_ k_ ∨ P0_3_ k_) ∨ w.heap.size ≤ k_)) (.slice Ao4 l0_3.length co4) x251003_3) ∧ Aside0 (w'.heap[gb250]? = some (.cells #[.bool a0_0, (.slice Ao2 x251001_1.length co2), (.slice Ao3 x251002_2.length co3), (.slice Ao4 l0_3.length co4)] 26 (0, 0))) ∧ Aside0 (Kept w w' (fun k_ => P0_1_ k_ ∨ P0_2_ k_ ∨ P0_3_ k_)) ∧ Aside0 (Below w0.heap.size w0 w'))
              case atStart => exact ⟨(0), (l0_3), (by first | rfl | (simp; done) | (simp [*]; done) | (simp only [i64_w]; done)), H', ⟨Nat.le_refl _⟩, ⟨by (try simp only [hl251001_1]); (try simp only [hl251002_2]); (with_reducible repeat (first | apply Kd.R_alloc | apply Kd.R_drewN | apply Kd.R_drew)); exact HO_251001.out⟩, ⟨by (try simp only [hl251001_1]); (try simp only [hl251002_2]); (with_reducible repeat (first | apply Kd.R_alloc | apply Kd.R_drewN | apply Kd.R_drew)); exact HO_251002.out⟩, ⟨by (try simp only [hl251001_1]); (try simp only [hl251002_2]); (with_reducible repeat (first | apply Kd.R_alloc | apply Kd.R_drewN | apply Kd.R_drew)); exact HO_251003.out⟩, ⟨by (try simp only [hl251001_1]); (try simp only [hl251002_2]); (with_reducible repeat (first | refine blk_drewN ?_ _ | refine blk_drew ?_ | refine blk_alloc ?_ _)); exact BK250.out⟩, ⟨by repeat (first | (with_reducible first | exact HK.out | apply Kept.alloc | apply Kept.drewN | apply Kept.drew | refine Kept.setCell ?_ (.inr GW250.out) _) | exact HK.out)⟩, ⟨by exact qS1 HB GE250⟩⟩
              case round =>
                clear H'
                try clear c1
                try clear p1
                try clear q1
                try clear hx1
                try clear hf1
                try clear c2
                try clear p2
                try clear p3
                try clear c6
                try clear c6b0
                try clear p6
                try clear c8
                try clear c8b0
                try clear c9
                try clear p9
                try clear q9
                try clear hx9
                try clear hf9
                try clear c13
                try clear c15
                try clear c15b0
                try clear c17
                try clear c17b0
                try clear p18
                try clear q18
                try clear hx18
                try clear hf18
                try clear c21
                try clear hcz10_0
                try clear hcz10_1
                try clear hcz10_2
                try clear hcz10_3
                try clear hcz14_0
                try clear hcz14_1
                try clear hcz14_2
                try clear hcz14_3
                try clear hcz19_0
                try clear hcz19_1
                try clear hcz19_2
                try clear hcz19_3
                try clear hcz23_0
                try clear hcz23_1
                try clear hcz23_2
                try clear hcz23_3
                try clear hfz10_0
                try clear hfz10_1
                try clear hfz10_2
                try clear hfz10_3
                try clear hfz14_0
                try clear hfz14_1
                try clear hfz14_2
                try clear hfz14_3
                try clear hfz19_0
                try clear hfz19_1
                try clear hfz19_2
                try clear hfz19_3
                try clear hfz23_0
                try clear hfz23_1
                try clear hfz23_2
                try clear hfz23_3
                try clear hx18_0
                try clear hx9_0
                try clear hx9_1
                try clear p18
                try clear p2
                try clear p3
                try clear p6
                try clear p9
                try clear q18
                try clear q9
                obtain ⟨x4_3, x251003_3, rfl, HA, HK3, HO_251001, HO_251002, HO_251003, BK250, HK, HB⟩ := hrel
                have hl251003_3 := (Kd.R_reads' HO_251003.out).1
                rw [hl251003_3] at HO_251003
                (try simp only [hl251003_3])
                (try simp only [hl251003_3] at BK250)
                (try simp only [hl251003_3] at HO_251001)
                (try simp only [hl251003_3] at HO_251002)
                cases gk with
                | zero => exact absurd HA.out (by simp [concordlaw08_over.l2])
                | succ k3 =>
                  have H := HA.out
                  clear HA
                  simp only [concordlaw08_over.l2] at H
                  by_cases c24 : x4_3 < (x251003_3.length : Int)
                  · rw [if_pos c24] at H
                    have c24b0 : decide (x4_3 < (x251003_3.length : Int)) = true := decide_eq_true c24
                    clear c24
                    by_cases c25 : 0 ≤ x4_3
                    · rw [if_pos c25] at H
                      have c25b0 : decide (0 ≤ x4_3) = true := decide_eq_true c25
                      clear c25
                      obtain ⟨y255, hy255⟩ : ∃ y_ : List Int, y_ = (x251003_3.set (x4_3 : Int).toNat ((wrap64 (77 + x4_3)) % 4294967296)) := ⟨_, rfl⟩
                      replace H : (concordlaw08_over.l2 k3 (wrap64 (x4_3 + 1)) a0_0 x251001_1 x251002_2 y255) = some (r1, r2, r3) := by first | (rw [hy255]; with_reducible exact H) | (have H2_ := (Option.bind_some _ _).symm.trans H; rw [hy255]; with_reducible exact H2_) | (have H2_ := (Option.bind_some _ _).symm.trans H; with_reducible exact H2_) | with_reducible exact H | (rw [hy255]; exact H) | exact H
                      have Ny255 := Aside0.mk hy255
                      clear hy255
                      have H' := Aside0.mk H
                      clear H
                      obtain ⟨hcz27_0, hcz27_1, hcz27_2, hcz27_3⟩ := qc4 BK250
                      obtain ⟨hfz27_0, hfz27_1, hfz27_2, hfz27_3⟩ := qf4 BK250
                      have p26 : 0 ≤ (x4_3 : Int) := of_decide_eq_true (by first | (with_reducible assumption) | assumption)
                      have q26 : (x4_3 : Int) < ((x251003_3.length : Int) : Int) := of_decide_eq_true (by first | (with_reducible assumption) | assumption)
                      obtain ⟨go26, co26, eo26, gb26, gl26, cl26, HG26⟩ := Kd.R_form HO_251003.out (by omega)
                      (first | cases eo26 | (injection eo26 with ea_ en_ ec_; (first | subst ea_ | (injection ea_ with ea_; subst ea_)); subst ec_; clear en_))
                      have GB26 := Aside0.mk gb26
                      have GG26 := Aside0.mk HG26
                      clear gb26 gl26 HG26
                      have HMgo26 := Aside0.mk (show ((P0_1_ go26 ∨ P0_2_ go26 ∨ P0_3_ go26) ∨ w.heap.size ≤ go26) from (HO_251003.out.1 _ rfl))
                      obtain ⟨hx26_0, hf26_0⟩ := Kd.R_celln 0 HO_251003.out (x4_3 : Int) p26 q26
                      replace p26 := eq_true p26
                      replace q26 := eq_true q26
                      have HP28 := Kd.R_putg HO_251003.out (x4_3 : Int) ((wrap64 (77 + x4_3)) % 4294967296)
                      go_wp2_with (first | ((with_reducible refine gate_store (t := 45) (p := 50) rfl ?_); refine store_event (t := 45) (p := 50) (v := ?vo_w29) (w1 := (wr.setCell ⟨go26, (x4_3 : Int).toNat, none⟩ (.int .u32 ((wrap64 (77 + x4_3)) % 4294967296)))) ?hg ?ho ?hn ?hr ?_; (case ho => rfl); (case hg => rfl); (case hn => rfl); (case hr => first | (go_simp; done) | (go_simp; rfl)); intro w29 hw; have hg : wr.grownBy w29 (some go26) := (by rw [hw]; exact HP28.2); have hp_ : Kd.R (Kd.int .u32) 45 w29 w0.heap.size (fun k_ => ((P0_1_ k_ ∨ P0_2_ k_ ∨ P0_3_ k_) ∨ w.heap.size ≤ k_)) (.slice (some ⟨go26, 0, none⟩) x251003_3.length co4) y255 := (by rw [hw, Ny255.out]; exact HP28.1); clear HP28; have n0_ := Aside0.mk (Kd.R_over' (v := (.slice (some ⟨go26, 0, none⟩) x251003_3.length co4)) (by (with_reducible repeat (first | apply Kd.R_alloc | apply Kd.R_drewN | apply Kd.R_drew)); exact HO_251001.out) (Kd.R_typed HO_251003.out) (by decide) hg); have n1_ := Aside0.mk (Kd.R_over' (v := (.slice (some ⟨go26, 0, none⟩) x251003_3.length co4)) (by (with_reducible repeat (first | apply Kd.R_alloc | apply Kd.R_drewN | apply Kd.R_drew)); exact HO_251002.out) (Kd.R_typed HO_251003.out) (by decide) hg); have n2_ := Aside0.mk (hp_); have n3_ := Aside0.mk (blk_grown (g := gb250) (o := .cells #[.bool a0_0, .slice Ao2 x251001_1.length co2, .slice Ao3 x251002_2.length co3, .slice (some ⟨go26, 0, none⟩) x251003_3.length co4] 26 (0, 0)) (qB BK250) hg (Kd.R_ne HO_251003.out BK250.out (by decide))); have n4_ := Aside0.mk ((by rw [hw]; exact below_set (HB.out) GB26.out : Below w0.heap.size w0 w29)); have n5_ := Aside0.mk (Kept.of_grown (S := (fun k_ => P0_1_ k_ ∨ P0_2_ k_ ∨ P0_3_ k_)) hg (by repeat (first | (with_reducible first | exact HK.out | apply Kept.alloc | apply Kept.drewN | apply Kept.drew | refine Kept.setCell ?_ (.inr GW250.out) _) | exact HK.out)) (fun k_ e_ => (HO_251003.out.1 k_ e_))); clear HO_251001; clear HO_251002; clear HO_251003; clear BK250; clear HB; clear HK; have HO_251001 := n0_; have HO_251002 := n1_; have HO_251003 := n2_; have BK250 := n3_; have HB := n4_; have HK := n5_; clear n0_ n1_ n2_ n3_ n4_ n5_; clear hg hw hp_))
                      (try simp only [← hl251003_3])
                      go_roundg k3
                      case measure => have := HK1.out; have := HK2.out; have := HK3.out; omega
                      case rel => exact ⟨(wrap64 (x4_3 + 1)), (y255), (by first | rfl | (simp; done) | (simp [*]; done) | (simp only [i64_w]; done)), H', ⟨by have := HK1.out; have := HK2.out; have := HK3.out; omega⟩, ⟨by (try simp only [hl251001_1]); (try simp only [hl251002_2]); (try simp only [hl251003_3]); (with_reducible repeat (first | apply Kd.R_alloc | apply Kd.R_drewN | apply Kd.R_drew)); exact HO_251001.out⟩, ⟨by (try simp only [hl251001_1]); (try simp only [hl251002_2]); (try simp only [hl251003_3]); (with_reducible repeat (first | apply Kd.R_alloc | apply Kd.R_drewN | apply Kd.R_drew)); exact HO_251002.out⟩, ⟨by (try simp only [hl251001_1]); (try simp only [hl251002_2]); (try simp only [hl251003_3]); (with_reducible repeat (first | apply Kd.R_alloc | apply Kd.R_drewN | apply Kd.R_drew)); exact HO_251003.out⟩, ⟨by (try simp only [hl251001_1]); (try simp only [hl251002_2]); (try simp only [hl251003_3]); (with_reducible repeat (first | refine blk_drewN ?_ _ | refine blk_drew ?_ | refine blk_alloc ?_ _)); exact BK250.out⟩, ⟨by repeat (first | (with_reducible first | exact HK.out | apply Kept.alloc | apply Kept.drewN | apply Kept.drew | refine Kept.setCell ?_ (.inr GW250.out) _) | exact HK.out)⟩, ⟨by exact qS1 HB GE250⟩⟩
                    · rw [if_neg c25] at H
                      exact absurd H (by simp)
                  · rw [if_neg c24] at H
                    have c24b0 : decide (x4_3 < (x251003_3.length : Int)) = false := decide_eq_false c24
                    clear c24
                    simp only [Option.some.injEq, Prod.mk.injEq] at H
                    obtain ⟨rfl, rfl, rfl⟩ := H
                    obtain ⟨hcz30_0, hcz30_1, hcz30_2, hcz30_3⟩ := qc4 BK250
                    obtain ⟨hfz30_0, hfz30_1, hfz30_2, hfz30_3⟩ := qf4 BK250
                    go_wp2
                    first | go_end0 | ((try simp only [Exit.inBlock, Exit.then]); refine bodyPost_ret (results_none rfl _ _ _) rfl ?_)
                    exact ⟨by first | rfl | (simp [errW_none, errW_some] <;> rfl) | (simp [*, errW_none, errW_some] <;> rfl), (by first | exact (by (with_reducible repeat (first | apply Kd.R_alloc | apply Kd.R_drewN | apply Kd.R_drew)); exact HO_251001.out) | (simp only [hl251001_1, hl251002_2, hl251003_3]; exact (by (with_reducible repeat (first | apply Kd.R_alloc | apply Kd.R_drewN | apply Kd.R_drew)); exact HO_251001.out))), (by first | exact (by (with_reducible repeat (first | apply Kd.R_alloc | apply Kd.R_drewN | apply Kd.R_drew)); exact HO_251002.out) | (simp only [hl251001_1, hl251002_2, hl251003_3]; exact (by (with_reducible repeat (first | apply Kd.R_alloc | apply Kd.R_drewN | apply Kd.R_drew)); exact HO_251002.out))), (by first | exact (by (with_reducible repeat (first | apply Kd.R_alloc | apply Kd.R_drewN | apply Kd.R_drew)); exact HO_251003.out) | (simp only [hl251001_1, hl251002_2, hl251003_3]; exact (by (with_reducible repeat (first | apply Kd.R_alloc | apply Kd.R_drewN | apply Kd.R_drew)); exact HO_251003.out))), by exact qS1 HB GE250, by repeat (first | (with_reducible first | exact HK.out | apply Kept.alloc | apply Kept.drewN | apply Kept.drew | refine Kept.setCell ?_ (.inr GW250.out) _) | exact HK.out)⟩

-- NOT PRINTED: function 3 (concordlaw08_NodeFinds)

end Go.Proofs.Ytdjjpgdhnoibkaa.PZ
