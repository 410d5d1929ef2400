/- Every Ends, every Blank: the law's walk. -/
import Derived.Test.YtjfhdnknaphjaaaLent
import Derived.Test.YtjfhdnknaphjaaaPFx2
import Derived.Test.YtjfhdnknaphjaaaPgW
namespace Go.Proofs.Ytjfhdnknaphjaaa.My
open Go.RowKit Go.Proofs.Ytjfhdnknaphjaaa.PF Go.Proofs.YtjfhdnknaphjaaaW.PrintWords Go.Proofs.YtjfhdnknaphjaaaW.PrintLast Go.Proofs.Ytjfhdnknaphjaaa
set_option linter.unusedSimpArgs false
set_option linter.unusedVariables false
theorem marks_take (i : Nat) (h : i < 66) : marks.take (i + 1) = marks.take i ++ [((150 + i : Nat) : Int)] := by
  rw [List.take_add_one, marks_get i h]; rfl
theorem lentX_l0 (l : List Int) (hl : l.length ≤ 140737488351232) : ∀ (j i k : Nat), j + i = 66 → lentX.l0 (k + j + 1) l (l ++ marks.take i) i = some (l ++ marks)
  | 0, i, k, h => by
    have hi : marks.take i = marks := List.take_of_length_le (by rw [marks_len]; omega)
    rw [lentX.l0, if_neg (by omega), if_pos (by omega), hi, if_pos (by rw [List.length_append]; omega)]
  | j + 1, i, k, h => by
    have e : wrap64 ((i : Int) + 1) = ((i + 1 : Nat) : Int) := by unfold wrap64; omega
    have e2 : wrap64 (150 + (i : Int)) % 256 = ((150 + i : Nat) : Int) := by unfold wrap64; omega
    rw [show k + (j + 1) + 1 = (k + j + 1) + 1 by omega, lentX.l0, if_pos (by omega), if_pos (by rw [List.length_append, List.length_take, marks_len]; omega), e, e2, List.append_assoc, ← marks_take i (by omega)]
    exact lentX_l0 l hl j (i + 1) k (by omega)
theorem lentX_f (l : List Int) (hl : l.length ≤ 140737488351232) : lentX.f (0 + 66 + 1) l = some (l ++ marks) := by
  unfold lentX.f
  simp only [Option.bind_some, List.length_nil, List.nil_append]
  rw [if_pos (by omega)]
  have := lentX_l0 l hl 66 0 0 (by omega)
  simpa using this
theorem bt_strOf (l : List Int) (hb : Bytes l) (i : Nat) (h : i < l.length) : bt (strOfNums l) i = l[i] := by
  have hx := hb l[i] (List.getElem_mem h)
  unfold bt
  rw [dif_pos (by rw [Int.toNat_natCast, bytesN_strOf]; exact h)]
  simp [strOfNums, ByteArray.getElem_eq_getElem_data]
  omega
theorem Number_l0 (l : List Int) (hb : Bytes l) (h8 : l.length ≤ 8) : ∀ (j i k : Nat), j + i = l.length → concordref05_Number.l0 (k + j + 1) (strOfNums l) ((beNat (l.take i) : Nat) : Int) i = some ((beNat l : Nat) : Int)
  | 0, i, k, h => by
    rw [concordref05_Number.l0, if_neg (by rw [bytesN_strOf]; omega), List.take_of_length_le (by omega)]
  | j + 1, i, k, h => by
    have hi : i < l.length := by omega
    have hx := hb l[i] (List.getElem_mem hi)
    have hv := beNat_take l hb i (by omega)
    have hp : 256 ^ i ≤ 256 ^ 7 := Nat.pow_le_pow_right (by omega) (by omega)
    have e := beNat_snoc (l.take i) l[i]
    rw [← List.take_succ_eq_append_getElem hi] at e
    have e1 : wrap64 ((i : Int) + 1) = ((i + 1 : Nat) : Int) := by unfold wrap64; omega
    have hvb : beNat (l.take i) < 72057594037927936 := Nat.lt_of_lt_of_le hv (by simpa using hp)
    have e2 : IntKind.u64.wrap (IntKind.u64.wrap (((beNat (l.take i) : Nat) : Int) * 256) + IntKind.u64.wrap l[i]) = ((beNat (l.take (i + 1)) : Nat) : Int) := by
      rw [e]; simp only [IntKind.wrap_u64]; omega
    rw [show k + (j + 1) + 1 = (k + j + 1) + 1 by omega, concordref05_Number.l0, if_pos (by rw [bytesN_strOf]; omega), if_pos (by omega), bt_strOf l hb i hi, e1, e2]
    exact Number_l0 l hb h8 j (i + 1) k (by omega)
theorem Number_f (l : List Int) (hb : Bytes l) (h8 : l.length ≤ 8) (k : Nat) (hk : 8 < k) : concordref05_Number.f k (strOfNums l) = some ((beNat l : Nat) : Int) := by
  obtain ⟨j, rfl⟩ : ∃ j, k = j + l.length + 1 := ⟨k - l.length - 1, by omega⟩
  unfold concordref05_Number.f
  have := Number_l0 l hb h8 l.length 0 j (by omega)
  simpa [beNat] using this
theorem strOf_cut (l : List Int) (a b : Nat) : (strOfNums l).extract a b = strOfNums ((l.take b).drop a) := by
  apply ByteArray.ext
  apply Array.toList_inj.1
  simp [strOfNums, ByteArray.data_extract, List.map_drop, List.map_take, List.drop_take]
theorem refEnds_f (l : List Int) (hb : Bytes l) (k : Nat) (hk : 8 < k) : concordref05_Ends.f k (strOfNums l) = some (endsL l) := by
  unfold concordref05_Ends.f endsL
  by_cases h : l.length = 1024
  · have hs : (strOfNums l).size = 1024 := by rw [bytesN_strOf, h]
    rw [if_pos (by rw [hs]; rfl), if_pos (by omega), if_pos (by omega), if_pos h, hs, strOf_cut, strOf_cut, List.drop_zero, show l.take 1024 = l from List.take_of_length_le (by omega),
      Number_f _ (fun x hx => hb x (List.mem_of_mem_take hx)) (by rw [List.length_take]; omega) _ hk, Number_f _ (fun x hx => hb x (List.mem_of_mem_drop hx)) (by rw [List.length_drop]; omega) _ hk, Option.bind_some, if_pos (by omega), Option.bind_some]
  · rw [if_neg (by rw [bytesN_strOf]; omega), if_neg h]
theorem strOf_inj' {a b : List Int} (ha : Bytes a) (hb : Bytes b) : (strOfNums a).toList = (strOfNums b).toList ↔ a = b := by
  constructor
  · intro h
    rw [ByteArray.toList_eq, ByteArray.toList_eq] at h
    have h' : strOfNums a = strOfNums b := ByteArray.ext (Array.toList_inj.1 h)
    rw [← intsOf_strOf a ha, h', intsOf_strOf b hb]
  · intro h; rw [h]
theorem refBlank_f (l : List Int) (hb : Bytes l) : concordref05_Blank.f (strOfNums l) = some (allZero l) := by
  unfold concordref05_Blank.f concordref05_noughts.f
  rw [if_pos (by omega), if_pos (by decide), Option.bind_some, show List.replicate (1024 : Int).toNat (0 : Int) = zs from rfl]
  unfold allZero
  by_cases h : l = zs
  · rw [decide_eq_true h, beq_iff_eq.2 ((strOf_inj' hb zs_bytes).2 h)]
  · rw [decide_eq_false h, beq_eq_false_iff_ne.2 (fun e => h ((strOf_inj' hb zs_bytes).1 e))]
def peT4 : Bool × List (List Nat × List Nat) := (true, [([], []), ([], []), ([0, 1], [0, 1]), ([2], [2]), ([3], [3]), ([3], [3]), ([4, 5, 3], [3, 4, 5]), ([3, 6], [3, 6]), ([7, 3], [7]), ([8], [8]), ([8], [8]), ([9, 10, 8], [8, 9, 10]), ([8, 11], [8, 11]), ([12, 8], [12]), ([13], [13]), ([14, 13, 13], [13, 14]), ([13], [13]), ([16, 13], [13, 16]), ([17, 15, 13], [13, 17]), ([15, 18, 13], [13, 15, 18]), ([13, 19], [13, 19]), ([20, 18], [20]), ([21], [21]), ([21], [21]), ([22, 23, 21, 21], [21, 22, 23]), ([21, 24], [21, 24]), ([25, 24, 0, 1, 2, 3, 4, 5, 6, 7, 8, 9, 10, 11, 12, 13, 14, 15, 16, 17, 18, 19, 20, 21, 22, 23, 24, 25], [25])])
def peB4 : List Nat := [0, 0, 3, 7, 15, 15, 63, 127, 255, 511, 511, 2047, 4095, 8191, 16383, 32767, 16383, 81919, 262143, 524287, 1048575, 2097151, 4194303, 4194303, 16777215, 33554431, 67108863]
theorem petab4 : rtab .any (opsOf Try.f3 4) = peT4 := by kernel_rfl
theorem pebits4 : waitsOk peT4.2 peB4 = true := by kernel_rfl
set_option maxRecDepth 100000 in
set_option maxHeartbeats 4000000 in
theorem PageEnds_go (w : World) (A0 : Option Addr) (c0 : Nat) (l : List Int) (hr : Kd.C (Kd.int .u8) w A0 l.length l) (hc : l.length ≤ c0) (hb : Bytes l) (hl : l.length ≤ 140737488351232) :
    Calls Try.prog 3 #[.slice A0 l.length c0] w fun e w' => e = .returned (.bool true) ∧ Below w.heap.size w w' := by
  obtain ⟨x, y, z, hends⟩ : ∃ x y z, endsL l = (x, y, z) := ⟨_, _, _, rfl⟩
  have hE1 : concordref05_Ends.f 9 (strOfNums l) = some (x, y, z) := by rw [refEnds_f l hb 9 (by omega), hends]
  have hE2 : page_Ends.f l = some (x, y, z) := by unfold page_Ends.f; rw [if_pos hb, hends]
  have hB1 : page_Blank.f l = some (allZero l) := rfl
  have hB2 := refBlank_f l hb
  obtain ⟨bz, hbz⟩ : ∃ b, b = allZero l := ⟨_, rfl⟩
  rw [← hbz] at hB1 hB2
  have bx : (x == x) = true := beq_self_eq_true _
  have by_ : (y == y) = true := beq_self_eq_true _
  have bz1 : (z == z) = true := beq_self_eq_true _
  have bb : (bz == bz) = true := beq_self_eq_true _
  have HR := Aside0.mk hr
  go_enter Try.func3, Try.ntmps3
  go_wp2_with fail
  refine (lentX.calls _ A0 c0 l (l ++ marks) w hr hc (lentX_f l hl)).mono ?_
  rintro e w1 ⟨A, c, rfl, hR, HB⟩
  obtain ⟨_, hcap, hC⟩ := Kd.R_reads' hR
  have hlen : (l ++ marks).length = l.length + 66 := by rw [List.length_append, marks_len]
  have hCl : Kd.C (Kd.int .u8) w1 A l.length l := by have h1 := Kd.C_take (m := l.length) hC (by omega); rw [List.take_left'] at h1; exact h1; rfl
  have hr1 := Kd.C_below hr HB
  have hcv := Kd.C_string (P := Try.prog) (A := A0) (c := c0) Try.underlying22 Try.underlying5 Try.underlying9 hr1
  rw [hlen] at hcap
  have hcv2 : ∀ n : Nat, (convert 22 9 (.slice A0 l.length c0)).run Try.prog (w1.drewN n) = .ok (.string (strOfNums l)) (w1.drewN n) := fun n => Kd.C_string (P := Try.prog) (A := A0) (c := c0) Try.underlying22 Try.underlying5 Try.underlying9 (Kd.C_drewN hr1 n)
  have HCl := Aside0.mk hCl
  have HC := Aside0.mk hC
  have HR1 := Aside0.mk hr1
  have HBB := Aside0.mk HB
  clear hR hCl hC hr1 HB hr hlen hends hbz hb
  go_wp2_with (first | (go_at_call 11; refine (concordref05_Ends.calls 9 _ x y z _ hE1).mono ?_; rintro e w' ⟨rfl, ⟨nd, rfl⟩⟩) | (go_at_call 12; refine (page_Ends.calls A c l x y z _ (Kd.C_drewN HCl.out _) (by omega) hE2).mono ?_; rintro e w' ⟨rfl, ⟨nd, rfl⟩⟩))
  generalize hq : World.drewN w1 _ = W
  have HCW : Aside0 (Kd.C (Kd.int .u8) W A (l ++ marks).length (l ++ marks)) := ⟨by rw [← hq]; exact Kd.C_drewN HC.out _⟩
  have HLW : Aside0 (Kd.C (Kd.int .u8) W A l.length l) := ⟨by rw [← hq]; exact Kd.C_drewN HCl.out _⟩
  have HRW : Aside0 (Kd.C (Kd.int .u8) W A0 l.length l) := ⟨by rw [← hq]; exact Kd.C_drewN HR1.out _⟩
  have HBW : Aside0 (Below w.heap.size w W) := ⟨by rw [← hq]; exact pw_below_drewN HBB.out _⟩
  clear hq HC HCl HR1 HBB hcv hcv2 HR
  have HCD := Aside0.mk (Kd.C_drew HCW.out)
  have HLD := Aside0.mk (Kd.C_drew HLW.out)
  have HRD := Aside0.mk (Kd.C_drew HRW.out)
  have HBD := Aside0.mk (below_drew1 HBW.out)
  clear HCW HLW HRW HBW
  refine start_ (n := 27) (S := fun w' => (convert 22 9 (.slice A0 l.length c0)).run Try.prog w' = .ok (.string (strOfNums l)) w') (ds := []) #[false, false, false, false, false, false, false, false, false, false, false, false, false, false, false, false, false, false, false, false, false, false, false, false, false, false, false] (by kernel_rfl) rfl rfl (Kd.C_string (P := Try.prog) (A := A0) (c := c0) Try.underlying22 Try.underlying5 Try.underlying9 HRD.out) (fun hHeld => ?_)
  refine with_tabW petab4 pebits4 (fun HT_ HW_ => ?_)
  generalize W.drew = w15 at HCD HLD HRD HBD hHeld ⊢
  refine pure_ (i := 0) (N := some 25) (v := ?_) (a' := ?_) #[true, false, false, false, false, false, false, false, false, false, false, false, false, false, false, false, false, false, false, false, false, false, false, false, false, false, false] rfl rfl (any_of HT_.out (by kernel_rfl)) (fun _ _ _ h => h) (Or.inl ⟨by rfl, ?_⟩) ?_ ?_
  rotate_left
  · intro w'
    go_simp
    with_reducible rfl
  rotate_left
  · simp only [Act.put, List.setIfInBounds_toArray, List.set_cons_zero, List.set_cons_succ, i64_w, i32_w]
    rfl
  refine pure_ (i := 1) (N := some 26) (v := ?_) (a' := ?_) #[true, true, false, false, false, false, false, false, false, false, false, false, false, false, false, false, false, false, false, false, false, false, false, false, false, false, false] rfl rfl (any_of HT_.out (by kernel_rfl)) (fun _ _ _ h => h) (Or.inl ⟨by rfl, ?_⟩) ?_ ?_
  rotate_left
  · intro w'
    go_simp
    with_reducible rfl
  rotate_left
  · simp only [Act.put, List.setIfInBounds_toArray, List.set_cons_zero, List.set_cons_succ, i64_w, i32_w]
    rfl
  refine pure_ (i := 2) (N := some 27) (v := ?_) (a' := ?_) #[true, true, true, false, false, false, false, false, false, false, false, false, false, false, false, false, false, false, false, false, false, false, false, false, false, false, false] rfl rfl (any_of HT_.out (by kernel_rfl)) (fun _ _ _ h => h) (Or.inl ⟨by rfl, ?_⟩) ?_ ?_
  rotate_left
  · intro w'
    go_simp
    with_reducible rfl
  rotate_left
  · simp only [Act.put, List.setIfInBounds_toArray, List.set_cons_zero, List.set_cons_succ, i64_w, i32_w]
    rfl
  refine pure_ (i := 3) (N := some 28) (v := ?_) (a' := ?_) #[true, true, true, true, false, false, false, false, false, false, false, false, false, false, false, false, false, false, false, false, false, false, false, false, false, false, false] rfl rfl (any_of HT_.out (by kernel_rfl)) (fun _ _ _ h => h) (Or.inl ⟨by rfl, ?_⟩) ?_ ?_
  rotate_left
  · intro w'
    go_simp
    with_reducible rfl
  rotate_left
  · simp only [Act.put, List.setIfInBounds_toArray, List.set_cons_zero, List.set_cons_succ, i64_w, i32_w]
    rfl
  refine pure_ (i := 4) (N := some 29) (v := ?_) (a' := ?_) #[true, true, true, true, true, false, false, false, false, false, false, false, false, false, false, false, false, false, false, false, false, false, false, false, false, false, false] rfl rfl (any_of HT_.out (by kernel_rfl)) (fun _ _ _ h => h) (Or.inl ⟨by rfl, ?_⟩) ?_ ?_
  rotate_left
  · intro w'
    go_simp
    with_reducible rfl
  rotate_left
  · simp only [Act.put, List.setIfInBounds_toArray, List.set_cons_zero, List.set_cons_succ, i64_w, i32_w]
    rfl
  refine pure_ (i := 5) (N := some 30) (v := ?_) (a' := ?_) #[true, true, true, true, true, true, false, false, false, false, false, false, false, false, false, false, false, false, false, false, false, false, false, false, false, false, false] rfl rfl (any_of HT_.out (by kernel_rfl)) (fun _ _ _ h => h) (Or.inl ⟨by rfl, ?_⟩) ?_ ?_
  rotate_left
  · intro w'
    go_simp
    with_reducible rfl
  rotate_left
  · simp only [Act.put, List.setIfInBounds_toArray, List.set_cons_zero, List.set_cons_succ, i64_w, i32_w]
    rfl
  refine pure_ (i := 6) (N := some 31) (v := ?_) (a' := ?_) #[true, true, true, true, true, true, true, false, false, false, false, false, false, false, false, false, false, false, false, false, false, false, false, false, false, false, false] rfl rfl (any_of HT_.out (by kernel_rfl)) (fun _ _ _ h => h) (Or.inl ⟨by rfl, ?_⟩) ?_ ?_
  rotate_left
  · intro w'
    go_simp
    with_reducible rfl
  rotate_left
  · simp only [Act.put, List.setIfInBounds_toArray, List.set_cons_zero, List.set_cons_succ, i64_w, i32_w]
    rfl
  refine pure_ (i := 7) (N := some 32) (v := ?_) (a' := ?_) #[true, true, true, true, true, true, true, true, false, false, false, false, false, false, false, false, false, false, false, false, false, false, false, false, false, false, false] rfl rfl (any_of HT_.out (by kernel_rfl)) (fun _ _ _ h => h) (Or.inl ⟨by rfl, ?_⟩) ?_ ?_
  rotate_left
  · intro w'
    go_simp
    with_reducible rfl
  rotate_left
  · simp only [Act.put, List.setIfInBounds_toArray, List.set_cons_zero, List.set_cons_succ, i64_w, i32_w]
    rfl
  refine pure_ (i := 8) (N := some 33) (v := ?_) (a' := ?_) #[true, true, true, true, true, true, true, true, true, false, false, false, false, false, false, false, false, false, false, false, false, false, false, false, false, false, false] rfl rfl (any_of HT_.out (by kernel_rfl)) (fun _ _ _ h => h) (Or.inl ⟨by rfl, ?_⟩) ?_ ?_
  rotate_left
  · intro w'
    go_simp
    with_reducible rfl
  rotate_left
  · simp only [Act.put, List.setIfInBounds_toArray, List.set_cons_zero, List.set_cons_succ, i64_w, i32_w]
    rfl
  refine pure_ (i := 9) (N := some 34) (v := ?_) (a' := ?_) #[true, true, true, true, true, true, true, true, true, true, false, false, false, false, false, false, false, false, false, false, false, false, false, false, false, false, false] rfl rfl (any_of HT_.out (by kernel_rfl)) (fun _ _ _ h => h) (Or.inl ⟨by rfl, ?_⟩) ?_ ?_
  rotate_left
  · intro w'
    go_simp
    with_reducible rfl
  rotate_left
  · simp only [Act.put, List.setIfInBounds_toArray, List.set_cons_zero, List.set_cons_succ, i64_w, i32_w]
    rfl
  refine pure_ (i := 10) (N := some 35) (v := ?_) (a' := ?_) #[true, true, true, true, true, true, true, true, true, true, true, false, false, false, false, false, false, false, false, false, false, false, false, false, false, false, false] rfl rfl (any_of HT_.out (by kernel_rfl)) (fun _ _ _ h => h) (Or.inl ⟨by rfl, ?_⟩) ?_ ?_
  rotate_left
  · intro w'
    go_simp
    with_reducible rfl
  rotate_left
  · simp only [Act.put, List.setIfInBounds_toArray, List.set_cons_zero, List.set_cons_succ, i64_w, i32_w]
    rfl
  refine pure_ (i := 11) (N := some 36) (v := ?_) (a' := ?_) #[true, true, true, true, true, true, true, true, true, true, true, true, false, false, false, false, false, false, false, false, false, false, false, false, false, false, false] rfl rfl (any_of HT_.out (by kernel_rfl)) (fun _ _ _ h => h) (Or.inl ⟨by rfl, ?_⟩) ?_ ?_
  rotate_left
  · intro w'
    go_simp
    with_reducible rfl
  rotate_left
  · simp only [Act.put, List.setIfInBounds_toArray, List.set_cons_zero, List.set_cons_succ, i64_w, i32_w]
    rfl
  refine pure_ (i := 12) (N := some 37) (v := ?_) (a' := ?_) #[true, true, true, true, true, true, true, true, true, true, true, true, true, false, false, false, false, false, false, false, false, false, false, false, false, false, false] rfl rfl (any_of HT_.out (by kernel_rfl)) (fun _ _ _ h => h) (Or.inl ⟨by rfl, ?_⟩) ?_ ?_
  rotate_left
  · intro w'
    go_simp
    with_reducible rfl
  rotate_left
  · simp only [Act.put, List.setIfInBounds_toArray, List.set_cons_zero, List.set_cons_succ, i64_w, i32_w]
    rfl
  refine pure_ (i := 13) (N := some 38) (v := ?_) (a' := ?_) #[true, true, true, true, true, true, true, true, true, true, true, true, true, true, false, false, false, false, false, false, false, false, false, false, false, false, false] rfl rfl (any_of HT_.out (by kernel_rfl)) (fun _ _ _ h => h) (Or.inl ⟨by rfl, ?_⟩) ?_ ?_
  rotate_left
  · intro w'
    go_simp
    with_reducible rfl
  rotate_left
  · simp only [Act.put, List.setIfInBounds_toArray, List.set_cons_zero, List.set_cons_succ, i64_w, i32_w]
    rfl
  refine pure_ (i := 14) (N := some 39) (v := ?_) (a' := ?_) #[true, true, true, true, true, true, true, true, true, true, true, true, true, true, true, false, false, false, false, false, false, false, false, false, false, false, false] rfl rfl (any_of HT_.out (by kernel_rfl)) (fun _ _ _ h => h) (Or.inl ⟨by rfl, ?_⟩) ?_ ?_
  rotate_left
  · intro w'
    go_simp
    with_reducible rfl
  rotate_left
  · simp only [Act.put, List.setIfInBounds_toArray, List.set_cons_zero, List.set_cons_succ, i64_w, i32_w]
    rfl
  refine pure_ (i := 16) (N := some 41) (v := ?_) (a' := ?_) #[true, true, true, true, true, true, true, true, true, true, true, true, true, true, true, false, true, false, false, false, false, false, false, false, false, false, false] rfl rfl (any_of HT_.out (by kernel_rfl)) (fun _ _ _ h => h) (Or.inl ⟨by rfl, ?_⟩) ?_ ?_
  rotate_left
  · intro w'
    go_simp
    with_reducible rfl
  rotate_left
  · simp only [Act.put, List.setIfInBounds_toArray, List.set_cons_zero, List.set_cons_succ, i64_w, i32_w]
    rfl
  refine take_ (i := 17) (N := some 42) (v := ?_) (a' := ?_) #[true, true, true, true, true, true, true, true, true, true, true, true, true, true, true, false, true, true, false, false, false, false, false, false, false, false, false] rfl rfl (take_ofW HT_.out HW_.out (by kernel_rfl)) (fun _ _ _ h => h) (Or.inl ⟨by rfl, ?_⟩) hHeld ?_ ?_
  rotate_left
  · intro w' hS
    go_simp
    with_reducible rfl
  rotate_left
  · simp only [Act.put, List.setIfInBounds_toArray, List.set_cons_zero, List.set_cons_succ, i64_w, i32_w]
    rfl
  refine one_ (i := 15) (N := some 40) #[true, true, true, true, true, true, true, true, true, true, true, true, true, true, true, true, true, true, false, false, false, false, false, false, false, false, false] rfl rfl (one_of HT_.out (by kernel_rfl)) (by decide) (fun K hK => ?_)
  refine goes_ Try.func13 (by kernel_rfl) rfl #[.slice A l.length c] (by rfl) rfl rfl (by (try simp only [List.map_toArray, List.map_cons, List.map_nil]); first | done | rfl | (simp only [List.length_drop, List.length_take]; rfl)) ?_
  refine (page_Blank.calls A c l bz _ HLD.out (by omega) hB1).mono ?_
  rintro e w' ⟨rfl, ⟨nd, rfl⟩⟩
  refine ⟨_, rfl, ?_⟩
  refine hK.out _ _ (Kd.C_string (P := Try.prog) (A := A0) (c := c0) Try.underlying22 Try.underlying5 Try.underlying9 (Kd.C_drewN HRD.out _)) (fun hHeld => ?_)
  clear hK K
  refine norm_ (a' := ?_) ?_ ?_
  rotate_left
  · show Act.put _ (some 40) _ = _
    simp only [Act.put, List.setIfInBounds_toArray, List.set_cons_zero, List.set_cons_succ, i64_w, i32_w]
    rfl
  refine one_ (i := 18) (N := some 43) #[true, true, true, true, true, true, true, true, true, true, true, true, true, true, true, true, true, true, true, false, false, false, false, false, false, false, false] rfl rfl (one_of HT_.out (by kernel_rfl)) (by decide) (fun K hK => ?_)
  refine goes_ Try.func14 (by kernel_rfl) rfl #[.string (strOfNums l)] (by rfl) rfl rfl (by (try simp only [List.map_toArray, List.map_cons, List.map_nil]); first | done | rfl | (simp only [List.length_drop, List.length_take]; rfl)) ?_
  refine (concordref05_Blank.calls (strOfNums l) bz _ hB2).mono ?_
  rintro e w18 ⟨rfl, hb18⟩
  refine ⟨_, rfl, ?_⟩
  have HC18 := Aside0.mk (Kd.C_below (Kd.C_drewN HCD.out _) hb18)
  have HR18 := Aside0.mk (Kd.C_below (Kd.C_drewN HRD.out _) hb18)
  have HB18 := Aside0.mk (below_step (pw_below_drewN HBD.out _) hb18)
  clear hb18 HCD HLD HRD HBD
  refine hK.out _ _ (Kd.C_string (P := Try.prog) (A := A0) (c := c0) Try.underlying22 Try.underlying5 Try.underlying9 HR18.out) (fun hHeld => ?_)
  clear hK K
  refine norm_ (a' := ?_) ?_ ?_
  rotate_left
  · show Act.put _ (some 43) _ = _
    simp only [Act.put, List.setIfInBounds_toArray, List.set_cons_zero, List.set_cons_succ, i64_w, i32_w]
    rfl
  refine pure_ (i := 19) (N := some 44) (v := ?_) (a' := ?_) #[true, true, true, true, true, true, true, true, true, true, true, true, true, true, true, true, true, true, true, true, false, false, false, false, false, false, false] rfl rfl (any_of HT_.out (by kernel_rfl)) (fun _ _ _ h => h) (Or.inl ⟨by rfl, ?_⟩) ?_ ?_
  rotate_left
  · intro w'
    go_simp
    with_reducible rfl
  rotate_left
  · simp only [Act.put, List.setIfInBounds_toArray, List.set_cons_zero, List.set_cons_succ, i64_w, i32_w]
    rfl
  refine pure_ (i := 20) (N := some 45) (v := ?_) (a' := ?_) #[true, true, true, true, true, true, true, true, true, true, true, true, true, true, true, true, true, true, true, true, true, false, false, false, false, false, false] rfl rfl (any_of HT_.out (by kernel_rfl)) (fun _ _ _ h => h) (Or.inl ⟨by rfl, ?_⟩) ?_ ?_
  rotate_left
  · intro w'
    go_simp
    with_reducible rfl
  rotate_left
  · simp only [Act.put, List.setIfInBounds_toArray, List.set_cons_zero, List.set_cons_succ, i64_w, i32_w]
    rfl
  refine pure_ (i := 21) (N := some 46) (v := ?_) (a' := ?_) #[true, true, true, true, true, true, true, true, true, true, true, true, true, true, true, true, true, true, true, true, true, true, false, false, false, false, false] rfl rfl (any_of HT_.out (by kernel_rfl)) (fun _ _ _ h => h) (Or.inl ⟨by rfl, ?_⟩) ?_ ?_
  rotate_left
  · intro w'
    go_simp
    with_reducible rfl
  rotate_left
  · simp only [Act.put, List.setIfInBounds_toArray, List.set_cons_zero, List.set_cons_succ, i64_w, i32_w]
    rfl
  refine pure_ (i := 22) (N := some 47) (v := ?_) (a' := ?_) #[true, true, true, true, true, true, true, true, true, true, true, true, true, true, true, true, true, true, true, true, true, true, true, false, false, false, false] rfl rfl (any_of HT_.out (by kernel_rfl)) (fun _ _ _ h => h) (Or.inl ⟨by rfl, ?_⟩) ?_ ?_
  rotate_left
  · intro w'
    go_simp
    with_reducible rfl
  rotate_left
  · simp only [Act.put, List.setIfInBounds_toArray, List.set_cons_zero, List.set_cons_succ, i64_w, i32_w]
    rfl
  refine pure_ (i := 23) (N := some 48) (v := ?_) (a' := ?_) #[true, true, true, true, true, true, true, true, true, true, true, true, true, true, true, true, true, true, true, true, true, true, true, true, false, false, false] rfl rfl (any_of HT_.out (by kernel_rfl)) (fun _ _ _ h => h) (Or.inl ⟨by rfl, ?_⟩) ?_ ?_
  rotate_left
  · intro w'
    go_simp
    with_reducible rfl
  rotate_left
  · simp only [Act.put, List.setIfInBounds_toArray, List.set_cons_zero, List.set_cons_succ, i64_w, i32_w]
    rfl
  refine one_ (i := 24) (N := some 49) #[true, true, true, true, true, true, true, true, true, true, true, true, true, true, true, true, true, true, true, true, true, true, true, true, true, false, false] rfl rfl (one_of HT_.out (by kernel_rfl)) (by decide) (fun K hK => ?_)
  refine goes_ Try.func15 (by kernel_rfl) rfl #[.slice A l.length c, .slice A0 l.length c0] (by rfl) rfl rfl (by (try simp only [List.map_toArray, List.map_cons, List.map_nil]); first | done | rfl | (simp only [List.length_drop, List.length_take]; rfl)) ?_
  refine (keptX.calls A c l A0 c0 _ HC18.out hcap HR18.out hl).mono ?_
  rintro e w' ⟨rfl, ⟨nd, rfl⟩⟩
  refine ⟨_, rfl, ?_⟩
  refine hK.out _ _ (Kd.C_string (P := Try.prog) (A := A0) (c := c0) Try.underlying22 Try.underlying5 Try.underlying9 (Kd.C_drewN HR18.out _)) (fun hHeld => ?_)
  clear hK K
  refine norm_ (a' := ?_) ?_ ?_
  rotate_left
  · show Act.put _ (some 49) _ = _
    simp only [Act.put, List.setIfInBounds_toArray, List.set_cons_zero, List.set_cons_succ, i64_w, i32_w]
    rfl
  refine pure_ (i := 25) (N := some 50) (v := ?_) (a' := ?_) #[true, true, true, true, true, true, true, true, true, true, true, true, true, true, true, true, true, true, true, true, true, true, true, true, true, true, false] rfl rfl (any_of HT_.out (by kernel_rfl)) (fun _ _ _ h => h) (Or.inl ⟨by rfl, ?_⟩) ?_ ?_
  rotate_left
  · intro w'
    go_simp
    with_reducible rfl
  rotate_left
  · simp only [Act.put, List.setIfInBounds_toArray, List.set_cons_zero, List.set_cons_succ, i64_w, i32_w]
    rfl
  refine pure_ (i := 26) (N := some 2) (v := ?_) (a' := ?_) #[true, true, true, true, true, true, true, true, true, true, true, true, true, true, true, true, true, true, true, true, true, true, true, true, true, true, true] rfl rfl (any_of HT_.out (by kernel_rfl)) (fun _ _ _ h => h) (Or.inl ⟨by rfl, ?_⟩) ?_ ?_
  rotate_left
  · intro w'
    go_simp
    with_reducible rfl
  rotate_left
  · simp only [Act.put, List.setIfInBounds_toArray, List.set_cons_zero, List.set_cons_succ, i64_w, i32_w]
    rfl
  refine done_ (done_of HT_.out (by kernel_rfl)) ?_
  try go_wp2
  go_ret
  exact ⟨rfl, pw_below_drewN HB18.out _⟩
theorem PageEnds_walk (w : World) (a : Option Addr) (len cap : Nat) (z : List Int) (hr : IsRow .u8 w a len cap z) (y : len * 1 ≤ 140737488351232) :
    Calls Try.prog 3 #[.slice a len cap] w fun e w' => e = .returned (.bool true) ∧ Below w.heap.size w w' := by
  obtain ⟨l, rfl, hrd, _, hwf, hc⟩ := ReadsInt.ofRowC hr
  exact PageEnds_go w a cap l (Kd.C_of_reads (d := (0 : Int)) (h1 := fun _ => rfl) hrd) hc (fun x hx => wf8 (hwf x hx)) (by omega)
end Go.Proofs.Ytjfhdnknaphjaaa.My
