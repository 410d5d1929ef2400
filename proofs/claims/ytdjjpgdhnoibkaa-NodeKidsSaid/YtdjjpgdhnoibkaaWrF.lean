/- Writer.Fixed of what fits, Len, Told, NewWriter. -/
import Derived.Test.YtdjjpgdhnoibkaaWWords
import Derived.Test.YtdjjpgdhnoibkaaWr
namespace Go.Proofs.Ytdjjpgdhnoibkaa.My
def be (n v : Nat) : List Int := (List.range n).map fun i => ((v / 256 ^ (n - 1 - i) % 256 : Nat) : Int)
theorem be_len (n v : Nat) : (be n v).length = n := by simp [be]
theorem be_succ (n v : Nat) : be (n + 1) v = be n (v / 256) ++ [((v % 256 : Nat) : Int)] := by
  unfold be
  rw [List.range_succ, List.map_append]
  congr 1
  · apply List.map_congr_left
    intro i hi
    rw [List.mem_range] at hi
    have : n + 1 - 1 - i = (n - 1 - i) + 1 := by omega
    rw [this, Nat.pow_succ, Nat.mul_comm, ← Nat.div_div_eq_div_mul]
  · simp
theorem be_zero (v : Nat) : be 0 v = [] := rfl
end Go.Proofs.Ytdjjpgdhnoibkaa.My
namespace Go.Proofs.Ytdjjpgdhnoibkaa.My
open Go.RowKit Go.Proofs.YtdjjpgdhnoibkaaW.PrintWords Go.Proofs.YtdjjpgdhnoibkaaW.PrintLast Go.Proofs.YtdjjpgdhnoibkaaW.PrintMore Go.Proofs.Ytdjjpgdhnoibkaa
set_option linter.unusedSimpArgs false
set_option linter.unusedVariables false
set_option maxRecDepth 100000
set_option maxHeartbeats 4000000
theorem byte_at (x m : Nat) : (IntKind.u8.wrap ((x : Int) / 2 ^ (8 * (m : Int)).toNat)) = ((x / 256 ^ m % 256 : Nat) : Int) := by
  have e0 : (8 * (m : Int)).toNat = 8 * m := by omega
  have e1 : (2 : Nat) ^ (8 * m) = 256 ^ m := by rw [Nat.pow_mul]
  have e2 : (x : Int) / 2 ^ (8 * m) = ((x / 2 ^ (8 * m) : Nat) : Int) := by push_cast; rfl
  rw [e0, e2, e1]
  simp only [IntKind.wrap, IntKind.bits, IntKind.signed]
  simp
theorem WS_step {w1 : World} {base g : Nat} {u : Value} {A : Option Addr} {c : Nat} {ys : List Int} (hg0 : base ≤ g) (BK1 : w1.heap[g]? = some (.cells #[u] 113 (0, 0))) (ho : Kd.R (Kd.int .u8) 5 w1 base (fun _ => True) (.slice A ys.length c) ys) :
    WS (w1.setCell ⟨g, 0, none⟩ (.slice A ys.length c)) base g (.slice A ys.length c) ys :=
  ⟨hg0, blk_set BK1 0 _, Kd.R_mono (Kd.R_far (p := ⟨g, 0, none⟩) (Kd.R_types ho BK1 (by decide)) (fun _ hk => hk.2) _) (fun _ _ => trivial)⟩
theorem Moved_step {w w1 : World} {g : Nat} {v u : Value} (hg : w.grownBy w1 v.ownBlock) (hat : u.ownBlock = v.ownBlock ∨ ∃ b, u.ownBlock = some b ∧ w.heap.size ≤ b) : Moved w (w1.setCell ⟨g, 0, none⟩ u) g v u := by
  refine ⟨?_, fun k hk hkg hkv => ?_, hat⟩
  · have : (w1.setCell ⟨g, 0, none⟩ u).heap.size = w1.heap.size := by simp [World.setCell]
    rw [this]; exact hg.size
  · rw [Below.heap_setCell _ _ _ _ hkg]; exact hg.block k hk hkv
theorem Moved.drew {a b : World} {g : Nat} {u v : Value} (h : Moved a b g u v) : Moved a b.drew g u v := h
theorem newWriterW (w : World) : Calls Try.prog 83 #[] w fun e w' => e = .returned (.pointer (some ⟨w.heap.size, 0, none⟩)) ∧ w' = w.alloc (.cells #[.slice none 0 0] 113 (0, 0)) := by
  go_enter Try.func83, Try.ntmps83
  go_wp2_with fail
  go_ret
  exact ⟨rfl, rfl⟩
theorem WS_new (w : World) (base : Nat) (h : base ≤ w.heap.size) : WS (w.alloc (.cells #[.slice none 0 0] 113 (0, 0))) base w.heap.size (.slice none 0 0) [] :=
  ⟨h, by show (w.heap.push _)[w.heap.size]? = _; rw [Array.getElem?_push_size], Kd.R_nil _ _ _ _ _⟩
theorem Told_calls (g : Nat) (v : Value) (xs : List Int) (base : Nat) (w : World) (h : WS w base g v xs) :
    Calls Try.prog 87 #[.pointer (some ⟨g, 0, none⟩)] w fun e w' => e = .returned (.string (strOfNums xs)) ∧ w = w' := by
  obtain ⟨_, hblk, hR⟩ := h
  have hc0 : w.cell? ⟨g, 0, none⟩ = some v := (blk_cell hblk 0).trans rfl
  have hcv := own_string (P := Try.prog) Try.underlying105 Try.underlying5 Try.underlying9 (Kd.own_of_R hR)
  obtain ⟨A, c, ev⟩ := Kd.R_slice hR
  subst ev
  clear hblk hR
  go_enter Try.func87, Try.ntmps87
  go_wp2_with fail
  go_ret
  exact ⟨rfl, rfl⟩
theorem Fixed_calls (g : Nat) (v : Value) (xs : List Int) (n x : Nat) (w0 w : World) (HB0 : Below w0.heap.size w0 w) (h : WS w w0.heap.size g v xs) (hl : xs.length + 8 ≤ 140737488355328) (h1 : 1 ≤ n) (h8 : n ≤ 8) (hx : x < 256 ^ n) :
    Calls Try.prog 85 #[.pointer (some ⟨g, 0, none⟩), .int .u64 x, .int .i64 n] w fun e w' => e = .returned (.int .i64 0) ∧ ∃ v', WS w' w0.heap.size g v' (xs ++ be n x) ∧ Below w0.heap.size w0 w' ∧ Moved w w' g v v' := by
  have HS := Aside0.mk h
  have HB := Aside0.mk HB0
  have hx64 : x < 18446744073709551616 := Nat.lt_of_lt_of_le hx (Nat.pow_le_pow_right (by omega : 0 < 256) h8)
  clear h HB0
  go_enter Try.func85, Try.ntmps85
  have hq : ((x : Int) / 2 ^ (8 * n) != 0) = false := by
    rw [bne_eq_false_iff_eq]
    have e1 : (2 : Nat) ^ (8 * n) = 256 ^ n := by rw [Nat.pow_mul]
    have : x / 2 ^ (8 * n) = 0 := by rw [e1]; exact Nat.div_eq_of_lt hx
    have e2 : (x : Int) / 2 ^ (8 * n) = ((x / 2 ^ (8 * n) : Nat) : Int) := by push_cast; rfl
    rw [e2, this]; rfl
  go_wp2_with fail
  all_goals
    go_loopw [2] (fun i wr => ∃ j : Nat, ∃ u : Value, j ≤ n ∧ i = .int .i64 ((j : Int) - 1) ∧ Aside0 (WS wr w0.heap.size g u (xs ++ be (n - j) (x / 256 ^ j))) ∧ Aside0 (Below w0.heap.size w0 wr) ∧ Aside0 (Moved w wr g v u)) (fun i _ => (intOf i + 1).toNat)
    case atStart => exact ⟨n, v, by omega, rfl, ⟨by rw [Nat.sub_self, be_zero, List.append_nil]; exact HS.out⟩, HB, ⟨Moved.refl _ _ _⟩⟩
    case round =>
      clear HS HB hq
      obtain ⟨j, u, hj, rfl, HW, HB1, HM⟩ := hrel
      cases j with
      | zero =>
        rw [Nat.sub_zero, Nat.pow_zero, Nat.div_one] at HW
        rw [show (((0 : Nat) : Int) - 1) = -1 from rfl]
        go_wp2_with fail
        go_ret
        exact ⟨rfl, u, HW.out, HB1.out, HM.out⟩
      | succ m =>
        rw [show (((m + 1 : Nat) : Int) - 1) = (m : Int) from by omega]
        obtain ⟨hg0, hblk, hR⟩ := HW.out
        clear HW
        obtain ⟨ys, hys⟩ : ∃ ys, ys = xs ++ be (n - (m + 1)) (x / 256 ^ (m + 1)) := ⟨_, rfl⟩
        rw [← hys] at hR
        have hyl : ys.length + 1 ≤ 140737488355328 := by rw [hys, List.length_append, be_len]; omega
        have HY := Aside0.mk hys
        clear hys
        obtain ⟨A, c, ev⟩ := Kd.R_slice hR
        subst ev
        have HO := Aside0.mk (Kd.R_drew hR)
        have BK := Aside0.mk (blk_drew hblk)
        have HB := Aside0.mk (below_drew1 HB1.out)
        have HD := Aside0.mk (HM.out.drew)
        have hc0 : wr.drew.cell? ⟨g, 0, none⟩ = some (.slice A ys.length c) := (blk_cell BK.out 0).trans rfl
        clear hR hblk HB1 HM
        have hw8 : wrap64 (8 * (m : Int)) = 8 * (m : Int) := by unfold wrap64; omega
        go_wp2_with fail
        refine start_ (n := 15) (S := fun w' => w'.cell? ⟨g, 0, none⟩ = some (.slice A ys.length c)) (ds := [14]) #[false, false, false, false, false, false, false, false, false, false, false, false, false, false, false] (by kernel_rfl) rfl rfl (hc0) (fun hHeld => ?_)
        generalize wr.drew = w2 at HO HB HD BK hHeld ⊢
        refine pure_ (i := 0) (N := some 32) (v := ?_) (a' := ?_) #[true, false, false, false, false, false, false, false, false, false, false, false, false, false, false] rfl rfl (by kernel_rfl) (fun _ _ _ h => h) (Or.inl ⟨by rfl, ?_⟩) ?_ ?_
        rotate_left
        · intro w'
          go_simp
          with_reducible rfl
        rotate_left
        · simp only [Act.put, List.setIfInBounds_toArray, List.set_cons_zero, List.set_cons_succ, i64_w, i32_w, hw8]
          rfl
        refine pure_ (i := 1) (N := some 33) (v := ?_) (a' := ?_) #[true, true, false, false, false, false, false, false, false, false, false, false, false, false, false] rfl rfl (by kernel_rfl) (fun _ _ _ h => h) (Or.inl ⟨by rfl, ?_⟩) ?_ ?_
        rotate_left
        · intro w'
          go_simp
          with_reducible rfl
        rotate_left
        · simp only [Act.put, List.setIfInBounds_toArray, List.set_cons_zero, List.set_cons_succ, i64_w, i32_w, hw8]
          rfl
        refine pure_ (i := 2) (N := some 34) (v := ?_) (a' := ?_) #[true, true, true, false, false, false, false, false, false, false, false, false, false, false, false] rfl rfl (by kernel_rfl) (fun _ _ _ h => h) (Or.inl ⟨by rfl, ?_⟩) ?_ ?_
        rotate_left
        · intro w'
          go_simp
          with_reducible rfl
        rotate_left
        · simp only [Act.put, List.setIfInBounds_toArray, List.set_cons_zero, List.set_cons_succ, i64_w, i32_w, hw8]
          rfl
        refine pure_ (i := 3) (N := some 35) (v := ?_) (a' := ?_) #[true, true, true, true, false, false, false, false, false, false, false, false, false, false, false] rfl rfl (by kernel_rfl) (fun _ _ _ h => h) (Or.inl ⟨by rfl, ?_⟩) ?_ ?_
        rotate_left
        · intro w'
          go_simp
          with_reducible rfl
        rotate_left
        · simp only [Act.put, List.setIfInBounds_toArray, List.set_cons_zero, List.set_cons_succ, i64_w, i32_w, hw8]
          rfl
        refine pure_ (i := 5) (N := some 37) (v := ?_) (a' := ?_) #[true, true, true, true, false, true, false, false, false, false, false, false, false, false, false] rfl rfl (by kernel_rfl) (fun _ _ _ h => h) (Or.inl ⟨by rfl, ?_⟩) ?_ ?_
        rotate_left
        · intro w'
          go_simp
          with_reducible rfl
        rotate_left
        · simp only [Act.put, List.setIfInBounds_toArray, List.set_cons_zero, List.set_cons_succ, i64_w, i32_w, hw8]
          rfl
        refine pure_ (i := 6) (N := some 38) (v := ?_) (a' := ?_) #[true, true, true, true, false, true, true, false, false, false, false, false, false, false, false] rfl rfl (by kernel_rfl) (fun _ _ _ h => h) (Or.inl ⟨by rfl, ?_⟩) ?_ ?_
        rotate_left
        · intro w'
          go_simp
          with_reducible rfl
        rotate_left
        · simp only [Act.put, List.setIfInBounds_toArray, List.set_cons_zero, List.set_cons_succ, i64_w, i32_w, hw8]
          rfl
        refine pure_ (i := 7) (N := some 39) (v := ?_) (a' := ?_) #[true, true, true, true, false, true, true, true, false, false, false, false, false, false, false] rfl rfl (by kernel_rfl) (fun _ _ _ h => h) (Or.inl ⟨by rfl, ?_⟩) ?_ ?_
        rotate_left
        · intro w'
          go_simp
          with_reducible rfl
        rotate_left
        · simp only [Act.put, List.setIfInBounds_toArray, List.set_cons_zero, List.set_cons_succ, i64_w, i32_w, hw8]
          rfl
        refine pure_ (i := 8) (N := some 40) (v := ?_) (a' := ?_) #[true, true, true, true, false, true, true, true, true, false, false, false, false, false, false] rfl rfl (by kernel_rfl) (fun _ _ _ h => h) (Or.inl ⟨by rfl, ?_⟩) ?_ ?_
        rotate_left
        · intro w'
          go_simp
          with_reducible rfl
        rotate_left
        · simp only [Act.put, List.setIfInBounds_toArray, List.set_cons_zero, List.set_cons_succ, i64_w, i32_w, hw8]
          rfl
        refine pure_ (i := 9) (N := some 41) (v := ?_) (a' := ?_) #[true, true, true, true, false, true, true, true, true, true, false, false, false, false, false] rfl rfl (by kernel_rfl) (fun _ _ _ h => h) (Or.inl ⟨by rfl, ?_⟩) ?_ ?_
        rotate_left
        · intro w'
          go_simp
          with_reducible rfl
        rotate_left
        · simp only [Act.put, List.setIfInBounds_toArray, List.set_cons_zero, List.set_cons_succ, i64_w, i32_w, hw8]
          rfl
        refine take_ (i := 4) (N := some 36) (v := ?_) (a' := ?_) #[true, true, true, true, true, true, true, true, true, true, false, false, false, false, false] rfl rfl (by kernel_rfl) (fun _ _ _ h => h) (Or.inl ⟨by rfl, ?_⟩) hHeld ?_ ?_
        rotate_left
        · intro w' hS
          go_simp
          with_reducible rfl
        rotate_left
        · simp only [Act.put, List.setIfInBounds_toArray, List.set_cons_zero, List.set_cons_succ, i64_w, i32_w, hw8]
          rfl
        refine one_ (i := 10) (N := some 42) #[true, true, true, true, true, true, true, true, true, true, true, false, false, false, false] rfl rfl (by kernel_rfl) (by decide) (fun K hK => ?_)
        refine value_ (w1 := ?_) (v := ?_) (by rfl) rfl ?_ ?_
        rotate_left 2
        · go_simp
          constructor
          · rfl
          · rfl
        refine hK.out _ _ ((World.cell?_alloc_lt _ _ _ (World.block_lt_of_cell? _ _ hHeld)).trans hHeld) (fun hHeld => ?_)
        clear hK K
        refine norm_ (a' := ?_) ?_ ?_
        rotate_left
        · show Act.put _ (some 42) _ = _
          simp only [Act.put, List.setIfInBounds_toArray, List.set_cons_zero, List.set_cons_succ, i64_w, i32_w, hw8]
          rfl
        refine one_ (i := 11) (N := some 43) #[true, true, true, true, true, true, true, true, true, true, true, true, false, false, false] rfl rfl (by kernel_rfl) (by decide) (fun K hK => ?_)
        refine Kd.R_append_step (Kd.int .u8) (w0 := w0) w0.heap.size (by rfl) (.tmp 36) (.tmp 42) 105 5 (.int .u8 0) 1 rfl Try.underlying105 infoU8 rfl (by decide) (by omega) (.slice A ys.length c) ys (IntKind.u8.wrap ((x : Int) / 2 ^ (8 * (m : Int)).toNat)) [.int .u8 (IntKind.u8.wrap ((x : Int) / 2 ^ (8 * (m : Int)).toNat))] (fun _ => True) (fun _ => False) rfl rfl ?aP (fun _ hk => hk.elim) ?aF ?aO ?aB ?aS ?aL ?_
        (case aP => exact rfl)
        (case aB => exact HB.out)
        (case aF => exact (fun _ _ => trivial))
        (case aO => exact HO.out)
        (case aS => exact (below_size HB.out))
        (case aL => omega)
        intro v1 w1 ho hb hg hat
        obtain ⟨A1, c1, e1⟩ := Kd.R_slice ho
        subst e1
        have BK1 := blk_grown BK.out hg (Kd.R_ne HO.out BK.out (by decide))
        have hc1 : w1.cell? ⟨g, 0, none⟩ = some (.slice A ys.length c) := (blk_cell BK1 0).trans rfl
        have hf1 := blk_frozen BK1 0
        refine hK.out _ _ (hc1) (fun hHeld => ?_)
        clear hK K
        refine norm_ (a' := ?_) ?_ ?_
        rotate_left
        · show Act.put _ (some 43) _ = _
          simp only [Act.put, List.setIfInBounds_toArray, List.set_cons_zero, List.set_cons_succ, i64_w, i32_w, hw8]
          rfl
        refine pure_ (i := 12) (N := some 44) (v := ?_) (a' := ?_) #[true, true, true, true, true, true, true, true, true, true, true, true, true, false, false] rfl rfl (by kernel_rfl) (fun _ _ _ h => h) (Or.inl ⟨by rfl, ?_⟩) ?_ ?_
        rotate_left
        · intro w'
          go_simp
          with_reducible rfl
        rotate_left
        · simp only [Act.put, List.setIfInBounds_toArray, List.set_cons_zero, List.set_cons_succ, i64_w, i32_w, hw8]
          rfl
        refine pure_ (i := 13) (N := some 45) (v := ?_) (a' := ?_) #[true, true, true, true, true, true, true, true, true, true, true, true, true, true, false] rfl rfl (by kernel_rfl) (fun _ _ _ h => h) (Or.inl ⟨by rfl, ?_⟩) ?_ ?_
        rotate_left
        · intro w'
          go_simp
          with_reducible rfl
        rotate_left
        · simp only [Act.put, List.setIfInBounds_toArray, List.set_cons_zero, List.set_cons_succ, i64_w, i32_w, hw8]
          rfl
        refine last_ (i := 14) (N := none) #[true, true, true, true, true, true, true, true, true, true, true, true, true, true, true] rfl rfl (by kernel_rfl) (by decide) (fun K hK => ?_)
        refine skip_ (w1 := ?_) (by rfl) rfl ?_ ?_
        rotate_left
        · go_simp
          rfl
        refine hK.out _ _ ?_
        clear hK K
        refine done_ (by kernel_rfl) ?_
        try go_wp2
        have hby : (IntKind.u8.wrap ((x : Int) / 2 ^ (8 * (m : Int)).toNat)) = ((x / 256 ^ m % 256 : Nat) : Int) := byte_at x m
        have hb2 : ys ++ [(IntKind.u8.wrap ((x : Int) / 2 ^ (8 * (m : Int)).toNat))] = xs ++ be (n - m) (x / 256 ^ m) := by rw [hby, HY.out, show n - m = (n - (m + 1)) + 1 by omega, be_succ, List.append_assoc, Nat.div_div_eq_div_mul, Nat.pow_succ]
        rw [hb2] at ho
        have hl2 : ys.length + 1 = (xs ++ be (n - m) (x / 256 ^ m)).length := by rw [← hb2]; simp
        rw [hl2]
        rw [hb2] at hat
        refine ⟨⟨m, _, by omega, rfl, ⟨WS_step hg0 BK1 ho⟩, ⟨below_set hb hg0⟩, ⟨HD.out.trans (Moved_step hg hat)⟩⟩, ?_⟩
        simp [intOf]
end Go.Proofs.Ytdjjpgdhnoibkaa.My
