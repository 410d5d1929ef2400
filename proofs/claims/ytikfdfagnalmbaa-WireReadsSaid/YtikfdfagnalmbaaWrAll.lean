/- A number's bytes, the highest first. A Writer in memory: its block holds the slice of its bytes; what each method makes of it. Writer.Fixed of what fits, Len, Told, NewWriter. Writer.Len. Writer.Raw. Writer.Uint. Writer.Small. Writer.Text, Writer.Fixed of what does not fit, Writer.Small. A Writer in memory, what else lies there staying: Raw, Small, Text, Int, Float. -/
import Derived.Test.YtikfdfagnalmbaaWWords
import Derived.Test.YtikfdfagnalmbaaProg
import Derived.Test.YtikfdfagnalmbaaWLast
import Derived.Test.YtikfdfagnalmbaaWMore
namespace Go.Proofs.Ytikfdfagnalmbaa.My
def be (n v : Nat) : List Int := (List.range n).map fun i => ((v / 256 ^ (n - 1 - i) % 256 : Nat) : Int)
theorem be_len (n v : Nat) : (be n v).length = n := by simp [be]
theorem be_succ (n v : Nat) : be (n + 1) v = be n (v / 256) ++ [((v % 256 : Nat) : Int)] := by
  unfold be
  rw [List.range_succ, List.map_append]
  congr 1
  · apply List.map_congr_left
    intro i hi
    rw [List.mem_range] at hi
    have : n + 1 - 1 - i = (n - 1 - i) + 1 := by omega
    rw [this, Nat.pow_succ, Nat.mul_comm, ← Nat.div_div_eq_div_mul]
  · simp
theorem be_zero (v : Nat) : be 0 v = [] := rfl
end Go.Proofs.Ytikfdfagnalmbaa.My
namespace Go.Proofs.Ytikfdfagnalmbaa.My
open Go.RowKit Go.Proofs.YtikfdfagnalmbaaW.PrintWords Go.Proofs.YtikfdfagnalmbaaW.PrintLast Go.Proofs.YtikfdfagnalmbaaW.PrintMore Go.Proofs.Ytikfdfagnalmbaa
set_option linter.unusedSimpArgs false
set_option linter.unusedVariables false
theorem infoU8 : (Try.prog.info? 5).map (fun i => (i.zero, i.size, i.bytes)) = some (some (.int .u8 0), 1, 1) := by kernel_rfl
/-- The Writer at block g holds the slice v; v's row are xs, and is the call's own. -/
def WS (w : World) (base g : Nat) (v : Value) (xs : List Int) : Prop := base ≤ g ∧ w.heap[g]? = some (.cells #[v] 85 (0, 0)) ∧ Kd.R (Kd.int .u8) 5 w base (fun _ => True) v xs
/-- What else lies there stays. -/
def Moved (w w' : World) (g : Nat) (v v' : Value) : Prop := w.heap.size ≤ w'.heap.size ∧ (∀ k, k < w.heap.size → k ≠ g → some k ≠ v.ownBlock → w'.heap[k]? = w.heap[k]?) ∧ (v'.ownBlock = v.ownBlock ∨ ∃ b, v'.ownBlock = some b ∧ w.heap.size ≤ b)
theorem Moved.refl (w : World) (g : Nat) (v : Value) : Moved w w g v v := ⟨Nat.le_refl _, fun _ _ _ _ => rfl, .inl rfl⟩
theorem Moved.trans {a b c : World} {g : Nat} {u v x : Value} (h : Moved a b g u v) (k : Moved b c g v x) : Moved a c g u x := by
  refine ⟨Nat.le_trans h.1 k.1, fun i hi hg hv => ?_, ?_⟩
  · rw [k.2.1 i (Nat.lt_of_lt_of_le hi h.1) hg ?_, h.2.1 i hi hg hv]
    rcases h.2.2 with e | ⟨b', e, hb⟩
    · rw [e]; exact hv
    · rw [e]; intro hh; injection hh with hh; omega
  · rcases k.2.2 with e | ⟨b', e, hb⟩
    · rw [e]; exact h.2.2
    · exact .inr ⟨b', e, Nat.le_trans h.1 hb⟩
set_option maxRecDepth 100000 in
set_option maxHeartbeats 4000000 in
theorem Byte_calls (g : Nat) (v : Value) (xs : List Int) (n : Int) (w0 w : World) (HB0 : Below w0.heap.size w0 w) (h : WS w w0.heap.size g v xs) (hl : xs.length + 1 ≤ 140737488355328) :
    Calls Try.prog 59 #[.pointer (some ⟨g, 0, none⟩), .int .u8 n] w fun e w' => e = .returned (.tuple #[]) ∧ ∃ v', WS w' w0.heap.size g v' (xs ++ [n]) ∧ Below w0.heap.size w0 w' ∧ Moved w w' g v v' := by
  obtain ⟨hg0, hblk, hR⟩ := h
  have HB := Aside0.mk HB0
  have HO := Aside0.mk hR
  have BK := Aside0.mk hblk
  have hc0 : w.cell? ⟨g, 0, none⟩ = some v := (blk_cell hblk 0).trans rfl
  obtain ⟨A, c, ev⟩ := Kd.R_slice hR
  subst ev
  clear hblk hR HB0
  go_enter Try.func59, Try.ntmps59
  go_wp2_with (first | ((with_reducible refine gate_builtin (b := .append) (xs := #[.tmp 10, .tmp 12]) rfl ?_); (try (refine gate_guard (by rfl) ?_; dsimp only)); at_builtin; refine Kd.R_append (Kd.int .u8) (w0 := w0) w0.heap.size rfl (.tmp 10) (.tmp 12) 54 5 (.int .u8 0) 1 rfl Try.underlying54 infoU8 rfl (by decide) (by omega) (.slice A xs.length c) xs n [.int .u8 n] (fun _ => True) (fun _ => False) rfl rfl ?aP (fun _ hk => hk.elim) ?aF ?aO ?aB ?aS ?aL ?_; (case aP => exact rfl); (case aB => exact HB.out); (case aF => exact (fun _ _ => trivial)); (case aO => exact HO.out); (case aS => exact (below_size HB.out)); (case aL => omega); intro v1 w1 ho hb hg hat; obtain ⟨A1, c1, e1⟩ := Kd.R_slice ho; subst e1; have BK1 := blk_grown BK.out hg (Kd.R_ne HO.out BK.out (by decide)); have hc1 : w1.cell? ⟨g, 0, none⟩ = some (.slice A xs.length c) := (blk_cell BK1 0).trans rfl; have hf1 := blk_frozen BK1 0))
  go_end0
  rw [show xs.length + 1 = (xs ++ [n]).length from by simp]
  refine ⟨rfl, .slice A1 (xs ++ [n]).length c1, ⟨hg0, blk_set BK1 0 _, Kd.R_mono (Kd.R_far (p := ⟨g, 0, none⟩) (Kd.R_types ho BK1 (by decide)) (fun _ hk => hk.2) _) (fun _ _ => trivial)⟩, below_set hb hg0, ?_⟩
  refine ⟨?_, fun k hk hkg hkv => ?_, hat⟩
  · have : (w1.setCell ⟨g, 0, none⟩ (.slice A1 (xs ++ [n]).length c1)).heap.size = w1.heap.size := by simp [World.setCell]
    rw [this]; exact hg.size
  · rw [Below.heap_setCell _ _ _ _ hkg]; exact hg.block k hk hkv
end Go.Proofs.Ytikfdfagnalmbaa.My
namespace Go.Proofs.Ytikfdfagnalmbaa.My
open Go.RowKit Go.Proofs.YtikfdfagnalmbaaW.PrintWords Go.Proofs.YtikfdfagnalmbaaW.PrintLast Go.Proofs.YtikfdfagnalmbaaW.PrintMore Go.Proofs.Ytikfdfagnalmbaa
set_option linter.unusedSimpArgs false
set_option linter.unusedVariables false
set_option maxRecDepth 100000
set_option maxHeartbeats 4000000
theorem byte_at (x m : Nat) : (IntKind.u8.wrap ((x : Int) / 2 ^ (8 * (m : Int)).toNat)) = ((x / 256 ^ m % 256 : Nat) : Int) := by
  have e0 : (8 * (m : Int)).toNat = 8 * m := by omega
  have e1 : (2 : Nat) ^ (8 * m) = 256 ^ m := by rw [Nat.pow_mul]
  have e2 : (x : Int) / 2 ^ (8 * m) = ((x / 2 ^ (8 * m) : Nat) : Int) := by push_cast; rfl
  rw [e0, e2, e1]
  simp only [IntKind.wrap, IntKind.bits, IntKind.signed]
  simp
theorem WS_step {w1 : World} {base g : Nat} {u : Value} {A : Option Addr} {c : Nat} {ys : List Int} (hg0 : base ≤ g) (BK1 : w1.heap[g]? = some (.cells #[u] 85 (0, 0))) (ho : Kd.R (Kd.int .u8) 5 w1 base (fun _ => True) (.slice A ys.length c) ys) :
    WS (w1.setCell ⟨g, 0, none⟩ (.slice A ys.length c)) base g (.slice A ys.length c) ys :=
  ⟨hg0, blk_set BK1 0 _, Kd.R_mono (Kd.R_far (p := ⟨g, 0, none⟩) (Kd.R_types ho BK1 (by decide)) (fun _ hk => hk.2) _) (fun _ _ => trivial)⟩
theorem Moved_step {w w1 : World} {g : Nat} {v u : Value} (hg : w.grownBy w1 v.ownBlock) (hat : u.ownBlock = v.ownBlock ∨ ∃ b, u.ownBlock = some b ∧ w.heap.size ≤ b) : Moved w (w1.setCell ⟨g, 0, none⟩ u) g v u := by
  refine ⟨?_, fun k hk hkg hkv => ?_, hat⟩
  · have : (w1.setCell ⟨g, 0, none⟩ u).heap.size = w1.heap.size := by simp [World.setCell]
    rw [this]; exact hg.size
  · rw [Below.heap_setCell _ _ _ _ hkg]; exact hg.block k hk hkv
theorem Moved.drew {a b : World} {g : Nat} {u v : Value} (h : Moved a b g u v) : Moved a b.drew g u v := h
theorem newWriterW (w : World) : Calls Try.prog 19 #[] w fun e w' => e = .returned (.pointer (some ⟨w.heap.size, 0, none⟩)) ∧ w' = w.alloc (.cells #[.slice none 0 0] 85 (0, 0)) := by
  go_enter Try.func19, Try.ntmps19
  go_wp2_with fail
  go_ret
  exact ⟨rfl, rfl⟩
theorem WS_new (w : World) (base : Nat) (h : base ≤ w.heap.size) : WS (w.alloc (.cells #[.slice none 0 0] 85 (0, 0))) base w.heap.size (.slice none 0 0) [] :=
  ⟨h, by show (w.heap.push _)[w.heap.size]? = _; rw [Array.getElem?_push_size], Kd.R_nil _ _ _ _ _⟩
theorem Told_calls (g : Nat) (v : Value) (xs : List Int) (base : Nat) (w : World) (h : WS w base g v xs) :
    Calls Try.prog 23 #[.pointer (some ⟨g, 0, none⟩)] w fun e w' => e = .returned (.string (strOfNums xs)) ∧ w = w' := by
  obtain ⟨_, hblk, hR⟩ := h
  have hc0 : w.cell? ⟨g, 0, none⟩ = some v := (blk_cell hblk 0).trans rfl
  have hcv := own_string (P := Try.prog) Try.underlying54 Try.underlying5 Try.underlying9 (Kd.own_of_R hR)
  obtain ⟨A, c, ev⟩ := Kd.R_slice hR
  subst ev
  clear hblk hR
  go_enter Try.func23, Try.ntmps23
  go_wp2_with fail
  go_ret
  exact ⟨rfl, rfl⟩
theorem Fixed_calls (g : Nat) (v : Value) (xs : List Int) (n x : Nat) (w0 w : World) (HB0 : Below w0.heap.size w0 w) (h : WS w w0.heap.size g v xs) (hl : xs.length + 8 ≤ 140737488355328) (h1 : 1 ≤ n) (h8 : n ≤ 8) (hx : x < 256 ^ n) :
    Calls Try.prog 32 #[.pointer (some ⟨g, 0, none⟩), .int .u64 x, .int .i64 n] w fun e w' => e = .returned (.int .i64 0) ∧ ∃ v', WS w' w0.heap.size g v' (xs ++ be n x) ∧ Below w0.heap.size w0 w' ∧ Moved w w' g v v' := by
  have HS := Aside0.mk h
  have HB := Aside0.mk HB0
  have hx64 : x < 18446744073709551616 := Nat.lt_of_lt_of_le hx (Nat.pow_le_pow_right (by omega : 0 < 256) h8)
  clear h HB0
  go_enter Try.func32, Try.ntmps32
  have hq : ((x : Int) / 2 ^ (8 * n) != 0) = false := by
    rw [bne_eq_false_iff_eq]
    have e1 : (2 : Nat) ^ (8 * n) = 256 ^ n := by rw [Nat.pow_mul]
    have : x / 2 ^ (8 * n) = 0 := by rw [e1]; exact Nat.div_eq_of_lt hx
    have e2 : (x : Int) / 2 ^ (8 * n) = ((x / 2 ^ (8 * n) : Nat) : Int) := by push_cast; rfl
    rw [e2, this]; rfl
  go_wp2_with fail
  all_goals
    go_loopw [2] (fun i wr => ∃ j : Nat, ∃ u : Value, j ≤ n ∧ i = .int .i64 ((j : Int) - 1) ∧ Aside0 (WS wr w0.heap.size g u (xs ++ be (n - j) (x / 256 ^ j))) ∧ Aside0 (Below w0.heap.size w0 wr) ∧ Aside0 (Moved w wr g v u)) (fun i _ => (intOf i + 1).toNat)
    case atStart => exact ⟨n, v, by omega, rfl, ⟨by rw [Nat.sub_self, be_zero, List.append_nil]; exact HS.out⟩, HB, ⟨Moved.refl _ _ _⟩⟩
    case round =>
      clear HS HB hq
      obtain ⟨j, u, hj, rfl, HW, HB1, HM⟩ := hrel
      cases j with
      | zero =>
        rw [Nat.sub_zero, Nat.pow_zero, Nat.div_one] at HW
        rw [show (((0 : Nat) : Int) - 1) = -1 from rfl]
        go_wp2_with fail
        go_ret
        exact ⟨rfl, u, HW.out, HB1.out, HM.out⟩
      | succ m =>
        rw [show (((m + 1 : Nat) : Int) - 1) = (m : Int) from by omega]
        obtain ⟨hg0, hblk, hR⟩ := HW.out
        clear HW
        obtain ⟨ys, hys⟩ : ∃ ys, ys = xs ++ be (n - (m + 1)) (x / 256 ^ (m + 1)) := ⟨_, rfl⟩
        rw [← hys] at hR
        have hyl : ys.length + 1 ≤ 140737488355328 := by rw [hys, List.length_append, be_len]; omega
        have HY := Aside0.mk hys
        clear hys
        obtain ⟨A, c, ev⟩ := Kd.R_slice hR
        subst ev
        have HO := Aside0.mk (Kd.R_drew hR)
        have BK := Aside0.mk (blk_drew hblk)
        have HB := Aside0.mk (below_drew1 HB1.out)
        have HD := Aside0.mk (HM.out.drew)
        have hc0 : wr.drew.cell? ⟨g, 0, none⟩ = some (.slice A ys.length c) := (blk_cell BK.out 0).trans rfl
        clear hR hblk HB1 HM
        have hw8 : wrap64 (8 * (m : Int)) = 8 * (m : Int) := by unfold wrap64; omega
        go_wp2_with fail
        refine start_ (n := 15) (S := fun w' => w'.cell? ⟨g, 0, none⟩ = some (.slice A ys.length c)) (ds := [14]) #[false, false, false, false, false, false, false, false, false, false, false, false, false, false, false] (by kernel_rfl) rfl rfl (hc0) (fun hHeld => ?_)
        generalize wr.drew = w2 at HO HB HD BK hHeld ⊢
        refine pure_ (i := 0) (N := some 32) (v := ?_) (a' := ?_) #[true, false, false, false, false, false, false, false, false, false, false, false, false, false, false] rfl rfl (by kernel_rfl) (fun _ _ _ h => h) (Or.inl ⟨by rfl, ?_⟩) ?_ ?_
        rotate_left
        · intro w'
          go_simp
          with_reducible rfl
        rotate_left
        · simp only [Act.put, List.setIfInBounds_toArray, List.set_cons_zero, List.set_cons_succ, i64_w, i32_w, hw8]
          rfl
        refine pure_ (i := 1) (N := some 33) (v := ?_) (a' := ?_) #[true, true, false, false, false, false, false, false, false, false, false, false, false, false, false] rfl rfl (by kernel_rfl) (fun _ _ _ h => h) (Or.inl ⟨by rfl, ?_⟩) ?_ ?_
        rotate_left
        · intro w'
          go_simp
          with_reducible rfl
        rotate_left
        · simp only [Act.put, List.setIfInBounds_toArray, List.set_cons_zero, List.set_cons_succ, i64_w, i32_w, hw8]
          rfl
        refine pure_ (i := 2) (N := some 34) (v := ?_) (a' := ?_) #[true, true, true, false, false, false, false, false, false, false, false, false, false, false, false] rfl rfl (by kernel_rfl) (fun _ _ _ h => h) (Or.inl ⟨by rfl, ?_⟩) ?_ ?_
        rotate_left
        · intro w'
          go_simp
          with_reducible rfl
        rotate_left
        · simp only [Act.put, List.setIfInBounds_toArray, List.set_cons_zero, List.set_cons_succ, i64_w, i32_w, hw8]
          rfl
        refine pure_ (i := 3) (N := some 35) (v := ?_) (a' := ?_) #[true, true, true, true, false, false, false, false, false, false, false, false, false, false, false] rfl rfl (by kernel_rfl) (fun _ _ _ h => h) (Or.inl ⟨by rfl, ?_⟩) ?_ ?_
        rotate_left
        · intro w'
          go_simp
          with_reducible rfl
        rotate_left
        · simp only [Act.put, List.setIfInBounds_toArray, List.set_cons_zero, List.set_cons_succ, i64_w, i32_w, hw8]
          rfl
        refine pure_ (i := 5) (N := some 37) (v := ?_) (a' := ?_) #[true, true, true, true, false, true, false, false, false, false, false, false, false, false, false] rfl rfl (by kernel_rfl) (fun _ _ _ h => h) (Or.inl ⟨by rfl, ?_⟩) ?_ ?_
        rotate_left
        · intro w'
          go_simp
          with_reducible rfl
        rotate_left
        · simp only [Act.put, List.setIfInBounds_toArray, List.set_cons_zero, List.set_cons_succ, i64_w, i32_w, hw8]
          rfl
        refine pure_ (i := 6) (N := some 38) (v := ?_) (a' := ?_) #[true, true, true, true, false, true, true, false, false, false, false, false, false, false, false] rfl rfl (by kernel_rfl) (fun _ _ _ h => h) (Or.inl ⟨by rfl, ?_⟩) ?_ ?_
        rotate_left
        · intro w'
          go_simp
          with_reducible rfl
        rotate_left
        · simp only [Act.put, List.setIfInBounds_toArray, List.set_cons_zero, List.set_cons_succ, i64_w, i32_w, hw8]
          rfl
        refine pure_ (i := 7) (N := some 39) (v := ?_) (a' := ?_) #[true, true, true, true, false, true, true, true, false, false, false, false, false, false, false] rfl rfl (by kernel_rfl) (fun _ _ _ h => h) (Or.inl ⟨by rfl, ?_⟩) ?_ ?_
        rotate_left
        · intro w'
          go_simp
          with_reducible rfl
        rotate_left
        · simp only [Act.put, List.setIfInBounds_toArray, List.set_cons_zero, List.set_cons_succ, i64_w, i32_w, hw8]
          rfl
        refine pure_ (i := 8) (N := some 40) (v := ?_) (a' := ?_) #[true, true, true, true, false, true, true, true, true, false, false, false, false, false, false] rfl rfl (by kernel_rfl) (fun _ _ _ h => h) (Or.inl ⟨by rfl, ?_⟩) ?_ ?_
        rotate_left
        · intro w'
          go_simp
          with_reducible rfl
        rotate_left
        · simp only [Act.put, List.setIfInBounds_toArray, List.set_cons_zero, List.set_cons_succ, i64_w, i32_w, hw8]
          rfl
        refine pure_ (i := 9) (N := some 41) (v := ?_) (a' := ?_) #[true, true, true, true, false, true, true, true, true, true, false, false, false, false, false] rfl rfl (by kernel_rfl) (fun _ _ _ h => h) (Or.inl ⟨by rfl, ?_⟩) ?_ ?_
        rotate_left
        · intro w'
          go_simp
          with_reducible rfl
        rotate_left
        · simp only [Act.put, List.setIfInBounds_toArray, List.set_cons_zero, List.set_cons_succ, i64_w, i32_w, hw8]
          rfl
        refine take_ (i := 4) (N := some 36) (v := ?_) (a' := ?_) #[true, true, true, true, true, true, true, true, true, true, false, false, false, false, false] rfl rfl (by kernel_rfl) (fun _ _ _ h => h) (Or.inl ⟨by rfl, ?_⟩) hHeld ?_ ?_
        rotate_left
        · intro w' hS
          go_simp
          with_reducible rfl
        rotate_left
        · simp only [Act.put, List.setIfInBounds_toArray, List.set_cons_zero, List.set_cons_succ, i64_w, i32_w, hw8]
          rfl
        refine one_ (i := 10) (N := some 42) #[true, true, true, true, true, true, true, true, true, true, true, false, false, false, false] rfl rfl (by kernel_rfl) (by decide) (fun K hK => ?_)
        refine value_ (w1 := ?_) (v := ?_) (by rfl) rfl ?_ ?_
        rotate_left 2
        · go_simp
          constructor
          · rfl
          · rfl
        refine hK.out _ _ ((World.cell?_alloc_lt _ _ _ (World.block_lt_of_cell? _ _ hHeld)).trans hHeld) (fun hHeld => ?_)
        clear hK K
        refine norm_ (a' := ?_) ?_ ?_
        rotate_left
        · show Act.put _ (some 42) _ = _
          simp only [Act.put, List.setIfInBounds_toArray, List.set_cons_zero, List.set_cons_succ, i64_w, i32_w, hw8]
          rfl
        refine one_ (i := 11) (N := some 43) #[true, true, true, true, true, true, true, true, true, true, true, true, false, false, false] rfl rfl (by kernel_rfl) (by decide) (fun K hK => ?_)
        refine Kd.R_append_step (Kd.int .u8) (w0 := w0) w0.heap.size (by rfl) (.tmp 36) (.tmp 42) 54 5 (.int .u8 0) 1 rfl Try.underlying54 infoU8 rfl (by decide) (by omega) (.slice A ys.length c) ys (IntKind.u8.wrap ((x : Int) / 2 ^ (8 * (m : Int)).toNat)) [.int .u8 (IntKind.u8.wrap ((x : Int) / 2 ^ (8 * (m : Int)).toNat))] (fun _ => True) (fun _ => False) rfl rfl ?aP (fun _ hk => hk.elim) ?aF ?aO ?aB ?aS ?aL ?_
        (case aP => exact rfl)
        (case aB => exact HB.out)
        (case aF => exact (fun _ _ => trivial))
        (case aO => exact HO.out)
        (case aS => exact (below_size HB.out))
        (case aL => omega)
        intro v1 w1 ho hb hg hat
        obtain ⟨A1, c1, e1⟩ := Kd.R_slice ho
        subst e1
        have BK1 := blk_grown BK.out hg (Kd.R_ne HO.out BK.out (by decide))
        have hc1 : w1.cell? ⟨g, 0, none⟩ = some (.slice A ys.length c) := (blk_cell BK1 0).trans rfl
        have hf1 := blk_frozen BK1 0
        refine hK.out _ _ (hc1) (fun hHeld => ?_)
        clear hK K
        refine norm_ (a' := ?_) ?_ ?_
        rotate_left
        · show Act.put _ (some 43) _ = _
          simp only [Act.put, List.setIfInBounds_toArray, List.set_cons_zero, List.set_cons_succ, i64_w, i32_w, hw8]
          rfl
        refine pure_ (i := 12) (N := some 44) (v := ?_) (a' := ?_) #[true, true, true, true, true, true, true, true, true, true, true, true, true, false, false] rfl rfl (by kernel_rfl) (fun _ _ _ h => h) (Or.inl ⟨by rfl, ?_⟩) ?_ ?_
        rotate_left
        · intro w'
          go_simp
          with_reducible rfl
        rotate_left
        · simp only [Act.put, List.setIfInBounds_toArray, List.set_cons_zero, List.set_cons_succ, i64_w, i32_w, hw8]
          rfl
        refine pure_ (i := 13) (N := some 45) (v := ?_) (a' := ?_) #[true, true, true, true, true, true, true, true, true, true, true, true, true, true, false] rfl rfl (by kernel_rfl) (fun _ _ _ h => h) (Or.inl ⟨by rfl, ?_⟩) ?_ ?_
        rotate_left
        · intro w'
          go_simp
          with_reducible rfl
        rotate_left
        · simp only [Act.put, List.setIfInBounds_toArray, List.set_cons_zero, List.set_cons_succ, i64_w, i32_w, hw8]
          rfl
        refine last_ (i := 14) (N := none) #[true, true, true, true, true, true, true, true, true, true, true, true, true, true, true] rfl rfl (by kernel_rfl) (by decide) (fun K hK => ?_)
        refine skip_ (w1 := ?_) (by rfl) rfl ?_ ?_
        rotate_left
        · go_simp
          rfl
        refine hK.out _ _ ?_
        clear hK K
        refine done_ (by kernel_rfl) ?_
        try go_wp2
        have hby : (IntKind.u8.wrap ((x : Int) / 2 ^ (8 * (m : Int)).toNat)) = ((x / 256 ^ m % 256 : Nat) : Int) := byte_at x m
        have hb2 : ys ++ [(IntKind.u8.wrap ((x : Int) / 2 ^ (8 * (m : Int)).toNat))] = xs ++ be (n - m) (x / 256 ^ m) := by rw [hby, HY.out, show n - m = (n - (m + 1)) + 1 by omega, be_succ, List.append_assoc, Nat.div_div_eq_div_mul, Nat.pow_succ]
        rw [hb2] at ho
        have hl2 : ys.length + 1 = (xs ++ be (n - m) (x / 256 ^ m)).length := by rw [← hb2]; simp
        rw [hl2]
        rw [hb2] at hat
        refine ⟨⟨m, _, by omega, rfl, ⟨WS_step hg0 BK1 ho⟩, ⟨below_set hb hg0⟩, ⟨HD.out.trans (Moved_step hg hat)⟩⟩, ?_⟩
        simp [intOf]
end Go.Proofs.Ytikfdfagnalmbaa.My
namespace Go.Proofs.Ytikfdfagnalmbaa.My
open Go.RowKit Go.Proofs.YtikfdfagnalmbaaW.PrintWords Go.Proofs.YtikfdfagnalmbaaW.PrintLast Go.Proofs.YtikfdfagnalmbaaW.PrintMore Go.Proofs.Ytikfdfagnalmbaa
theorem Len_calls (g : Nat) (v : Value) (xs : List Int) (base : Nat) (w : World) (h : WS w base g v xs) :
    Calls Try.prog 22 #[.pointer (some ⟨g, 0, none⟩)] w fun e w' => e = .returned (.int .i64 (xs.length : Nat)) ∧ w = w' := by
  obtain ⟨_, hblk, hR⟩ := h
  have hc0 : w.cell? ⟨g, 0, none⟩ = some v := (blk_cell hblk 0).trans rfl
  obtain ⟨A, c, ev⟩ := Kd.R_slice hR
  subst ev
  clear hblk hR
  go_enter Try.func22, Try.ntmps22
  go_wp2_with fail
  go_ret
  exact ⟨rfl, rfl⟩
end Go.Proofs.Ytikfdfagnalmbaa.My
namespace Go.Proofs.Ytikfdfagnalmbaa.My
open Go.RowKit Go.Proofs.YtikfdfagnalmbaaW.PrintWords Go.Proofs.YtikfdfagnalmbaaW.PrintLast Go.Proofs.YtikfdfagnalmbaaW.PrintMore Go.Proofs.Ytikfdfagnalmbaa
set_option linter.unusedSimpArgs false
set_option linter.unusedVariables false
set_option maxRecDepth 100000
set_option maxHeartbeats 4000000
theorem Raw_calls (g : Nat) (v : Value) (xs : List Int) (s : ByteArray) (w0 w : World) (HB0 : Below w0.heap.size w0 w) (h : WS w w0.heap.size g v xs) (hl : xs.length + s.size ≤ 140737488355328) :
    Calls Try.prog 65 #[.pointer (some ⟨g, 0, none⟩), .string s] w fun e w' => e = .returned (.tuple #[]) ∧ ∃ v', WS w' w0.heap.size g v' (xs ++ bytesOf s) ∧ Below w0.heap.size w0 w' := by
  obtain ⟨hg0, hblk, hR⟩ := h
  have HB := Aside0.mk HB0
  have HO := Aside0.mk hR
  have BK := Aside0.mk hblk
  have hc0 : w.cell? ⟨g, 0, none⟩ = some v := (blk_cell hblk 0).trans rfl
  obtain ⟨A, c, ev⟩ := Kd.R_slice hR
  subst ev
  clear hblk hR HB0
  go_enter Try.func65, Try.ntmps65
  go_wp2_with (first | ((with_reducible refine gate_builtin (b := .append) (xs := #[.tmp 10, .tmp 11]) rfl ?_); (try (refine gate_guard (by rfl) ?_; dsimp only)); at_builtin; refine print_append_str (w0 := w0) w0.heap.size rfl (.tmp 10) (.tmp 11) 54 9 5 rfl Try.underlying54 Try.underlying9 infoU8 (.slice A xs.length c) xs s rfl rfl (Kd.own_of_R HO.out) HB.out (below_size HB.out) hl ?_; intro v1 w1 hown hb hg; have ho : Kd.R (Kd.int .u8) 5 w1 w0.heap.size (fun _ => True) v1 (xs ++ bytesOf s) := Kd.R_of_own hown (fun _ _ => trivial); obtain ⟨A1, c1, e1⟩ := Kd.R_slice ho; subst e1; have BK1 := blk_grown BK.out hg (Kd.R_ne HO.out BK.out (by decide)); have hc1 : w1.cell? ⟨g, 0, none⟩ = some (.slice A xs.length c) := (blk_cell BK1 0).trans rfl; have hf1 := blk_frozen BK1 0))
  go_end0
  rw [show xs.length + (bytesOf s).length = (xs ++ bytesOf s).length from by rw [List.length_append]]
  exact ⟨rfl, _, WS_step hg0 BK1 ho, below_set hb hg0⟩
end Go.Proofs.Ytikfdfagnalmbaa.My
namespace Go.Proofs.Ytikfdfagnalmbaa.My
open Go.RowKit Go.Proofs.YtikfdfagnalmbaaW.PrintWords Go.Proofs.YtikfdfagnalmbaaW.PrintLast Go.Proofs.YtikfdfagnalmbaaW.PrintMore Go.Proofs.Ytikfdfagnalmbaa
set_option linter.unusedSimpArgs false
set_option linter.unusedVariables false
set_option maxRecDepth 100000
set_option maxHeartbeats 4000000
/-- A number to the base 128. -/
def uv : Nat → Nat → List Int
  | 0, v => [(v : Int)]
  | k + 1, v => if v < 128 then [(v : Int)] else ((v % 128 + 128 : Nat) : Int) :: uv k (v / 128)
theorem or128 : ∀ b : Nat, b < 256 → b ||| 128 = b % 128 + 128 := by decide
theorem Uint_calls (g : Nat) (v : Value) (xs : List Int) (x : Nat) (w0 w : World) (HB0 : Below w0.heap.size w0 w) (h : WS w w0.heap.size g v xs) (hl : xs.length + 20 ≤ 140737488355328) (hx : x < 18446744073709551616) :
    Calls Try.prog 61 #[.pointer (some ⟨g, 0, none⟩), .int .u64 x] w fun e w' => e = .returned (.tuple #[]) ∧ ∃ v', WS w' w0.heap.size g v' (xs ++ uv 10 x) ∧ Below w0.heap.size w0 w' ∧ Moved w w' g v v' := by
  have HS := Aside0.mk h
  have HB := Aside0.mk HB0
  clear h HB0
  go_enter Try.func61, Try.ntmps61
  go_wp2_with fail
  go_loopw [1] (fun i wr => ∃ (k y : Nat) (u : Value) (ys : List Int), k ≤ 10 ∧ y < 128 ^ k ∧ i = .int .u64 (y : Int) ∧ ys.length + k ≤ xs.length + 10 ∧ Aside0 (xs ++ uv 10 x = ys ++ uv k y) ∧ Aside0 (WS wr w0.heap.size g u ys) ∧ Aside0 (Below w0.heap.size w0 wr) ∧ Aside0 (Moved w wr g v u)) (fun i _ => (intOf i).toNat)
  case atStart => exact ⟨10, x, v, xs, by omega, by omega, rfl, by omega, ⟨rfl⟩, HS, HB, ⟨Moved.refl _ _ _⟩⟩
  case round =>
    clear HS HB
    obtain ⟨k, y, u, ys, hk, hy, rfl, hyl, HE, HW, HB, HM⟩ := hrel
    have hy64 : y < 128 ^ 10 := Nat.lt_of_lt_of_le hy (Nat.pow_le_pow_right (by omega) hk)
    obtain ⟨hg0, hblk, hR⟩ := HW.out
    have HO := Aside0.mk hR
    have BK := Aside0.mk hblk
    have hc0 : wr.cell? ⟨g, 0, none⟩ = some u := (blk_cell hblk 0).trans rfl
    obtain ⟨A, c, ev⟩ := Kd.R_slice hR
    subst ev
    clear hblk hR HW
    have hyl2 : ys.length + 1 ≤ 140737488355328 := by omega
    by_cases hlt : 128 ≤ y
    · obtain ⟨k', rfl⟩ : ∃ k', k = k' + 1 := by
        cases k with
        | zero => simp at hy; omega
        | succ k' => exact ⟨k', rfl⟩
      have hy' : y / 128 < 128 ^ k' := by rw [Nat.pow_succ] at hy; omega
      have HE2 : Aside0 (uv (k' + 1) y = ((y % 128 + 128 : Nat) : Int) :: uv k' (y / 128)) := ⟨by rw [uv, if_neg (by omega)]⟩
      clear hy
      have hbyte : Aside0 (Go.bits .or .u8 ((y : Int) % 256) 128 = ((y % 128 + 128 : Nat) : Int)) := ⟨by
        have h1 := u8_or_nat (y % 256) 128 (by omega) (by omega)
        rw [or128 _ (by omega)] at h1
        rw [show ((y : Int) % 256) = ((y % 256 : Nat) : Int) from by omega]
        rw [show y % 128 + 128 = y % 256 % 128 + 128 from by omega]
        exact h1⟩
      go_wp2_with (first | ((with_reducible refine gate_builtin (b := .append) (xs := #[.tmp 12, .tmp 16]) rfl ?_); (try (refine gate_guard (by rfl) ?_; dsimp only)); at_builtin; refine Kd.R_append (Kd.int .u8) (w0 := w0) w0.heap.size rfl (.tmp 12) (.tmp 16) 54 5 (.int .u8 0) 1 rfl Try.underlying54 infoU8 rfl (by decide) (by omega) (.slice A ys.length c) ys (Go.bits .or .u8 ((y : Int) % 256) 128) [.int .u8 (Go.bits .or .u8 ((y : Int) % 256) 128)] (fun _ => True) (fun _ => False) rfl rfl ?aP (fun _ hk => hk.elim) ?aF ?aO ?aB ?aS ?aL ?_; (case aP => exact rfl); (case aB => exact HB.out); (case aF => exact (fun _ _ => trivial)); (case aO => exact HO.out); (case aS => exact (below_size HB.out)); (case aL => omega); intro v1 w1 ho hb hg hat; obtain ⟨A1, c1, e1⟩ := Kd.R_slice ho; subst e1; have BK1 := blk_grown BK.out hg (Kd.R_ne HO.out BK.out (by decide)); have hc1 : w1.cell? ⟨g, 0, none⟩ = some (.slice A ys.length c) := (blk_cell BK1 0).trans rfl; have hf1 := blk_frozen BK1 0))
      rw [hbyte.out] at ho hat
      rw [show ys.length + 1 = (ys ++ [((y % 128 + 128 : Nat) : Int)]).length from by simp]
      refine ⟨⟨k', y / 128, _, ys ++ [((y % 128 + 128 : Nat) : Int)], by omega, hy', rfl, by rw [List.length_append]; simp; omega, ⟨by rw [HE.out, HE2.out]; simp⟩, ⟨WS_step hg0 BK1 ho⟩, ⟨below_set hb hg0⟩, ⟨HM.out.trans (Moved_step hg hat)⟩⟩, ?_⟩
      simp [intOf]
      omega
    · have HE2 : Aside0 (uv k y = [(y : Int)]) := ⟨by cases k with
        | zero => rfl
        | succ k' => rw [uv, if_pos (by omega)]⟩
      clear hy
      go_wp2_with (first | ((with_reducible refine gate_builtin (b := .append) (xs := #[.tmp 26, .tmp 29]) rfl ?_); (try (refine gate_guard (by rfl) ?_; dsimp only)); at_builtin; refine Kd.R_append (Kd.int .u8) (w0 := w0) w0.heap.size rfl (.tmp 26) (.tmp 29) 54 5 (.int .u8 0) 1 rfl Try.underlying54 infoU8 rfl (by decide) (by omega) (.slice A ys.length c) ys (y : Int) [.int .u8 (y : Int)] (fun _ => True) (fun _ => False) rfl rfl ?aP (fun _ hk => hk.elim) ?aF ?aO ?aB ?aS ?aL ?_; (case aP => exact rfl); (case aB => exact HB.out); (case aF => exact (fun _ _ => trivial)); (case aO => exact HO.out); (case aS => exact (below_size HB.out)); (case aL => omega); intro v1 w1 ho hb hg hat; obtain ⟨A1, c1, e1⟩ := Kd.R_slice ho; subst e1; have BK1 := blk_grown BK.out hg (Kd.R_ne HO.out BK.out (by decide)); have hc1 : w1.cell? ⟨g, 0, none⟩ = some (.slice A ys.length c) := (blk_cell BK1 0).trans rfl; have hf1 := blk_frozen BK1 0))
      go_end0
      rw [show ys.length + 1 = (ys ++ [(y : Int)]).length from by simp]
      refine ⟨rfl, _, ?_, below_set hb hg0, HM.out.trans (Moved_step hg hat)⟩
      rw [HE.out, HE2.out]
      exact WS_step hg0 BK1 ho
end Go.Proofs.Ytikfdfagnalmbaa.My
namespace Go.Proofs.Ytikfdfagnalmbaa.My
open Go.RowKit Go.Proofs.YtikfdfagnalmbaaW.PrintWords Go.Proofs.YtikfdfagnalmbaaW.PrintLast Go.Proofs.YtikfdfagnalmbaaW.PrintMore Go.Proofs.Ytikfdfagnalmbaa
set_option linter.unusedSimpArgs false
set_option linter.unusedVariables false
set_option maxRecDepth 100000
set_option maxHeartbeats 4000000
/-- Two bytes that were just built. -/
theorem C_two (W : World) (a b : Int) : Kd.C (Kd.int .u8) (W.alloc (.cells #[.int .u8 a, .int .u8 b] 5 (0, 0))) (some ⟨W.heap.size, 0, none⟩) 2 [a, b] := by
  have hb : (W.alloc (.cells #[.int .u8 a, .int .u8 b] 5 (0, 0))).heap[W.heap.size]? = some (.cells #[.int .u8 a, .int .u8 b] 5 (0, 0)) := by show (W.heap.push _)[W.heap.size]? = _; rw [Array.getElem?_push_size]
  refine ⟨rfl, by omega, fun _ => ⟨_, rfl, fun j p hj => ?_⟩⟩
  match j, hj with
  | 0, hj =>
    obtain rfl := Option.some.inj hj
    exact ⟨[.int .u8 a], rfl, rfl, fun i u hi => by
      cases i with
      | zero => obtain rfl := Option.some.inj hi; exact (blk_cell hb 0).trans rfl
      | succ i => simp at hi⟩
  | 1, hj =>
    obtain rfl := Option.some.inj hj
    exact ⟨[.int .u8 b], rfl, rfl, fun i u hi => by
      cases i with
      | zero => obtain rfl := Option.some.inj hi; exact (blk_cell hb 1).trans rfl
      | succ i => simp at hi⟩
theorem Small_calls (g : Nat) (v : Value) (xs : List Int) (x : Int) (w0 w : World) (HB0 : Below w0.heap.size w0 w) (h : WS w w0.heap.size g v xs) (hl : xs.length + 2 ≤ 140737488355328) :
    Calls Try.prog 60 #[.pointer (some ⟨g, 0, none⟩), .int .i16 x] w fun e w' => e = .returned (.tuple #[]) ∧ ∃ v', WS w' w0.heap.size g v' (xs ++ [(IntKind.u16.wrap x / 256 % 256), (x % 256)]) ∧ Below w0.heap.size w0 w' := by
  obtain ⟨hg0, hblk, hR⟩ := h
  have HB := Aside0.mk HB0
  have HO := Aside0.mk hR
  have BK := Aside0.mk hblk
  have hc0 : w.cell? ⟨g, 0, none⟩ = some v := (blk_cell hblk 0).trans rfl
  obtain ⟨A, c, ev⟩ := Kd.R_slice hR
  subst ev
  clear hblk hR HB0
  go_enter Try.func60, Try.ntmps60
  go_wp2_with (first | ((with_reducible refine gate_builtin (b := .append) (xs := #[.tmp 10, .tmp 17]) rfl ?_); (try (refine gate_guard (by rfl) ?_; dsimp only)); at_builtin; refine Kd.R_append_rows (Kd.int .u8) (w0 := w0) w0.heap.size rfl (.tmp 10) (.tmp 17) 54 5 (.int .u8 0) 1 rfl Try.underlying54 infoU8 rfl (by decide) (by omega) (.slice A xs.length c) xs [(IntKind.u16.wrap x / 256 % 256), (x % 256)] _ _ _ (fun _ => True) (fun _ => False) rfl rfl ?aO ?aR (fun _ _ h => h) (fun _ h => h.elim) ?aF ?aB ?aS ?aL ?_; (case aR => exact C_two w _ _); (case aB => exact HB.out.alloc (below_size HB.out) _); (case aF => exact (fun _ _ => trivial)); (case aO => exact Kd.R_alloc HO.out _); (case aS => exact below_size (HB.out.alloc (below_size HB.out) _)); (case aL => simp; omega); intro v1 w1 ho hb hg hat; obtain ⟨A1, c1, e1⟩ := Kd.R_slice ho; subst e1; have BK1 := blk_grown (blk_alloc BK.out _) hg (Kd.R_ne HO.out BK.out (by decide)); have hc1 : w1.cell? ⟨g, 0, none⟩ = some (.slice A xs.length c) := (blk_cell BK1 0).trans rfl; have hf1 := blk_frozen BK1 0))
  go_end0
  rw [show xs.length + 2 = (xs ++ [(IntKind.u16.wrap x / 256 % 256), (x % 256)]).length from by simp]
  exact ⟨rfl, _, WS_step hg0 BK1 ho, below_set hb hg0⟩
end Go.Proofs.Ytikfdfagnalmbaa.My
namespace Go.Proofs.Ytikfdfagnalmbaa.My
open Go.RowKit Go.Proofs.YtikfdfagnalmbaaW.PrintWords Go.Proofs.YtikfdfagnalmbaaW.PrintLast Go.Proofs.YtikfdfagnalmbaaW.PrintMore Go.Proofs.Ytikfdfagnalmbaa
set_option linter.unusedSimpArgs false
set_option linter.unusedVariables false
set_option maxRecDepth 100000
set_option maxHeartbeats 4000000
theorem uv_len : ∀ k v, (uv k v).length ≤ k + 1
  | 0, v => by simp [uv]
  | k + 1, v => by
    rw [uv]
    split
    · simp
    · have := uv_len k (v / 128); simp; omega
theorem Text_calls (g : Nat) (v : Value) (xs : List Int) (s : ByteArray) (w0 w : World) (HB0 : Below w0.heap.size w0 w) (h : WS w w0.heap.size g v xs) (hl : xs.length + s.size + 20 ≤ 140737488355328) :
    Calls Try.prog 64 #[.pointer (some ⟨g, 0, none⟩), .string s] w fun e w' => e = .returned (.tuple #[]) ∧ ∃ v', WS w' w0.heap.size g v' (xs ++ uv 10 s.size ++ bytesOf s) ∧ Below w0.heap.size w0 w' := by
  have hlen := uv_len 10 s.size
  have hw : IntKind.u64.wrap (s.size : Int) = s.size := by rw [IntKind.wrap_u64]; omega
  go_enter Try.func64, Try.ntmps64
  go_wp2_with fail
  refine (Uint_calls g v xs s.size w0 w HB0 h (by omega) (by omega)).mono ?_
  rintro e w1 ⟨rfl, v1, h1, hb1, _⟩
  go_wp2_with fail
  refine (Raw_calls g v1 _ s w0 w1 hb1 h1 (by rw [List.length_append]; omega)).mono ?_
  rintro e w2 ⟨rfl, v2, h2, hb2⟩
  go_wp2_with fail
  go_end0
  exact ⟨rfl, v2, h2, hb2⟩
theorem Fixed_bad (p : Addr) (x : Nat) (n : Int) (w : World) (hbad : n < 1 ∨ 8 < n ∨ (1 ≤ n ∧ n < 8 ∧ 256 ^ n.toNat ≤ x)) :
    Calls Try.prog 32 #[.pointer (some p), .int .u64 x, .int .i64 n] w fun e w' => e = .returned (.int .i64 1) ∧ w = w' := by
  rcases hbad with h | h | ⟨h1, h2, h3⟩
  · go_enter Try.func32, Try.ntmps32
    go_wp2_with fail
    go_ret
    exact ⟨rfl, rfl⟩
  · go_enter Try.func32, Try.ntmps32
    go_wp2_with fail
    go_ret
    exact ⟨rfl, rfl⟩
  · obtain ⟨m, rfl⟩ := Int.eq_ofNat_of_zero_le (show 0 ≤ n by omega)
    have hq : ((x : Int) / 2 ^ (8 * m) != 0) = true := by
      rw [bne_iff_ne]
      have e1 : (2 : Nat) ^ (8 * m) = 256 ^ m := by rw [Nat.pow_mul]
      have hp : 0 < x / 256 ^ m := Nat.div_pos (by simpa using h3) (Nat.pow_pos (by omega))
      have e2 : (x : Int) / 2 ^ (8 * m) = ((x / 2 ^ (8 * m) : Nat) : Int) := by push_cast; rfl
      rw [e2, e1]; omega
    clear h3
    go_enter Try.func32, Try.ntmps32
    go_wp2_with fail
    all_goals
      go_ret
      exact ⟨rfl, rfl⟩
end Go.Proofs.Ytikfdfagnalmbaa.My
namespace Go.Proofs.Ytikfdfagnalmbaa.My
open Go.RowKit Go.Proofs.YtikfdfagnalmbaaW.PrintWords Go.Proofs.YtikfdfagnalmbaaW.PrintLast Go.Proofs.YtikfdfagnalmbaaW.PrintMore Go.Proofs.Ytikfdfagnalmbaa
set_option linter.unusedSimpArgs false
set_option linter.unusedVariables false
set_option maxRecDepth 100000
set_option maxHeartbeats 4000000
/-- Where the slice lies that an append of a text makes. -/
theorem append_str_at {P : Program} (w : World) (base : Nat) (t u ty e : TypeId) (i : TypeInfo) (ht : P.underlying t = some (.slice e)) (hu : P.underlying u = some .string) (hi : P.info? e = some i) (hz : i.zero = some (.int .u8 0)) (hsize : i.size = 1) (hby : i.bytes = 1) (v : Value) (n : Nat) (xs : List Value) (hown : w.ownsRow base e 1 v n xs) (s : ByteArray) (hbytes : n + s.size ≤ 140737488355328) {v' : Value} {w' : World} (hr : (Builtin.append_ #[t, u] ty #[v, .string s]).run P w = .ok v' w') : v'.ownBlock = v.ownBlock ∨ ∃ b, v'.ownBlock = some b ∧ w.heap.size ≤ b := by
  have hxl : xs.length = n := by simpa using hown.1
  have inj : ∀ {a b : Value} {x y : World}, (Result.ok a x : Result Value) = .ok b y → b = a := by
    intro a b x y h
    injection h with h1 h2
    exact h1.symm
  rcases hown.2 with ⟨rfl, rfl⟩ | ⟨g, cap, cur, rfl, hbg, hg, hnc, hcm, hcs, htake⟩
  · by_cases hm : s.size = 0
    · have hf := Lib.run_firstCells_string (P := P) w 1 s
      rw [hm] at hf
      have h2 : (Builtin.append_ #[t, u] ty #[.slice none 0 0, .string s]).run P w = .ok (.slice none 0 0) w := by
        simp [Builtin.append_, run_underlying ht, run_underlying hu, sizeOf, typeInfo, hi, hsize, Builtin.lenOf, hm, hf]
      obtain rfl := inj (h2.symm.trans hr)
      exact .inl rfl
    · have h2 := run_append_nil_string (P := P) w t u ty e i (.int .u8 0) ht hu hi hz s (by omega) (by omega) (by rw [hby]; omega)
      obtain rfl := inj (h2.symm.trans hr)
      exact .inr ⟨_, rfl, Nat.le_refl _⟩
  · by_cases hroom : n + s.size ≤ cap
    · have hcs' : cur.size = cap := by simpa using hcs
      have h2 := Lib.run_append_room_string (P := P) w t u ty e i ht hu hi hsize g n cap cur hg s hroom (by omega)
      obtain rfl := inj (h2.symm.trans hr)
      exact .inl rfl
    · have holds : ∀ j u, xs[j]? = some u → w.cell? ((⟨g, 0, none⟩ : Addr).add j) = some u := hown.cells (g := g) rfl
      have h2 := Lib.run_append_grow_string (P := P) w t u ty e i (.int .u8 0) ht hu hi hz ⟨g, 0, none⟩ n cap xs (by rw [hsize]; simpa using hxl) holds s (by omega) (by omega) (by rw [hby]; exact growslice_fits (by omega) (by omega))
      obtain rfl := inj (h2.symm.trans hr)
      exact .inr ⟨_, rfl, Nat.le_refl _⟩
section
variable {P : Program} {ops : Array Oper} {rest : List Oper} {o : Oper} {a : Act} {Q : Exit → Act → World → Prop}
theorem my_append_str {w0 W : World} (base : Nat) (hgd : o.guard = none) (s x : Operand) (t u e : TypeId)
    (ho : o.op = .call { callee := .builtin .append, args := #[s, x], argTypes := #[t, u] })
    (ht : P.underlying t = some (.slice e)) (hu : P.underlying u = some .string) (hinfo : (P.info? e).map (fun i => (i.zero, i.size, i.bytes)) = some (some (.int .u8 0), 1, 1))
    (v : Value) (xs : List Int) (y : ByteArray) (hs : a.eval s = v) (hx : a.eval x = .string y)
    (HO : W.ownsRow base e 1 v xs.length (nums .u8 xs)) (HB : Below base w0 W) (hbase : base ≤ W.heap.size) (hl : xs.length + y.size ≤ 140737488355328)
    (h : ∀ v1 w1, w1.ownsRow base e 1 v1 (xs ++ bytesOf y).length (nums .u8 (xs ++ bytesOf y)) → Below base w0 w1 → W.grownBy w1 v.ownBlock → (v1.ownBlock = v.ownBlock ∨ ∃ b, v1.ownBlock = some b ∧ W.heap.size ≤ b) → wpList P ops Q rest (a.put o.dst v1) w1) :
    wpList P ops Q (o :: rest) a W := by
  obtain ⟨i0, hi, hzz⟩ := Option.map_eq_some_iff.1 hinfo
  simp only [Prod.mk.injEq] at hzz
  obtain ⟨hz0, hz1, hz2⟩ := hzz
  refine wpList_plain hgd fun K hK => ?_
  obtain ⟨v1, w1, hr, hown, hg, _⟩ := Lib.run_append_own_string (P := P) W base t u o.type e i0 ht hu hi hz0 hz1 hz2 v xs.length (nums .u8 xs) HO y (by simp only [maxLen]; omega) hl hbase
  have hat := append_str_at W base t u o.type e i0 ht hu hi hz0 hz1 hz2 v xs.length (nums .u8 xs) HO y hl hr
  have hl2 : (xs ++ bytesOf y).length = xs.length + y.size := by rw [List.length_append, bytesOf_length]
  have hc : nums .u8 (xs ++ bytesOf y) = nums .u8 xs ++ Lib.strCells y := by
    rw [nums_append]
    congr 1
    simp [nums, bytesOf, Lib.strCells]
  unfold Oper.wp execOp
  simp only [ho, resolve, invoke, builtin, Sem.run_bind, Sem.run_pure, Result.andThen_ok, List.map_toArray, List.map_cons, List.map_nil, hs, hx, hr]
  exact hK _ _ (h v1 w1 (by rw [hl2, hc]; exact hown) (HB.grown hg hbase (own_base HO)) hg hat)
end
theorem Raw_m (g : Nat) (v : Value) (xs : List Int) (s : ByteArray) (w0 w : World) (HB0 : Below w0.heap.size w0 w) (h : WS w w0.heap.size g v xs) (hl : xs.length + s.size ≤ 140737488355328) :
    Calls Try.prog 65 #[.pointer (some ⟨g, 0, none⟩), .string s] w fun e w' => e = .returned (.tuple #[]) ∧ ∃ v', WS w' w0.heap.size g v' (xs ++ bytesOf s) ∧ Below w0.heap.size w0 w' ∧ Moved w w' g v v' := by
  obtain ⟨hg0, hblk, hR⟩ := h
  have HB := Aside0.mk HB0
  have HO := Aside0.mk hR
  have BK := Aside0.mk hblk
  have hc0 : w.cell? ⟨g, 0, none⟩ = some v := (blk_cell hblk 0).trans rfl
  obtain ⟨A, c, ev⟩ := Kd.R_slice hR
  subst ev
  clear hblk hR HB0
  go_enter Try.func65, Try.ntmps65
  go_wp2_with (first | ((with_reducible refine gate_builtin (b := .append) (xs := #[.tmp 10, .tmp 11]) rfl ?_); (try (refine gate_guard (by rfl) ?_; dsimp only)); at_builtin; refine my_append_str (w0 := w0) w0.heap.size rfl (.tmp 10) (.tmp 11) 54 9 5 rfl Try.underlying54 Try.underlying9 infoU8 (.slice A xs.length c) xs s rfl rfl (Kd.own_of_R HO.out) HB.out (below_size HB.out) hl ?_; intro v1 w1 hown hb hg hat; have ho : Kd.R (Kd.int .u8) 5 w1 w0.heap.size (fun _ => True) v1 (xs ++ bytesOf s) := Kd.R_of_own hown (fun _ _ => trivial); obtain ⟨A1, c1, e1⟩ := Kd.R_slice ho; subst e1; have BK1 := blk_grown BK.out hg (Kd.R_ne HO.out BK.out (by decide)); have hc1 : w1.cell? ⟨g, 0, none⟩ = some (.slice A xs.length c) := (blk_cell BK1 0).trans rfl; have hf1 := blk_frozen BK1 0))
  go_end0
  rw [show xs.length + (bytesOf s).length = (xs ++ bytesOf s).length from by rw [List.length_append]]
  exact ⟨rfl, _, WS_step hg0 BK1 ho, below_set hb hg0, Moved_step hg hat⟩
theorem Moved_alloc_step {w w1 : World} {g : Nat} {v u : Value} (o : Obj) (hg : (w.alloc o).grownBy w1 v.ownBlock) (hat : u.ownBlock = v.ownBlock ∨ ∃ b, u.ownBlock = some b ∧ (w.alloc o).heap.size ≤ b) : Moved w (w1.setCell ⟨g, 0, none⟩ u) g v u := by
  have hs : (w.alloc o).heap.size = w.heap.size + 1 := by show (w.heap.push o).size = _; simp
  have h := Moved_step (g := g) hg hat
  refine ⟨by have := h.1; omega, fun k hk hkg hkv => ?_, h.2.2.imp_right (fun ⟨b, e, hb⟩ => ⟨b, e, by omega⟩)⟩
  rw [h.2.1 k (by omega) hkg hkv]
  show (w.heap.push o)[k]? = _
  rw [Array.getElem?_push_lt hk, Array.getElem?_eq_getElem hk]
theorem Small_m (g : Nat) (v : Value) (xs : List Int) (x : Int) (w0 w : World) (HB0 : Below w0.heap.size w0 w) (h : WS w w0.heap.size g v xs) (hl : xs.length + 2 ≤ 140737488355328) :
    Calls Try.prog 60 #[.pointer (some ⟨g, 0, none⟩), .int .i16 x] w fun e w' => e = .returned (.tuple #[]) ∧ ∃ v', WS w' w0.heap.size g v' (xs ++ [(IntKind.u16.wrap x / 256 % 256), (x % 256)]) ∧ Below w0.heap.size w0 w' ∧ Moved w w' g v v' := by
  obtain ⟨hg0, hblk, hR⟩ := h
  have HB := Aside0.mk HB0
  have HO := Aside0.mk hR
  have BK := Aside0.mk hblk
  have hc0 : w.cell? ⟨g, 0, none⟩ = some v := (blk_cell hblk 0).trans rfl
  obtain ⟨A, c, ev⟩ := Kd.R_slice hR
  subst ev
  clear hblk hR HB0
  go_enter Try.func60, Try.ntmps60
  go_wp2_with (first | ((with_reducible refine gate_builtin (b := .append) (xs := #[.tmp 10, .tmp 17]) rfl ?_); (try (refine gate_guard (by rfl) ?_; dsimp only)); at_builtin; refine Kd.R_append_rows (Kd.int .u8) (w0 := w0) w0.heap.size rfl (.tmp 10) (.tmp 17) 54 5 (.int .u8 0) 1 rfl Try.underlying54 infoU8 rfl (by decide) (by omega) (.slice A xs.length c) xs [(IntKind.u16.wrap x / 256 % 256), (x % 256)] _ _ _ (fun _ => True) (fun _ => False) rfl rfl ?aO ?aR (fun _ _ h => h) (fun _ h => h.elim) ?aF ?aB ?aS ?aL ?_; (case aR => exact C_two w _ _); (case aB => exact HB.out.alloc (below_size HB.out) _); (case aF => exact (fun _ _ => trivial)); (case aO => exact Kd.R_alloc HO.out _); (case aS => exact below_size (HB.out.alloc (below_size HB.out) _)); (case aL => simp; omega); intro v1 w1 ho hb hg hat; obtain ⟨A1, c1, e1⟩ := Kd.R_slice ho; subst e1; have BK1 := blk_grown (blk_alloc BK.out _) hg (Kd.R_ne HO.out BK.out (by decide)); have hc1 : w1.cell? ⟨g, 0, none⟩ = some (.slice A xs.length c) := (blk_cell BK1 0).trans rfl; have hf1 := blk_frozen BK1 0))
  go_end0
  rw [show xs.length + 2 = (xs ++ [(IntKind.u16.wrap x / 256 % 256), (x % 256)]).length from by simp]
  exact ⟨rfl, _, WS_step hg0 BK1 ho, below_set hb hg0, Moved_alloc_step _ hg hat⟩
theorem Text_m (g : Nat) (v : Value) (xs : List Int) (s : ByteArray) (w0 w : World) (HB0 : Below w0.heap.size w0 w) (h : WS w w0.heap.size g v xs) (hl : xs.length + s.size + 20 ≤ 140737488355328) :
    Calls Try.prog 64 #[.pointer (some ⟨g, 0, none⟩), .string s] w fun e w' => e = .returned (.tuple #[]) ∧ ∃ v', WS w' w0.heap.size g v' (xs ++ uv 10 s.size ++ bytesOf s) ∧ Below w0.heap.size w0 w' ∧ Moved w w' g v v' := by
  have hlen := uv_len 10 s.size
  have hw : IntKind.u64.wrap (s.size : Int) = s.size := by rw [IntKind.wrap_u64]; omega
  go_enter Try.func64, Try.ntmps64
  go_wp2_with fail
  refine (Uint_calls g v xs s.size w0 w HB0 h (by omega) (by omega)).mono ?_
  rintro e w1 ⟨rfl, v1, h1, hb1, hm1⟩
  go_wp2_with fail
  refine (Raw_m g v1 _ s w0 w1 hb1 h1 (by rw [List.length_append]; omega)).mono ?_
  rintro e w2 ⟨rfl, v2, h2, hb2, hm2⟩
  go_wp2_with fail
  go_end0
  exact ⟨rfl, v2, h2, hb2, hm1.trans hm2⟩
/-- The number without a sign that stands for one with a sign. -/
def zig (v : Int) : Nat := if 0 ≤ v then (2 * v).toNat else (-2 * v - 1).toNat
theorem zig_lt (v : Int) (h0 : -9223372036854775808 ≤ v) (h1 : v ≤ 9223372036854775807) : zig v < 18446744073709551616 := by
  unfold zig; split <;> omega
theorem xor_all (n : Nat) (h : n ≤ 18446744073709551615) : (18446744073709551615 - n) ^^^ 18446744073709551615 = n := by
  have e : (18446744073709551615 : Nat) = 2 ^ 64 - 1 := by decide
  apply Nat.eq_of_testBit_eq
  intro i
  rw [Nat.testBit_xor, e, Nat.testBit_two_pow_sub_one, show 2 ^ 64 - 1 - n = 2 ^ 64 - (n + 1) by omega, Nat.testBit_two_pow_sub_succ (by omega)]
  by_cases hi : i < 64
  · simp [hi]
  · have : n < 2 ^ i := Nat.lt_of_le_of_lt h (Nat.lt_of_lt_of_le (by decide : 18446744073709551615 < 2 ^ 64) (Nat.pow_le_pow_right (by omega) (by omega)))
    simp [hi, Nat.testBit_lt_two_pow this]
theorem Int_m (g : Nat) (v : Value) (xs : List Int) (x : Int) (w0 w : World) (HB0 : Below w0.heap.size w0 w) (h : WS w w0.heap.size g v xs) (hl : xs.length + 20 ≤ 140737488355328) (h0 : -9223372036854775808 ≤ x) (h1 : x ≤ 9223372036854775807) :
    Calls Try.prog 62 #[.pointer (some ⟨g, 0, none⟩), .int .i64 x] w fun e w' => e = .returned (.tuple #[]) ∧ ∃ v', WS w' w0.heap.size g v' (xs ++ uv 10 (zig x)) ∧ Below w0.heap.size w0 w' ∧ Moved w w' g v v' := by
  have hz := zig_lt x h0 h1
  go_enter Try.func62, Try.ntmps62
  go_wp2_with fail
  have e : bits BinOp.xor IntKind.u64 (IntKind.u64.wrap (IntKind.u64.wrap x * 2)) (IntKind.u64.wrap (x / 9223372036854775808)) = (zig x : Int) := by
    simp only [IntKind.wrap_u64]
    unfold zig
    by_cases hx : 0 ≤ x
    · rw [if_pos hx]
      obtain ⟨n, rfl⟩ := Int.eq_ofNat_of_zero_le hx
      rw [show ((n : Int) / 9223372036854775808 % 18446744073709551616) = ((0 : Nat) : Int) by omega, show ((n : Int) % 18446744073709551616 * 2 % 18446744073709551616) = ((2 * n : Nat) : Int) by omega, u64_xor_nat _ _ (by omega) (by omega), Nat.xor_zero]
      omega
    · rw [if_neg hx]
      obtain ⟨n, hn⟩ := Int.eq_ofNat_of_zero_le (show 0 ≤ -x - 1 by omega)
      rw [show (x / 9223372036854775808 % 18446744073709551616) = ((18446744073709551615 : Nat) : Int) by omega, show (x % 18446744073709551616 * 2 % 18446744073709551616) = ((18446744073709551615 - (2 * n + 1) : Nat) : Int) by omega, u64_xor_nat _ _ (by omega) (by omega), xor_all (2 * n + 1) (by omega)]
      omega
  rw [e]
  refine (Uint_calls g v xs (zig x) w0 w HB0 h hl hz).mono ?_
  rintro e_ w1 ⟨rfl, v1, h1, hb1, hm1⟩
  go_wp2_with fail
  go_end0
  exact ⟨rfl, v1, h1, hb1, hm1⟩
/-- No number, of a float's bits. -/
def nanB (b : Nat) : Bool := FloatKind.f64.format.order b b != some .eq
/-- The bits as they are written. -/
def fbits (b : Nat) : Nat := if nanB b = true then 9221120237041090560 else b
theorem fneq_run (b : Nat) (W : World) : (binOp .neq 67 (.float .f64 b) (.float .f64 b)).run Try.prog W = .ok (.bool (nanB b)) W := by rfl
theorem isNaN_calls (b : Nat) (w : World) : Calls Try.prog 78 #[.float .f64 b] w fun e w' => e = .returned (.bool (nanB b)) ∧ w = w' := by
  have h := fneq_run b
  go_enter Try.func78, Try.ntmps78
  go_wp2_with fail
  go_ret
  exact ⟨rfl, rfl⟩
theorem bits_run (b : Nat) (W : World) : (callFunc 77 #[.float .f64 b]).run Try.prog W = .ok (.value (.int .u64 b)) W := by
  rw [run_callFunc_extern Try.func77 (by kernel_rfl) (by kernel_rfl) (by kernel_rfl) (e := Extern.MathFloatBits.float64bits) (by kernel_rfl)]; rfl
theorem frombits_run (b : Nat) (W : World) : (callFunc 57 #[.int .u64 (b : Int)]).run Try.prog W = .ok (.value (.float .f64 b)) W := by
  rw [run_callFunc_extern Try.func57 (by kernel_rfl) (by kernel_rfl) (by kernel_rfl) (e := Extern.MathFloatBits.float64frombits) (by kernel_rfl)]; rfl
theorem Float_m (g : Nat) (v : Value) (xs : List Int) (b : Nat) (w0 w : World) (HB0 : Below w0.heap.size w0 w) (h : WS w w0.heap.size g v xs) (hl : xs.length + 20 ≤ 140737488355328) (hb : b < 18446744073709551616) :
    Calls Try.prog 63 #[.pointer (some ⟨g, 0, none⟩), .float .f64 b] w fun e w' => e = .returned (.tuple #[]) ∧ ∃ v', WS w' w0.heap.size g v' (xs ++ be 8 (fbits b)) ∧ Below w0.heap.size w0 w' ∧ Moved w w' g v v' := by
  have h2 := bits_run b
  unfold fbits
  cases hn : nanB b with
  | true =>
    rw [if_pos rfl]
    have HN := isNaN_calls b
    rw [hn] at HN
    have HC := Aside0.mk HN
    clear hn HN
    go_enter Try.func63, Try.ntmps63
    go_wp2_with fail
    refine (HC.out _).mono ?_
    rintro e w1 ⟨rfl, rfl⟩
    go_wp2_with fail
    refine (Fixed_calls g v xs 8 9221120237041090560 w0 w HB0 h (by omega) (by omega) (by omega) (by decide)).mono ?_
    rintro e w1 ⟨rfl, v1, h1, hb1, hm1⟩
    go_wp2_with fail
    go_end0
    exact ⟨rfl, v1, h1, hb1, hm1⟩
  | false =>
    rw [if_neg (by decide)]
    have HN := isNaN_calls b
    rw [hn] at HN
    have HC := Aside0.mk HN
    clear hn HN
    go_enter Try.func63, Try.ntmps63
    go_wp2_with fail
    refine (HC.out _).mono ?_
    rintro e w1 ⟨rfl, rfl⟩
    go_wp2_with fail
    refine (Fixed_calls g v xs 8 b w0 w HB0 h (by omega) (by omega) (by omega) (by simpa using hb)).mono ?_
    rintro e w1 ⟨rfl, v1, h1, hb1, hm1⟩
    go_wp2_with fail
    go_end0
    exact ⟨rfl, v1, h1, hb1, hm1⟩
end Go.Proofs.Ytikfdfagnalmbaa.My
