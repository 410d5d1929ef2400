/- A Writer: Byte, Told, Uint. -/
import Derived.Test.YtgcmmiihjiiemaaWWords
import Derived.Test.YtgcmmiihjiiemaaProg
import Derived.Test.YtgcmmiihjiiemaaWLast
import Derived.Test.YtgcmmiihjiiemaaWMore
namespace Go.Proofs.Ytgcmmiihjiiemaa.My
def be (n v : Nat) : List Int := (List.range n).map fun i => ((v / 256 ^ (n - 1 - i) % 256 : Nat) : Int)
theorem be_len (n v : Nat) : (be n v).length = n := by simp [be]
theorem be_succ (n v : Nat) : be (n + 1) v = be n (v / 256) ++ [((v % 256 : Nat) : Int)] := by
  unfold be
  rw [List.range_succ, List.map_append]
  congr 1
  · apply List.map_congr_left
    intro i hi
    rw [List.mem_range] at hi
    have : n + 1 - 1 - i = (n - 1 - i) + 1 := by omega
    rw [this, Nat.pow_succ, Nat.mul_comm, ← Nat.div_div_eq_div_mul]
  · simp
theorem be_zero (v : Nat) : be 0 v = [] := rfl
end Go.Proofs.Ytgcmmiihjiiemaa.My
namespace Go.Proofs.Ytgcmmiihjiiemaa.My
open Go.RowKit Go.Proofs.YtgcmmiihjiiemaaW.PrintWords Go.Proofs.YtgcmmiihjiiemaaW.PrintLast Go.Proofs.YtgcmmiihjiiemaaW.PrintMore Go.Proofs.Ytgcmmiihjiiemaa
set_option linter.unusedSimpArgs false
set_option linter.unusedVariables false
theorem infoU8 : (Try.prog.info? 5).map (fun i => (i.zero, i.size, i.bytes)) = some (some (.int .u8 0), 1, 1) := by kernel_rfl
/-- The Writer at block g holds the slice v; v's row are xs, and is the call's own. -/
def WS (w : World) (base g : Nat) (v : Value) (xs : List Int) : Prop := base ≤ g ∧ w.heap[g]? = some (.cells #[v] 76 (0, 0)) ∧ Kd.R (Kd.int .u8) 5 w base (fun _ => True) v xs
/-- What else lies there stays. -/
def Moved (w w' : World) (g : Nat) (v v' : Value) : Prop := w.heap.size ≤ w'.heap.size ∧ (∀ k, k < w.heap.size → k ≠ g → some k ≠ v.ownBlock → w'.heap[k]? = w.heap[k]?) ∧ (v'.ownBlock = v.ownBlock ∨ ∃ b, v'.ownBlock = some b ∧ w.heap.size ≤ b)
theorem Moved.refl (w : World) (g : Nat) (v : Value) : Moved w w g v v := ⟨Nat.le_refl _, fun _ _ _ _ => rfl, .inl rfl⟩
theorem Moved.trans {a b c : World} {g : Nat} {u v x : Value} (h : Moved a b g u v) (k : Moved b c g v x) : Moved a c g u x := by
  refine ⟨Nat.le_trans h.1 k.1, fun i hi hg hv => ?_, ?_⟩
  · rw [k.2.1 i (Nat.lt_of_lt_of_le hi h.1) hg ?_, h.2.1 i hi hg hv]
    rcases h.2.2 with e | ⟨b', e, hb⟩
    · rw [e]; exact hv
    · rw [e]; intro hh; injection hh with hh; omega
  · rcases k.2.2 with e | ⟨b', e, hb⟩
    · rw [e]; exact h.2.2
    · exact .inr ⟨b', e, Nat.le_trans h.1 hb⟩
set_option maxRecDepth 100000 in
set_option maxHeartbeats 4000000 in
theorem Byte_calls (g : Nat) (v : Value) (xs : List Int) (n : Int) (w0 w : World) (HB0 : Below w0.heap.size w0 w) (h : WS w w0.heap.size g v xs) (hl : xs.length + 1 ≤ 140737488355328) :
    Calls Try.prog 25 #[.pointer (some ⟨g, 0, none⟩), .int .u8 n] w fun e w' => e = .returned (.tuple #[]) ∧ ∃ v', WS w' w0.heap.size g v' (xs ++ [n]) ∧ Below w0.heap.size w0 w' ∧ Moved w w' g v v' := by
  obtain ⟨hg0, hblk, hR⟩ := h
  have HB := Aside0.mk HB0
  have HO := Aside0.mk hR
  have BK := Aside0.mk hblk
  have hc0 : w.cell? ⟨g, 0, none⟩ = some v := (blk_cell hblk 0).trans rfl
  obtain ⟨A, c, ev⟩ := Kd.R_slice hR
  subst ev
  clear hblk hR HB0
  go_enter Try.func25, Try.ntmps25
  go_wp2_with (first | ((with_reducible refine gate_builtin (b := .append) (xs := #[.tmp 10, .tmp 12]) rfl ?_); (try (refine gate_guard (by rfl) ?_; dsimp only)); at_builtin; refine Kd.R_append (Kd.int .u8) (w0 := w0) w0.heap.size rfl (.tmp 10) (.tmp 12) 74 5 (.int .u8 0) 1 rfl Try.underlying74 infoU8 rfl (by decide) (by omega) (.slice A xs.length c) xs n [.int .u8 n] (fun _ => True) (fun _ => False) rfl rfl ?aP (fun _ hk => hk.elim) ?aF ?aO ?aB ?aS ?aL ?_; (case aP => exact rfl); (case aB => exact HB.out); (case aF => exact (fun _ _ => trivial)); (case aO => exact HO.out); (case aS => exact (below_size HB.out)); (case aL => omega); intro v1 w1 ho hb hg hat; obtain ⟨A1, c1, e1⟩ := Kd.R_slice ho; subst e1; have BK1 := blk_grown BK.out hg (Kd.R_ne HO.out BK.out (by decide)); have hc1 : w1.cell? ⟨g, 0, none⟩ = some (.slice A xs.length c) := (blk_cell BK1 0).trans rfl; have hf1 := blk_frozen BK1 0))
  go_end0
  rw [show xs.length + 1 = (xs ++ [n]).length from by simp]
  refine ⟨rfl, .slice A1 (xs ++ [n]).length c1, ⟨hg0, blk_set BK1 0 _, Kd.R_mono (Kd.R_far (p := ⟨g, 0, none⟩) (Kd.R_types ho BK1 (by decide)) (fun _ hk => hk.2) _) (fun _ _ => trivial)⟩, below_set hb hg0, ?_⟩
  refine ⟨?_, fun k hk hkg hkv => ?_, hat⟩
  · have : (w1.setCell ⟨g, 0, none⟩ (.slice A1 (xs ++ [n]).length c1)).heap.size = w1.heap.size := by simp [World.setCell]
    rw [this]; exact hg.size
  · rw [Below.heap_setCell _ _ _ _ hkg]; exact hg.block k hk hkv
end Go.Proofs.Ytgcmmiihjiiemaa.My
namespace Go.Proofs.Ytgcmmiihjiiemaa.My
open Go.RowKit Go.Proofs.YtgcmmiihjiiemaaW.PrintWords Go.Proofs.YtgcmmiihjiiemaaW.PrintLast Go.Proofs.YtgcmmiihjiiemaaW.PrintMore Go.Proofs.Ytgcmmiihjiiemaa
set_option linter.unusedSimpArgs false
set_option linter.unusedVariables false
set_option maxRecDepth 100000
set_option maxHeartbeats 4000000
theorem byte_at (x m : Nat) : (IntKind.u8.wrap ((x : Int) / 2 ^ (8 * (m : Int)).toNat)) = ((x / 256 ^ m % 256 : Nat) : Int) := by
  have e0 : (8 * (m : Int)).toNat = 8 * m := by omega
  have e1 : (2 : Nat) ^ (8 * m) = 256 ^ m := by rw [Nat.pow_mul]
  have e2 : (x : Int) / 2 ^ (8 * m) = ((x / 2 ^ (8 * m) : Nat) : Int) := by push_cast; rfl
  rw [e0, e2, e1]
  simp only [IntKind.wrap, IntKind.bits, IntKind.signed]
  simp
theorem WS_step {w1 : World} {base g : Nat} {u : Value} {A : Option Addr} {c : Nat} {ys : List Int} (hg0 : base ≤ g) (BK1 : w1.heap[g]? = some (.cells #[u] 76 (0, 0))) (ho : Kd.R (Kd.int .u8) 5 w1 base (fun _ => True) (.slice A ys.length c) ys) :
    WS (w1.setCell ⟨g, 0, none⟩ (.slice A ys.length c)) base g (.slice A ys.length c) ys :=
  ⟨hg0, blk_set BK1 0 _, Kd.R_mono (Kd.R_far (p := ⟨g, 0, none⟩) (Kd.R_types ho BK1 (by decide)) (fun _ hk => hk.2) _) (fun _ _ => trivial)⟩
theorem Moved_step {w w1 : World} {g : Nat} {v u : Value} (hg : w.grownBy w1 v.ownBlock) (hat : u.ownBlock = v.ownBlock ∨ ∃ b, u.ownBlock = some b ∧ w.heap.size ≤ b) : Moved w (w1.setCell ⟨g, 0, none⟩ u) g v u := by
  refine ⟨?_, fun k hk hkg hkv => ?_, hat⟩
  · have : (w1.setCell ⟨g, 0, none⟩ u).heap.size = w1.heap.size := by simp [World.setCell]
    rw [this]; exact hg.size
  · rw [Below.heap_setCell _ _ _ _ hkg]; exact hg.block k hk hkv
theorem Moved.drew {a b : World} {g : Nat} {u v : Value} (h : Moved a b g u v) : Moved a b.drew g u v := h
theorem newWriterW (w : World) : Calls Try.prog 21 #[] w fun e w' => e = .returned (.pointer (some ⟨w.heap.size, 0, none⟩)) ∧ w' = w.alloc (.cells #[.slice none 0 0] 76 (0, 0)) := by
  go_enter Try.func21, Try.ntmps21
  go_wp2_with fail
  go_ret
  exact ⟨rfl, rfl⟩
theorem WS_new (w : World) (base : Nat) (h : base ≤ w.heap.size) : WS (w.alloc (.cells #[.slice none 0 0] 76 (0, 0))) base w.heap.size (.slice none 0 0) [] :=
  ⟨h, by show (w.heap.push _)[w.heap.size]? = _; rw [Array.getElem?_push_size], Kd.R_nil _ _ _ _ _⟩
theorem Told_calls (g : Nat) (v : Value) (xs : List Int) (base : Nat) (w : World) (h : WS w base g v xs) :
    Calls Try.prog 26 #[.pointer (some ⟨g, 0, none⟩)] w fun e w' => e = .returned (.string (strOfNums xs)) ∧ w = w' := by
  obtain ⟨_, hblk, hR⟩ := h
  have hc0 : w.cell? ⟨g, 0, none⟩ = some v := (blk_cell hblk 0).trans rfl
  have hcv := own_string (P := Try.prog) Try.underlying74 Try.underlying5 Try.underlying9 (Kd.own_of_R hR)
  obtain ⟨A, c, ev⟩ := Kd.R_slice hR
  subst ev
  clear hblk hR
  go_enter Try.func26, Try.ntmps26
  go_wp2_with fail
  go_ret
  exact ⟨rfl, rfl⟩
end Go.Proofs.Ytgcmmiihjiiemaa.My
namespace Go.Proofs.Ytgcmmiihjiiemaa.My
open Go.RowKit Go.Proofs.YtgcmmiihjiiemaaW.PrintWords Go.Proofs.YtgcmmiihjiiemaaW.PrintLast Go.Proofs.YtgcmmiihjiiemaaW.PrintMore Go.Proofs.Ytgcmmiihjiiemaa
set_option linter.unusedSimpArgs false
set_option linter.unusedVariables false
set_option maxRecDepth 100000
set_option maxHeartbeats 4000000
/-- A number to the base 128. -/
def uv : Nat → Nat → List Int
  | 0, v => [(v : Int)]
  | k + 1, v => if v < 128 then [(v : Int)] else ((v % 128 + 128 : Nat) : Int) :: uv k (v / 128)
theorem or128 : ∀ b : Nat, b < 256 → b ||| 128 = b % 128 + 128 := by decide
theorem Uint_calls (g : Nat) (v : Value) (xs : List Int) (x : Nat) (w0 w : World) (HB0 : Below w0.heap.size w0 w) (h : WS w w0.heap.size g v xs) (hl : xs.length + 20 ≤ 140737488355328) (hx : x < 18446744073709551616) :
    Calls Try.prog 54 #[.pointer (some ⟨g, 0, none⟩), .int .u64 x] w fun e w' => e = .returned (.tuple #[]) ∧ ∃ v', WS w' w0.heap.size g v' (xs ++ uv 10 x) ∧ Below w0.heap.size w0 w' ∧ Moved w w' g v v' := by
  have HS := Aside0.mk h
  have HB := Aside0.mk HB0
  clear h HB0
  go_enter Try.func54, Try.ntmps54
  go_wp2_with fail
  go_loopw [1] (fun i wr => ∃ (k y : Nat) (u : Value) (ys : List Int), k ≤ 10 ∧ y < 128 ^ k ∧ i = .int .u64 (y : Int) ∧ ys.length + k ≤ xs.length + 10 ∧ Aside0 (xs ++ uv 10 x = ys ++ uv k y) ∧ Aside0 (WS wr w0.heap.size g u ys) ∧ Aside0 (Below w0.heap.size w0 wr) ∧ Aside0 (Moved w wr g v u)) (fun i _ => (intOf i).toNat)
  case atStart => exact ⟨10, x, v, xs, by omega, by omega, rfl, by omega, ⟨rfl⟩, HS, HB, ⟨Moved.refl _ _ _⟩⟩
  case round =>
    clear HS HB
    obtain ⟨k, y, u, ys, hk, hy, rfl, hyl, HE, HW, HB, HM⟩ := hrel
    have hy64 : y < 128 ^ 10 := Nat.lt_of_lt_of_le hy (Nat.pow_le_pow_right (by omega) hk)
    obtain ⟨hg0, hblk, hR⟩ := HW.out
    have HO := Aside0.mk hR
    have BK := Aside0.mk hblk
    have hc0 : wr.cell? ⟨g, 0, none⟩ = some u := (blk_cell hblk 0).trans rfl
    obtain ⟨A, c, ev⟩ := Kd.R_slice hR
    subst ev
    clear hblk hR HW
    have hyl2 : ys.length + 1 ≤ 140737488355328 := by omega
    by_cases hlt : 128 ≤ y
    · obtain ⟨k', rfl⟩ : ∃ k', k = k' + 1 := by
        cases k with
        | zero => simp at hy; omega
        | succ k' => exact ⟨k', rfl⟩
      have hy' : y / 128 < 128 ^ k' := by rw [Nat.pow_succ] at hy; omega
      have HE2 : Aside0 (uv (k' + 1) y = ((y % 128 + 128 : Nat) : Int) :: uv k' (y / 128)) := ⟨by rw [uv, if_neg (by omega)]⟩
      clear hy
      have hbyte : Aside0 (Go.bits .or .u8 ((y : Int) % 256) 128 = ((y % 128 + 128 : Nat) : Int)) := ⟨by
        have h1 := u8_or_nat (y % 256) 128 (by omega) (by omega)
        rw [or128 _ (by omega)] at h1
        rw [show ((y : Int) % 256) = ((y % 256 : Nat) : Int) from by omega]
        rw [show y % 128 + 128 = y % 256 % 128 + 128 from by omega]
        exact h1⟩
      go_wp2_with (first | ((with_reducible refine gate_builtin (b := .append) (xs := #[.tmp 12, .tmp 16]) rfl ?_); (try (refine gate_guard (by rfl) ?_; dsimp only)); at_builtin; refine Kd.R_append (Kd.int .u8) (w0 := w0) w0.heap.size rfl (.tmp 12) (.tmp 16) 74 5 (.int .u8 0) 1 rfl Try.underlying74 infoU8 rfl (by decide) (by omega) (.slice A ys.length c) ys (Go.bits .or .u8 ((y : Int) % 256) 128) [.int .u8 (Go.bits .or .u8 ((y : Int) % 256) 128)] (fun _ => True) (fun _ => False) rfl rfl ?aP (fun _ hk => hk.elim) ?aF ?aO ?aB ?aS ?aL ?_; (case aP => exact rfl); (case aB => exact HB.out); (case aF => exact (fun _ _ => trivial)); (case aO => exact HO.out); (case aS => exact (below_size HB.out)); (case aL => omega); intro v1 w1 ho hb hg hat; obtain ⟨A1, c1, e1⟩ := Kd.R_slice ho; subst e1; have BK1 := blk_grown BK.out hg (Kd.R_ne HO.out BK.out (by decide)); have hc1 : w1.cell? ⟨g, 0, none⟩ = some (.slice A ys.length c) := (blk_cell BK1 0).trans rfl; have hf1 := blk_frozen BK1 0))
      rw [hbyte.out] at ho hat
      rw [show ys.length + 1 = (ys ++ [((y % 128 + 128 : Nat) : Int)]).length from by simp]
      refine ⟨⟨k', y / 128, _, ys ++ [((y % 128 + 128 : Nat) : Int)], by omega, hy', rfl, by rw [List.length_append]; simp; omega, ⟨by rw [HE.out, HE2.out]; simp⟩, ⟨WS_step hg0 BK1 ho⟩, ⟨below_set hb hg0⟩, ⟨HM.out.trans (Moved_step hg hat)⟩⟩, ?_⟩
      simp [intOf]
      omega
    · have HE2 : Aside0 (uv k y = [(y : Int)]) := ⟨by cases k with
        | zero => rfl
        | succ k' => rw [uv, if_pos (by omega)]⟩
      clear hy
      go_wp2_with (first | ((with_reducible refine gate_builtin (b := .append) (xs := #[.tmp 26, .tmp 29]) rfl ?_); (try (refine gate_guard (by rfl) ?_; dsimp only)); at_builtin; refine Kd.R_append (Kd.int .u8) (w0 := w0) w0.heap.size rfl (.tmp 26) (.tmp 29) 74 5 (.int .u8 0) 1 rfl Try.underlying74 infoU8 rfl (by decide) (by omega) (.slice A ys.length c) ys (y : Int) [.int .u8 (y : Int)] (fun _ => True) (fun _ => False) rfl rfl ?aP (fun _ hk => hk.elim) ?aF ?aO ?aB ?aS ?aL ?_; (case aP => exact rfl); (case aB => exact HB.out); (case aF => exact (fun _ _ => trivial)); (case aO => exact HO.out); (case aS => exact (below_size HB.out)); (case aL => omega); intro v1 w1 ho hb hg hat; obtain ⟨A1, c1, e1⟩ := Kd.R_slice ho; subst e1; have BK1 := blk_grown BK.out hg (Kd.R_ne HO.out BK.out (by decide)); have hc1 : w1.cell? ⟨g, 0, none⟩ = some (.slice A ys.length c) := (blk_cell BK1 0).trans rfl; have hf1 := blk_frozen BK1 0))
      go_end0
      rw [show ys.length + 1 = (ys ++ [(y : Int)]).length from by simp]
      refine ⟨rfl, _, ?_, below_set hb hg0, HM.out.trans (Moved_step hg hat)⟩
      rw [HE.out, HE2.out]
      exact WS_step hg0 BK1 ho
end Go.Proofs.Ytgcmmiihjiiemaa.My
