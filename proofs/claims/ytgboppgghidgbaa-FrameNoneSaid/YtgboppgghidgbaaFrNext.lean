/- Splitter.Next where no frame's mark is among what waits, and where a frame stands behind bytes that are no mark. -/
import Derived.Test.YtgboppgghidgbaaFrSp
namespace Go.Proofs.Ytgboppgghidgbaa.My
open Go.RowKit Go.Proofs.YtgboppgghidgbaaW.PrintWords Go.Proofs.YtgboppgghidgbaaW.PrintLast Go.Proofs.YtgboppgghidgbaaW.PrintMore Go.Proofs.Ytgboppgghidgbaa
set_option linter.unusedSimpArgs false
set_option linter.unusedVariables false
set_option maxRecDepth 100000
set_option maxHeartbeats 3200000
/-- Of what stood, the block g alone has changed. -/
def Amid (w w' : World) (g : Nat) : Prop := Below 0 w w' ∧ ∀ k, k < w.heap.size → k ≠ g → w'.heap[k]? = w.heap[k]?
def zeroF : Value := .agg #[.int .u8 0, .int .u8 0, .int .u8 0, .int .u16 0, .int .u32 0, .int .u64 0, .int .u32 0, .bool false, .string ⟨#[]⟩]
theorem Amid.refl (w : World) (g : Nat) : Amid w w g := ⟨Below.refl _ _, fun _ _ _ => rfl⟩
theorem Amid.size {w W : World} {g : Nat} (h : Amid w W g) : w.heap.size ≤ W.heap.size := h.1.size
theorem Amid.below {w W W' : World} {g : Nat} (h : Amid w W g) (k : Below W.heap.size W W') : Amid w W' g :=
  ⟨h.1.trans (k.mono (Nat.zero_le _)), fun i hi hg => (k.block i (Nat.lt_of_lt_of_le hi h.1.size)).trans (h.2 i hi hg)⟩
theorem Amid.alone {w W W' : World} {g : Nat} (h : Amid w W g) (k : Alone W W' g) : Amid w W' g :=
  ⟨h.1.trans k.1, fun i hi hg => (k.2.2 i hg).trans (h.2 i hi hg)⟩
theorem Amid.set {w W : World} {g : Nat} (h : Amid w W g) (k j : Nat) (ha : w.heap.size ≤ k) (u : Value) : Amid w (W.setCell ⟨k, j, none⟩ u) g :=
  ⟨h.1.trans (Alone_set W 0 k j u).1, fun i hi hg => ((Alone_set W 0 k j u).2.2 i (by omega)).trans (h.2 i hi hg)⟩
theorem Amid.drewN {w W : World} {g : Nat} (h : Amid w W g) (m : Nat) : Amid w (W.drewN m) g :=
  ⟨h.1.trans ⟨rfl, rfl, rfl, Nat.le_refl _, fun _ _ => rfl⟩, h.2⟩
theorem SP.far {w : World} {g : Nat} {s : ByteArray} {p : Nat} (h : SP w g s p) {a : Addr} (ha : g ≠ a.block) (u : Value) : SP (w.setCell a u) g s p := blk_far h ha u
theorem zeroNew (w : World) : (w.alloc (.cells #[.int .u8 0, .int .u8 0, .int .u8 0, .int .u16 0, .int .u32 0, .int .u64 0, .int .u32 0, .bool false, .string ⟨#[]⟩] 28)).heap[w.heap.size]? = some (.cells #[.int .u8 0, .int .u8 0, .int .u8 0, .int .u16 0, .int .u32 0, .int .u64 0, .int .u32 0, .bool false, .string ⟨#[]⟩] 28 (0, 0)) := W_push w _ _ _
theorem spNext_nil (w : World) : Calls Try.prog 27 #[.pointer none] w fun r w' => r = .returned (.tuple #[zeroF, .int .i64 0, .bool false]) ∧ Below w.heap.size w w' := by
  go_enter Try.func27, Try.ntmps27
  go_wp2_with fail
  go_step3
  have hR := zeroNew w
  have hB := (Below.refl w.heap.size w).alloc (Nat.le_refl _) (.cells #[.int .u8 0, .int .u8 0, .int .u8 0, .int .u16 0, .int .u32 0, .int .u64 0, .int .u32 0, .bool false, .string ⟨#[]⟩] 28)
  generalize w.alloc (.cells #[.int .u8 0, .int .u8 0, .int .u8 0, .int .u16 0, .int .u32 0, .int .u64 0, .int .u32 0, .bool false, .string ⟨#[]⟩] 28) = W at *
  have qk0 : W.cell? ⟨w.heap.size, 0, none⟩ = some (.int .u8 0) := (blk_cell hR 0).trans rfl
  have qz0 : W.frozen? ⟨w.heap.size, 0, none⟩ = false := blk_frozen hR 0
  have qk1 : W.cell? ⟨w.heap.size, 1, none⟩ = some (.int .u8 0) := (blk_cell hR 1).trans rfl
  have qz1 : W.frozen? ⟨w.heap.size, 1, none⟩ = false := blk_frozen hR 1
  have qk2 : W.cell? ⟨w.heap.size, 2, none⟩ = some (.int .u8 0) := (blk_cell hR 2).trans rfl
  have qz2 : W.frozen? ⟨w.heap.size, 2, none⟩ = false := blk_frozen hR 2
  have qk3 : W.cell? ⟨w.heap.size, 3, none⟩ = some (.int .u16 0) := (blk_cell hR 3).trans rfl
  have qz3 : W.frozen? ⟨w.heap.size, 3, none⟩ = false := blk_frozen hR 3
  have qk4 : W.cell? ⟨w.heap.size, 4, none⟩ = some (.int .u32 0) := (blk_cell hR 4).trans rfl
  have qz4 : W.frozen? ⟨w.heap.size, 4, none⟩ = false := blk_frozen hR 4
  have qk5 : W.cell? ⟨w.heap.size, 5, none⟩ = some (.int .u64 0) := (blk_cell hR 5).trans rfl
  have qz5 : W.frozen? ⟨w.heap.size, 5, none⟩ = false := blk_frozen hR 5
  have qk6 : W.cell? ⟨w.heap.size, 6, none⟩ = some (.int .u32 0) := (blk_cell hR 6).trans rfl
  have qz6 : W.frozen? ⟨w.heap.size, 6, none⟩ = false := blk_frozen hR 6
  have qk7 : W.cell? ⟨w.heap.size, 7, none⟩ = some (.bool false) := (blk_cell hR 7).trans rfl
  have qz7 : W.frozen? ⟨w.heap.size, 7, none⟩ = false := blk_frozen hR 7
  have qk8 : W.cell? ⟨w.heap.size, 8, none⟩ = some (.string ⟨#[]⟩) := (blk_cell hR 8).trans rfl
  have qz8 : W.frozen? ⟨w.heap.size, 8, none⟩ = false := blk_frozen hR 8
  clear hR
  go_wp2_with fail
  rw [Exit.noGoto_ret]
  all_goals refine bodyPost_ret (v := .tuple #[zeroF, .int .i64 0, .bool false]) (by simp [results, zeroF, Try.results27, go_sem, qk0, qk1, qk2, qk3, qk4, qk5, qk6, qk7, qk8]) rfl ⟨rfl, ?_⟩
  all_goals repeat (first | (with_reducible exact hB) | refine below_set ?_ (Nat.le_refl _))
theorem spNext_none {w : World} {g : Nat} {s : ByteArray} {p : Nat} (h : SP w g s p) (hs : s.size ≤ 65536) (hp : p ≤ 140737488351232) (hj : ∀ i, i < s.size → s[i]! ≠ 157) : Calls Try.prog 27 #[.pointer (some ⟨g, 0, none⟩)] w fun r w' => r = .returned (.tuple #[zeroF, .int .i64 0, .bool false]) ∧ SP w' g ⟨#[]⟩ (p + s.size) ∧ Amid w w' g := by
  have HQ : Aside0 (∀ w : World, Calls Try.prog 51 #[.string s, .int .u8 157] w fun r w' => r = .returned (.int .i64 (-1)) ∧ w' = w) := ⟨fun w => (spIdx s 157 w).mono fun _ _ h => ⟨by rw [h.1, show ((157 : Int).toNat.toUInt8) = 157 from rfl, firstIdx_none s 157 hj], h.2.symm⟩⟩
  have hgl := h.lt
  clear hj
  go_enter Try.func27, Try.ntmps27
  go_wp2_with fail
  go_step3
  have hR := zeroNew w
  have hB := (Below.refl w.heap.size w).alloc (Nat.le_refl _) (.cells #[.int .u8 0, .int .u8 0, .int .u8 0, .int .u16 0, .int .u32 0, .int .u64 0, .int .u32 0, .bool false, .string ⟨#[]⟩] 28)
  have hA := (Amid.refl w g).below hB
  have hS : SP _ g s p := h.below hB
  generalize w.alloc (.cells #[.int .u8 0, .int .u8 0, .int .u8 0, .int .u16 0, .int .u32 0, .int .u64 0, .int .u32 0, .bool false, .string ⟨#[]⟩] 28) = W at *
  have HR := Aside0.mk hS
  have HA := Aside0.mk hA
  obtain ⟨h0, h1, f0, f1⟩ := hS.cells
  clear h hB hA hS
  go_wp2_with fail
  go_step3
  go_wp2_with fail
  go_quiet (first | (go_at_call 51; refine Calls.quiet_of_same (HQ.out _)))
  go_wp2_with fail
  have HR' : SP (W.drewN nq) g s p := HR.out
  have HA' := HA.out.drewN nq
  have hR' : (W.drewN nq).heap[w.heap.size]? = _ := hR
  clear h0 h1 f0 f1 HR HA hR
  generalize W.drewN nq = W at *
  refine (spPass HR' s.size (Nat.le_refl _) hs hp).mono ?_
  rintro e_ w1 ⟨rfl, hS1, hA1⟩
  have hR1 : w1.heap[w.heap.size]? = _ := (hA1.2.2 _ (by omega)).trans hR'
  have HA1 := Aside0.mk (HA'.alone hA1)
  have HR1 := Aside0.mk hS1
  clear hA1 hS1 HA' HR'
  have qk0 : w1.cell? ⟨w.heap.size, 0, none⟩ = some (.int .u8 0) := (blk_cell hR1 0).trans rfl
  have qz0 : w1.frozen? ⟨w.heap.size, 0, none⟩ = false := blk_frozen hR1 0
  have qk1 : w1.cell? ⟨w.heap.size, 1, none⟩ = some (.int .u8 0) := (blk_cell hR1 1).trans rfl
  have qz1 : w1.frozen? ⟨w.heap.size, 1, none⟩ = false := blk_frozen hR1 1
  have qk2 : w1.cell? ⟨w.heap.size, 2, none⟩ = some (.int .u8 0) := (blk_cell hR1 2).trans rfl
  have qz2 : w1.frozen? ⟨w.heap.size, 2, none⟩ = false := blk_frozen hR1 2
  have qk3 : w1.cell? ⟨w.heap.size, 3, none⟩ = some (.int .u16 0) := (blk_cell hR1 3).trans rfl
  have qz3 : w1.frozen? ⟨w.heap.size, 3, none⟩ = false := blk_frozen hR1 3
  have qk4 : w1.cell? ⟨w.heap.size, 4, none⟩ = some (.int .u32 0) := (blk_cell hR1 4).trans rfl
  have qz4 : w1.frozen? ⟨w.heap.size, 4, none⟩ = false := blk_frozen hR1 4
  have qk5 : w1.cell? ⟨w.heap.size, 5, none⟩ = some (.int .u64 0) := (blk_cell hR1 5).trans rfl
  have qz5 : w1.frozen? ⟨w.heap.size, 5, none⟩ = false := blk_frozen hR1 5
  have qk6 : w1.cell? ⟨w.heap.size, 6, none⟩ = some (.int .u32 0) := (blk_cell hR1 6).trans rfl
  have qz6 : w1.frozen? ⟨w.heap.size, 6, none⟩ = false := blk_frozen hR1 6
  have qk7 : w1.cell? ⟨w.heap.size, 7, none⟩ = some (.bool false) := (blk_cell hR1 7).trans rfl
  have qz7 : w1.frozen? ⟨w.heap.size, 7, none⟩ = false := blk_frozen hR1 7
  have qk8 : w1.cell? ⟨w.heap.size, 8, none⟩ = some (.string ⟨#[]⟩) := (blk_cell hR1 8).trans rfl
  have qz8 : w1.frozen? ⟨w.heap.size, 8, none⟩ = false := blk_frozen hR1 8
  clear hR' hR1
  go_wp2_with fail
  rw [Exit.noGoto_ret]
  refine bodyPost_ret (v := .tuple #[zeroF, .int .i64 0, .bool false]) (by simp [results, zeroF, Try.results27, go_sem, qk0, qk1, qk2, qk3, qk4, qk5, qk6, qk7, qk8]) rfl ⟨rfl, ?_, ?_⟩
  · rw [show (⟨#[]⟩ : ByteArray) = s.extract s.size s.size by simp [ByteArray.ext_iff]]
    repeat (first | (with_reducible exact HR1.out) | refine SP.far ?_ (Nat.ne_of_lt hgl) _)
  · repeat (first | (with_reducible exact HA1.out) | refine Amid.set ?_ _ _ (Nat.le_refl _) _)
end Go.Proofs.Ytgboppgghidgbaa.My
