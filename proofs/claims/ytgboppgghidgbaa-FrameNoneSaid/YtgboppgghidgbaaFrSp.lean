/- A Splitter in memory: New, Feed, Left, pass; strings.IndexByte. -/
import Derived.Test.YtgboppgghidgbaaFrTurnP
import Derived.Test.YtgboppgghidgbaaFrDecEnc
import Derived.Laws.Externs
namespace Go.Proofs.Ytgboppgghidgbaa.My
open Go.RowKit Go.Proofs.YtgboppgghidgbaaW.PrintWords Go.Proofs.YtgboppgghidgbaaW.PrintLast Go.Proofs.YtgboppgghidgbaaW.PrintMore Go.Proofs.Ytgboppgghidgbaa
set_option linter.unusedSimpArgs false
set_option linter.unusedVariables false
set_option maxRecDepth 100000
set_option maxHeartbeats 1600000
/-- The Splitter at block g: what waits, how many bytes were passed over. -/
def SP (w : World) (g : Nat) (s : ByteArray) (p : Nat) : Prop := w.heap[g]? = some (.cells #[.string s, .int .i64 p] 92 (0, 0))
theorem SP.cells {w : World} {g : Nat} {s : ByteArray} {p : Nat} (h : SP w g s p) : w.cell? ⟨g, 0, none⟩ = some (.string s) ∧ w.cell? ⟨g, 1, none⟩ = some (.int .i64 p) ∧ w.frozen? ⟨g, 0, none⟩ = false ∧ w.frozen? ⟨g, 1, none⟩ = false :=
  ⟨(blk_cell h 0).trans rfl, (blk_cell h 1).trans rfl, blk_frozen h 0, blk_frozen h 1⟩
theorem SP.lt {w : World} {g : Nat} {s : ByteArray} {p : Nat} (h : SP w g s p) : g < w.heap.size := blk_lt h
theorem SP.below {w w' : World} {g : Nat} {s : ByteArray} {p : Nat} (h : SP w g s p) (hb : Below w.heap.size w w') : SP w' g s p := (hb.block g h.lt).trans h
theorem spNew (w : World) : Calls Try.prog 17 #[] w fun e w' => e = .returned (.pointer (some ⟨w.heap.size, 0, none⟩)) ∧ SP w' w.heap.size ⟨#[]⟩ 0 ∧ Below w.heap.size w w' := by
  go_enter Try.func17, Try.ntmps17
  go_wp2_with fail
  go_ret
  exact ⟨rfl, W_push w _ _ _, (Below.refl _ _).alloc (Nat.le_refl _) _⟩
theorem spLeft {w : World} {g : Nat} {s : ByteArray} {p : Nat} (h : SP w g s p) : Calls Try.prog 25 #[.pointer (some ⟨g, 0, none⟩)] w fun r w' => r = .returned (.int .i64 s.size) ∧ w = w' := by
  obtain ⟨h0, h1, _, _⟩ := h.cells
  go_enter Try.func25, Try.ntmps25
  go_wp2_with fail
  go_ret
  exact ⟨rfl, rfl⟩
theorem spLeft_nil (w : World) : Calls Try.prog 25 #[.pointer none] w fun r w' => r = .returned (.int .i64 0) ∧ w = w' := by
  go_enter Try.func25, Try.ntmps25
  go_wp2_with fail
  go_ret
  exact ⟨rfl, rfl⟩
theorem spFeed_nil (b : ByteArray) (w : World) : Calls Try.prog 21 #[.pointer none, .string b] w fun r w' => r = .returned (.int .i64 2) ∧ w = w' := by
  go_enter Try.func21, Try.ntmps21
  go_wp2_with fail
  go_ret
  exact ⟨rfl, rfl⟩
theorem spFeed_full {w : World} {g : Nat} {s : ByteArray} {p : Nat} (h : SP w g s p) (b : ByteArray) (hs : s.size ≤ 65536) (hb : b.size ≤ 140737488351232) (hf : 65536 < s.size + b.size) : Calls Try.prog 21 #[.pointer (some ⟨g, 0, none⟩), .string b] w fun r w' => r = .returned (.int .i64 3) ∧ w = w' := by
  obtain ⟨h0, h1, _, _⟩ := h.cells
  go_enter Try.func21, Try.ntmps21
  go_wp2_with fail
  go_ret
  exact ⟨rfl, rfl⟩
theorem spFeed {w : World} {g : Nat} {s : ByteArray} {p : Nat} (h : SP w g s p) (b : ByteArray) (hf : s.size + b.size ≤ 65536) : Calls Try.prog 21 #[.pointer (some ⟨g, 0, none⟩), .string b] w fun r w' => r = .returned (.int .i64 0) ∧ SP w' g (s ++ b) p ∧ Alone w w' g := by
  obtain ⟨h0, h1, f0, _⟩ := h.cells
  have HR := Aside0.mk h
  clear h
  go_enter Try.func21, Try.ntmps21
  go_wp2_with fail
  go_ret
  exact ⟨rfl, blk_set HR.out 0 (.string (s ++ b)), Alone_set w 0 g 0 _⟩
theorem spPass {w : World} {g : Nat} {s : ByteArray} {p : Nat} (h : SP w g s p) (n : Nat) (hn : n ≤ s.size) (hs : s.size ≤ 65536) (hp : p ≤ 140737488351232) : Calls Try.prog 52 #[.pointer (some ⟨g, 0, none⟩), .int .i64 n] w fun r w' => r = .returned (.tuple #[]) ∧ SP w' g (s.extract n s.size) (p + n) ∧ Alone w w' g := by
  obtain ⟨h0, h1, f0, f1⟩ := h.cells
  have HR := Aside0.mk h
  clear h
  go_enter Try.func52, Try.ntmps52
  go_wp2_with fail
  go_end0
  exact ⟨rfl, blk_set (blk_set HR.out 0 (.string (s.extract n s.size))) 1 (.int .i64 ((p : Int) + n)), (Alone_set w 0 g 0 _).trans (Alone_set _ 0 g 1 _)⟩
theorem spIdx0 (s : ByteArray) (c : Int) (w : World) : Calls Try.prog 65 #[.string s, .int .u8 c] w fun r w' => r = .returned (.int .i64 (firstIdx s c.toNat.toUInt8)) ∧ w = w' := by
  go_enter Try.func65, Try.ntmps65
  go_wp2_with fail
  rw [run_callFunc_extern Try.func69 (by kernel_rfl) (by kernel_rfl) (by kernel_rfl) (e := Extern.BytealgIndexByte.indexByte) (by kernel_rfl), run_indexByte_string]
  simp only [Result.andThen]
  rw [Oper.upon_value]
  go_wp2_with fail
  go_ret
  exact ⟨rfl, rfl⟩
theorem spIdx (s : ByteArray) (c : Int) (w : World) : Calls Try.prog 51 #[.string s, .int .u8 c] w fun r w' => r = .returned (.int .i64 (firstIdx s c.toNat.toUInt8)) ∧ w = w' := by
  go_enter Try.func51, Try.ntmps51
  go_wp2_with fail
  refine (spIdx0 s c w).mono ?_
  rintro e_ w1 ⟨rfl, rfl⟩
  go_wp2_with fail
  go_ret
  exact ⟨rfl, rfl⟩
theorem firstIdx_none (s : ByteArray) (c : UInt8) (h : ∀ i, i < s.size → s[i]! ≠ c) : firstIdx s c = -1 := by
  unfold firstIdx
  rw [List.find?_eq_none.2]
  intro i hi
  simpa using h i (List.mem_range.1 hi)
theorem firstIdx_at (s : ByteArray) (c : UInt8) (k : Nat) (hk : k < s.size) (hc : s[k]! = c) (h : ∀ i, i < k → s[i]! ≠ c) : firstIdx s c = k := by
  unfold firstIdx
  have e : (List.range s.size).find? (fun i => s[i]! == c) = some k := by
    rw [List.find?_eq_some_iff_append]
    refine ⟨by simpa using hc, List.range k, (List.range (s.size - k - 1)).map (· + (k + 1)), ?_, ?_⟩
    · conv => lhs; rw [show s.size = k + (1 + (s.size - k - 1)) by omega]
      rw [List.range_add, List.range_add]
      simp [Nat.add_assoc, Nat.add_comm, Nat.add_left_comm]
    · intro a ha
      simpa using h a (List.mem_range.1 ha)
  rw [e]
end Go.Proofs.Ytgboppgghidgbaa.My
