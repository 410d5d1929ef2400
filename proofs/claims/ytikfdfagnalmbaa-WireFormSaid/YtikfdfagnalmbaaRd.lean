/- A Reader in memory: its block holds the text, the place, the error; what each question answers, and what take makes of it. -/
import Derived.Test.YtikfdfagnalmbaaWWords
import Derived.Test.YtikfdfagnalmbaaProg
import Derived.Test.YtikfdfagnalmbaaWLast
namespace Go.Proofs.Ytikfdfagnalmbaa.My
open Go.RowKit Go.Proofs.YtikfdfagnalmbaaW.PrintWords Go.Proofs.YtikfdfagnalmbaaW.PrintLast Go.Proofs.Ytikfdfagnalmbaa
set_option linter.unusedSimpArgs false
set_option linter.unusedVariables false
set_option maxRecDepth 100000
set_option maxHeartbeats 2000000
/-- The Reader at block g: of the text s, at bytes taken, the error e. -/
def RS (w : World) (g : Nat) (s : ByteArray) (p : Nat) (e : Int) : Prop := w.heap[g]? = some (.cells #[.string s, .int .i64 p, .int .i64 e] 101 (0, 0))
/-- The block g alone has changed. -/
def Alone (w w' : World) (g : Nat) : Prop := Below 0 w w' ∧ w'.heap.size = w.heap.size ∧ ∀ k, k ≠ g → w'.heap[k]? = w.heap[k]?
theorem Alone_set (w : World) (m g j : Nat) (u : Value) : Alone w ((w.drewN m).setCell ⟨g, j, none⟩ u) g := by
  have hs : ((w.drewN m).setCell ⟨g, j, none⟩ u).heap.size = w.heap.size := by
    have : ((w.drewN m).setCell ⟨g, j, none⟩ u).heap.size = (w.drewN m).heap.size := by simp [World.setCell]
    exact this
  exact ⟨⟨rfl, rfl, rfl, by rw [hs]; exact Nat.le_refl _, fun k hk => absurd hk (Nat.not_lt_zero _)⟩, hs, fun k hk => Below.heap_setCell (w.drewN m) ⟨g, j, none⟩ u k hk⟩
theorem Alone.trans {a b c : World} {g : Nat} (h : Alone a b g) (k : Alone b c g) : Alone a c g := ⟨h.1.trans k.1, k.2.1.trans h.2.1, fun i hi => (k.2.2 i hi).trans (h.2.2 i hi)⟩
theorem RS.cells {w : World} {g : Nat} {s : ByteArray} {p : Nat} {e : Int} (h : RS w g s p e) : w.cell? ⟨g, 0, none⟩ = some (.string s) ∧ w.cell? ⟨g, 1, none⟩ = some (.int .i64 p) ∧ w.cell? ⟨g, 2, none⟩ = some (.int .i64 e) ∧ w.frozen? ⟨g, 1, none⟩ = false ∧ w.frozen? ⟨g, 2, none⟩ = false :=
  ⟨(blk_cell h 0).trans rfl, (blk_cell h 1).trans rfl, (blk_cell h 2).trans rfl, blk_frozen h 1, blk_frozen h 2⟩
theorem newReader (s : ByteArray) (w : World) : Calls Try.prog 24 #[.string s] w fun e w' => e = .returned (.pointer (some ⟨w.heap.size, 0, none⟩)) ∧ w' = w.alloc (.cells #[.string s, .int .i64 0, .int .i64 0] 101 (0, 0)) := by
  go_enter Try.func24, Try.ntmps24
  go_wp2_with fail
  go_ret
  exact ⟨rfl, rfl⟩
theorem Err_calls {w : World} {g : Nat} {s : ByteArray} {p : Nat} {e : Int} (h : RS w g s p e) : Calls Try.prog 27 #[.pointer (some ⟨g, 0, none⟩)] w fun r w' => r = .returned (.int .i64 e) ∧ w = w' := by
  obtain ⟨h0, h1, h2, _, _⟩ := h.cells
  go_enter Try.func27, Try.ntmps27
  go_wp2_with fail
  go_ret
  exact ⟨rfl, rfl⟩
theorem take_err {w : World} {g : Nat} {s : ByteArray} {p : Nat} {e : Int} (h : RS w g s p e) (he : (e != 0) = true) (n : Int) : Calls Try.prog 75 #[.pointer (some ⟨g, 0, none⟩), .int .i64 n] w fun r w' => r = .returned (.tuple #[.string ⟨#[]⟩, .bool false]) ∧ w = w' := by
  obtain ⟨h0, h1, h2, _, _⟩ := h.cells
  go_enter Try.func75, Try.ntmps75
  go_wp2_with fail
  go_ret2
  exact ⟨rfl, rfl⟩
theorem take_ok {w : World} {g : Nat} {s : ByteArray} {p : Nat} (h : RS w g s p 0) (n : Nat) (hp : p + n ≤ s.size) (hs : s.size ≤ 140737488351232) : Calls Try.prog 75 #[.pointer (some ⟨g, 0, none⟩), .int .i64 n] w fun r w' => r = .returned (.tuple #[.string (s.extract p (p + n)), .bool true]) ∧ RS w' g s (p + n) 0 ∧ Alone w w' g := by
  obtain ⟨h0, h1, h2, f1, f2⟩ := h.cells
  have HR := Aside0.mk h
  clear h
  have hw : wrap64 ((p : Int) + n) = (p : Int) + n := by unfold wrap64; omega
  have hw2 : IntKind.i64.wrap ((p : Int) + n) = (p : Int) + n := by rw [i64_w]; exact hw
  have hsl : ∀ W : World, (Instr.slice 9 (.string s) (some (.int .i64 (p : Int))) (some (.int .i64 ((p : Int) + n))) none).run Try.prog W = .ok (.string (s.extract p (p + n))) W := by
    intro W
    rw [run_slice_string W 9 s .i64 .i64 (p : Int) ((p : Int) + n) Try.underlying9 (by omega) (by omega) (by omega)]
    rw [show ((p : Int) + n).toNat = p + n by omega, Int.toNat_natCast]
  go_enter Try.func75, Try.ntmps75
  go_wp2_with fail
  go_quiet (fail)
  go_wp2_with fail
  go_quiet (fail)
  go_wp2_with fail
  go_ret2
  refine ⟨rfl, ?_, Alone_set w _ g 1 _⟩
  unfold RS
  rw [show (((p + n : Nat) : Int)) = (p : Int) + n from by omega]
  exact blk_set (blk_drewN HR.out _) 1 (.int .i64 ((p : Int) + n))
theorem take_short {w : World} {g : Nat} {s : ByteArray} {p : Nat} (h : RS w g s p 0) (n : Int) (hp : (s.size : Int) - p < n) (hp2 : p ≤ s.size) (hs : s.size ≤ 140737488351232) : Calls Try.prog 75 #[.pointer (some ⟨g, 0, none⟩), .int .i64 n] w fun r w' => r = .returned (.tuple #[.string ⟨#[]⟩, .bool false]) ∧ RS w' g s p 10 ∧ Alone w w' g := by
  obtain ⟨h0, h1, h2, f1, f2⟩ := h.cells
  have HR := Aside0.mk h
  clear h
  go_enter Try.func75, Try.ntmps75
  go_wp2_with fail
  go_quiet (fail)
  go_wp2_with fail
  go_ret2
  exact ⟨rfl, blk_set (blk_drewN HR.out _) 2 (.int .i64 10), Alone_set w _ g 2 _⟩
end Go.Proofs.Ytikfdfagnalmbaa.My
