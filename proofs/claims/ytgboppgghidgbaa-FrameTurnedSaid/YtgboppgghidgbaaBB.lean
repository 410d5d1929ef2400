/- Bytes that a conversion laid, in memory. -/
import Derived.Test.YtgboppgghidgbaaFrDec
import Derived.Laws.BytesArg
import Derived.Laws.IdiomStrings
namespace Go.Proofs.Ytgboppgghidgbaa.My
open Go.RowKit Go.Proofs.YtgboppgghidgbaaW.PrintWords Go.Proofs.YtgboppgghidgbaaW.PrintLast Go.Proofs.YtgboppgghidgbaaW.PrintMore Go.Proofs.Ytgboppgghidgbaa
set_option linter.unusedSimpArgs false
set_option linter.unusedVariables false
set_option maxRecDepth 100000
set_option maxHeartbeats 800000
/-- Bytes that a conversion laid: the row l, at block g. -/
def BB (w : World) (g : Nat) (l : List Nat) : Prop := ∃ C : Array Value, w.heap[g]? = some (.cells C 5 (C.size, C.size + 1)) ∧ l.length ≤ C.size ∧ ∀ k (h : k < l.length), C[k]? = some (.int .u8 (l[k] : Nat))
theorem BB.cell {w : World} {g : Nat} {l : List Nat} (h : BB w g l) (k : Nat) (hk : k < l.length) : w.cell? ⟨g, k, none⟩ = some (.int .u8 (l[k] : Nat)) := by
  obtain ⟨C, h1, h2, h3⟩ := h
  exact (cell_of_row _ _ k _ _ _ h1).trans (h3 k hk)
theorem BB.frozen {w : World} {g : Nat} {l : List Nat} (h : BB w g l) (k : Nat) (hk : k < l.length) : w.frozen? ⟨g, k, none⟩ = false := by
  obtain ⟨C, h1, h2, h3⟩ := h
  have : k < C.size := by omega
  simp only [World.frozen?, h1]
  simp
  omega
theorem BB.set {w : World} {g : Nat} {l : List Nat} (h : BB w g l) (k : Nat) (hk : k < l.length) (v : Nat) : BB (w.setCell ⟨g, k, none⟩ (.int .u8 (v : Int))) g (l.set k v) := by
  obtain ⟨C, h1, h2, h3⟩ := h
  refine ⟨C.setIfInBounds k (.int .u8 (v : Int)), by simp only [World.setCell, Array.getElem?_modify, h1]; simp, by rw [Array.size_setIfInBounds, List.length_set]; exact h2, fun j hj => ?_⟩
  rw [List.length_set] at hj
  rw [Array.getElem?_setIfInBounds, List.getElem_set]
  by_cases e : k = j
  · subst e
    rw [if_pos rfl, if_pos rfl, if_pos (by omega)]
  · rw [if_neg e, if_neg e]
    exact h3 j hj
theorem BB.drewN {w : World} {g : Nat} {l : List Nat} (h : BB w g l) (m : Nat) : BB (w.drewN m) g l := h
theorem BB_new (w : World) (s : ByteArray) (cap : Nat) : BB (w.drew.alloc (.cells (bytesRow s cap) 5 ((bytesRow s cap).size, (bytesRow s cap).size + 1))) w.heap.size (bytesN s) := by
  refine ⟨bytesRow s cap, W_push w.drew _ _ _, ?_, fun k hk => ?_⟩
  · rw [bytesN_len]; unfold bytesRow; rw [Array.size_append, Array.size_map]; exact Nat.le_add_right _ _
  · have hk2 : k < s.data.size := by rw [bytesN_len] at hk; exact hk
    unfold bytesRow
    rw [Array.getElem?_append_left (by simpa using hk2)]
    rw [Array.getElem?_map, Array.getElem?_eq_getElem hk2, Option.map_some]
    simp only [bytesN, List.getElem_map, Array.getElem_toList]
theorem bytesN_str (l : List Nat) (h : ∀ x ∈ l, x < 256) : bytesN (strOfNums (l.map Int.ofNat)) = l := by
  unfold bytesN strOfNums
  simp only [List.map_map, List.toList_toArray]
  conv => rhs; rw [← List.map_id l]
  apply List.map_congr_left
  intro x hx
  simp [Nat.mod_eq_of_lt (h x hx)]
end Go.Proofs.Ytgboppgghidgbaa.My
