/- A Writer in memory: its block holds the slice of its bytes; what each method makes of it. -/
import Derived.Test.YtdjjpgdhnoibkaaWWords
import Derived.Test.YtdjjpgdhnoibkaaProg
import Derived.Test.YtdjjpgdhnoibkaaWLast
import Derived.Test.YtdjjpgdhnoibkaaWMore
namespace Go.Proofs.Ytdjjpgdhnoibkaa.My
open Go.RowKit Go.Proofs.YtdjjpgdhnoibkaaW.PrintWords Go.Proofs.YtdjjpgdhnoibkaaW.PrintLast Go.Proofs.YtdjjpgdhnoibkaaW.PrintMore Go.Proofs.Ytdjjpgdhnoibkaa
set_option linter.unusedSimpArgs false
set_option linter.unusedVariables false
/-- The Writer at block g holds the slice v; v's row are xs, and is the call's own. -/
def WS (w : World) (base g : Nat) (v : Value) (xs : List Int) : Prop := base ≤ g ∧ w.heap[g]? = some (.cells #[v] 113 (0, 0)) ∧ Kd.R (Kd.int .u8) 5 w base (fun _ => True) v xs
/-- What else lies there stays. -/
def Moved (w w' : World) (g : Nat) (v v' : Value) : Prop := w.heap.size ≤ w'.heap.size ∧ (∀ k, k < w.heap.size → k ≠ g → some k ≠ v.ownBlock → w'.heap[k]? = w.heap[k]?) ∧ (v'.ownBlock = v.ownBlock ∨ ∃ b, v'.ownBlock = some b ∧ w.heap.size ≤ b)
theorem Moved.refl (w : World) (g : Nat) (v : Value) : Moved w w g v v := ⟨Nat.le_refl _, fun _ _ _ _ => rfl, .inl rfl⟩
theorem Moved.trans {a b c : World} {g : Nat} {u v x : Value} (h : Moved a b g u v) (k : Moved b c g v x) : Moved a c g u x := by
  refine ⟨Nat.le_trans h.1 k.1, fun i hi hg hv => ?_, ?_⟩
  · rw [k.2.1 i (Nat.lt_of_lt_of_le hi h.1) hg ?_, h.2.1 i hi hg hv]
    rcases h.2.2 with e | ⟨b', e, hb⟩
    · rw [e]; exact hv
    · rw [e]; intro hh; injection hh with hh; omega
  · rcases k.2.2 with e | ⟨b', e, hb⟩
    · rw [e]; exact h.2.2
    · exact .inr ⟨b', e, Nat.le_trans h.1 hb⟩
end Go.Proofs.Ytdjjpgdhnoibkaa.My
