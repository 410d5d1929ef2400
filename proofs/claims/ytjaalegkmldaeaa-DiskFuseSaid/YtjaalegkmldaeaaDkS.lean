/- calm and Sync. -/
import Derived.Test.YtjaalegkmldaeaaDkF
import Derived.Deep.MidRow
namespace Go.Proofs.Ytjaalegkmldaeaa.My
open Go.RowKit Go.Proofs.YtjaalegkmldaeaaW.PrintWords Go.Proofs.YtjaalegkmldaeaaW.PrintLast Go.Proofs.YtjaalegkmldaeaaW.PrintMore Go.Proofs.Ytjaalegkmldaeaa Go.Maps
set_option linter.unusedSimpArgs false
set_option linter.unusedVariables false
set_option maxRecDepth 100000
set_option maxHeartbeats 1600000
theorem run_clear {P : Program} (w : World) (t ty : TypeId) (M : Nat) (es : Array MapEntry) (cl : Nat) (k e : TypeId) (ht : P.underlying t = some (.map k e)) (hb : w.heap[M]? = some (.map es cl)) :
    (Builtin.clear_ #[t] ty #[.map (some M)]).run P w = .ok (.tuple #[]) (Go.ChangeMaps.setBlock w M (.map #[] cl)) := by
  simp [Builtin.clear_, run_underlying ht, Go.MapKept.run_getObj_map hb, Go.MapKept.run_setObj_map _ hb, Result.andThen, Go.ChangeMaps.setBlock]
/-- A disk on which nothing waits any more. -/
theorem lies_calm {w w' : World} {own : Nat → Prop} {g L M : Nat} {d' : Dk} {lf : Int} {cl : Nat} (hown : own g ∧ own L ∧ own M) (hlt : ∀ k, own k → k < w'.heap.size)
    (hg : w'.heap[g]? = some (.cells #[.slice (some ⟨L, 0, none⟩) d'.lies.length d'.lies.length, .slice none 0 0, .map (some M), .bool d'.off, .bool (decide (0 ≤ d'.fuse)), .int .i64 lf] 70 (0, 0)))
    (hf : 0 ≤ d'.fuse → lf = d'.fuse) (hw : (Lit.int .i64 lf).wf = true) (hL : w'.heap[L]? = some (.cells (pgs d'.lies).toArray 74 (0, 0))) (hM : w'.heap[M]? = some (.map #[] cl)) (hp : d'.pend = []) (hok : DkOk d') :
    DiskAt w' own g d' := by
  refine ⟨L, M, .slice none 0 0, [], lf, .map [], { og := hown.1, oL := hown.2.1, oM := hown.2.2, oP := (by simp), lt := hlt, hg := hg, hf := hf, hw := hw, hL := hL, len := (by rw [hp]; rfl), hP := fun k h _ => (by cases h), hr := (by rw [hp]; exact Kd.R_nil _ _ _ _ _), hm := ?_, tells := ?_, ok := hok }⟩
  · rw [hp]
    exact ⟨#[], cl, hM, ⟨by simp, Go.MapKept.stamped_empty cl, by simp⟩, Nat.le_refl _, rfl⟩
  · rw [hp]
    intro n hn
    refine ⟨?_, fun k _ h => by cases h⟩
    rw [has_eq]
    show false = (_ && false)
    rw [Bool.and_false]
end Go.Proofs.Ytjaalegkmldaeaa.My
