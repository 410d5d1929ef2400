/- A list of bools that came in. -/
import Derived.Test.YtjaalegkmldaeaaOpenRows
import Derived.Test.YtjaalegkmldaeaaProg
namespace Go.Proofs.Ytjaalegkmldaeaa.My
open Go.ChangeShapes Go.WideShapes Go.Deep Go.RowKit Go.Proofs.YtjaalegkmldaeaaW.PrintWords
section
variable {H : Type} {enc : TypeId × Value → H} {w : World} {base : Nat} {spare : Nat → Bool} {held : Bool}
theorem open_bools_in {a : Option Addr} {len cap : Nat} {d : DataW H} {ps : List MemPlace} (h : DataW.Trod enc Try.prog w base spare held 28 (.slice a len cap) d ps) :
    ∃ xs : List Bool, xs.length = len ∧ len ≤ cap ∧ cap ≤ maxLen ∧ Kd.bool.C w a len xs := by
  obtain ⟨xs, h1, h2, h3, h4, _⟩ := open_rows Try.underlying28 1 (by kernel_rfl) (fun b : Bool => [Value.bool b]) (fun _ => rfl) (fun _ _ => True) (fun n cs d pl h hl => by
    obtain ⟨b, e, _⟩ := DataW.trod_bool Try.underlying4 h
    exact ⟨b, e, trivial⟩) h
  exact ⟨xs, h1, h2, h3, h4⟩
end
end Go.Proofs.Ytjaalegkmldaeaa.My
