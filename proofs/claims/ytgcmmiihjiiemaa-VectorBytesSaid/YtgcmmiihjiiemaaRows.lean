/-
  No cell of these rows narrows 'for every input' (looked for: loops, veiled, ifaces, maps, wideKeys, modest, calm, conditions, laid).
  DERIVED. THE GIVEN ROWS OF THIS SEAT. 8 by the template 'for every input the law returns true; each argument reads behind the call as it read before'; 0 by the template 'total and deterministic' (their statements: YtgcmmiihjiiemaaTotals.lean).
  GIVEN WITH THE SEED: the statements are not yours to turn. If you find one false, say at which input.
  Laid BY PROGRAM, IN A SANDBOX (cutbox-rows.mjs): the forced cells as the released guide's own fill.sh prints them over the translation 9ed4943134f8c1c2… (all of the seat's roots in one cut). By AI agents, Wed Nov 11 2026. No macro, syntax, notation, axiom, sorry.
-/
import Derived.Test.YtgcmmiihjiiemaaChecked
import GoSem.Claim
import GoSem.ClaimJoined
import GoSem.ClaimMapViews
import Derived.JoinedTies
import Derived.KernelRfl
namespace Go.Proofs.Ytgcmmiihjiiemaa
/- THE CELL 'sum', in the pinned program and in every row, IS THE sha256 OF THE DUMP (.gsa) THAT YtgcmmiihjiiemaaProg.lean LOADS. Nothing in Lean hashes anything: it is a label: what it is worth is what the hold of that sum in a sandbox is worth. -/
noncomputable def Try.pinned : Pinned := { name := "ytgcmmiihjiiemaa", sum := "9ed4943134f8c1c24ab89a08a8eeed41bf64c74505b71c1e427b42676e23fd81", checked := Try.checked }
namespace Rows
def none {H : Type} : Left H := { results := [], args := [] }

/-- 'concordlaw10.VectorMax': WHATEVER THE INPUT: true; the input reads as it did. -/
def vectorMaxSpec : ChangeSpec := { name := "vectorMax", fn := fun _ => fun
  | [d1, d2] => { results := [.lit (.bool true)], args := [d1, d2] }
  | _ => none }
def vectorMaxRow : OpenClaim := { program := "ytgcmmiihjiiemaa", sum := "9ed4943134f8c1c24ab89a08a8eeed41bf64c74505b71c1e427b42676e23fd81", func := "concord/concordlaw10.VectorMax", spec := "vectorMax", unfollowed := true, recurses := true, apart := false }
def VectorMaxSaid : Prop := vectorMaxRow.holds Try.pinned (OpenSpec.ofChange vectorMaxSpec)

/-- ITS FALSE NEIGHBOUR: 'it returns false'. Refute it at one input. -/
def vectorMaxWrong : ChangeSpec := { name := "vectorMax", fn := fun _ => fun
  | [d1, d2] => { results := [.lit (.bool false)], args := [d1, d2] }
  | _ => none }
def VectorMaxWrongFalsely : Prop := vectorMaxRow.holds Try.pinned (OpenSpec.ofChange vectorMaxWrong)

/-- 'concordlaw10.VectorNames': WHATEVER THE INPUT: true; the input reads as it did. -/
def vectorNamesSpec : ChangeSpec := { name := "vectorNames", fn := fun _ => fun
  | [] => { results := [.lit (.bool true)], args := [] }
  | _ => none }
def vectorNamesRow : OpenClaim := { program := "ytgcmmiihjiiemaa", sum := "9ed4943134f8c1c24ab89a08a8eeed41bf64c74505b71c1e427b42676e23fd81", func := "concord/concordlaw10.VectorNames", spec := "vectorNames", apart := false }
def VectorNamesSaid : Prop := vectorNamesRow.holds Try.pinned (OpenSpec.ofChange vectorNamesSpec)

/-- ITS FALSE NEIGHBOUR: 'it returns false'. Refute it at one input. -/
def vectorNamesWrong : ChangeSpec := { name := "vectorNames", fn := fun _ => fun
  | [] => { results := [.lit (.bool false)], args := [] }
  | _ => none }
def VectorNamesWrongFalsely : Prop := vectorNamesRow.holds Try.pinned (OpenSpec.ofChange vectorNamesWrong)

/-- 'concordlaw10.VectorBytes': WHATEVER THE INPUT: true; the input reads as it did. -/
def vectorBytesSpec : ChangeSpec := { name := "vectorBytes", fn := fun _ => fun
  | [d1, d2, d3, d4] => { results := [.lit (.bool true)], args := [d1, d2, d3, d4] }
  | _ => none }
def vectorBytesRow : OpenClaim := { program := "ytgcmmiihjiiemaa", sum := "9ed4943134f8c1c24ab89a08a8eeed41bf64c74505b71c1e427b42676e23fd81", func := "concord/concordlaw10.VectorBytes", spec := "vectorBytes", apart := false }
def VectorBytesSaid : Prop := vectorBytesRow.holds Try.pinned (OpenSpec.ofChange vectorBytesSpec)

/-- ITS FALSE NEIGHBOUR: 'it returns false'. Refute it at one input. -/
def vectorBytesWrong : ChangeSpec := { name := "vectorBytes", fn := fun _ => fun
  | [d1, d2, d3, d4] => { results := [.lit (.bool false)], args := [d1, d2, d3, d4] }
  | _ => none }
def VectorBytesWrongFalsely : Prop := vectorBytesRow.holds Try.pinned (OpenSpec.ofChange vectorBytesWrong)

/-- 'concordlaw10.VectorAsks': WHATEVER THE INPUT: true; the input reads as it did. -/
def vectorAsksSpec : ChangeSpec := { name := "vectorAsks", fn := fun _ => fun
  | [d1, d2, d3] => { results := [.lit (.bool true)], args := [d1, d2, d3] }
  | _ => none }
def vectorAsksRow : OpenClaim := { program := "ytgcmmiihjiiemaa", sum := "9ed4943134f8c1c24ab89a08a8eeed41bf64c74505b71c1e427b42676e23fd81", func := "concord/concordlaw10.VectorAsks", spec := "vectorAsks", unfollowed := true, recurses := true, apart := false }
def VectorAsksSaid : Prop := vectorAsksRow.holds Try.pinned (OpenSpec.ofChange vectorAsksSpec)

/-- ITS FALSE NEIGHBOUR: 'it returns false'. Refute it at one input. -/
def vectorAsksWrong : ChangeSpec := { name := "vectorAsks", fn := fun _ => fun
  | [d1, d2, d3] => { results := [.lit (.bool false)], args := [d1, d2, d3] }
  | _ => none }
def VectorAsksWrongFalsely : Prop := vectorAsksRow.holds Try.pinned (OpenSpec.ofChange vectorAsksWrong)

/-- 'concordlaw10.VectorOrder': WHATEVER THE INPUT: true; the input reads as it did. -/
def vectorOrderSpec : ChangeSpec := { name := "vectorOrder", fn := fun _ => fun
  | [d1, d2, d3] => { results := [.lit (.bool true)], args := [d1, d2, d3] }
  | _ => none }
def vectorOrderRow : OpenClaim := { program := "ytgcmmiihjiiemaa", sum := "9ed4943134f8c1c24ab89a08a8eeed41bf64c74505b71c1e427b42676e23fd81", func := "concord/concordlaw10.VectorOrder", spec := "vectorOrder", unfollowed := true, recurses := true, apart := false }
def VectorOrderSaid : Prop := vectorOrderRow.holds Try.pinned (OpenSpec.ofChange vectorOrderSpec)

/-- ITS FALSE NEIGHBOUR: 'it returns false'. Refute it at one input. -/
def vectorOrderWrong : ChangeSpec := { name := "vectorOrder", fn := fun _ => fun
  | [d1, d2, d3] => { results := [.lit (.bool false)], args := [d1, d2, d3] }
  | _ => none }
def VectorOrderWrongFalsely : Prop := vectorOrderRow.holds Try.pinned (OpenSpec.ofChange vectorOrderWrong)

/-- 'concordlaw10.VectorForm': WHATEVER THE INPUT: true; the input reads as it did. -/
def vectorFormSpec : ChangeSpec := { name := "vectorForm", fn := fun _ => fun
  | [d1, d2] => { results := [.lit (.bool true)], args := [d1, d2] }
  | _ => none }
def vectorFormRow : OpenClaim := { program := "ytgcmmiihjiiemaa", sum := "9ed4943134f8c1c24ab89a08a8eeed41bf64c74505b71c1e427b42676e23fd81", func := "concord/concordlaw10.VectorForm", spec := "vectorForm", unfollowed := true, recurses := true, apart := false }
def VectorFormSaid : Prop := vectorFormRow.holds Try.pinned (OpenSpec.ofChange vectorFormSpec)

/-- ITS FALSE NEIGHBOUR: 'it returns false'. Refute it at one input. -/
def vectorFormWrong : ChangeSpec := { name := "vectorForm", fn := fun _ => fun
  | [d1, d2] => { results := [.lit (.bool false)], args := [d1, d2] }
  | _ => none }
def VectorFormWrongFalsely : Prop := vectorFormRow.holds Try.pinned (OpenSpec.ofChange vectorFormWrong)

/-- 'concordlaw10.VectorGreat': WHATEVER THE INPUT: true; the input reads as it did. -/
def vectorGreatSpec : ChangeSpec := { name := "vectorGreat", fn := fun _ => fun
  | [d1, d2, d3] => { results := [.lit (.bool true)], args := [d1, d2, d3] }
  | _ => none }
def vectorGreatRow : OpenClaim := { program := "ytgcmmiihjiiemaa", sum := "9ed4943134f8c1c24ab89a08a8eeed41bf64c74505b71c1e427b42676e23fd81", func := "concord/concordlaw10.VectorGreat", spec := "vectorGreat", unfollowed := true, recurses := true, apart := false }
def VectorGreatSaid : Prop := vectorGreatRow.holds Try.pinned (OpenSpec.ofChange vectorGreatSpec)

/-- ITS FALSE NEIGHBOUR: 'it returns false'. Refute it at one input. -/
def vectorGreatWrong : ChangeSpec := { name := "vectorGreat", fn := fun _ => fun
  | [d1, d2, d3] => { results := [.lit (.bool false)], args := [d1, d2, d3] }
  | _ => none }
def VectorGreatWrongFalsely : Prop := vectorGreatRow.holds Try.pinned (OpenSpec.ofChange vectorGreatWrong)

/-- 'concordlaw10.VectorSteps': WHATEVER THE INPUT: true; the input reads as it did. -/
def vectorStepsSpec : ChangeSpec := { name := "vectorSteps", fn := fun _ => fun
  | [d1, d2] => { results := [.lit (.bool true)], args := [d1, d2] }
  | _ => none }
def vectorStepsRow : OpenClaim := { program := "ytgcmmiihjiiemaa", sum := "9ed4943134f8c1c24ab89a08a8eeed41bf64c74505b71c1e427b42676e23fd81", func := "concord/concordlaw10.VectorSteps", spec := "vectorSteps", unfollowed := true, recurses := true, apart := false }
def VectorStepsSaid : Prop := vectorStepsRow.holds Try.pinned (OpenSpec.ofChange vectorStepsSpec)

/-- ITS FALSE NEIGHBOUR: 'it returns false'. Refute it at one input. -/
def vectorStepsWrong : ChangeSpec := { name := "vectorSteps", fn := fun _ => fun
  | [d1, d2] => { results := [.lit (.bool false)], args := [d1, d2] }
  | _ => none }
def VectorStepsWrongFalsely : Prop := vectorStepsRow.holds Try.pinned (OpenSpec.ofChange vectorStepsWrong)

/- THE SECOND FORM. 'bulk': how many values and letters a reading holds, each counted each time it is reached (what is shared counts as often as it is met; a slice's spare places count too). A statement '..UptoSaid' is the law's where the arguments, and the package variables that the reading takes, are together of bulk at most 1048576: NARROWER than '..Said'. Prove '..Said' where nothing that the law and all that it calls make is longer than what came in: it says more and counts as full. Else prove '..UptoSaid'. A law counts once. -/
mutual
def uptoBulk {H : Type} : DataW H → Nat
  | .lit (.string bytes) => bytes.length + 1
  | .lit _ => 1
  | .nil => 1
  | .ptr d => uptoBulk d + 1
  | .slice elems spare => uptoBulkAll elems + uptoBulkAll spare + 1
  | .agg parts => uptoBulkAll parts + 1
  | .iface _ d => uptoBulk d + 1
  | .map entries => uptoBulkEntries entries + 1
  | .held _ => 1
def uptoBulkAll {H : Type} : List (DataW H) → Nat
  | [] => 0
  | d :: r => uptoBulk d + uptoBulkAll r
def uptoBulkEntries {H : Type} : List (Lit × DataW H) → Nat
  | [] => 0
  | x :: r => uptoBulkEntry x + uptoBulkEntries r
def uptoBulkEntry {H : Type} : Lit × DataW H → Nat
  | (.string bytes, d) => bytes.length + uptoBulk d + 1
  | (_, d) => uptoBulk d + 1
 end
def uptoSmall : (H : Type) → List (DataW H) → Bool := fun _ ds => decide (uptoBulkAll ds ≤ 1048576)
def OpenSpec.upto (s : _root_.Go.ChangeSpec) : _root_.Go.OpenSpec := { _root_.Go.OpenSpec.ofChange s with cond := some uptoSmall }

/-- 'concordlaw10.VectorMax', WHERE WHAT IT READS IS OF BULK AT MOST 1048576: true; the input reads as it did. -/
def vectorMaxUptoRow : OpenClaim := { program := "ytgcmmiihjiiemaa", sum := "9ed4943134f8c1c24ab89a08a8eeed41bf64c74505b71c1e427b42676e23fd81", func := "concord/concordlaw10.VectorMax", spec := "vectorMax", unfollowed := true, recurses := true, apart := false, narrowed := true }
def VectorMaxUptoSaid : Prop := vectorMaxUptoRow.holds Try.pinned (OpenSpec.upto vectorMaxSpec)

/-- 'concordlaw10.VectorNames', WHERE WHAT IT READS IS OF BULK AT MOST 1048576: true; the input reads as it did. -/
def vectorNamesUptoRow : OpenClaim := { program := "ytgcmmiihjiiemaa", sum := "9ed4943134f8c1c24ab89a08a8eeed41bf64c74505b71c1e427b42676e23fd81", func := "concord/concordlaw10.VectorNames", spec := "vectorNames", apart := false, narrowed := true }
def VectorNamesUptoSaid : Prop := vectorNamesUptoRow.holds Try.pinned (OpenSpec.upto vectorNamesSpec)

/-- 'concordlaw10.VectorBytes', WHERE WHAT IT READS IS OF BULK AT MOST 1048576: true; the input reads as it did. -/
def vectorBytesUptoRow : OpenClaim := { program := "ytgcmmiihjiiemaa", sum := "9ed4943134f8c1c24ab89a08a8eeed41bf64c74505b71c1e427b42676e23fd81", func := "concord/concordlaw10.VectorBytes", spec := "vectorBytes", apart := false, narrowed := true }
def VectorBytesUptoSaid : Prop := vectorBytesUptoRow.holds Try.pinned (OpenSpec.upto vectorBytesSpec)

/-- 'concordlaw10.VectorAsks', WHERE WHAT IT READS IS OF BULK AT MOST 1048576: true; the input reads as it did. -/
def vectorAsksUptoRow : OpenClaim := { program := "ytgcmmiihjiiemaa", sum := "9ed4943134f8c1c24ab89a08a8eeed41bf64c74505b71c1e427b42676e23fd81", func := "concord/concordlaw10.VectorAsks", spec := "vectorAsks", unfollowed := true, recurses := true, apart := false, narrowed := true }
def VectorAsksUptoSaid : Prop := vectorAsksUptoRow.holds Try.pinned (OpenSpec.upto vectorAsksSpec)

/-- 'concordlaw10.VectorOrder', WHERE WHAT IT READS IS OF BULK AT MOST 1048576: true; the input reads as it did. -/
def vectorOrderUptoRow : OpenClaim := { program := "ytgcmmiihjiiemaa", sum := "9ed4943134f8c1c24ab89a08a8eeed41bf64c74505b71c1e427b42676e23fd81", func := "concord/concordlaw10.VectorOrder", spec := "vectorOrder", unfollowed := true, recurses := true, apart := false, narrowed := true }
def VectorOrderUptoSaid : Prop := vectorOrderUptoRow.holds Try.pinned (OpenSpec.upto vectorOrderSpec)

/-- 'concordlaw10.VectorForm', WHERE WHAT IT READS IS OF BULK AT MOST 1048576: true; the input reads as it did. -/
def vectorFormUptoRow : OpenClaim := { program := "ytgcmmiihjiiemaa", sum := "9ed4943134f8c1c24ab89a08a8eeed41bf64c74505b71c1e427b42676e23fd81", func := "concord/concordlaw10.VectorForm", spec := "vectorForm", unfollowed := true, recurses := true, apart := false, narrowed := true }
def VectorFormUptoSaid : Prop := vectorFormUptoRow.holds Try.pinned (OpenSpec.upto vectorFormSpec)

/-- 'concordlaw10.VectorGreat', WHERE WHAT IT READS IS OF BULK AT MOST 1048576: true; the input reads as it did. -/
def vectorGreatUptoRow : OpenClaim := { program := "ytgcmmiihjiiemaa", sum := "9ed4943134f8c1c24ab89a08a8eeed41bf64c74505b71c1e427b42676e23fd81", func := "concord/concordlaw10.VectorGreat", spec := "vectorGreat", unfollowed := true, recurses := true, apart := false, narrowed := true }
def VectorGreatUptoSaid : Prop := vectorGreatUptoRow.holds Try.pinned (OpenSpec.upto vectorGreatSpec)

/-- 'concordlaw10.VectorSteps', WHERE WHAT IT READS IS OF BULK AT MOST 1048576: true; the input reads as it did. -/
def vectorStepsUptoRow : OpenClaim := { program := "ytgcmmiihjiiemaa", sum := "9ed4943134f8c1c24ab89a08a8eeed41bf64c74505b71c1e427b42676e23fd81", func := "concord/concordlaw10.VectorSteps", spec := "vectorSteps", unfollowed := true, recurses := true, apart := false, narrowed := true }
def VectorStepsUptoSaid : Prop := vectorStepsUptoRow.holds Try.pinned (OpenSpec.upto vectorStepsSpec)

end Rows
end Go.Proofs.Ytgcmmiihjiiemaa
