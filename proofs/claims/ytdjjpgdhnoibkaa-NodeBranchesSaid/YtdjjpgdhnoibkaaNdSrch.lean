/- sort.Search over a node's cells and over its keys. -/
import Derived.Test.YtdjjpgdhnoibkaaPZx0
import Derived.StillTailTactics
namespace Go.Proofs.Ytdjjpgdhnoibkaa.My
open Go.RowKit Go.Proofs.YtdjjpgdhnoibkaaW.PrintWords Go.Proofs.YtdjjpgdhnoibkaaW.PrintLast Go.Proofs.YtdjjpgdhnoibkaaW.PrintMore Go.Proofs.Ytdjjpgdhnoibkaa Go.Proofs.Ytdjjpgdhnoibkaa.PZ
set_option linter.unusedSimpArgs false
set_option linter.unusedVariables false
set_option maxRecDepth 100000
set_option maxHeartbeats 1600000
attribute [local go_sem high] conv_rune str_leq str_gtr
abbrev Ce := S66
def vNat : Value → Nat
  | .int _ n => n.toNat
  | _ => 0
/-- A node's and a key's boxes. -/
def NB (w : World) (g h : Nat) (b : Bool) (A : Option Addr) (n c : Nat) (B : Option Addr) (m d : Nat) (C : Option Addr) (q e : Nat) (s : ByteArray) : Prop :=
  w.heap[g]? = some (.cells #[.bool b, .slice A n c, .slice B m d, .slice C q e] 26 (0, 0)) ∧ w.heap[h]? = some (.cells #[.string s] 9 (0, 0))
theorem NB.below {w w' : World} {g h : Nat} {b : Bool} {A : Option Addr} {n c : Nat} {B : Option Addr} {m d : Nat} {C : Option Addr} {q e : Nat} {s : ByteArray} (h1 : NB w g h b A n c B m d C q e s) (hb : Below w.heap.size w w') : NB w' g h b A n c B m d C q e s := ⟨blk_below h1.1 hb, blk_below h1.2 hb⟩
end Go.Proofs.Ytdjjpgdhnoibkaa.My
