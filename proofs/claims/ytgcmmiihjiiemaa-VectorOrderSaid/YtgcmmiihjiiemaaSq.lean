/- Short words for what the printed walks say again and again. -/
import Derived.Test.YtgcmmiihjiiemaaWWords
import Derived.Test.YtgcmmiihjiiemaaWLast
namespace Go.Proofs.Ytgcmmiihjiiemaa.My
open Go.RowKit Go.Proofs.YtgcmmiihjiiemaaW.PrintWords Go.Proofs.YtgcmmiihjiiemaaW.PrintLast
variable {α : Type} {d : Kd α} {e : TypeId} {w W w1 w2 : World} {base : Nat} {ok : Nat → Prop} {u v : Value} {xs : List α}
theorem sEl (h : Aside0 (d.R e w1 base ok u xs)) (hbase : ∀ k, v.ownBlock = some k → W.heap.size ≤ k) (hb : Below W.heap.size W w2) (st : d.R e w1 base ok u xs → d.R e W base ok u xs := by intro h_; (with_reducible repeat (first | apply Kd.R_alloc | apply Kd.R_drewN | apply Kd.R_drew)); exact h_) : Aside0 (d.R e w2 base (fun k => ok k ∧ some k ≠ v.ownBlock) u xs) := ⟨Kd.R_elder' (st h.out) hbase hb⟩
theorem sBe (h : Aside0 (d.R e w1 base ok u xs)) (hb : Below W.heap.size W w2) (st : d.R e w1 base ok u xs → d.R e W base ok u xs := by intro h_; (with_reducible repeat (first | apply Kd.R_alloc | apply Kd.R_drewN | apply Kd.R_drew)); exact h_) : Aside0 (d.R e w2 base ok u xs) := ⟨Kd.R_below (st h.out) hb⟩
theorem sSt (h : Aside0 (Below w.heap.size w w1)) (hb : Below W.heap.size W w2) (st : Below w.heap.size w w1 → Below w.heap.size w W := by intro h_; repeat (first | (with_reducible first | exact h_ | apply below_alloc | apply pw_below_drewN | apply below_drew1) | exact h_)) : Aside0 (Below w.heap.size w w2) := ⟨below_step (st h.out) hb⟩
theorem sSz (h : Aside0 (Below w.heap.size w w1)) (st : Below w.heap.size w w1 → Below w.heap.size w W := by intro h_; repeat (first | (with_reducible first | exact h_ | apply below_alloc | apply pw_below_drewN | apply below_drew1) | exact h_)) : w.heap.size ≤ W.heap.size := below_size (st h.out)
theorem sLt (h : Aside0 (d.R e w1 base ok u xs)) (st : d.R e w1 base ok u xs → d.R e W base ok u xs := by intro h_; (with_reducible repeat (first | apply Kd.R_alloc | apply Kd.R_drewN | apply Kd.R_drew)); exact h_) : ∀ k, u.ownBlock = some k → k < W.heap.size := Kd.R_lt (st h.out)
theorem sC {A : Option Addr} {n c : Nat} (h : Aside0 (d.R e w1 base ok (.slice A n c) xs)) (st : d.C w1 A xs.length xs → d.C W A xs.length xs := by intro h_; repeat (first | exact h_ | (with_reducible refine Kd.C_alloc ?_ _) | (with_reducible refine Kd.C_drewN ?_ _) | (with_reducible refine Kd.C_drew ?_))) : d.C W A xs.length xs := st (Kd.R_reads' h.out).2.2
theorem sN {A : Option Addr} {n c : Nat} (h : Aside0 (d.R e w1 base ok (.slice A n c) xs)) : n ≤ c := (Kd.R_reads' h.out).2.1
end Go.Proofs.Ytgcmmiihjiiemaa.My
