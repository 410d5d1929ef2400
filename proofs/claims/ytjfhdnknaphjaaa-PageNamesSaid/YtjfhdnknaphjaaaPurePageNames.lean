/-
Proved: the chapter's numbers are as the document has them, a page's worth of noughts is blank, nothing is not, and the noughts are refused as blank. It is a closed statement: no condition.
-/
import Derived.Test.YtjfhdnknaphjaaaPGx4
namespace Go.Proofs.Ytjfhdnknaphjaaa.Pure
open Go.RowKit Go.Proofs.Ytjfhdnknaphjaaa.My Go.Proofs.Ytjfhdnknaphjaaa.PG Go.Proofs.YtjfhdnknaphjaaaW.PrintWords Go.Proofs.YtjfhdnknaphjaaaW.PrintLast

theorem PageNames : concordlaw05_PageNames.Pure := by
  have hz : allZero (List.replicate 1024 0) = true := decide_eq_true rfl
  have hb : Bytes (List.replicate 1024 0) := by intro x hx; obtain rfl := List.eq_of_mem_replicate hx; decide
  have hn : allZero ([] : List Int) = false := by
    unfold allZero; rw [decide_eq_false_iff_not]; intro h
    have := congrArg List.length h
    rw [zs_len] at this; simp at this
  have hd : page_Decode.f (List.replicate 1024 0) 0 = some (0, 0, 0, ⟨#[]⟩, 51) := by
    unfold page_Decode.f
    rw [if_pos ⟨hb, by decide, by decide⟩]
    unfold decL
    rw [if_neg (by rw [List.length_replicate]; omega), if_pos hz]
  unfold concordlaw05_PageNames.Pure concordlaw05_PageNames.f
  rw [if_pos (by decide), hd]
  simp only [Option.bind_some, page_Blank.f, hz, hn, if_true]
  rfl
end Go.Proofs.Ytjfhdnknaphjaaa.Pure
