/- node.Encode as the print asks it. -/
import Derived.Test.YtdjjpgdhnoibkaaNdChk
import Derived.Test.YtdjjpgdhnoibkaaWrTm
namespace Go.Proofs.Ytdjjpgdhnoibkaa.My
open Go.RowKit Go.Proofs.YtdjjpgdhnoibkaaW.PrintWords Go.Proofs.YtdjjpgdhnoibkaaW.PrintLast Go.Proofs.YtdjjpgdhnoibkaaW.PrintMore Go.Proofs.Ytdjjpgdhnoibkaa Go.Proofs.Ytdjjpgdhnoibkaa.PZ
set_option linter.unusedSimpArgs false
set_option linter.unusedVariables false
set_option maxRecDepth 100000
set_option maxHeartbeats 3200000
attribute [local go_sem high] conv_rune str_leq str_gtr
theorem chk_facts {b : Bool} {cs : List Ce} {ks : List ByteArray} {kids : List Int} (h : chkV b cs ks kids = 0) : shpV b cs ks kids = true ∧ cs.all okC = true ∧ ks.all okK = true ∧ rsB ⟨#[]⟩ (keysV cs ks) = true ∧ lngV b cs ks ≤ 1992 := by
  unfold chkV at h
  split at h
  · cases h
  · rename_i h1
    split at h
    · cases h
    · rename_i h2
      split at h
      · cases h
      · rename_i h3
        split at h
        · cases h
        · rename_i h4
          have h2 : (cs.all okC && ks.all okK) = true := by simpa using h2
          rw [Bool.and_eq_true] at h2
          exact ⟨by simpa using h1, h2.1, h2.2, by simpa using h3, by omega⟩
theorem WS.below {W W' : World} {base g : Nat} {v : Value} {xs : List Int} (h : WS W base g v xs) (hb : Below W.heap.size W W') : WS W' base g v xs := ⟨h.1, blk_below h.2.1 hb, Kd.R_below h.2.2 hb⟩
theorem ks_len : ∀ ks : List ByteArray, ks.length ≤ sumK ks
  | [] => Nat.le_refl _
  | k :: t => by
    have := ks_len t
    rw [sumK, List.length_cons]
    omega
end Go.Proofs.Ytdjjpgdhnoibkaa.My
