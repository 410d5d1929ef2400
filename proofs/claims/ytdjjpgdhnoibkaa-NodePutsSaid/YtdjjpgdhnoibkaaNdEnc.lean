/- node.Encode as the print asks it. -/
import Derived.Test.YtdjjpgdhnoibkaaNdChk
import Derived.Test.YtdjjpgdhnoibkaaWrTm
namespace Go.Proofs.Ytdjjpgdhnoibkaa.My
open Go.RowKit Go.Proofs.YtdjjpgdhnoibkaaW.PrintWords Go.Proofs.YtdjjpgdhnoibkaaW.PrintLast Go.Proofs.YtdjjpgdhnoibkaaW.PrintMore Go.Proofs.Ytdjjpgdhnoibkaa Go.Proofs.Ytdjjpgdhnoibkaa.PZ
set_option linter.unusedSimpArgs false
set_option linter.unusedVariables false
set_option maxRecDepth 100000
set_option maxHeartbeats 3200000
attribute [local go_sem high] conv_rune str_leq str_gtr
def ndB (cs : List Ce) (ks : List ByteArray) (kids : List Int) : Bool :=
  (decide (cs.length < 4398046511104) && decide (ks.length < 8796093022208) && decide (kids.length < 35184372088832)) && (cs.all (fun c => decide (c.f0.size ≤ 140737488351232) && decide (c.f1.size ≤ 140737488351232)) && (ks.all (fun k => decide (k.size ≤ 140737488351232)) && kids.all (fun x => decide (0 ≤ x) && decide (x < 4294967296))))
theorem ndB_ok {cs : List Ce} {ks : List ByteArray} {kids : List Int} (h : ndB cs ks kids = true) : NdOk cs ks kids ∧ ∀ x ∈ kids, 0 ≤ x ∧ x < 4294967296 := by
  unfold ndB at h
  simp only [Bool.and_eq_true, decide_eq_true_eq, List.all_eq_true] at h
  obtain ⟨⟨⟨h1, h2⟩, h3⟩, h4, h5, h6⟩ := h
  exact ⟨⟨⟨h1, h2, h3⟩, h4, h5⟩, h6⟩
theorem chk_facts {b : Bool} {cs : List Ce} {ks : List ByteArray} {kids : List Int} (h : chkV b cs ks kids = 0) : shpV b cs ks kids = true ∧ cs.all okC = true ∧ ks.all okK = true ∧ rsB ⟨#[]⟩ (keysV cs ks) = true ∧ lngV b cs ks ≤ 1992 := by
  unfold chkV at h
  split at h
  · cases h
  · rename_i h1
    split at h
    · cases h
    · rename_i h2
      split at h
      · cases h
      · rename_i h3
        split at h
        · cases h
        · rename_i h4
          have h2 : (cs.all okC && ks.all okK) = true := by simpa using h2
          rw [Bool.and_eq_true] at h2
          exact ⟨by simpa using h1, h2.1, h2.2, by simpa using h3, by omega⟩
theorem WS.below {W W' : World} {base g : Nat} {v : Value} {xs : List Int} (h : WS W base g v xs) (hb : Below W.heap.size W W') : WS W' base g v xs := ⟨h.1, blk_below h.2.1 hb, Kd.R_below h.2.2 hb⟩
theorem okC_sz {c : Ce} (h : okC c = true) : 1 ≤ c.f0.size ∧ c.f0.size + c.f1.size ≤ 320 := by
  unfold okC at h
  rw [Bool.and_eq_true, decide_eq_true_eq, decide_eq_true_eq] at h
  exact h
theorem cs_len : ∀ cs : List Ce, cs.length ≤ sumC cs
  | [] => Nat.le_refl _
  | c :: t => by
    have := cs_len t
    rw [sumC, List.length_cons]
    unfold clN txN
    split <;> split <;> omega
end Go.Proofs.Ytdjjpgdhnoibkaa.My
