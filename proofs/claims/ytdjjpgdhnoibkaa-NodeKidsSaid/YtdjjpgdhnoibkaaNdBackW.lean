/- NodeBack. -/
import Derived.Test.YtdjjpgdhnoibkaaSq
import Derived.Test.YtdjjpgdhnoibkaaPZx0
import Derived.Test.YtdjjpgdhnoibkaaPZx1
import Derived.Test.YtdjjpgdhnoibkaaPZx2
import Derived.Test.YtdjjpgdhnoibkaaPZx3
import Derived.Test.YtdjjpgdhnoibkaaPZx5
import Derived.Test.YtdjjpgdhnoibkaaNdEnc
import Derived.Test.YtdjjpgdhnoibkaaNdPut
import Derived.Test.YtdjjpgdhnoibkaaPDy2
import Derived.Test.YtdjjpgdhnoibkaaPDy3
import Derived.Test.YtdjjpgdhnoibkaaPDy4
import Derived.Test.YtdjjpgdhnoibkaaNdSame
namespace Go.Proofs.Ytdjjpgdhnoibkaa.PD
open Go.Proofs.Ytdjjpgdhnoibkaa.PZ
open Go.Proofs.Ytdjjpgdhnoibkaa.My
attribute [local go_sem high] conv_rune str_leq str_gtr
open Go.RowKit Go.Proofs.YtdjjpgdhnoibkaaW.PrintWords Go.Proofs.YtdjjpgdhnoibkaaW.PrintLast Go.Proofs.YtdjjpgdhnoibkaaW.PrintMore
attribute [local go_sem] max2_int min2_int max_two min_two max_three min_three max_four min_four   -- for this text's walks alone
set_option linter.unusedVariables false
set_option linter.unusedSimpArgs false
attribute [local go_sem high] eqA66
/-! ### concordlaw08_NodeBack: function 11 -/
end Go.Proofs.Ytdjjpgdhnoibkaa.PD
namespace Go.Proofs.Ytdjjpgdhnoibkaa.My
open Go.RowKit Go.Proofs.YtdjjpgdhnoibkaaW.PrintWords Go.Proofs.YtdjjpgdhnoibkaaW.PrintLast Go.Proofs.YtdjjpgdhnoibkaaW.PrintMore Go.Proofs.Ytdjjpgdhnoibkaa Go.Proofs.Ytdjjpgdhnoibkaa.PZ Go.Proofs.Ytdjjpgdhnoibkaa.PD
set_option linter.unusedSimpArgs false
set_option linter.unusedVariables false
set_option maxRecDepth 100000
set_option maxHeartbeats 1600000
theorem body_size {b : Bool} {cs : List Ce} {ks : List ByteArray} {kids : List Int} (h : chkV b cs ks kids = 0) : (strOfNums (bodyV b cs ks kids)).size = lngV b cs ks := by
  obtain ⟨f1, f2, f3, f4, f5⟩ := chk_facts h
  rw [← natsOf_len, body_nat b cs ks kids f2 f3, body_len b cs ks kids f2 f3]
  rintro rfl
  exact (shp_branch f1).2
theorem enc_f {b : Bool} {cs : List Ce} {ks : List ByteArray} {kids : List Int} (h : ndB cs ks kids = true) : node_Encode.f b cs ks kids = some (encV b cs ks kids) := by
  unfold node_Encode.f
  rw [if_pos h]
theorem awake1 : node_Put.f true [] [] [] ⟨#[97]⟩ ⟨#[49]⟩ = some (true, [⟨⟨#[97]⟩, ⟨#[49]⟩⟩], [], [], 0) := by kernel_rfl
theorem awake2 : node_Put.f true [⟨⟨#[97]⟩, ⟨#[49]⟩⟩] [] [] ⟨#[99]⟩ ⟨#[51]⟩ = some (true, [⟨⟨#[97]⟩, ⟨#[49]⟩⟩, ⟨⟨#[99]⟩, ⟨#[51]⟩⟩], [], [], 0) := by kernel_rfl
theorem awake3 : chkV true [⟨⟨#[97]⟩, ⟨#[49]⟩⟩, ⟨⟨#[99]⟩, ⟨#[51]⟩⟩] [] [] = 0 := by kernel_rfl
theorem awake_f (k : Nat) (hk : 400000 ≤ k) : concordlaw08_awake.f k = some true := by
  unfold concordlaw08_awake.f
  rw [awake1, Option.bind_some]
  dsimp only
  rw [awake2, Option.bind_some]
  dsimp only
  have hd := dec_enc true [⟨⟨#[97]⟩, ⟨#[49]⟩⟩, ⟨⟨#[99]⟩, ⟨#[51]⟩⟩] [] [] (fun x hx => by cases hx) awake3 (by decide)
  have hs := body_size awake3
  have he : encV true [⟨⟨#[97]⟩, ⟨#[49]⟩⟩, ⟨⟨#[99]⟩, ⟨#[51]⟩⟩] [] [] = (strOfNums (bodyV true [⟨⟨#[97]⟩, ⟨#[49]⟩⟩, ⟨⟨#[99]⟩, ⟨#[51]⟩⟩] [] []), 0) := by
    unfold encV
    rw [awake3, if_pos rfl, if_neg (by decide)]
  rw [enc_f (by kernel_rfl), he, Option.bind_some]
  generalize strOfNums (bodyV true [⟨⟨#[97]⟩, ⟨#[49]⟩⟩, ⟨⟨#[99]⟩, ⟨#[51]⟩⟩] [] []) = s at *
  have hs11 : s.size = 11 := hs.trans (by decide)
  dsimp only
  rw [ndec_f s (by omega) k hk, hd, Option.bind_some]
  dsimp only
  rw [if_pos rfl, if_pos rfl, if_pos rfl, if_pos rfl, hs11]
  show _ = some true
  first | rfl | kernel_rfl | decide
end Go.Proofs.Ytdjjpgdhnoibkaa.My
