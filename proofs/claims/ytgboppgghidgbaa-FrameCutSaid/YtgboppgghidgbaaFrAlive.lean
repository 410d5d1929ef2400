/- The example is alive. -/
import Derived.Test.YtgboppgghidgbaaFrRefAll
import Derived.Test.YtgboppgghidgbaaPGx8
namespace Go.Proofs.Ytgboppgghidgbaa.My
open Go.RowKit Go.Proofs.YtgboppgghidgbaaW.PrintWords Go.Proofs.YtgboppgghidgbaaW.PrintLast Go.Proofs.YtgboppgghidgbaaW.PrintMore Go.Proofs.Ytgboppgghidgbaa Go.Proofs.Ytgboppgghidgbaa.PG
set_option linter.unusedSimpArgs false
set_option linter.unusedVariables false
set_option maxRecDepth 100000
theorem alive_f : concordlaw21_alive.f = some true := by
  have hM : May 1 2 1 1 1 1 false (⟨#[104, 105]⟩ : ByteArray).size := by decide
  have hR : Fr 1 2 1 1 1 0 1 := by decide
  have hE : frame_Encode.f 1 2 1 1 1 0 1 false (⟨#[104, 105]⟩ : ByteArray) = some (strOfNums (encF 1 2 1 1 1 0 1 false ⟨#[104, 105]⟩), 0) := by
    rw [frame_Encode.f, if_pos hR]
    show some (encR 1 2 1 1 1 0 1 false ⟨#[104, 105]⟩) = _
    rw [encR, if_pos hM]
  have hn := encF_nats 1 2 1 1 1 0 1 false ⟨#[104, 105]⟩ (by omega) (by omega) (by omega)
  have hd := dec_enc 1 2 1 1 1 0 1 false ⟨#[104, 105]⟩ (by omega) (by omega) (by omega) (by omega) (by omega) (by omega) (by omega) hM
  generalize strOfNums (encF 1 2 1 1 1 0 1 false ⟨#[104, 105]⟩) = s at hE hn hd
  have hsz : s.size = 36 := by rw [← natsOf_len, hn, encN_len]; rfl
  have hx : s.extract 0 4 = ⟨#[157, 227, 0, 36]⟩ := by
    apply natsOf_inj
    rw [natsOf_extract, hn]
    have h1 : (((encN 1 2 1 1 1 0 1 false ⟨#[104, 105]⟩).drop 0).take (4 - 0)) = [157, 227] ++ beN 2 36 := by
      unfold encN preN
      rw [List.drop_zero]
      simp only [List.append_assoc]
      rw [← List.append_assoc [157, 227]]
      exact List.take_left' (by simp [beN_len])
    rw [h1]
    decide
  have hD : frame_Decode.f s = some (1, 2, 1, 1, 1, 0, 1, false, ⟨#[104, 105]⟩, 0) := by
    rw [frame_Decode.f, if_pos (by omega), hd]; rfl
  rw [concordlaw21_alive.f, concordlaw21_one.f, Option.bind_some]
  dsimp only
  rw [hE, Option.bind_some]
  dsimp only
  rw [hD, Option.bind_some]
  dsimp only
  rw [if_pos rfl, if_pos rfl, Option.bind_some]
  dsimp only
  rw [if_pos (by decide +kernel), if_pos (by omega), if_pos (by omega), if_pos (by omega), hx]
  decide +kernel
theorem alive_calls (w : World) : Calls Try.prog 13 #[] w fun r w' => r = .returned (.bool true) ∧ Below w.heap.size w w' := concordlaw21_alive.calls true w alive_f rfl
end Go.Proofs.Ytgboppgghidgbaa.My
