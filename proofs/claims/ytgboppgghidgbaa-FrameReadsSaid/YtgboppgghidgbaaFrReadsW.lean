/- FrameReads: the walk. -/
import Derived.Test.YtgboppgghidgbaaFrGlue4
import Derived.Test.YtgboppgghidgbaaPKx5
namespace Go.Proofs.Ytgboppgghidgbaa.My
open Go.RowKit Go.Proofs.YtgboppgghidgbaaW.PrintWords Go.Proofs.Ytgboppgghidgbaa Go.Proofs.Ytgboppgghidgbaa.PK
theorem reads_pure : concordlaw21_FrameReads.Pure := by
  intro s hs
  have h1 : frame_Decode.f s = some (decT s) := by rw [frame_Decode.f, if_pos (by omega)]
  have h2 : concordref21_Decode.f s = some (decT s) := by rw [concordref21_Decode.f, if_pos hs]
  rw [concordlaw21_FrameReads.f, h1, Option.bind_some, h2, Option.bind_some, concordlaw21_alive.f, Option.bind_some, if_pos rfl]
  simp only [beq_self_eq_true, Bool.and_self, if_true]
theorem FrameReads_walk (w : World) (s : ByteArray) (hs : s.size ≤ 140737488351232) : Calls Try.prog 4 #[.string s] w fun r w' => r = .returned (.bool true) ∧ Below w.heap.size w w' :=
  concordlaw21_FrameReads.walk reads_pure s w hs
end Go.Proofs.Ytgboppgghidgbaa.My
