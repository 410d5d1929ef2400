/- works(): the chapter's example. -/
import Derived.Test.YtikfdfagnalmbaaWrAll
import Derived.Test.YtikfdfagnalmbaaRdAll
import Derived.Test.YtikfdfagnalmbaaRefOn
namespace Go.Proofs.Ytikfdfagnalmbaa.My
open Go.RowKit Go.Proofs.YtikfdfagnalmbaaW.PrintWords Go.Proofs.YtikfdfagnalmbaaW.PrintLast Go.Proofs.YtikfdfagnalmbaaW.PrintMore Go.Proofs.Ytikfdfagnalmbaa
set_option linter.unusedSimpArgs false
set_option linter.unusedVariables false
set_option maxRecDepth 100000
set_option maxHeartbeats 400000
def exS : ByteArray := ⟨#[172, 2, 255, 254, 2, 97, 98, 1]⟩
theorem exU : uRead exS 0 300 = (0, 300, 2) := by decide +kernel
theorem exU2 : uRead exS 7 0 = (11, 0, 0) := by decide +kernel
theorem exUT : uRead exS 4 2 = (0, 2, 1) := by decide +kernel
theorem WS.alloc {w : World} {base g : Nat} {v : Value} {xs : List Int} (h : WS w base g v xs) (o : Obj) : WS (w.alloc o) base g v xs := ⟨h.1, blk_alloc h.2.1 _, Kd.R_alloc h.2.2 _⟩
theorem exW : strOfNums ([] ++ uv 10 300 ++ [(IntKind.u16.wrap (-2) / 256 % 256), ((-2) % 256)] ++ uv 10 (⟨#[97, 98]⟩ : ByteArray).size ++ bytesOf ⟨#[97, 98]⟩) = ⟨#[172, 2, 255, 254, 2, 97, 98]⟩ := by decide +kernel
theorem exSm : small16 (exS.extract 2 4) = -2 := by decide +kernel
theorem exTx : exS.extract 5 7 = ⟨#[97, 98]⟩ := by decide +kernel
theorem exSum : ((Crc.sum (bytesN ⟨#[49, 50, 51, 52, 53, 54, 55, 56, 57]⟩) : Nat) : Int) = 3808858755 := by decide +kernel
theorem works_calls (w : World) : Calls Try.prog 31 #[] w fun e w' => e = .returned (.bool true) ∧ Below w.heap.size w w' := by
  go_enter Try.func31, Try.ntmps31
  go_wp2_with fail
  refine (newWriterW _).mono ?_
  rintro e w1 ⟨rfl, hw1⟩
  have hs1 : WS w1 w.heap.size w.heap.size (.slice none 0 0) [] := by rw [hw1]; exact WS_new w _ (Nat.le_refl _)
  have hb1 : Below w.heap.size w w1 := by rw [hw1]; exact (Below.refl _ _).alloc (Nat.le_refl _) _
  clear hw1
  go_wp2_with fail
  refine (Uint_calls _ _ [] 300 w w1 hb1 hs1 (by simp) (by omega)).mono ?_
  rintro e w2 ⟨rfl, v2, hs2, hb2, _⟩
  go_wp2_with fail
  refine (Small_calls _ _ _ (-2) w w2 hb2 hs2 (by simp [uv])).mono ?_
  rintro e w3 ⟨rfl, v3, hs3, hb3⟩
  go_wp2_with fail
  refine (Text_calls _ _ _ ⟨#[97, 98]⟩ w w3 hb3 hs3 (by simp [uv]; decide)).mono ?_
  rintro e w4 ⟨rfl, v4, hs4, hb4⟩
  go_wp2_with fail
  refine (Fixed_bad _ 256 1 w4 (.inr (.inr (by decide)))).mono ?_
  rintro e w5 ⟨rfl, rfl⟩
  go_wp2_with fail
  generalize hys : ([] ++ uv 10 300 ++ [(IntKind.u16.wrap (-2) / 256 % 256), ((-2) % 256)] ++ uv 10 (⟨#[97, 98]⟩ : ByteArray).size ++ bytesOf ⟨#[97, 98]⟩) = ys at hs4
  refine (newReader exS w4).mono ?_
  rintro e w5 ⟨rfl, hw5⟩
  have hs5 : WS w5 w.heap.size w.heap.size v4 ys := by rw [hw5]; exact hs4.alloc _
  have hr5 : RS w5 w4.heap.size exS 0 0 := by rw [hw5]; exact W_push _ _ _ _
  have hb5 : Below w.heap.size w w5 := by rw [hw5]; exact hb4.alloc (below_size hb4) _
  have hg5 : w.heap.size ≤ w4.heap.size := below_size hb4
  clear hw5
  generalize w4.heap.size = r at hr5 hg5
  go_wp2_with fail
  refine (Told_calls _ _ _ _ _ hs5).mono ?_
  rintro e w6 ⟨rfl, rfl⟩
  rw [← hys, exW]
  go_wp2_with fail
  refine (RUint_calls hr5 (by decide) (by decide) 300 (by omega)).mono ?_
  rintro e w6 ⟨rfl, hr6, ha6⟩
  rw [exU] at hr6 ⊢
  go_wp2_with fail
  refine (RSmall_ok hr6 (by decide) (by decide)).mono ?_
  rintro e w7 ⟨rfl, hr7, ha7⟩
  rw [exSm]
  go_wp2_with fail
  refine (RText_ok hr7 (by decide) (by decide) 2 2 1 (by omega) exUT (by decide)).mono ?_
  rintro e w8 ⟨rfl, hr8, ha8⟩
  rw [exTx]
  go_wp2_with fail
  refine (End_rest hr8 (by decide)).mono ?_
  rintro e w9 ⟨rfl, m, rfl⟩
  go_wp2_with fail
  refine (RUint_calls (blk_drewN hr8 m) (by decide) (by decide) 0 (by omega)).mono ?_
  rintro e w10 ⟨rfl, hr10, ha10⟩
  rw [show uRead exS (0 + 2 + 2 + 1 + 2) 0 = (11, 0, 0) from exU2] at hr10 ⊢
  go_wp2_with fail
  refine (Err_calls hr10).mono ?_
  rintro e w11 ⟨rfl, rfl⟩
  go_wp2_with fail
  refine (At_calls hr10).mono ?_
  rintro e w11 ⟨rfl, rfl⟩
  go_wp2_with fail
  refine (Sum_calls _ _ (by decide)).mono ?_
  rintro e w12 ⟨rfl, hw12⟩
  rw [exSum]
  go_wp2_with fail
  go_ret
  have ha : Alone1 w5 w12 r := ha6.one.trans (ha7.trans (ha8.one.trans ((Alone1_drewN _ m r).trans (ha10.one.trans (Alone1_below hw12)))))
  exact ⟨rfl, below_alone1 hb5 ha hg5 (below_size hb5)⟩
end Go.Proofs.Ytikfdfagnalmbaa.My
