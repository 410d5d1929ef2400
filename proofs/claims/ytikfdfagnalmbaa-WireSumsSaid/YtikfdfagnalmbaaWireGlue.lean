/- works(), wire.On, as the printed texts want them. -/
import Derived.Test.YtikfdfagnalmbaaWorks
namespace Go.Proofs.Ytikfdfagnalmbaa.My
open Go.RowKit Go.Proofs.YtikfdfagnalmbaaW.PrintWords Go.Proofs.Ytikfdfagnalmbaa
def concordlaw01_works.f : Option Bool := some true
theorem concordlaw01_works.calls (r : Bool) (w : World) (h : concordlaw01_works.f = some r) : Calls Try.prog 31 #[] w fun e w' => e = .returned (.bool r) ∧ Below w.heap.size w w' := by
  obtain rfl := Option.some.inj h
  exact works_calls w
def wire_On.f (a0 : Int) (a1 : ByteArray) : Option Int := if (0 ≤ a0 ∧ a0 < 4294967296) ∧ a1.size ≤ 562949953421312 then some ((Crc.sumOn a0.toNat (bytesN a1) : Nat) : Int) else none
theorem wire_On.calls (a0 : Int) (a1 : ByteArray) (r : Int) (w : World) (h : wire_On.f a0 a1 = some r) : Calls Try.prog 15 #[.int .u32 a0, .string a1] w fun e w' => e = .returned (.int .u32 r) ∧ Below w.heap.size w w' := by
  unfold wire_On.f at h
  by_cases hg : (0 ≤ a0 ∧ a0 < 4294967296) ∧ a1.size ≤ 562949953421312
  · rw [if_pos hg] at h
    obtain ⟨⟨h0, h1⟩, hs⟩ := hg
    obtain rfl := Option.some.inj h
    obtain ⟨n, rfl⟩ := Int.eq_ofNat_of_zero_le h0
    exact On_calls n a1 w (by omega) hs
  · rw [if_neg hg] at h; cases h
end Go.Proofs.Ytikfdfagnalmbaa.My
