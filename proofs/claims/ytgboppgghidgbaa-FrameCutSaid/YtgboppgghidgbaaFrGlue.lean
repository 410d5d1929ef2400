/- frame.may, frame.Encode, as the printed texts want them. -/
import Derived.Test.YtgboppgghidgbaaFrEnc
namespace Go.Proofs.Ytgboppgghidgbaa.My
open Go.RowKit Go.Proofs.YtgboppgghidgbaaW.PrintWords Go.Proofs.Ytgboppgghidgbaa
theorem lsz1 (a : UInt8) : (⟨#[a]⟩ : ByteArray).size = 1 := rfl
theorem lsz2 (a b : UInt8) : (⟨#[a, b]⟩ : ByteArray).size = 2 := rfl
/-- A frame's numbers stand in their ranges. -/
def Fr (a b c d e t g : Int) : Prop := (0 ≤ a ∧ a < 256) ∧ (0 ≤ b ∧ b < 256) ∧ (0 ≤ c ∧ c < 256) ∧ (0 ≤ d ∧ d < 65536) ∧ (0 ≤ e ∧ e < 4294967296) ∧ (0 ≤ t ∧ t < 18446744073709551616) ∧ (0 ≤ g ∧ g < 4294967296)
instance (a b c d e t g : Int) : Decidable (Fr a b c d e t g) := by unfold Fr; infer_instance
theorem Fr.nats {a b c d e t g : Int} (h : Fr a b c d e t g) : ∃ a' b' c' d' e' t' g' : Nat, a = a' ∧ b = b' ∧ c = c' ∧ d = d' ∧ e = e' ∧ t = t' ∧ g = g' := by
  obtain ⟨⟨h1, _⟩, ⟨h2, _⟩, ⟨h3, _⟩, ⟨h4, _⟩, ⟨h5, _⟩, ⟨h6, _⟩, ⟨h7, _⟩⟩ := h
  exact ⟨a.toNat, b.toNat, c.toNat, d.toNat, e.toNat, t.toNat, g.toNat, by omega, by omega, by omega, by omega, by omega, by omega, by omega⟩
def frame_may.f (a0_0 a0_1 a0_2 a0_3 a0_4 a0_5 a0_6 : Int) (a0_7 : Bool) (a0_8 : ByteArray) : Option Bool :=
  if Fr a0_0 a0_1 a0_2 a0_3 a0_4 a0_5 a0_6 then some (decide (May a0_0.toNat a0_1.toNat a0_2.toNat a0_3.toNat a0_4.toNat a0_6.toNat a0_7 a0_8.size)) else none
theorem frame_may.calls (a0_0 a0_1 a0_2 a0_3 a0_4 a0_5 a0_6 : Int) (a0_7 : Bool) (a0_8 : ByteArray) (r : Bool) (w : World) (h : frame_may.f a0_0 a0_1 a0_2 a0_3 a0_4 a0_5 a0_6 a0_7 a0_8 = some r) :
    Calls Try.prog 29 #[.agg #[.int .u8 a0_0, .int .u8 a0_1, .int .u8 a0_2, .int .u16 a0_3, .int .u32 a0_4, .int .u64 a0_5, .int .u32 a0_6, .bool a0_7, .string a0_8]] w fun e w' => e = .returned (.bool r) ∧ Below w.heap.size w w' := by
  unfold frame_may.f at h
  by_cases hg : Fr a0_0 a0_1 a0_2 a0_3 a0_4 a0_5 a0_6
  · rw [if_pos hg] at h
    obtain rfl := Option.some.inj h
    obtain ⟨a, b, c, d, e, t, g, rfl, rfl, rfl, rfl, rfl, rfl, rfl⟩ := hg.nats
    obtain ⟨h1, h2, h3, h4, h5, h6, h7⟩ := hg
    simp only [Int.toNat_natCast]
    exact may_walk a b c d e t g a0_7 a0_8 w (by omega) (by omega)
  · rw [if_neg hg] at h; cases h
/-- A frame's bytes, and the error. -/
def encR (a b c d e t g : Nat) (h : Bool) (s : ByteArray) : ByteArray × Int := if May a b c d e g h s.size then (strOfNums (encF a b c d e t g h s), 0) else (⟨#[]⟩, 210)
def frame_Encode.f (a0_0 a0_1 a0_2 a0_3 a0_4 a0_5 a0_6 : Int) (a0_7 : Bool) (a0_8 : ByteArray) : Option (ByteArray × Int) :=
  if Fr a0_0 a0_1 a0_2 a0_3 a0_4 a0_5 a0_6 then some (encR a0_0.toNat a0_1.toNat a0_2.toNat a0_3.toNat a0_4.toNat a0_5.toNat a0_6.toNat a0_7 a0_8) else none
theorem frame_Encode.calls (a0_0 a0_1 a0_2 a0_3 a0_4 a0_5 a0_6 : Int) (a0_7 : Bool) (a0_8 : ByteArray) (r1 : ByteArray) (r2 : Int) (w : World) (h : frame_Encode.f a0_0 a0_1 a0_2 a0_3 a0_4 a0_5 a0_6 a0_7 a0_8 = some (r1, r2)) :
    Calls Try.prog 11 #[.agg #[.int .u8 a0_0, .int .u8 a0_1, .int .u8 a0_2, .int .u16 a0_3, .int .u32 a0_4, .int .u64 a0_5, .int .u32 a0_6, .bool a0_7, .string a0_8]] w fun e w' => e = .returned (.tuple #[.string r1, .int .i64 r2]) ∧ Below w.heap.size w w' := by
  unfold frame_Encode.f at h
  by_cases hg : Fr a0_0 a0_1 a0_2 a0_3 a0_4 a0_5 a0_6
  · rw [if_pos hg] at h
    have h' := Option.some.inj h
    obtain ⟨a, b, c, d, e, t, g, rfl, rfl, rfl, rfl, rfl, rfl, rfl⟩ := hg.nats
    obtain ⟨h1, h2, h3, h4, h5, h6, h7⟩ := hg
    simp only [Int.toNat_natCast] at h'
    unfold encR at h'
    by_cases hM : May a b c d e g a0_7 a0_8.size
    · rw [if_pos hM] at h'
      obtain ⟨rfl, rfl⟩ := Prod.mk.inj h'
      exact enc_good a b c d e t g a0_7 a0_8 w (by omega) (by omega) (by omega) (by omega) (by omega) (by omega) hM
    · rw [if_neg hM] at h'
      obtain ⟨rfl, rfl⟩ := Prod.mk.inj h'
      exact enc_bad a b c d e t g a0_7 a0_8 w (by omega) (by omega) hM
  · rw [if_neg hg] at h; cases h
end Go.Proofs.Ytgboppgghidgbaa.My
