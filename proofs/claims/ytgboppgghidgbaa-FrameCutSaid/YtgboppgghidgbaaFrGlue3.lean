/- fit, as the printed texts want it; what it makes is a frame that may be. -/
import Derived.Test.YtgboppgghidgbaaFrFit
import Derived.Test.YtgboppgghidgbaaFrGlue2
namespace Go.Proofs.Ytgboppgghidgbaa.My
open Go.RowKit Go.Proofs.YtgboppgghidgbaaW.PrintWords Go.Proofs.Ytgboppgghidgbaa
set_option linter.unusedSimpArgs false
set_option linter.unusedVariables false
def fitB (a b : Nat) : Nat := if b % 5 = a % 5 then (a + 1) % 5 + 1 else b % 5 + 1
def fitS (s : ByteArray) : ByteArray := if 8158 < s.size then s.extract 0 8158 else s
def atOne (d : Nat) : Nat := if d < 1 then 1 else d
def fitT (a b c d e t g : Nat) (h : Bool) (s : ByteArray) : Int × Int × Int × Int × Int × Int × Int × Bool × ByteArray :=
  (((a % 5 + 1 : Nat) : Int), ((fitB a b : Nat) : Int), (((if h = true then fitB a b else a % 5 + 1) : Nat) : Int), ((atOne d : Nat) : Int), ((atOne e : Nat) : Int), (t : Int), ((atOne g : Nat) : Int), h, fitS s)
def concordlaw21_fit.f (a0_0 a0_1 a0_2 a0_3 a0_4 a0_5 a0_6 : Int) (a0_7 : Bool) (a0_8 : ByteArray) : Option (Int × Int × Int × Int × Int × Int × Int × Bool × ByteArray) :=
  if Fr a0_0 a0_1 a0_2 a0_3 a0_4 a0_5 a0_6 then some (fitT a0_0.toNat a0_1.toNat a0_2.toNat a0_3.toNat a0_4.toNat a0_5.toNat a0_6.toNat a0_7 a0_8) else none
theorem fitB_eq (a b : Nat) : (if ((b : Int) % 5 + 1 == (a : Int) % 5 + 1) = true then ((a : Int) + 1) % 5 + 1 else (b : Int) % 5 + 1) = ((fitB a b : Nat) : Int) := by
  unfold fitB
  by_cases h : b % 5 = a % 5
  · rw [if_pos h, if_pos (by rw [beq_iff_eq]; omega)]; omega
  · rw [if_neg h, if_neg (by rw [beq_iff_eq]; omega)]; omega
theorem one_eq (d : Nat) : (if (d : Int) < 1 then (1 : Int) else d) = ((atOne d : Nat) : Int) := by
  unfold atOne
  by_cases h : d < 1
  · rw [if_pos h, if_pos (by omega)]; rfl
  · rw [if_neg h, if_neg (by omega)]
theorem fitS_eq (s : ByteArray) : (if 8158 < (s.size : Int) then s.extract 0 8158 else s) = fitS s := by
  unfold fitS
  by_cases h : 8158 < s.size
  · rw [if_pos h, if_pos (by omega)]
  · rw [if_neg h, if_neg (by omega)]
theorem fitV_eq (a b c d e t g : Nat) (h : Bool) (s : ByteArray) : fitV a b c d e t g h s = .agg #[.int .u8 ((a % 5 + 1 : Nat) : Int), .int .u8 ((fitB a b : Nat) : Int), .int .u8 (((if h = true then fitB a b else a % 5 + 1) : Nat) : Int), .int .u16 ((atOne d : Nat) : Int), .int .u32 ((atOne e : Nat) : Int), .int .u64 t, .int .u32 ((atOne g : Nat) : Int), .bool h, .string (fitS s)] := by
  unfold fitV
  rw [fitB_eq, one_eq, one_eq, one_eq, fitS_eq]
  have ea : ((a : Int) % 5 + 1) = ((a % 5 + 1 : Nat) : Int) := by omega
  rw [ea]
  cases h <;> rfl
theorem concordlaw21_fit.calls (a0_0 a0_1 a0_2 a0_3 a0_4 a0_5 a0_6 : Int) (a0_7 : Bool) (a0_8 : ByteArray) (r1 r2 r3 r4 r5 r6 r7 : Int) (r8 : Bool) (r9 : ByteArray) (w : World) (h : concordlaw21_fit.f a0_0 a0_1 a0_2 a0_3 a0_4 a0_5 a0_6 a0_7 a0_8 = some (r1, r2, r3, r4, r5, r6, r7, r8, r9)) :
    Calls Try.prog 16 #[.agg #[.int .u8 a0_0, .int .u8 a0_1, .int .u8 a0_2, .int .u16 a0_3, .int .u32 a0_4, .int .u64 a0_5, .int .u32 a0_6, .bool a0_7, .string a0_8]] w fun e w' => e = .returned (.agg #[.int .u8 r1, .int .u8 r2, .int .u8 r3, .int .u16 r4, .int .u32 r5, .int .u64 r6, .int .u32 r7, .bool r8, .string r9]) ∧ Below w.heap.size w w' := by
  unfold concordlaw21_fit.f at h
  by_cases hg : Fr a0_0 a0_1 a0_2 a0_3 a0_4 a0_5 a0_6
  · rw [if_pos hg] at h
    have h' := Option.some.inj h
    obtain ⟨a, b, c, d, e, t, g, rfl, rfl, rfl, rfl, rfl, rfl, rfl⟩ := hg.nats
    obtain ⟨h1, h2, h3, h4, h5, h6, h7⟩ := hg
    simp only [Int.toNat_natCast] at h'
    unfold fitT at h'
    simp only [Prod.mk.injEq] at h'
    obtain ⟨rfl, rfl, rfl, rfl, rfl, rfl, rfl, rfl, rfl⟩ := h'
    rw [← fitV_eq a b c d e t g a0_7 a0_8]
    exact fit_walk a b c d e t g a0_7 a0_8 w (by omega) (by omega)
  · rw [if_neg hg] at h; cases h
/-- What fit makes. -/
theorem fit_ex (a0 b0 c0 d0 e0 t0 g0 : Int) (h : Bool) (s : ByteArray) (hF : Fr a0 b0 c0 d0 e0 t0 g0) : ∃ (a b c d e t g : Nat) (bd : ByteArray), concordlaw21_fit.f a0 b0 c0 d0 e0 t0 g0 h s = some ((a : Int), (b : Int), (c : Int), (d : Int), (e : Int), (t : Int), (g : Int), h, bd) ∧ a < 256 ∧ b < 256 ∧ c < 256 ∧ d < 65536 ∧ e < 4294967296 ∧ t < 18446744073709551616 ∧ g < 4294967296 ∧ May a b c d e g h bd.size := by
  have hF' := hF
  obtain ⟨a, b, c, d, e, t, g, rfl, rfl, rfl, rfl, rfl, rfl, rfl⟩ := hF.nats
  obtain ⟨h1, h2, h3, h4, h5, h6, h7⟩ := hF
  have hB : fitB a b ≤ 5 ∧ 1 ≤ fitB a b ∧ fitB a b ≠ a % 5 + 1 := by unfold fitB; split <;> omega
  have ho : ∀ d : Nat, atOne d ≠ 0 ∧ (atOne d ≤ d ∨ atOne d = 1) := fun d => by unfold atOne; split <;> omega
  have hS : (fitS s).size ≤ 8158 := by
    unfold fitS
    split
    · rw [ByteArray.size_extract]; omega
    · omega
  refine ⟨a % 5 + 1, fitB a b, if h = true then fitB a b else a % 5 + 1, atOne d, atOne e, t, atOne g, fitS s, ?_, by omega, by omega, ?_, ?_, ?_, by omega, ?_, ?_⟩
  · rw [concordlaw21_fit.f, if_pos hF']
    rfl
  · split <;> omega
  · have := ho d; omega
  · have := ho e; omega
  · have := ho g; omega
  · exact ⟨by omega, by omega, by omega, rfl, (ho d).1, (ho e).1, (ho g).1, hS⟩
end Go.Proofs.Ytgboppgghidgbaa.My
