/- page.Blank and page.Decode, as the printed texts want them. -/
import Derived.Test.YtjfhdnknaphjaaaPgDec
import Derived.Test.YtjfhdnknaphjaaaRefOn
namespace Go.Proofs.Ytjfhdnknaphjaaa.My
open Go.RowKit Go.Proofs.YtjfhdnknaphjaaaW.PrintWords Go.Proofs.Ytjfhdnknaphjaaa

def page_Blank.f (l0 : List Int) : Option Bool := some (allZero l0)
theorem page_Blank.calls (A0 : Option Addr) (c0 : Nat) (l0 : List Int) (r : Bool) (w : World) (hr0 : Kd.C (Kd.int .u8) w A0 l0.length l0) (_hc0 : l0.length ≤ c0) (h : page_Blank.f l0 = some r) :
    Calls Try.prog 13 #[.slice A0 l0.length c0] w fun e w' => e = .returned (.bool r) ∧ Drawn0 w w' := by
  obtain rfl := Option.some.inj h
  exact (Blank_calls A0 c0 l0 w hr0).mono fun _ _ ⟨he, hw⟩ => ⟨he, by rw [← hw]; exact Drawn0.refl _⟩

def page_Decode.f (l0 : List Int) (a1 : Int) : Option (Int × Int × Int × ByteArray × Int) := if Bytes l0 ∧ 0 ≤ a1 ∧ a1 < 4294967296 then some (decL l0 a1.toNat) else none
theorem page_Decode.calls (A0 : Option Addr) (c0 : Nat) (l0 : List Int) (a1 : Int) (r1 r2 r3 : Int) (r4 : ByteArray) (r5 : Int) (w : World) (hr0 : Kd.C (Kd.int .u8) w A0 l0.length l0) (hc0 : l0.length ≤ c0) (h : page_Decode.f l0 a1 = some (r1, r2, r3, r4, r5)) :
    Calls Try.prog 20 #[.slice A0 l0.length c0, .int .u32 a1] w fun e w' => e = .returned (.tuple #[.agg #[.int .u8 r1, .int .u32 r2, .int .u64 r3, .string r4], .int .i64 r5]) ∧ Below w.heap.size w w' := by
  unfold page_Decode.f at h
  by_cases hg : Bytes l0 ∧ 0 ≤ a1 ∧ a1 < 4294967296
  · rw [if_pos hg] at h
    obtain ⟨hb, h0, h1⟩ := hg
    obtain ⟨number, rfl⟩ := Int.eq_ofNat_of_zero_le h0
    simp only [Int.toNat_natCast] at h
    have hd := Option.some.inj h
    have hv : pgV (decL l0 number) = .tuple #[.agg #[.int .u8 r1, .int .u32 r2, .int .u64 r3, .string r4], .int .i64 r5] := by rw [hd]; rfl
    rw [← hv]
    by_cases hl : l0.length = 1024
    · obtain ⟨ad, rfl, _⟩ := hr0.2.2 (by omega)
      cases hz : allZero l0 with
      | true => exact Dec_blank (some ad) c0 l0 number w hr0 hl hz
      | false =>
        by_cases hn : 996 < lenOf l0
        · exact Dec_long ad c0 l0 number w hr0 hc0 hl hz hb hn
        · exact Dec_main ad c0 l0 number w hr0 hc0 hl hz hb (by omega) (by omega)
    · exact Dec_len A0 c0 l0 number w hl
  · rw [if_neg hg] at h; cases h
end Go.Proofs.Ytjfhdnknaphjaaa.My
