/- frame.Decode, as the printed texts want it. -/
import Derived.Test.YtgboppgghidgbaaFrHd
import Derived.Test.YtgboppgghidgbaaFrGlue
namespace Go.Proofs.Ytgboppgghidgbaa.My
open Go.RowKit Go.Proofs.YtgboppgghidgbaaW.PrintWords Go.Proofs.Ytgboppgghidgbaa
/-- Are these bytes a frame. -/
def DecOk (s : ByteArray) : Prop := HeadOk s ∧ fN s 29 1 ≤ 1 ∧ fN s (s.size - 4) 4 = Crc.sum (bytesN (s.extract 0 (s.size - 4))) ∧ May (fN s 8 1) (fN s 9 1) (fN s 10 1) (fN s 11 2) (fN s 13 4) (fN s 25 4) (fN s 29 1 == 1) (s.extract 30 (s.size - 4)).size
instance (s : ByteArray) : Decidable (HeadOk s) := by unfold HeadOk; infer_instance
instance (s : ByteArray) : Decidable (DecOk s) := by unfold DecOk; infer_instance
def decT (s : ByteArray) : Int × Int × Int × Int × Int × Int × Int × Bool × ByteArray × Int :=
  if DecOk s then ((fN s 8 1 : Nat), (fN s 9 1 : Nat), (fN s 10 1 : Nat), (fN s 11 2 : Nat), (fN s 13 4 : Nat), (fN s 17 8 : Nat), (fN s 25 4 : Nat), (fN s 29 1 == 1), s.extract 30 (s.size - 4), 0) else (0, 0, 0, 0, 0, 0, 0, false, ⟨#[]⟩, 210)
def frame_Decode.f (a0 : ByteArray) : Option (Int × Int × Int × Int × Int × Int × Int × Bool × ByteArray × Int) := if a0.size ≤ 562949953421312 then some (decT a0) else none
theorem frame_Decode.calls (a0 : ByteArray) (r1 r2 r3 r4 r5 r6 r7 : Int) (r8 : Bool) (r9 : ByteArray) (r10 : Int) (w : World) (h : frame_Decode.f a0 = some (r1, r2, r3, r4, r5, r6, r7, r8, r9, r10)) :
    Calls Try.prog 14 #[.string a0] w fun e w' => e = .returned (.tuple #[.agg #[.int .u8 r1, .int .u8 r2, .int .u8 r3, .int .u16 r4, .int .u32 r5, .int .u64 r6, .int .u32 r7, .bool r8, .string r9], .int .i64 r10]) ∧ Below w.heap.size w w' := by
  unfold frame_Decode.f at h
  by_cases hs : a0.size ≤ 562949953421312
  · rw [if_pos hs] at h
    have h' := Option.some.inj h
    obtain ⟨n, ok, hh, hiff⟩ := head_ex a0 hs
    by_cases hok : HeadOk a0
    · obtain ⟨rfl, rfl, h34⟩ := hiff.2 hok
      refine (dec_good a0 w hok.1.2 h34 hh _ _ _ _ _ _ _ _ _ rfl rfl rfl rfl rfl rfl rfl rfl rfl _ rfl _ rfl).mono ?_
      rintro e w' ⟨rfl, hb⟩
      refine ⟨congrArg Ending.returned ?_, hb⟩
      unfold decT at h'
      by_cases hd : DecOk a0
      · rw [if_pos hd] at h'
        simp only [Prod.mk.injEq] at h'
        obtain ⟨rfl, rfl, rfl, rfl, rfl, rfl, rfl, rfl, rfl, rfl⟩ := h'
        exact (decV_ok hd.2).symm
      · rw [if_neg hd] at h'
        simp only [Prod.mk.injEq] at h'
        obtain ⟨rfl, rfl, rfl, rfl, rfl, rfl, rfl, rfl, rfl, rfl⟩ := h'
        exact (decV_bad (fun z => hd ⟨hok, z⟩)).symm
    · refine (dec_head a0 w hs n ok hh (fun z => hok (hiff.1 z))).mono ?_
      rintro e w' ⟨rfl, hb⟩
      refine ⟨congrArg Ending.returned ?_, hb⟩
      have hd : ¬ DecOk a0 := fun z => hok z.1
      unfold decT at h'
      rw [if_neg hd] at h'
      simp only [Prod.mk.injEq] at h'
      obtain ⟨rfl, rfl, rfl, rfl, rfl, rfl, rfl, rfl, rfl, rfl⟩ := h'
      rfl
  · rw [if_neg hs] at h; cases h
end Go.Proofs.Ytgboppgghidgbaa.My
