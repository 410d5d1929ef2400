/- The reference's Decode, and alive, as the printed text wants them. -/
import Derived.Test.YtgboppgghidgbaaFrRefDec
namespace Go.Proofs.Ytgboppgghidgbaa.My
open Go.RowKit Go.Proofs.YtgboppgghidgbaaW.PrintWords Go.Proofs.YtgboppgghidgbaaW.PrintLast Go.Proofs.YtgboppgghidgbaaW.PrintMore Go.Proofs.Ytgboppgghidgbaa
set_option linter.unusedSimpArgs false
set_option linter.unusedVariables false
set_option maxRecDepth 100000
set_option maxHeartbeats 800000
theorem refDec_short (s : ByteArray) (w : World) (h : s.size < 34) : Calls Try.prog 15 #[.string s] w fun r w' => r = .returned badV ∧ Below w.heap.size w w' := by
  unfold badV
  go_enter Try.func15, Try.ntmps15
  go_wp2_with fail
  refine bodyPost_ret (v := .tuple #[.agg #[.int .u8 0, .int .u8 0, .int .u8 0, .int .u16 0, .int .u32 0, .int .u64 0, .int .u32 0, .bool false, .string ⟨#[]⟩], .int .i64 210]) (by simp [results, Try.results15, go_sem]) rfl ⟨rfl, ?_⟩
  repeat (first | (with_reducible exact Below.refl _ _) | (with_reducible apply below_alloc) | (with_reducible refine below_set ?_ (Nat.le_refl _)))
/-- The bytes are a frame's just if its fields tell them. -/
theorem decOk_iff (s : ByteArray) (h34 : 34 ≤ s.size) (tz : ByteArray) (te : Int) (hE : encR (fN s 8 1) (fN s 9 1) (fN s 10 1) (fN s 11 2) (fN s 13 4) (fN s 17 8) (fN s 25 4) (fN s 29 1 == 1) (s.extract 30 (s.size - 4)) = (tz, te)) : (te = 0 ∧ tz = s) ↔ DecOk s := by
  have ha := fN_lt s 8 1
  have hb := fN_lt s 9 1
  have hc := fN_lt s 10 1
  have hd := fN_lt s 11 2
  have he := fN_lt s 13 4
  have ht := fN_lt s 17 8
  have hg := fN_lt s 25 4
  unfold encR at hE
  by_cases hM : May (fN s 8 1) (fN s 9 1) (fN s 10 1) (fN s 11 2) (fN s 13 4) (fN s 25 4) (fN s 29 1 == 1) (s.extract 30 (s.size - 4)).size
  · rw [if_pos hM] at hE
    obtain ⟨rfl, rfl⟩ := Prod.mk.inj hE
    constructor
    · rintro ⟨_, hs⟩
      have hn := encF_nats (fN s 8 1) (fN s 9 1) (fN s 10 1) (fN s 11 2) (fN s 13 4) (fN s 17 8) (fN s 25 4) (fN s 29 1 == 1) (s.extract 30 (s.size - 4)) (by omega) (by omega) (by omega)
      rw [hs] at hn
      obtain ⟨_, hk, _, _, _, _, _, _, _, f8, _, f10⟩ := fields s _ _ _ _ _ _ _ _ _ hn (by omega) (by omega) (by omega) (by omega) (by omega) (by omega) (by omega) hM.2.2.2.2.2.2.2
      exact ⟨hk, by rw [f8]; split <;> omega, f10, hM⟩
    · intro hd2
      refine ⟨rfl, ?_⟩
      apply natsOf_inj
      rw [encF_nats _ _ _ _ _ _ _ _ _ (by omega) (by omega) (by omega), ← refields s hd2.1 hd2.2.1 hd2.2.2.1]
  · rw [if_neg hM] at hE
    obtain ⟨rfl, rfl⟩ := Prod.mk.inj hE
    exact ⟨fun h => by omega, fun h => absurd h.2.2.2 hM⟩
def concordref21_Decode.f (a0 : ByteArray) : Option (Int × Int × Int × Int × Int × Int × Int × Bool × ByteArray × Int) := if a0.size ≤ 140737488351232 then some (decT a0) else none
theorem concordref21_Decode.calls (a0 : ByteArray) (r1 r2 r3 r4 r5 r6 r7 : Int) (r8 : Bool) (r9 : ByteArray) (r10 : Int) (w : World) (h : concordref21_Decode.f a0 = some (r1, r2, r3, r4, r5, r6, r7, r8, r9, r10)) :
    Calls Try.prog 15 #[.string a0] w fun e w' => e = .returned (.tuple #[.agg #[.int .u8 r1, .int .u8 r2, .int .u8 r3, .int .u16 r4, .int .u32 r5, .int .u64 r6, .int .u32 r7, .bool r8, .string r9], .int .i64 r10]) ∧ Below w.heap.size w w' := by
  unfold concordref21_Decode.f at h
  by_cases hs : a0.size ≤ 140737488351232
  · rw [if_pos hs] at h
    have h' := Option.some.inj h
    by_cases h34 : a0.size < 34
    · refine (refDec_short a0 w h34).mono ?_
      rintro e w' ⟨rfl, hb⟩
      refine ⟨congrArg Ending.returned ?_, hb⟩
      have hd : ¬ DecOk a0 := fun z => by have := z.1.1.1; omega
      unfold decT at h'
      rw [if_neg hd] at h'
      simp only [Prod.mk.injEq] at h'
      obtain ⟨rfl, rfl, rfl, rfl, rfl, rfl, rfl, rfl, rfl, rfl⟩ := h'
      rfl
    · have ha := fN_lt a0 8 1
      have hb := fN_lt a0 9 1
      have hc := fN_lt a0 10 1
      have hd := fN_lt a0 11 2
      have he := fN_lt a0 13 4
      have ht := fN_lt a0 17 8
      have hg := fN_lt a0 25 4
      obtain ⟨tz, te, hE⟩ : ∃ tz te, encR (fN a0 8 1) (fN a0 9 1) (fN a0 10 1) (fN a0 11 2) (fN a0 13 4) (fN a0 17 8) (fN a0 25 4) (fN a0 29 1 == 1) (a0.extract 30 (a0.size - 4)) = (tz, te) := ⟨_, _, rfl⟩
      have hiff := decOk_iff a0 (by omega) tz te hE
      have hR := refEnc_f (fN a0 8 1) (fN a0 9 1) (fN a0 10 1) (fN a0 11 2) (fN a0 13 4) (fN a0 17 8) (fN a0 25 4) 12 (fN a0 29 1 == 1) (a0.extract 30 (a0.size - 4)) (by omega) (by omega) (by omega) (by omega) (by omega) (by omega) (by omega) (by omega)
      rw [hE] at hR
      refine (refDec_walk a0 w hs (by omega) _ _ _ _ _ _ _ _ rfl rfl rfl rfl rfl rfl rfl rfl _ rfl te tz hR).mono ?_
      rintro e w' ⟨rfl, hbl⟩
      refine ⟨congrArg Ending.returned ?_, hbl⟩
      unfold refV
      unfold decT at h'
      by_cases hok : DecOk a0
      · rw [if_pos hok] at h'
        rw [if_pos (hiff.2 hok)]
        simp only [Prod.mk.injEq] at h'
        obtain ⟨rfl, rfl, rfl, rfl, rfl, rfl, rfl, rfl, rfl, rfl⟩ := h'
        rfl
      · rw [if_neg hok] at h'
        rw [if_neg (fun z => hok (hiff.1 z))]
        simp only [Prod.mk.injEq] at h'
        obtain ⟨rfl, rfl, rfl, rfl, rfl, rfl, rfl, rfl, rfl, rfl⟩ := h'
        rfl
  · rw [if_neg hs] at h; cases h
def concordlaw21_alive.f : Option Bool := some true
theorem concordlaw21_alive.calls (r : Bool) (w : World) (h : concordlaw21_alive.f = some r) : Calls Try.prog 13 #[] w fun e w' => e = .returned (.bool r) ∧ Below w.heap.size w w' := by
  obtain rfl := Option.some.inj h
  exact PG.concordlaw21_alive.calls true w alive_f
end Go.Proofs.Ytgboppgghidgbaa.My
