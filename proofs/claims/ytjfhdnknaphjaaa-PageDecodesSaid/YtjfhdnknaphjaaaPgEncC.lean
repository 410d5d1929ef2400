/- page.Encode for every page: what it answers, as one function. -/
import Derived.Test.YtjfhdnknaphjaaaPgEnc
namespace Go.Proofs.Ytjfhdnknaphjaaa.My
open Go.RowKit Go.Proofs.YtjfhdnknaphjaaaW.PrintWords Go.Proofs.Ytjfhdnknaphjaaa

theorem R_bobj {w : World} {g base n : Nat} {l : List Int} (h : w.heap[g]? = some (bobj l)) (hb : base ≤ g) (hn : l.length = n) (hm : n ≤ 140737488355328) :
    Kd.R (Kd.int .u8) 5 w base (fun _ => True) (.slice (some ⟨g, 0, none⟩) n n) l := by
  refine Kd.R_of_own ⟨by simp [encs], .inr ⟨g, n, _, by rw [hn], hb, h, by omega, by simp only [maxLen]; omega, by simp [hn], ?_⟩⟩ (fun _ _ => trivial)
  simp only [encs]
  rw [List.take_of_length_le (by simp [hn])]
def page_Encode.f (a0_0 a0_1 a0_2 : Int) (a0_3 : ByteArray) : Option (List Int × Int) :=
  if 0 ≤ a0_0 ∧ a0_0 < 256 ∧ 0 ≤ a0_1 ∧ a0_1 < 4294967296 ∧ 0 ≤ a0_2 then
    (if a0_2 > 4611686018427387904 then some ([], 1) else if a0_3.size > 996 then some ([], 82) else some (encL a0_0.toNat a0_1.toNat a0_2.toNat a0_3, 0)) else none
theorem encL_len (kind number serial : Nat) (body : ByteArray) (hb : body.size ≤ 996) : (encL kind number serial body).length = 1024 := by
  have h1 : (over zs 0 (be 8 serial)).length = 1024 := by rw [over_len _ _ _ (by rw [be_len, zs_len]; omega), zs_len]
  have h2 : ((over zs 0 (be 8 serial)).set 8 (kind : Int)).length = 1024 := by rw [List.length_set, h1]
  have h3 : (over ((over zs 0 (be 8 serial)).set 8 (kind : Int)) 10 (be 2 body.size)).length = 1024 := by rw [over_len _ _ _ (by rw [be_len, h2]; omega), h2]
  have h4 : (over (over ((over zs 0 (be 8 serial)).set 8 (kind : Int)) 10 (be 2 body.size)) 12 (be 4 number)).length = 1024 := by rw [over_len _ _ _ (by rw [be_len, h3]; omega), h3]
  have h5 : (over (over (over ((over zs 0 (be 8 serial)).set 8 (kind : Int)) 10 (be 2 body.size)) 12 (be 4 number)) 20 (intsOf body)).length = 1024 := by rw [over_len _ _ _ (by rw [intsOf_len, h4]; omega), h4]
  have h6 : (encB kind number serial body).length = 1024 := by unfold encB; rw [over_len _ _ _ (by rw [be_len, h5]; omega), h5]
  unfold encL
  rw [over_len _ _ _ (by rw [be_len, h6]; omega), h6]

set_option maxRecDepth 100000 in
set_option maxHeartbeats 1000000 in
theorem Enc_big (kind number serial : Nat) (body : ByteArray) (w : World) (hs : serial ≤ 4611686018427387904) (hb : 996 < body.size) :
    Calls Try.prog 17 #[.agg #[.int .u8 kind, .int .u32 number, .int .u64 serial, .string body]] w fun e w' => ∃ v0_ : Value, e = .returned (.tuple #[v0_, .int .i64 82]) ∧ Kd.R (Kd.int .u8) 5 w' w.heap.size (fun _ => True) v0_ [] ∧ Below w.heap.size w w' := by
  go_enter Try.func17, Try.ntmps17
  go_wp2_with fail
  go_ret2
  refine ⟨.slice none 0 0, rfl, Kd.R_nil _ _ _ _ _, ?_⟩
  exact (Below.refl _ _).alloc (Nat.le_refl _) _
set_option maxRecDepth 100000 in
set_option maxHeartbeats 1000000 in
theorem page_Encode.calls (a0_0 a0_1 a0_2 : Int) (a0_3 : ByteArray) (r1 : List Int) (r2 : Int) (w : World) (h : page_Encode.f a0_0 a0_1 a0_2 a0_3 = some (r1, r2)) :
    Calls Try.prog 17 #[.agg #[.int .u8 a0_0, .int .u32 a0_1, .int .u64 a0_2, .string a0_3]] w fun e w' => ∃ v0_ : Value, e = .returned (.tuple #[v0_, .int .i64 r2]) ∧ Kd.R (Kd.int .u8) 5 w' w.heap.size (fun _ => True) v0_ r1 ∧ Below w.heap.size w w' := by
  unfold page_Encode.f at h
  by_cases hg : 0 ≤ a0_0 ∧ a0_0 < 256 ∧ 0 ≤ a0_1 ∧ a0_1 < 4294967296 ∧ 0 ≤ a0_2
  · rw [if_pos hg] at h
    obtain ⟨g0, g1, g2, g3, g4⟩ := hg
    obtain ⟨kind, rfl⟩ := Int.eq_ofNat_of_zero_le g0
    obtain ⟨number, rfl⟩ := Int.eq_ofNat_of_zero_le g2
    obtain ⟨serial, rfl⟩ := Int.eq_ofNat_of_zero_le g4
    simp only [Int.toNat_natCast] at h
    by_cases h1 : (serial : Int) > 4611686018427387904
    · rw [if_pos h1] at h
      obtain ⟨rfl, rfl⟩ := Prod.mk.inj (Option.some.inj h)
      clear h
      go_enter Try.func17, Try.ntmps17
      go_wp2
      go_ret2
      refine ⟨.slice none 0 0, rfl, Kd.R_nil _ _ _ _ _, ?_⟩
      exact (Below.refl _ _).alloc (Nat.le_refl _) _
    · rw [if_neg h1] at h
      by_cases h2 : a0_3.size > 996
      · rw [if_pos h2] at h
        obtain ⟨rfl, rfl⟩ := Prod.mk.inj (Option.some.inj h)
        exact Enc_big kind number serial a0_3 w (by omega) (by omega)
      · rw [if_neg h2] at h
        obtain ⟨rfl, rfl⟩ := Prod.mk.inj (Option.some.inj h)
        refine (Enc_ok kind number serial a0_3 w (by omega) (by omega) (by omega) (by omega)).mono ?_
        rintro e w' ⟨v, rfl, ⟨g, rfl, hgb, hrow⟩, hbel⟩
        exact ⟨_, rfl, R_bobj hrow hgb (encL_len _ _ _ _ (by omega)) (by omega), hbel⟩
  · rw [if_neg hg] at h; cases h
end Go.Proofs.Ytjfhdnknaphjaaa.My
