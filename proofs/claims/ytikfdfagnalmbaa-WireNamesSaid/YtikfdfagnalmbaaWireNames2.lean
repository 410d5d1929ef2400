/- Of no writer and no reader: the law's walk. -/
import Derived.Test.YtikfdfagnalmbaaWireNames
namespace Go.Proofs.Ytikfdfagnalmbaa.My
open Go.RowKit Go.Proofs.YtikfdfagnalmbaaW.PrintWords Go.Proofs.YtikfdfagnalmbaaW.PrintLast Go.Proofs.Ytikfdfagnalmbaa
set_option maxRecDepth 100000
set_option maxHeartbeats 4000000
theorem WireNames_walk (w : World) : Calls Try.prog 9 #[] w fun e w' => e = .returned (.bool true) ∧ Below w.heap.size w w' := by
  have HB0 := Aside0.mk (Below.refl w.heap.size w)
  go_enter Try.func9, Try.ntmps9
  go_wp2_with fail
  go_loopw [3] (fun i wr => ∃ k : Nat, k ≤ 9 ∧ i = .int .i64 k ∧ Aside0 (Below w.heap.size w wr)) (fun i _ => 9 - (intOf i).toNat)
  case atStart => exact ⟨0, by omega, rfl, HB0⟩
  case round =>
    obtain ⟨k, hk, rfl, HB⟩ := hrel
    by_cases hlt : k < 9
    · rcases Nat.lt_or_ge k 1 with h | h
      · obtain rfl : k = 0 := by omega
        rw [show ((0 : Nat) : Int) = 0 from rfl]
        go_wp2_with (first | (go_at_call 21; refine (put0 _).mono ?_; rintro e w1 ⟨rfl, hb⟩; have HB1 := Aside0.mk (HB.out.trans (hb.mono (below_size HB.out))); clear hb) | (go_at_call 22; refine (wLen _).mono ?_; rintro e w1 ⟨rfl, rfl⟩) | (go_at_call 23; refine (wTold _).mono ?_; rintro e w1 ⟨rfl, rfl⟩))
        exact ⟨⟨1, by omega, rfl, HB1⟩, by simp [intOf]⟩
      · rcases Nat.lt_or_ge k 2 with h | h
        · obtain rfl : k = 1 := by omega
          rw [show ((1 : Nat) : Int) = 1 from rfl]
          go_wp2_with (first | (go_at_call 21; refine (put1 _).mono ?_; rintro e w1 ⟨rfl, hb⟩; have HB1 := Aside0.mk (HB.out.trans (hb.mono (below_size HB.out))); clear hb) | (go_at_call 22; refine (wLen _).mono ?_; rintro e w1 ⟨rfl, rfl⟩) | (go_at_call 23; refine (wTold _).mono ?_; rintro e w1 ⟨rfl, rfl⟩))
          exact ⟨⟨2, by omega, rfl, HB1⟩, by simp [intOf]⟩
        · rcases Nat.lt_or_ge k 3 with h | h
          · obtain rfl : k = 2 := by omega
            rw [show ((2 : Nat) : Int) = 2 from rfl]
            go_wp2_with (first | (go_at_call 21; refine (put2 _).mono ?_; rintro e w1 ⟨rfl, hb⟩; have HB1 := Aside0.mk (HB.out.trans (hb.mono (below_size HB.out))); clear hb) | (go_at_call 22; refine (wLen _).mono ?_; rintro e w1 ⟨rfl, rfl⟩) | (go_at_call 23; refine (wTold _).mono ?_; rintro e w1 ⟨rfl, rfl⟩))
            exact ⟨⟨3, by omega, rfl, HB1⟩, by simp [intOf]⟩
          · rcases Nat.lt_or_ge k 4 with h | h
            · obtain rfl : k = 3 := by omega
              rw [show ((3 : Nat) : Int) = 3 from rfl]
              go_wp2_with (first | (go_at_call 21; refine (put3 _).mono ?_; rintro e w1 ⟨rfl, hb⟩; have HB1 := Aside0.mk (HB.out.trans (hb.mono (below_size HB.out))); clear hb) | (go_at_call 22; refine (wLen _).mono ?_; rintro e w1 ⟨rfl, rfl⟩) | (go_at_call 23; refine (wTold _).mono ?_; rintro e w1 ⟨rfl, rfl⟩))
              exact ⟨⟨4, by omega, rfl, HB1⟩, by simp [intOf]⟩
            · rcases Nat.lt_or_ge k 5 with h | h
              · obtain rfl : k = 4 := by omega
                rw [show ((4 : Nat) : Int) = 4 from rfl]
                go_wp2_with (first | (go_at_call 21; refine (put4 _).mono ?_; rintro e w1 ⟨rfl, hb⟩; have HB1 := Aside0.mk (HB.out.trans (hb.mono (below_size HB.out))); clear hb) | (go_at_call 22; refine (wLen _).mono ?_; rintro e w1 ⟨rfl, rfl⟩) | (go_at_call 23; refine (wTold _).mono ?_; rintro e w1 ⟨rfl, rfl⟩))
                exact ⟨⟨5, by omega, rfl, HB1⟩, by simp [intOf]⟩
              · rcases Nat.lt_or_ge k 6 with h | h
                · obtain rfl : k = 5 := by omega
                  rw [show ((5 : Nat) : Int) = 5 from rfl]
                  go_wp2_with (first | (go_at_call 21; refine (put5 _).mono ?_; rintro e w1 ⟨rfl, hb⟩; have HB1 := Aside0.mk (HB.out.trans (hb.mono (below_size HB.out))); clear hb) | (go_at_call 22; refine (wLen _).mono ?_; rintro e w1 ⟨rfl, rfl⟩) | (go_at_call 23; refine (wTold _).mono ?_; rintro e w1 ⟨rfl, rfl⟩))
                  exact ⟨⟨6, by omega, rfl, HB1⟩, by simp [intOf]⟩
                · rcases Nat.lt_or_ge k 7 with h | h
                  · obtain rfl : k = 6 := by omega
                    rw [show ((6 : Nat) : Int) = 6 from rfl]
                    go_wp2_with (first | (go_at_call 21; refine (put6 _).mono ?_; rintro e w1 ⟨rfl, hb⟩; have HB1 := Aside0.mk (HB.out.trans (hb.mono (below_size HB.out))); clear hb) | (go_at_call 22; refine (wLen _).mono ?_; rintro e w1 ⟨rfl, rfl⟩) | (go_at_call 23; refine (wTold _).mono ?_; rintro e w1 ⟨rfl, rfl⟩))
                    exact ⟨⟨7, by omega, rfl, HB1⟩, by simp [intOf]⟩
                  · rcases Nat.lt_or_ge k 8 with h | h
                    · obtain rfl : k = 7 := by omega
                      rw [show ((7 : Nat) : Int) = 7 from rfl]
                      go_wp2_with (first | (go_at_call 21; refine (put7 _).mono ?_; rintro e w1 ⟨rfl, hb⟩; have HB1 := Aside0.mk (HB.out.trans (hb.mono (below_size HB.out))); clear hb) | (go_at_call 22; refine (wLen _).mono ?_; rintro e w1 ⟨rfl, rfl⟩) | (go_at_call 23; refine (wTold _).mono ?_; rintro e w1 ⟨rfl, rfl⟩))
                      exact ⟨⟨8, by omega, rfl, HB1⟩, by simp [intOf]⟩
                    · skip
                      obtain rfl : k = 8 := by omega
                      rw [show ((8 : Nat) : Int) = 8 from rfl]
                      go_wp2_with (first | (go_at_call 21; refine (put8 _).mono ?_; rintro e w1 ⟨rfl, hb⟩; have HB1 := Aside0.mk (HB.out.trans (hb.mono (below_size HB.out))); clear hb) | (go_at_call 22; refine (wLen _).mono ?_; rintro e w1 ⟨rfl, rfl⟩) | (go_at_call 23; refine (wTold _).mono ?_; rintro e w1 ⟨rfl, rfl⟩))
                      exact ⟨⟨9, by omega, rfl, HB1⟩, by simp [intOf]⟩
    · obtain rfl : k = 9 := by omega
      rw [show ((9 : Nat) : Int) = 9 from rfl]
      go_wp2_with (first | (go_at_call 33; refine (rFail _ _).mono ?_; rintro e w1 ⟨rfl, rfl⟩) | (go_at_call 34; refine (rByte _).mono ?_; rintro e w1 ⟨rfl, rfl⟩) | (go_at_call 35; refine (rSmall _).mono ?_; rintro e w1 ⟨rfl, rfl⟩) | (go_at_call 36; refine (rFixed _).mono ?_; rintro e w1 ⟨rfl, rfl⟩) | (go_at_call 37; refine (rUint _ _).mono ?_; rintro e w1 ⟨rfl, rfl⟩) | (go_at_call 38; refine (rInt _).mono ?_; rintro e w1 ⟨rfl, rfl⟩) | (go_at_call 39; refine (same0 _).mono ?_; rintro e w1 ⟨rfl, rfl⟩) | (go_at_call 40; refine (rFloat _).mono ?_; rintro e w1 ⟨rfl, rfl⟩) | (go_at_call 41; refine (rText _).mono ?_; rintro e w1 ⟨rfl, rfl⟩) | (go_at_call 42; refine (rRaw _).mono ?_; rintro e w1 ⟨rfl, rfl⟩) | (go_at_call 25; refine (rAt _).mono ?_; rintro e w1 ⟨rfl, rfl⟩) | (go_at_call 26; refine (rLeft _).mono ?_; rintro e w1 ⟨rfl, rfl⟩) | (go_at_call 27; refine (rErr _).mono ?_; rintro e w1 ⟨rfl, rfl⟩))
      refine (rEnd _).mono ?_
      rintro e w1 ⟨rfl, hb⟩
      have HB1 := HB.out.trans (hb.mono (below_size HB.out))
      clear hb HB
      go_wp2_with fail
      go_ret
      exact ⟨rfl, HB1⟩
end Go.Proofs.Ytikfdfagnalmbaa.My
