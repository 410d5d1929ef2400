/- page.Ends: the numbers at both ends of a page's bytes. -/
import Derived.Test.YtjfhdnknaphjaaaTaken
import Derived.Deep.QuietTactic
import Derived.BigQuiet
namespace Go.Proofs.Ytjfhdnknaphjaaa.My
open Go.RowKit Go.Proofs.YtjfhdnknaphjaaaW.PrintWords Go.Proofs.Ytjfhdnknaphjaaa

def endsL (l : List Int) : Int × Int × Bool := if l.length = 1024 then ((beNat (l.take 8) : Nat), (beNat (l.drop 1016) : Nat), true) else (0, 0, false)
set_option maxRecDepth 100000 in
set_option maxHeartbeats 1000000 in
theorem Ends_calls (A0 : Option Addr) (c : Nat) (l : List Int) (w : World) (hr : Kd.C (Kd.int .u8) w A0 l.length l) (hc : l.length ≤ c) (hb : Bytes l) :
    Calls Try.prog 12 #[.slice A0 l.length c] w fun e w' => e = .returned (.tuple #[.int .u64 (endsL l).1, .int .u64 (endsL l).2.1, .bool (endsL l).2.2]) ∧ Drawn0 w w' := by
  by_cases hl : l.length = 1024
  · obtain ⟨ad, rfl, _⟩ := hr.2.2 (by omega)
    have hd : Aside0 (endsL l = (((beNat (l.take 8) : Nat) : Int), ((beNat (l.drop 1016) : Nat) : Int), true)) := ⟨by unfold endsL; rw [if_pos hl]⟩
    have ht : ((l.length : Int) != 1024) = false := by rw [bne_eq_false_iff_eq]; omega
    have HA := Aside0.mk (C_cut (lo := 0) (hi := 8) hr (by omega) (by omega))
    have HZ := Aside0.mk (C_cut (lo := 1016) (hi := 1024) hr (by omega) (by omega))
    rw [show l.take 1024 = l from List.take_of_length_le (by omega)] at HZ
    have EA : Aside0 ((l.take 8).length = 8) := ⟨by rw [List.length_take]; omega⟩
    have EZ : Aside0 ((l.drop 1016).length = 8) := ⟨by rw [List.length_drop]; omega⟩
    have hcA : ∀ W' : World, Kd.C (Kd.int .u8) W' (some ad) 8 (l.take 8) → Calls Try.prog 24 #[.slice (some ad) 8 c] W' fun e w' => e = .returned (.int .u64 ((beNat (l.take 8) : Nat) : Int)) ∧ w' = W' := fun W' h =>
      (taken_calls (some ad) 8 c (l.take 8) W' EA.out h (bytes_cut hb 0 8) (by omega)).mono fun _ _ ⟨a, b⟩ => ⟨a, b.symm⟩
    have hcZ : ∀ W' : World, Kd.C (Kd.int .u8) W' (some (ad.add 1016)) 8 (l.drop 1016) → Calls Try.prog 24 #[.slice (some { block := ad.block, off := ad.off + 1016 }) 8 (c - 1016)] W' fun e w' => e = .returned (.int .u64 ((beNat (l.drop 1016) : Nat) : Int)) ∧ w' = W' := fun W' h =>
      (taken_calls (some (ad.add 1016)) 8 (c - 1016) (l.drop 1016) W' EZ.out h (fun x hx => hb x (List.mem_of_mem_drop hx)) (by omega)).mono fun _ _ ⟨a, b⟩ => ⟨a, b.symm⟩
    have HCA := Aside0.mk hcA
    have HCZ := Aside0.mk hcZ
    have h1 : ¬ c = 1016 := by omega
    have h2 : (8 : Int) ≤ (c : Int) := by omega
    have h3 : (1016 : Int) ≤ (l.length : Int) := by omega
    have hlen : l.length - 1016 = 8 := by omega
    have ZA : Aside0 (Kd.C (Kd.int .u8) w (some ad) 8 (l.take 8)) := ⟨by have := HA.out; rw [List.drop_zero, Addr.add_zero'] at this; exact this⟩
    clear hl hr hcA hcZ hb HA
    go_enter Try.func12, Try.ntmps12
    go_wp2_with fail
    go_quiet ((first | (go_at_call_of 24 (some ad); refine Calls.quiet_of_same (HCA.out _ (Kd.C_drewN ZA.out _))) | (go_at_call 24; refine Calls.quiet_of_same (HCZ.out _ (Kd.C_drewN HZ.out _)))))
    go_wp2_with fail
    go_ret3
    rw [hd.out]
    exact ⟨rfl, ⟨_, rfl⟩⟩
  · have hd : Aside0 (endsL l = (0, 0, false)) := ⟨by unfold endsL; rw [if_neg hl]⟩
    have ht : ((l.length : Int) != 1024) = true := by rw [bne_iff_ne]; omega
    clear hl hr
    go_enter Try.func12, Try.ntmps12
    go_wp2_with fail
    go_ret3
    rw [hd.out]
    exact ⟨rfl, Drawn0.refl _⟩
def page_Ends.f (l0 : List Int) : Option (Int × Int × Bool) := if Bytes l0 then some (endsL l0) else none
theorem page_Ends.calls (A0 : Option Addr) (c0 : Nat) (l0 : List Int) (r1 r2 : Int) (r3 : Bool) (w : World) (hr0 : Kd.C (Kd.int .u8) w A0 l0.length l0) (hc0 : l0.length ≤ c0) (h : page_Ends.f l0 = some (r1, r2, r3)) :
    Calls Try.prog 12 #[.slice A0 l0.length c0] w fun e w' => e = .returned (.tuple #[.int .u64 r1, .int .u64 r2, .bool r3]) ∧ Drawn0 w w' := by
  unfold page_Ends.f at h
  by_cases hg : Bytes l0
  · rw [if_pos hg] at h
    have hd := Option.some.inj h
    have := Ends_calls A0 c0 l0 w hr0 hc0 hg
    rw [hd] at this
    exact this
  · rw [if_neg hg] at h; cases h
end Go.Proofs.Ytjfhdnknaphjaaa.My
