/- page.taken: the number in some bytes, the first one highest. -/
import Derived.Test.YtjfhdnknaphjaaaPgBlank
import Derived.Test.YtjfhdnknaphjaaaWWords
import Derived.Laws.BitsAllLaws
import Derived.KernelRfl
import Derived.WalkKit
import Derived.WalkLawsBesides
namespace Go.Proofs.Ytjfhdnknaphjaaa.My
open Go.RowKit Go.Proofs.YtjfhdnknaphjaaaW.PrintWords Go.Proofs.Ytjfhdnknaphjaaa

def Bytes (l : List Int) : Prop := ∀ x ∈ l, 0 ≤ x ∧ x < 256
instance (l : List Int) : Decidable (Bytes l) := by unfold Bytes; infer_instance
def beNat (l : List Int) : Nat := l.foldl (fun v x => v * 256 + x.toNat) 0
theorem beNat_snoc (l : List Int) (x : Int) : beNat (l ++ [x]) = beNat l * 256 + x.toNat := by simp [beNat, List.foldl_append]
theorem beNat_take (l : List Int) (h : Bytes l) : ∀ k, k ≤ l.length → beNat (l.take k) < 256 ^ k
  | 0, _ => by simp [beNat]
  | k + 1, hk => by
    have ih := beNat_take l h k (by omega)
    rw [List.take_succ_eq_append_getElem (by omega), beNat_snoc, Nat.pow_succ]
    have := h l[k] (List.getElem_mem _)
    omega
theorem beNat_lt (l : List Int) (h : Bytes l) : beNat l < 256 ^ l.length := by
  have := beNat_take l h l.length (Nat.le_refl _)
  rwa [List.take_length] at this

set_option maxHeartbeats 1000000 in
theorem taken_calls0 (A : Option Addr) (c : Nat) (l : List Int) (w : World) (hr : Kd.C (Kd.int .u8) w A l.length l) (hb : Bytes l) (h8 : l.length ≤ 8) :
    Calls Try.prog 24 #[.slice A l.length c] w fun e w' => e = .returned (.int .u64 ((beNat l : Nat) : Int)) ∧ w = w' := by
  have HR := Aside0.mk hr
  have HB := Aside0.mk hb
  clear hr hb
  go_enter Try.func24, Try.ntmps24
  go_wp2_with fail
  go_loop [3, 8] (fun v i => ∃ k : Nat, k ≤ l.length ∧ i = .int .i64 k ∧ v = .int .u64 ((beNat (l.take k) : Nat) : Int)) (fun _ i => l.length - (intOf i).toNat)
  case atStart => exact ⟨0, by omega, rfl, rfl⟩
  case round =>
    obtain ⟨k, hk, rfl, rfl⟩ := hrel
    by_cases hlt : k < l.length
    · obtain ⟨ad, rfl, hc⟩ := C_cells HR.out (by omega)
      have hcell := hc k (.int .u8 l[k]) (by simp [List.getElem?_eq_getElem hlt])
      clear hc
      have hx := HB.out l[k] (List.getElem_mem _)
      have hv := beNat_take l HB.out k hk
      have hp : 256 ^ k ≤ 256 ^ 7 := Nat.pow_le_pow_right (by omega) (by omega)
      have e := Aside0.mk (beNat_snoc (l.take k) l[k])
      rw [← List.take_succ_eq_append_getElem hlt] at e
      obtain ⟨v, hv0⟩ : ∃ v, v = beNat (l.take k) := ⟨_, rfl⟩
      obtain ⟨x, hx0⟩ : ∃ x, x = l[k].toNat := ⟨_, rfl⟩
      have hxx : l[k] = (x : Int) := by omega
      rw [hxx] at hcell
      have e2 : Aside0 (beNat (l.take (k + 1)) = v * 256 + x) := ⟨by rw [e.out, ← hv0, ← hx0]⟩
      have hvb : v < 72057594037927936 := by rw [hv0]; exact Nat.lt_of_lt_of_le hv (by simpa using hp)
      have hxb : x < 256 := by omega
      rw [← hv0]
      clear hxx hx0 hv0 hp hv hx e
      have ho : Go.bits .or .u64 ((v : Int) * 256) (x : Int) = ((v * 256 + x : Nat) : Int) := by
        have h1 := u64_or_nat (v * 256) x (by omega) (by omega)
        rw [nat_join 8 (v * 256) x (by omega) (by omega)] at h1
        rw [show ((v : Int) * 256) = ((v * 256 : Nat) : Int) from by omega]; exact h1
      go_wp2
      go_round
      case rel => exact ⟨k + 1, by omega, by go_num, by rw [e2.out]; exact congrArg (Value.int .u64) (by omega)⟩
      case measure => simp [intOf]; omega
    · obtain rfl : k = l.length := by omega
      rw [List.take_length]
      go_wp2
      go_ret
      exact ⟨rfl, rfl⟩

theorem taken_calls (A : Option Addr) (n c : Nat) (l : List Int) (w : World) (hn : l.length = n) (hr : Kd.C (Kd.int .u8) w A n l) (hb : Bytes l) (h8 : n ≤ 8) :
    Calls Try.prog 24 #[.slice A n c] w fun e w' => e = .returned (.int .u64 ((beNat l : Nat) : Int)) ∧ w = w' := by
  subst hn; exact taken_calls0 A c l w hr hb h8
theorem C_cut {w : World} {ad : Addr} {l : List Int} {lo hi : Nat} (h : Kd.C (Kd.int .u8) w (some ad) l.length l) (hlo : lo ≤ hi) (hh : hi ≤ l.length) : Kd.C (Kd.int .u8) w (some (ad.add lo)) (hi - lo) ((l.take hi).drop lo) := by
  have h1 := Kd.C_take (m := hi) h hh
  have hl : (l.take hi).length = hi := by rw [List.length_take]; omega
  have h2 := Kd.C_drop (m := lo) (c := hi + 1) h1 (by omega) (by omega)
  rw [if_neg (by omega)] at h2
  have e : ((l.take hi).drop lo).length = hi - lo := by rw [List.length_drop, hl]
  rw [e] at h2
  have e2 : (some ad).map (fun x : Addr => x.add (lo * (Kd.int .u8).sz)) = some (ad.add lo) := by
    show some (ad.add (lo * 1)) = _
    rw [Nat.mul_one]
  rw [e2] at h2
  exact h2
theorem bytes_cut {l : List Int} (h : Bytes l) (lo hi : Nat) : Bytes ((l.take hi).drop lo) := fun x hx => h x (List.mem_of_mem_take (List.mem_of_mem_drop hx))
end Go.Proofs.Ytjfhdnknaphjaaa.My
