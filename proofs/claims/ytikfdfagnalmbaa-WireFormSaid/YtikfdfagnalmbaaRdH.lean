/- wire.high: the number that at most eight bytes are. -/
import Derived.Test.YtikfdfagnalmbaaRd
namespace Go.Proofs.Ytikfdfagnalmbaa.My
open Go.RowKit Go.Proofs.YtikfdfagnalmbaaW.PrintWords Go.Proofs.YtikfdfagnalmbaaW.PrintLast Go.Proofs.Ytikfdfagnalmbaa
set_option linter.unusedSimpArgs false
set_option linter.unusedVariables false
set_option maxRecDepth 100000
set_option maxHeartbeats 2000000
def hiN (l : List Nat) : Nat := l.foldl (fun v x => v * 256 + x) 0
theorem hiN_snoc (l : List Nat) (x : Nat) : hiN (l ++ [x]) = hiN l * 256 + x := by simp [hiN, List.foldl_append]
def natsOf (s : ByteArray) : List Nat := s.data.toList.map (·.toNat)
theorem natsOf_len (s : ByteArray) : (natsOf s).length = s.size := by unfold natsOf; rw [List.length_map, data_length]
theorem natsOf_take (s : ByteArray) (n : Nat) (h : n < s.size) : (natsOf s).take (n + 1) = (natsOf s).take n ++ [(s[n]).toNat] := by
  have hl : n < (natsOf s).length := by rw [natsOf_len]; exact h
  rw [List.take_succ_eq_append_getElem hl]
  congr 2
  simp [natsOf, ByteArray.getElem_eq_getElem_data]
theorem hiN_lt (s : ByteArray) : ∀ k, k ≤ s.size → hiN ((natsOf s).take k) < 256 ^ k
  | 0, _ => by simp [hiN]
  | k + 1, h => by
    have h1 := hiN_lt s k (by omega)
    have h2 : (s[k]).toNat < 256 := (s[k]).toNat_lt
    rw [natsOf_take s k (by omega), hiN_snoc, Nat.pow_succ]
    omega
theorem high_calls (s : ByteArray) (w : World) (h8 : s.size ≤ 8) :
    Calls Try.prog 76 #[.string s] w fun e w' => e = .returned (.int .u64 ((hiN (natsOf s) : Nat) : Int)) ∧ w = w' := by
  go_enter Try.func76, Try.ntmps76
  go_wp2_with fail
  go_loop [3, 7] (fun v i => ∃ n : Nat, n ≤ s.size ∧ i = .int .i64 n ∧ v = .int .u64 ((hiN ((natsOf s).take n) : Nat) : Int)) (fun _ i => s.size - (intOf i).toNat)
  case atStart => exact ⟨0, by omega, rfl, rfl⟩
  case round =>
    obtain ⟨n, hn, rfl, rfl⟩ := hrel
    by_cases hlt : n < s.size
    · have hby : (s[n]).toNat < 256 := (s[n]).toNat_lt
      have hv := hiN_lt s n hn
      have hp : 256 ^ n ≤ 256 ^ 7 := Nat.pow_le_pow_right (by omega) (by omega)
      have e := Aside0.mk (hiN_snoc ((natsOf s).take n) (s[n]).toNat)
      rw [← natsOf_take s n hlt] at e
      obtain ⟨v, hv0⟩ : ∃ v, v = hiN ((natsOf s).take n) := ⟨_, rfl⟩
      rw [← hv0] at hv e ⊢
      have hvb : v < 72057594037927936 := Nat.lt_of_lt_of_le hv (by simpa using hp)
      clear hv0 hv hp
      have ho : Go.bits .or .u64 ((v : Int) * 256) (s[n].toNat : Int) = ((v * 256 + s[n].toNat : Nat) : Int) := by
        have h1 := u64_or_nat (v * 256) (s[n]).toNat (by omega) (by omega)
        rw [nat_join 8 (v * 256) _ (by omega) (by omega)] at h1
        rw [show ((v : Int) * 256) = ((v * 256 : Nat) : Int) from by omega]; exact h1
      go_wp2
      go_round
      case rel => exact ⟨n + 1, by omega, by go_num, by rw [e.out]; exact congrArg (Value.int .u64) (by omega)⟩
      case measure => simp [intOf]; omega
    · obtain rfl : n = s.size := by omega
      rw [List.take_of_length_le (by rw [natsOf_len]; omega)]
      go_wp2
      go_ret
      exact ⟨rfl, rfl⟩
end Go.Proofs.Ytikfdfagnalmbaa.My
