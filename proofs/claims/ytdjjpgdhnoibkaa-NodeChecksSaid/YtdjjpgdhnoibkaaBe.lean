/- A number's bytes, the highest first. -/
import Derived.Test.YtdjjpgdhnoibkaaWWords
namespace Go.Proofs.Ytdjjpgdhnoibkaa.My
def be (n v : Nat) : List Int := (List.range n).map fun i => ((v / 256 ^ (n - 1 - i) % 256 : Nat) : Int)
theorem be_len (n v : Nat) : (be n v).length = n := by simp [be]
theorem be_succ (n v : Nat) : be (n + 1) v = be n (v / 256) ++ [((v % 256 : Nat) : Int)] := by
  unfold be
  rw [List.range_succ, List.map_append]
  congr 1
  · apply List.map_congr_left
    intro i hi
    rw [List.mem_range] at hi
    have : n + 1 - 1 - i = (n - 1 - i) + 1 := by omega
    rw [this, Nat.pow_succ, Nat.mul_comm, ← Nat.div_div_eq_div_mul]
  · simp
theorem be_zero (v : Nat) : be 0 v = [] := rfl
end Go.Proofs.Ytdjjpgdhnoibkaa.My
