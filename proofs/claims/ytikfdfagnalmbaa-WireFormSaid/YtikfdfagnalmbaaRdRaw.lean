/- Reader.Raw where the bytes are there. -/
import Derived.Test.YtikfdfagnalmbaaRdB
import Derived.Test.YtikfdfagnalmbaaRdE
namespace Go.Proofs.Ytikfdfagnalmbaa.My
open Go.RowKit Go.Proofs.YtikfdfagnalmbaaW.PrintWords Go.Proofs.YtikfdfagnalmbaaW.PrintLast Go.Proofs.Ytikfdfagnalmbaa
set_option linter.unusedSimpArgs false
set_option linter.unusedVariables false
set_option maxRecDepth 100000
set_option maxHeartbeats 800000
theorem RRaw_ok {w : World} {g : Nat} {s : ByteArray} {p n : Nat} (h : RS w g s p 0) (hp : p + n ≤ s.size) (hs : s.size ≤ 140737488351232) : Calls Try.prog 42 #[.pointer (some ⟨g, 0, none⟩), .int .i64 n] w fun r w' => r = .returned (.string (s.extract p (p + n))) ∧ RS w' g s (p + n) 0 ∧ Alone w w' g := by
  go_enter Try.func42, Try.ntmps42
  go_wp2_with fail
  refine (take_ok h n hp hs).mono ?_
  rintro e w1 ⟨rfl, h1, h2⟩
  go_wp2_with fail
  go_ret
  exact ⟨rfl, h1, h2⟩
theorem RS.far {w : World} {g : Nat} {s : ByteArray} {p : Nat} {e : Int} (h : RS w g s p e) {a : Addr} (ha : g ≠ a.block) (u : Value) : RS (w.setCell a u) g s p e := blk_far h ha u
theorem RS.below {w w' : World} {g : Nat} {s : ByteArray} {p : Nat} {e : Int} (h : RS w g s p e) (hb : Below w.heap.size w w') : RS w' g s p e := (hb.block g (blk_lt h)).trans h
/-- The number that n bytes at p are. -/
def fN (s : ByteArray) (p n : Nat) : Nat := hiN (((natsOf s).drop p).take n)
theorem natsOf_extract (s : ByteArray) (p q : Nat) : natsOf (s.extract p q) = ((natsOf s).drop p).take (q - p) := by
  unfold natsOf
  simp [ByteArray.data_extract, List.map_drop, List.map_take]
theorem fN_lt (s : ByteArray) (p n : Nat) : fN s p n < 256 ^ n := by
  have h0 : ∀ (l : List Nat) (v : Nat), (∀ x ∈ l, x < 256) → l.foldl (fun v x => v * 256 + x) v < (v + 1) * 256 ^ l.length := by
    intro l
    induction l with
    | nil => intro v _; simp
    | cons x l ih =>
      intro v hl
      have h1 := ih (v * 256 + x) (fun y hy => hl y (by simp [hy]))
      have h2 := hl x (by simp)
      rw [List.foldl_cons, List.length_cons, Nat.pow_succ]
      refine Nat.lt_of_lt_of_le h1 ?_
      have h3 : (v * 256 + x + 1) * 256 ^ l.length ≤ ((v + 1) * 256) * 256 ^ l.length := Nat.mul_le_mul_right _ (by omega)
      rw [Nat.mul_comm (256 ^ l.length) 256, ← Nat.mul_assoc]
      exact h3
  have h : ∀ (l : List Nat), (∀ x ∈ l, x < 256) → hiN l < 256 ^ l.length := by
    intro l hl
    have := h0 l 0 hl
    simpa [hiN] using this
  have hx : ∀ x ∈ ((natsOf s).drop p).take n, x < 256 := by
    intro x hx
    have h1 := List.mem_of_mem_drop (List.mem_of_mem_take hx)
    obtain ⟨b, _, rfl⟩ := List.mem_map.1 h1
    exact b.toNat_lt
  refine Nat.lt_of_lt_of_le (h _ hx) (Nat.pow_le_pow_right (by omega) ?_)
  rw [List.length_take]; omega
theorem fN_cut (s : ByteArray) (q p n : Nat) (hq : q + n ≤ s.size - p) (hp : p ≤ s.size) : hiN (natsOf ((s.extract p s.size).extract q (q + n))) = fN s (p + q) n := by
  unfold fN
  rw [natsOf_extract, natsOf_extract, Nat.add_sub_cancel_left, List.take_of_length_le (l := (natsOf s).drop p) (by rw [List.length_drop, natsOf_len]; omega), List.drop_drop]
end Go.Proofs.Ytikfdfagnalmbaa.My
