/- The reference's Matrix. -/
import Derived.Test.YtikfdfagnalmbaaRefOn
import Derived.Test.YtikfdfagnalmbaaCrcT
import Derived.Test.YtikfdfagnalmbaaWWords
import Derived.Test.YtikfdfagnalmbaaWLast
import Derived.Test.YtikfdfagnalmbaaWMore
namespace Go.Proofs.Ytikfdfagnalmbaa.My
open Go.RowKit Go.Proofs.YtikfdfagnalmbaaW.PrintWords Go.Proofs.YtikfdfagnalmbaaW.PrintLast Go.Proofs.YtikfdfagnalmbaaW.PrintMore Go.Proofs.Ytikfdfagnalmbaa
set_option linter.unusedSimpArgs false
set_option linter.unusedVariables false
set_option maxRecDepth 100000
set_option maxHeartbeats 3200000
def rowA (l : List Nat) : Array Value := (l.map (fun x : Nat => Value.int .u32 (x : Int))).toArray
def MB (w : World) (g : Nat) (l : List Nat) : Prop := w.heap[g]? = some (.cells (rowA l) 82 (0, 0))
theorem MB.cell {w : World} {g : Nat} {l : List Nat} (h : MB w g l) (i : Nat) (hi : i < l.length) : w.cell? ⟨g, i, none⟩ = some (.int .u32 (l[i] : Nat)) := by
  rw [blk_cell h i]
  simp [rowA, hi]
theorem MB.set {w : World} {g : Nat} {l : List Nat} (h : MB w g l) (i : Nat) (v : Nat) : MB (w.setCell ⟨g, i, none⟩ (.int .u32 (v : Int))) g (l.set i v) := by
  have := blk_set h i (.int .u32 (v : Int))
  unfold MB
  rw [this]
  congr 1
  unfold rowA
  rw [List.map_set]
  simp
theorem mW_push (w : World) (C : Array Value) (t : TypeId) (A : Nat × Nat) : (w.alloc (.cells C t A)).heap[w.heap.size]? = some (.cells C t A) := by show (w.heap.push _)[w.heap.size]? = _; rw [Array.getElem?_push_size]
/-- What becomes of a register by its first n bits. -/
def putU (l : List Nat) (c : Nat) : Nat → Nat
  | 0 => 0
  | n + 1 => if c / 2 ^ n % 2 = 1 then putU l c n ^^^ l.getD n 0 else putU l c n
theorem putU_lt (l : List Nat) (c : Nat) (hl : ∀ x ∈ l, x < 4294967296) : ∀ n, putU l c n < 4294967296
  | 0 => by simp [putU]
  | n + 1 => by
    rw [putU]
    split
    · refine Crc.xor_lt32 (putU_lt l c hl n) ?_
      rw [List.getD_eq_getElem?_getD]
      by_cases h : n < l.length
      · rw [List.getElem?_eq_getElem h]; exact hl _ (List.getElem_mem h)
      · rw [List.getElem?_eq_none (by omega)]; decide
    · exact putU_lt l c hl n
theorem tmod_bit' (m i : Nat) : Int.tmod ((m : Int) / 2 ^ i) 2 = ((m / 2 ^ i % 2 : Nat) : Int) := by
  have e : ((m : Int) / 2 ^ i) = ((m / 2 ^ i : Nat) : Int) := by push_cast; rfl
  rw [e, Int.tmod_eq_emod_of_nonneg (Int.natCast_nonneg _)]
  omega
theorem put_calls (l : List Nat) (c : Nat) (w : World) (hl : l.length = 32) (hlt : ∀ x ∈ l, x < 4294967296) (hc : c < 4294967296) : Calls Try.prog 49 #[.agg (rowA l), .int .u32 c] w fun r w' => r = .returned (.int .u32 ((putU l c 32 : Nat) : Int)) ∧ Below w.heap.size w w' := by
  go_enter Try.func49, Try.ntmps49
  go_wp2_with fail
  generalize hW : w.alloc (.cells (rowA l) 82) = W
  have hM : MB W w.heap.size l := by rw [← hW]; exact mW_push _ _ _ _
  have hB : Below w.heap.size w W := by rw [← hW]; exact (Below.refl _ _).alloc (Nat.le_refl _) _
  clear hW
  go_loop [5, 6] (fun v iv => ∃ n : Nat, n ≤ 32 ∧ iv = .int .i64 (n : Int) ∧ v = .int .u32 ((putU l c n : Nat) : Int)) (fun _ iv => (32 - intOf iv).toNat)
  case atStart => exact ⟨0, by omega, rfl, rfl⟩
  case round =>
    obtain ⟨n, hn, rfl, rfl⟩ := hrel
    by_cases h32 : n < 32
    · have hcell := hM.cell n (by omega)
      have hx : l[n]'(by omega) < 4294967296 := hlt _ (List.getElem_mem _)
      have hp := putU_lt l c hlt n
      have hxor : Go.bits .xor .u32 ((putU l c n : Nat) : Int) ((l[n]'(by omega) : Nat) : Int) = ((putU l c n ^^^ l[n]'(by omega) : Nat) : Int) := u32_xor_nat _ _ hp hx
      have hg : l.getD n 0 = l[n]'(by omega) := by rw [List.getD_eq_getElem?_getD, List.getElem?_eq_getElem (by omega)]; rfl
      have HU := Aside0.mk (show putU l c (n + 1) = if c / 2 ^ n % 2 = 1 then putU l c n ^^^ l.getD n 0 else putU l c n from rfl)
      rw [hg] at HU
      generalize l[n]'(by omega) = x at hcell hx hxor HU
      generalize putU l c n = v at hp hxor HU ⊢
      have hi1 : (n : Int) < 32 := by omega
      have hi0 : (0 : Int) ≤ (n : Int) := by omega
      clear hg
      by_cases hbit : c / 2 ^ n % 2 = 1
      · have hbi : ((Int.tmod ((c : Int) / 2 ^ n) 2) == 1) = true := by rw [tmod_bit', hbit]; rfl
        go_wp2_with fail
        refine ⟨⟨n + 1, by omega, rfl, by rw [HU.out, if_pos hbit]⟩, ?_⟩
        simp [intOf]
        omega
      · have hbi : ((Int.tmod ((c : Int) / 2 ^ n) 2) == 1) = false := by rw [tmod_bit']; exact beq_eq_false_iff_ne.mpr (by omega)
        go_wp2_with fail
        refine ⟨⟨n + 1, by omega, rfl, by rw [HU.out, if_neg hbit]⟩, ?_⟩
        simp [intOf]
        omega
    · obtain rfl : n = 32 := by omega
      go_wp2_with fail
      go_ret
      exact ⟨rfl, hB⟩
end Go.Proofs.Ytikfdfagnalmbaa.My
