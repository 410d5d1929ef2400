/- page.put: a number laid into bytes of a block, the highest byte first. -/
import Derived.Test.YtjfhdnknaphjaaaMyArr
import Derived.Test.YtjfhdnknaphjaaaWWords
import Derived.KernelRfl
import Derived.WalkKit
import Derived.WalkLawsBesides
namespace Go.Proofs.Ytjfhdnknaphjaaa.My
open Go.RowKit Go.Proofs.YtjfhdnknaphjaaaW.PrintWords Go.Proofs.Ytjfhdnknaphjaaa

/-- A number in n bytes, the highest first. -/
def be (n v : Nat) : List Int := (List.range n).map fun i => ((v / 256 ^ (n - 1 - i) % 256 : Nat) : Int)
theorem be_len (n v : Nat) : (be n v).length = n := by simp [be]
def putN (l : List Int) (off n v : Nat) : Nat → List Int
  | 0 => l
  | k + 1 => (putN l off n v k).set (off + (n - 1 - k)) ((v / 256 ^ k % 256 : Nat) : Int)
theorem putN_len (l : List Int) (off n v : Nat) : ∀ k, (putN l off n v k).length = l.length
  | 0 => rfl
  | k + 1 => by simp [putN, putN_len l off n v k]
theorem putN_get (l : List Int) (off n v : Nat) (_ho : off + n ≤ l.length) : ∀ k, k ≤ n → ∀ i (hi : i < l.length), (putN l off n v k)[i]'(by rw [putN_len]; exact hi) = if off + (n - k) ≤ i ∧ i < off + n then ((v / 256 ^ (n - 1 - (i - off)) % 256 : Nat) : Int) else l[i] := by
  intro k
  induction k with
  | zero => intro _ i hi; rw [if_neg (by omega)]; rfl
  | succ k ih =>
    intro hk i hi
    simp only [putN, List.getElem_set]
    by_cases e : off + (n - 1 - k) = i
    · rw [if_pos e, if_pos (by omega)]
      congr 4
      omega
    · rw [if_neg e, ih (by omega) i hi]
      by_cases h2 : off + (n - k) ≤ i ∧ i < off + n
      · rw [if_pos h2, if_pos (by omega)]
      · rw [if_neg h2, if_neg (by omega)]
theorem putN_done (l : List Int) (off n v : Nat) (ho : off + n ≤ l.length) : putN l off n v n = l.take off ++ be n v ++ l.drop (off + n) := by
  apply List.ext_getElem
  · simp [putN_len, be_len]; omega
  · intro i h1 h2
    rw [putN_len] at h1
    rw [putN_get l off n v ho n (Nat.le_refl _) i h1]
    by_cases a : i < off
    · rw [if_neg (by omega), List.getElem_append_left (by simp [be_len]; omega), List.getElem_append_left (by simp; omega)]
      simp
    · by_cases b : i < off + n
      · rw [if_pos (by omega), List.getElem_append_left (by simp [be_len]; omega), List.getElem_append_right (by simp; omega)]
        simp [be, Nat.min_eq_left (show off ≤ l.length by omega)]
      · rw [if_neg (by omega), List.getElem_append_right (by simp [be_len]; omega)]
        simp [be_len, Nat.min_eq_left (show off ≤ l.length by omega)]
        congr 1
        omega

/-- A block of bytes. -/
def bobj (l : List Int) : Obj := .cells (l.map (Value.int .u8)).toArray 5 (0, 0)
theorem bobj_cell {w : World} {g : Nat} {cs : List Int} (h : w.heap[g]? = some (bobj cs)) (j : Nat) : w.cell? ⟨g, j, none⟩ = (cs[j]?).map (Value.int .u8) := by
  unfold bobj at h
  rw [cell_of_row w g j _ _ _ h]
  simp
theorem bobj_frozen {w : World} {g : Nat} {cs : List Int} (h : w.heap[g]? = some (bobj cs)) (j : Nat) : w.frozen? ⟨g, j, none⟩ = false := frozen_of_row w g j _ _ h
theorem bobj_set {w : World} {g : Nat} {cs : List Int} (h : w.heap[g]? = some (bobj cs)) (j : Nat) (v : Int) : (w.setCell ⟨g, j, none⟩ (.int .u8 v)).heap[g]? = some (bobj (cs.set j v)) := by
  unfold bobj at h ⊢
  rw [heap_setCell_same w g j _ _ _ h]
  congr 2
  simp [List.map_set]

theorem grownBy_setCell (w : World) (g j : Nat) (v : Value) : w.grownBy (w.setCell ⟨g, j, none⟩ v) (some g) :=
  ⟨rfl, rfl, rfl, by simp [World.setCell], fun k _ hne => heap_setCell_other w _ k v (fun e => hne (by rw [e]))⟩

set_option maxHeartbeats 1000000 in
theorem put_calls (g off len cap : Nat) (l : List Int) (v n : Nat) (w : World) (hb : w.heap[g]? = some (bobj l)) (hn : n ≤ len) (hl : off + n ≤ l.length) (hv : v < 18446744073709551616) (h8 : n ≤ 8) :
    Calls Try.prog 28 #[.slice (some ⟨g, off, none⟩) len cap, .int .u64 v, .int .i64 n] w fun e w' => e = .returned (.tuple #[]) ∧ w'.heap[g]? = some (bobj (l.take off ++ be n v ++ l.drop (off + n))) ∧ w.grownBy w' (some g) := by
  have H0 := Aside0.mk hb
  clear hb
  go_enter Try.func28, Try.ntmps28
  go_wp2_with fail
  go_loopw [1, 8] (fun x i wr => ∃ k : Nat, k ≤ n ∧ i = .int .i64 k ∧ x = .int .u64 ((v / 256 ^ k : Nat) : Int) ∧ Aside0 (wr.heap[g]? = some (bobj (putN l off n v k))) ∧ Aside0 (w.grownBy wr (some g))) (fun _ i _ => n - (intOf i).toNat)
  case atStart => exact ⟨0, by omega, rfl, by simp, H0, ⟨World.grownBy.refl _ _⟩⟩
  case round =>
    clear H0
    obtain ⟨k, hk, rfl, rfl, HT, HG⟩ := hrel
    by_cases hlt : k < n
    · have hcell := bobj_cell HT.out (off + (n - 1 - k))
      have hfr := bobj_frozen HT.out (off + (n - 1 - k))
      have hlen : off + (n - 1 - k) < (putN l off n v k).length := by rw [putN_len]; omega
      rw [List.getElem?_eq_getElem hlen] at hcell
      simp only [Option.map_some] at hcell
      obtain ⟨x0, hx0⟩ : ∃ x, x = (putN l off n v k)[off + (n - 1 - k)] := ⟨_, rfl⟩
      rw [← hx0] at hcell
      clear hx0 hlen
      have hvb : v / 256 ^ k < 18446744073709551616 := Nat.lt_of_le_of_lt (Nat.div_le_self _ _) hv
      obtain ⟨vk, hvk⟩ : ∃ vk, vk = v / 256 ^ k := ⟨_, rfl⟩
      have e1 : Aside0 (vk % 256 = v / 256 ^ k % 256) := ⟨by rw [hvk]⟩
      have e2 : Aside0 (vk / 256 = v / 256 ^ (k + 1)) := ⟨by rw [hvk, Nat.div_div_eq_div_mul, Nat.pow_succ]⟩
      rw [← hvk] at hvb ⊢
      clear hvk
      go_wp2
      go_roundw
      case rel => exact ⟨k + 1, by omega, by go_num, by rw [← e2.out]; rfl, ⟨by rw [putN, ← e1.out]; exact bobj_set HT.out _ _⟩, ⟨World.grownBy.trans HG.out (grownBy_setCell _ _ _ _)⟩⟩
      case measure => simp [intOf]; omega
    · obtain rfl : k = n := by omega
      go_wp2
      go_end0
      exact ⟨rfl, by rw [← putN_done l off k v hl]; exact HT.out, HG.out⟩
end Go.Proofs.Ytjfhdnknaphjaaa.My
