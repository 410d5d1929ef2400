/- Bytes as numbers. -/
import Derived.Test.YtikfdfagnalmbaaBe
import Derived.Test.YtikfdfagnalmbaaRdRaw
namespace Go.Proofs.Ytikfdfagnalmbaa.My
open Go.RowKit Go.Proofs.YtikfdfagnalmbaaW.PrintWords Go.Proofs.YtikfdfagnalmbaaW.PrintLast Go.Proofs.Ytikfdfagnalmbaa
set_option linter.unusedSimpArgs false
set_option linter.unusedVariables false
set_option maxRecDepth 100000
def beN (n v : Nat) : List Nat := (be n v).map Int.toNat
theorem beN_len (n v : Nat) : (beN n v).length = n := by simp [beN, be_len]
theorem be_bounds (n v : Nat) : ∀ x ∈ be n v, 0 ≤ x ∧ x < 256 := by
  intro x hx
  unfold be at hx
  obtain ⟨i, _, rfl⟩ := List.mem_map.1 hx
  have : v / 256 ^ (n - 1 - i) % 256 < 256 := Nat.mod_lt _ (by omega)
  omega
theorem beN_lt (n v : Nat) : ∀ x ∈ beN n v, x < 256 := by
  intro x hx
  obtain ⟨y, hy, rfl⟩ := List.mem_map.1 hx
  have := be_bounds n v y hy
  omega
theorem beN_succ (n v : Nat) : beN (n + 1) v = beN n (v / 256) ++ [v % 256] := by
  unfold beN
  rw [be_succ, List.map_append]
  rfl
theorem hiN_beN : ∀ (n v : Nat), v < 256 ^ n → hiN (beN n v) = v
  | 0, v, h => by
    obtain rfl : v = 0 := by simpa using h
    rfl
  | n + 1, v, h => by
    rw [beN_succ, hiN_snoc, hiN_beN n (v / 256) (by rw [Nat.pow_succ] at h; omega)]
    omega
theorem hiN_bound : ∀ (l : List Nat), (∀ x ∈ l, x < 256) → ∀ n, l.length = n → beN n (hiN l) = l := by
  have key : ∀ n (l : List Nat), l.length = n → (∀ x ∈ l, x < 256) → beN n (hiN l) = l := by
    intro n
    induction n with
    | zero => intro l hl _; rw [List.length_eq_zero_iff.1 hl]; rfl
    | succ n ih =>
      intro l hl h
      have hne : l ≠ [] := by rintro rfl; simp at hl
      have hd := List.dropLast_concat_getLast hne
      have hl2 : l.dropLast.length = n := by rw [List.length_dropLast]; omega
      have hb : l.getLast hne < 256 := h _ (List.getLast_mem hne)
      have ih2 := ih l.dropLast hl2 (fun x hx => h x (List.dropLast_subset _ hx))
      generalize l.getLast hne = z at hd hb
      generalize l.dropLast = m at hd hl2 ih2
      subst hd
      rw [hiN_snoc, beN_succ, show (hiN m * 256 + z) / 256 = hiN m by omega, show (hiN m * 256 + z) % 256 = z by omega, ih2]
  intro l h n hn
  exact key n l hn h
theorem natsOf_lt (s : ByteArray) : ∀ x ∈ natsOf s, x < 256 := by
  intro x hx
  obtain ⟨b, _, rfl⟩ := List.mem_map.1 hx
  exact b.toNat_lt
theorem natsOf_inj {s t : ByteArray} (h : natsOf s = natsOf t) : s = t := by
  apply ByteArray.ext
  apply Array.toList_inj.1
  unfold natsOf at h
  exact (List.map_inj_right (fun x y hxy => UInt8.toNat_inj.1 hxy)).1 h
theorem natsOf_str (l : List Int) (h : ∀ x ∈ l, 0 ≤ x ∧ x < 256) : natsOf (strOfNums l) = l.map Int.toNat := by
  unfold natsOf strOfNums
  simp only [List.map_map, List.toList_toArray]
  apply List.map_congr_left
  intro x hx
  have := h x hx
  simp
  omega
theorem bytesOf_bounds (s : ByteArray) : ∀ x ∈ bytesOf s, 0 ≤ x ∧ x < 256 := by
  intro x hx
  obtain ⟨b, _, rfl⟩ := List.mem_map.1 hx
  have := b.toNat_lt
  omega
theorem bytesOf_nats (s : ByteArray) : (bytesOf s).map Int.toNat = natsOf s := by
  unfold bytesOf natsOf
  rw [List.map_map]
  rfl
theorem natsOf_append (s t : ByteArray) : natsOf (s ++ t) = natsOf s ++ natsOf t := by
  unfold natsOf
  rw [ByteArray.data_append, Array.toList_append, List.map_append]
/-- A frame's bytes ahead of its sum. -/
theorem seg_of {s : ByteArray} {P F R : List Nat} {p n : Nat} (h : natsOf s = P ++ (F ++ R)) (hp : P.length = p) (hn : F.length = n) : ((natsOf s).drop p).take n = F := by
  rw [h, List.drop_left' hp, List.take_left' hn]
def seg (s : ByteArray) (p n : Nat) : List Nat := ((natsOf s).drop p).take n
theorem seg_split (s : ByteArray) (p n : Nat) : (natsOf s).drop p = seg s p n ++ (natsOf s).drop (p + n) := by
  unfold seg
  rw [← List.drop_drop, List.take_append_drop]
theorem seg_len (s : ByteArray) (p n : Nat) (h : p + n ≤ s.size) : (seg s p n).length = n := by
  unfold seg
  rw [List.length_take, List.length_drop, natsOf_len]; omega
theorem seg_lt (s : ByteArray) (p n : Nat) : ∀ x ∈ seg s p n, x < 256 := fun x hx => natsOf_lt s x (List.mem_of_mem_drop (List.mem_of_mem_take hx))
theorem seg_be (s : ByteArray) (p n : Nat) (h : p + n ≤ s.size) : seg s p n = beN n (fN s p n) := (hiN_bound _ (seg_lt s p n) n (seg_len s p n h)).symm
theorem beN_one (v : Nat) (h : v < 256) : beN 1 v = [v] := by
  rw [beN_succ, Nat.mod_eq_of_lt h]; rfl
theorem seg_one (s : ByteArray) (p : Nat) (h : p + 1 ≤ s.size) : seg s p 1 = [fN s p 1] := by
  rw [seg_be s p 1 h, beN_one _ (by have := fN_lt s p 1; omega)]
end Go.Proofs.Ytikfdfagnalmbaa.My
