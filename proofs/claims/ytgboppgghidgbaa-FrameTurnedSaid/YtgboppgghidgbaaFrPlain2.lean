/- A frame's bytes: what is read is what would be told; one byte turned is refused. -/
import Derived.Test.YtgboppgghidgbaaFrPlain
namespace Go.Proofs.Ytgboppgghidgbaa.My
open Go.RowKit Go.Proofs.YtgboppgghidgbaaW.PrintWords Go.Proofs.Ytgboppgghidgbaa
set_option linter.unusedSimpArgs false
set_option linter.unusedVariables false
def seg (s : ByteArray) (p n : Nat) : List Nat := ((natsOf s).drop p).take n
theorem seg_split (s : ByteArray) (p n : Nat) : (natsOf s).drop p = seg s p n ++ (natsOf s).drop (p + n) := by
  unfold seg
  rw [← List.drop_drop, List.take_append_drop]
theorem seg_len (s : ByteArray) (p n : Nat) (h : p + n ≤ s.size) : (seg s p n).length = n := by
  unfold seg
  rw [List.length_take, List.length_drop, natsOf_len]; omega
theorem seg_lt (s : ByteArray) (p n : Nat) : ∀ x ∈ seg s p n, x < 256 := fun x hx => natsOf_lt s x (List.mem_of_mem_drop (List.mem_of_mem_take hx))
theorem seg_be (s : ByteArray) (p n : Nat) (h : p + n ≤ s.size) : seg s p n = beN n (fN s p n) := (hiN_bound _ (seg_lt s p n) n (seg_len s p n h)).symm
theorem beN_one (v : Nat) (h : v < 256) : beN 1 v = [v] := by
  rw [beN_succ, Nat.mod_eq_of_lt h]; rfl
theorem seg_one (s : ByteArray) (p : Nat) (h : p + 1 ≤ s.size) : seg s p 1 = [fN s p 1] := by
  rw [seg_be s p 1 h, beN_one _ (by have := fN_lt s p 1; omega)]
theorem refields (s : ByteArray) (hk : HeadOk s) (hx : fN s 29 1 ≤ 1) (hy : fN s (s.size - 4) 4 = Crc.sum (bytesN (s.extract 0 (s.size - 4)))) :
    natsOf s = encN (fN s 8 1) (fN s 9 1) (fN s 10 1) (fN s 11 2) (fN s 13 4) (fN s 17 8) (fN s 25 4) (fN s 29 1 == 1) (s.extract 30 (s.size - 4)) := by
  obtain ⟨⟨h34, _⟩, hm, h22, h44⟩ := hk
  have hbs : (s.extract 30 (s.size - 4)).size = s.size - 34 := by rw [ByteArray.size_extract]; omega
  have g0 : seg s 0 2 = [157, 227] := by
    have := congrArg natsOf hm
    rw [natsOf_extract] at this
    exact this
  have g2 : seg s 2 2 = beN 2 (s.size - 34 + 34) := by rw [seg_be s 2 2 (by omega), h22]; congr 1; omega
  have gb : natsOf (s.extract 30 (s.size - 4)) = seg s 30 (s.size - 34) := by
    rw [natsOf_extract, show s.size - 4 - 30 = s.size - 34 by omega]; rfl
  have g04 : bytesN (s.extract 0 4) = [157, 227] ++ beN 2 (s.size - 34 + 34) := by
    rw [bytesN_eq, natsOf_extract, ← g0, ← g2]
    have h5 : (natsOf s).take (2 + 2) = (natsOf s).take 2 ++ ((natsOf s).drop 2).take 2 := List.take_add
    exact h5
  have g4 : seg s 4 4 = beN 4 (Crc.sum ([157, 227] ++ beN 2 (s.size - 34 + 34))) := by rw [seg_be s 4 4 (by omega), h44, g04]
  have g29 : seg s 29 1 = [if (fN s 29 1 == 1) = true then 1 else 0] := by
    rw [seg_one s 29 (by omega)]
    have h01 : fN s 29 1 = 0 ∨ fN s 29 1 = 1 := by omega
    rcases h01 with h | h <;> rw [h] <;> rfl
  have hpre : natsOf (s.extract 0 (s.size - 4)) = preN (fN s 8 1) (fN s 9 1) (fN s 10 1) (fN s 11 2) (fN s 13 4) (fN s 17 8) (fN s 25 4) (fN s 29 1 == 1) (s.extract 30 (s.size - 4)) := by
    unfold preN
    rw [hbs, ← g4, ← g0, ← g2, ← seg_one s 8 (by omega), ← seg_one s 9 (by omega), ← seg_one s 10 (by omega), ← seg_be s 11 2 (by omega), ← seg_be s 13 4 (by omega), ← seg_be s 17 8 (by omega), ← seg_be s 25 4 (by omega), ← g29, gb]
    rw [natsOf_extract]
    have e : ∀ p n m, p + n + m = s.size - 4 → ((natsOf s).drop p).take (n + m) = seg s p n ++ ((natsOf s).drop (p + n)).take m := by
      intro p n m _
      unfold seg
      rw [List.take_add, List.drop_drop]
    rw [show s.size - 4 - 0 = 2 + (s.size - 4 - 2) by omega, e 0 2 _ (by omega)]
    rw [show s.size - 4 - 2 = 2 + (s.size - 4 - 4) by omega, e _ 2 _ (by omega)]
    rw [show s.size - 4 - 4 = 4 + (s.size - 4 - 8) by omega, e _ 4 _ (by omega)]
    rw [show s.size - 4 - 8 = 1 + (s.size - 4 - 9) by omega, e _ 1 _ (by omega)]
    rw [show s.size - 4 - 9 = 1 + (s.size - 4 - 10) by omega, e _ 1 _ (by omega)]
    rw [show s.size - 4 - 10 = 1 + (s.size - 4 - 11) by omega, e _ 1 _ (by omega)]
    rw [show s.size - 4 - 11 = 2 + (s.size - 4 - 13) by omega, e _ 2 _ (by omega)]
    rw [show s.size - 4 - 13 = 4 + (s.size - 4 - 17) by omega, e _ 4 _ (by omega)]
    rw [show s.size - 4 - 17 = 8 + (s.size - 4 - 25) by omega, e _ 8 _ (by omega)]
    rw [show s.size - 4 - 25 = 4 + (s.size - 4 - 29) by omega, e _ 4 _ (by omega)]
    rw [show s.size - 4 - 29 = 1 + (s.size - 34) by omega, e _ 1 _ (by omega)]
    rfl
  unfold encN
  rw [← hpre]
  have ht : beN 4 (Crc.sum (natsOf (s.extract 0 (s.size - 4)))) = (natsOf s).drop (s.size - 4) := by
    have h1 := seg_be s (s.size - 4) 4 (by omega)
    rw [hy, bytesN_eq] at h1
    rw [← h1]
    unfold seg
    rw [List.take_of_length_le (by rw [List.length_drop, natsOf_len]; omega)]
  rw [ht, natsOf_extract, Nat.sub_zero, List.drop_zero, List.take_append_drop]
/-- The sum stands behind the bytes. -/
theorem turned_tf (p q : List Nat) (i z : Nat) (hp : ∀ x ∈ p, x < 256) (hq : ∀ x ∈ q, x < 256) (hi : i < (p ++ beN 4 (Crc.sum p)).length) (h : (p ++ beN 4 (Crc.sum p)).set i z = q ++ beN 4 (Crc.sum q)) : (p ++ beN 4 (Crc.sum p))[i] = z := by
  have hl : p.length = q.length := by
    have := congrArg List.length h
    simp [beN_len] at this
    exact this
  have inj : ∀ a b : Nat, a < 256 ^ 4 → b < 256 ^ 4 → beN 4 a = beN 4 b → a = b := fun a b ha hb e => by
    rw [← hiN_beN 4 a ha, ← hiN_beN 4 b hb, e]
  by_cases hlt : i < p.length
  · rw [List.set_append_left _ _ hlt] at h
    obtain ⟨h1, h2⟩ := List.append_inj h (by simp [hl])
    have hs := inj _ _ (sum_lt' p hp) (sum_lt' q hq) h2
    rw [List.getElem_append_left hlt]
    rw [← h1] at hs hq
    have e1 : p = p.take i ++ p[i] :: p.drop (i + 1) := by rw [← List.drop_eq_getElem_cons hlt, List.take_append_drop]
    have e2 : p.set i z = p.take i ++ z :: p.drop (i + 1) := by rw [List.set_eq_take_append_cons_drop, if_pos hlt]
    rw [e2] at hs hq
    have hs' : Crc.sum (p.take i ++ p[i] :: p.drop (i + 1)) = Crc.sum (p.take i ++ z :: p.drop (i + 1)) := by rw [← e1]; exact hs
    exact Crc.sum_one (p.take i) (p.drop (i + 1)) p[i] z (fun x hx => hp x (List.mem_of_mem_take hx)) (fun x hx => hp x (List.mem_of_mem_drop hx)) (hp _ (List.getElem_mem hlt)) (hq z (by simp)) hs'
  · rw [List.set_append_right _ _ (by omega)] at h
    obtain ⟨h1, h2⟩ := List.append_inj h hl
    subst h1
    have hj : i - p.length < (beN 4 (Crc.sum p)).length := by simp [beN_len] at hi ⊢; omega
    rw [List.getElem_append_right (by omega)]
    have h3 : ((beN 4 (Crc.sum p)).set (i - p.length) z)[i - p.length]'(by simpa using hj) = z := List.getElem_set_self _
    rw [← h3]
    congr 1
    exact h2.symm
end Go.Proofs.Ytgboppgghidgbaa.My
