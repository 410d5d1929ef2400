/- A frame's bytes, in plain numbers: what is told is what is read. A frame's bytes: what is read is what would be told; one byte turned is refused. -/
import Derived.Test.YtgboppgghidgbaaFrGlue2
import Derived.Test.YtgboppgghidgbaaCrcAll
namespace Go.Proofs.Ytgboppgghidgbaa.My
open Go.RowKit Go.Proofs.YtgboppgghidgbaaW.PrintWords Go.Proofs.Ytgboppgghidgbaa
set_option linter.unusedSimpArgs false
set_option linter.unusedVariables false
def beN (n v : Nat) : List Nat := (be n v).map Int.toNat
theorem beN_len (n v : Nat) : (beN n v).length = n := by simp [beN, be_len]
theorem be_bounds (n v : Nat) : ∀ x ∈ be n v, 0 ≤ x ∧ x < 256 := by
  intro x hx
  unfold be at hx
  obtain ⟨i, _, rfl⟩ := List.mem_map.1 hx
  have : v / 256 ^ (n - 1 - i) % 256 < 256 := Nat.mod_lt _ (by omega)
  omega
theorem beN_lt (n v : Nat) : ∀ x ∈ beN n v, x < 256 := by
  intro x hx
  obtain ⟨y, hy, rfl⟩ := List.mem_map.1 hx
  have := be_bounds n v y hy
  omega
theorem beN_succ (n v : Nat) : beN (n + 1) v = beN n (v / 256) ++ [v % 256] := by
  unfold beN
  rw [be_succ, List.map_append]
  rfl
theorem hiN_beN : ∀ (n v : Nat), v < 256 ^ n → hiN (beN n v) = v
  | 0, v, h => by
    obtain rfl : v = 0 := by simpa using h
    rfl
  | n + 1, v, h => by
    rw [beN_succ, hiN_snoc, hiN_beN n (v / 256) (by rw [Nat.pow_succ] at h; omega)]
    omega
theorem hiN_bound : ∀ (l : List Nat), (∀ x ∈ l, x < 256) → ∀ n, l.length = n → beN n (hiN l) = l := by
  have key : ∀ n (l : List Nat), l.length = n → (∀ x ∈ l, x < 256) → beN n (hiN l) = l := by
    intro n
    induction n with
    | zero => intro l hl _; rw [List.length_eq_zero_iff.1 hl]; rfl
    | succ n ih =>
      intro l hl h
      have hne : l ≠ [] := by rintro rfl; simp at hl
      have hd := List.dropLast_concat_getLast hne
      have hl2 : l.dropLast.length = n := by rw [List.length_dropLast]; omega
      have hb : l.getLast hne < 256 := h _ (List.getLast_mem hne)
      have ih2 := ih l.dropLast hl2 (fun x hx => h x (List.dropLast_subset _ hx))
      generalize l.getLast hne = z at hd hb
      generalize l.dropLast = m at hd hl2 ih2
      subst hd
      rw [hiN_snoc, beN_succ, show (hiN m * 256 + z) / 256 = hiN m by omega, show (hiN m * 256 + z) % 256 = z by omega, ih2]
  intro l h n hn
  exact key n l hn h
theorem natsOf_lt (s : ByteArray) : ∀ x ∈ natsOf s, x < 256 := by
  intro x hx
  obtain ⟨b, _, rfl⟩ := List.mem_map.1 hx
  exact b.toNat_lt
theorem natsOf_inj {s t : ByteArray} (h : natsOf s = natsOf t) : s = t := by
  apply ByteArray.ext
  apply Array.toList_inj.1
  unfold natsOf at h
  exact (List.map_inj_right (fun x y hxy => UInt8.toNat_inj.1 hxy)).1 h
theorem natsOf_str (l : List Int) (h : ∀ x ∈ l, 0 ≤ x ∧ x < 256) : natsOf (strOfNums l) = l.map Int.toNat := by
  unfold natsOf strOfNums
  simp only [List.map_map, List.toList_toArray]
  apply List.map_congr_left
  intro x hx
  have := h x hx
  simp
  omega
theorem bytesOf_bounds (s : ByteArray) : ∀ x ∈ bytesOf s, 0 ≤ x ∧ x < 256 := by
  intro x hx
  obtain ⟨b, _, rfl⟩ := List.mem_map.1 hx
  have := b.toNat_lt
  omega
theorem bytesOf_nats (s : ByteArray) : (bytesOf s).map Int.toNat = natsOf s := by
  unfold bytesOf natsOf
  rw [List.map_map]
  rfl
theorem natsOf_append (s t : ByteArray) : natsOf (s ++ t) = natsOf s ++ natsOf t := by
  unfold natsOf
  rw [ByteArray.data_append, Array.toList_append, List.map_append]
/-- A frame's bytes ahead of its sum. -/
def preN (a b c d e t g : Nat) (h : Bool) (bd : ByteArray) : List Nat :=
  [157, 227] ++ (beN 2 (bd.size + 34) ++ (beN 4 (Crc.sum ([157, 227] ++ beN 2 (bd.size + 34))) ++ ([a] ++ ([b] ++ ([c] ++ (beN 2 d ++ (beN 4 e ++ (beN 8 t ++ (beN 4 g ++ ([if h = true then 1 else 0] ++ natsOf bd))))))))))
def encN (a b c d e t g : Nat) (h : Bool) (bd : ByteArray) : List Nat := preN a b c d e t g h bd ++ beN 4 (Crc.sum (preN a b c d e t g h bd))
theorem headL_nats (n : Nat) : natsOf (strOfNums (headL n)) = [157, 227] ++ beN 2 (n + 34) := by
  rw [natsOf_str]
  · unfold headL beN
    rw [List.nil_append, List.map_append, bytesOf_nats]
    rfl
  · intro x hx
    unfold headL at hx
    rw [List.nil_append] at hx
    rcases List.mem_append.1 hx with h | h
    · exact bytesOf_bounds _ x h
    · exact be_bounds _ _ x h
theorem bytesN_eq (s : ByteArray) : bytesN s = natsOf s := rfl
theorem bodyL_bounds (a b c d e t g : Nat) (h : Bool) (s : ByteArray) (ha : a < 256) (hb : b < 256) (hc : c < 256) : ∀ x ∈ bodyL a b c d e t g h s, 0 ≤ x ∧ x < 256 := by
  intro x hx
  unfold bodyL headS headL at hx
  simp only [List.mem_append, List.mem_singleton, List.not_mem_nil, false_or] at hx
  rcases hx with ((((((((((h1 | h1) | h1) | h1) | h1) | h1) | h1) | h1) | h1) | h1) | h1) | h1
  all_goals first | exact be_bounds _ _ x h1 | exact bytesOf_bounds _ x h1 | omega | (subst h1; split <;> omega)
theorem bodyL_nats (a b c d e t g : Nat) (h : Bool) (s : ByteArray) (ha : a < 256) (hb : b < 256) (hc : c < 256) : natsOf (strOfNums (bodyL a b c d e t g h s)) = preN a b c d e t g h s := by
  rw [natsOf_str _ (bodyL_bounds a b c d e t g h s ha hb hc)]
  unfold bodyL preN headS
  have hh : (headL s.size).map Int.toNat = [157, 227] ++ beN 2 (s.size + 34) := by
    unfold headL beN
    rw [List.nil_append, List.map_append, bytesOf_nats]
    rfl
  have h1 : (if h = true then (1 : Int) else 0).toNat = if h = true then 1 else 0 := by cases h <;> rfl
  simp only [List.map_append, List.map_cons, List.map_nil, hh, bytesOf_nats, Int.toNat_natCast, h1, bytesN_eq, headL_nats]
  unfold beN
  simp only [List.append_assoc]
theorem encF_nats (a b c d e t g : Nat) (h : Bool) (s : ByteArray) (ha : a < 256) (hb : b < 256) (hc : c < 256) : natsOf (strOfNums (encF a b c d e t g h s)) = encN a b c d e t g h s := by
  rw [natsOf_str]
  · unfold encF
    rw [List.map_append, bytesN_eq, bodyL_nats a b c d e t g h s ha hb hc]
    rw [← natsOf_str _ (bodyL_bounds a b c d e t g h s ha hb hc), bodyL_nats a b c d e t g h s ha hb hc]
    rfl
  · intro x hx
    rcases List.mem_append.1 hx with h1 | h1
    · exact bodyL_bounds a b c d e t g h s ha hb hc x h1
    · exact be_bounds _ _ x h1
theorem preN_len (a b c d e t g : Nat) (h : Bool) (s : ByteArray) : (preN a b c d e t g h s).length = 30 + s.size := by
  simp [preN, beN_len, natsOf_len]; omega
theorem encN_len (a b c d e t g : Nat) (h : Bool) (s : ByteArray) : (encN a b c d e t g h s).length = 34 + s.size := by
  simp [encN, beN_len, preN_len]; omega
theorem seg_of {s : ByteArray} {P F R : List Nat} {p n : Nat} (h : natsOf s = P ++ (F ++ R)) (hp : P.length = p) (hn : F.length = n) : ((natsOf s).drop p).take n = F := by
  rw [h, List.drop_left' hp, List.take_left' hn]
theorem sum_lt' (l : List Nat) (h : ∀ x ∈ l, x < 256) : Crc.sum l < 256 ^ 4 := by
  have := Crc.sumOn_lt (a := 0) l (by omega) h
  exact this
/-- The fields of what was told. -/
theorem fields (s : ByteArray) (a b c d e t g : Nat) (h : Bool) (bd : ByteArray) (hs : natsOf s = encN a b c d e t g h bd) (ha : a < 256) (hb : b < 256) (hc : c < 256) (hd : d < 65536) (he : e < 4294967296) (ht : t < 18446744073709551616) (hg : g < 4294967296) (hbd : bd.size ≤ 8158) :
    s.size = 34 + bd.size ∧ HeadOk s ∧ fN s 8 1 = a ∧ fN s 9 1 = b ∧ fN s 10 1 = c ∧ fN s 11 2 = d ∧ fN s 13 4 = e ∧ fN s 17 8 = t ∧ fN s 25 4 = g ∧ fN s 29 1 = (if h = true then 1 else 0) ∧ s.extract 30 (s.size - 4) = bd ∧ fN s (s.size - 4) 4 = Crc.sum (bytesN (s.extract 0 (s.size - 4))) := by
  have hsz : s.size = 34 + bd.size := by rw [← natsOf_len, hs, encN_len]
  have hpb : ∀ x ∈ preN a b c d e t g h bd, x < 256 := by
    intro x hx
    have h1 := natsOf_lt s
    rw [hs] at h1
    exact h1 x (List.mem_append_left _ hx)
  have hhb : ∀ x ∈ [157, 227] ++ beN 2 (bd.size + 34), x < 256 := by
    intro x hx
    apply hpb x
    unfold preN
    rw [← List.append_assoc]
    exact List.mem_append_left _ hx
  have hlow : ∀ n x : Nat, fN s n 1 = x ↔ fN s n 1 = x := fun _ _ => Iff.rfl
  have one : ∀ z : Nat, hiN [z] = z := fun z => by simp [hiN]
  obtain ⟨T, hT⟩ : ∃ T, T = beN 4 (Crc.sum (preN a b c d e t g h bd)) := ⟨_, rfl⟩
  obtain ⟨M, hM⟩ : ∃ M, M = beN 4 (Crc.sum ([157, 227] ++ beN 2 (bd.size + 34))) := ⟨_, rfl⟩
  have hMl : M.length = 4 := by rw [hM, beN_len]
  have hTl : T.length = 4 := by rw [hT, beN_len]
  have hs2 : natsOf s = preN a b c d e t g h bd ++ (T ++ []) := by rw [hs, hT, List.append_nil]; rfl
  have hs1 : natsOf s = [157, 227] ++ (beN 2 (bd.size + 34) ++ (M ++ ([a] ++ ([b] ++ ([c] ++ (beN 2 d ++ (beN 4 e ++ (beN 8 t ++ (beN 4 g ++ ([if h = true then 1 else 0] ++ (natsOf bd ++ T))))))))))) := by
    rw [hs, encN, ← hT, preN, ← hM]
    simp only [List.append_assoc]
  have s0 := seg_of (P := []) (F := [157, 227]) (p := 0) (n := 2) hs1 rfl rfl
  have s1 := seg_of (P := [157, 227]) (F := beN 2 (bd.size + 34)) (p := 2) (n := 2) hs1 rfl (beN_len _ _)
  have s2 := seg_of (P := [157, 227] ++ beN 2 (bd.size + 34)) (F := M) (p := 4) (n := 4) (by rw [hs1]; simp only [List.append_assoc]; rfl) (by simp [beN_len]) hMl
  have s3 := seg_of (P := [157, 227] ++ (beN 2 (bd.size + 34) ++ M)) (F := [a]) (p := 8) (n := 1) (by rw [hs1]; simp only [List.append_assoc]; rfl) (by simp [beN_len, hMl]) rfl
  have s4 := seg_of (P := [157, 227] ++ (beN 2 (bd.size + 34) ++ (M ++ [a]))) (F := [b]) (p := 9) (n := 1) (by rw [hs1]; simp only [List.append_assoc]; rfl) (by simp [beN_len, hMl]) rfl
  have s5 := seg_of (P := [157, 227] ++ (beN 2 (bd.size + 34) ++ (M ++ ([a] ++ [b])))) (F := [c]) (p := 10) (n := 1) (by rw [hs1]; simp only [List.append_assoc]; rfl) (by simp [beN_len, hMl]) rfl
  have s6 := seg_of (P := [157, 227] ++ (beN 2 (bd.size + 34) ++ (M ++ ([a] ++ ([b] ++ [c]))))) (F := beN 2 d) (p := 11) (n := 2) (by rw [hs1]; simp only [List.append_assoc]; rfl) (by simp [beN_len, hMl]) (beN_len _ _)
  have s7 := seg_of (P := [157, 227] ++ (beN 2 (bd.size + 34) ++ (M ++ ([a] ++ ([b] ++ ([c] ++ beN 2 d)))))) (F := beN 4 e) (p := 13) (n := 4) (by rw [hs1]; simp only [List.append_assoc]; rfl) (by simp [beN_len, hMl]) (beN_len _ _)
  have s8 := seg_of (P := [157, 227] ++ (beN 2 (bd.size + 34) ++ (M ++ ([a] ++ ([b] ++ ([c] ++ (beN 2 d ++ beN 4 e))))))) (F := beN 8 t) (p := 17) (n := 8) (by rw [hs1]; simp only [List.append_assoc]; rfl) (by simp [beN_len, hMl]) (beN_len _ _)
  have s9 := seg_of (P := [157, 227] ++ (beN 2 (bd.size + 34) ++ (M ++ ([a] ++ ([b] ++ ([c] ++ (beN 2 d ++ (beN 4 e ++ beN 8 t)))))))) (F := beN 4 g) (p := 25) (n := 4) (by rw [hs1]; simp only [List.append_assoc]; rfl) (by simp [beN_len, hMl]) (beN_len _ _)
  have s10 := seg_of (P := [157, 227] ++ (beN 2 (bd.size + 34) ++ (M ++ ([a] ++ ([b] ++ ([c] ++ (beN 2 d ++ (beN 4 e ++ (beN 8 t ++ beN 4 g))))))))) (F := [if h = true then 1 else 0]) (p := 29) (n := 1) (by rw [hs1]; simp only [List.append_assoc]; rfl) (by simp [beN_len, hMl]) rfl
  have s11 := seg_of (P := [157, 227] ++ (beN 2 (bd.size + 34) ++ (M ++ ([a] ++ ([b] ++ ([c] ++ (beN 2 d ++ (beN 4 e ++ (beN 8 t ++ (beN 4 g ++ [if h = true then 1 else 0])))))))))) (F := natsOf bd) (p := 30) (n := bd.size) (by rw [hs1]; simp only [List.append_assoc]; rfl) (by simp [beN_len, hMl]) (natsOf_len _)
  have s12 := seg_of (P := preN a b c d e t g h bd) (F := T) (p := s.size - 4) (n := 4) hs2 (by rw [preN_len]; omega) hTl
  have hx2 : s.extract 0 2 = markS := by
    apply natsOf_inj
    rw [natsOf_extract, show (2 - 0) = 2 from rfl, s0]
    rfl
  have hx4 : bytesN (s.extract 0 4) = [157, 227] ++ beN 2 (bd.size + 34) := by
    rw [bytesN_eq, natsOf_extract]
    exact seg_of (P := []) (F := [157, 227] ++ beN 2 (bd.size + 34)) (p := 0) (n := 4) (by rw [hs1]; simp only [List.append_assoc, List.nil_append]; rfl) rfl (by simp [beN_len])
  have hpre : bytesN (s.extract 0 (s.size - 4)) = preN a b c d e t g h bd := by
    rw [bytesN_eq, natsOf_extract]
    exact seg_of (P := []) (F := preN a b c d e t g h bd) (p := 0) (n := s.size - 4 - 0) hs2 rfl (by rw [preN_len]; omega)
  refine ⟨hsz, ⟨⟨by omega, by omega⟩, hx2, ?_, ?_⟩, ?_, ?_, ?_, ?_, ?_, ?_, ?_, ?_, ?_, ?_⟩
  · unfold fN; rw [s1, hiN_beN _ _ (by omega)]; omega
  · unfold fN; rw [s2, hx4, hM, hiN_beN _ _ (sum_lt' _ hhb)]
  · unfold fN; rw [s3, one]
  · unfold fN; rw [s4, one]
  · unfold fN; rw [s5, one]
  · unfold fN; rw [s6, hiN_beN _ _ (by omega)]
  · unfold fN; rw [s7, hiN_beN _ _ (by omega)]
  · unfold fN; rw [s8, hiN_beN _ _ (by omega)]
  · unfold fN; rw [s9, hiN_beN _ _ (by omega)]
  · unfold fN; rw [s10, one]
  · apply natsOf_inj
    rw [natsOf_extract, show s.size - 4 - 30 = bd.size by omega, s11]
  · rw [hpre]; unfold fN; rw [s12, hT, hiN_beN _ _ (sum_lt' _ hpb)]
end Go.Proofs.Ytgboppgghidgbaa.My
namespace Go.Proofs.Ytgboppgghidgbaa.My
open Go.RowKit Go.Proofs.YtgboppgghidgbaaW.PrintWords Go.Proofs.Ytgboppgghidgbaa
set_option linter.unusedSimpArgs false
set_option linter.unusedVariables false
def seg (s : ByteArray) (p n : Nat) : List Nat := ((natsOf s).drop p).take n
theorem seg_split (s : ByteArray) (p n : Nat) : (natsOf s).drop p = seg s p n ++ (natsOf s).drop (p + n) := by
  unfold seg
  rw [← List.drop_drop, List.take_append_drop]
theorem seg_len (s : ByteArray) (p n : Nat) (h : p + n ≤ s.size) : (seg s p n).length = n := by
  unfold seg
  rw [List.length_take, List.length_drop, natsOf_len]; omega
theorem seg_lt (s : ByteArray) (p n : Nat) : ∀ x ∈ seg s p n, x < 256 := fun x hx => natsOf_lt s x (List.mem_of_mem_drop (List.mem_of_mem_take hx))
theorem seg_be (s : ByteArray) (p n : Nat) (h : p + n ≤ s.size) : seg s p n = beN n (fN s p n) := (hiN_bound _ (seg_lt s p n) n (seg_len s p n h)).symm
theorem beN_one (v : Nat) (h : v < 256) : beN 1 v = [v] := by
  rw [beN_succ, Nat.mod_eq_of_lt h]; rfl
theorem seg_one (s : ByteArray) (p : Nat) (h : p + 1 ≤ s.size) : seg s p 1 = [fN s p 1] := by
  rw [seg_be s p 1 h, beN_one _ (by have := fN_lt s p 1; omega)]
theorem refields (s : ByteArray) (hk : HeadOk s) (hx : fN s 29 1 ≤ 1) (hy : fN s (s.size - 4) 4 = Crc.sum (bytesN (s.extract 0 (s.size - 4)))) :
    natsOf s = encN (fN s 8 1) (fN s 9 1) (fN s 10 1) (fN s 11 2) (fN s 13 4) (fN s 17 8) (fN s 25 4) (fN s 29 1 == 1) (s.extract 30 (s.size - 4)) := by
  obtain ⟨⟨h34, _⟩, hm, h22, h44⟩ := hk
  have hbs : (s.extract 30 (s.size - 4)).size = s.size - 34 := by rw [ByteArray.size_extract]; omega
  have g0 : seg s 0 2 = [157, 227] := by
    have := congrArg natsOf hm
    rw [natsOf_extract] at this
    exact this
  have g2 : seg s 2 2 = beN 2 (s.size - 34 + 34) := by rw [seg_be s 2 2 (by omega), h22]; congr 1; omega
  have gb : natsOf (s.extract 30 (s.size - 4)) = seg s 30 (s.size - 34) := by
    rw [natsOf_extract, show s.size - 4 - 30 = s.size - 34 by omega]; rfl
  have g04 : bytesN (s.extract 0 4) = [157, 227] ++ beN 2 (s.size - 34 + 34) := by
    rw [bytesN_eq, natsOf_extract, ← g0, ← g2]
    have h5 : (natsOf s).take (2 + 2) = (natsOf s).take 2 ++ ((natsOf s).drop 2).take 2 := List.take_add
    exact h5
  have g4 : seg s 4 4 = beN 4 (Crc.sum ([157, 227] ++ beN 2 (s.size - 34 + 34))) := by rw [seg_be s 4 4 (by omega), h44, g04]
  have g29 : seg s 29 1 = [if (fN s 29 1 == 1) = true then 1 else 0] := by
    rw [seg_one s 29 (by omega)]
    have h01 : fN s 29 1 = 0 ∨ fN s 29 1 = 1 := by omega
    rcases h01 with h | h <;> rw [h] <;> rfl
  have hpre : natsOf (s.extract 0 (s.size - 4)) = preN (fN s 8 1) (fN s 9 1) (fN s 10 1) (fN s 11 2) (fN s 13 4) (fN s 17 8) (fN s 25 4) (fN s 29 1 == 1) (s.extract 30 (s.size - 4)) := by
    unfold preN
    rw [hbs, ← g4, ← g0, ← g2, ← seg_one s 8 (by omega), ← seg_one s 9 (by omega), ← seg_one s 10 (by omega), ← seg_be s 11 2 (by omega), ← seg_be s 13 4 (by omega), ← seg_be s 17 8 (by omega), ← seg_be s 25 4 (by omega), ← g29, gb]
    rw [natsOf_extract]
    have e : ∀ p n m, p + n + m = s.size - 4 → ((natsOf s).drop p).take (n + m) = seg s p n ++ ((natsOf s).drop (p + n)).take m := by
      intro p n m _
      unfold seg
      rw [List.take_add, List.drop_drop]
    rw [show s.size - 4 - 0 = 2 + (s.size - 4 - 2) by omega, e 0 2 _ (by omega)]
    rw [show s.size - 4 - 2 = 2 + (s.size - 4 - 4) by omega, e _ 2 _ (by omega)]
    rw [show s.size - 4 - 4 = 4 + (s.size - 4 - 8) by omega, e _ 4 _ (by omega)]
    rw [show s.size - 4 - 8 = 1 + (s.size - 4 - 9) by omega, e _ 1 _ (by omega)]
    rw [show s.size - 4 - 9 = 1 + (s.size - 4 - 10) by omega, e _ 1 _ (by omega)]
    rw [show s.size - 4 - 10 = 1 + (s.size - 4 - 11) by omega, e _ 1 _ (by omega)]
    rw [show s.size - 4 - 11 = 2 + (s.size - 4 - 13) by omega, e _ 2 _ (by omega)]
    rw [show s.size - 4 - 13 = 4 + (s.size - 4 - 17) by omega, e _ 4 _ (by omega)]
    rw [show s.size - 4 - 17 = 8 + (s.size - 4 - 25) by omega, e _ 8 _ (by omega)]
    rw [show s.size - 4 - 25 = 4 + (s.size - 4 - 29) by omega, e _ 4 _ (by omega)]
    rw [show s.size - 4 - 29 = 1 + (s.size - 34) by omega, e _ 1 _ (by omega)]
    rfl
  unfold encN
  rw [← hpre]
  have ht : beN 4 (Crc.sum (natsOf (s.extract 0 (s.size - 4)))) = (natsOf s).drop (s.size - 4) := by
    have h1 := seg_be s (s.size - 4) 4 (by omega)
    rw [hy, bytesN_eq] at h1
    rw [← h1]
    unfold seg
    rw [List.take_of_length_le (by rw [List.length_drop, natsOf_len]; omega)]
  rw [ht, natsOf_extract, Nat.sub_zero, List.drop_zero, List.take_append_drop]
/-- The sum stands behind the bytes. -/
theorem turned_tf (p q : List Nat) (i z : Nat) (hp : ∀ x ∈ p, x < 256) (hq : ∀ x ∈ q, x < 256) (hi : i < (p ++ beN 4 (Crc.sum p)).length) (h : (p ++ beN 4 (Crc.sum p)).set i z = q ++ beN 4 (Crc.sum q)) : (p ++ beN 4 (Crc.sum p))[i] = z := by
  have hl : p.length = q.length := by
    have := congrArg List.length h
    simp [beN_len] at this
    exact this
  have inj : ∀ a b : Nat, a < 256 ^ 4 → b < 256 ^ 4 → beN 4 a = beN 4 b → a = b := fun a b ha hb e => by
    rw [← hiN_beN 4 a ha, ← hiN_beN 4 b hb, e]
  by_cases hlt : i < p.length
  · rw [List.set_append_left _ _ hlt] at h
    obtain ⟨h1, h2⟩ := List.append_inj h (by simp [hl])
    have hs := inj _ _ (sum_lt' p hp) (sum_lt' q hq) h2
    rw [List.getElem_append_left hlt]
    rw [← h1] at hs hq
    have e1 : p = p.take i ++ p[i] :: p.drop (i + 1) := by rw [← List.drop_eq_getElem_cons hlt, List.take_append_drop]
    have e2 : p.set i z = p.take i ++ z :: p.drop (i + 1) := by rw [List.set_eq_take_append_cons_drop, if_pos hlt]
    rw [e2] at hs hq
    have hs' : Crc.sum (p.take i ++ p[i] :: p.drop (i + 1)) = Crc.sum (p.take i ++ z :: p.drop (i + 1)) := by rw [← e1]; exact hs
    exact Crc.sum_one (p.take i) (p.drop (i + 1)) p[i] z (fun x hx => hp x (List.mem_of_mem_take hx)) (fun x hx => hp x (List.mem_of_mem_drop hx)) (hp _ (List.getElem_mem hlt)) (hq z (by simp)) hs'
  · rw [List.set_append_right _ _ (by omega)] at h
    obtain ⟨h1, h2⟩ := List.append_inj h hl
    subst h1
    have hj : i - p.length < (beN 4 (Crc.sum p)).length := by simp [beN_len] at hi ⊢; omega
    rw [List.getElem_append_right (by omega)]
    have h3 : ((beN 4 (Crc.sum p)).set (i - p.length) z)[i - p.length]'(by simpa using hj) = z := List.getElem_set_self _
    rw [← h3]
    congr 1
    exact h2.symm
end Go.Proofs.Ytgboppgghidgbaa.My
