/- What the Reader answers, as plain functions. -/
import Derived.Test.YtdjjpgdhnoibkaaNdEnc
import Derived.Test.YtdjjpgdhnoibkaaPDy2
namespace Go.Proofs.Ytdjjpgdhnoibkaa.My
open Go.RowKit Go.Proofs.YtdjjpgdhnoibkaaW.PrintWords Go.Proofs.YtdjjpgdhnoibkaaW.PrintLast Go.Proofs.YtdjjpgdhnoibkaaW.PrintMore Go.Proofs.Ytdjjpgdhnoibkaa Go.Proofs.Ytdjjpgdhnoibkaa.PZ Go.Proofs.Ytdjjpgdhnoibkaa.PD
set_option linter.unusedSimpArgs false
set_option linter.unusedVariables false
set_option maxRecDepth 100000
set_option maxHeartbeats 1600000
def natsOf (s : ByteArray) : List Nat := s.data.toList.map (·.toNat)
theorem natsOf_len (s : ByteArray) : (natsOf s).length = s.size := by unfold natsOf; rw [List.length_map, data_length]
def uL (most : Nat) : Nat → Nat → Nat → List Nat → Int × Nat × Nat
 | 0, _, _, _ => (11, 0, 0)
 | _ + 1, _, _, [] => (10, 0, 0)
 | k + 1, i, v, c :: t =>
  if i = 9 ∧ 1 < c then (11, 0, 0) else
  if 128 ≤ c then uL most k (i + 1) (v + c % 128 * 128 ^ i) t else
  if (c = 0 ∧ 0 < i) ∨ most < v + c % 128 * 128 ^ i then (11, 0, 0) else (0, v + c % 128 * 128 ^ i, i + 1)
def uRead (s : ByteArray) (p most : Nat) : Int × Nat × Nat := uL most 10 0 0 ((natsOf s).drop p)
theorem natsOf_drop (s : ByteArray) (q : Nat) (h : q < s.size) : (natsOf s).drop q = (s[q]).toNat :: (natsOf s).drop (q + 1) := by
 have hl : q < (natsOf s).length := by rw [natsOf_len]; exact h
 rw [List.drop_eq_getElem_cons hl]
 congr 1
 simp [natsOf, ByteArray.getElem_eq_getElem_data]
theorem and127 : ∀ b : Nat, b < 256 → b &&& 127 = b % 128 := by decide
theorem uL_num (n x c : Nat) (hx : x < 128 ^ n) (hn : n < 10) (h9 : ¬ (n = 9 ∧ 1 < c)) : x + c % 128 * 128 ^ n < 128 ^ (n + 1) ∧ x + c % 128 * 128 ^ n < 18446744073709551616 ∧ Aside0 (Go.bits .or .u64 (x : Int) (IntKind.u64.wrap ((c : Int) % 128 * 2 ^ (7 * n))) = ((x + c % 128 * 128 ^ n : Nat) : Int)) := by
 have h1 : c % 128 * 128 ^ n ≤ 127 * 128 ^ n := Nat.mul_le_mul_right _ (by omega)
 have h2 : x + c % 128 * 128 ^ n < 128 ^ (n + 1) := by rw [Nat.pow_succ]; omega
 have h3 : x + c % 128 * 128 ^ n < 18446744073709551616 := by
  by_cases h : n = 9
  ·subst h
   have : c % 128 ≤ 1 := by omega
   have e : (128 : Nat) ^ 9 = 9223372036854775808 := by decide
   rw [e] at hx ⊢
   omega
  ·have : 128 ^ (n + 1) ≤ 128 ^ 9 := Nat.pow_le_pow_right (by omega) (by omega)
   have e : (128 : Nat) ^ 9 = 9223372036854775808 := by decide
   omega
 refine ⟨h2, h3, ⟨?_⟩⟩
 have e1 : (2 : Nat) ^ (7 * n) = 128 ^ n := by rw [Nat.pow_mul]
 have e2 : ((c : Int) % 128 * 2 ^ (7 * n)) = ((c % 128 * 128 ^ n : Nat) : Int) := by rw [← e1]; push_cast; rfl
 rw [e2, IntKind.wrap_u64, Int.emod_eq_of_lt (by omega) (by omega), u64_or_nat _ _ (by omega) (by omega), Nat.or_comm, ← e1, nat_join (7 * n) _ _ (by rw [Nat.mul_mod_left]) (by rw [e1]; exact hx), Nat.add_comm]
theorem natsOf_extract (s : ByteArray) (p q : Nat) : natsOf (s.extract p q) = ((natsOf s).drop p).take (q - p) := by
 unfold natsOf
 simp [ByteArray.data_extract, List.map_drop, List.map_take]
def fe (e n : Int) : Int := if e = 0 then n else e
def rU (s : ByteArray) (p : Nat) (e : Int) (most : Nat) : Nat × Nat × Int := if e = 0 then ((uRead s p most).2.1, p + (uRead s p most).2.2, (uRead s p most).1) else (0, p, e)
theorem uL_bd (most : Nat) : ∀ (k i v : Nat) (l : List Nat), (uL most k i v l).2.2 ≤ i + l.length ∧ (uL most k i v l).2.1 ≤ most ∧ ((uL most k i v l).1 ≠ 0 → (uL most k i v l).2 = (0, 0))
 | 0, i, v, l => by simp [uL]
 | k + 1, i, v, [] => by simp [uL]
 | k + 1, i, v, c :: t => by
  rw [uL]
  split
  ·simp
  ·split
   ·have := uL_bd most k (i + 1) (v + c % 128 * 128 ^ i) t
    exact ⟨by have := this.1; simp only [List.length_cons]; omega, this.2⟩
   ·split
    ·simp
    ·rename_i h
     exact ⟨by simp only [List.length_cons]; omega, by simp only; omega, by simp⟩
theorem rU_le (s : ByteArray) (p : Nat) (e : Int) (most : Nat) (hp : p ≤ s.size) : (rU s p e most).2.1 ≤ s.size := by
 unfold rU
 split
 ·have := (uL_bd most 10 0 0 ((natsOf s).drop p)).1
  rw [List.length_drop, natsOf_len] at this
  show p + (uRead s p most).2.2 ≤ _
  unfold uRead
  omega
 ·exact hp
theorem rU_most (s : ByteArray) (p : Nat) (e : Int) (most : Nat) : (rU s p e most).1 ≤ most := by
 unfold rU
 split
 ·exact (uL_bd most 10 0 0 ((natsOf s).drop p)).2.1
 ·exact Nat.zero_le _
def uvN (k v : Nat) : List Nat := (uv k v).map Int.toNat
theorem uvN_succ (k v : Nat) : uvN (k + 1) v = if v < 128 then [v] else (v % 128 + 128) :: uvN k (v / 128) := by
 unfold uvN
 rw [uv]
 split
 ·rfl
 ·rfl
theorem uv_bounds : ∀ k v, v < 128 * 128 ^ k → ∀ x ∈ uv k v, 0 ≤ x ∧ x < 256
 | 0, v, h, x, hx => by
  rw [uv] at hx
  have := List.mem_singleton.1 hx
  omega
 | k + 1, v, h, x, hx => by
  rw [uv] at hx
  split at hx
  ·have := List.mem_singleton.1 hx
   omega
  ·rcases List.mem_cons.1 hx with e | hx
   ·omega
   ·exact uv_bounds k (v / 128) (by rw [Nat.pow_succ] at h; omega) x hx
theorem pow9 (most v a i : Nat) (h : v * 128 ^ i + a ≤ most) (hm : most < 18446744073709551616) (hi : i = 9) : v ≤ 1 := by
 subst hi
 have e : (128 : Nat) ^ 9 = 9223372036854775808 := by decide
 rw [e] at h
 omega
theorem pow10 (most v a i : Nat) (h : v * 128 ^ i + a ≤ most) (hm : most < 18446744073709551616) (hi : i = 10) : v = 0 := by
 subst hi
 have e : (128 : Nat) ^ 10 = 1180591620717411303424 := by decide
 rw [e] at h
 omega
theorem uv_step (v a i : Nat) : v / 128 * 128 ^ (i + 1) + (a + v % 128 * 128 ^ i) = v * 128 ^ i + a := by
 have h : v * 128 ^ i = v / 128 * 128 ^ (i + 1) + v % 128 * 128 ^ i := by
  conv => lhs; rw [← Nat.div_add_mod v 128]
  rw [Nat.add_mul, Nat.pow_succ, Nat.mul_comm 128 (v / 128), Nat.mul_assoc, Nat.mul_comm 128]
 omega
theorem uL_uv (most : Nat) (hm : most < 18446744073709551616) (R : List Nat) : ∀ (k i v a : Nat), i + k = 10 → v * 128 ^ i + a ≤ most → (0 < i → 0 < v) → uL most k i a (uvN k v ++ R) = (0, v * 128 ^ i + a, i + (uvN k v).length)
 | 0, i, v, a, hi, h, hv => by
  have h1 := pow10 most v a i h hm (by omega)
  have h2 := hv (by omega)
  omega
 | k + 1, i, v, a, hi, h, hv => by
  rw [uvN_succ]
  by_cases h128 : v < 128
  ·rw [if_pos h128, List.singleton_append, uL, if_neg (fun h9 => by have := pow9 most v a i h hm h9.1; omega), if_neg (by omega), Nat.mod_eq_of_lt h128, if_neg (by rintro (h0 | h0); (have := hv h0.2; omega); omega), Nat.add_comm]
   rfl
  ·have hs := uv_step v a i
   have h2 : (v % 128 + 128) % 128 = v % 128 := by omega
   rw [if_neg h128, List.cons_append, uL, if_neg (fun h9 => by have := pow9 most v a i h hm h9.1; omega), if_pos (by omega), h2, uL_uv most hm R k (i + 1) (v / 128) (a + v % 128 * 128 ^ i) (by omega) (by omega) (by omega), hs, List.length_cons]
   congr 2
   omega
theorem rU_ok {s : ByteArray} {P R : List Nat} {v most : Nat} (h : natsOf s = P ++ (uvN 10 v ++ R)) (hv : v ≤ most) (hm : most < 18446744073709551616) : rU s P.length 0 most = (v, P.length + (uvN 10 v).length, 0) := by
 unfold rU uRead
 rw [if_pos rfl, h, List.drop_left, uL_uv most hm R 10 0 v 0 rfl (by simpa using hv) (fun h => absurd h (Nat.lt_irrefl 0))]
 simp
theorem rU_err (s : ByteArray) (p : Nat) {e : Int} (most : Nat) (he : e ≠ 0) : rU s p e most = (0, p, e) := if_neg he
theorem bt_nat (s : ByteArray) (i : Nat) (h : i < s.size) : bt s (i : Int) = (((natsOf s).getD i 0 : Nat) : Int) := by
 unfold bt
 rw [dif_pos (by rw [Int.toNat_natCast]; exact h)]
 have hl : i < (natsOf s).length := by rw [natsOf_len]; exact h
 rw [List.getD_eq_getElem?_getD, List.getElem?_eq_getElem hl]
 simp [natsOf, ByteArray.getElem_eq_getElem_data]
theorem w64A1 (n : Nat) (h : n < 1000000) : wrap64 ((n : Int) + 1) = ((n + 1 : Nat) : Int) := w64A n 1 (by omega)
theorem w64M (n : Nat) (h : n < 1000000) : wrap64 (7 * (n : Int)) = ((7 * n : Nat) : Int) := by rw [show (7 * (n : Int)) = ((7 * n : Nat) : Int) by omega, w64N _ (by omega)]
theorem vU_l0 (s : ByteArray) (p most : Nat) (hp : p ≤ s.size) (hs : s.size ≤ 500000000000000) (hm : most < 18446744073709551616) : ∀ (m n x k : Nat), n + m = 10 → x < 128 ^ n → p + n ≤ s.size → 2 * m + 2 ≤ k →
  wire_Reader_Uint.l0 k (most : Int) (x : Int) (n : Int) s (p : Int) 0 = some (((uL most m n x ((natsOf s).drop (p + n))).2.1 : Int), s, ((p + (uL most m n x ((natsOf s).drop (p + n))).2.2 : Nat) : Int), (uL most m n x ((natsOf s).drop (p + n))).1)
 | 0, n, x, k, hn, hx, hpn, hk => by
  obtain ⟨k, rfl⟩ : ∃ j, k = j + 2 := ⟨k - 2, by omega⟩
  rw [wire_Reader_Uint.l0, if_neg (by omega), uL]
  rfl
 | m + 1, n, x, k, hn, hx, hpn, hk => by
  have HX := Aside0.mk hx
  clear hx
  obtain ⟨k, rfl⟩ : ∃ j, k = j + 2 := ⟨k - 2, by omega⟩
  have hn11 : n < 11 := by omega
  have hp9 : p + n < 900000000000000 := by omega
  have hn9 : n < 10 := by omega
  have hk2 : 2 * m + 2 ≤ k := by omega
  have hnm : n + 1 + m = 10 := by omega
  have hn9i : (n : Int) < 10 := by omega
  have hs2 : s.size < 9000000000000000 := by omega
  have e1 : wrap64 ((p : Int) + n) = ((p + n : Nat) : Int) := w64A p n (by omega)
  rw [wire_Reader_Uint.l0, if_pos hn9i, e1]
  by_cases hsz : p + n < s.size
  ·have hc8 : (s[p + n]).toNat < 256 := (s[p + n]).toNat_lt
   have hd := natsOf_drop s (p + n) hsz
   have hbt : bt s ((p + n : Nat) : Int) = (((s[p + n]).toNat : Nat) : Int) := by
    have hl : p + n < (natsOf s).length := by rw [natsOf_len]; exact hsz
    rw [bt_nat s (p + n) hsz, List.getD_eq_getElem?_getD, List.getElem?_eq_getElem hl]
    simp [natsOf, ByteArray.getElem_eq_getElem_data]
   rw [if_neg (by omega), if_pos (by omega), if_pos (by omega), hbt, hd]
   clear hbt
   generalize (s[p + n]).toNat = c at hc8 hd ⊢
   have hj : (if (n : Int) = 9 then wire_Reader_Uint.j1 (k + 1) (most : Int) (x : Int) (n : Int) (c : Int) (n : Int) (decide ((c : Int) > 1)) s (p : Int) 0 else wire_Reader_Uint.j1 (k + 1) (most : Int) (x : Int) (n : Int) (c : Int) (n : Int) false s (p : Int) 0) = wire_Reader_Uint.j1 (k + 1) (most : Int) (x : Int) (n : Int) (c : Int) (n : Int) (decide (n = 9 ∧ 1 < c)) s (p : Int) 0 := by
    by_cases h9 : n = 9
    ·subst h9
     rw [if_pos (show ((9 : Nat) : Int) = 9 from rfl)]
     congr 1
     simp
     omega
    ·rw [if_neg (by omega)]
     congr 1
     simp [h9]
   rw [hj, wire_Reader_Uint.j1, uL]
   by_cases h9 : n = 9 ∧ 1 < c
   ·rw [if_pos (by simpa using h9), if_pos h9]
    rfl
   ·obtain ⟨hnew, hnew2, hor⟩ := uL_num n x c HX.out hn9 h9
    have e7 := w64M n (Nat.lt_of_lt_of_le hn11 (by decide))
    have ha : IntKind.u64.wrap (Go.bits .and .u8 (c : Int) 127) = (c : Int) % 128 := by
     have h1 := u8_and_nat c 127 (by omega) (by omega)
     rw [and127 c hc8] at h1
     rw [show Go.bits .and .u8 (c : Int) 127 = ((c % 128 : Nat) : Int) from h1, IntKind.wrap_u64]
     omega
    have hsh : shl .u64 ((c : Int) % 128) ((7 * n : Nat) : Int) = IntKind.u64.wrap ((c : Int) % 128 * 2 ^ (7 * n)) := by
     unfold shl
     rw [Int.toNat_natCast, Nat.min_eq_left (by show 7 * n ≤ 64; omega)]
    have ho := hor.out
    have hor2 : Go.bits .or .u64 (x : Int) (shl .u64 (IntKind.u64.wrap (Go.bits .and .u8 (c : Int) 127)) (wrap64 (7 * (n : Int)))) = ((x + c % 128 * 128 ^ n : Nat) : Int) := by rw [e7, ha, hsh]; exact ho
    have e70 : (0 : Int) ≤ ((7 * n : Nat) : Int) := Int.natCast_nonneg _
    rw [if_neg (by simpa using h9), if_neg h9, hor2, e7, if_pos e70]
    clear hor2 e7 e70 hsh ha ho hor hj
    by_cases h128 : 128 ≤ c
    ·have en := w64A1 n (Nat.lt_of_lt_of_le hn11 (by decide))
     rw [if_pos (by clear hnew hnew2; omega), if_pos h128, en, vU_l0 s p most hp hs hm m (n + 1) _ k hnm hnew hsz hk2]
     rfl
    ·have en := w64A1 n (Nat.lt_of_lt_of_le hn11 (by decide))
     have ep := w64A p (n + 1) (by clear hnew hnew2 hm en h9 hd hn; omega)
     rw [if_neg (by clear hnew hnew2; omega), if_neg h128]
     clear hnew
     generalize x + c % 128 * 128 ^ n = y at hnew2 ⊢
     by_cases hc0 : c = 0
     ·rw [if_pos (by omega)]
      by_cases hn0 : 0 < n
      ·rw [if_pos (by omega), if_pos (.inl ⟨hc0, hn0⟩)]
       rfl
      ·rw [if_neg (by omega)]
       by_cases hmo : most < y
       ·rw [if_pos (by omega), if_pos (.inr hmo)]
        rfl
       ·rw [if_neg (by omega), if_neg (by rintro (h | h) <;> omega), en, ep]
     ·rw [if_neg (by omega)]
      by_cases hmo : most < y
      ·rw [if_pos (by omega), if_pos (.inr hmo)]
       rfl
      ·rw [if_neg (by omega), if_neg (by rintro (h | h) <;> omega), en, ep]
  ·rw [if_pos (by omega), List.drop_eq_nil_of_le (by rw [natsOf_len]; omega), uL]
   rfl
theorem vU_f (s : ByteArray) (p : Nat) (e : Int) (most : Nat) (hp : p ≤ s.size) (hs : s.size ≤ 500000000000000) (hm : most < 18446744073709551616) (k : Nat) (hk : 24 ≤ k) : wire_Reader_Uint.f k s (p : Int) e (most : Int) = some (((rU s p e most).1 : Int), s, ((rU s p e most).2.1 : Int), (rU s p e most).2.2) := by
 unfold wire_Reader_Uint.f rU
 by_cases he : e = 0
 ·subst he
  rw [if_pos rfl, if_pos rfl]
  exact vU_l0 s p most hp hs hm 10 0 0 k rfl (by decide) hp (by omega)
 ·rw [if_neg he, if_neg he]
  rfl
def hiN (l : List Nat) : Nat := l.foldl (fun v x => v * 256 + x) 0
theorem hiN_snoc (l : List Nat) (x : Nat) : hiN (l ++ [x]) = hiN l * 256 + x := by simp [hiN, List.foldl_append]
theorem natsOf_take (s : ByteArray) (n : Nat) (h : n < s.size) : (natsOf s).take (n + 1) = (natsOf s).take n ++ [(s[n]).toNat] := by
 have hl : n < (natsOf s).length := by rw [natsOf_len]; exact h
 rw [List.take_succ_eq_append_getElem hl]
 congr 2
 simp [natsOf, ByteArray.getElem_eq_getElem_data]
theorem hiN_lt (s : ByteArray) : ∀ k, k ≤ s.size → hiN ((natsOf s).take k) < 256 ^ k
 | 0, _ => by simp [hiN]
 | k + 1, h => by
  have h1 := hiN_lt s k (by omega)
  have h2 : (s[k]).toNat < 256 := (s[k]).toNat_lt
  rw [natsOf_take s k (by omega), hiN_snoc, Nat.pow_succ]
  omega
/-- n bytes are taken, if they are there: the bytes, whether they were there, the place, the error. -/
def tk (s : ByteArray) (p : Nat) (e n : Int) : ByteArray × Bool × Nat × Int :=
 if e = 0 then (if n ≤ (s.size : Int) - p then (s.extract p (p + n.toNat), true, p + n.toNat, 0) else (⟨#[]⟩, false, p, 10)) else (⟨#[]⟩, false, p, e)
theorem tk_err {s : ByteArray} {p : Nat} {e : Int} (n : Int) (h : e ≠ 0) : tk s p e n = (⟨#[]⟩, false, p, e) := by unfold tk; rw [if_neg h]
theorem tk_ok {s : ByteArray} {p : Nat} (n : Nat) (h : p + n ≤ s.size) : tk s p 0 n = (s.extract p (p + n), true, p + n, 0) := by unfold tk; rw [if_pos rfl, if_pos (by omega), Int.toNat_natCast]
/-- A text is taken: the text, the place, the error. -/
def rT (s : ByteArray) (p : Nat) (e most : Int) : ByteArray × Nat × Int :=
 if most < 0 then (⟨#[]⟩, p, fe e 1) else
 let u := rU s p e most.toNat
 let t := tk s u.2.1 u.2.2 u.1
 if t.2.1 = true then (t.1, t.2.2.1, t.2.2.2) else (⟨#[]⟩, p, t.2.2.2)
theorem be_bounds (n v : Nat) : ∀ x ∈ be n v, 0 ≤ x ∧ x < 256 := by
 intro x hx
 unfold be at hx
 obtain ⟨i, _, rfl⟩ := List.mem_map.1 hx
 have : v / 256 ^ (n - 1 - i) % 256 < 256 := Nat.mod_lt _ (by omega)
 omega
def beN (n v : Nat) : List Nat := (be n v).map Int.toNat
theorem beN_len (n v : Nat) : (beN n v).length = n := by simp [beN, be_len]
theorem beN_succ (n v : Nat) : beN (n + 1) v = beN n (v / 256) ++ [v % 256] := by
 unfold beN
 rw [be_succ, List.map_append]
 rfl
theorem hiN_beN : ∀ (n v : Nat), v < 256 ^ n → hiN (beN n v) = v
 | 0, v, h => by
  obtain rfl : v = 0 := by simpa using h
  rfl
 | n + 1, v, h => by
  rw [beN_succ, hiN_snoc, hiN_beN n (v / 256) (by rw [Nat.pow_succ] at h; omega)]
  omega
theorem natsOf_inj {s t : ByteArray} (h : natsOf s = natsOf t) : s = t := by
 apply ByteArray.ext
 apply Array.toList_inj.1
 unfold natsOf at h
 exact (List.map_inj_right (fun x y hxy => UInt8.toNat_inj.1 hxy)).1 h
theorem natsOf_str (l : List Int) (h : ∀ x ∈ l, 0 ≤ x ∧ x < 256) : natsOf (strOfNums l) = l.map Int.toNat := by
 unfold natsOf strOfNums
 simp only [List.map_map, List.toList_toArray]
 apply List.map_congr_left
 intro x hx
 have := h x hx
 simp
 omega
/-- A frame's bytes ahead of its sum. -/
theorem seg_of {s : ByteArray} {P F R : List Nat} {p n : Nat} (h : natsOf s = P ++ (F ++ R)) (hp : P.length = p) (hn : F.length = n) : ((natsOf s).drop p).take n = F := by
 rw [h, List.drop_left' hp, List.take_left' hn]
theorem vtake_f (s : ByteArray) (p n : Nat) (e : Int) (hp : p ≤ s.size) (hs : s.size ≤ 500000000000000) (hn : n ≤ 9000000000000000) : wire_Reader_take.f s (p : Int) e (n : Int) = some ((tk s p e n).1, (tk s p e n).2.1, s, ((tk s p e n).2.2.1 : Int), (tk s p e n).2.2.2) := by
 unfold wire_Reader_take.f tk
 by_cases he : e = 0
 ·subst he
  have e1 : wrap64 ((s.size : Int) - (p : Int)) = (s.size : Int) - p := by unfold wrap64; omega
  rw [if_pos rfl, if_pos rfl, e1]
  by_cases h : (n : Int) ≤ (s.size : Int) - p
  ·have e2 : wrap64 ((p : Int) + (n : Int)) = ((p + n : Nat) : Int) := w64A p n (by omega)
   rw [if_neg (by omega), if_pos h, e2, if_pos (by omega), if_pos (by omega), if_pos (by omega), Int.toNat_natCast, Int.toNat_natCast, Int.toNat_natCast]
  ·rw [if_pos (by omega), if_neg h]
 ·rw [if_neg he, if_neg he]
theorem high_l0 (t : ByteArray) (h8 : t.size ≤ 8) : ∀ (m i k : Nat), i + m = t.size → m + 1 ≤ k → wire_high.l0 k t ((hiN ((natsOf t).take i) : Nat) : Int) (t.size : Int) (i : Int) = some ((hiN (natsOf t) : Nat) : Int)
 | 0, i, k, hi, hk => by
  obtain ⟨k, rfl⟩ : ∃ j, k = j + 1 := ⟨k - 1, by omega⟩
  rw [wire_high.l0, if_neg (by omega), List.take_of_length_le (by rw [natsOf_len]; omega)]
 | m + 1, i, k, hi, hk => by
  obtain ⟨k, rfl⟩ : ∃ j, k = j + 1 := ⟨k - 1, by omega⟩
  have hi' : i < t.size := by omega
  have hv := hiN_lt t i (by omega)
  have hp : 256 ^ i ≤ 256 ^ 7 := Nat.pow_le_pow_right (by omega) (by omega)
  have hp7 : (256 : Nat) ^ 7 = 72057594037927936 := by decide
  have hvb : hiN ((natsOf t).take i) < 72057594037927936 := by rw [← hp7]; exact Nat.lt_of_lt_of_le hv hp
  have hby : (t[i]).toNat < 256 := (t[i]).toNat_lt
  have e := hiN_snoc ((natsOf t).take i) (t[i]).toNat
  rw [← natsOf_take t i hi'] at e
  have hbt : bt t (i : Int) = (((t[i]).toNat : Nat) : Int) := by
   have hl : i < (natsOf t).length := by rw [natsOf_len]; exact hi'
   rw [bt_nat t i hi', List.getD_eq_getElem?_getD, List.getElem?_eq_getElem hl]
   simp [natsOf, ByteArray.getElem_eq_getElem_data]
  have hs : wrap64 ((i : Int) + 1) = ((i + 1 : Nat) : Int) := w64A1 i (by omega)
  have ih := high_l0 t h8 m (i + 1) k (by omega) (by omega)
  rw [e] at ih
  rw [wire_high.l0, if_pos (by omega), if_pos (by omega), if_pos (by omega), hbt, hs]
  clear hbt e hv hp hp7 hs
  generalize hiN ((natsOf t).take i) = v at *
  generalize (t[i]).toNat = c at *
  have w1 : IntKind.u64.wrap ((v : Int) * 256) = (v : Int) * 256 := by rw [IntKind.wrap_u64]; omega
  have w2 : IntKind.u64.wrap (c : Int) = c := by rw [IntKind.wrap_u64]; omega
  have ho : Go.bits .or .u64 ((v : Int) * 256) (c : Int) = ((v * 256 + c : Nat) : Int) := by
   have h1 := u64_or_nat (v * 256) c (by omega) (by omega)
   rw [nat_join 8 (v * 256) _ (by omega) (by omega)] at h1
   rw [show ((v : Int) * 256) = ((v * 256 : Nat) : Int) from by omega]; exact h1
  rw [w1, w2, ho]
  exact ih
theorem high_f (t : ByteArray) (h8 : t.size ≤ 8) (k : Nat) (hk : 10 ≤ k) : wire_high.f k t = some ((hiN (natsOf t) : Nat) : Int) := high_l0 t h8 t.size 0 k (by omega) (by omega)
theorem tk_size (s : ByteArray) (p n : Nat) (e : Int) : (tk s p e n).1.size ≤ n := by
 unfold tk
 split
 ·split
  ·show (s.extract p (p + (n : Int).toNat)).size ≤ _
   rw [ByteArray.size_extract]; omega
  ·exact Nat.zero_le _
 ·exact Nat.zero_le _
theorem tk_le (s : ByteArray) (p n : Nat) (e : Int) (hp : p ≤ s.size) : (tk s p e n).2.2.1 ≤ s.size := by
 unfold tk
 split
 ·split
  ·show p + (n : Int).toNat ≤ s.size; omega
  ·exact hp
 ·exact hp
/-- A number of n bytes: the number, the place, the error. -/
def rF (s : ByteArray) (p : Nat) (e : Int) (n : Nat) : Nat × Nat × Int := (hiN (natsOf (tk s p e n).1), (tk s p e n).2.2.1, (tk s p e n).2.2.2)
theorem vbyte_f (s : ByteArray) (p : Nat) (e : Int) (hp : p ≤ s.size) (hs : s.size ≤ 500000000000000) (k : Nat) (hk : 12 ≤ k) : wire_Reader_Byte.f k s (p : Int) e = some (((rF s p e 1).1 : Int) % 256, s, ((rF s p e 1).2.1 : Int), (rF s p e 1).2.2) := by
 unfold wire_Reader_Byte.f rF
 have h := vtake_f s p 1 e hp hs (by omega)
 rw [show (1 : Int) = ((1 : Nat) : Int) from rfl, h, Option.bind_some]
 dsimp only
 rw [high_f _ (by have := tk_size s p 1 e; omega) k (by omega), Option.bind_some]
theorem vfixed_f (s : ByteArray) (p n : Nat) (e : Int) (h1 : 1 ≤ n) (h8 : n ≤ 8) (hp : p ≤ s.size) (hs : s.size ≤ 500000000000000) (k : Nat) (hk : 12 ≤ k) : wire_Reader_Fixed.f k s (p : Int) e (n : Int) = some (((rF s p e n).1 : Int), s, ((rF s p e n).2.1 : Int), (rF s p e n).2.2) := by
 obtain ⟨k, rfl⟩ : ∃ j, k = j + 1 := ⟨k - 1, by omega⟩
 unfold wire_Reader_Fixed.f rF
 rw [if_neg (by omega), decide_eq_false (show ¬ ((n : Int) > 8) by omega), wire_Reader_Fixed.j0, if_neg (by decide), vtake_f s p n e hp hs (by omega), Option.bind_some]
 dsimp only
 rw [high_f _ (by have := tk_size s p n e; omega) k (by omega), Option.bind_some]
theorem vtext_f (s : ByteArray) (p most : Nat) (e : Int) (hp : p ≤ s.size) (hs : s.size ≤ 500000000000000) (hm : most ≤ 1000000) (k : Nat) (hk : 24 ≤ k) : wire_Reader_Text.f k s (p : Int) e (most : Int) = some ((rT s p e most).1, s, ((rT s p e most).2.1 : Int), (rT s p e most).2.2) := by
 have q1 := rU_le s p e most hp
 have m1 := rU_most s p e most
 have w1 : IntKind.u64.wrap (most : Int) = most := by rw [IntKind.wrap_u64]; omega
 unfold wire_Reader_Text.f rT
 rw [if_neg (by omega), if_neg (by omega), w1, vU_f s p e most hp hs (by omega) k hk, Option.bind_some, Int.toNat_natCast]
 generalize rU s p e most = A at *
 obtain ⟨v, q, e1⟩ := A
 dsimp only at q1 m1 ⊢
 rw [w64N v (by omega), vtake_f s q v e1 q1 hs (by omega), Option.bind_some]
 dsimp only
 by_cases hb : (tk s q e1 v).2.1 = true
 ·rw [if_pos hb, if_pos hb]
 ·rw [if_neg hb, if_neg hb]
  have hz : (tk s q e1 v).1 = ⟨#[]⟩ := by
   unfold tk at hb ⊢
   split at hb
   ·rename_i h0
    rw [if_pos h0]
    split at hb
    ·exact absurd rfl hb
    ·rename_i h9
     rw [if_neg h9]
   ·rename_i h0
    rw [if_neg h0]
  rw [hz]
end Go.Proofs.Ytdjjpgdhnoibkaa.My
