/- Numbers of seven bits a byte: what is read of bytes. No program in sight, but for the last. -/
import Derived.Test.YtgcmmiihjiiemaaVecPut
import Derived.Test.YtgcmmiihjiiemaaWMore
namespace Go.Proofs.Ytgcmmiihjiiemaa.My
open Go.RowKit Go.Proofs.YtgcmmiihjiiemaaW.PrintWords Go.Proofs.YtgcmmiihjiiemaaW.PrintLast Go.Proofs.YtgcmmiihjiiemaaW.PrintMore Go.Proofs.Ytgcmmiihjiiemaa Go.Proofs.Ytgcmmiihjiiemaa.PVectorMax
set_option linter.unusedSimpArgs false
set_option linter.unusedVariables false
set_option maxRecDepth 100000
set_option maxHeartbeats 1600000
def natsOf (s : ByteArray) : List Nat := s.data.toList.map (·.toNat)
theorem natsOf_len (s : ByteArray) : (natsOf s).length = s.size := by unfold natsOf; rw [List.length_map, data_length]
def uL (most : Nat) : Nat → Nat → Nat → List Nat → Int × Nat × Nat
  | 0, _, _, _ => (11, 0, 0)
  | _ + 1, _, _, [] => (10, 0, 0)
  | k + 1, i, v, c :: t =>
    if i = 9 ∧ 1 < c then (11, 0, 0) else
    if 128 ≤ c then uL most k (i + 1) (v + c % 128 * 128 ^ i) t else
    if (c = 0 ∧ 0 < i) ∨ most < v + c % 128 * 128 ^ i then (11, 0, 0) else (0, v + c % 128 * 128 ^ i, i + 1)
def uRead (s : ByteArray) (p most : Nat) : Int × Nat × Nat := uL most 10 0 0 ((natsOf s).drop p)
theorem natsOf_drop (s : ByteArray) (q : Nat) (h : q < s.size) : (natsOf s).drop q = (s[q]).toNat :: (natsOf s).drop (q + 1) := by
  have hl : q < (natsOf s).length := by rw [natsOf_len]; exact h
  rw [List.drop_eq_getElem_cons hl]
  congr 1
  simp [natsOf, ByteArray.getElem_eq_getElem_data]
theorem and127 : ∀ b : Nat, b < 256 → b &&& 127 = b % 128 := by decide
theorem uL_num (n x c : Nat) (hx : x < 128 ^ n) (hn : n < 10) (h9 : ¬ (n = 9 ∧ 1 < c)) : x + c % 128 * 128 ^ n < 128 ^ (n + 1) ∧ x + c % 128 * 128 ^ n < 18446744073709551616 ∧ Aside0 (Go.bits .or .u64 (x : Int) (IntKind.u64.wrap ((c : Int) % 128 * 2 ^ (7 * n))) = ((x + c % 128 * 128 ^ n : Nat) : Int)) := by
  have h1 : c % 128 * 128 ^ n ≤ 127 * 128 ^ n := Nat.mul_le_mul_right _ (by omega)
  have h2 : x + c % 128 * 128 ^ n < 128 ^ (n + 1) := by rw [Nat.pow_succ]; omega
  have h3 : x + c % 128 * 128 ^ n < 18446744073709551616 := by
    by_cases h : n = 9
    · subst h
      have : c % 128 ≤ 1 := by omega
      have e : (128 : Nat) ^ 9 = 9223372036854775808 := by decide
      rw [e] at hx ⊢
      omega
    · have : 128 ^ (n + 1) ≤ 128 ^ 9 := Nat.pow_le_pow_right (by omega) (by omega)
      have e : (128 : Nat) ^ 9 = 9223372036854775808 := by decide
      omega
  refine ⟨h2, h3, ⟨?_⟩⟩
  have e1 : (2 : Nat) ^ (7 * n) = 128 ^ n := by rw [Nat.pow_mul]
  have e2 : ((c : Int) % 128 * 2 ^ (7 * n)) = ((c % 128 * 128 ^ n : Nat) : Int) := by rw [← e1]; push_cast; rfl
  rw [e2, IntKind.wrap_u64, Int.emod_eq_of_lt (by omega) (by omega), u64_or_nat _ _ (by omega) (by omega), Nat.or_comm, ← e1, nat_join (7 * n) _ _ (by rw [Nat.mul_mod_left]) (by rw [e1]; exact hx), Nat.add_comm]
theorem natsOf_lt (s : ByteArray) : ∀ x ∈ natsOf s, x < 256 := by
  intro x hx
  obtain ⟨b, _, rfl⟩ := List.mem_map.1 hx
  exact b.toNat_lt
theorem natsOf_extract (s : ByteArray) (p q : Nat) : natsOf (s.extract p q) = ((natsOf s).drop p).take (q - p) := by
  unfold natsOf
  simp [ByteArray.data_extract, List.map_drop, List.map_take]
def fe (e n : Int) : Int := if e = 0 then n else e
def rU (s : ByteArray) (p : Nat) (e : Int) (most : Nat) : Nat × Nat × Int := if e = 0 then ((uRead s p most).2.1, p + (uRead s p most).2.2, (uRead s p most).1) else (0, p, e)
theorem uL_bd (most : Nat) : ∀ (k i v : Nat) (l : List Nat), (uL most k i v l).2.2 ≤ i + l.length ∧ (uL most k i v l).2.1 ≤ most ∧ ((uL most k i v l).1 ≠ 0 → (uL most k i v l).2 = (0, 0))
  | 0, i, v, l => by simp [uL]
  | k + 1, i, v, [] => by simp [uL]
  | k + 1, i, v, c :: t => by
    rw [uL]
    split
    · simp
    · split
      · have := uL_bd most k (i + 1) (v + c % 128 * 128 ^ i) t
        exact ⟨by have := this.1; simp only [List.length_cons]; omega, this.2⟩
      · split
        · simp
        · rename_i h
          exact ⟨by simp only [List.length_cons]; omega, by simp only; omega, by simp⟩
theorem rU_le (s : ByteArray) (p : Nat) (e : Int) (most : Nat) (hp : p ≤ s.size) : (rU s p e most).2.1 ≤ s.size := by
  unfold rU
  split
  · have := (uL_bd most 10 0 0 ((natsOf s).drop p)).1
    rw [List.length_drop, natsOf_len] at this
    show p + (uRead s p most).2.2 ≤ _
    unfold uRead
    omega
  · exact hp
theorem rU_most (s : ByteArray) (p : Nat) (e : Int) (most : Nat) : (rU s p e most).1 ≤ most := by
  unfold rU
  split
  · exact (uL_bd most 10 0 0 ((natsOf s).drop p)).2.1
  · exact Nat.zero_le _
theorem rU_bad (s : ByteArray) (p : Nat) (e : Int) (most : Nat) (h : (rU s p e most).2.2 ≠ 0) : (rU s p e most).1 = 0 ∧ (rU s p e most).2.1 = p := by
  unfold rU at h ⊢
  by_cases he : e = 0
  · rw [if_pos he] at h ⊢
    have := (uL_bd most 10 0 0 ((natsOf s).drop p)).2.2 h
    unfold uRead
    rw [this]
    exact ⟨rfl, rfl⟩
  · rw [if_neg he]
    exact ⟨rfl, rfl⟩
def seg (s : ByteArray) (p n : Nat) : List Nat := ((natsOf s).drop p).take n
theorem seg_len (s : ByteArray) (p n : Nat) (h : p + n ≤ s.size) : (seg s p n).length = n := by
  unfold seg
  rw [List.length_take, List.length_drop, natsOf_len]; omega
theorem seg_lt (s : ByteArray) (p n : Nat) : ∀ x ∈ seg s p n, x < 256 := fun x hx => natsOf_lt s x (List.mem_of_mem_drop (List.mem_of_mem_take hx))
def uvN (k v : Nat) : List Nat := (uv k v).map Int.toNat
theorem uvN_zero (v : Nat) : uvN 0 v = [v] := by simp [uvN, uv]
theorem uvN_succ (k v : Nat) : uvN (k + 1) v = if v < 128 then [v] else (v % 128 + 128) :: uvN k (v / 128) := by
  unfold uvN
  rw [uv]
  split
  · rfl
  · rfl
theorem uv_bounds : ∀ k v, v < 128 * 128 ^ k → ∀ x ∈ uv k v, 0 ≤ x ∧ x < 256
  | 0, v, h, x, hx => by
    rw [uv] at hx
    have := List.mem_singleton.1 hx
    omega
  | k + 1, v, h, x, hx => by
    rw [uv] at hx
    split at hx
    · have := List.mem_singleton.1 hx
      omega
    · rcases List.mem_cons.1 hx with e | hx
      · omega
      · exact uv_bounds k (v / 128) (by rw [Nat.pow_succ] at h; omega) x hx
theorem pow9 (most v a i : Nat) (h : v * 128 ^ i + a ≤ most) (hm : most < 18446744073709551616) (hi : i = 9) : v ≤ 1 := by
  subst hi
  have e : (128 : Nat) ^ 9 = 9223372036854775808 := by decide
  rw [e] at h
  omega
theorem pow10 (most v a i : Nat) (h : v * 128 ^ i + a ≤ most) (hm : most < 18446744073709551616) (hi : i = 10) : v = 0 := by
  subst hi
  have e : (128 : Nat) ^ 10 = 1180591620717411303424 := by decide
  rw [e] at h
  omega
theorem uv_step (v a i : Nat) : v / 128 * 128 ^ (i + 1) + (a + v % 128 * 128 ^ i) = v * 128 ^ i + a := by
  have h : v * 128 ^ i = v / 128 * 128 ^ (i + 1) + v % 128 * 128 ^ i := by
    conv => lhs; rw [← Nat.div_add_mod v 128]
    rw [Nat.add_mul, Nat.pow_succ, Nat.mul_comm 128 (v / 128), Nat.mul_assoc, Nat.mul_comm 128]
  omega
theorem uL_uv (most : Nat) (hm : most < 18446744073709551616) (R : List Nat) : ∀ (k i v a : Nat), i + k = 10 → v * 128 ^ i + a ≤ most → (0 < i → 0 < v) → uL most k i a (uvN k v ++ R) = (0, v * 128 ^ i + a, i + (uvN k v).length)
  | 0, i, v, a, hi, h, hv => by
    have h1 := pow10 most v a i h hm (by omega)
    have h2 := hv (by omega)
    omega
  | k + 1, i, v, a, hi, h, hv => by
    rw [uvN_succ]
    by_cases h128 : v < 128
    · rw [if_pos h128, List.singleton_append, uL, if_neg (fun h9 => by have := pow9 most v a i h hm h9.1; omega), if_neg (by omega), Nat.mod_eq_of_lt h128, if_neg (by rintro (h0 | h0); (have := hv h0.2; omega); omega), Nat.add_comm]
      rfl
    · have hs := uv_step v a i
      have h2 : (v % 128 + 128) % 128 = v % 128 := by omega
      rw [if_neg h128, List.cons_append, uL, if_neg (fun h9 => by have := pow9 most v a i h hm h9.1; omega), if_pos (by omega), h2, uL_uv most hm R k (i + 1) (v / 128) (a + v % 128 * 128 ^ i) (by omega) (by omega) (by omega), hs, List.length_cons]
      congr 2
      omega
theorem rU_ok {s : ByteArray} {P R : List Nat} {v most : Nat} (h : natsOf s = P ++ (uvN 10 v ++ R)) (hv : v ≤ most) (hm : most < 18446744073709551616) : rU s P.length 0 most = (v, P.length + (uvN 10 v).length, 0) := by
  unfold rU uRead
  rw [if_pos rfl, h, List.drop_left, uL_uv most hm R 10 0 v 0 rfl (by simpa using hv) (fun h => absurd h (Nat.lt_irrefl 0))]
  simp
theorem rU_err (s : ByteArray) (p : Nat) {e : Int} (most : Nat) (he : e ≠ 0) : rU s p e most = (0, p, e) := if_neg he
theorem uL_back (most : Nat) : ∀ (k i a : Nat) (l : List Nat) (v n : Nat), (∀ x ∈ l, x < 256) → uL most k i a l = (0, v, n) → ∃ u R, l = uvN k u ++ R ∧ v = u * 128 ^ i + a ∧ n = i + (uvN k u).length ∧ (0 < i → 0 < u)
  | 0, i, a, l, v, n, _, h => by rw [uL] at h; simp at h
  | k + 1, i, a, [], v, n, _, h => by rw [uL] at h; simp at h
  | k + 1, i, a, c :: t, v, n, hb, h => by
    have hc : c < 256 := hb c (by simp)
    rw [uL] at h
    split at h
    · simp at h
    · split at h
      · obtain ⟨u, R, h1, h2, h3, h4⟩ := uL_back most k (i + 1) _ t v n (fun x hx => hb x (by simp [hx])) h
        have hu : 0 < u := h4 (by omega)
        have hs := uv_step (c % 128 + 128 * u) a i
        have e1 : (c % 128 + 128 * u) / 128 = u := by omega
        have e2 : (c % 128 + 128 * u) % 128 = c % 128 := by omega
        rw [e1, e2] at hs
        refine ⟨c % 128 + 128 * u, R, ?_, ?_, ?_, fun _ => by omega⟩
        · rw [uvN_succ, if_neg (by omega), e1, e2, List.cons_append, ← h1, show c % 128 + 128 = c by omega]
        · omega
        · rw [uvN_succ, if_neg (by omega), e1, List.length_cons]; omega
      · split at h
        · simp at h
        · rename_i h1 h2 h3
          obtain ⟨_, h⟩ := Prod.mk.inj h
          obtain ⟨hv, hn⟩ := Prod.mk.inj h
          have e : c % 128 = c := Nat.mod_eq_of_lt (by omega)
          rw [e] at hv
          refine ⟨c, t, ?_, by omega, ?_, fun hi => ?_⟩
          · rw [uvN_succ, if_pos (by omega)]; rfl
          · rw [uvN_succ, if_pos (by omega)]; exact hn.symm
          · by_cases h0 : c = 0
            · exact absurd (.inl ⟨h0, hi⟩) h3
            · omega
theorem rU_back (s : ByteArray) (p most : Nat) (hp : p ≤ s.size) (h : (rU s p 0 most).2.2 = 0) : uvN 10 (rU s p 0 most).1 = seg s p ((rU s p 0 most).2.1 - p) ∧ p ≤ (rU s p 0 most).2.1 := by
  unfold rU uRead at h ⊢
  rw [if_pos rfl] at h ⊢
  dsimp only at h ⊢
  obtain ⟨u, R, h1, h2, h3, _⟩ := uL_back most 10 0 0 ((natsOf s).drop p) _ _ (fun x hx => natsOf_lt s x (List.mem_of_mem_drop hx)) (Prod.ext h rfl)
  refine ⟨?_, Nat.le_add_right _ _⟩
  rw [h2, h3, Nat.add_sub_cancel_left]
  unfold seg
  conv => rhs; rw [h1]
  simp
theorem bt_nat (s : ByteArray) (i : Nat) (h : i < s.size) : bt s (i : Int) = (((natsOf s).getD i 0 : Nat) : Int) := by
  unfold bt
  rw [dif_pos (by rw [Int.toNat_natCast]; exact h)]
  have hl : i < (natsOf s).length := by rw [natsOf_len]; exact h
  rw [List.getD_eq_getElem?_getD, List.getElem?_eq_getElem hl]
  simp [natsOf, ByteArray.getElem_eq_getElem_data]
end Go.Proofs.Ytgcmmiihjiiemaa.My
