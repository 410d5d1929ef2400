/- Every question about dots, answered: the document's and the program's are the same. -/
import Derived.Test.YtgcmmiihjiiemaaPAy1
import Derived.Test.YtgcmmiihjiiemaaPAy2
namespace Go.Proofs.Ytgcmmiihjiiemaa.My
open Go.RowKit Go.Proofs.YtgcmmiihjiiemaaW.PrintWords Go.Proofs.YtgcmmiihjiiemaaW.PrintLast Go.Proofs.YtgcmmiihjiiemaaW.PrintMore Go.Proofs.Ytgcmmiihjiiemaa Go.Proofs.Ytgcmmiihjiiemaa.PVectorMax Go.Proofs.Ytgcmmiihjiiemaa.PA
set_option linter.unusedSimpArgs false
set_option linter.unusedVariables false
set_option maxRecDepth 100000
set_option maxHeartbeats 800000
theorem uint_l0 : ∀ (m v k : Nat) (B : List Int), v < 18446744073709551616 → v < 128 * 128 ^ m → B.length + m ≤ 100 → m + 2 ≤ k → concordref01_Uint.l0 k (v : Int) B = some (strOfNums (B ++ uv m v))
  | 0, v, k, B, hv, hm, hl, hk => by
    obtain ⟨k, rfl⟩ : ∃ j, k = j + 1 := ⟨k - 1, by omega⟩
    rw [concordref01_Uint.l0, if_neg (by omega), if_pos (by omega), uv, show (v : Int) % 256 = v by omega]
  | m + 1, v, k, B, hv, hm, hl, hk => by
    obtain ⟨k, rfl⟩ : ∃ j, k = j + 1 := ⟨k - 1, by omega⟩
    rw [concordref01_Uint.l0, uv]
    by_cases h : v < 128
    · rw [if_neg (by omega), if_pos (by omega), if_pos h, show (v : Int) % 256 = v by omega]
    · have e1 : IntKind.u64.wrap (Int.tdiv (v : Int) 128) = ((v / 128 : Nat) : Int) := by
        rw [IntKind.wrap_u64, Int.tdiv_eq_ediv_of_nonneg (by omega)]; omega
      have e2 : IntKind.u64.wrap (Int.tmod (v : Int) 128 + 128) % 256 = ((v % 128 + 128 : Nat) : Int) := by
        rw [IntKind.wrap_u64, Int.tmod_eq_emod_of_nonneg (by omega)]; omega
      rw [if_pos (by omega), if_pos (by omega), if_neg h, e1, e2, uint_l0 m (v / 128) k _ (by omega) (by rw [Nat.pow_succ] at hm; omega) (by simp; omega) (by omega), List.append_assoc, List.singleton_append]
theorem uint_f (v k : Nat) (hv : v < 18446744073709551616) (hk : 12 ≤ k) : concordref01_Uint.f k (v : Int) = some (strOfNums (uv 10 v)) := by
  have h := uint_l0 10 v k [] hv (by rw [show (128 : Nat) ^ 10 = 1180591620717411303424 by decide]; omega) (by simp) (by omega)
  rw [List.nil_append] at h
  exact h
theorem strOf_append (l m : List Int) : strOfNums (l ++ m) = strOfNums l ++ strOfNums m := by
  apply ByteArray.ext
  rw [ByteArray.data_append]
  unfold strOfNums
  simp
theorem okD_okL {l : List Dt} (h : okD l = true) : okL l = true := by
  unfold okL
  rw [Bool.and_eq_true_iff]
  exact ⟨decide_eq_true (okD_len h), List.all_eq_true.2 (fun x hx => decide_eq_true (okD_pos h x hx).2.2)⟩
theorem cnt_range : ∀ (l : List Dt) (p : Option Int) (o : Int), vB p l = true → 0 ≤ cnt l o ∧ cnt l o ≤ 1099511627776
  | [], p, o, _ => by show (0 : Int) ≤ 0 ∧ (0 : Int) ≤ _; omega
  | y :: l, p, o, h => by
    rw [vB_cons] at h
    obtain ⟨h1, h2⟩ := Bool.and_eq_true_iff.1 h
    have h3 := of_decide_eq_true (Bool.and_eq_true_iff.1 h1).1
    rw [cnt]
    split
    · omega
    · exact cnt_range l _ o h2
theorem own_range (l : List Dt) (o : Int) : 0 ≤ ownCount l o ∧ ownCount l o ≤ 1099511627776 := by
  unfold ownCount
  split
  · rename_i h
    exact cnt_range l none o (Bool.and_eq_true_iff.1 h).1
  · omega
theorem vcount_f {l : List Dt} (h : okD l = true) (o : Int) : vector_Count.f l o = some (ownCount l o) := by unfold vector_Count.f; rw [if_pos (okD_okL h)]
theorem rcount_f {l : List Dt} (h : okD l = true) (o : Int) (k : Nat) (hk : l.length + 1 ≤ k) : concordref10_Count.f k l o = some (ownCount l o) := by
  have hl := okD_len h
  unfold ownCount
  cases hv : validB l with
  | true => rw [if_pos rfl]; exact refCount_f l o (by omega) k hk hv
  | false =>
    unfold concordref10_Count.f
    rw [refValid_f l (by omega) k hk, hv]
    rfl
theorem vvalid_f {l : List Dt} (h : okD l = true) (k : Nat) (hk : l.length + 1 ≤ k) : vector_Valid.f k l = some (validB l) := ownValid_f l (by have := okD_len h; omega) (fun x hx => (okD_pos h x hx).2.2) k hk
theorem rvalid_f {l : List Dt} (h : okD l = true) (k : Nat) (hk : l.length + 1 ≤ k) : concordref10_Valid.f k l = some (validB l) := refValid_f l (by have := okD_len h; omega) k hk
def nextV (l : List Dt) (o : Int) : Int × Int × Int := if validB l = true then (if ownCount l o = 1099511627776 then (0, 0, 101) else (o, ownCount l o + 1, 0)) else (0, 0, 100)
theorem vnext_f {l : List Dt} (h : okD l = true) (o : Int) (k : Nat) (hk : l.length + 1 ≤ k) : vector_Next.f k l o = some (nextV l o) := by
  unfold vector_Next.f nextV
  rw [vvalid_f h k hk, Option.bind_some, vcount_f h]
  have hr := own_range l o
  cases hv : validB l with
  | false => rfl
  | true =>
    rw [if_pos rfl, if_pos rfl, Option.bind_some]
    have e : IntKind.u64.wrap (ownCount l o + 1) = ownCount l o + 1 := by rw [IntKind.wrap_u64]; omega
    rw [e]
    by_cases hc : ownCount l o = 1099511627776
    · rw [if_pos hc, if_pos (by omega)]
    · rw [if_neg hc, if_neg (by omega)]
theorem rnext_f {l : List Dt} (h : okD l = true) (o : Int) (k : Nat) (hk : l.length + 1 ≤ k) : concordref10_Next.f k l o = some (nextV l o) := by
  unfold concordref10_Next.f nextV
  rw [rvalid_f h k hk, Option.bind_some, rcount_f h o k hk]
  have hr := own_range l o
  cases hv : validB l with
  | false => rfl
  | true =>
    rw [if_pos rfl, if_pos rfl, Option.bind_some]
    have e : IntKind.u64.wrap (ownCount l o + 1) = ownCount l o + 1 := by rw [IntKind.wrap_u64]; omega
    by_cases hc : ownCount l o = 1099511627776
    · rw [if_pos hc, if_pos hc]
    · rw [if_neg hc, if_neg hc, Option.bind_some, e]
def covV (l : List Dt) (o n : Int) : Bool := decide (1 ≤ n ∧ n ≤ ownCount l o)
theorem vcov_f {l : List Dt} (h : okD l = true) (o n : Int) : vector_Covers.f l o n = some (covV l o n) := by
  unfold vector_Covers.f covV
  by_cases hn : n > 0
  · rw [if_pos hn, vcount_f h, Option.bind_some]
    congr 1
    exact decide_eq_decide.2 (by omega)
  · rw [if_neg hn, decide_eq_false (by omega)]
theorem rcov_f {l : List Dt} (h : okD l = true) (o n : Int) (k : Nat) (hk : l.length + 1 ≤ k) : concordref10_Covers.f k l o n = some (covV l o n) := by
  unfold concordref10_Covers.f covV
  by_cases hn : n ≥ 1
  · rw [if_pos hn, rcount_f h o k hk, Option.bind_some]
    congr 1
    exact decide_eq_decide.2 (by omega)
  · rw [if_neg hn, decide_eq_false (by omega)]
theorem vbel_f {a b : List Dt} (ha : okD a = true) (hb : okD b = true) : vector_Below.f a b = some (ownBelow a b) := by unfold vector_Below.f; rw [okD_okL ha, okD_okL hb]; rfl
theorem rbel_l0 {a b : List Dt} (ha : okD a = true) (hb : okD b = true) (vb : validB b = true) : ∀ (n i k : Nat), i + n = a.length → n + b.length + 2 ≤ k → concordref10_Below.l0 k a b (i : Int) = some (belB (a.drop i) b)
  | 0, i, k, h, hk => by
    obtain ⟨k, rfl⟩ : ∃ j, k = j + 1 := ⟨k - 1, by omega⟩
    rw [concordref10_Below.l0, if_neg (by omega), List.drop_eq_nil_of_le (by omega)]
    rfl
  | n + 1, i, k, h, hk => by
    obtain ⟨k, rfl⟩ : ∃ j, k = j + 1 := ⟨k - 1, by omega⟩
    have hl := okD_len ha
    rw [concordref10_Below.l0, if_pos (by omega), if_pos (by omega), rcount_f hb _ k (by omega), Option.bind_some, wr_succ i (by omega), rd_at a i (by omega), List.drop_eq_getElem_cons (show i < a.length by omega), rbel_l0 ha hb vb n (i + 1) k (by omega) (by omega)]
    unfold ownCount
    rw [if_pos vb]
    show _ = some (decide ((a[i]).f1 ≤ cnt b (a[i]).f0) && belB (a.drop (i + 1)) b)
    by_cases hc : (a[i]).f1 > cnt b (a[i]).f0
    · rw [if_pos hc, decide_eq_false (by omega)]
      rfl
    · rw [if_neg hc, decide_eq_true (by omega)]
      rfl
theorem rbel_f {a b : List Dt} (ha : okD a = true) (hb : okD b = true) (k : Nat) (hk : a.length + b.length + 4 ≤ k) : concordref10_Below.f k a b = some (ownBelow a b) := by
  unfold concordref10_Below.f ownBelow
  rw [rvalid_f ha k (by omega), rvalid_f hb k (by omega), Option.bind_some]
  obtain ⟨k, rfl⟩ : ∃ j, k = j + 1 := ⟨k - 1, by omega⟩
  cases va : validB a with
  | false =>
    show concordref10_Below.j0 (k + 1) a b true = _
    rw [concordref10_Below.j0]
    rfl
  | true =>
    rw [if_pos rfl, Option.bind_some]
    cases vb : validB b with
    | false =>
      rw [concordref10_Below.j0]
      rfl
    | true =>
      have h := rbel_l0 ha hb vb a.length 0 k (by omega) (by omega)
      rw [List.drop_zero] at h
      rw [concordref10_Below.j0, if_neg (by decide)]
      exact h
def cmpV (a b : List Dt) : Int := if (ownBelow a b && ownBelow b a) = true then 0 else if ownBelow a b = true then -1 else if ownBelow b a = true then 1 else 2
theorem vcmp_f {a b : List Dt} (ha : okD a = true) (hb : okD b = true) (k : Nat) (hk : 1 ≤ k) : vector_Compare.f k a b = some (cmpV a b) := by
  unfold vector_Compare.f cmpV
  rw [vbel_f ha hb, vbel_f hb ha, Option.bind_some, Option.bind_some]
  obtain ⟨k, rfl⟩ : ∃ j, k = j + 1 := ⟨k - 1, by omega⟩
  cases ownBelow a b <;> cases ownBelow b a <;> simp [vector_Compare.j0]
theorem rcmp_f {a b : List Dt} (ha : okD a = true) (hb : okD b = true) (k : Nat) (hk : a.length + b.length + 4 ≤ k) : concordref10_Compare.f k a b = some (cmpV a b) := by
  unfold concordref10_Compare.f cmpV
  rw [rbel_f ha hb k hk, rbel_f hb ha k (by omega), Option.bind_some, Option.bind_some]
  obtain ⟨k, rfl⟩ : ∃ j, k = j + 1 := ⟨k - 1, by omega⟩
  cases ownBelow a b <;> cases ownBelow b a <;> simp [concordref10_Compare.j0]
theorem str_size (l : List Int) : (strOfNums l).size = l.length := by unfold strOfNums; simp [ByteArray.size]
theorem renc_l0 {l : List Dt} (h : okD l = true) (hv : validB l = true) : ∀ (n i k : Nat) (B : List Int), i + n = l.length → n + 20 ≤ k → B.length + n * 30 ≤ 1000000 → concordref10_Encode.l0 k l (strOfNums B) (i : Int) = some (strOfNums (B ++ encD (l.drop i)), 0)
  | 0, i, k, B, hi, hk, hB => by
    obtain ⟨k, rfl⟩ : ∃ j, k = j + 1 := ⟨k - 1, by omega⟩
    rw [concordref10_Encode.l0, if_neg (by omega), List.drop_eq_nil_of_le (by omega)]
    show _ = some (strOfNums (B ++ []), 0)
    rw [List.append_nil]
  | n + 1, i, k, B, hi, hk, hB => by
    obtain ⟨k, rfl⟩ : ∃ j, k = j + 1 := ⟨k - 1, by omega⟩
    have hl := okD_len h
    have hm := List.getElem_mem (show i < l.length by omega)
    obtain ⟨p0, p1, p2⟩ := okD_pos h _ hm
    have p3 := vB_max l none (Bool.and_eq_true_iff.1 hv).1 _ hm
    have h1 := uint_f (l[i]).f0.toNat k (by omega) (by omega)
    have h2 := uint_f (l[i]).f1.toNat k (by omega) (by omega)
    rw [Int.toNat_of_nonneg p0] at h1
    rw [Int.toNat_of_nonneg p2] at h2
    have e : IntKind.u64.wrap (l[i]).f0 = (l[i]).f0 := by rw [IntKind.wrap_u64]; omega
    have l1 := uv_len 10 (l[i]).f0.toNat
    have l2 := uv_len 10 (l[i]).f1.toNat
    rw [concordref10_Encode.l0, if_pos (by omega), if_pos (by omega), rd_at l i (by omega), e, h1, Option.bind_some, if_pos (by rw [str_size, str_size]; omega), h2, Option.bind_some, ← strOf_append, if_pos (by rw [str_size, str_size, List.length_append]; omega), ← strOf_append, wr_succ i (by omega), renc_l0 h hv n (i + 1) k _ (by omega) (by omega) (by rw [List.length_append, List.length_append]; omega), List.drop_eq_getElem_cons (show i < l.length by omega)]
    show _ = some (strOfNums (B ++ (uv 10 (l[i]).f0.toNat ++ (uv 10 (l[i]).f1.toNat ++ encD (l.drop (i + 1))))), 0)
    rw [List.append_assoc, List.append_assoc]
theorem renc_f {l : List Dt} (h : okD l = true) (k : Nat) (hk : l.length + 40 ≤ k) : concordref10_Encode.f k l = some (ownEnc l) := by
  have hl := okD_len h
  unfold concordref10_Encode.f ownEnc
  rw [rvalid_f h k (by omega), Option.bind_some]
  cases hv : validB l with
  | false => rfl
  | true =>
    have h64 := (valid_props l hv).2.2
    rw [if_pos rfl, if_pos rfl]
    have e : IntKind.u64.wrap (l.length : Int) = (l.length : Int) := by rw [IntKind.wrap_u64]; omega
    have l1 := uv_len 10 l.length
    rw [e, uint_f l.length k (by omega) (by omega), Option.bind_some]
    have h2 := renc_l0 h hv l.length 0 k (uv 10 l.length) (by omega) (by omega) (by omega)
    rw [List.drop_zero] at h2
    exact h2
theorem venc_f {l : List Dt} (h : okD l = true) : vector_Encode.f l = some (ownEnc l) := by unfold vector_Encode.f; rw [if_pos h]
end Go.Proofs.Ytgcmmiihjiiemaa.My
