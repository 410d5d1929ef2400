/- Every Encode, new memory: the law's walk. -/
import Derived.Test.YtjfhdnknaphjaaaPGx3
import Derived.Test.YtjfhdnknaphjaaaPgW
namespace Go.Proofs.Ytjfhdnknaphjaaa.My
open Go.RowKit Go.Proofs.Ytjfhdnknaphjaaa.PG Go.Proofs.YtjfhdnknaphjaaaW.PrintWords Go.Proofs.Ytjfhdnknaphjaaa
theorem strOf_app (a b : List Int) : strOfNums a ++ strOfNums b = strOfNums (a ++ b) := by
  apply ByteArray.ext
  simp [strOfNums, ByteArray.data_append]
theorem strOf_size (a : List Int) : (strOfNums a).size = a.length := bytesN_strOf a
theorem Fixed_l0 : ∀ (i k v : Nat) (l : List Int), i ≤ l.length → i < 1000 → v < 18446744073709551616 →
    concordref01_Fixed.l0 (k + i + 1) v l ((i : Int) - 1) = some (strOfNums (be i v ++ l.drop i))
  | 0, k, v, l, _, _, _ => by
    rw [concordref01_Fixed.l0, if_neg (by omega)]
    simp [be]
  | i + 1, k, v, l, h, hs, hv => by
    have e0 : ((i + 1 : Nat) : Int) - 1 = i := by omega
    have e1 : Int.tdiv (v : Int) 256 = ((v / 256 : Nat) : Int) := rfl
    have e2 : Int.tmod (v : Int) 256 % 256 = ((v % 256 : Nat) : Int) := by
      have : Int.tmod (v : Int) 256 = ((v % 256 : Nat) : Int) := rfl
      rw [this]; omega
    have e3 : IntKind.u64.wrap ((v / 256 : Nat) : Int) = ((v / 256 : Nat) : Int) := by
      rw [IntKind.wrap_u64]; omega
    have e4 : wrap64 ((i : Int) - 1) = (i : Int) - 1 := by unfold wrap64; omega
    rw [e0, show k + (i + 1) + 1 = (k + i + 1) + 1 by omega, concordref01_Fixed.l0, if_pos (by omega), if_pos (by omega), if_pos (by omega), e1, e2, e3, e4, Int.toNat_natCast,
      Fixed_l0 i k (v / 256) _ (by rw [List.length_set]; omega) (by omega) (by omega), be_succ]
    have : (l.set i ((v % 256 : Nat) : Int)).drop i = ((v % 256 : Nat) : Int) :: l.drop (i + 1) := by
      have hi : i < l.length := by omega
      rw [set_split l i _ hi, List.drop_append_of_le_length (by rw [List.length_take]; omega), List.drop_of_length_le (by rw [List.length_take]; omega), List.nil_append]
    rw [this, List.append_assoc, List.singleton_append]
theorem Fixed_f (n k v : Nat) (hs : n < 1000) (hk : n < k) (hv : v < 18446744073709551616) : concordref01_Fixed.f k v n = some (strOfNums (be n v)) := by
  obtain ⟨j, rfl⟩ : ∃ j, k = j + n + 1 := ⟨k - n - 1, by omega⟩
  unfold concordref01_Fixed.f
  have e4 : wrap64 ((n : Int) - 1) = (n : Int) - 1 := by unfold wrap64; omega
  rw [if_pos (by omega), Int.toNat_natCast, if_pos (by omega), e4, Fixed_l0 n j v _ (by simp) hs hv]
  simp
theorem noughts_f (n : Nat) (h : n < 100000) : concordref05_noughts.f n = some (strOfNums (List.replicate n 0)) := by
  unfold concordref05_noughts.f
  rw [if_pos (by omega), Int.toNat_natCast, if_pos (by omega)]
theorem be_size (n v : Nat) : (strOfNums (be n v)).size = n := by rw [strOf_size, be_len]
theorem be_one (v : Nat) (h : v < 256) : be 1 v = [(v : Int)] := by
  rw [be_succ]; simp [be]; omega
theorem laid_f (k a0 a1 a2 : Nat) (s : ByteArray) (t : Nat) (hk : 8 < k) (h0 : a0 < 256) (h1 : a1 < 4294967296) (h2 : a2 ≤ 4611686018427387904) (h3 : s.size ≤ 996) (ht : t < 4294967296) :
    concordref05_laid.f k a0 a1 a2 s t = some (strOfNums (layL a0 a1 a2 s t)) := by
  have w0 : IntKind.u64.wrap (a0 : Int) = a0 := by rw [IntKind.wrap_u64]; omega
  have w1 : IntKind.u64.wrap (a1 : Int) = a1 := by rw [IntKind.wrap_u64]; omega
  have w2 : IntKind.u64.wrap (s.size : Int) = s.size := by rw [IntKind.wrap_u64]; omega
  have w3 : IntKind.u64.wrap (t : Int) = t := by rw [IntKind.wrap_u64]; omega
  have w4 : wrap64 (996 - (s.size : Int)) = ((996 - s.size : Nat) : Int) := by unfold wrap64; omega
  have f1 : ∀ v : Nat, v < 18446744073709551616 → concordref01_Fixed.f k v 8 = some (strOfNums (be 8 v)) := fun v hv => Fixed_f 8 k v (by omega) (by omega) hv
  have f2 : ∀ v : Nat, v < 18446744073709551616 → concordref01_Fixed.f k v 1 = some (strOfNums (be 1 v)) := fun v hv => Fixed_f 1 k v (by omega) (by omega) hv
  have f3 : ∀ v : Nat, v < 18446744073709551616 → concordref01_Fixed.f k v 2 = some (strOfNums (be 2 v)) := fun v hv => Fixed_f 2 k v (by omega) (by omega) hv
  have f4 : ∀ v : Nat, v < 18446744073709551616 → concordref01_Fixed.f k v 4 = some (strOfNums (be 4 v)) := fun v hv => Fixed_f 4 k v (by omega) (by omega) hv
  have n1 : concordref05_noughts.f 1 = some (strOfNums [0]) := noughts_f 1 (by omega)
  unfold concordref05_laid.f
  rw [w0, w1, w2, w3, w4, f1 _ (by omega), f2 _ (by omega), f3 _ (by omega), f4 _ (by omega), f4 _ (by omega), n1, noughts_f _ (by omega)]
  simp only [Option.bind_some]
  have hby := intsOf_bytes s
  obtain ⟨m, hm⟩ : ∃ m, m = intsOf s := ⟨_, rfl⟩
  have hs : s = strOfNums m := by rw [hm, strOf_intsOf]
  rw [← hm] at hby
  clear hm
  subst hs
  have hml : m.length ≤ 996 := by rw [strOf_size] at h3; exact h3
  simp only [strOf_app, strOf_size, List.length_append, be_len, List.length_replicate, List.length_cons, List.length_nil]
  repeat rw [if_pos (by omega)]
  unfold layL
  rw [intsOf_strOf _ hby, be_one _ h0]
  simp only [List.append_assoc, strOf_size]
/-- What Encode answers. -/
def EncE (a0 a1 a2 : Nat) (s : ByteArray) : List Int × Int := if 4611686018427387904 < a2 then ([], 1) else if 996 < s.size then ([], 82) else (encL a0 a1 a2 s, 0)
theorem EncE_f (a0 a1 a2 : Nat) (s : ByteArray) (h0 : a0 < 256) (h1 : a1 < 4294967296) : page_Encode.f a0 a1 a2 s = some (EncE a0 a1 a2 s) := by
  unfold EncE
  split
  · exact Encode_far _ _ _ _ h0 h1 (by assumption)
  · split
    · exact Encode_long _ _ _ _ h0 h1 (by omega) (by assumption)
    · exact Encode_f _ _ _ _ h0 h1 (by omega) (by omega)
theorem EncE_ref (k a0 a1 a2 : Nat) (s : ByteArray) (hk : 8 < k) (h0 : a0 < 256) (h1 : a1 < 4294967296) : concordref05_Encode.f k a0 a1 a2 s = some (strOfNums (EncE a0 a1 a2 s).1, (EncE a0 a1 a2 s).2) := by
  unfold concordref05_Encode.f EncE
  by_cases h2 : 4611686018427387904 < a2
  · rw [if_pos (by omega), if_pos h2]; rfl
  · rw [if_neg (by omega), if_neg h2]
    by_cases h3 : 996 < s.size
    · rw [if_pos (by omega), if_pos h3]; rfl
    · rw [if_neg (by omega), if_neg h3, show (0 : Int) = ((0 : Nat) : Int) from rfl, laid_f _ _ _ _ _ _ hk h0 h1 (by omega) (by omega) (by omega)]
      simp only [Option.bind_some]
      unfold concordref01_Sum.f sumF
      have hl := layL_len (number := a1) a0 a2 s 0 (by omega)
      have hb := layL_bytes (number := a1) a0 a2 s 0 h0
      rw [if_pos (by rw [strOf_size, hl]; omega), Option.bind_some, bytesN_of _ hb, show Crc.sum ((layL a0 a1 a2 s 0).map Int.toNat) = sumL (layL a0 a1 a2 s 0) from rfl, laid_f _ _ _ _ _ _ hk h0 h1 (by omega) (by omega) (sumL_lt _ hb), Option.bind_some, ← enc_eq _ _ _ _ (by omega) h0]
theorem EncE_len (a0 a1 a2 : Nat) (s : ByteArray) : (EncE a0 a1 a2 s).1.length ≤ 1024 := by
  unfold EncE
  split
  · simp
  · split
    · simp
    · rw [encL_len _ _ _ _ (by omega)]; omega
theorem spoil_l1 : ∀ (j i k : Nat) (l : List Int), j + i = 66 → l.length ≤ 1024 + i → concordlaw05_spoil.l1 (k + j + 1) l i = some ()
  | 0, i, k, l, h, _ => by rw [concordlaw05_spoil.l1, if_neg (by omega)]
  | j + 1, i, k, l, h, hl => by
    have e : wrap64 ((i : Int) + 1) = ((i + 1 : Nat) : Int) := by unfold wrap64; omega
    rw [show k + (j + 1) + 1 = (k + j + 1) + 1 by omega, concordlaw05_spoil.l1, if_pos (by omega), if_pos (by omega), e]
    exact spoil_l1 j (i + 1) k _ (by omega) (by rw [List.length_append]; simp; omega)
theorem spoil_l0 : ∀ (j i k : Nat) (l : List Int), j + i = l.length → l.length ≤ 1024 → concordlaw05_spoil.l0 (k + 68 + j + 1) l i = some ()
  | 0, i, k, l, h, hl => by
    rw [concordlaw05_spoil.l0, if_neg (by omega), show k + 68 + 0 = (k + 1) + 66 + 1 by omega]
    exact spoil_l1 66 0 (k + 1) l (by omega) (by omega)
  | j + 1, i, k, l, h, hl => by
    have e : wrap64 ((i : Int) + 1) = ((i + 1 : Nat) : Int) := by unfold wrap64; omega
    rw [show k + 68 + (j + 1) + 1 = (k + 68 + j + 1) + 1 by omega, concordlaw05_spoil.l0, if_pos (by omega), if_pos (by omega), e]
    exact spoil_l0 j (i + 1) k _ (by rw [List.length_set]; omega) (by rw [List.length_set]; omega)
theorem spoil_f (k : Nat) (l : List Int) (hl : l.length ≤ 1024) (hk : 2000 ≤ k) : concordlaw05_spoil.f k l = some () := by
  obtain ⟨j, rfl⟩ : ∃ j, k = j + 68 + l.length + 1 := ⟨k - 69 - l.length, by omega⟩
  exact spoil_l0 l.length 0 j l (by omega) hl
theorem Encodes_pure (k a0 a1 a2 : Nat) (s : ByteArray) (b0 b1 b2 : Nat) (t : ByteArray) (hk : 2000 ≤ k) (h0 : a0 < 256) (h1 : a1 < 4294967296) (g0 : b0 < 256) (g1 : b1 < 4294967296) :
    concordlaw05_PageEncodes.f (k + 1) a0 a1 a2 s b0 b1 b2 t = some true := by
  unfold concordlaw05_PageEncodes.f
  rw [EncE_ref _ _ _ _ _ (by omega) h0 h1, EncE_ref _ _ _ _ _ (by omega) g0 g1, EncE_f _ _ _ _ h0 h1, EncE_f _ _ _ _ g0 g1]
  simp only [Option.bind_some]
  simp only [if_true]
  rw [concordlaw05_PageEncodes.j0, if_neg (by simp), spoil_f _ _ (EncE_len _ _ _ _) hk, EncE_f _ _ _ _ h0 h1]
  simp only [Option.bind_some, if_true]
  simp
theorem PageEncodes_walk (w : World) (a0 : Int) (h0 : (Lit.int .u8 a0).wf = true) (a1 : Int) (h1 : (Lit.int .u32 a1).wf = true) (a2 : Int) (h2 : (Lit.int .u64 a2).wf = true) (s : ByteArray) (_hs : s.size ≤ maxLen)
    (b0 : Int) (g0 : (Lit.int .u8 b0).wf = true) (b1 : Int) (g1 : (Lit.int .u32 b1).wf = true) (b2 : Int) (g2 : (Lit.int .u64 b2).wf = true) (t : ByteArray) (_ht : t.size ≤ maxLen) :
    Calls Try.prog 4 #[.agg #[.int .u8 a0, .int .u32 a1, .int .u64 a2, .string s], .agg #[.int .u8 b0, .int .u32 b1, .int .u64 b2, .string t]] w fun e w' => e = .returned (.bool true) ∧ Below w.heap.size w w' := by
  have h0 := wf8 h0
  have h1 := wf32 h1
  have h2 := wf64 h2
  have g0 := wf8 g0
  have g1 := wf32 g1
  have g2 := wf64 g2
  obtain ⟨a0, rfl⟩ := Int.eq_ofNat_of_zero_le h0.1
  obtain ⟨a1, rfl⟩ := Int.eq_ofNat_of_zero_le h1.1
  obtain ⟨a2, rfl⟩ := Int.eq_ofNat_of_zero_le h2.1
  obtain ⟨b0, rfl⟩ := Int.eq_ofNat_of_zero_le g0.1
  obtain ⟨b1, rfl⟩ := Int.eq_ofNat_of_zero_le g1.1
  obtain ⟨b2, rfl⟩ := Int.eq_ofNat_of_zero_le g2.1
  exact concordlaw05_PageEncodes.calls (2000 + 1) a0 a1 a2 s b0 b1 b2 t true w (Encodes_pure 2000 a0 a1 a2 s b0 b1 b2 t (by omega) (by omega) (by omega) (by omega) (by omega))
end Go.Proofs.Ytjfhdnknaphjaaa.My
