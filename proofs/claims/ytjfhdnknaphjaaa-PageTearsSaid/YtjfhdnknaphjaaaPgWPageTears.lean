/- A front of a page over another one: the law's walk. -/
import Derived.Test.YtjfhdnknaphjaaaPGx6
import Derived.Test.YtjfhdnknaphjaaaPgW
namespace Go.Proofs.Ytjfhdnknaphjaaa.My
open Go.RowKit Go.Proofs.Ytjfhdnknaphjaaa.PG Go.Proofs.YtjfhdnknaphjaaaW.PrintWords Go.Proofs.YtjfhdnknaphjaaaW.PrintMore Go.Proofs.Ytjfhdnknaphjaaa
theorem beNat_inj {a b : List Int} (ha : Bytes a) (hb : Bytes b) (hl : a.length = b.length) (h : beNat a = beNat b) : a = b := by
  rw [← be_beNat a ha, ← be_beNat b hb, hl, h]
theorem lay_front (k n s : Nat) (body : ByteArray) (t : Nat) : (layL k n s body t).take 8 = be 8 s := by
  unfold layL
  rw [List.take_append_of_le_length (by rw [be_len]; omega), List.take_of_length_le (by rw [be_len]; omega)]
theorem lay_back (k n s : Nat) (body : ByteArray) (t : Nat) (hb : body.size ≤ 996) : (layL k n s body t).drop 1016 = be 8 s := by
  unfold layL
  have : be 8 s ++ ([(k : Int)] ++ ([0] ++ (be 2 body.size ++ (be 4 n ++ (be 4 t ++ (intsOf body ++ (List.replicate (996 - body.size) 0 ++ be 8 s))))))) = (be 8 s ++ ([(k : Int)] ++ ([0] ++ (be 2 body.size ++ (be 4 n ++ (be 4 t ++ (intsOf body ++ List.replicate (996 - body.size) 0))))))) ++ be 8 s := by simp only [List.append_assoc]
  rw [this, List.drop_append, List.drop_eq_nil_of_le (by simp [be_len, intsOf_len]; omega)]
  have hl : (be 8 s ++ ([(k : Int)] ++ ([0] ++ (be 2 body.size ++ (be 4 n ++ (be 4 t ++ (intsOf body ++ List.replicate (996 - body.size) 0))))))).length = 1016 := by simp [be_len, intsOf_len]; omega
  rw [hl, List.nil_append, Nat.sub_self, List.drop_zero]
/-- Where head and tail are the same it is the one or the other. -/
theorem tear (a b : List Int) (A B : List Int) (c : Nat) (hc : c ≤ 1024) (ha : a.length = 1024) (a1 : a.take 8 = A) (a2 : a.drop 1016 = A) (b1 : b.take 8 = B) (b2 : b.drop 1016 = B) (hne : A ≠ B) :
    ((a.take c ++ b.drop c).take 8 = (a.take c ++ b.drop c).drop 1016) ↔ (a.take c ++ b.drop c = a ∨ a.take c ++ b.drop c = b) := by
  have hla : (a.take c).length = c := by rw [List.length_take]; omega
  constructor
  · intro h
    by_cases h1 : c ≤ 1016
    · have hT : (a.take c ++ b.drop c).drop 1016 = B := by
        rw [List.drop_append, List.drop_eq_nil_of_le (by omega), List.nil_append, hla, List.drop_drop, show c + (1016 - c) = 1016 by omega, b2]
      by_cases h2 : 8 ≤ c
      · exfalso
        have hH : (a.take c ++ b.drop c).take 8 = A := by
          rw [List.take_append_of_le_length (by omega), List.take_take, show min 8 c = 8 by omega, a1]
        rw [hH, hT] at h; exact hne h
      · right
        have hD : (a.take c ++ b.drop c).drop 8 = b.drop 8 := by
          rw [List.drop_append, List.drop_eq_nil_of_le (by omega), List.nil_append, hla, List.drop_drop, show c + (8 - c) = 8 by omega]
        rw [← List.take_append_drop 8 (a.take c ++ b.drop c), h, hT, hD, ← b1, List.take_append_drop]
    · left
      have hH : (a.take c ++ b.drop c).take 8 = A := by
        rw [List.take_append_of_le_length (by omega), List.take_take, show min 8 c = 8 by omega, a1]
      have hD : (a.take c ++ b.drop c).take 1016 = a.take 1016 := by
        rw [List.take_append_of_le_length (by omega), List.take_take, show min 1016 c = 1016 by omega]
      rw [← List.take_append_drop 1016 (a.take c ++ b.drop c), ← h, hH, hD, ← a2, List.take_append_drop]
  · rintro (h | h)
    · rw [h, a1, a2]
    · rw [h, b1, b2]
theorem strOf_inj {a b : List Int} (ha : Bytes a) (hb : Bytes b) : (strOfNums a).toList = (strOfNums b).toList ↔ a = b := by
  constructor
  · intro h
    rw [ByteArray.toList_eq, ByteArray.toList_eq] at h
    have h' : strOfNums a = strOfNums b := ByteArray.ext (Array.toList_inj.1 h)
    rw [← intsOf_strOf a ha, h', intsOf_strOf b hb]
  · intro h; rw [h]
theorem tear_j1 (k : Nat) (x2 : Int) (a b : List Int) (s1 s2 : Nat) (n0 n1 : Int) (t : ByteArray) (ha : a.length = 1024) (hb : b.length = 1024) (ba : Bytes a) (bb : Bytes b)
    (a1 : a.take 8 = be 8 s1) (a2 : a.drop 1016 = be 8 s1) (b1 : b.take 8 = be 8 s2) (b2 : b.drop 1016 = be 8 s2) (h1 : s1 < 18446744073709551616) (h2 : s2 < 18446744073709551616) (hne : s1 ≠ s2) :
    concordlaw05_PageTears.j1 (k + 1) x2 a b false n0 n1 s1 t = some true := by
  rw [concordlaw05_PageTears.j1, if_neg (by simp)]
  obtain ⟨c, hc, hc'⟩ : ∃ c : Nat, mx 0 (mn x2 1024) = c ∧ c ≤ 1024 := by
    have hm : 0 ≤ mx 0 (mn x2 1024) ∧ mx 0 (mn x2 1024) ≤ 1024 := by
      unfold mx mn
      split <;> split <;> omega
    exact ⟨(mx 0 (mn x2 1024)).toNat, by omega, by omega⟩
  rw [hc, if_pos (by omega), if_pos (by omega)]
  simp only [Option.bind_some, Int.toNat_natCast, List.nil_append, List.length_nil, Nat.zero_add]
  have l1 : (a.take c).length = c := by rw [List.length_take]; omega
  have l2 : (b.drop c).length = 1024 - c := by rw [List.length_drop, hb]
  rw [if_pos (by omega), if_pos (by omega), if_pos (by omega)]
  have hne' : be 8 s1 ≠ be 8 s2 := fun h => hne (be_inj (by simpa using h1) (by simpa using h2) h)
  have key := tear a b _ _ c hc' ha a1 a2 b1 b2 hne'
  have bt : Bytes (a.take c ++ b.drop c) := bytes_append (fun x hx => ba x (List.mem_of_mem_take hx)) (fun x hx => bb x (List.mem_of_mem_drop hx))
  have lt : (a.take c ++ b.drop c).length = 1024 := by rw [List.length_append]; omega
  generalize a.take c ++ b.drop c = l at *
  have ea : endsL a = ((s1 : Int), (s1 : Int), true) := by
    unfold endsL
    rw [if_pos ha, a1, a2, beNat_be _ _ (by simpa using h1)]
  have el : endsL l = ((beNat (l.take 8) : Int), (beNat (l.drop 1016) : Int), true) := by
    unfold endsL
    rw [if_pos lt]
  unfold page_Ends.f
  rw [if_pos bt, if_pos ba, ea, el]
  simp only [Option.bind_some, if_true]
  have q : ((beNat (l.take 8) : Int) = (beNat (l.drop 1016) : Int)) ↔ (l = a ∨ l = b) := by
    rw [← key]
    constructor
    · intro h
      exact beNat_inj (fun x hx => bt x (List.mem_of_mem_take hx)) (fun x hx => bt x (List.mem_of_mem_drop hx)) (by rw [List.length_take, List.length_drop]; omega) (by omega)
    · intro h; rw [h]
  by_cases hla : l = a
  · rw [if_pos ((strOf_inj bt ba).2 hla), beq_iff_eq.2 (q.2 (.inl hla))]; rfl
  · rw [if_neg (fun h => hla ((strOf_inj bt ba).1 h))]
    by_cases hlb : l = b
    · rw [beq_iff_eq.2 (q.2 (.inr hlb)), beq_iff_eq.2 ((strOf_inj bt bb).2 hlb)]; rfl
    · rw [beq_eq_false_iff_ne.2 (fun h => (q.1 h).elim hla hlb), beq_eq_false_iff_ne.2 (fun h => hlb ((strOf_inj bt bb).1 h))]; rfl
theorem Tears_pure (a0 a1 a2 : Nat) (s : ByteArray) (b0 b1 b2 : Nat) (t : ByteArray) (c : Int) (h0 : a0 < 256) (h1 : a1 < 4294967296) (g0 : b0 < 256) (g1 : b1 < 4294967296) :
    concordlaw05_PageTears.f (3 + 1 + 1) a0 a1 a2 s b0 b1 b2 t c = some true := by
  unfold concordlaw05_PageTears.f
  rw [awake_ok]
  simp only [Option.bind_some, if_true]
  by_cases hm : a2 ≤ 4611686018427387904 ∧ s.size ≤ 996
  · rw [may_ok _ _ _ _ hm.1 hm.2]
    simp only [Option.bind_some, if_true]
    by_cases hn : b2 ≤ 4611686018427387904 ∧ t.size ≤ 996
    · rw [may_ok _ _ _ _ hn.1 hn.2]
      simp only [Option.bind_some, if_true]
      rw [concordlaw05_PageTears.j0]
      by_cases he : a2 = b2
      · rw [if_pos (by rw [he]; exact beq_self_eq_true _)]
      · rw [if_neg (by simp; omega), Encode_f _ _ _ _ h0 h1 hm.1 hm.2, Encode_f _ _ _ _ g0 g1 hn.1 hn.2]
        simp only [Option.bind_some, if_true]
        have l1 := encL_len (number := a1) a0 a2 s hm.2
        have l2 := encL_len (number := b1) b0 b2 t hn.2
        rw [if_pos (by rw [l1]; rfl), show (((encL b0 b1 b2 t).length : Int) != 1024) = false from by rw [l2]; rfl]
        have e1 := enc_eq (number := a1) a0 a2 s hm.2 h0
        have e2 := enc_eq (number := b1) b0 b2 t hn.2 g0
        exact tear_j1 3 c _ _ a2 b2 a0 a1 s l1 l2 (enc_bytes _ _ _ _ hm.2 h0) (enc_bytes _ _ _ _ hn.2 g0) (by rw [e1]; exact lay_front _ _ _ _ _) (by rw [e1]; exact lay_back _ _ _ _ _ hm.2) (by rw [e2]; exact lay_front _ _ _ _ _) (by rw [e2]; exact lay_back _ _ _ _ _ hn.2) (by omega) (by omega) he
    · rw [may_not _ _ _ _ hn]
      simp only [Option.bind_some]
      rw [if_neg (by simp), concordlaw05_PageTears.j0, if_pos rfl]
  · rw [may_not _ _ _ _ hm]
    simp only [Option.bind_some]
    rw [if_neg (by simp), concordlaw05_PageTears.j0, if_pos rfl]
theorem PageTears_walk (w : World) (a0 : Int) (h0 : (Lit.int .u8 a0).wf = true) (a1 : Int) (h1 : (Lit.int .u32 a1).wf = true) (a2 : Int) (h2 : (Lit.int .u64 a2).wf = true) (s : ByteArray) (_hs : s.size ≤ maxLen)
    (b0 : Int) (g0 : (Lit.int .u8 b0).wf = true) (b1 : Int) (g1 : (Lit.int .u32 b1).wf = true) (b2 : Int) (g2 : (Lit.int .u64 b2).wf = true) (t : ByteArray) (_ht : t.size ≤ maxLen) (c : Int) (_hc : (Lit.int .i64 c).wf = true) :
    Calls Try.prog 9 #[.agg #[.int .u8 a0, .int .u32 a1, .int .u64 a2, .string s], .agg #[.int .u8 b0, .int .u32 b1, .int .u64 b2, .string t], .int .i64 c] w fun e w' => e = .returned (.bool true) ∧ Below w.heap.size w w' := by
  have h0 := wf8 h0
  have h1 := wf32 h1
  have h2 := wf64 h2
  have g0 := wf8 g0
  have g1 := wf32 g1
  have g2 := wf64 g2
  obtain ⟨a0, rfl⟩ := Int.eq_ofNat_of_zero_le h0.1
  obtain ⟨a1, rfl⟩ := Int.eq_ofNat_of_zero_le h1.1
  obtain ⟨a2, rfl⟩ := Int.eq_ofNat_of_zero_le h2.1
  obtain ⟨b0, rfl⟩ := Int.eq_ofNat_of_zero_le g0.1
  obtain ⟨b1, rfl⟩ := Int.eq_ofNat_of_zero_le g1.1
  obtain ⟨b2, rfl⟩ := Int.eq_ofNat_of_zero_le g2.1
  exact concordlaw05_PageTears.calls (3 + 1 + 1) a0 a1 a2 s b0 b1 b2 t c true w (Tears_pure a0 a1 a2 s b0 b1 b2 t c (by omega) (by omega) (by omega) (by omega))
end Go.Proofs.Ytjfhdnknaphjaaa.My
