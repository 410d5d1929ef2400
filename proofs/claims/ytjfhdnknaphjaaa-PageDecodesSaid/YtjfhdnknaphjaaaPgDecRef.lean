/- The document's Decode of any bytes: what decL tells. -/
import Derived.Test.YtjfhdnknaphjaaaPFx6
import Derived.Test.YtjfhdnknaphjaaaPgEndsLaw
import Derived.Test.YtjfhdnknaphjaaaPgPlain3
namespace Go.Proofs.Ytjfhdnknaphjaaa.My
open Go.RowKit Go.Proofs.Ytjfhdnknaphjaaa.PF Go.Proofs.YtjfhdnknaphjaaaW.PrintWords Go.Proofs.YtjfhdnknaphjaaaW.PrintLast Go.Proofs.Ytjfhdnknaphjaaa
theorem strOf_app (a b : List Int) : strOfNums a ++ strOfNums b = strOfNums (a ++ b) := by
  apply ByteArray.ext
  simp [strOfNums, ByteArray.data_append]
theorem strOf_size (a : List Int) : (strOfNums a).size = a.length := bytesN_strOf a
theorem Fixed_l0 : ∀ (i k v : Nat) (l : List Int), i ≤ l.length → i < 1000 → v < 18446744073709551616 →
    concordref01_Fixed.l0 (k + i + 1) v l ((i : Int) - 1) = some (strOfNums (be i v ++ l.drop i))
  | 0, k, v, l, _, _, _ => by
    rw [concordref01_Fixed.l0, if_neg (by omega)]
    simp [be]
  | i + 1, k, v, l, h, hs, hv => by
    have e0 : ((i + 1 : Nat) : Int) - 1 = i := by omega
    have e1 : Int.tdiv (v : Int) 256 = ((v / 256 : Nat) : Int) := rfl
    have e2 : Int.tmod (v : Int) 256 % 256 = ((v % 256 : Nat) : Int) := by
      have : Int.tmod (v : Int) 256 = ((v % 256 : Nat) : Int) := rfl
      rw [this]; omega
    have e3 : IntKind.u64.wrap ((v / 256 : Nat) : Int) = ((v / 256 : Nat) : Int) := by
      rw [IntKind.wrap_u64]; omega
    have e4 : wrap64 ((i : Int) - 1) = (i : Int) - 1 := by unfold wrap64; omega
    rw [e0, show k + (i + 1) + 1 = (k + i + 1) + 1 by omega, concordref01_Fixed.l0, if_pos (by omega), if_pos (by omega), if_pos (by omega), e1, e2, e3, e4, Int.toNat_natCast,
      Fixed_l0 i k (v / 256) _ (by rw [List.length_set]; omega) (by omega) (by omega), be_succ]
    have : (l.set i ((v % 256 : Nat) : Int)).drop i = ((v % 256 : Nat) : Int) :: l.drop (i + 1) := by
      have hi : i < l.length := by omega
      rw [set_split l i _ hi, List.drop_append_of_le_length (by rw [List.length_take]; omega), List.drop_of_length_le (by rw [List.length_take]; omega), List.nil_append]
    rw [this, List.append_assoc, List.singleton_append]
theorem Fixed_f (n k v : Nat) (hs : n < 1000) (hk : n < k) (hv : v < 18446744073709551616) : concordref01_Fixed.f k v n = some (strOfNums (be n v)) := by
  obtain ⟨j, rfl⟩ : ∃ j, k = j + n + 1 := ⟨k - n - 1, by omega⟩
  unfold concordref01_Fixed.f
  have e4 : wrap64 ((n : Int) - 1) = (n : Int) - 1 := by unfold wrap64; omega
  rw [if_pos (by omega), Int.toNat_natCast, if_pos (by omega), e4, Fixed_l0 n j v _ (by simp) hs hv]
  simp
theorem noughts_f (n : Nat) (h : n < 100000) : concordref05_noughts.f n = some (strOfNums (List.replicate n 0)) := by
  unfold concordref05_noughts.f
  rw [if_pos (by omega), Int.toNat_natCast, if_pos (by omega)]
theorem be_size (n v : Nat) : (strOfNums (be n v)).size = n := by rw [strOf_size, be_len]
theorem be_one (v : Nat) (h : v < 256) : be 1 v = [(v : Int)] := by
  rw [be_succ]; simp [be]; omega
theorem laid_f (k a0 a1 a2 : Nat) (s : ByteArray) (t : Nat) (hk : 8 < k) (h0 : a0 < 256) (h1 : a1 < 4294967296) (h2 : a2 ≤ 4611686018427387904) (h3 : s.size ≤ 996) (ht : t < 4294967296) :
    concordref05_laid.f k a0 a1 a2 s t = some (strOfNums (layL a0 a1 a2 s t)) := by
  have w0 : IntKind.u64.wrap (a0 : Int) = a0 := by rw [IntKind.wrap_u64]; omega
  have w1 : IntKind.u64.wrap (a1 : Int) = a1 := by rw [IntKind.wrap_u64]; omega
  have w2 : IntKind.u64.wrap (s.size : Int) = s.size := by rw [IntKind.wrap_u64]; omega
  have w3 : IntKind.u64.wrap (t : Int) = t := by rw [IntKind.wrap_u64]; omega
  have w4 : wrap64 (996 - (s.size : Int)) = ((996 - s.size : Nat) : Int) := by unfold wrap64; omega
  have f1 : ∀ v : Nat, v < 18446744073709551616 → concordref01_Fixed.f k v 8 = some (strOfNums (be 8 v)) := fun v hv => Fixed_f 8 k v (by omega) (by omega) hv
  have f2 : ∀ v : Nat, v < 18446744073709551616 → concordref01_Fixed.f k v 1 = some (strOfNums (be 1 v)) := fun v hv => Fixed_f 1 k v (by omega) (by omega) hv
  have f3 : ∀ v : Nat, v < 18446744073709551616 → concordref01_Fixed.f k v 2 = some (strOfNums (be 2 v)) := fun v hv => Fixed_f 2 k v (by omega) (by omega) hv
  have f4 : ∀ v : Nat, v < 18446744073709551616 → concordref01_Fixed.f k v 4 = some (strOfNums (be 4 v)) := fun v hv => Fixed_f 4 k v (by omega) (by omega) hv
  have n1 : concordref05_noughts.f 1 = some (strOfNums [0]) := noughts_f 1 (by omega)
  unfold concordref05_laid.f
  rw [w0, w1, w2, w3, w4, f1 _ (by omega), f2 _ (by omega), f3 _ (by omega), f4 _ (by omega), f4 _ (by omega), n1, noughts_f _ (by omega)]
  simp only [Option.bind_some]
  have hby := intsOf_bytes s
  obtain ⟨m, hm⟩ : ∃ m, m = intsOf s := ⟨_, rfl⟩
  have hs : s = strOfNums m := by rw [hm, strOf_intsOf]
  rw [← hm] at hby
  clear hm
  subst hs
  have hml : m.length ≤ 996 := by rw [strOf_size] at h3; exact h3
  simp only [strOf_app, strOf_size, List.length_append, be_len, List.length_replicate, List.length_cons, List.length_nil]
  repeat rw [if_pos (by omega)]
  unfold layL
  rw [intsOf_strOf _ hby, be_one _ h0]
  simp only [List.append_assoc, strOf_size]
/-- What Encode answers. -/
def EncE (a0 a1 a2 : Nat) (s : ByteArray) : List Int × Int := if 4611686018427387904 < a2 then ([], 1) else if 996 < s.size then ([], 82) else (encL a0 a1 a2 s, 0)
theorem EncE_f (a0 a1 a2 : Nat) (s : ByteArray) (h0 : a0 < 256) (h1 : a1 < 4294967296) : page_Encode.f a0 a1 a2 s = some (EncE a0 a1 a2 s) := by
  unfold EncE
  split
  · exact Encode_far _ _ _ _ h0 h1 (by assumption)
  · split
    · exact Encode_long _ _ _ _ h0 h1 (by omega) (by assumption)
    · exact Encode_f _ _ _ _ h0 h1 (by omega) (by omega)
theorem EncE_ref (k a0 a1 a2 : Nat) (s : ByteArray) (hk : 8 < k) (h0 : a0 < 256) (h1 : a1 < 4294967296) : concordref05_Encode.f k a0 a1 a2 s = some (strOfNums (EncE a0 a1 a2 s).1, (EncE a0 a1 a2 s).2) := by
  unfold concordref05_Encode.f EncE
  by_cases h2 : 4611686018427387904 < a2
  · rw [if_pos (by omega), if_pos h2]; rfl
  · rw [if_neg (by omega), if_neg h2]
    by_cases h3 : 996 < s.size
    · rw [if_pos (by omega), if_pos h3]; rfl
    · rw [if_neg (by omega), if_neg h3, show (0 : Int) = ((0 : Nat) : Int) from rfl, laid_f _ _ _ _ _ _ hk h0 h1 (by omega) (by omega) (by omega)]
      simp only [Option.bind_some]
      unfold concordref01_Sum.f sumF
      have hl := layL_len (number := a1) a0 a2 s 0 (by omega)
      have hb := layL_bytes (number := a1) a0 a2 s 0 h0
      rw [if_pos (by rw [strOf_size, hl]; omega), Option.bind_some, bytesN_of _ hb, show Crc.sum ((layL a0 a1 a2 s 0).map Int.toNat) = sumL (layL a0 a1 a2 s 0) from rfl, laid_f _ _ _ _ _ _ hk h0 h1 (by omega) (by omega) (sumL_lt _ hb), Option.bind_some, ← enc_eq _ _ _ _ (by omega) h0]

theorem wrap20 (m : Nat) (h : m < 65536) : wrap64 (20 + (m : Int)) = ((20 + m : Nat) : Int) := by unfold wrap64; omega
theorem wrap0 (m : Nat) (h : m < 65536) : wrap64 (m : Int) = (m : Int) := by unfold wrap64; omega
theorem refDecode_mid (k : Nat) (l : List Int) (n ln ser kd : Nat) (bd : ByteArray) (hk : 8 < k) (hb : Bytes l) (hn : n < 4294967296) (hs : (strOfNums l).size = l.length) (hl : l.length = 1024) (hz : ¬ allZero l = true)
    (hn1 : concordref05_Number.f k ((strOfNums l).extract 10 12) = some (ln : Int)) (hn2 : concordref05_Number.f k ((strOfNums l).extract 0 8) = some (ser : Int)) (h65 : ln < 65536)
    (hk8 : bt (strOfNums l) 8 = (kd : Int)) (hkd : kd < 256) (hbody : (strOfNums l).extract 20 (20 + ln) = bd) (hbs : ¬ 996 < ln → bd.size ≤ 996) :
    concordref05_Decode.f k (strOfNums l) n = some (if 996 < ln then (0, 0, 0, ⟨#[]⟩, 50) else if decide (ser ≤ 4611686018427387904 ∧ encL kd n ser bd = l) = true then ((kd : Int), (n : Int), (ser : Int), bd, 0) else (0, 0, 0, ⟨#[]⟩, 50)) := by
  have hw0 := wrap0 ln h65
  have hw3 := wrap20 ln h65
  unfold concordref05_Decode.f
  rw [hs, hl, if_pos (show ((1024 : Nat) : Int) = 1024 from rfl), refBlank_f l hb, Option.bind_some, if_neg hz, if_pos (by decide), if_pos (by decide), hn1, Option.bind_some, hw0]
  by_cases h9 : 996 < ln
  · rw [if_pos (show ((ln : Int)) > 996 by omega), if_pos h9]
  · rw [if_neg (show ¬ ((ln : Int)) > 996 by omega), if_neg h9, if_pos (by decide), if_pos (by decide), if_pos (by decide), hn2, Option.bind_some, hw3, if_pos (show (20 : Int) ≤ ((20 + ln : Nat) : Int) by omega), if_pos (show ((20 + ln : Nat) : Int) ≤ ((1024 : Nat) : Int) by omega), Int.toNat_natCast, hbody, hk8,
      EncE_ref k kd n ser bd hk hkd hn, Option.bind_some]
    have hbs := hbs h9
    unfold EncE
    by_cases hsr : 4611686018427387904 < ser
    · rw [if_pos hsr, decide_eq_false (show ¬ (ser ≤ 4611686018427387904 ∧ encL kd n ser bd = l) from by rintro ⟨h, _⟩; omega)]
      rfl
    · rw [if_neg hsr, if_neg (show ¬ 996 < bd.size by omega)]
      dsimp only
      rw [if_pos rfl]
      by_cases he : encL kd n ser bd = l
      · rw [if_pos (by rw [he]), decide_eq_true (show ser ≤ 4611686018427387904 ∧ encL kd n ser bd = l from ⟨by omega, he⟩)]
        rfl
      · rw [if_neg (fun h => he ((strOf_inj' (enc_bytes (number := n) kd ser bd hbs hkd) hb).1 h)), decide_eq_false (fun h : ser ≤ 4611686018427387904 ∧ encL kd n ser bd = l => he h.2)]
        rfl
theorem refDecode_f (k : Nat) (l : List Int) (n : Nat) (hk : 8 < k) (hb : Bytes l) (hn : n < 4294967296) : concordref05_Decode.f k (strOfNums l) n = some (decL l n) := by
  have hs : (strOfNums l).size = l.length := bytesN_strOf l
  by_cases hl : l.length = 1024
  · by_cases hz : allZero l = true
    · rw [show decL l n = (0, 0, 0, ⟨#[]⟩, 51) from by unfold decL; rw [if_neg (by omega), if_pos hz]]
      unfold concordref05_Decode.f
      rw [hs, hl, if_pos (show ((1024 : Nat) : Int) = 1024 from rfl), refBlank_f l hb, Option.bind_some, if_pos hz]
    · have hc : ∀ a b : Nat, Bytes ((l.take b).drop a) := fun a b x hx => hb x (List.mem_of_mem_take (List.mem_of_mem_drop hx))
      have hn1 : concordref05_Number.f k ((strOfNums l).extract 10 12) = some ((lenOf l : Nat) : Int) := by rw [strOf_cut]; exact Number_f _ (hc 10 12) (by rw [List.length_drop, List.length_take]; omega) k hk
      have hn2 : concordref05_Number.f k ((strOfNums l).extract 0 8) = some ((serOf l : Nat) : Int) := by rw [strOf_cut, List.drop_zero]; exact Number_f _ (fun x hx => hb x (List.mem_of_mem_take hx)) (by rw [List.length_take]; omega) k hk
      have h8 : 8 < l.length := by omega
      have hx := hb _ (List.getElem_mem h8)
      have hki : kindOf l = (l[8]).toNat := by unfold kindOf; rw [List.getD_eq_getElem?_getD, List.getElem?_eq_getElem h8, Option.getD_some]
      have hk8 : bt (strOfNums l) 8 = ((kindOf l : Nat) : Int) := by
        rw [show ((8 : Int) = ((8 : Nat) : Int)) from rfl, bt_strOf l hb 8 h8, hki]; omega
      have hd : decL l n = if 996 < lenOf l then (0, 0, 0, ⟨#[]⟩, 50) else if decide (serOf l ≤ 4611686018427387904 ∧ encL (kindOf l) n (serOf l) (bodyOf l) = l) = true then ((kindOf l : Int), (n : Int), (serOf l : Int), bodyOf l, 0) else (0, 0, 0, ⟨#[]⟩, 50) := by
        unfold decL; rw [if_neg (by omega), if_neg hz]; rfl
      rw [hd]
      exact refDecode_mid k l n (lenOf l) (serOf l) (kindOf l) (bodyOf l) hk hb hn hs hl hz hn1 hn2 (lenOf_lt l hb hl) hk8 (by rw [hki]; omega) (by rw [strOf_cut]; rfl) (fun h => by unfold bodyOf; rw [bytesN_strOf, List.length_drop, List.length_take]; omega)
  · rw [show decL l n = (0, 0, 0, ⟨#[]⟩, 4) from by unfold decL; rw [if_pos hl]]
    unfold concordref05_Decode.f
    rw [hs, if_neg (by omega)]
end Go.Proofs.Ytjfhdnknaphjaaa.My
