/- A page goes there and back; one byte turned is told. Plain lists. -/
import Derived.Test.YtjfhdnknaphjaaaPgPlain
import Derived.Test.YtjfhdnknaphjaaaCrc2
namespace Go.Proofs.Ytjfhdnknaphjaaa.My
open Go.RowKit Go.Proofs.YtjfhdnknaphjaaaW.PrintWords Go.Proofs.Ytjfhdnknaphjaaa

def sumL (l : List Int) : Nat := Crc.sum (l.map Int.toNat)
theorem bytesN_of (l : List Int) (h : Bytes l) : bytesN (strOfNums l) = l.map Int.toNat := by
  unfold bytesN strOfNums
  simp only [List.map_map]
  apply List.map_congr_left
  intro x hx
  have := h x hx
  simp
  omega
theorem nats_lt {l : List Int} (h : Bytes l) : ∀ z ∈ l.map Int.toNat, z < 256 := by
  intro z hz
  obtain ⟨x, hx, rfl⟩ := List.mem_map.1 hz
  have := h x hx
  omega
theorem sumL_lt (l : List Int) (h : Bytes l) : sumL l < 4294967296 := Crc.sumOn_lt _ (by omega) (nats_lt h)
theorem enc_eq (kind number serial : Nat) (body : ByteArray) (hb : body.size ≤ 996) (hk : kind < 256) : encL kind number serial body = layL kind number serial body (sumL (layL kind number serial body 0)) := by
  rw [encL_lay _ _ _ _ hb, bytesN_of _ (layL_bytes _ _ _ _ _ hk)]; rfl
theorem zs_bytes : Bytes zs := by intro x hx; obtain rfl := List.eq_of_mem_replicate hx; omega
theorem sum_zs : sumL zs = 4004437628 := by
  unfold sumL
  have e : zs.map Int.toNat = List.replicate 1024 0 := by unfold zs; rw [List.map_replicate]; rfl
  rw [e]; exact Crc.sum_zeros
theorem over_self_zs : over zs 16 (be 4 0) = zs := by
  have h : zs = List.replicate 16 0 ++ (List.replicate 4 0 ++ List.replicate 1004 0) := by unfold zs; simp only [List.replicate_append_replicate]
  rw [h, over_mid _ _ _ _ 16 (by simp) (by simp [be_len]), rep4]
theorem enc_bytes (kind number serial : Nat) (body : ByteArray) (hb : body.size ≤ 996) (hk : kind < 256) : Bytes (encL kind number serial body) := by
  rw [enc_eq _ _ _ _ hb hk]; exact layL_bytes _ _ _ _ _ hk
theorem enc_not_zero (kind number serial : Nat) (body : ByteArray) (hb : body.size ≤ 996) (hk : kind < 256) : encL kind number serial body ≠ zs := by
  intro h
  have hl := layL_bytes kind number serial body 0 hk
  rw [enc_eq _ _ _ _ hb hk] at h
  have h0 : layL kind number serial body 0 = zs := by rw [← over_lay _ _ _ _ (sumL (layL kind number serial body 0)) 0, h, over_self_zs]
  have h1 := sumOf_lay kind number serial body (sumL (layL kind number serial body 0))
  rw [h] at h1
  have h2 : (zs.take 20).drop 16 = be 4 0 := by decide
  have h3 := be_inj (by simp) (by have := sumL_lt _ hl; simpa using this) (h2.symm.trans h1)
  rw [h0, sum_zs] at h3
  cases h3
/-- What is told is taken. -/
theorem dec_enc (kind number serial : Nat) (body : ByteArray) (hb : body.size ≤ 996) (hk : kind < 256) (hs : serial ≤ 4611686018427387904) (_hn : number < 4294967296) :
    decL (encL kind number serial body) number = ((kind : Int), (number : Int), (serial : Int), body, 0) := by
  have hz : allZero (encL kind number serial body) = false := decide_eq_false (enc_not_zero _ _ _ _ hb hk)
  have e := enc_eq kind number serial body hb hk
  have e1 : kindOf (encL kind number serial body) = kind := by rw [e, kindOf_lay]
  have e2 : serOf (encL kind number serial body) = serial := by rw [e, serOf_lay _ _ _ _ _ (by omega)]
  have e3 : bodyOf (encL kind number serial body) = body := by rw [e, bodyOf_lay _ _ _ _ _ hb]
  have e4 : lenOf (encL kind number serial body) = body.size := by rw [e, lenOf_lay _ _ _ _ _ hb]
  unfold decL
  rw [if_neg (by rw [encL_len _ _ _ _ hb]; omega), if_neg (by rw [hz]; simp), if_neg (by omega), if_pos (by unfold again; rw [e1, e2, e3]; exact decide_eq_true ⟨hs, rfl⟩), e1, e2, e3]
theorem dec_other (kind number serial number' : Nat) (body : ByteArray) (hb : body.size ≤ 996) (hk : kind < 256) (hs : serial ≤ 4611686018427387904) (hn : number < 4294967296) (hn' : number' < 4294967296) (hne : number' ≠ number) :
    decL (encL kind number serial body) number' = (0, 0, 0, ⟨#[]⟩, 50) := by
  have hz : allZero (encL kind number serial body) = false := decide_eq_false (enc_not_zero _ _ _ _ hb hk)
  have e := enc_eq kind number serial body hb hk
  have e1 : kindOf (encL kind number serial body) = kind := by rw [e, kindOf_lay]
  have e2 : serOf (encL kind number serial body) = serial := by rw [e, serOf_lay _ _ _ _ _ (by omega)]
  have e3 : bodyOf (encL kind number serial body) = body := by rw [e, bodyOf_lay _ _ _ _ _ hb]
  have e4 : lenOf (encL kind number serial body) = body.size := by rw [e, lenOf_lay _ _ _ _ _ hb]
  have hag : again (encL kind number serial body) number' = false := by
    unfold again; rw [e1, e2, e3]
    refine decide_eq_false ?_
    rintro ⟨_, h⟩
    rw [e, enc_eq _ _ _ _ hb hk] at h
    have h1 := numOf_lay kind number' serial body (sumL (layL kind number' serial body 0)) hn'
    rw [h, numOf_lay _ _ _ _ _ hn] at h1
    exact hne h1.symm
  unfold decL
  rw [if_neg (by rw [encL_len _ _ _ _ hb]; omega), if_neg (by rw [hz]; simp), if_neg (by omega), if_neg (by rw [hag]; simp)]

/-! one byte turned -/
theorem over_set_in (l : List Int) (i o : Nat) (x : Int) (m : List Int) (h1 : o ≤ i) (h2 : i < o + m.length) : over (l.set i x) o m = over l o m := by
  unfold over
  rw [List.take_set_of_le h1, List.drop_set_of_lt (by omega)]
theorem over_set_out (l : List Int) (i o : Nat) (x : Int) (m : List Int) (h : i < o ∨ o + m.length ≤ i) (hl : o + m.length ≤ l.length) : over (l.set i x) o m = (over l o m).set i x := by
  apply List.ext_getElem?
  intro j
  unfold over
  simp only [List.getElem?_append, List.getElem?_take, List.getElem?_drop, List.getElem?_set, List.length_append, List.length_take, List.length_set, List.length_drop]
  by_cases e : i = j
  · subst e
    rcases h with h | h
    · rw [if_pos (by omega), if_pos (by omega), if_pos rfl, if_pos rfl, if_pos h]
      by_cases hi : i < l.length
      · rw [if_pos hi, if_pos (by omega)]
      · rw [if_neg hi, if_neg (by omega)]
    · rw [if_neg (by omega), if_pos rfl, if_pos (by omega)]
      by_cases hi : i < l.length
      · rw [if_pos (by omega), if_pos (by omega)]
      · rw [if_neg (by omega), if_neg (by omega)]
  · have e2 : ¬ (i = o + m.length + (j - (min o l.length + m.length)) ∧ ¬ j < min o l.length + m.length) := by omega
    simp only [if_neg e]
    by_cases c1 : j < min o l.length + m.length
    · rw [if_pos c1, if_pos c1]
    · rw [if_neg c1, if_neg c1, if_neg (by omega)]
theorem split_at (l : List Int) (i : Nat) (h : i < l.length) : l = l.take i ++ l[i] :: l.drop (i + 1) := by
  rw [List.getElem_cons_drop, List.take_append_drop]
theorem set_split (l : List Int) (i : Nat) (x : Int) (h : i < l.length) : l.set i x = l.take i ++ x :: l.drop (i + 1) := by
  rw [List.set_eq_take_append_cons_drop, if_pos h]
theorem sum_set (l : List Int) (i : Nat) (x : Int) (hl : Bytes l) (hi : i < l.length) (hx : 0 ≤ x ∧ x < 256) (h : sumL (l.set i x) = sumL l) : x = l[i] := by
  have hli := hl l[i] (List.getElem_mem _)
  unfold sumL at h
  have e1 : (l.set i x).map Int.toNat = (l.take i).map Int.toNat ++ x.toNat :: (l.drop (i + 1)).map Int.toNat := by rw [set_split l i x hi, List.map_append, List.map_cons]
  have e2 : l.map Int.toNat = (l.take i).map Int.toNat ++ l[i].toNat :: (l.drop (i + 1)).map Int.toNat := by
    conv => lhs; rw [split_at l i hi]
    rw [List.map_append, List.map_cons]
  rw [e1, e2] at h
  have := Crc.sum_one _ _ _ _ (nats_lt fun y hy => hl y (List.mem_of_mem_take hy)) (nats_lt fun y hy => hl y (List.mem_of_mem_drop hy)) (by omega) (by omega) h
  omega
theorem over_back (l : List Int) (o n : Nat) (m : List Int) (hm : m.length = n) (hl : o + n ≤ l.length) : over (over l o m) o ((l.take (o + n)).drop o) = l := by
  have e : l = l.take o ++ ((l.take (o + n)).drop o ++ l.drop (o + n)) := by
    rw [← List.drop_append_of_le_length (by rw [List.length_take]; omega), List.take_append_drop, List.take_append_drop]
  have hA : (l.take o).length = o := by rw [List.length_take]; omega
  have hB : ((l.take (o + n)).drop o).length = n := by rw [List.length_drop, List.length_take]; omega
  conv => lhs; arg 1; rw [e, over_mid _ _ _ m o hA (by rw [hm, hB])]
  rw [over_mid _ _ _ _ o hA (by rw [hm, hB])]
  exact e.symm
/-- Sound: the sum that stands in it is that of the rest. -/
def Sound (l : List Int) : Prop := l.length = 1024 ∧ Bytes l ∧ (l.take 20).drop 16 = be 4 (sumL (over l 16 (be 4 0)))
theorem sound_enc (kind number serial : Nat) (body : ByteArray) (hb : body.size ≤ 996) (hk : kind < 256) : Sound (encL kind number serial body) := by
  refine ⟨encL_len _ _ _ _ hb, enc_bytes _ _ _ _ hb hk, ?_⟩
  rw [enc_eq _ _ _ _ hb hk, sumOf_lay, over_lay]
theorem over_bytes {l m : List Int} (o : Nat) (h : Bytes l) (k : Bytes m) : Bytes (over l o m) := by
  unfold over
  exact bytes_append (bytes_append (fun x hx => h x (List.mem_of_mem_take hx)) k) (fun x hx => h x (List.mem_of_mem_drop hx))
theorem sound_set (l : List Int) (i : Nat) (x : Int) (h : Sound l) (hi : i < 1024) (hx : 0 ≤ x ∧ x < 256) (h' : Sound (l.set i x)) : (l.set i x) = l := by
  obtain ⟨hl, hb, hs⟩ := h
  obtain ⟨_, _, hs'⟩ := h'
  have hZ := over_bytes 16 hb (be_bytes 4 0)
  by_cases hin : 16 ≤ i ∧ i < 20
  · rw [over_set_in l i 16 x _ hin.1 (by rw [be_len]; omega), ← hs] at hs'
    have b1 := over_back l 16 4 (be 4 0) (be_len _ _) (by omega)
    have b2 := over_back (l.set i x) 16 4 (be 4 0) (be_len _ _) (by rw [List.length_set]; omega)
    rw [over_set_in l i 16 x _ hin.1 (by rw [be_len]; omega), hs', b1] at b2
    exact b2.symm
  · have hout : i < 16 ∨ 20 ≤ i := by omega
    have e1 : ((l.set i x).take 20).drop 16 = (l.take 20).drop 16 := by
      rcases hout with h | h
      · rw [List.take_set, List.drop_set_of_lt (by omega)]
      · rw [List.take_set_of_le h]
    have e2 := over_set_out l i 16 x (be 4 0) (by rw [be_len]; omega) (by rw [be_len]; omega)
    rw [e1, hs, e2] at hs'
    have hlo : (over l 16 (be 4 0)).length = 1024 := by rw [over_len _ _ _ (by rw [be_len]; omega), hl]
    have hZ' : Bytes ((over l 16 (be 4 0)).set i x) := by
      intro y hy
      rcases List.mem_or_eq_of_mem_set hy with hy | rfl
      · exact hZ y hy
      · exact hx
    have h1 := be_inj (by have := sumL_lt _ hZ; simpa using this) (by have := sumL_lt _ hZ'; simpa using this) hs'
    have h2 := sum_set _ i x hZ (by omega) hx h1.symm
    have h3 : (over l 16 (be 4 0))[i]'(by omega) = l[i]'(by omega) := by
      have : (over l 16 (be 4 0))[i]? = l[i]? := by
        unfold over
        rcases hout with h | h
        · rw [List.append_assoc, List.getElem?_append_left (by rw [List.length_take]; omega), List.getElem?_take, if_pos h]
        · rw [List.getElem?_append_right (by rw [List.length_append, List.length_take, be_len]; omega), List.getElem?_drop, List.length_append, List.length_take, be_len]
          congr 1
          omega
      rw [List.getElem?_eq_getElem (by omega), List.getElem?_eq_getElem (by omega)] at this
      exact Option.some.inj this
    rw [h3] at h2
    rw [h2]
    exact List.set_getElem_self _
end Go.Proofs.Ytjfhdnknaphjaaa.My
