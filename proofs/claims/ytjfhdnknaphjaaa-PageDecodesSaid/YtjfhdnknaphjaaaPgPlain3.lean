/- A page of which one byte was turned is none. Plain lists. -/
import Derived.Test.YtjfhdnknaphjaaaPgPlain2
namespace Go.Proofs.Ytjfhdnknaphjaaa.My
open Go.RowKit Go.Proofs.YtjfhdnknaphjaaaW.PrintWords Go.Proofs.Ytjfhdnknaphjaaa

theorem get_of_cut {l m : List Int} {a b i : Nat} (h : (l.take b).drop a = m) (h1 : a ≤ i) (h2 : i < b) (hi : i < l.length) : m[i - a]? = some l[i] := by
  rw [← h, List.getElem?_drop, List.getElem?_take, if_pos (by omega), show a + (i - a) = i from by omega, List.getElem?_eq_getElem hi]
theorem zs_get (i : Nat) (h : i < 1024) : zs[i]? = some 0 := by unfold zs; rw [List.getElem?_replicate, if_pos h]
theorem turned_not_zero (kind number serial : Nat) (body : ByteArray) (hb : body.size ≤ 996) (hk : kind < 256) (i : Nat) (hi : i < 1024) (x : Int) (hne : ∀ y, (encL kind number serial body)[i]? = some y → x ≠ y) :
    (encL kind number serial body).set i x ≠ zs := by
  intro hz
  obtain ⟨l, hl⟩ : ∃ l, l = encL kind number serial body := ⟨_, rfl⟩
  rw [← hl] at hz hne
  have hlen : l.length = 1024 := by rw [hl]; exact encL_len _ _ _ _ hb
  have hil : i < l.length := by omega
  have hx : x = 0 := by
    have h1 : (l.set i x)[i]? = some x := by rw [List.getElem?_set, if_pos rfl, if_pos hil]
    rw [hz, zs_get i hi] at h1
    exact (Option.some.inj h1).symm
  have hnz : l[i] ≠ 0 := fun h => hne _ (List.getElem?_eq_getElem hil) (by rw [hx, h])
  have hother : ∀ j, j < 1024 → j ≠ i → l[j]? = some 0 := by
    intro j hj hji
    have h1 : (l.set i x)[j]? = l[j]? := by rw [List.getElem?_set, if_neg (fun e => hji e.symm)]
    rw [← h1, hz, zs_get j hj]
  have hzs : l = zs.set i l[i] := by rw [← hz, List.set_set, List.set_getElem_self]
  have hbytes : Bytes l := by rw [hl]; exact enc_bytes _ _ _ _ hb hk
  have hlay := hl.trans (enc_eq kind number serial body hb hk)
  have hsnd : Sound l := by rw [hl]; exact sound_enc _ _ _ _ hb hk
  have hS : (l.take 20).drop 16 = be 4 (sumL (over l 16 (be 4 0))) := hsnd.2.2
  have hA : (l.take 8).drop 0 = be 8 serial := by
    have := cut_mid' [] (be 8 serial) ([(kind : Int)] ++ ([0] ++ (be 2 body.size ++ (be 4 number ++ (be 4 (sumL (layL kind number serial body 0)) ++ (intsOf body ++ (List.replicate (996 - body.size) 0 ++ be 8 serial))))))) 0 8 rfl (be_len _ _)
    rw [List.nil_append] at this
    rw [hlay]; exact this
  have hZ : (l.take 1024).drop 1016 = be 8 serial := by
    have := cut_mid' (be 8 serial ++ ([(kind : Int)] ++ ([0] ++ (be 2 body.size ++ (be 4 number ++ (be 4 (sumL (layL kind number serial body 0)) ++ (intsOf body ++ List.replicate (996 - body.size) 0))))))) (be 8 serial) [] 1016 8 (by simp [be_len, intsOf_len]; omega) (be_len _ _)
    rw [hlay]; unfold layL
    simp only [List.append_assoc, List.append_nil] at this
    exact this
  by_cases c1 : i < 8
  · have h1 := get_of_cut hA (i := i) (by omega) (by omega) hil
    have h2 := get_of_cut hZ (i := 1016 + i) (by omega) (by omega) (by omega)
    have h3 := hother (1016 + i) (by omega) (by omega)
    rw [List.getElem?_eq_getElem (by omega)] at h3
    rw [show 1016 + i - 1016 = i - 0 from by omega, h1, h3] at h2
    exact hnz (Option.some.inj h2)
  by_cases c2 : 1016 ≤ i
  · have h1 := get_of_cut hZ (i := i) (by omega) (by omega) hil
    have h2 := get_of_cut hA (i := i - 1016) (by omega) (by omega) (by omega)
    have h3 := hother (i - 1016) (by omega) (by omega)
    rw [List.getElem?_eq_getElem (by omega)] at h3
    rw [Nat.sub_zero, h1, h3] at h2
    exact hnz (Option.some.inj h2)
  by_cases c3 : 16 ≤ i ∧ i < 20
  · have ho : over l 16 (be 4 0) = zs := by
      rw [hzs, over_set_in _ _ _ _ _ c3.1 (by rw [be_len]; omega), over_self_zs]
    rw [ho, sum_zs] at hS
    by_cases e : i = 16
    · have h1 := get_of_cut hS (i := 17) (by omega) (by omega) (by omega)
      have h3 := hother 17 (by omega) (by omega)
      rw [List.getElem?_eq_getElem (by omega)] at h3
      rw [h3] at h1
      revert h1; decide
    · have h1 := get_of_cut hS (i := 16) (by omega) (by omega) (by omega)
      have h3 := hother 16 (by omega) (by omega)
      rw [List.getElem?_eq_getElem (by omega)] at h3
      rw [h3] at h1
      revert h1; decide
  by_cases c4 : i < 16
  · have hF : (l.take 20).drop 16 = be 4 0 := by
      rw [hzs, List.take_set, List.drop_set_of_lt (by omega)]; decide
    rw [hF] at hS
    have hob := over_bytes 16 hbytes (be_bytes 4 0)
    have h0 := be_inj (by simp) (by have := sumL_lt _ hob; simpa using this) hS
    have ho : over l 16 (be 4 0) = zs.set i l[i] := by
      conv => lhs; rw [hzs]
      rw [over_set_out _ _ _ _ _ (by omega) (by rw [be_len, zs_len]; omega), over_self_zs]
    rw [ho] at h0
    have hy := hbytes l[i] (List.getElem_mem _)
    have e : (zs.set i l[i]).map Int.toNat = List.replicate i 0 ++ l[i].toNat :: List.replicate (1023 - i) 0 := by
      rw [set_split _ _ _ (by rw [zs_len]; omega), List.map_append, List.map_cons]
      unfold zs
      rw [List.take_replicate, List.drop_replicate, List.map_replicate, List.map_replicate, Nat.min_eq_left (by omega), show 1024 - (i + 1) = 1023 - i from by omega]
      rfl
    unfold sumL at h0
    rw [e] at h0
    exact Crc.head_byte i _ (by omega) c4 (by omega) h0.symm
  · have hlen0 : body.size = 0 := by
      have h1 : lenOf l = body.size := by rw [hlay, lenOf_lay _ _ _ _ _ hb]
      rw [← h1, hzs]
      unfold lenOf
      rw [List.take_set_of_le (by omega)]
      decide
    have hB : (l.take 1016).drop 20 = intsOf body ++ List.replicate (996 - body.size) 0 := by
      have := cut_mid' (be 8 serial ++ ([(kind : Int)] ++ ([0] ++ (be 2 body.size ++ (be 4 number ++ be 4 (sumL (layL kind number serial body 0))))))) (intsOf body ++ List.replicate (996 - body.size) 0) (be 8 serial) 20 996 (by simp [be_len]) (by simp [intsOf_len]; omega)
      rw [hlay]; unfold layL
      simp only [List.append_assoc] at this
      exact this
    have h1 := get_of_cut hB (i := i) (by omega) (by omega) hil
    have hbe : intsOf body = [] := List.eq_nil_of_length_eq_zero (by rw [intsOf_len, hlen0])
    rw [hbe, List.nil_append, List.getElem?_replicate, if_pos (by omega)] at h1
    exact hnz (Option.some.inj h1).symm
/-- One byte is another one: refused. -/
theorem dec_turned (kind number serial number' : Nat) (body : ByteArray) (hb : body.size ≤ 996) (hk : kind < 256) (i : Nat) (hi : i < 1024) (x : Int) (hx : 0 ≤ x ∧ x < 256) (hne : ∀ y, (encL kind number serial body)[i]? = some y → x ≠ y) :
    decL ((encL kind number serial body).set i x) number' = (0, 0, 0, ⟨#[]⟩, 50) := by
  have hz : allZero ((encL kind number serial body).set i x) = false := decide_eq_false (turned_not_zero _ _ _ _ hb hk i hi x hne)
  have hsnd := sound_enc kind number serial body hb hk
  obtain ⟨l, hl⟩ : ∃ l, l = encL kind number serial body := ⟨_, rfl⟩
  rw [← hl] at hz hsnd hne ⊢
  have hlen : l.length = 1024 := hsnd.1
  have hbs : Bytes (l.set i x) := by
    intro y hy
    rcases List.mem_or_eq_of_mem_set hy with hy | rfl
    · exact hsnd.2.1 y hy
    · exact hx
  unfold decL
  rw [if_neg (by rw [List.length_set]; omega), if_neg (by rw [hz]; simp)]
  by_cases hn : 996 < lenOf (l.set i x)
  · rw [if_pos hn]
  · rw [if_neg hn]
    by_cases hag : again (l.set i x) number' = true
    · exfalso
      obtain ⟨_, he⟩ := of_decide_eq_true hag
      have hbody : (bodyOf (l.set i x)).size ≤ 996 := by
        unfold bodyOf
        rw [bytesN_strOf, List.length_drop, List.length_take, List.length_set]; omega
      have hkind : kindOf (l.set i x) < 256 := by
        have h8 : 8 < (l.set i x).length := by rw [List.length_set]; omega
        have h := hbs (l.set i x)[8] (List.getElem_mem _)
        unfold kindOf
        rw [List.getD_eq_getElem?_getD, List.getElem?_eq_getElem h8]
        simp only [Option.getD_some]
        omega
      have hs' : Sound (l.set i x) := by
        have := sound_enc (kindOf (l.set i x)) number' (serOf (l.set i x)) (bodyOf (l.set i x)) hbody hkind
        rwa [he] at this
      have h1 := sound_set l i x hsnd hi hx hs'
      have h2 : (l.set i x)[i]? = some x := by rw [List.getElem?_set, if_pos rfl, if_pos (by omega)]
      rw [h1] at h2
      exact hne x h2 rfl
    · rw [if_neg hag]
end Go.Proofs.Ytjfhdnknaphjaaa.My
