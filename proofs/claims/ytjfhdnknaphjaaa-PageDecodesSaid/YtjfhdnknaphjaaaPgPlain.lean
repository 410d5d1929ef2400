/- A page's bytes, in plain lists: how they lie, that what was laid is taken, that one byte turned is told. -/
import Derived.Test.YtjfhdnknaphjaaaPgDec
namespace Go.Proofs.Ytjfhdnknaphjaaa.My
open Go.RowKit Go.Proofs.YtjfhdnknaphjaaaW.PrintWords Go.Proofs.Ytjfhdnknaphjaaa

/-! numbers -/
theorem be_succ (n v : Nat) : be (n + 1) v = be n (v / 256) ++ [((v % 256 : Nat) : Int)] := by
  unfold be
  rw [List.range_succ, List.map_append]
  congr 1
  · apply List.map_congr_left
    intro i hi
    have hi := List.mem_range.1 hi
    congr 2
    rw [Nat.div_div_eq_div_mul, show n + 1 - 1 - i = (n - 1 - i) + 1 from by omega, Nat.pow_succ, Nat.mul_comm]
  · simp
theorem be_bytes (n v : Nat) : Bytes (be n v) := by
  intro x hx
  obtain ⟨i, _, rfl⟩ := List.mem_map.1 hx
  omega
theorem beNat_be : ∀ (n v : Nat), v < 256 ^ n → beNat (be n v) = v
  | 0, v, h => by
    have : v = 0 := by simpa using h
    subst this; rfl
  | n + 1, v, h => by
    rw [be_succ, beNat_snoc, beNat_be n (v / 256) (by rw [Nat.pow_succ] at h; omega)]
    simp only [Int.toNat_natCast]
    omega
theorem be_beNat (l : List Int) (h : Bytes l) : be l.length (beNat l) = l := by
  have key : ∀ k, k ≤ l.length → be k (beNat (l.take k)) = l.take k := by
    intro k
    induction k with
    | zero => intro _; rfl
    | succ k ih =>
      intro hk
      have hx := h l[k] (List.getElem_mem _)
      rw [List.take_succ_eq_append_getElem (by omega), beNat_snoc, be_succ]
      have e1 : (beNat (l.take k) * 256 + l[k].toNat) / 256 = beNat (l.take k) := by omega
      have e2 : (beNat (l.take k) * 256 + l[k].toNat) % 256 = l[k].toNat := by omega
      rw [e1, e2, ih (by omega)]
      congr 2
      omega
  have := key l.length (Nat.le_refl _)
  rwa [List.take_length] at this
theorem be_inj {n v v' : Nat} (h : v < 256 ^ n) (h' : v' < 256 ^ n) (e : be n v = be n v') : v = v' := by
  rw [← beNat_be n v h, e, beNat_be n v' h']
theorem bytes_append {l m : List Int} (h : Bytes l) (k : Bytes m) : Bytes (l ++ m) := fun x hx => (List.mem_append.1 hx).elim (h x) (k x)
theorem intsOf_bytes (s : ByteArray) : Bytes (intsOf s) := by
  intro x hx
  obtain ⟨u, _, rfl⟩ := List.mem_map.1 hx
  have := u.toNat_lt
  omega
theorem strOf_intsOf (s : ByteArray) : strOfNums (intsOf s) = s := by
  unfold strOfNums intsOf
  apply ByteArray.ext
  apply Array.toList_inj.1
  simp only [List.map_map]
  conv => rhs; rw [← List.map_id s.data.toList]
  apply List.map_congr_left
  intro x _
  simp
theorem intsOf_strOf (l : List Int) (h : Bytes l) : intsOf (strOfNums l) = l := by
  unfold strOfNums intsOf
  simp only [List.map_map]
  conv => rhs; rw [← List.map_id l]
  apply List.map_congr_left
  intro x hx
  have := h x hx
  simp
  omega

/-! how a page lies -/
def layL (kind number serial : Nat) (body : ByteArray) (sum : Nat) : List Int :=
  be 8 serial ++ ([(kind : Int)] ++ ([0] ++ (be 2 body.size ++ (be 4 number ++ (be 4 sum ++ (intsOf body ++ (List.replicate (996 - body.size) 0 ++ be 8 serial)))))))
theorem over_mid (A B C m : List Int) (o : Nat) (ho : A.length = o) (hm : m.length = B.length) : over (A ++ (B ++ C)) o m = A ++ (m ++ C) := by
  subst ho
  unfold over
  rw [List.take_left, List.append_assoc, hm, ← List.drop_drop, List.drop_left, List.drop_left]
theorem zs_split (n : Nat) (h : n ≤ 996) : zs = List.replicate 8 0 ++ ([0] ++ ([0] ++ (List.replicate 2 0 ++ (List.replicate 4 0 ++ (List.replicate 4 0 ++ (List.replicate n 0 ++ (List.replicate (996 - n) 0 ++ List.replicate 8 0))))))) := by
  unfold zs
  have e1 : ([0] : List Int) = List.replicate 1 0 := rfl
  rw [e1]
  simp only [List.replicate_append_replicate]
  congr 1
  omega
theorem rep4 : be 4 0 = List.replicate 4 0 := by decide
theorem encB_lay (kind number serial : Nat) (body : ByteArray) (hb : body.size ≤ 996) : encB kind number serial body = layL kind number serial body 0 := by
  unfold encB layL
  rw [zs_split body.size hb]
  have s1 := over_mid [] (List.replicate 8 0) ([0] ++ ([0] ++ (List.replicate 2 0 ++ (List.replicate 4 0 ++ (List.replicate 4 0 ++ (List.replicate body.size 0 ++ (List.replicate (996 - body.size) 0 ++ List.replicate 8 0))))))) (be 8 serial) 0 rfl (by rw [be_len, List.length_replicate])
  rw [List.nil_append, List.nil_append] at s1
  rw [s1]
  have s2 : (be 8 serial ++ ([0] ++ ([0] ++ (List.replicate 2 0 ++ (List.replicate 4 0 ++ (List.replicate 4 0 ++ (List.replicate body.size 0 ++ (List.replicate (996 - body.size) 0 ++ List.replicate 8 0)))))))).set 8 (kind : Int) =
      be 8 serial ++ ([(kind : Int)] ++ ([0] ++ (List.replicate 2 0 ++ (List.replicate 4 0 ++ (List.replicate 4 0 ++ (List.replicate body.size 0 ++ (List.replicate (996 - body.size) 0 ++ List.replicate 8 0))))))) := by
    rw [List.set_append_right _ _ (by rw [be_len]; omega), be_len]; rfl
  rw [s2]
  have s3 := over_mid (be 8 serial ++ ([(kind : Int)] ++ [0])) (List.replicate 2 0) (List.replicate 4 0 ++ (List.replicate 4 0 ++ (List.replicate body.size 0 ++ (List.replicate (996 - body.size) 0 ++ List.replicate 8 0)))) (be 2 body.size) 10 (by simp [be_len]) (by rw [be_len, List.length_replicate])
  have s4 := over_mid (be 8 serial ++ ([(kind : Int)] ++ ([0] ++ be 2 body.size))) (List.replicate 4 0) (List.replicate 4 0 ++ (List.replicate body.size 0 ++ (List.replicate (996 - body.size) 0 ++ List.replicate 8 0))) (be 4 number) 12 (by simp [be_len]) (by rw [be_len, List.length_replicate])
  have s5 := over_mid (be 8 serial ++ ([(kind : Int)] ++ ([0] ++ (be 2 body.size ++ (be 4 number ++ List.replicate 4 0))))) (List.replicate body.size 0) (List.replicate (996 - body.size) 0 ++ List.replicate 8 0) (intsOf body) 20 (by simp [be_len]) (by rw [intsOf_len, List.length_replicate])
  have s6 := over_mid (be 8 serial ++ ([(kind : Int)] ++ ([0] ++ (be 2 body.size ++ (be 4 number ++ (List.replicate 4 0 ++ (intsOf body ++ List.replicate (996 - body.size) 0))))))) (List.replicate 8 0) [] (be 8 serial) 1016 (by simp [be_len, intsOf_len]; omega) (by rw [be_len, List.length_replicate])
  simp only [List.append_assoc, List.append_nil] at s3 s4 s5 s6 ⊢
  rw [s3, s4, s5, s6, rep4]
theorem encL_lay (kind number serial : Nat) (body : ByteArray) (hb : body.size ≤ 996) : encL kind number serial body = layL kind number serial body (Crc.sum (bytesN (strOfNums (layL kind number serial body 0)))) := by
  unfold encL
  rw [encB_lay _ _ _ _ hb]
  generalize Crc.sum (bytesN (strOfNums (layL kind number serial body 0))) = s
  unfold layL
  have s7 := over_mid (be 8 serial ++ ([(kind : Int)] ++ ([0] ++ (be 2 body.size ++ be 4 number)))) (be 4 0) (intsOf body ++ (List.replicate (996 - body.size) 0 ++ be 8 serial)) (be 4 s) 16 (by simp [be_len]) (by rw [be_len, be_len])
  simp only [List.append_assoc] at s7 ⊢
  exact s7

/-! what was laid is taken -/
theorem cut_mid' (A B C : List Int) (o n : Nat) (ho : A.length = o) (hn : B.length = n) : ((A ++ (B ++ C)).take (o + n)).drop o = B := by
  subst ho; subst hn
  rw [← List.append_assoc, ← List.length_append, List.take_left, List.drop_left]
theorem layL_len (kind number serial : Nat) (body : ByteArray) (s : Nat) (hb : body.size ≤ 996) : (layL kind number serial body s).length = 1024 := by
  unfold layL
  simp [be_len, intsOf_len]; omega
theorem layL_bytes (kind number serial : Nat) (body : ByteArray) (s : Nat) (hk : kind < 256) : Bytes (layL kind number serial body s) := by
  unfold layL
  refine bytes_append (be_bytes _ _) (bytes_append ?_ (bytes_append ?_ (bytes_append (be_bytes _ _) (bytes_append (be_bytes _ _) (bytes_append (be_bytes _ _) (bytes_append (intsOf_bytes _) (bytes_append ?_ (be_bytes _ _))))))))
  · intro x hx; obtain rfl := List.mem_singleton.1 hx; omega
  · intro x hx; obtain rfl := List.mem_singleton.1 hx; omega
  · intro x hx; obtain rfl := List.eq_of_mem_replicate hx; omega
theorem lenOf_lay (kind number serial : Nat) (body : ByteArray) (s : Nat) (hb : body.size ≤ 996) : lenOf (layL kind number serial body s) = body.size := by
  have h := cut_mid' (be 8 serial ++ ([(kind : Int)] ++ [0])) (be 2 body.size) (be 4 number ++ (be 4 s ++ (intsOf body ++ (List.replicate (996 - body.size) 0 ++ be 8 serial)))) 10 2 (by simp [be_len]) (be_len _ _)
  unfold lenOf layL
  simp only [List.append_assoc] at h
  rw [h, beNat_be 2 _ (by omega)]
theorem serOf_lay (kind number serial : Nat) (body : ByteArray) (s : Nat) (hs : serial < 18446744073709551616) : serOf (layL kind number serial body s) = serial := by
  unfold serOf layL
  rw [List.take_left' (be_len 8 serial), beNat_be 8 _ (by simpa using hs)]
theorem kindOf_lay (kind number serial : Nat) (body : ByteArray) (s : Nat) : kindOf (layL kind number serial body s) = kind := by
  unfold kindOf layL
  rw [List.getD_eq_getElem?_getD, List.getElem?_append_right (by rw [be_len]; omega), be_len]
  simp
theorem bodyOf_lay (kind number serial : Nat) (body : ByteArray) (s : Nat) (hb : body.size ≤ 996) : bodyOf (layL kind number serial body s) = body := by
  have h := cut_mid' (be 8 serial ++ ([(kind : Int)] ++ ([0] ++ (be 2 body.size ++ (be 4 number ++ be 4 s))))) (intsOf body) (List.replicate (996 - body.size) 0 ++ be 8 serial) 20 body.size (by simp [be_len]) (intsOf_len _)
  unfold bodyOf
  rw [lenOf_lay _ _ _ _ _ hb]
  unfold layL
  simp only [List.append_assoc] at h
  rw [h, strOf_intsOf]
theorem numOf_lay (kind number serial : Nat) (body : ByteArray) (s : Nat) (hn : number < 4294967296) : beNat (((layL kind number serial body s).take 16).drop 12) = number := by
  have h := cut_mid' (be 8 serial ++ ([(kind : Int)] ++ ([0] ++ be 2 body.size))) (be 4 number) (be 4 s ++ (intsOf body ++ (List.replicate (996 - body.size) 0 ++ be 8 serial))) 12 4 (by simp [be_len]) (be_len _ _)
  unfold layL
  simp only [List.append_assoc] at h
  rw [h, beNat_be 4 _ (by simpa using hn)]
theorem sumOf_lay (kind number serial : Nat) (body : ByteArray) (s : Nat) : ((layL kind number serial body s).take 20).drop 16 = be 4 s := by
  have h := cut_mid' (be 8 serial ++ ([(kind : Int)] ++ ([0] ++ (be 2 body.size ++ be 4 number)))) (be 4 s) (intsOf body ++ (List.replicate (996 - body.size) 0 ++ be 8 serial)) 16 4 (by simp [be_len]) (be_len _ _)
  unfold layL
  simp only [List.append_assoc] at h
  rw [h]
/-- With no sum. -/
theorem over_lay (kind number serial : Nat) (body : ByteArray) (s t : Nat) : over (layL kind number serial body s) 16 (be 4 t) = layL kind number serial body t := by
  have s7 := over_mid (be 8 serial ++ ([(kind : Int)] ++ ([0] ++ (be 2 body.size ++ be 4 number)))) (be 4 s) (intsOf body ++ (List.replicate (996 - body.size) 0 ++ be 8 serial)) (be 4 t) 16 (by simp [be_len]) (by rw [be_len, be_len])
  unfold layL
  simp only [List.append_assoc] at s7 ⊢
  exact s7
end Go.Proofs.Ytjfhdnknaphjaaa.My
