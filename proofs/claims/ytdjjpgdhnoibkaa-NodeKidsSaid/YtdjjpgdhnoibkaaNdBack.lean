/- Bodies of nodes: what is told is read, what is read is told again. No program in sight. -/
import Derived.Test.YtdjjpgdhnoibkaaNdDec
namespace Go.Proofs.Ytdjjpgdhnoibkaa.My
open Go.RowKit Go.Proofs.YtdjjpgdhnoibkaaW.PrintWords Go.Proofs.YtdjjpgdhnoibkaaW.PrintLast Go.Proofs.YtdjjpgdhnoibkaaW.PrintMore Go.Proofs.Ytdjjpgdhnoibkaa Go.Proofs.Ytdjjpgdhnoibkaa.PZ
set_option linter.unusedSimpArgs false
set_option linter.unusedVariables false
set_option maxRecDepth 100000
set_option maxHeartbeats 1600000
/-- A text's bytes, its length ahead. -/
def tN (s : ByteArray) : List Nat := uvN 10 s.size ++ natsOf s
theorem bytes_nat (s : ByteArray) : (bytesOf s).map Int.toNat = natsOf s := by
 unfold bytesOf natsOf
 rw [List.map_map]
 rfl
theorem txL_nat (s : ByteArray) : (txL s).map Int.toNat = tN s := by
 unfold txL tN uvN
 rw [List.map_append, bytes_nat]
theorem bytes_bounds (s : ByteArray) : ∀ z ∈ bytesOf s, 0 ≤ z ∧ z < 256 := by
 intro z hz
 unfold bytesOf at hz
 obtain ⟨b, _, rfl⟩ := List.mem_map.1 hz
 have := b.toNat_lt
 omega
theorem txL_bounds (s : ByteArray) (h : s.size ≤ 1000000) : ∀ z ∈ txL s, 0 ≤ z ∧ z < 256 := by
 have e : (128 : Nat) * 128 ^ 10 = 151115727451828646838272 := by decide
 intro z hz
 unfold txL at hz
 rcases List.mem_append.1 hz with h1 | h1
 ·exact uv_bounds 10 s.size (by rw [e]; omega) z h1
 ·exact bytes_bounds s z h1
theorem rF_ok {s : ByteArray} {P R : List Nat} {n v : Nat} (h : natsOf s = P ++ (beN n v ++ R)) (hv : v < 256 ^ n) : rF s P.length 0 n = (v, P.length + n, 0) := by
 have hl := congrArg List.length h
 rw [natsOf_len, List.length_append, List.length_append, beN_len] at hl
 unfold rF
 rw [tk_ok n (by omega)]
 dsimp only
 have e : natsOf (s.extract P.length (P.length + n)) = beN n v := by
  rw [natsOf_extract, Nat.add_sub_cancel_left]
  exact seg_of h rfl (beN_len n v)
 rw [e, hiN_beN n v hv]
theorem rT_ok {s x : ByteArray} {P R : List Nat} {most : Nat} (h : natsOf s = P ++ (tN x ++ R)) (hx : x.size ≤ most) (hm : most ≤ 1000000) : rT s P.length 0 most = (x, P.length + (tN x).length, 0) := by
 unfold tN at h
 have h1 : natsOf s = P ++ (uvN 10 x.size ++ (natsOf x ++ R)) := by rw [h]; simp
 have h2 : natsOf s = (P ++ uvN 10 x.size) ++ (natsOf x ++ R) := by rw [h]; simp
 have r1 := rU_ok (most := most) h1 hx (by omega)
 have hl := congrArg List.length h2
 rw [natsOf_len, List.length_append, List.length_append, List.length_append, natsOf_len] at hl
 unfold rT
 rw [if_neg (by omega), Int.toNat_natCast, r1]
 dsimp only
 rw [tk_ok x.size (by omega)]
 dsimp only
 rw [if_pos rfl]
 have e : s.extract (P.length + (uvN 10 x.size).length) (P.length + (uvN 10 x.size).length + x.size) = x := by
  apply natsOf_inj
  rw [natsOf_extract, Nat.add_sub_cancel_left]
  exact seg_of h2 List.length_append (natsOf_len x)
 rw [e]
 unfold tN
 rw [List.length_append, natsOf_len, Nat.add_assoc]
def csN (cs : List Ce) : List Nat := (encCs cs).map Int.toNat
theorem csN_cons (c : Ce) (t : List Ce) : csN (c :: t) = tN c.f0 ++ (tN c.f1 ++ csN t) := by
 unfold csN
 rw [encCs, List.map_append, List.map_append, txL_nat, txL_nat]
theorem rdCs_enc (s : ByteArray) (R : List Nat) : ∀ (cs : List Ce) (P : List Nat) (L : List Ce), cs.all okC = true → natsOf s = P ++ (csN cs ++ R) → rdCs s cs.length P.length L = (L ++ cs, P.length + (csN cs).length, 0)
 | [], P, L, _, _ => by
  rw [show ([] : List Ce).length = 0 from rfl, rdCs, List.append_nil]
  rfl
 | c :: t, P, L, ho, h => by
  rw [List.all_cons, Bool.and_eq_true] at ho
  have hz := okC_sz ho.1
  rw [csN_cons] at h
  have h1 : natsOf s = P ++ (tN c.f0 ++ (tN c.f1 ++ (csN t ++ R))) := by rw [h]; simp
  have h2 : natsOf s = (P ++ tN c.f0) ++ (tN c.f1 ++ (csN t ++ R)) := by rw [h]; simp
  have h3 : natsOf s = ((P ++ tN c.f0) ++ tN c.f1) ++ (csN t ++ R) := by rw [h]; simp
  have r1 := rT_ok (most := 320) h1 (by omega) (by omega)
  have r2 := rT_ok (most := 320) h2 (by omega) (by omega)
  have e1 : (P ++ tN c.f0).length = P.length + (tN c.f0).length := List.length_append
  have e2 : ((P ++ tN c.f0) ++ tN c.f1).length = (P ++ tN c.f0).length + (tN c.f1).length := List.length_append
  have ih := rdCs_enc s R t _ (L ++ [c]) ho.2 h3
  have ec : (⟨c.f0, c.f1⟩ : Ce) = c := rfl
  have e320 : (320 : Int) = ((320 : Nat) : Int) := rfl
  rw [List.length_cons, rdCs, e320, r1]
  dsimp only
  rw [← e1, r2]
  dsimp only
  rw [if_pos rfl, ← e2, ec, ih, e2, e1, csN_cons, List.length_append, List.length_append, List.append_assoc]
  congr 2
  omega
def ksN (ks : List ByteArray) (l : List Int) : List Nat := (encKs ks l).map Int.toNat
theorem ksN_cons (k : ByteArray) (t : List ByteArray) (x : Int) (l : List Int) : ksN (k :: t) (x :: l) = tN k ++ (beN 4 x.toNat ++ ksN t l) := by
 unfold ksN beN
 rw [encKs, List.map_append, List.map_append, txL_nat]
theorem rdKs_enc (s : ByteArray) (R : List Nat) : ∀ (ks : List ByteArray) (l : List Int) (P : List Nat) (K : List ByteArray) (D : List Int), ks.all okK = true → (∀ x ∈ l, 0 ≤ x ∧ x < 4294967296) → l.length = ks.length → natsOf s = P ++ (ksN ks l ++ R) → rdKs s ks.length P.length K D = (K ++ ks, D ++ l, P.length + (ksN ks l).length, 0)
 | [], [], P, K, D, _, _, _, _ => by
  rw [show ([] : List ByteArray).length = 0 from rfl, rdKs, List.append_nil, List.append_nil]
  rfl
 | [], x :: l, P, K, D, _, _, hl, _ => by simp at hl
 | k :: t, [], P, K, D, _, _, hl, _ => by simp at hl
 | k :: t, x :: l, P, K, D, ho, hd, hl, h => by
  rw [List.all_cons, Bool.and_eq_true] at ho
  have hz := okK_sz ho.1
  have hx := hd x List.mem_cons_self
  rw [ksN_cons] at h
  have h1 : natsOf s = P ++ (tN k ++ (beN 4 x.toNat ++ (ksN t l ++ R))) := by rw [h]; simp
  have h2 : natsOf s = (P ++ tN k) ++ (beN 4 x.toNat ++ (ksN t l ++ R)) := by rw [h]; simp
  have h3 : natsOf s = ((P ++ tN k) ++ beN 4 x.toNat) ++ (ksN t l ++ R) := by rw [h]; simp
  have r1 := rT_ok (most := 320) h1 (by omega) (by omega)
  have hxn : x.toNat < 4294967296 := by omega
  have r2 := rF_ok (n := 4) h2 (lt256 hxn)
  have e1 : (P ++ tN k).length = P.length + (tN k).length := List.length_append
  have e2 : ((P ++ tN k) ++ beN 4 x.toNat).length = (P ++ tN k).length + 4 := by rw [List.length_append, beN_len]
  have ih := rdKs_enc s R t l _ (K ++ [k]) (D ++ [x]) ho.2 (fun z hz => hd z (List.mem_cons_of_mem _ hz)) (by simpa using hl) h3
  have e320 : (320 : Int) = ((320 : Nat) : Int) := rfl
  have ex : ((x.toNat : Nat) : Int) % 4294967296 = x := by omega
  rw [List.length_cons, rdKs, e320, r1]
  dsimp only
  rw [← e1, r2]
  dsimp only
  rw [if_pos rfl, ← e2, ex, ih, e2, e1, ksN_cons, List.length_append, List.length_append, beN_len, List.append_assoc, List.append_assoc]
  congr 3
  omega
theorem uvN_len (n : Nat) (h : n < 16384) : (uvN 10 n).length = if n < 128 then 1 else 2 := by
 rw [uvN_succ]
 by_cases h1 : n < 128
 ·rw [if_pos h1, if_pos h1]; rfl
 ·rw [if_neg h1, if_neg h1, uvN_succ, if_pos (by omega)]; rfl
theorem tN_len (x : ByteArray) (h : x.size ≤ 320) : (tN x).length = txN x := by
 unfold tN txN
 rw [List.length_append, natsOf_len, uvN_len _ (by omega), Nat.add_comm]
theorem csN_len : ∀ cs : List Ce, cs.all okC = true → (csN cs).length = sumC cs
 | [], _ => rfl
 | c :: t, h => by
  rw [List.all_cons, Bool.and_eq_true] at h
  have hz := okC_sz h.1
  rw [csN_cons, List.length_append, List.length_append, tN_len _ (by omega), tN_len _ (by omega), csN_len t h.2, sumC]
  unfold clN
  omega
theorem ksN_len : ∀ (ks : List ByteArray) (l : List Int), ks.all okK = true → l.length = ks.length → (ksN ks l).length = sumK ks
 | [], [], _, _ => rfl
 | [], x :: l, _, h => by simp at h
 | k :: t, [], _, h => by simp at h
 | k :: t, x :: l, h, hl => by
  rw [List.all_cons, Bool.and_eq_true] at h
  have hz := okK_sz h.1
  rw [ksN_cons, List.length_append, List.length_append, tN_len _ (by omega), beN_len, ksN_len t l h.2 (by simpa using hl), sumK]
  omega
def bodyN (b : Bool) (cs : List Ce) (ks : List ByteArray) (kids : List Int) : List Nat :=
 if b = true then [1] ++ (beN 2 cs.length ++ csN cs) else [2] ++ (beN 2 ks.length ++ (beN 4 (kids.getD 0 0).toNat ++ ksN ks (kids.drop 1)))
theorem encCs_bounds : ∀ cs : List Ce, cs.all okC = true → ∀ z ∈ encCs cs, 0 ≤ z ∧ z < 256
 | [], _, z, hz => by cases hz
 | c :: t, h, z, hz => by
  rw [List.all_cons, Bool.and_eq_true] at h
  have hs := okC_sz h.1
  rw [encCs] at hz
  rcases List.mem_append.1 hz with h1 | h1
  ·exact txL_bounds _ (by omega) z h1
  ·rcases List.mem_append.1 h1 with h1 | h1
   ·exact txL_bounds _ (by omega) z h1
   ·exact encCs_bounds t h.2 z h1
theorem encKs_bounds : ∀ (ks : List ByteArray) (l : List Int), ks.all okK = true → ∀ z ∈ encKs ks l, 0 ≤ z ∧ z < 256
 | [], l, _, z, hz => by cases l <;> cases hz
 | k :: t, [], _, z, hz => by cases hz
 | k :: t, x :: l, h, z, hz => by
  rw [List.all_cons, Bool.and_eq_true] at h
  have hs := okK_sz h.1
  rw [encKs] at hz
  rcases List.mem_append.1 hz with h1 | h1
  ·exact txL_bounds _ (by omega) z h1
  ·rcases List.mem_append.1 h1 with h1 | h1
   ·exact be_bounds 4 _ z h1
   ·exact encKs_bounds t l h.2 z h1
theorem body_nat (b : Bool) (cs : List Ce) (ks : List ByteArray) (kids : List Int) (hc : cs.all okC = true) (hk : ks.all okK = true) : natsOf (strOfNums (bodyV b cs ks kids)) = bodyN b cs ks kids := by
 have hb : ∀ z ∈ bodyV b cs ks kids, 0 ≤ z ∧ z < 256 := by
  intro z hz
  unfold bodyV at hz
  cases b with
  | true =>
   rw [if_pos rfl] at hz
   rcases List.mem_append.1 hz with h1 | h1
   ·rcases List.mem_append.1 h1 with h1 | h1
    ·rw [List.mem_singleton.1 h1]; decide
    ·exact be_bounds 2 _ z h1
   ·exact encCs_bounds cs hc z h1
  | false =>
   rw [if_neg (show ¬ (false = true) by decide)] at hz
   rcases List.mem_append.1 hz with h1 | h1
   ·rcases List.mem_append.1 h1 with h1 | h1
    ·rcases List.mem_append.1 h1 with h1 | h1
     ·rw [List.mem_singleton.1 h1]; decide
     ·exact be_bounds 2 _ z h1
    ·exact be_bounds 4 _ z h1
   ·exact encKs_bounds ks _ hk z h1
 rw [natsOf_str _ hb]
 unfold bodyV bodyN
 cases b with
 | true =>
  rw [if_pos rfl, if_pos rfl, List.map_append, List.map_append, List.append_assoc]
  rfl
 | false =>
  rw [if_neg (show ¬ (false = true) by decide), if_neg (show ¬ (false = true) by decide), List.map_append, List.map_append, List.map_append, List.append_assoc, List.append_assoc]
  rfl
theorem body_len (b : Bool) (cs : List Ce) (ks : List ByteArray) (kids : List Int) (hc : cs.all okC = true) (hk : ks.all okK = true) (hkl : b = false → kids.length = ks.length + 1) : (bodyN b cs ks kids).length = lngV b cs ks := by
 unfold bodyN lngV
 cases b with
 | true =>
  rw [if_pos rfl, if_pos rfl, List.length_append, List.length_append, beN_len, csN_len cs hc, List.length_singleton]
  omega
 | false =>
  rw [if_neg (show ¬ (false = true) by decide), if_neg (show ¬ (false = true) by decide), List.length_append, List.length_append, List.length_append, beN_len, beN_len, ksN_len ks _ hk (by rw [List.length_drop, hkl rfl]; rfl), List.length_singleton]
  omega
theorem shp_leaf {cs : List Ce} {ks : List ByteArray} {kids : List Int} (h : shpV true cs ks kids = true) : ks = [] ∧ kids = [] := by
 unfold shpV at h
 rw [if_pos rfl, Bool.and_eq_true] at h
 exact ⟨List.isEmpty_iff.1 h.1, List.isEmpty_iff.1 h.2⟩
theorem shp_branch {cs : List Ce} {ks : List ByteArray} {kids : List Int} (h : shpV false cs ks kids = true) : cs = [] ∧ kids.length = ks.length + 1 := by
 unfold shpV at h
 rw [if_neg (show ¬ (false = true) by decide), Bool.and_eq_true, Bool.and_eq_true, decide_eq_true_eq] at h
 exact ⟨List.isEmpty_iff.1 h.2.1, h.2.2⟩
theorem beN_one (v : Nat) (h : v < 256) : beN 1 v = [v] := by
 have e : beN (0 + 1) v = beN 0 (v / 256) ++ [v % 256] := beN_succ 0 v
 rw [show (1 : Nat) = 0 + 1 from rfl, e, Nat.mod_eq_of_lt h]
 rfl
/-- There: what Encode tells, Decode reads. -/
theorem dec_enc (b : Bool) (cs : List Ce) (ks : List ByteArray) (kids : List Int) (hd : ∀ x ∈ kids, 0 ≤ x ∧ x < 4294967296) (h : chkV b cs ks kids = 0) (hl : lngV b cs ks ≤ 996) : decV (strOfNums (bodyV b cs ks kids)) = ((b, cs, ks, kids), 0) := by
 obtain ⟨f1, f2, f3, f4, f5⟩ := chk_facts h
 have hn := body_nat b cs ks kids f2 f3
 have hkl : b = false → kids.length = ks.length + 1 := by
  rintro rfl
  exact (shp_branch f1).2
 have hsz : (strOfNums (bodyV b cs ks kids)).size = lngV b cs ks := by rw [← natsOf_len, hn, body_len b cs ks kids f2 f3 hkl]
 generalize strOfNums (bodyV b cs ks kids) = s at hn hsz
 have hend : ∀ p, p = s.size → dcEnd s p 0 b cs ks kids = ((b, cs, ks, kids), 0) := by
  intro p hp
  have he : endE s p 0 = 0 := by
   unfold endE
   rw [if_pos rfl, if_neg (by omega)]
  unfold dcEnd
  rw [if_pos he, if_neg (by omega), if_pos h]
 have hb2 : (256 : Nat) ^ 2 = 65536 := by decide
 have hb1 : (256 : Nat) ^ 1 = 256 := by decide
 cases b with
 | true =>
  obtain ⟨rfl, rfl⟩ := shp_leaf f1
  have hcl := cs_len cs
  have hlv : lngV true cs [] = 3 + sumC cs := rfl
  unfold bodyN at hn
  rw [if_pos rfl] at hn
  have h1 : natsOf s = [] ++ (beN 1 1 ++ (beN 2 cs.length ++ csN cs)) := by rw [hn, beN_one 1 (by decide)]; rfl
  have h2 : natsOf s = [1] ++ (beN 2 cs.length ++ (csN cs ++ [])) := by rw [hn, List.append_nil]
  have h3 : natsOf s = ([1] ++ beN 2 cs.length) ++ (csN cs ++ []) := by rw [h2]; simp
  have r1 := rF_ok (n := 1) h1 (by rw [hb1]; decide)
  have r2 := rF_ok (n := 2) h2 (by rw [hb2]; omega)
  have r3 := rdCs_enc s [] cs _ [] f2 h3
  have e3 : ([1] ++ beN 2 cs.length).length = 3 := by rw [List.length_append, beN_len]; rfl
  rw [e3] at r3
  unfold decV
  rw [show (0 : Nat) = ([] : List Nat).length from rfl, r1]
  dsimp only
  rw [show ([] : List Nat).length + 1 = ([1] : List Nat).length from rfl, r2]
  dsimp only
  rw [if_pos (by decide), if_pos rfl, show ([1] : List Nat).length + 2 = 3 from rfl, r3]
  dsimp only
  rw [List.nil_append]
  exact hend _ (by rw [hsz, hlv, csN_len cs f2])
 | false =>
  obtain ⟨rfl, hkl⟩ := shp_branch f1
  have hksl := ks_len ks
  have hlv : lngV false [] ks = 7 + sumK ks := rfl
  cases kids with
  | nil => simp at hkl
  | cons x l =>
   have hx := hd x List.mem_cons_self
   have hxn : x.toNat < 4294967296 := by omega
   have hll : l.length = ks.length := by simpa using hkl
   unfold bodyN at hn
   rw [if_neg (show ¬ (false = true) by decide)] at hn
   change natsOf s = [2] ++ (beN 2 ks.length ++ (beN 4 x.toNat ++ ksN ks l)) at hn
   have h1 : natsOf s = [] ++ (beN 1 2 ++ (beN 2 ks.length ++ (beN 4 x.toNat ++ ksN ks l))) := by rw [hn, beN_one 2 (by decide)]; rfl
   have h2 : natsOf s = [2] ++ (beN 2 ks.length ++ (beN 4 x.toNat ++ ksN ks l)) := hn
   have h3 : natsOf s = ([2] ++ beN 2 ks.length) ++ (beN 4 x.toNat ++ ksN ks l) := by rw [hn]; simp
   have h4 : natsOf s = ([2] ++ beN 2 ks.length ++ beN 4 x.toNat) ++ (ksN ks l ++ []) := by rw [hn]; simp
   have r1 := rF_ok (n := 1) h1 (by rw [hb1]; decide)
   have r2 := rF_ok (n := 2) h2 (by rw [hb2]; omega)
   have r3 := rF_ok (n := 4) h3 (lt256 hxn)
   have r4 := rdKs_enc s [] ks l _ [] [x] f3 (fun z hz => hd z (List.mem_cons_of_mem _ hz)) hll h4
   have e3 : ([2] ++ beN 2 ks.length).length = 3 := by rw [List.length_append, beN_len]; rfl
   have e4 : ([2] ++ beN 2 ks.length ++ beN 4 x.toNat).length = 7 := by rw [List.length_append, e3, beN_len]
   rw [e3] at r3
   rw [e4] at r4
   have ex : ((x.toNat : Nat) : Int) % 4294967296 = x := by omega
   unfold decV
   rw [show (0 : Nat) = ([] : List Nat).length from rfl, r1]
   dsimp only
   rw [show ([] : List Nat).length + 1 = ([2] : List Nat).length from rfl, r2]
   dsimp only
   rw [if_neg (by decide), if_pos (by decide), show ([2] : List Nat).length + 2 = 3 from rfl, r3]
   dsimp only
   rw [if_pos rfl, ex, show (3 : Nat) + 4 = 7 from rfl, r4]
   dsimp only
   rw [List.nil_append]
   exact hend _ (by rw [hsz, hlv, ksN_len ks l f3 hll])
end Go.Proofs.Ytdjjpgdhnoibkaa.My
