/- What node.Decode answers, as a plain function. -/
import Derived.Test.YtdjjpgdhnoibkaaNdUL
import Derived.Test.YtdjjpgdhnoibkaaPDy2
namespace Go.Proofs.Ytdjjpgdhnoibkaa.My
open Go.RowKit Go.Proofs.YtdjjpgdhnoibkaaW.PrintWords Go.Proofs.YtdjjpgdhnoibkaaW.PrintLast Go.Proofs.YtdjjpgdhnoibkaaW.PrintMore Go.Proofs.Ytdjjpgdhnoibkaa Go.Proofs.Ytdjjpgdhnoibkaa.PZ Go.Proofs.Ytdjjpgdhnoibkaa.PD
set_option linter.unusedSimpArgs false
set_option linter.unusedVariables false
set_option maxRecDepth 100000
set_option maxHeartbeats 1600000
/-- A node's fields. -/
abbrev Nd := Bool × List Ce × List ByteArray × List Int
def rdCs (s : ByteArray) : Nat → Nat → List Ce → List Ce × Nat × Int
 | 0, p, L => (L, p, 0)
 | n + 1, p, L =>
  let a := rT s p 0 320
  let c := rT s a.2.1 a.2.2 320
  if c.2.2 = 0 then rdCs s n c.2.1 (L ++ [⟨a.1, c.1⟩]) else (L, c.2.1, c.2.2)
def rdKs (s : ByteArray) : Nat → Nat → List ByteArray → List Int → List ByteArray × List Int × Nat × Int
 | 0, p, K, D => (K, D, p, 0)
 | n + 1, p, K, D =>
  let a := rT s p 0 320
  let c := rF s a.2.1 a.2.2 4
  if c.2.2 = 0 then rdKs s n c.2.1 (K ++ [a.1]) (D ++ [(c.1 : Int) % 4294967296]) else (K ++ [a.1], D ++ [(c.1 : Int) % 4294967296], c.2.1, c.2.2)
def endE (s : ByteArray) (p : Nat) (e : Int) : Int := if e = 0 then (if p < s.size then 12 else 0) else e
def dcEnd (s : ByteArray) (p : Nat) (e : Int) (b : Bool) (cs : List Ce) (ks : List ByteArray) (kids : List Int) : Nd × Int :=
 if endE s p e = 0 then (if 996 < s.size then ((false, [], [], []), 80) else if chkV b cs ks kids = 0 then ((b, cs, ks, kids), 0) else ((false, [], [], []), 80)) else ((false, [], [], []), 80)
def decV (s : ByteArray) : Nd × Int :=
 let a := rF s 0 0 1
 let m := rF s a.2.1 a.2.2 2
 if a.1 % 256 = 1 then
  (let r := if m.2.2 = 0 then rdCs s m.1 m.2.1 [] else ([], m.2.1, m.2.2)
  dcEnd s r.2.1 r.2.2 true r.1 [] [])
 else if a.1 % 256 = 2 then
  (let f := rF s m.2.1 m.2.2 4
  let r := if f.2.2 = 0 then rdKs s m.1 f.2.1 [] [(f.1 : Int) % 4294967296] else ([], [(f.1 : Int) % 4294967296], f.2.1, f.2.2)
  dcEnd s r.2.2.1 r.2.2.2 false [] r.1 r.2.1)
 else ((false, [], [], []), 80)
theorem rF_le (s : ByteArray) (p n : Nat) (e : Int) (hp : p ≤ s.size) : (rF s p e n).2.1 ≤ s.size := tk_le s p n e hp
theorem rF_lt (s : ByteArray) (p n : Nat) (e : Int) : (rF s p e n).1 < 256 ^ n := by
 have h1 := tk_size s p n e
 have h2 := hiN_lt (tk s p e n).1 (tk s p e n).1.size (Nat.le_refl _)
 rw [List.take_of_length_le (by rw [natsOf_len]; exact Nat.le_refl _)] at h2
 exact Nat.lt_of_lt_of_le h2 (Nat.pow_le_pow_right (by omega) h1)
theorem rT_le (s : ByteArray) (p most : Nat) (e : Int) (hp : p ≤ s.size) : (rT s p e most).2.1 ≤ s.size := by
 have q1 := rU_le s p e most hp
 unfold rT
 rw [if_neg (by omega), Int.toNat_natCast]
 generalize rU s p e most = A at *
 obtain ⟨v, q, e1⟩ := A
 dsimp only at q1 ⊢
 have := tk_le s q v e1 q1
 split
 ·exact this
 ·exact hp
theorem rT_size (s : ByteArray) (p most : Nat) (e : Int) : (rT s p e most).1.size ≤ most := by
 have m1 := rU_most s p e most
 unfold rT
 rw [if_neg (by omega), Int.toNat_natCast]
 generalize rU s p e most = A at *
 obtain ⟨v, q, e1⟩ := A
 dsimp only at m1 ⊢
 have := tk_size s q v e1
 split
 ·exact Nat.le_trans this m1
 ·exact Nat.zero_le _
theorem tk_zero (s : ByteArray) (p n : Nat) (e : Int) (h : (tk s p e n).2.2.2 ≠ 0) : (tk s p e n).1 = ⟨#[]⟩ := by
 unfold tk at h ⊢
 split at h
 ·rename_i h0
  rw [if_pos h0]
  split at h
  ·exact absurd rfl h
  ·rename_i h9
   rw [if_neg h9]
 ·rename_i h0
  rw [if_neg h0]
theorem rF_bad (s : ByteArray) (p n : Nat) (e : Int) (h : (rF s p e n).2.2 ≠ 0) : (rF s p e n).1 = 0 := by
 unfold rF at h ⊢
 rw [tk_zero s p n e h]
 rfl
theorem vend_f (s : ByteArray) (p : Nat) (e : Int) : wire_Reader_End.f s (p : Int) e = some (endE s p e, s, (p : Int), e) := by
 unfold wire_Reader_End.f endE
 by_cases he : e = 0
 ·subst he
  rw [if_pos rfl, if_pos rfl]
  by_cases h : p < s.size
  ·rw [if_pos (by omega), if_pos h]
  ·rw [if_neg (by omega), if_neg h]
   rfl
 ·rw [if_neg he, if_neg he]
  rfl
theorem dj2_f (s : ByteArray) (p : Nat) (e : Int) (b : Bool) (cs : List Ce) (ks : List ByteArray) (kids : List Int) (hn : NdOk cs ks kids) (k : Nat) (hk : 2 * (cs.length + ks.length) + kids.length + 70 ≤ k) :
  node_Decode.j2 k s s (p : Int) e b cs ks kids = some ((dcEnd s p e b cs ks kids).1.1, (dcEnd s p e b cs ks kids).1.2.1, (dcEnd s p e b cs ks kids).1.2.2.1, (dcEnd s p e b cs ks kids).1.2.2.2, (dcEnd s p e b cs ks kids).2) := by
 obtain ⟨k, rfl⟩ : ∃ j, k = j + 1 := ⟨k - 1, by omega⟩
 rw [node_Decode.j2, vend_f, Option.bind_some]
 unfold dcEnd
 dsimp only
 by_cases he : endE s p e = 0
 ·rw [if_pos he, if_pos he]
  by_cases hs : 996 < s.size
  ·rw [if_pos (by omega), if_pos hs]
  ·rw [if_neg (by omega), if_neg hs, ochk_f b cs ks kids hn k (by omega), Option.bind_some]
   by_cases hc : chkV b cs ks kids = 0
   ·rw [if_pos hc, if_pos hc]
   ·rw [if_neg hc, if_neg hc]
 ·rw [if_neg he, if_neg he]
theorem dl0_f (s : ByteArray) (hs : s.size ≤ 500000000000000) (N : Nat) (hN : N < 65536) : ∀ (n i q k : Nat) (L : List Ce), i + n = N → L.length ≤ i → q ≤ s.size → (∀ c ∈ L, c.f0.size ≤ 320 ∧ c.f1.size ≤ 320) → n + 140000 ≤ k →
  node_Decode.l0 k s (N : Int) (i : Int) s (q : Int) 0 true L = some ((dcEnd s (rdCs s n q L).2.1 (rdCs s n q L).2.2 true (rdCs s n q L).1 [] []).1.1, (dcEnd s (rdCs s n q L).2.1 (rdCs s n q L).2.2 true (rdCs s n q L).1 [] []).1.2.1, (dcEnd s (rdCs s n q L).2.1 (rdCs s n q L).2.2 true (rdCs s n q L).1 [] []).1.2.2.1, (dcEnd s (rdCs s n q L).2.1 (rdCs s n q L).2.2 true (rdCs s n q L).1 [] []).1.2.2.2, (dcEnd s (rdCs s n q L).2.1 (rdCs s n q L).2.2 true (rdCs s n q L).1 [] []).2)
 | 0, i, q, k, L, hi, hL, hq, hw, hk => by
  obtain ⟨k, rfl⟩ : ∃ j, k = j + 1 := ⟨k - 1, by omega⟩
  rw [node_Decode.l0, if_neg (by omega), rdCs]
  exact dj2_f s q 0 true L [] [] ⟨⟨by omega, by decide, by decide⟩, fun c hc => by have := hw c hc; omega, fun x hx => by cases hx⟩ k (by simp; omega)
 | n + 1, i, q, k, L, hi, hL, hq, hw, hk => by
  obtain ⟨k, rfl⟩ : ∃ j, k = j + 1 := ⟨k - 1, by omega⟩
  have q1 := rT_le s q 320 0 hq
  have z1 := rT_size s q 320 0
  have f1 := vtext_f s q 320 0 hq hs (by omega) k (by omega)
  rw [node_Decode.l0, if_pos (by omega), show (320 : Int) = ((320 : Nat) : Int) from rfl, f1, Option.bind_some, rdCs]
  change (rT s q 0 ((320 : Nat) : Int)).2.1 ≤ s.size at q1
  rw [show (320 : Int) = ((320 : Nat) : Int) from rfl]
  generalize rT s q 0 ((320 : Nat) : Int) = A at *
  obtain ⟨xa, qa, ea⟩ := A
  dsimp only at q1 z1 ⊢
  have q2 := rT_le s qa 320 ea q1
  have z2 := rT_size s qa 320 ea
  have f2 := vtext_f s qa 320 ea q1 hs (by omega) k (by omega)
  rw [f2, Option.bind_some]
  generalize rT s qa ea ((320 : Nat) : Int) = C at *
  obtain ⟨xc, qc, ec⟩ := C
  dsimp only at q2 z2 ⊢
  show (if ec = 0 then _ else _) = _
  by_cases hec : ec = 0
  ·subst hec
   rw [if_pos rfl, if_pos rfl, if_pos (by omega), w64S i (by omega)]
   exact dl0_f s hs N hN n (i + 1) qc k _ (by omega) (by rw [List.length_append, List.length_singleton]; omega) q2 (fun c hc => by
    rcases List.mem_append.1 hc with h | h
    ·exact hw c h
    ·rw [List.mem_singleton.1 h]
     exact ⟨z1, z2⟩) (by omega)
  ·rw [if_neg hec, if_neg hec]
   exact dj2_f s qc ec true L [] [] ⟨⟨by omega, by decide, by decide⟩, fun c hc => by have := hw c hc; omega, fun x hx => by cases hx⟩ k (by simp; omega)
theorem dl1_f (s : ByteArray) (hs : s.size ≤ 500000000000000) (N : Nat) (hN : N < 65536) : ∀ (n i q k : Nat) (K : List ByteArray) (D : List Int), i + n = N → K.length ≤ i → D.length ≤ i + 1 → q ≤ s.size → (∀ c ∈ K, c.size ≤ 320) → n + 300000 ≤ k →
  node_Decode.l1 k s (N : Int) (i : Int) s (q : Int) 0 false K D = some ((dcEnd s (rdKs s n q K D).2.2.1 (rdKs s n q K D).2.2.2 false [] (rdKs s n q K D).1 (rdKs s n q K D).2.1).1.1, (dcEnd s (rdKs s n q K D).2.2.1 (rdKs s n q K D).2.2.2 false [] (rdKs s n q K D).1 (rdKs s n q K D).2.1).1.2.1, (dcEnd s (rdKs s n q K D).2.2.1 (rdKs s n q K D).2.2.2 false [] (rdKs s n q K D).1 (rdKs s n q K D).2.1).1.2.2.1, (dcEnd s (rdKs s n q K D).2.2.1 (rdKs s n q K D).2.2.2 false [] (rdKs s n q K D).1 (rdKs s n q K D).2.1).1.2.2.2, (dcEnd s (rdKs s n q K D).2.2.1 (rdKs s n q K D).2.2.2 false [] (rdKs s n q K D).1 (rdKs s n q K D).2.1).2)
 | 0, i, q, k, K, D, hi, hL, hD, hq, hw, hk => by
  obtain ⟨k, rfl⟩ : ∃ j, k = j + 1 := ⟨k - 1, by omega⟩
  rw [node_Decode.l1, if_neg (by omega), rdKs]
  exact dj2_f s q 0 false [] K D ⟨⟨by decide, by omega, by omega⟩, (fun x hx => by cases hx), (fun c hc => by have := hw c hc; omega)⟩ k (by simp; omega)
 | n + 1, i, q, k, K, D, hi, hL, hD, hq, hw, hk => by
  obtain ⟨k, rfl⟩ : ∃ j, k = j + 1 := ⟨k - 1, by omega⟩
  have q1 := rT_le s q 320 0 hq
  have z1 := rT_size s q 320 0
  have f1 := vtext_f s q 320 0 hq hs (by omega) k (by omega)
  rw [node_Decode.l1, if_pos (by omega), show (320 : Int) = ((320 : Nat) : Int) from rfl, f1, Option.bind_some, rdKs]
  rw [show (320 : Int) = ((320 : Nat) : Int) from rfl]
  generalize rT s q 0 ((320 : Nat) : Int) = A at *
  obtain ⟨xa, qa, ea⟩ := A
  dsimp only at q1 z1 ⊢
  have q2 := rF_le s qa 4 ea q1
  have f2 := vfixed_f s qa 4 ea (by omega) (by omega) q1 hs k (by omega)
  rw [if_pos (by omega), Option.bind_some, show (4 : Int) = ((4 : Nat) : Int) from rfl, f2, Option.bind_some]
  generalize rF s qa ea 4 = C at *
  obtain ⟨nc, qc, ec⟩ := C
  dsimp only at q2 ⊢
  have hw2 : ∀ c ∈ K ++ [xa], c.size ≤ 320 := fun c hc => by
   rcases List.mem_append.1 hc with h | h
   ·exact hw c h
   ·rw [List.mem_singleton.1 h]
    exact z1
  have hK2 : (K ++ [xa]).length ≤ i + 1 := by rw [List.length_append, List.length_singleton]; omega
  have hD2 : (D ++ [(nc : Int) % 4294967296]).length ≤ i + 2 := by rw [List.length_append, List.length_singleton]; omega
  rw [if_pos (by omega), Option.bind_some]
  show (if ec = 0 then _ else _) = _
  by_cases hec : ec = 0
  ·subst hec
   rw [if_pos rfl, if_pos rfl, w64S i (by omega)]
   exact dl1_f s hs N hN n (i + 1) qc k _ _ (by omega) hK2 hD2 q2 hw2 (by omega)
  ·rw [if_neg hec, if_neg hec]
   exact dj2_f s qc ec false [] _ _ ⟨⟨by decide, by omega, by omega⟩, (fun x hx => by cases hx), (fun c hc => by have := hw2 c hc; omega)⟩ k (by simp; omega)
theorem dcEnd_bad (s : ByteArray) (p : Nat) (e : Int) (he : e ≠ 0) (b : Bool) (cs : List Ce) (ks : List ByteArray) (kids : List Int) : dcEnd s p e b cs ks kids = ((false, [], [], []), 80) := by
 unfold dcEnd endE
 rw [if_neg he, if_neg he]
theorem rT_err (s : ByteArray) (p most : Nat) (e : Int) (he : e ≠ 0) : rT s p e most = (⟨#[]⟩, p, e) := by
 unfold rT
 rw [if_neg (by omega), rU_err s p _ he]
 dsimp only
 rw [tk_err _ he]
 dsimp only
 rw [if_neg (show ¬ (false = true) by decide)]
theorem rF_err (s : ByteArray) (p n : Nat) (e : Int) (he : e ≠ 0) : rF s p e n = (0, p, e) := by
 unfold rF
 rw [tk_err _ he]
 rfl
theorem nd_nil (K : List ByteArray) (D : List Int) (hK : K.length ≤ 2) (hD : D.length ≤ 2) (hw : ∀ c ∈ K, c.size ≤ 320) : NdOk [] K D :=
 ⟨⟨by decide, by omega, by omega⟩, (fun x hx => by cases hx), (fun c hc => by have := hw c hc; omega)⟩
/-- Behind a failure nothing is told. -/
theorem dl1_bad (s : ByteArray) (hs : s.size ≤ 500000000000000) (q : Nat) (hq : q ≤ s.size) (e : Int) (he : e ≠ 0) (N : Nat) (hN : N < 65536) (x : Int) (k : Nat) (hk : 1000 ≤ k) : node_Decode.l1 k s (N : Int) 0 s (q : Int) e false [] [x] = some (false, [], [], [], 80) := by
 obtain ⟨k, rfl⟩ : ∃ j, k = j + 1 := ⟨k - 1, by omega⟩
 rw [node_Decode.l1]
 by_cases hz : N = 0
 ·rw [if_neg (by omega)]
  have h := dj2_f s q e false [] [] [x] (nd_nil _ _ (by decide) (by simp) (fun c hc => by cases hc)) k (by simp; omega)
  rw [dcEnd_bad s q e he] at h
  exact h
 ·have f1 := vtext_f s q 320 e hq hs (by omega) k (by omega)
  have f2 := vfixed_f s q 4 e (by omega) (by omega) hq hs k (by omega)
  have r1 := rT_err s q 320 e he
  have r2 := rF_err s q 4 e he
  rw [r1] at f1
  rw [r2] at f2
  dsimp only at f1 f2
  rw [if_pos (by omega), show (320 : Int) = ((320 : Nat) : Int) from rfl, f1, Option.bind_some]
  dsimp only
  rw [if_pos (by simp), Option.bind_some, show (4 : Int) = ((4 : Nat) : Int) from rfl, f2, Option.bind_some]
  dsimp only
  rw [if_pos (by simp), Option.bind_some]
  show (if e = 0 then _ else _) = _
  rw [if_neg he]
  have h := dj2_f s q e false [] ([] ++ [⟨#[]⟩]) ([x] ++ [((0 : Nat) : Int) % 4294967296]) (nd_nil _ _ (by decide) (by simp) (fun c hc => by
   rw [List.nil_append, List.mem_singleton] at hc
   rw [hc]
   exact Nat.zero_le _)) k (by simp; omega)
  rw [dcEnd_bad s q e he] at h
  exact h
/-- node.Decode. -/
theorem ndec_f (s : ByteArray) (hs : s.size ≤ 500000000000000) (k : Nat) (hk : 400000 ≤ k) : node_Decode.f k s = some ((decV s).1.1, (decV s).1.2.1, (decV s).1.2.2.1, (decV s).1.2.2.2, (decV s).2) := by
 have p0 : (0 : Nat) ≤ s.size := Nat.zero_le _
 have b1 : wire_Reader_Byte.f k s 0 0 = some (((rF s 0 0 1).1 : Int) % 256, s, ((rF s 0 0 1).2.1 : Int), (rF s 0 0 1).2.2) := vbyte_f s 0 0 p0 hs k (by omega)
 have h0 : wire_NewReader.f s = some (s, 0, 0) := rfl
 have q1 := rF_le s 0 1 0 p0
 unfold node_Decode.f decV
 rw [h0, Option.bind_some, b1, Option.bind_some]
 generalize rF s 0 0 1 = A at *
 obtain ⟨na, qa, ea⟩ := A
 dsimp only at q1 ⊢
 have b2 := vfixed_f s qa 2 ea (by omega) (by omega) q1 hs k (by omega)
 have q2 := rF_le s qa 2 ea q1
 have l2 := rF_lt s qa 2 ea
 have z2 := rF_bad s qa 2 ea
 have e2 : (256 : Nat) ^ 2 = 65536 := by decide
 rw [e2] at l2
 rw [show (2 : Int) = ((2 : Nat) : Int) from rfl, b2, Option.bind_some]
 generalize rF s qa ea 2 = M at *
 obtain ⟨m, qm, em⟩ := M
 dsimp only at q2 l2 z2 ⊢
 rw [w64N m (by omega)]
 by_cases h1 : na % 256 = 1
 ·rw [if_pos (by omega), if_pos h1]
  by_cases he : em = 0
  ·subst he
   rw [if_pos rfl]
   as_aux_lemma => exact dl0_f s hs m l2 m 0 qm k [] (by omega) (Nat.le_refl _) q2 (fun c hc => by cases hc) (by omega)
  ·have hm := z2 he
   subst hm
   rw [if_neg he]
   obtain ⟨k, rfl⟩ : ∃ j, k = j + 1 := ⟨k - 1, by omega⟩
   rw [node_Decode.l0, if_neg (by decide)]
   exact dj2_f s qm em true [] [] [] ⟨⟨by decide, by decide, by decide⟩, (fun x hx => by cases hx), (fun x hx => by cases hx)⟩ k (by simp; omega)
 ·rw [if_neg (by omega), if_neg h1]
  by_cases h2 : na % 256 = 2
  ·have b3 := vfixed_f s qm 4 em (by omega) (by omega) q2 hs k (by omega)
   have q3 := rF_le s qm 4 em q2
   rw [if_pos (by omega), if_pos h2, show (4 : Int) = ((4 : Nat) : Int) from rfl, b3, Option.bind_some, if_pos (by decide)]
   have hbad : em ≠ 0 → (rF s qm em 4).2.2 ≠ 0 := by
    intro h
    unfold rF tk
    rw [if_neg h]
    exact h
   generalize rF s qm em 4 = F at *
   obtain ⟨nf, qf, ef⟩ := F
   dsimp only at q3 hbad ⊢
   by_cases he : ef = 0
   ·subst he
    rw [if_pos rfl]
    as_aux_lemma => exact dl1_f s hs m l2 m 0 qf k [] [(nf : Int) % 4294967296] (by omega) (Nat.le_refl _) (Nat.le_refl _) q3 (fun c hc => by cases hc) (by omega)
   ·rw [if_neg he]
    rw [List.nil_append, dcEnd_bad s qf ef he]
    exact dl1_bad s hs qf q3 ef he m l2 _ k (by omega)
  ·rw [if_neg (by omega), if_neg h2]
end Go.Proofs.Ytdjjpgdhnoibkaa.My
