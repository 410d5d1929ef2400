/- What Decode reads, Encode tells again. No program in sight. -/
import Derived.Test.YtdjjpgdhnoibkaaNdBack
namespace Go.Proofs.Ytdjjpgdhnoibkaa.My
open Go.RowKit Go.Proofs.YtdjjpgdhnoibkaaW.PrintWords Go.Proofs.YtdjjpgdhnoibkaaW.PrintLast Go.Proofs.YtdjjpgdhnoibkaaW.PrintMore Go.Proofs.Ytdjjpgdhnoibkaa Go.Proofs.Ytdjjpgdhnoibkaa.PZ
set_option linter.unusedSimpArgs false
set_option linter.unusedVariables false
set_option maxRecDepth 100000
set_option maxHeartbeats 1600000
theorem dcEnd_good {s : ByteArray} {p : Nat} {e : Int} {b : Bool} {cs : List Ce} {ks : List ByteArray} {kids : List Int} {v : Nd} (h : dcEnd s p e b cs ks kids = (v, 0)) : e = 0 ∧ s.size ≤ p ∧ s.size ≤ 996 ∧ chkV b cs ks kids = 0 ∧ v = (b, cs, ks, kids) := by
  unfold dcEnd at h
  by_cases h1 : endE s p e = 0
  · rw [if_pos h1] at h
    by_cases h2 : 996 < s.size
    · rw [if_pos h2] at h
      obtain ⟨_, h⟩ := Prod.mk.inj h
      exact absurd h (by decide)
    · rw [if_neg h2] at h
      by_cases h3 : chkV b cs ks kids = 0
      · rw [if_pos h3] at h
        obtain ⟨h4, _⟩ := Prod.mk.inj h
        unfold endE at h1
        by_cases h5 : e = 0
        · rw [if_pos h5] at h1
          refine ⟨h5, ?_, by omega, h3, h4.symm⟩
          by_cases h6 : p < s.size
          · rw [if_pos h6] at h1
            exact absurd h1 (by decide)
          · omega
        · rw [if_neg h5] at h1
          exact absurd h1 h5
      · rw [if_neg h3] at h
        obtain ⟨_, h⟩ := Prod.mk.inj h
        exact absurd h (by decide)
  · rw [if_neg h1] at h
    obtain ⟨_, h⟩ := Prod.mk.inj h
    exact absurd h (by decide)
theorem seg_all (s : ByteArray) : seg s 0 s.size = natsOf s := by
  unfold seg
  rw [List.drop_zero, List.take_of_length_le (by rw [natsOf_len]; exact Nat.le_refl _)]
theorem byte_one {a : Nat} (h : a < 256 ^ 1) (h1 : ((a : Nat) : Int) % 256 = 1 ∨ a % 256 = 1) : a = 1 := by
  rw [Nat.pow_one] at h
  omega
theorem rF_zero {s : ByteArray} {p n : Nat} {e : Int} (h : (rF s p e n).2.2 = 0) : e = 0 := by
  by_cases he : e = 0
  · exact he
  · rw [rF_err s p n e he] at h
    exact absurd h he
theorem enc_dec (s : ByteArray) (v : Nd) (h : decV s = (v, 0)) : s.size ≤ 996 ∧ chkV v.1 v.2.1 v.2.2.1 v.2.2.2 = 0 ∧ (∀ x ∈ v.2.2.2, 0 ≤ x ∧ x < 4294967296) ∧ bodyN v.1 v.2.1 v.2.2.1 v.2.2.2 = natsOf s := by
  unfold decV at h
  have b1 := rF_back s 0 1 (Nat.zero_le _)
  have l1 := rF_lt s 0 1 0
  have p1 := rF_le s 0 1 0 (Nat.zero_le _)
  generalize rF s 0 0 1 = A at *
  obtain ⟨na, qa, ea⟩ := A
  dsimp only at b1 l1 p1 h
  have p2 := rF_le s qa 2 ea p1
  have z2 : (rF s qa ea 2).2.2 = 0 → ea = 0 := rF_zero
  have b2 := rF_back s qa 2 p1
  generalize hM : rF s qa ea 2 = M at *
  obtain ⟨nm, qm, em⟩ := M
  dsimp only at z2 p2 h
  -- what the head says, if it could be read
  have head : em = 0 → ea = 0 ∧ qa = 1 ∧ qm = 3 ∧ 3 ≤ s.size ∧ beN 1 na = seg s 0 1 ∧ beN 2 nm = seg s 1 2 := by
    intro he
    have ha := z2 he
    subst ha
    rw [hM] at b2
    dsimp only at b2
    obtain ⟨c1, c2, c3⟩ := b1 rfl
    obtain ⟨d1, d2, d3⟩ := b2 he
    have : qa = 1 := by omega
    subst this
    exact ⟨rfl, rfl, by omega, by omega, c3, d3⟩
  have e02 : seg s 0 1 ++ seg s 1 2 = seg s 0 3 := seg_app s 0 1 3 (by decide) (by decide)
  by_cases ha1 : na % 256 = 1
  · rw [if_pos (by first | exact ha1 | omega)] at h
    have hna := byte_one l1 (.inr ha1)
    by_cases hem : em = 0
    · rw [if_pos hem] at h
      obtain ⟨g1, g2, g3, g4, g5, g6⟩ := head hem
      have bk := rdCs_back s nm qm [] 
      generalize hr : rdCs s nm qm [] = r at *
      obtain ⟨L, p, e⟩ := r
      dsimp only at h
      obtain ⟨k1, k2, k3, k4, k5⟩ := dcEnd_good h
      subst k1 k5
      obtain ⟨l, t1, t2, t3, t4, t5⟩ := bk L p p2 rfl
      rw [List.nil_append] at t1
      subst t1
      refine ⟨k3, k4, (fun x hx => by cases hx), ?_⟩
      have hp : p = s.size := by omega
      subst g2 g3 hna
      show (if true = true then [1] ++ (beN 2 L.length ++ csN L) else _) = _
      rw [if_pos rfl, t3, t2, g6, ← beN_one 1 (by decide), g5, ← List.append_assoc, e02]
      have := seg_app s 0 3 p (by decide) t4
      rw [Nat.sub_zero] at this
      rw [this, hp, Nat.sub_zero, seg_all]
    · rw [if_neg hem] at h
      have := (dcEnd_good h).1
      exact absurd this hem
  · rw [if_neg (by first | exact ha1 | omega)] at h
    by_cases ha2 : na % 256 = 2
    · rw [if_pos (by first | exact ha2 | omega)] at h
      have hna : na = 2 := by rw [Nat.pow_one] at l1; omega
      have pf := rF_le s qm 4 em p2
      have lf := rF_lt s qm 4 em
      have zf : (rF s qm em 4).2.2 = 0 → em = 0 := rF_zero
      have bf := rF_back s qm 4 p2
      generalize hF : rF s qm em 4 = F at *
      obtain ⟨nf, qf, ef⟩ := F
      dsimp only at pf lf zf h
      by_cases hef : ef = 0
      · rw [if_pos hef] at h
        have hem := zf hef
        obtain ⟨g1, g2, g3, g4, g5, g6⟩ := head hem
        subst hem
        rw [hF] at bf
        dsimp only at bf
        obtain ⟨f1, f2, f3⟩ := bf hef
        have bk := rdKs_back s nm qf [] [(nf : Int) % 4294967296]
        generalize hr : rdKs s nm qf [] [(nf : Int) % 4294967296] = r at *
        obtain ⟨K, D, p, e⟩ := r
        dsimp only at h
        obtain ⟨k1, k2, k3, k4, k5⟩ := dcEnd_good h
        subst k1 k5
        obtain ⟨k, d, t1, t2, t3, t4, t5, t6, t7, t8⟩ := bk K D p pf rfl
        rw [List.nil_append] at t1
        subst t1 t2
        have e4 : (256 : Nat) ^ 4 = 4294967296 := by decide
        rw [e4] at lf
        have enf : (nf : Int) % 4294967296 = nf := by omega
        refine ⟨k3, k4, ?_, ?_⟩
        · intro x hx
          rcases List.mem_append.1 hx with hx | hx
          · rw [List.mem_singleton.1 hx, enf]
            omega
          · exact t5 x hx
        have hp : p = s.size := by omega
        subst g2 g3 hna f2
        show (if false = true then _ else [2] ++ (beN 2 K.length ++ (beN 4 (((nf : Int) % 4294967296)).toNat ++ ksN K d))) = _
        rw [if_neg (by decide), enf, Int.toNat_natCast, t3, t6, g6, f3, ← beN_one 2 (by decide), g5]
        have s1 : seg s (3 + 4) (p - (3 + 4)) = seg s 7 (p - 7) := rfl
        have s2 : seg s 3 4 = seg s 3 (7 - 3) := rfl
        have s3 := seg_app s 3 7 p (by decide) t7
        have s4 := seg_app s 0 3 p (by decide) (by omega)
        rw [s1, s2, s3, ← List.append_assoc, e02]
        rw [Nat.sub_zero] at s4
        rw [s4, hp, Nat.sub_zero, seg_all]
      · rw [if_neg hef] at h
        have := (dcEnd_good h).1
        exact absurd this hef
    · rw [if_neg (by first | exact ha2 | omega)] at h
      obtain ⟨_, h⟩ := Prod.mk.inj h
      exact absurd h (by decide)
end Go.Proofs.Ytdjjpgdhnoibkaa.My
