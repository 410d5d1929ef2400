/- There and back: the law's walk. -/
import Derived.Test.YtjfhdnknaphjaaaPgW
namespace Go.Proofs.Ytjfhdnknaphjaaa.My
open Go.RowKit Go.Proofs.Ytjfhdnknaphjaaa.PG Go.Proofs.YtjfhdnknaphjaaaW.PrintWords Go.Proofs.Ytjfhdnknaphjaaa
theorem Back_j0 (k : Nat) (l : List Int) (n : Nat) (hl : Bytes l) (hn : n < 4294967296) : concordlaw05_PageBack.j0 (k + 1) l n = some true := by
  rw [concordlaw05_PageBack.j0]
  rw [Decode_f _ _ hl hn]
  simp only [Option.bind_some]
  unfold decL
  split
  · (dsimp only; rw [if_neg (by decide)]; decide +kernel)
  · split
    · (dsimp only; rw [if_neg (by decide)]; decide +kernel)
    · split
      · (dsimp only; rw [if_neg (by decide)]; decide +kernel)
      · split
        · rename_i h1 h2 h3 h4
          obtain ⟨hs, he⟩ := of_decide_eq_true h4
          have hkd : kindOf l < 256 := by
            unfold kindOf
            by_cases hlen : 8 < l.length
            · have := hl _ (List.getElem_mem hlen)
              rw [List.getD_eq_getElem?_getD, List.getElem?_eq_getElem hlen, Option.getD_some]; omega
            · rw [List.getD_eq_getElem?_getD, List.getElem?_eq_none (by omega)]; decide
          have hbody : (bodyOf l).size ≤ 996 := by
            unfold bodyOf
            rw [bytesN_strOf, List.length_drop, List.length_take]; omega
          rw [if_pos rfl, Encode_f _ _ _ _ hkd hn hs hbody]
          simp only [Option.bind_some]
          rw [if_pos (by trivial), he, if_pos rfl, if_pos (by trivial), may_ok _ _ _ _ hs hbody]
          rfl
        · (dsimp only; rw [if_neg (by decide)]; decide +kernel)
theorem PageBack_pure (a0 a1 a2 : Nat) (s : ByteArray) (l : List Int) (n : Nat) (h0 : a0 < 256) (h1 : a1 < 4294967296) (hl : Bytes l) (hn : n < 4294967296) :
    concordlaw05_PageBack.f (3 + 1) a0 a1 a2 s l n = some true := by
  unfold concordlaw05_PageBack.f
  rw [awake_ok]
  simp only [Option.bind_some, if_true]
  have hj := Back_j0 3 l n hl hn
  by_cases h2 : a2 ≤ 4611686018427387904
  · by_cases h3 : s.size ≤ 996
    · have hby := enc_bytes (number := a1) a0 a2 s h3 h0
      have hmod : ∃ m : Nat, ((a1 : Int) + 1) % 4294967296 = m ∧ m < 4294967296 ∧ m ≠ a1 := ⟨(a1 + 1) % 4294967296, by omega, by omega, by omega⟩
      obtain ⟨m, hm, hm2, hm3⟩ := hmod
      rw [Encode_f _ _ _ _ h0 h1 h2 h3, may_ok _ _ _ _ h2 h3]
      simp only [Option.bind_some]
      rw [if_neg (by simp), if_pos (by trivial), Decode_f _ _ hby h1, hm, Decode_f _ _ hby hm2, dec_enc _ _ _ _ h3 h0 h2 h1, dec_other _ _ _ _ _ h3 h0 h2 h1 hm2 hm3]
      simp only [Option.bind_some]
      rw [if_pos (by trivial), if_neg (by simp), if_pos (by trivial), hj]
    · rw [Encode_long _ _ _ _ h0 h1 h2 (by omega), may_not _ _ _ _ (by omega)]
      simp only [Option.bind_some]
      rw [if_neg (by simp), if_neg (by omega), hj]
  · rw [Encode_far _ _ _ _ h0 h1 (by omega), may_not _ _ _ _ (by omega)]
    simp only [Option.bind_some]
    rw [if_neg (by simp), if_neg (by omega), hj]
theorem PageBack_walk (w : World) (a0 : Int) (h0 : (Lit.int .u8 a0).wf = true) (a1 : Int) (h1 : (Lit.int .u32 a1).wf = true) (a2 : Int) (h2 : (Lit.int .u64 a2).wf = true) (s : ByteArray) (_hs : s.size ≤ maxLen)
    (a : Option Addr) (len cap : Nat) (z : List Int) (hr : IsRow .u8 w a len cap z) (_y : len * 1 ≤ 140737488351232) (b : Int) (hb : (Lit.int .u32 b).wf = true) :
    Calls Try.prog 7 #[.agg #[.int .u8 a0, .int .u32 a1, .int .u64 a2, .string s], .slice a len cap, .int .u32 b] w fun e w' => e = .returned (.bool true) ∧ Below w.heap.size w w' := by
  have h0 := wf8 h0
  have h1 := wf32 h1
  have h2 := wf64 h2
  have hb := wf32 hb
  obtain ⟨a0, rfl⟩ := Int.eq_ofNat_of_zero_le h0.1
  obtain ⟨a1, rfl⟩ := Int.eq_ofNat_of_zero_le h1.1
  obtain ⟨a2, rfl⟩ := Int.eq_ofNat_of_zero_le h2.1
  obtain ⟨b, rfl⟩ := Int.eq_ofNat_of_zero_le hb.1
  obtain ⟨l, rfl, hrd, _, hwf, hc⟩ := ReadsInt.ofRowC hr
  exact concordlaw05_PageBack.calls (3 + 1) a0 a1 a2 s a cap l b true w (Kd.C_of_reads (d := (0 : Int)) (h1 := fun _ => rfl) hrd) hc (PageBack_pure a0 a1 a2 s l b (by omega) (by omega) (fun x hx => wf8 (hwf x hx)) (by omega))
end Go.Proofs.Ytjfhdnknaphjaaa.My
