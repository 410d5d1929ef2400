/- One byte turned: the law's walk. -/
import Derived.Test.YtjfhdnknaphjaaaPGx5
import Derived.Test.YtjfhdnknaphjaaaPgW
namespace Go.Proofs.Ytjfhdnknaphjaaa.My
open Go.RowKit Go.Proofs.Ytjfhdnknaphjaaa.PG Go.Proofs.YtjfhdnknaphjaaaW.PrintWords Go.Proofs.Ytjfhdnknaphjaaa
theorem at_range (a : Int) : 0 ≤ Int.tmod (wrap64 (Int.tmod a 1024 + 1024)) 1024 ∧ Int.tmod (wrap64 (Int.tmod a 1024 + 1024)) 1024 < 1024 := by
  have h1 : -1024 < Int.tmod a 1024 ∧ Int.tmod a 1024 < 1024 := by
    refine ⟨?_, Int.tmod_lt_of_pos _ (by omega)⟩
    by_cases h : 0 ≤ a
    · have := Int.tmod_nonneg 1024 h; omega
    · have h2 := Int.neg_tmod (-a) 1024
      rw [Int.neg_neg] at h2
      have := Int.tmod_lt_of_pos (-a) (b := 1024) (by omega)
      omega
  have h3 : wrap64 (Int.tmod a 1024 + 1024) = Int.tmod a 1024 + 1024 := by
    unfold wrap64
    omega
  rw [h3]
  exact ⟨Int.tmod_nonneg _ (by omega), Int.tmod_lt_of_pos _ (by omega)⟩
theorem PageTurns_pure (a0 a1 a2 : Nat) (s : ByteArray) (b1 : Int) (b2 b3 : Nat) (h0 : a0 < 256) (h1 : a1 < 4294967296) (hb2 : b2 < 256) (hb3 : b3 < 4294967296) :
    concordlaw05_PageTurns.f (3 + 1 + 1) a0 a1 a2 s b1 b2 b3 = some true := by
  unfold concordlaw05_PageTurns.f
  rw [awake_ok]
  simp only [Option.bind_some, if_true]
  by_cases hm : a2 ≤ 4611686018427387904 ∧ s.size ≤ 996
  · rw [may_ok _ _ _ _ hm.1 hm.2]
    simp only [Option.bind_some, if_true]
    rw [concordlaw05_PageTurns.j0]
    by_cases hz : b2 = 0
    · rw [if_pos (by subst hz; rfl)]
    · rw [if_neg (by simpa using hz), Encode_f _ _ _ _ h0 h1 hm.1 hm.2]
      simp only [Option.bind_some, if_true]
      rw [concordlaw05_PageTurns.j1]
      have hl := encL_len (number := a1) a0 a2 s hm.2
      rw [if_neg (by rw [hl]; decide)]
      obtain ⟨r1, r2⟩ := at_range b1
      obtain ⟨i, hi⟩ := Int.eq_ofNat_of_zero_le r1
      rw [hi] at r2 ⊢
      have hi' : i < 1024 := by omega
      rw [if_pos (by omega), if_pos (by rw [hl]; exact r2)]
      simp only [Option.bind_some, Int.toNat_natCast]
      have hby := enc_bytes (number := a1) a0 a2 s hm.2 h0
      obtain ⟨l, hle⟩ : ∃ l, l = encL a0 a1 a2 s := ⟨_, rfl⟩
      have hil : i < l.length := by rw [hle, hl]; exact hi'
      have hrd : rd l i = l[i] := by unfold rd; rw [Int.toNat_natCast, List.getD_eq_getElem?_getD, List.getElem?_eq_getElem hil]; rfl
      have hbi : 0 ≤ l[i] ∧ l[i] < 256 := by rw [← hle] at hby; exact hby _ (List.getElem_mem hil)
      obtain ⟨y, hy⟩ := Int.eq_ofNat_of_zero_le hbi.1
      have hx : Go.bits .xor .u8 (rd l i) b2 = ((y ^^^ b2 : Nat) : Int) := by rw [hrd, hy]; exact u8_xor_nat y b2 (by omega) hb2
      have hxl : y ^^^ b2 < 256 := Nat.xor_lt_two_pow (n := 8) (by omega) (by omega)
      have hne : ((y ^^^ b2 : Nat) : Int) ≠ l[i] := by
        rw [hy]; intro h
        have h' : y ^^^ b2 = y ^^^ 0 := by rw [Nat.xor_zero]; omega
        exact hz (Crc.xor_lc h')
      rw [← hle, hx]
      have hset : Bytes (l.set i ((y ^^^ b2 : Nat) : Int)) := by
        intro z hz'
        rcases List.mem_or_eq_of_mem_set hz' with h | rfl
        · rw [← hle] at hby; exact hby z h
        · omega
      have hd : ∀ n, decL (l.set i ((y ^^^ b2 : Nat) : Int)) n = (0, 0, 0, ⟨#[]⟩, 50) := by
        intro n
        rw [hle]
        refine dec_turned _ _ _ _ _ hm.2 h0 i hi' _ (by omega) ?_
        intro z hz'
        rw [← hle, List.getElem?_eq_getElem hil] at hz'
        obtain rfl := Option.some.inj hz'
        exact hne
      rw [Decode_f _ _ hset h1, Decode_f _ _ hset hb3, hd, hd]
      rfl
  · rw [may_not _ _ _ _ hm]
    simp only [Option.bind_some]
    rw [if_neg (by simp)]
    rw [concordlaw05_PageTurns.j0]
    rw [if_pos rfl]
theorem PageTurns_walk (w : World) (a0 : Int) (h0 : (Lit.int .u8 a0).wf = true) (a1 : Int) (h1 : (Lit.int .u32 a1).wf = true) (a2 : Int) (h2 : (Lit.int .u64 a2).wf = true) (s : ByteArray) (_hs : s.size ≤ maxLen)
    (b1 : Int) (_hb1 : (Lit.int .i64 b1).wf = true) (b2 : Int) (hb2 : (Lit.int .u8 b2).wf = true) (b3 : Int) (hb3 : (Lit.int .u32 b3).wf = true) :
    Calls Try.prog 8 #[.agg #[.int .u8 a0, .int .u32 a1, .int .u64 a2, .string s], .int .i64 b1, .int .u8 b2, .int .u32 b3] w fun e w' => e = .returned (.bool true) ∧ Below w.heap.size w w' := by
  have h0 := wf8 h0
  have h1 := wf32 h1
  have h2 := wf64 h2
  have hb2 := wf8 hb2
  have hb3 := wf32 hb3
  obtain ⟨a0, rfl⟩ := Int.eq_ofNat_of_zero_le h0.1
  obtain ⟨a1, rfl⟩ := Int.eq_ofNat_of_zero_le h1.1
  obtain ⟨a2, rfl⟩ := Int.eq_ofNat_of_zero_le h2.1
  obtain ⟨b2, rfl⟩ := Int.eq_ofNat_of_zero_le hb2.1
  obtain ⟨b3, rfl⟩ := Int.eq_ofNat_of_zero_le hb3.1
  exact concordlaw05_PageTurns.calls (3 + 1 + 1) a0 a1 a2 s b1 b2 b3 true w (PageTurns_pure a0 a1 a2 s b1 b2 b3 (by omega) (by omega) (by omega) (by omega))
end Go.Proofs.Ytjfhdnknaphjaaa.My
