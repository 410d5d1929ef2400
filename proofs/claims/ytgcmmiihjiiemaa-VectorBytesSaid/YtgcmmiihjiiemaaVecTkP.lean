/- What the program's Reader, Take and Decode answer, as plain functions. -/
import Derived.Test.YtgcmmiihjiiemaaVecUL
import Derived.Test.YtgcmmiihjiiemaaPFy1
namespace Go.Proofs.Ytgcmmiihjiiemaa.My
open Go.RowKit Go.Proofs.YtgcmmiihjiiemaaW.PrintWords Go.Proofs.YtgcmmiihjiiemaaW.PrintLast Go.Proofs.YtgcmmiihjiiemaaW.PrintMore Go.Proofs.Ytgcmmiihjiiemaa Go.Proofs.Ytgcmmiihjiiemaa.PVectorMax Go.Proofs.Ytgcmmiihjiiemaa.PF
set_option linter.unusedSimpArgs false
set_option linter.unusedVariables false
set_option maxRecDepth 100000
set_option maxHeartbeats 1600000
theorem w64N (x : Nat) (h : x < 9000000000000000000) : wrap64 (x : Int) = x := by unfold wrap64; omega
theorem w64A (p n : Nat) (h : p + n < 9000000000000000000) : wrap64 ((p : Int) + (n : Int)) = ((p + n : Nat) : Int) := by rw [← Int.natCast_add, w64N _ h]
theorem w64A1 (n : Nat) (h : n < 1000000) : wrap64 ((n : Int) + 1) = ((n + 1 : Nat) : Int) := w64A n 1 (by omega)
theorem w64M (n : Nat) (h : n < 1000000) : wrap64 (7 * (n : Int)) = ((7 * n : Nat) : Int) := by rw [show (7 * (n : Int)) = ((7 * n : Nat) : Int) by omega, w64N _ (by omega)]
theorem vU_l0 (s : ByteArray) (p most : Nat) (hp : p ≤ s.size) (hs : s.size ≤ 500000000000000) (hm : most < 18446744073709551616) : ∀ (m n x k : Nat), n + m = 10 → x < 128 ^ n → p + n ≤ s.size → 2 * m + 2 ≤ k →
    wire_Reader_Uint.l0 k (most : Int) (x : Int) (n : Int) s (p : Int) 0 = some (((uL most m n x ((natsOf s).drop (p + n))).2.1 : Int), s, ((p + (uL most m n x ((natsOf s).drop (p + n))).2.2 : Nat) : Int), (uL most m n x ((natsOf s).drop (p + n))).1)
  | 0, n, x, k, hn, hx, hpn, hk => by
    obtain ⟨k, rfl⟩ : ∃ j, k = j + 2 := ⟨k - 2, by omega⟩
    rw [wire_Reader_Uint.l0, if_neg (by omega), uL]
    rfl
  | m + 1, n, x, k, hn, hx, hpn, hk => by
    have HX := Aside0.mk hx
    clear hx
    obtain ⟨k, rfl⟩ : ∃ j, k = j + 2 := ⟨k - 2, by omega⟩
    have hn11 : n < 11 := by omega
    have hp9 : p + n < 900000000000000 := by omega
    have hn9 : n < 10 := by omega
    have hk2 : 2 * m + 2 ≤ k := by omega
    have hnm : n + 1 + m = 10 := by omega
    have hn9i : (n : Int) < 10 := by omega
    have hs2 : s.size < 9000000000000000 := by omega
    have e1 : wrap64 ((p : Int) + n) = ((p + n : Nat) : Int) := w64A p n (by omega)
    rw [wire_Reader_Uint.l0, if_pos hn9i, e1]
    by_cases hsz : p + n < s.size
    · have hc8 : (s[p + n]).toNat < 256 := (s[p + n]).toNat_lt
      have hd := natsOf_drop s (p + n) hsz
      have hbt : bt s ((p + n : Nat) : Int) = (((s[p + n]).toNat : Nat) : Int) := by
        have hl : p + n < (natsOf s).length := by rw [natsOf_len]; exact hsz
        rw [bt_nat s (p + n) hsz, List.getD_eq_getElem?_getD, List.getElem?_eq_getElem hl]
        simp [natsOf, ByteArray.getElem_eq_getElem_data]
      rw [if_neg (by omega), if_pos (by omega), if_pos (by omega), hbt, hd]
      clear hbt
      generalize (s[p + n]).toNat = c at hc8 hd ⊢
      have hj : (if (n : Int) = 9 then wire_Reader_Uint.j1 (k + 1) (most : Int) (x : Int) (n : Int) (c : Int) (n : Int) (decide ((c : Int) > 1)) s (p : Int) 0 else wire_Reader_Uint.j1 (k + 1) (most : Int) (x : Int) (n : Int) (c : Int) (n : Int) false s (p : Int) 0) = wire_Reader_Uint.j1 (k + 1) (most : Int) (x : Int) (n : Int) (c : Int) (n : Int) (decide (n = 9 ∧ 1 < c)) s (p : Int) 0 := by
        by_cases h9 : n = 9
        · subst h9
          rw [if_pos (show ((9 : Nat) : Int) = 9 from rfl)]
          congr 1
          simp
          omega
        · rw [if_neg (by omega)]
          congr 1
          simp [h9]
      rw [hj, wire_Reader_Uint.j1, uL]
      by_cases h9 : n = 9 ∧ 1 < c
      · rw [if_pos (by simpa using h9), if_pos h9]
        rfl
      · obtain ⟨hnew, hnew2, hor⟩ := uL_num n x c HX.out hn9 h9
        have e7 := w64M n (Nat.lt_of_lt_of_le hn11 (by decide))
        have ha : IntKind.u64.wrap (Go.bits .and .u8 (c : Int) 127) = (c : Int) % 128 := by
          have h1 := u8_and_nat c 127 (by omega) (by omega)
          rw [and127 c hc8] at h1
          rw [show Go.bits .and .u8 (c : Int) 127 = ((c % 128 : Nat) : Int) from h1, IntKind.wrap_u64]
          omega
        have hsh : shl .u64 ((c : Int) % 128) ((7 * n : Nat) : Int) = IntKind.u64.wrap ((c : Int) % 128 * 2 ^ (7 * n)) := by
          unfold shl
          rw [Int.toNat_natCast, Nat.min_eq_left (by show 7 * n ≤ 64; omega)]
        have ho := hor.out
        have hor2 : Go.bits .or .u64 (x : Int) (shl .u64 (IntKind.u64.wrap (Go.bits .and .u8 (c : Int) 127)) (wrap64 (7 * (n : Int)))) = ((x + c % 128 * 128 ^ n : Nat) : Int) := by rw [e7, ha, hsh]; exact ho
        have e70 : (0 : Int) ≤ ((7 * n : Nat) : Int) := Int.natCast_nonneg _
        rw [if_neg (by simpa using h9), if_neg h9, hor2, e7, if_pos e70]
        clear hor2 e7 e70 hsh ha ho hor hj
        by_cases h128 : 128 ≤ c
        · have en := w64A1 n (Nat.lt_of_lt_of_le hn11 (by decide))
          rw [if_pos (by clear hnew hnew2; omega), if_pos h128, en, vU_l0 s p most hp hs hm m (n + 1) _ k hnm hnew hsz hk2]
          rfl
        · have en := w64A1 n (Nat.lt_of_lt_of_le hn11 (by decide))
          have ep := w64A p (n + 1) (by clear hnew hnew2 hm en h9 hd hn; omega)
          rw [if_neg (by clear hnew hnew2; omega), if_neg h128]
          clear hnew
          generalize x + c % 128 * 128 ^ n = y at hnew2 ⊢
          by_cases hc0 : c = 0
          · rw [if_pos (by omega)]
            by_cases hn0 : 0 < n
            · rw [if_pos (by omega), if_pos (.inl ⟨hc0, hn0⟩)]
              rfl
            · rw [if_neg (by omega)]
              by_cases hmo : most < y
              · rw [if_pos (by omega), if_pos (.inr hmo)]
                rfl
              · rw [if_neg (by omega), if_neg (by rintro (h | h) <;> omega), en, ep]
          · rw [if_neg (by omega)]
            by_cases hmo : most < y
            · rw [if_pos (by omega), if_pos (.inr hmo)]
              rfl
            · rw [if_neg (by omega), if_neg (by rintro (h | h) <;> omega), en, ep]
    · rw [if_pos (by omega), List.drop_eq_nil_of_le (by rw [natsOf_len]; omega), uL]
      rfl
theorem vU_f (s : ByteArray) (p : Nat) (e : Int) (most : Nat) (hp : p ≤ s.size) (hs : s.size ≤ 500000000000000) (hm : most < 18446744073709551616) (k : Nat) (hk : 24 ≤ k) : wire_Reader_Uint.f k s (p : Int) e (most : Int) = some (((rU s p e most).1 : Int), s, ((rU s p e most).2.1 : Int), (rU s p e most).2.2) := by
  unfold wire_Reader_Uint.f rU
  by_cases he : e = 0
  · subst he
    rw [if_pos rfl, if_pos rfl]
    exact vU_l0 s p most hp hs hm 10 0 0 k rfl (by decide) hp (by omega)
  · rw [if_neg he, if_neg he]
    rfl
/-- The dots that are read: up to the first that fails. -/
def tkO (s : ByteArray) : Nat → Nat → List Dt → List Dt × Nat × Int
  | 0, p, L => (L, p, 0)
  | n + 1, p, L =>
    let a := rU s p 0 4294967295
    let c := rU s a.2.1 a.2.2 1099511627776
    if c.2.2 = 0 then tkO s n c.2.1 (L ++ [⟨(a.1 : Int), (c.1 : Int)⟩]) else (L, c.2.1, c.2.2)
def tkT (s : ByteArray) (p : Nat) (e : Int) : List Dt × Nat × Int := if (rU s p e 64).2.2 = 0 then tkO s (rU s p e 64).1 (rU s p e 64).2.1 [] else ([], (rU s p e 64).2.1, (rU s p e 64).2.2)
def takeV (s : ByteArray) (p : Nat) (e : Int) : List Dt × Nat × Int :=
  if (tkT s p e).2.2 = 0 then (if validB (tkT s p e).1 = true then (tkT s p e) else ([], (tkT s p e).2.1, 100)) else ([], (tkT s p e).2.1, (tkT s p e).2.2)
/-- What Take makes of the dots that were read. -/
def tkEnd (T : List Dt × Nat × Int) : List Dt × Nat × Int := if T.2.2 = 0 then (if validB T.1 = true then T else ([], T.2.1, 100)) else ([], T.2.1, T.2.2)
theorem takeV_end (s : ByteArray) (p : Nat) (e : Int) : takeV s p e = tkEnd (tkT s p e) := rfl
theorem vtk_end (s : ByteArray) (L : List Dt) (q : Nat) (e : Int) (hL : L.length ≤ 64) (hw : ∀ x ∈ L, 0 ≤ x.f1) (k : Nat) (hk : 70 ≤ k) : vector_Take.j1 k L s (q : Int) e = some ((tkEnd (L, q, e)).1, s, ((tkEnd (L, q, e)).2.1 : Int), (tkEnd (L, q, e)).2.2) := by
  obtain ⟨k, rfl⟩ : ∃ j, k = j + 2 := ⟨k - 2, by omega⟩
  rw [vector_Take.j1]
  show (if e = 0 then _ else _) = _
  unfold tkEnd
  by_cases he : e = 0
  · subst he
    rw [if_pos rfl, if_pos rfl, ownValid_f L (by omega) hw (k + 1) (by omega), Option.bind_some, vector_Take.j2]
    cases hv : validB L with
    | true => rfl
    | false => rfl
  · rw [if_neg he, if_neg he, vector_Take.j2, if_neg (by decide)]
    show (if e = 0 then _ else _) = _
    rw [if_neg he]
theorem vtk_l0 (s : ByteArray) (hs : s.size ≤ 500000000000000) (N : Nat) (hN : N ≤ 64) : ∀ (n i q k : Nat) (L : List Dt), i + n = N → L.length = i → q ≤ s.size → (∀ x ∈ L, 0 ≤ x.f1) → n + 80 ≤ k →
    vector_Take.l0 k L (N : Int) (i : Int) s (q : Int) 0 = some ((tkEnd (tkO s n q L)).1, s, ((tkEnd (tkO s n q L)).2.1 : Int), (tkEnd (tkO s n q L)).2.2)
  | 0, i, q, k, L, hi, hL, hq, hw, hk => by
    obtain ⟨k, rfl⟩ : ∃ j, k = j + 1 := ⟨k - 1, by omega⟩
    rw [vector_Take.l0, if_neg (by omega), tkO]
    exact vtk_end s L q 0 (by omega) hw k (by omega)
  | n + 1, i, q, k, L, hi, hL, hq, hw, hk => by
    obtain ⟨k, rfl⟩ : ∃ j, k = j + 1 := ⟨k - 1, by omega⟩
    have q1 := rU_le s q 0 4294967295 hq
    have m1 := rU_most s q 0 4294967295
    have f1 := vU_f s q 0 4294967295 hq hs (by omega) k (by omega)
    rw [vector_Take.l0, if_pos (by omega), show (4294967295 : Int) = ((4294967295 : Nat) : Int) from rfl, f1, Option.bind_some, tkO]
    generalize rU s q 0 4294967295 = A at *
    obtain ⟨na, qa, ea⟩ := A
    dsimp only at q1 m1 ⊢
    have q2 := rU_le s qa ea 1099511627776 q1
    have f2 := vU_f s qa ea 1099511627776 q1 hs (by omega) k (by omega)
    rw [show (1099511627776 : Int) = ((1099511627776 : Nat) : Int) from rfl, f2, Option.bind_some]
    generalize rU s qa ea 1099511627776 = C at *
    obtain ⟨nc, qc, ec⟩ := C
    dsimp only at q2 ⊢
    show (if ec = 0 then _ else _) = _
    by_cases hec : ec = 0
    · subst hec
      have ei : IntKind.u64.wrap ((i : Int) + 1) = ((i + 1 : Nat) : Int) := by rw [IntKind.wrap_u64]; omega
      have em : (na : Int) % 4294967296 = na := by omega
      rw [if_pos rfl, if_pos rfl, if_pos (by omega), ei, em]
      exact vtk_l0 s hs N hN n (i + 1) qc k _ (by omega) (by rw [List.length_append, hL]; rfl) q2 (fun x hx => by
        rcases List.mem_append.1 hx with h | h
        · exact hw x h
        · rw [List.mem_singleton.1 h]
          exact Int.natCast_nonneg _) (by omega)
    · rw [if_neg hec, if_neg hec]
      exact vtk_end s L qc ec (by omega) hw k (by omega)
theorem vTake_f (s : ByteArray) (p : Nat) (e : Int) (hp : p ≤ s.size) (hs : s.size ≤ 500000000000000) (k : Nat) (hk : 200 ≤ k) : vector_Take.f k s (p : Int) e = some ((takeV s p e).1, s, ((takeV s p e).2.1 : Int), (takeV s p e).2.2) := by
  have q1 := rU_le s p e 64 hp
  have m1 := rU_most s p e 64
  have b1 := rU_bad s p e 64
  unfold vector_Take.f
  rw [show (64 : Int) = ((64 : Nat) : Int) from rfl, vU_f s p e 64 hp hs (by omega) k (by omega), Option.bind_some, takeV_end]
  unfold tkT
  generalize rU s p e 64 = A at *
  obtain ⟨N, q, e1⟩ := A
  dsimp only at q1 m1 b1 ⊢
  by_cases he : e1 = 0
  · subst he
    rw [if_pos rfl]
    exact vtk_l0 s hs N m1 N 0 q k [] (by omega) rfl q1 (fun x hx => by simp at hx) (by omega)
  · obtain ⟨hN, hq⟩ := b1 he
    subst hN hq
    obtain ⟨k, rfl⟩ : ∃ j, k = j + 1 := ⟨k - 1, by omega⟩
    rw [if_neg he, vector_Take.l0, if_neg (by decide)]
    exact vtk_end s [] q e1 (by decide) (fun x hx => by simp at hx) k (by omega)
def endE (s : ByteArray) (p : Nat) (e : Int) : Int := if e = 0 then (if p < s.size then 12 else 0) else e
theorem vEnd_f (s : ByteArray) (p : Nat) (e : Int) : wire_Reader_End.f s (p : Int) e = some (endE s p e, s, (p : Int), e) := by
  unfold wire_Reader_End.f endE
  by_cases he : e = 0
  · subst he
    rw [if_pos rfl, if_pos rfl]
    by_cases h : p < s.size
    · rw [if_pos (by omega), if_pos h]
    · rw [if_neg (by omega), if_neg h]
      rfl
  · rw [if_neg he, if_neg he]
    rfl
/-- What Decode answers. -/
def decV (s : ByteArray) : List Dt × Int := if endE s (takeV s 0 0).2.1 (takeV s 0 0).2.2 = 0 then ((takeV s 0 0).1, 0) else ([], 100)
theorem vDec_f (s : ByteArray) (hs : s.size ≤ 500000000000000) (k : Nat) (hk : 200 ≤ k) : vector_Decode.f k s = some (decV s) := by
  unfold vector_Decode.f
  show (vector_Take.f k s ((0 : Nat) : Int) 0).bind _ = _
  rw [vTake_f s 0 0 (Nat.zero_le _) hs k hk, Option.bind_some]
  unfold decV
  generalize takeV s 0 0 = T
  obtain ⟨L, q, e⟩ := T
  dsimp only
  rw [vEnd_f, Option.bind_some]
  dsimp only
  split <;> rfl
end Go.Proofs.Ytgcmmiihjiiemaa.My
