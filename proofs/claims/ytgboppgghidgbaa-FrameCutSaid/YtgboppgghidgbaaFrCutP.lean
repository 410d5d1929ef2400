/- What a splitter tells of a stream does not depend on how the stream is cut: the plain law. -/
import Derived.Test.YtgboppgghidgbaaFrNextA
namespace Go.Proofs.Ytgboppgghidgbaa.My
open Go.RowKit Go.Proofs.YtgboppgghidgbaaW.PrintWords Go.Proofs.YtgboppgghidgbaaW.PrintLast Go.Proofs.YtgboppgghidgbaaW.PrintMore Go.Proofs.Ytgboppgghidgbaa
set_option linter.unusedSimpArgs false
set_option linter.unusedVariables false
set_option maxRecDepth 100000
set_option maxHeartbeats 800000
/-- A frame that was told, and how many bytes were passed over ahead of it. -/
structure Ht where
  a : Int
  b : Int
  c : Int
  d : Int
  e : Int
  t : Int
  g : Int
  h : Bool
  s : ByteArray
instance : Inhabited Ht := ⟨⟨0, 0, 0, 0, 0, 0, 0, false, ⟨#[]⟩⟩⟩
def Ht.cells (x : Ht) : List Value := [.int .u8 x.a, .int .u8 x.b, .int .u8 x.c, .int .u16 x.d, .int .u32 x.e, .int .u64 x.t, .int .u32 x.g, .bool x.h, .string x.s]
noncomputable def nxI (s : ByteArray) : Nat := (scanF s 0).1
noncomputable def nxK (s : ByteArray) : Nat := (scanF s 0).2
noncomputable def nxN (s : ByteArray) : Nat := nOf (s.extract (nxI s) s.size)
noncomputable def htOf (z : ByteArray) : Ht := match decT z with | (a, b, c, d, e, t, g, h, bd, _) => ⟨a, b, c, d, e, t, g, h, bd⟩
noncomputable def nxF (s : ByteArray) : Ht := htOf (s.extract (nxI s) (nxI s + nxN s))
theorem nxA_yes (s : ByteArray) (p : Nat) (h : nxK s = 2) : nxA s p = .tuple #[.agg #[.int .u8 (nxF s).a, .int .u8 (nxF s).b, .int .u8 (nxF s).c, .int .u16 (nxF s).d, .int .u32 (nxF s).e, .int .u64 (nxF s).t, .int .u32 (nxF s).g, .bool (nxF s).h, .string (nxF s).s], .int .i64 ((p + nxI s : Nat) : Int), .bool true] := by
  unfold nxA nxF htOf nxN nxI
  unfold nxK at h
  rw [if_pos h]
theorem nxA_no (s : ByteArray) (p : Nat) (h : nxK s ≠ 2) : nxA s p = .tuple #[zeroF, .int .i64 0, .bool false] := by
  unfold nxA
  unfold nxK at h
  rw [if_neg h]
theorem nxS_yes (s : ByteArray) (h : nxK s = 2) : nxS s = s.extract (nxI s + nxN s) s.size := by
  unfold nxS nxN nxI
  unfold nxK at h
  rw [if_pos h]
theorem nxS_no (s : ByteArray) (h : nxK s ≠ 2) : nxS s = s.extract (nxI s) s.size := by
  unfold nxS nxI
  unfold nxK at h
  rw [if_neg h]
theorem nxP_yes (s : ByteArray) (p : Nat) (h : nxK s = 2) : nxP s p = 0 := by
  unfold nxP
  unfold nxK at h
  rw [if_pos h]
theorem nxP_no (s : ByteArray) (p : Nat) (h : nxK s ≠ 2) : nxP s p = p + nxI s := by
  unfold nxP nxI
  unfold nxK at h
  rw [if_neg h]
/-- What a scan has found. -/
theorem scan_is (s : ByteArray) : ∀ f j, f + j = s.size → j ≤ (scanN s f j).1 ∧ (scanN s f j).1 ≤ s.size ∧ ((scanN s f j).2 = 2 → StP (s.extract (scanN s f j).1 s.size)) ∧ ((scanN s f j).2 = 1 → MayP (s.extract (scanN s f j).1 s.size)) ∧ ((scanN s f j).2 = 0 → (scanN s f j).1 = s.size) ∧ (scanN s f j).2 ≤ 2
  | 0, j, h => by
    rw [scanN]
    exact ⟨by show j ≤ s.size; omega, Nat.le_refl _, fun h => absurd h (by simp), fun h => absurd h (by simp), fun _ => rfl, by simp⟩
  | f + 1, j, h => by
    rw [scanN]
    by_cases hs : StP (s.extract j s.size)
    · rw [if_pos hs]
      exact ⟨Nat.le_refl _, by show j ≤ s.size; omega, fun _ => hs, fun h => absurd h (by simp), fun h => absurd h (by simp), Nat.le_refl _⟩
    · rw [if_neg hs]
      by_cases hm : MayP (s.extract j s.size)
      · rw [if_pos hm]
        exact ⟨Nat.le_refl _, by show j ≤ s.size; omega, fun h => absurd h (by simp), fun _ => hm, fun h => absurd h (by simp), by simp⟩
      · rw [if_neg hm]
        have ih := scan_is s f (j + 1) (by omega)
        exact ⟨by omega, ih.2⟩
theorem nx_is (s : ByteArray) : nxI s ≤ s.size ∧ (nxK s = 2 → StP (s.extract (nxI s) s.size)) ∧ (nxK s = 1 → MayP (s.extract (nxI s) s.size)) ∧ (nxK s = 0 → nxI s = s.size) ∧ nxK s ≤ 2 :=
  (scan_is s (s.size - 0) 0 (by omega)).2
theorem nx_len (s : ByteArray) (h : nxK s = 2) : 34 ≤ nxN s ∧ nxI s + nxN s ≤ s.size := by
  have h1 := (nx_is s).2.1 h
  have h2 := St_head _ h1
  have h3 := h1.2.1
  rw [ByteArray.size_extract] at h3
  have h4 := (nx_is s).1
  unfold nxN
  exact ⟨h2.2.1, by omega⟩
theorem nx_small (s : ByteArray) (h : nxK s ≠ 2) : (nxS s).size ≤ 8192 := by
  rw [nxS_no s h]
  obtain ⟨h1, _, h3, h4, h5⟩ := nx_is s
  by_cases h0 : nxK s = 0
  · rw [h4 h0, ByteArray.size_extract]; omega
  · have h6 := h3 (by omega)
    rcases h6.2.2.1 with h7 | ⟨_, h7, h8⟩ <;> omega
-- Bytes behind a front.
theorem app_drop (s x : ByteArray) (i : Nat) (h : i ≤ s.size) : (s ++ x).extract i (s ++ x).size = s.extract i s.size ++ x := by
  apply ByteArray.ext
  apply Array.toList_inj.1
  simp only [ByteArray.data_extract, ByteArray.data_append, ByteArray.size_append, Array.toList_extract, Array.toList_append, List.extract_eq_take_drop]
  have hs : s.data.toList.length = s.size := by rw [Array.length_toList]; rfl
  have hx : x.data.toList.length = x.size := by rw [Array.length_toList]; rfl
  rw [List.drop_append_of_le_length (by omega), List.take_of_length_le (by rw [List.length_append, List.length_drop]; omega), List.take_of_length_le (by rw [List.length_drop]; omega)]
theorem app_front (u x : ByteArray) (n : Nat) (h : n ≤ u.size) : (u ++ x).extract 0 n = u.extract 0 n := by
  apply ByteArray.ext
  apply Array.toList_inj.1
  have hs : u.data.toList.length = u.size := by rw [Array.length_toList]; rfl
  simp only [ByteArray.data_extract, ByteArray.data_append, Array.toList_extract, Array.toList_append, List.extract_eq_take_drop, List.drop_zero]
  rw [List.take_append_of_le_length (by omega)]
theorem app_fN (u x : ByteArray) (p m : Nat) (h : p + m ≤ u.size) : fN (u ++ x) p m = fN u p m := by
  have h1 := fN_frnt (u ++ x) u.size p m h
  rw [app_front u x u.size (Nat.le_refl _)] at h1
  have h2 := fN_frnt u u.size p m h
  rw [← h1, h2]
theorem app_nOf (u x : ByteArray) (h : 4 ≤ u.size) : nOf (u ++ x) = nOf u := app_fN u x 2 2 (by omega)
theorem app_St (u x : ByteArray) (h : StP u) : StP (u ++ x) ∧ nOf (u ++ x) = nOf u := by
  have e := app_nOf u x (by have := h.1; omega)
  refine ⟨⟨by rw [ByteArray.size_append]; have := h.1; omega, by rw [e, ByteArray.size_append]; have := h.2.1; omega, ?_⟩, e⟩
  rw [e, app_front u x _ h.2.1]
  exact h.2.2
theorem app_Mk (u x : ByteArray) (h : MkB (u ++ x) = true) : MkB u = true := by
  unfold MkB at h ⊢
  rw [beq_iff_eq, ByteArray.toList_eq, ByteArray.toList_eq] at h ⊢
  have h1 := ByteArray.ext (Array.toList_inj.1 h)
  have h2 : (markS.extract 0 (min (u ++ x).size 2)).extract 0 (min u.size 2) = ((u ++ x).extract 0 (min (u ++ x).size 2)).extract 0 (min u.size 2) := by rw [h1]
  have hm : markS.size = 2 := rfl
  rw [ByteArray.size_append] at h2
  rw [ext_front markS _ _ (by omega) (by omega), ext_front (u ++ x) _ _ (by omega) (by rw [ByteArray.size_append]; omega), app_front u x _ (by omega)] at h2
  rw [h2]
theorem app_head (u x : ByteArray) (h : (headV (u ++ x)).2 = true) : (headV u).2 = true := by
  unfold headV at h ⊢
  have hz : (u ++ x).size = u.size + x.size := ByteArray.size_append
  by_cases hk : MkB (u ++ x) = true
  · rw [if_pos hk] at h
    rw [if_pos (app_Mk u x hk)]
    by_cases h4 : u.size < 4
    · rw [if_pos h4]
    · rw [if_neg (by omega)] at h
      rw [if_neg h4]
      have e : fN (u ++ x) 2 2 = fN u 2 2 := app_fN u x 2 2 (by omega)
      rw [e] at h
      by_cases hb : fN u 2 2 < 34 ∨ 8192 < fN u 2 2
      · rw [if_pos hb] at h; exact absurd h (by simp)
      · rw [if_neg hb] at h ⊢
        have h : sumOk (u ++ x) = true := h
        show sumOk u = true
        unfold sumOk at h ⊢
        have h := of_decide_eq_true h
        apply decide_eq_true
        by_cases h8 : u.size < 8
        · exact .inl h8
        · rw [app_front u x 4 (by omega), app_fN u x 4 4 (by omega)] at h
          rcases h with h | h
          · exact .inl (by omega)
          · exact .inr h
  · rw [if_neg hk] at h; exact absurd h (by simp)
theorem app_no (u x : ByteArray) (h0 : u.size ≠ 0) (hs : ¬ StP u) (hm : ¬ MayP u) : ¬ StP (u ++ x) ∧ ¬ MayP (u ++ x) := by
  have key : (headV (u ++ x)).2 = true → 34 ≤ nOf u ∧ nOf u ≤ u.size ∧ (DecOk (u.extract 0 (nOf u)) → StP u) := by
    intro h
    have h1 := app_head u x h
    have h2 : ¬ ((headV u).1 = 0 ∨ (u.size : Int) < (headV u).1) := fun h2 => hm (cls2 u h0 h1 h2).2
    have h3 := cls3 u h1 h2
    exact ⟨h3.2.1, h3.2.2.1, h3.2.2.2.2.2⟩
  refine ⟨fun h => ?_, fun h => ?_⟩
  · have h1 := key (by rw [(St_head _ h).1])
    have e := app_nOf u x (by omega)
    have h2 := h.2.2
    rw [e, app_front u x _ h1.2.1] at h2
    exact hs (h1.2.2 h2)
  · have h1 := key (May_head _ h).1
    have e := app_nOf u x (by omega)
    have h2 := h.2.2.1
    rw [e, ByteArray.size_append] at h2
    omega
theorem scan_app (s x : ByteArray) : ∀ f j, f + j = s.size → ((scanN s f j).2 = 2 → scanF (s ++ x) j = scanN s f j) ∧ ((scanN s f j).2 ≠ 2 → scanF (s ++ x) j = scanF (s ++ x) (scanN s f j).1)
  | 0, j, h => by
    rw [scanN]
    refine ⟨fun h => absurd h (by simp), fun _ => ?_⟩
    show scanF (s ++ x) j = scanF (s ++ x) s.size
    rw [show j = s.size by omega]
  | f + 1, j, h => by
    have hz : (s ++ x).size = s.size + x.size := ByteArray.size_append
    have hd := app_drop s x j (by omega)
    rw [scanN]
    by_cases hs : StP (s.extract j s.size)
    · rw [if_pos hs]
      refine ⟨fun _ => ?_, fun h => absurd rfl h⟩
      exact scan_st _ j (by omega) (by rw [hd]; exact (app_St _ x hs).1)
    · rw [if_neg hs]
      by_cases hm : MayP (s.extract j s.size)
      · rw [if_pos hm]
        exact ⟨fun h => absurd h (by simp), fun _ => rfl⟩
      · rw [if_neg hm]
        have hn := app_no (s.extract j s.size) x (by rw [ByteArray.size_extract]; omega) hs hm
        rw [scan_skip (s ++ x) j (by omega) (by rw [hd]; exact hn.1) (by rw [hd]; exact hn.2)]
        exact scan_app s x f (j + 1) (by omega)
theorem scan_drop (t : ByteArray) (i : Nat) : ∀ f j, f + (i + j) = t.size → scanN (t.extract i t.size) f j = ((scanN t f (i + j)).1 - i, (scanN t f (i + j)).2) ∧ i ≤ (scanN t f (i + j)).1
  | 0, j, h => by
    rw [scanN, scanN, ByteArray.size_extract]
    refine ⟨?_, by show i ≤ t.size; omega⟩
    show (min t.size t.size - i, 0) = (t.size - i, 0)
    rw [Nat.min_self]
  | f + 1, j, h => by
    have e := ext_ext t i j (by omega)
    rw [scanN, scanN, e]
    by_cases hs : StP (t.extract (i + j) t.size)
    · rw [if_pos hs, if_pos hs]
      refine ⟨?_, by show i ≤ i + j; omega⟩
      show (j, 2) = (i + j - i, 2)
      rw [Nat.add_sub_cancel_left]
    · rw [if_neg hs, if_neg hs]
      by_cases hm : MayP (t.extract (i + j) t.size)
      · rw [if_pos hm, if_pos hm]
        refine ⟨?_, by show i ≤ i + j; omega⟩
        show (j, 1) = (i + j - i, 1)
        rw [Nat.add_sub_cancel_left]
      · rw [if_neg hm, if_neg hm]
        exact scan_drop t i f (j + 1) (by omega)
theorem ext_frm' (s : ByteArray) (i n : Nat) (h : i + n ≤ s.size) : (s.extract i s.size).extract 0 n = s.extract i (i + n) := by
  rw [ByteArray.extract_extract]
  congr 1
  omega
theorem ext_mid (t : ByteArray) (i a b : Nat) (h : i + a + b ≤ t.size) : (t.extract i t.size).extract a (a + b) = t.extract (i + a) (i + a + b) := by
  rw [ByteArray.extract_extract, show min (i + (a + b)) t.size = i + a + b by omega]
theorem nx_app_yes (s x : ByteArray) (h : nxK s = 2) : nxK (s ++ x) = 2 ∧ nxI (s ++ x) = nxI s ∧ nxN (s ++ x) = nxN s ∧ nxF (s ++ x) = nxF s ∧ nxS (s ++ x) = nxS s ++ x := by
  have h0 : scanF (s ++ x) 0 = scanF s 0 := (scan_app s x (s.size - 0) 0 (by omega)).1 h
  have hI : nxI (s ++ x) = nxI s := by unfold nxI; rw [h0]
  have hK : nxK (s ++ x) = 2 := by unfold nxK; rw [h0]; exact h
  have hl := nx_len s h
  have hd := app_drop s x (nxI s) (by omega)
  have hN : nxN (s ++ x) = nxN s := by
    unfold nxN
    rw [hI, hd]
    exact (app_St _ x ((nx_is s).2.1 h)).2
  have hF : nxF (s ++ x) = nxF s := by
    unfold nxF
    rw [hI, hN]
    have e : (s ++ x).extract (nxI s) (nxI s + nxN s) = s.extract (nxI s) (nxI s + nxN s) := by
      have e1 := ext_frm' (s ++ x) (nxI s) (nxN s) (by rw [ByteArray.size_append]; omega)
      have e2 := ext_frm' s (nxI s) (nxN s) (by omega)
      rw [← e1, ← e2, hd, app_front _ x _ (by rw [ByteArray.size_extract]; omega)]
    rw [e]
  refine ⟨hK, hI, hN, hF, ?_⟩
  rw [nxS_yes _ hK, nxS_yes _ h, hI, hN]
  exact app_drop s x _ hl.2
theorem nx_app_no (s x : ByteArray) (h : nxK s ≠ 2) : nxK (s ++ x) = nxK (nxS s ++ x) ∧ nxI (s ++ x) = nxI s + nxI (nxS s ++ x) ∧ nxS (s ++ x) = nxS (nxS s ++ x) ∧ (nxK (s ++ x) = 2 → nxF (s ++ x) = nxF (nxS s ++ x)) := by
  have hi := (nx_is s).1
  have h0 : scanF (s ++ x) 0 = scanF (s ++ x) (nxI s) := (scan_app s x (s.size - 0) 0 (by omega)).2 h
  have hd := app_drop s x (nxI s) hi
  have hz : (s ++ x).size = s.size + x.size := ByteArray.size_append
  rw [nxS_no s h, ← hd]
  generalize s ++ x = t at *
  generalize nxI s = i at *
  have e1 := scan_drop t i (t.size - i) 0 (by omega)
  have e2 : scanF (t.extract i t.size) 0 = scanN (t.extract i t.size) (t.size - i) 0 := by
    unfold scanF
    rw [show (t.extract i t.size).size - 0 = t.size - i by rw [ByteArray.size_extract]; omega]
  have e3 : scanF t i = scanN t (t.size - i) (i + 0) := rfl
  rw [← e2, ← e3, ← h0] at e1
  obtain ⟨e1, e4⟩ := e1
  have hK : nxK t = nxK (t.extract i t.size) := by unfold nxK; rw [e1]
  have hI : nxI t = i + nxI (t.extract i t.size) := by unfold nxI; rw [e1]; show (scanF t 0).1 = i + ((scanF t 0).1 - i); omega
  have hN : nxN (t.extract i t.size) = nxN t := by
    have hj := (nx_is (t.extract i t.size)).1
    rw [ByteArray.size_extract] at hj
    unfold nxN
    rw [ext_ext t i _ (by omega), hI]
  refine ⟨hK, hI, ?_, ?_⟩
  · by_cases h2 : nxK t = 2
    · have hl := nx_len t h2
      have h4 : nxK (t.extract i t.size) = 2 := hK.symm.trans h2
      rw [nxS_yes t h2, nxS_yes _ h4, hN, ext_ext t i _ (by omega), hI, Nat.add_assoc]
    · have hj := (nx_is (t.extract i t.size)).1
      have h4 : nxK (t.extract i t.size) ≠ 2 := fun h => h2 (hK.trans h)
      rw [ByteArray.size_extract] at hj
      rw [nxS_no t h2, nxS_no _ h4, ext_ext t i _ (by omega), hI]
  · intro h2
    have hl := nx_len t h2
    unfold nxF
    rw [hN]
    rw [hI] at hl ⊢
    rw [ext_mid t i _ _ (by omega)]
/-- All that is told of some bytes now. -/
noncomputable def outs : Nat → ByteArray → Nat → List (Ht × Nat) × ByteArray × Nat
  | 0, s, p => ([], s, p)
  | f + 1, s, p => if nxK s = 2 then ((nxF s, p + nxI s) :: (outs f (nxS s) 0).1, (outs f (nxS s) 0).2) else ([], nxS s, nxP s p)
theorem nxS_less (s : ByteArray) (h : nxK s = 2) : (nxS s).size + 34 ≤ s.size := by
  have := nx_len s h
  rw [nxS_yes s h, ByteArray.size_extract]
  omega
theorem outs_fuel : ∀ (f g : Nat) (s : ByteArray) (p : Nat), s.size < f → s.size < g → outs f s p = outs g s p
  | 0, g, s, p, h, _ => by omega
  | f + 1, 0, s, p, _, h => by omega
  | f + 1, g + 1, s, p, hf, hg => by
    rw [outs, outs]
    by_cases h : nxK s = 2
    · have h1 := nxS_less s h
      rw [if_pos h, if_pos h, outs_fuel f g (nxS s) 0 (by omega) (by omega)]
    · rw [if_neg h, if_neg h]
noncomputable def run (s : ByteArray) (p : Nat) : List (Ht × Nat) × ByteArray × Nat := outs (s.size + 1) s p
theorem run_yes (s : ByteArray) (p : Nat) (h : nxK s = 2) : run s p = ((nxF s, p + nxI s) :: (run (nxS s) 0).1, (run (nxS s) 0).2) := by
  have h1 := nxS_less s h
  unfold run
  rw [outs, if_pos h, outs_fuel s.size ((nxS s).size + 1) (nxS s) 0 (by omega) (by omega)]
theorem run_no (s : ByteArray) (p : Nat) (h : nxK s ≠ 2) : run s p = ([], nxS s, nxP s p) := by
  unfold run
  rw [outs, if_neg h]
theorem run_app : ∀ (n : Nat) (s x : ByteArray) (p : Nat), s.size < n → run (s ++ x) p = ((run s p).1 ++ (run ((run s p).2.1 ++ x) (run s p).2.2).1, (run ((run s p).2.1 ++ x) (run s p).2.2).2)
  | 0, s, x, p, h => by omega
  | n + 1, s, x, p, h => by
    by_cases h2 : nxK s = 2
    · obtain ⟨hK, hI, _, hF, hS⟩ := nx_app_yes s x h2
      have h1 := nxS_less s h2
      rw [run_yes s p h2, run_yes _ p hK, hI, hF, hS, run_app n (nxS s) x 0 (by omega)]
      rfl
    · obtain ⟨hK, hI, hS, hF⟩ := nx_app_no s x h2
      rw [run_no s p h2, List.nil_append]
      show run (s ++ x) p = run (nxS s ++ x) (nxP s p)
      rw [nxP_no s p h2]
      by_cases h3 : nxK (s ++ x) = 2
      · have h4 : nxK (nxS s ++ x) = 2 := hK.symm.trans h3
        rw [run_yes (s ++ x) p h3, run_yes (nxS s ++ x) (p + nxI s) h4, hF h3, hS, hI, Nat.add_assoc]
      · have h4 : nxK (nxS s ++ x) ≠ 2 := fun h => h3 (hK.trans h)
        rw [run_no (s ++ x) p h3, run_no (nxS s ++ x) (p + nxI s) h4, hS, nxP_no (s ++ x) p h3, nxP_no (nxS s ++ x) (p + nxI s) h4, hI, Nat.add_assoc]
theorem run_bound : ∀ (n : Nat) (s : ByteArray) (p : Nat), s.size < n → (run s p).1.length * 34 + (run s p).2.1.size ≤ s.size ∧ (run s p).2.2 + (run s p).2.1.size ≤ p + s.size ∧ (run s p).2.1.size ≤ 8192
  | 0, s, p, h => by omega
  | n + 1, s, p, h => by
    by_cases h2 : nxK s = 2
    · have h1 := nxS_less s h2
      have ih := run_bound n (nxS s) 0 (by omega)
      rw [run_yes s p h2]
      refine ⟨?_, ?_, ih.2.2⟩
      · show ((run (nxS s) 0).1.length + 1) * 34 + (run (nxS s) 0).2.1.size ≤ s.size
        omega
      · show (run (nxS s) 0).2.2 + (run (nxS s) 0).2.1.size ≤ p + s.size
        omega
    · rw [run_no s p h2]
      have hi := (nx_is s).1
      refine ⟨?_, ?_, nx_small s h2⟩
      · show 0 * 34 + (nxS s).size ≤ s.size
        rw [nxS_no s h2, ByteArray.size_extract]
        omega
      · show nxP s p + (nxS s).size ≤ p + s.size
        rw [nxS_no s h2, nxP_no s p h2, ByteArray.size_extract]
        omega
theorem run_nil : run (⟨#[]⟩ : ByteArray) 0 = ([], ⟨#[]⟩, 0) := by
  have h : scanF (⟨#[]⟩ : ByteArray) 0 = (0, 0) := rfl
  have hK : nxK (⟨#[]⟩ : ByteArray) ≠ 2 := by unfold nxK; rw [h]; decide
  rw [run_no _ _ hK, nxS_no _ hK, nxP_no _ _ hK]
  unfold nxI
  rw [h]
  rfl
end Go.Proofs.Ytgboppgghidgbaa.My
