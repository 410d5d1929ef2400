/- What is taken without an error, put again, is the very bytes. No program in sight. -/
import Derived.Test.YtikfdfagnalmbaaAgain
namespace Go.Proofs.Ytikfdfagnalmbaa.My
open Go.RowKit Go.Proofs.YtikfdfagnalmbaaW.PrintWords Go.Proofs.YtikfdfagnalmbaaW.PrintLast Go.Proofs.YtikfdfagnalmbaaW.PrintMore Go.Proofs.Ytikfdfagnalmbaa
set_option linter.unusedSimpArgs false
set_option linter.unusedVariables false
set_option maxRecDepth 100000
set_option maxHeartbeats 1600000
theorem uL_back (most : Nat) : ∀ (k i a : Nat) (l : List Nat) (v n : Nat), (∀ x ∈ l, x < 256) → uL most k i a l = (0, v, n) → ∃ u R, l = uvN k u ++ R ∧ v = u * 128 ^ i + a ∧ n = i + (uvN k u).length ∧ (0 < i → 0 < u)
  | 0, i, a, l, v, n, _, h => by rw [uL] at h; simp at h
  | k + 1, i, a, [], v, n, _, h => by rw [uL] at h; simp at h
  | k + 1, i, a, c :: t, v, n, hb, h => by
    have hc : c < 256 := hb c (by simp)
    rw [uL] at h
    split at h
    · simp at h
    · split at h
      · obtain ⟨u, R, h1, h2, h3, h4⟩ := uL_back most k (i + 1) _ t v n (fun x hx => hb x (by simp [hx])) h
        have hu : 0 < u := h4 (by omega)
        have hs := uv_step (c % 128 + 128 * u) a i
        have e1 : (c % 128 + 128 * u) / 128 = u := by omega
        have e2 : (c % 128 + 128 * u) % 128 = c % 128 := by omega
        rw [e1, e2] at hs
        refine ⟨c % 128 + 128 * u, R, ?_, ?_, ?_, fun _ => by omega⟩
        · rw [uvN_succ, if_neg (by omega), e1, e2, List.cons_append, ← h1, show c % 128 + 128 = c by omega]
        · omega
        · rw [uvN_succ, if_neg (by omega), e1, List.length_cons]; omega
      · split at h
        · simp at h
        · rename_i h1 h2 h3
          obtain ⟨_, h⟩ := Prod.mk.inj h
          obtain ⟨hv, hn⟩ := Prod.mk.inj h
          have e : c % 128 = c := Nat.mod_eq_of_lt (by omega)
          rw [e] at hv
          refine ⟨c, t, ?_, by omega, ?_, fun hi => ?_⟩
          · rw [uvN_succ, if_pos (by omega)]; rfl
          · rw [uvN_succ, if_pos (by omega)]; exact hn.symm
          · by_cases h0 : c = 0
            · exact absurd (.inl ⟨h0, hi⟩) h3
            · omega
theorem rU_back (s : ByteArray) (p most : Nat) (hp : p ≤ s.size) (h : (rU s p 0 most).2.2 = 0) : uvN 10 (rU s p 0 most).1 = seg s p ((rU s p 0 most).2.1 - p) ∧ p ≤ (rU s p 0 most).2.1 := by
  unfold rU uRead at h ⊢
  rw [if_pos rfl] at h ⊢
  dsimp only at h ⊢
  obtain ⟨u, R, h1, h2, h3, _⟩ := uL_back most 10 0 0 ((natsOf s).drop p) _ _ (fun x hx => natsOf_lt s x (List.mem_of_mem_drop hx)) (Prod.ext h rfl)
  refine ⟨?_, Nat.le_add_right _ _⟩
  rw [h2, h3, Nat.add_sub_cancel_left]
  unfold seg
  conv => rhs; rw [h1]
  simp
theorem zig_zag (n : Nat) : zig (zag n) = n := by
  unfold zag zig
  split
  · rw [if_pos (by omega)]; omega
  · rw [if_neg (by omega)]; omega
theorem tk_seg2 (s : ByteArray) (p n : Nat) (h : p + n ≤ s.size) : natsOf (s.extract p (p + n)) = seg s p n := by
  rw [natsOf_extract, Nat.add_sub_cancel_left]; rfl
/-- A text of a taken row is the row, or nothing was taken. -/
theorem tk_cases (s : ByteArray) (p : Nat) (n : Int) (hn : 0 ≤ n) (hp : p ≤ s.size) : (∃ m : Nat, n = m ∧ p + m ≤ s.size ∧ tk s p 0 n = (s.extract p (p + m), true, p + m, 0)) ∨ tk s p 0 n = (⟨#[]⟩, false, p, 10) := by
  obtain ⟨m, rfl⟩ := Int.eq_ofNat_of_zero_le hn
  by_cases h : p + m ≤ s.size
  · exact .inl ⟨m, rfl, h, tk_ok m h⟩
  · exact .inr (tk_short m (by omega))
theorem small_again (T : ByteArray) (a b : Nat) (h : natsOf T = [a, b]) (ha : a < 256) (hb : b < 256) : [(IntKind.u16.wrap (small16 T) / 256 % 256), (small16 T % 256)] = [(a : Int), (b : Int)] := by
  rw [small_back T (a * 256 + b) (by rw [h, beN2 _ (by omega)]; congr 1; omega; congr 1; omega), small_be _ (by omega), be_succ, be_succ, be_zero]
  show [_, _] = [_, _]
  congr 1
  · omega
  · congr 1; omega
/-- The bytes that are put are those that were taken. -/
def AgOk (s : ByteArray) (p : Nat) (r : List Int × Nat × Int) : Prop := (r.2.2 = 0 → p ≤ r.2.1 ∧ r.2.1 ≤ s.size ∧ (∀ z ∈ r.1, 0 ≤ z ∧ z < 256) ∧ r.1.map Int.toNat = seg s p (r.2.1 - p)) ∧ (r.2.2 ≠ 0 → r.2.1 = p)
theorem agOk_fix (s : ByteArray) (p m : Nat) (B : List Int) (h : p + m ≤ s.size) (hB : ∀ z ∈ B, 0 ≤ z ∧ z < 256) (hm : B.map Int.toNat = seg s p m) : AgOk s p (B, p + m, 0) :=
  ⟨fun _ => ⟨Nat.le_add_right _ _, h, hB, by show B.map Int.toNat = seg s p (p + m - p); rw [Nat.add_sub_cancel_left]; exact hm⟩, fun h => absurd rfl h⟩
theorem agOk_bad (s : ByteArray) (p : Nat) (B : List Int) (e : Int) (he : e ≠ 0) : AgOk s p (B, p, e) := ⟨fun h => absurd h he, fun _ => rfl⟩
theorem seg_be' (s : ByteArray) (p m : Nat) (h : p + m ≤ s.size) : (be m (hiN (seg s p m))).map Int.toNat = seg s p m := hiN_bound _ (seg_lt s p m) m (seg_len s p m h)
theorem ag_ok (x : Item) (s : ByteArray) (p : Nat) (hp : p ≤ s.size) (hs : s.size ≤ 140737488351232) (hx : x.v < 18446744073709551616) : AgOk s p (x.ag s p) := by
  obtain ⟨who, kind, n, y, t⟩ := x
  dsimp only at hx
  by_cases hk : kind < 0 ∨ 7 < kind
  · rw [ag9 _ _ _ _ _ _ _ hk]
    exact ⟨fun _ => ⟨Nat.le_refl _, hp, by simp, by show [] = seg s p (p - p); rw [Nat.sub_self]; simp [seg]⟩, fun h => absurd rfl h⟩
  obtain ⟨k, rfl⟩ := Int.eq_ofNat_of_zero_le (show 0 ≤ kind by omega)
  have h8 : k < 8 := by omega
  clear hk
  have hU : ∀ most : Nat, most < 18446744073709551616 → AgOk s p (uv 10 (rU s p 0 most).1, (rU s p 0 most).2) := by
    intro most hm
    refine ⟨fun h => ?_, fun h => (rU_bad s p 0 most h).2⟩
    obtain ⟨h1, h2⟩ := rU_back s p most hp h
    have h3 := rU_most s p 0 most
    exact ⟨h2, rU_le s p 0 most hp, uv_bounds 10 _ (by rw [show (128 : Nat) ^ 10 = 1180591620717411303424 by decide]; omega), h1⟩
  match k, h8 with
  | 0, _ =>
    show AgOk s p ((Item.mk who 0 n y t).ag s p)
    rw [ag0]
    rcases tk_cases s p 1 (by omega) hp with ⟨m, hm, hpm, e⟩ | e
    · obtain rfl : m = 1 := by omega
      rw [e]
      have h1 := seg_one s p hpm
      have h2 := fN_lt s p 1
      dsimp only
      rw [tk_seg2 s p 1 hpm, h1, show hiN [fN s p 1] = fN s p 1 by simp [hiN]]
      refine agOk_fix s p 1 _ hpm (fun z hz => by have := List.mem_singleton.1 hz; omega) ?_
      rw [h1]
      show [_] = [_]
      congr 1
      omega
    · rw [e]; exact agOk_bad s p _ 10 (by decide)
  | 1, _ =>
    show AgOk s p ((Item.mk who 1 n y t).ag s p)
    rw [ag1]
    rcases tk_cases s p 2 (by omega) hp with ⟨m, hm, hpm, e⟩ | e
    · obtain rfl : m = 2 := by omega
      rw [e]
      have h0 := tk_seg2 s p 2 hpm
      have h1 := seg_be s p 2 hpm
      have h2 := fN_lt s p 2
      have h3 : (256 : Nat) ^ 2 = 65536 := by decide
      rw [beN2 _ (by omega)] at h1
      show AgOk s p ([(IntKind.u16.wrap (small16 _) / 256 % 256), (small16 _ % 256)], p + 2, 0)
      rw [small_again _ _ _ (h0.trans h1) (by omega) (by omega)]
      refine agOk_fix s p 2 _ hpm (fun z hz => ?_) (by rw [h1]; rfl)
      simp at hz
      omega
    · rw [e]; exact agOk_bad s p _ 10 (by decide)
  | 2, _ =>
    show AgOk s p ((Item.mk who 2 n y t).ag s p)
    rw [ag2]
    split
    · rename_i hg
      rcases tk_cases s p n (by omega) hp with ⟨m, rfl, hpm, e⟩ | e
      · rw [e]
        dsimp only
        rw [tk_seg2 s p m hpm, Int.toNat_natCast]
        exact agOk_fix s p m _ hpm (be_bounds _ _) (seg_be' s p m hpm)
      · rw [e]; exact agOk_bad s p _ 10 (by decide)
    · exact agOk_bad s p _ 1 (by decide)
  | 3, _ =>
    show AgOk s p ((Item.mk who 3 n y t).ag s p)
    rw [ag3]
    exact hU y hx
  | 4, _ =>
    show AgOk s p ((Item.mk who 4 n y t).ag s p)
    rw [ag4, zig_zag]
    exact hU _ (by omega)
  | 5, _ =>
    show AgOk s p ((Item.mk who 5 n y t).ag s p)
    rw [ag5]
    unfold rF
    rcases tk_cases s p 8 (by omega) hp with ⟨m, hm, hpm, e⟩ | e
    · obtain rfl : m = 8 := by omega
      rw [e]
      dsimp only
      rw [if_pos rfl, tk_seg2 s p 8 hpm]
      split
      · exact agOk_bad s p _ 4 (by decide)
      · rename_i hq
        have hfb : fbits (hiN (seg s p 8)) = hiN (seg s p 8) := by
          unfold fbits
          split
          · rename_i hn
            exact (Decidable.byContradiction fun h => hq ⟨hn, fun h2 => h h2.symm⟩)
          · rfl
        show AgOk s p (be 8 (fbits (hiN (seg s p 8))), p + 8, 0)
        rw [hfb]
        exact agOk_fix s p 8 _ hpm (be_bounds _ _) (seg_be' s p 8 hpm)
    · rw [e]; exact agOk_bad s p _ 10 (by decide)
  | 6, _ =>
    show AgOk s p ((Item.mk who 6 n y t).ag s p)
    rw [ag6]
    unfold rT
    split
    · exact agOk_bad s p _ 1 (by decide)
    · dsimp only
      have hb := rU_bad s p 0 n.toNat
      have hl := rU_le s p 0 n.toNat hp
      have hbk := rU_back s p n.toNat hp
      generalize rU s p 0 n.toNat = u at *
      obtain ⟨m, q, f⟩ := u
      dsimp only at hb hl hbk ⊢
      by_cases hf : f = 0
      · subst hf
        obtain ⟨h1, h2⟩ := hbk rfl
        rcases tk_cases s q m (by omega) hl with ⟨m', hm', hpm, e⟩ | e
        · obtain rfl : m' = m := by omega
          rw [e]
          dsimp only
          rw [if_pos rfl]
          have hsz : (s.extract q (q + m')).size = m' := by rw [ByteArray.size_extract]; omega
          refine ⟨fun _ => ⟨by show p ≤ q + m'; omega, hpm, fun z hz => ?_, ?_⟩, fun h => absurd rfl h⟩
          · rcases List.mem_append.1 hz with hz | hz
            · exact uv_bounds 10 _ (by rw [show (128 : Nat) ^ 10 = 1180591620717411303424 by decide, hsz]; omega) z hz
            · exact bytesOf_bounds _ z hz
          · show (uv 10 (s.extract q (q + m')).size ++ bytesOf (s.extract q (q + m'))).map Int.toNat = seg s p (q + m' - p)
            rw [List.map_append, bytesOf_nats, tk_seg2 s q m' hpm, hsz]
            show uvN 10 m' ++ _ = _
            rw [h1]
            unfold seg
            rw [show q + m' - p = (q - p) + m' by omega, List.take_add, List.drop_drop, show p + (q - p) = q by omega]
        · rw [e]; exact agOk_bad s p _ 10 (by decide)
      · rw [tk_err _ hf]
        exact agOk_bad s p _ f hf
  | 7, _ =>
    show AgOk s p ((Item.mk who 7 n y t).ag s p)
    rw [ag7]
    split
    · exact agOk_bad s p _ 1 (by decide)
    · rcases tk_cases s p n (by omega) hp with ⟨m, rfl, hpm, e⟩ | e
      · rw [e]
        dsimp only
        exact agOk_fix s p m _ hpm (bytesOf_bounds _) (by rw [bytesOf_nats, tk_seg2 s p m hpm])
      · rw [e]; exact agOk_bad s p _ 10 (by decide)
end Go.Proofs.Ytikfdfagnalmbaa.My
