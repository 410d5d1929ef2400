/- What is put is taken as it was; what was cut off ends as short. No program in sight. -/
import Derived.Test.YtikfdfagnalmbaaIt2
import Derived.Test.YtikfdfagnalmbaaNats
namespace Go.Proofs.Ytikfdfagnalmbaa.My
open Go.RowKit Go.Proofs.YtikfdfagnalmbaaW.PrintWords Go.Proofs.YtikfdfagnalmbaaW.PrintLast Go.Proofs.YtikfdfagnalmbaaW.PrintMore Go.Proofs.Ytikfdfagnalmbaa
set_option linter.unusedSimpArgs false
set_option linter.unusedVariables false
set_option maxRecDepth 100000
set_option maxHeartbeats 1600000
def uvN (k v : Nat) : List Nat := (uv k v).map Int.toNat
theorem uvN_zero (v : Nat) : uvN 0 v = [v] := by simp [uvN, uv]
theorem uvN_succ (k v : Nat) : uvN (k + 1) v = if v < 128 then [v] else (v % 128 + 128) :: uvN k (v / 128) := by
  unfold uvN
  rw [uv]
  split
  · rfl
  · rfl
theorem uv_bounds : ∀ k v, v < 128 * 128 ^ k → ∀ x ∈ uv k v, 0 ≤ x ∧ x < 256
  | 0, v, h, x, hx => by
    rw [uv] at hx
    have := List.mem_singleton.1 hx
    omega
  | k + 1, v, h, x, hx => by
    rw [uv] at hx
    split at hx
    · have := List.mem_singleton.1 hx
      omega
    · rcases List.mem_cons.1 hx with e | hx
      · omega
      · exact uv_bounds k (v / 128) (by rw [Nat.pow_succ] at h; omega) x hx
theorem pow9 (most v a i : Nat) (h : v * 128 ^ i + a ≤ most) (hm : most < 18446744073709551616) (hi : i = 9) : v ≤ 1 := by
  subst hi
  have e : (128 : Nat) ^ 9 = 9223372036854775808 := by decide
  rw [e] at h
  omega
theorem pow10 (most v a i : Nat) (h : v * 128 ^ i + a ≤ most) (hm : most < 18446744073709551616) (hi : i = 10) : v = 0 := by
  subst hi
  have e : (128 : Nat) ^ 10 = 1180591620717411303424 := by decide
  rw [e] at h
  omega
theorem uv_step (v a i : Nat) : v / 128 * 128 ^ (i + 1) + (a + v % 128 * 128 ^ i) = v * 128 ^ i + a := by
  have h : v * 128 ^ i = v / 128 * 128 ^ (i + 1) + v % 128 * 128 ^ i := by
    conv => lhs; rw [← Nat.div_add_mod v 128]
    rw [Nat.add_mul, Nat.pow_succ, Nat.mul_comm 128 (v / 128), Nat.mul_assoc, Nat.mul_comm 128]
  omega
theorem uL_uv (most : Nat) (hm : most < 18446744073709551616) (R : List Nat) : ∀ (k i v a : Nat), i + k = 10 → v * 128 ^ i + a ≤ most → (0 < i → 0 < v) → uL most k i a (uvN k v ++ R) = (0, v * 128 ^ i + a, i + (uvN k v).length)
  | 0, i, v, a, hi, h, hv => by
    have h1 := pow10 most v a i h hm (by omega)
    have h2 := hv (by omega)
    omega
  | k + 1, i, v, a, hi, h, hv => by
    rw [uvN_succ]
    by_cases h128 : v < 128
    · rw [if_pos h128, List.singleton_append, uL, if_neg (fun h9 => by have := pow9 most v a i h hm h9.1; omega), if_neg (by omega), Nat.mod_eq_of_lt h128, if_neg (by rintro (h0 | h0); (have := hv h0.2; omega); omega), Nat.add_comm]
      rfl
    · have hs := uv_step v a i
      have h2 : (v % 128 + 128) % 128 = v % 128 := by omega
      rw [if_neg h128, List.cons_append, uL, if_neg (fun h9 => by have := pow9 most v a i h hm h9.1; omega), if_pos (by omega), h2, uL_uv most hm R k (i + 1) (v / 128) (a + v % 128 * 128 ^ i) (by omega) (by omega) (by omega), hs, List.length_cons]
      congr 2
      omega
theorem uL_cut (most : Nat) (hm : most < 18446744073709551616) : ∀ (k i v a : Nat) (l r : List Nat), i + k = 10 → v * 128 ^ i + a ≤ most → (0 < i → 0 < v) → uvN k v = l ++ r → r ≠ [] → uL most k i a l = (10, 0, 0)
  | 0, i, v, a, l, r, hi, h, hv, _, _ => by
    have h1 := pow10 most v a i h hm (by omega)
    have h2 := hv (by omega)
    omega
  | k + 1, i, v, a, [], r, hi, h, hv, _, _ => by rw [uL]
  | k + 1, i, v, a, c :: l, r, hi, h, hv, he, hr => by
    rw [uvN_succ] at he
    by_cases h128 : v < 128
    · rw [if_pos h128, List.cons_append] at he
      have := (List.cons.inj he).2
      cases l with
      | nil => exact absurd this.symm hr
      | cons _ _ => cases this
    · rw [if_neg h128, List.cons_append] at he
      obtain ⟨hc, hl⟩ := List.cons.inj he
      have hs := uv_step v a i
      have h2 : (v % 128 + 128) % 128 = v % 128 := by omega
      rw [← hc, uL, if_neg (fun h9 => by have := pow9 most v a i h hm h9.1; omega), if_pos (by omega), h2]
      exact uL_cut most hm k (i + 1) (v / 128) _ l r (by omega) (by omega) (by omega) hl hr
theorem tk_seg {s : ByteArray} {P F R : List Nat} (h : natsOf s = P ++ (F ++ R)) : tk s P.length 0 F.length = (s.extract P.length (P.length + F.length), true, P.length + F.length, 0) ∧ natsOf (s.extract P.length (P.length + F.length)) = F := by
  have hl := congrArg List.length h
  rw [natsOf_len, List.length_append, List.length_append] at hl
  refine ⟨tk_ok F.length (by omega), ?_⟩
  rw [natsOf_extract, Nat.add_sub_cancel_left]
  exact seg_of h rfl rfl
theorem tk_cut {s : ByteArray} {P l : List Nat} {n : Nat} (h : natsOf s = P ++ l) (hn : l.length < n) : tk s P.length 0 n = (⟨#[]⟩, false, P.length, 10) := by
  have hl := congrArg List.length h
  rw [natsOf_len, List.length_append] at hl
  exact tk_short n (by omega)
theorem rU_ok {s : ByteArray} {P R : List Nat} {v most : Nat} (h : natsOf s = P ++ (uvN 10 v ++ R)) (hv : v ≤ most) (hm : most < 18446744073709551616) : rU s P.length 0 most = (v, P.length + (uvN 10 v).length, 0) := by
  unfold rU uRead
  rw [if_pos rfl, h, List.drop_left, uL_uv most hm R 10 0 v 0 rfl (by simpa using hv) (fun h => absurd h (Nat.lt_irrefl 0))]
  simp
theorem rU_cut {s : ByteArray} {P l r : List Nat} {v most : Nat} (h : natsOf s = P ++ l) (he : uvN 10 v = l ++ r) (hr : r ≠ []) (hv : v ≤ most) (hm : most < 18446744073709551616) : rU s P.length 0 most = (0, P.length, 10) := by
  unfold rU uRead
  rw [if_pos rfl, h, List.drop_left, uL_cut most hm 10 0 v 0 l r rfl (by simpa using hv) (fun h => absurd h (Nat.lt_irrefl 0)) he hr]
  simp
theorem rU_err (s : ByteArray) (p : Nat) {e : Int} (most : Nat) (he : e ≠ 0) : rU s p e most = (0, p, e) := if_neg he
theorem zag_zig (v : Int) : zag (zig v) = v := by
  unfold zag zig
  split
  · rw [if_pos (by omega)]; omega
  · rw [if_neg (by omega)]; omega
theorem quiet_nan : nanB 9221120237041090560 = true := by decide +kernel
theorem fbits_ok (v : Nat) : ¬ (nanB (fbits v) = true ∧ fbits v ≠ 9221120237041090560) ∧ sameF (fbits v) v = true := by
  unfold fbits
  by_cases h : nanB v = true
  · rw [if_pos h]
    refine ⟨fun h => h.2 rfl, ?_⟩
    unfold sameF
    rw [quiet_nan, h]; rfl
  · rw [if_neg h]
    refine ⟨fun h2 => h h2.1, ?_⟩
    unfold sameF
    simp
theorem fbits_lt (v : Nat) (h : v < 18446744073709551616) : fbits v < 256 ^ 8 := by
  unfold fbits
  have e : (256 : Nat) ^ 8 = 18446744073709551616 := by decide
  split <;> omega
theorem beN2 (v : Nat) (h : v < 65536) : beN 2 v = [v / 256, v % 256] := by
  rw [beN_succ, beN_one _ (by omega)]; rfl
theorem i16_ofInt (z : Int) : BitVec.ofInt 16 (IntKind.i16.wrap z) = BitVec.ofInt 16 z := by
  rw [i16_wrap]
  apply BitVec.eq_of_toInt_eq
  rw [BitVec.toInt_ofInt, BitVec.toInt_ofInt]
  rw [Int.bmod_def, Int.bmod_def]
  omega
theorem small_back (T : ByteArray) (v : Nat) (h : natsOf T = beN 2 (v % 65536)) : small16 T = IntKind.i16.wrap (v : Int) := by
  obtain ⟨a, b, ha, hb, hv⟩ : ∃ a b : Nat, a < 256 ∧ b < 256 ∧ v % 65536 = a * 256 + b := ⟨v % 65536 / 256, v % 65536 % 256, by omega, by omega, by omega⟩
  unfold small16
  rw [h, beN2 _ (by omega), show v % 65536 / 256 = a by omega, show v % 65536 % 256 = b by omega]
  show IntKind.i16.wrap ((BitVec.ofInt 16 (IntKind.i16.wrap (IntKind.i16.wrap ((a : Nat) : Int) * 256)) ||| BitVec.ofInt 16 (IntKind.i16.wrap ((b : Nat) : Int))).toNat : Int) = _
  have e1 : BitVec.ofInt 16 (IntKind.i16.wrap (IntKind.i16.wrap ((a : Nat) : Int) * 256)) = BitVec.ofNat 16 (a * 256) := by
    rw [i16_ofInt]
    apply BitVec.eq_of_toNat_eq
    rw [BitVec.toNat_ofInt, BitVec.toNat_ofNat, i16_wrap]
    omega
  have e2 : BitVec.ofInt 16 (IntKind.i16.wrap ((b : Nat) : Int)) = BitVec.ofNat 16 b := by
    rw [i16_ofInt, BitVec.ofInt_natCast]
  have e3 : (BitVec.ofNat 16 (a * 256) ||| BitVec.ofNat 16 b).toNat = a * 256 + b := by
    rw [BitVec.toNat_or, BitVec.toNat_ofNat, BitVec.toNat_ofNat, Nat.mod_eq_of_lt (by omega), Nat.mod_eq_of_lt (by omega)]
    exact nat_join 8 (a * 256) b (by omega) (by omega)
  rw [e1, e2, e3, i16_wrap, i16_wrap]
  omega
/-- What an item puts, as numbers. -/
def Item.outN (x : Item) : List Nat := x.out.map Int.toNat
theorem out_bounds (x : Item) (hx : x.Ok) : ∀ z ∈ x.out, 0 ≤ z ∧ z < 256 := by
  obtain ⟨who, kind, n, y, t⟩ := x
  obtain ⟨hy, hn0, hn1, ht⟩ := hx
  dsimp only at hy ht
  have hU : ∀ u, u < 18446744073709551616 → ∀ z ∈ uv 10 u, 0 ≤ z ∧ z < 256 := fun u hu => uv_bounds 10 u (by rw [show (128 : Nat) ^ 10 = 1180591620717411303424 by decide]; omega)
  by_cases hk : kind < 0 ∨ 7 < kind
  · rw [out9 _ _ _ _ _ hk]; simp
  obtain ⟨k, rfl⟩ := Int.eq_ofNat_of_zero_le (show 0 ≤ kind by omega)
  have h8 : k < 8 := by omega
  clear hk
  match k, h8 with
  | 0, _ => show ∀ z ∈ (Item.mk who 0 n y t).out, _; rw [out0]; intro z hz; have := List.mem_singleton.1 hz; omega
  | 1, _ => show ∀ z ∈ (Item.mk who 1 n y t).out, _; rw [out1]; exact be_bounds _ _
  | 2, _ =>
    show ∀ z ∈ (Item.mk who 2 n y t).out, _
    rw [out2]
    split
    · exact be_bounds _ _
    · simp
  | 3, _ => show ∀ z ∈ (Item.mk who 3 n y t).out, _; rw [out3]; exact hU y hy
  | 4, _ => show ∀ z ∈ (Item.mk who 4 n y t).out, _; rw [out4]; exact hU _ (zig_lt _ (wrap_bd _).1 (wrap_bd _).2)
  | 5, _ => show ∀ z ∈ (Item.mk who 5 n y t).out, _; rw [out5]; exact be_bounds _ _
  | 6, _ =>
    show ∀ z ∈ (Item.mk who 6 n y t).out, _
    rw [out6]
    intro z hz
    rcases List.mem_append.1 hz with hz | hz
    · exact hU _ (by omega) z hz
    · exact bytesOf_bounds _ z hz
  | 7, _ => show ∀ z ∈ (Item.mk who 7 n y t).out, _; rw [out7]; exact bytesOf_bounds _
theorem str_beq (a b : ByteArray) (h : natsOf a = natsOf b) : (a.toList == b.toList) = true := by
  rw [natsOf_inj h]; exact beq_self_eq_true _
theorem extract_nats {s : ByteArray} {P F R : List Nat} {p n : Nat} (h : natsOf s = P ++ (F ++ R)) (hp : P.length = p) (hn : F.length = n) : natsOf (s.extract p (p + n)) = F := by
  rw [natsOf_extract, Nat.add_sub_cancel_left]
  exact seg_of h hp hn
/-- What is put is taken as it was. -/
theorem bk_ok (x : Item) (hx : x.Ok) (hf : x.fits = true) (P R : List Nat) (s : ByteArray) (h : natsOf s = P ++ (x.outN ++ R)) : x.bk s P.length 0 = (true, P.length + x.outN.length, 0) := by
  obtain ⟨who, kind, n, y, t⟩ := x
  obtain ⟨hy, hn0, hn1, ht⟩ := hx
  dsimp only at hy ht
  have hk : 0 ≤ kind ∧ kind < 8 := by
    unfold Item.fits at hf
    dsimp only at hf
    split at hf
    · omega
    · have := of_decide_eq_true hf; omega
  obtain ⟨k, rfl⟩ := Int.eq_ofNat_of_zero_le hk.1
  have h8 : k < 8 := by omega
  clear hk
  unfold Item.outN at h ⊢
  match k, h8, hf, h with
  | 0, _, _, h =>
    replace h : natsOf s = P ++ ((Item.mk who 0 n y t).out.map Int.toNat ++ R) := h
    show (Item.mk who 0 n y t).bk s P.length 0 = (true, P.length + ((Item.mk who 0 n y t).out.map Int.toNat).length, 0)
    rw [out0] at h ⊢
    have h2 : natsOf s = P ++ ([y % 256] ++ R) := h
    obtain ⟨e1, e2⟩ := tk_seg h2
    rw [bk0, show tk s P.length 0 1 = _ from e1]
    dsimp only
    rw [e2, show hiN [y % 256] = y % 256 by simp [hiN]]
    refine Prod.ext ?_ rfl
    show (((y % 256 : Nat) : Int) % 256 == IntKind.u8.wrap y) = true
    rw [beq_iff_eq, IntKind.wrap_u8]
    omega
  | 1, _, _, h =>
    replace h : natsOf s = P ++ ((Item.mk who 1 n y t).out.map Int.toNat ++ R) := h
    show (Item.mk who 1 n y t).bk s P.length 0 = (true, P.length + ((Item.mk who 1 n y t).out.map Int.toNat).length, 0)
    rw [out1] at h ⊢
    have h2 : natsOf s = P ++ (beN 2 (y % 65536) ++ R) := h
    obtain ⟨e1, e2⟩ := tk_seg h2
    rw [beN_len] at e1 e2
    rw [bk1, show tk s P.length 0 2 = _ from e1, List.length_map, be_len]
    refine Prod.ext ?_ rfl
    show (small16 _ == IntKind.i16.wrap y) = true
    rw [beq_iff_eq, small_back _ y e2]
  | 2, _, hf, h =>
    have hfx : (Item.mk who 2 n y t).fix := of_decide_eq_true hf
    obtain ⟨h1, h8, hv⟩ : 1 ≤ n ∧ n ≤ 8 ∧ y < 256 ^ n.toNat := (show _ from hfx)
    obtain ⟨m, rfl⟩ := Int.eq_ofNat_of_zero_le (show 0 ≤ n by omega)
    rw [Int.toNat_natCast] at hv
    replace h : natsOf s = P ++ ((Item.mk who 2 m y t).out.map Int.toNat ++ R) := h
    show (Item.mk who 2 m y t).bk s P.length 0 = (true, P.length + ((Item.mk who 2 m y t).out.map Int.toNat).length, 0)
    rw [out2, if_pos hfx, Int.toNat_natCast] at h ⊢
    have h2 : natsOf s = P ++ (beN m y ++ R) := h
    obtain ⟨e1, e2⟩ := tk_seg h2
    rw [beN_len] at e1 e2
    rw [bk2, e1, List.length_map, be_len]
    refine Prod.ext ?_ rfl
    show (((hiN (natsOf _) : Nat) : Int) == (y : Int)) = true
    rw [e2, hiN_beN m y hv, beq_self_eq_true]
  | 3, _, _, h =>
    replace h : natsOf s = P ++ ((Item.mk who 3 n y t).out.map Int.toNat ++ R) := h
    show (Item.mk who 3 n y t).bk s P.length 0 = (true, P.length + ((Item.mk who 3 n y t).out.map Int.toNat).length, 0)
    rw [out3] at h ⊢
    rw [bk3, rU_ok (v := y) h (Nat.le_refl _) hy]
    refine Prod.ext ?_ rfl
    exact beq_self_eq_true _
  | 4, _, _, h =>
    replace h : natsOf s = P ++ ((Item.mk who 4 n y t).out.map Int.toNat ++ R) := h
    show (Item.mk who 4 n y t).bk s P.length 0 = (true, P.length + ((Item.mk who 4 n y t).out.map Int.toNat).length, 0)
    rw [out4] at h ⊢
    have hz := zig_lt _ (wrap_bd y).1 (wrap_bd y).2
    rw [bk4, rU_ok (v := zig (wrap64 y)) h (by omega) (by omega)]
    refine Prod.ext ?_ rfl
    show (zag (zig (wrap64 y)) == IntKind.i64.wrap y) = true
    rw [zag_zig, i64_w, beq_self_eq_true]
  | 5, _, _, h =>
    replace h : natsOf s = P ++ ((Item.mk who 5 n y t).out.map Int.toNat ++ R) := h
    show (Item.mk who 5 n y t).bk s P.length 0 = (true, P.length + ((Item.mk who 5 n y t).out.map Int.toNat).length, 0)
    rw [out5] at h ⊢
    have h2 : natsOf s = P ++ (beN 8 (fbits y) ++ R) := h
    obtain ⟨e1, e2⟩ := tk_seg h2
    rw [beN_len] at e1 e2
    have e3 : rF s P.length 0 = (fbits y, P.length + 8, 0) := by
      unfold rF
      rw [show tk s P.length 0 8 = _ from e1]
      dsimp only
      rw [e2, hiN_beN 8 _ (fbits_lt y hy), if_pos rfl, if_neg (fbits_ok y).1]
    rw [bk5, e3, List.length_map, be_len]
    refine Prod.ext ?_ rfl
    exact (fbits_ok y).2
  | 6, _, _, h =>
    replace h : natsOf s = P ++ ((Item.mk who 6 n y t).out.map Int.toNat ++ R) := h
    show (Item.mk who 6 n y t).bk s P.length 0 = (true, P.length + ((Item.mk who 6 n y t).out.map Int.toNat).length, 0)
    rw [out6] at h ⊢
    rw [List.map_append, bytesOf_nats] at h ⊢
    have h2 : natsOf s = P ++ (uvN 10 t.size ++ (natsOf t ++ R)) := by rw [h, List.append_assoc]; rfl
    have h3 : natsOf s = (P ++ uvN 10 t.size) ++ (natsOf t ++ R) := by rw [h2, List.append_assoc]
    obtain ⟨e1, e2⟩ := tk_seg h3
    rw [natsOf_len, List.length_append] at e1 e2
    have e3 : rT s P.length 0 (t.size : Int) = (s.extract (P.length + (uvN 10 t.size).length) (P.length + (uvN 10 t.size).length + t.size), P.length + (uvN 10 t.size).length + t.size, 0) := by
      unfold rT
      rw [if_neg (by omega), Int.toNat_natCast, rU_ok h2 (Nat.le_refl _) (by omega)]
      dsimp only
      rw [e1, if_pos rfl]
    rw [bk6, e3, List.length_append, natsOf_len, ← Nat.add_assoc]
    refine Prod.ext ?_ rfl
    exact str_beq _ _ e2
  | 7, _, _, h =>
    replace h : natsOf s = P ++ ((Item.mk who 7 n y t).out.map Int.toNat ++ R) := h
    show (Item.mk who 7 n y t).bk s P.length 0 = (true, P.length + ((Item.mk who 7 n y t).out.map Int.toNat).length, 0)
    rw [out7] at h ⊢
    rw [bytesOf_nats] at h ⊢
    obtain ⟨e1, e2⟩ := tk_seg h
    rw [natsOf_len] at e1 e2
    rw [bk7, e1, natsOf_len]
    refine Prod.ext ?_ rfl
    exact str_beq _ _ e2
theorem bk_err (x : Item) (s : ByteArray) (p : Nat) (e : Int) (he : e ≠ 0) : (x.bk s p e).2 = (p, e) := by
  have hF : (rF s p e).2 = (p, e) := by
    unfold rF
    rw [tk_err 8 he]
    rfl
  have hT : (rT s p e (x.s.size : Int)).2 = (p, e) := by
    unfold rT
    rw [if_neg (by omega)]
    dsimp only
    rw [rU_err s p _ he]
    dsimp only
    rw [tk_err _ he]
    rfl
  unfold Item.bk
  repeat' split
  · rw [tk_err 1 he]
  · rw [tk_err 2 he]
  · rw [tk_err _ he]
  · rw [rU_err s p _ he]
  · rw [rU_err s p _ he]
  · exact hF
  · exact hT
  · rw [tk_err _ he]
theorem bk_cut (x : Item) (hx : x.Ok) (hf : x.fits = true) (P l r : List Nat) (s : ByteArray) (h : natsOf s = P ++ l) (hl : x.outN = l ++ r) (hr : r ≠ []) : (x.bk s P.length 0).2 = (P.length, 10) := by
  have hrl : 0 < r.length := List.length_pos_iff.2 hr
  obtain ⟨who, kind, n, y, t⟩ := x
  obtain ⟨hy, hn0, hn1, ht⟩ := hx
  dsimp only at hy ht
  have hk : 0 ≤ kind ∧ kind < 8 := by
    unfold Item.fits at hf
    dsimp only at hf
    split at hf
    · omega
    · have := of_decide_eq_true hf; omega
  obtain ⟨k, rfl⟩ := Int.eq_ofNat_of_zero_le hk.1
  have h8 : k < 8 := by omega
  clear hk
  unfold Item.outN at hl
  match k, h8, hf, hl with
  | 0, _, _, hl =>
    replace hl : (Item.mk who 0 n y t).out.map Int.toNat = l ++ r := hl
    show ((Item.mk who 0 n y t).bk s P.length 0).2 = _
    rw [out0] at hl
    have := congrArg List.length hl
    rw [List.length_append] at this
    have hc := tk_cut (n := 1) h (by simp at this; omega)
    rw [bk0, show tk s P.length 0 1 = _ from hc]
  | 1, _, _, hl =>
    replace hl : (Item.mk who 1 n y t).out.map Int.toNat = l ++ r := hl
    show ((Item.mk who 1 n y t).bk s P.length 0).2 = _
    rw [out1] at hl
    have := congrArg List.length hl
    rw [List.length_append, List.length_map, be_len] at this
    have hc := tk_cut (n := 2) h (by omega)
    rw [bk1, show tk s P.length 0 2 = _ from hc]
  | 2, _, hf, hl =>
    have hfx : (Item.mk who 2 n y t).fix := of_decide_eq_true hf
    obtain ⟨h1, h8, hv⟩ : 1 ≤ n ∧ n ≤ 8 ∧ y < 256 ^ n.toNat := (show _ from hfx)
    obtain ⟨m, rfl⟩ := Int.eq_ofNat_of_zero_le (show 0 ≤ n by omega)
    rw [Int.toNat_natCast] at hv
    replace hl : (Item.mk who 2 m y t).out.map Int.toNat = l ++ r := hl
    show ((Item.mk who 2 m y t).bk s P.length 0).2 = _
    rw [out2, if_pos hfx, Int.toNat_natCast] at hl
    have := congrArg List.length hl
    rw [List.length_append, List.length_map, be_len] at this
    have hc := tk_cut (n := m) h (by omega)
    rw [bk2, hc]
  | 3, _, _, hl =>
    replace hl : (Item.mk who 3 n y t).out.map Int.toNat = l ++ r := hl
    show ((Item.mk who 3 n y t).bk s P.length 0).2 = _
    rw [out3] at hl
    rw [bk3, rU_cut (v := y) h hl hr (Nat.le_refl _) hy]
  | 4, _, _, hl =>
    replace hl : (Item.mk who 4 n y t).out.map Int.toNat = l ++ r := hl
    show ((Item.mk who 4 n y t).bk s P.length 0).2 = _
    rw [out4] at hl
    have hz := zig_lt _ (wrap_bd y).1 (wrap_bd y).2
    rw [bk4, rU_cut (v := zig (wrap64 y)) h hl hr (by omega) (by omega)]
  | 5, _, _, hl =>
    replace hl : (Item.mk who 5 n y t).out.map Int.toNat = l ++ r := hl
    show ((Item.mk who 5 n y t).bk s P.length 0).2 = _
    rw [out5] at hl
    have := congrArg List.length hl
    rw [List.length_append, List.length_map, be_len] at this
    have hc := tk_cut (n := 8) h (by omega)
    rw [bk5]
    show (rF s P.length 0).2 = _
    unfold rF
    rw [show tk s P.length 0 8 = _ from hc]
    rfl
  | 6, _, _, hl =>
    replace hl : (Item.mk who 6 n y t).out.map Int.toNat = l ++ r := hl
    show ((Item.mk who 6 n y t).bk s P.length 0).2 = _
    rw [out6, List.map_append, bytesOf_nats] at hl
    rw [bk6]
    show (rT s P.length 0 (t.size : Int)).2 = _
    unfold rT
    rw [if_neg (by omega), Int.toNat_natCast]
    dsimp only
    rcases List.append_eq_append_iff.1 (show uvN 10 t.size ++ natsOf t = l ++ r from hl) with ⟨m, e1, e2⟩ | ⟨m, e1, e2⟩
    · have h2 : natsOf s = P ++ (uvN 10 t.size ++ m) := by rw [h, e1]
      have h3 : natsOf s = (P ++ uvN 10 t.size) ++ m := by rw [h2, List.append_assoc]
      have hn := congrArg List.length e2
      rw [natsOf_len, List.length_append] at hn
      have hc := tk_cut (n := t.size) h3 (by omega)
      rw [List.length_append] at hc
      rw [rU_ok h2 (Nat.le_refl _) (by omega)]
      dsimp only
      rw [hc]
      rfl
    · by_cases hm : m = []
      · subst hm
        rw [List.append_nil] at e1
        rw [List.nil_append] at e2
        have h2 : natsOf s = P ++ (uvN 10 t.size ++ []) := by rw [h, e1, List.append_nil]
        have h3 : natsOf s = (P ++ uvN 10 t.size) ++ [] := by rw [h, e1, List.append_nil]
        have hn := congrArg List.length e2
        rw [natsOf_len] at hn
        have hc := tk_cut (n := t.size) h3 (by simp; omega)
        rw [List.length_append] at hc
        rw [rU_ok h2 (Nat.le_refl _) (by omega)]
        dsimp only
        rw [hc]
        rfl
      · rw [rU_cut h e1 hm (Nat.le_refl _) (by omega)]
        dsimp only
        rw [tk_err _ (by decide)]
        rfl
  | 7, _, _, hl =>
    replace hl : (Item.mk who 7 n y t).out.map Int.toNat = l ++ r := hl
    show ((Item.mk who 7 n y t).bk s P.length 0).2 = _
    rw [out7, bytesOf_nats] at hl
    have := congrArg List.length hl
    rw [List.length_append, natsOf_len] at this
    have hc := tk_cut (n := t.size) h (by omega)
    rw [bk7, hc]
end Go.Proofs.Ytikfdfagnalmbaa.My
