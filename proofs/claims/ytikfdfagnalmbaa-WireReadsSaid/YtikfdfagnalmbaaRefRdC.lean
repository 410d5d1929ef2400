/- The document's Reader: contracts. -/
import Derived.Test.YtikfdfagnalmbaaRefRd
import Derived.Deep.RegionHeld3
namespace Go.Proofs.Ytikfdfagnalmbaa.My
open Go.RowKit Go.Proofs.YtikfdfagnalmbaaW.PrintWords Go.Proofs.YtikfdfagnalmbaaW.PrintLast Go.Proofs.YtikfdfagnalmbaaW.PrintMore Go.Proofs.Ytikfdfagnalmbaa Go.Proofs.Ytikfdfagnalmbaa.PWireReads
set_option linter.unusedSimpArgs false
set_option linter.unusedVariables false
set_option maxRecDepth 100000
set_option maxHeartbeats 1600000
def MS (w : World) (g : Nat) (s : ByteArray) (p : Nat) (e : Int) : Prop := w.heap[g]? = some (.cells #[.string s, .int .i64 p, .int .i64 e] 48 (0, 0))
theorem MS.cells {w : World} {g : Nat} {s : ByteArray} {p : Nat} {e : Int} (h : MS w g s p e) : w.cell? ⟨g, 0, none⟩ = some (.string s) ∧ w.cell? ⟨g, 1, none⟩ = some (.int .i64 p) ∧ w.cell? ⟨g, 2, none⟩ = some (.int .i64 e) ∧ w.frozen? ⟨g, 1, none⟩ = false ∧ w.frozen? ⟨g, 2, none⟩ = false :=
  ⟨(blk_cell h 0).trans rfl, (blk_cell h 1).trans rfl, (blk_cell h 2).trans rfl, blk_frozen h 1, blk_frozen h 2⟩
def w00 (w : World) : World := { w with heap := #[] }
theorem below00 (w : World) : Below (w00 w).heap.size (w00 w) w := ⟨rfl, rfl, rfl, Nat.zero_le _, fun k h => absurd h (Nat.not_lt_zero k)⟩
theorem alone00 {w w' : World} {g : Nat} (hb : Below (w00 w).heap.size (w00 w) w') (hk : KeepBut w w' g none) : Alone1 w w' g :=
  ⟨⟨hb.os, hb.tape, hb.output, hk.1, fun k h => absurd h (Nat.not_lt_zero k)⟩, fun k hne hlt => hk.2 k hlt hne (by simp)⟩
theorem MByte {w : World} {g : Nat} {s : ByteArray} {p : Nat} {e : Int} (h : MS w g s p e) (hp : p ≤ s.size) (hs : s.size ≤ 140737488351232) : Calls Try.prog 66 #[.pointer (some ⟨g, 0, none⟩)] w fun r w' => r = .returned (.int .u8 ((hiN (natsOf (tk s p e 1).1) : Nat) % 256 : Int)) ∧ MS w' g s (tk s p e 1).2.2.1 (tk s p e 1).2.2.2 ∧ Alone1 w w' g :=
  (concordref01_Reader_Byte.calls 100 g s p e _ _ _ _ (w00 w) w ⟨h, Nat.zero_le _⟩ (below00 w) (rbyte_f s p e hp hs 100 (by omega))).mono fun r w' ⟨h1, h2, h3, h4⟩ => ⟨h1, h2.1, alone00 h3 h4⟩
theorem MSmall {w : World} {g : Nat} {s : ByteArray} {p : Nat} {e : Int} (h : MS w g s p e) (hp : p ≤ s.size) (hs : s.size ≤ 140737488351232) : Calls Try.prog 67 #[.pointer (some ⟨g, 0, none⟩)] w fun r w' => r = .returned (.int .i16 (rSm (tk s p e 2))) ∧ MS w' g s (tk s p e 2).2.2.1 (tk s p e 2).2.2.2 ∧ Alone1 w w' g :=
  (concordref01_Reader_Small.calls 100 g s p e _ _ _ _ (w00 w) w ⟨h, Nat.zero_le _⟩ (below00 w) (rsmall_f s p e hp hs 100 (by omega))).mono fun r w' ⟨h1, h2, h3, h4⟩ => ⟨h1, h2.1, alone00 h3 h4⟩
theorem MFixed {w : World} {g : Nat} {s : ByteArray} {p : Nat} {e : Int} (h : MS w g s p e) (hp : p ≤ s.size) (hs : s.size ≤ 140737488351232) (n : Int) (hn1 : 1 ≤ n) (hn8 : n ≤ 8) : Calls Try.prog 68 #[.pointer (some ⟨g, 0, none⟩), .int .i64 n] w fun r w' => r = .returned (.int .u64 (hiN (natsOf (tk s p e n).1) : Nat)) ∧ MS w' g s (tk s p e n).2.2.1 (tk s p e n).2.2.2 ∧ Alone1 w w' g :=
  (concordref01_Reader_Fixed.calls 100 g s p e n _ _ _ _ (w00 w) w ⟨h, Nat.zero_le _⟩ (below00 w) (rfixed_f s p e n hp hs hn1 hn8 100 (by omega))).mono fun r w' ⟨h1, h2, h3, h4⟩ => ⟨h1, h2.1, alone00 h3 h4⟩
theorem MFixed_bad {w : World} {g : Nat} {s : ByteArray} {p : Nat} {e : Int} (h : MS w g s p e) (n : Int) (hn : n < 1 ∨ 8 < n) : Calls Try.prog 68 #[.pointer (some ⟨g, 0, none⟩), .int .i64 n] w fun r w' => r = .returned (.int .u64 0) ∧ MS w' g s p (fe e 1) ∧ Alone1 w w' g :=
  (concordref01_Reader_Fixed.calls 100 g s p e n _ _ _ _ (w00 w) w ⟨h, Nat.zero_le _⟩ (below00 w) (rfixed_bad s p e n hn 100 (by omega))).mono fun r w' ⟨h1, h2, h3, h4⟩ => ⟨h1, h2.1, alone00 h3 h4⟩
theorem MUint {w : World} {g : Nat} {s : ByteArray} {p : Nat} {e : Int} (h : MS w g s p e) (hp : p ≤ s.size) (hs : s.size ≤ 140737488351232) (most : Nat) : Calls Try.prog 69 #[.pointer (some ⟨g, 0, none⟩), .int .u64 most] w fun r w' => r = .returned (.int .u64 (rU s p e most).1) ∧ MS w' g s (rU s p e most).2.1 (rU s p e most).2.2 ∧ Alone1 w w' g :=
  (concordref01_Reader_Uint.calls 100 g s p e most _ _ _ _ (w00 w) w ⟨h, Nat.zero_le _⟩ (below00 w) (rU_f s p e most hp hs 100 (by omega))).mono fun r w' ⟨h1, h2, h3, h4⟩ => ⟨h1, h2.1, alone00 h3 h4⟩
theorem MInt {w : World} {g : Nat} {s : ByteArray} {p : Nat} {e : Int} (h : MS w g s p e) (hp : p ≤ s.size) (hs : s.size ≤ 140737488351232) : Calls Try.prog 70 #[.pointer (some ⟨g, 0, none⟩)] w fun r w' => r = .returned (.int .i64 (zag (rU s p e 18446744073709551615).1)) ∧ MS w' g s (rU s p e 18446744073709551615).2.1 (rU s p e 18446744073709551615).2.2 ∧ Alone1 w w' g :=
  (concordref01_Reader_Int.calls 100 g s p e _ _ _ _ (w00 w) w ⟨h, Nat.zero_le _⟩ (below00 w) (rInt_f s p e hp hs 100 (by omega))).mono fun r w' ⟨h1, h2, h3, h4⟩ => ⟨h1, h2.1, alone00 h3 h4⟩
theorem MText {w : World} {g : Nat} {s : ByteArray} {p : Nat} {e : Int} (h : MS w g s p e) (hp : p ≤ s.size) (hs : s.size ≤ 140737488351232) (most : Int) (hm : most < 9223372036854775808) : Calls Try.prog 72 #[.pointer (some ⟨g, 0, none⟩), .int .i64 most] w fun r w' => r = .returned (.string (rT s p e most).1) ∧ MS w' g s (rT s p e most).2.1 (rT s p e most).2.2 ∧ Alone1 w w' g :=
  (concordref01_Reader_Text.calls 100 g s p e most _ _ _ _ (w00 w) w ⟨h, Nat.zero_le _⟩ (below00 w) (rText_f s p e most hp hs hm 100 (by omega))).mono fun r w' ⟨h1, h2, h3, h4⟩ => ⟨h1, h2.1, alone00 h3 h4⟩
theorem MRaw {w : World} {g : Nat} {s : ByteArray} {p : Nat} {e : Int} (h : MS w g s p e) (hp : p ≤ s.size) (hs : s.size ≤ 140737488351232) (n : Int) (hn : n < 9223372036854775808) : Calls Try.prog 73 #[.pointer (some ⟨g, 0, none⟩), .int .i64 n] w fun r w' => r = .returned (.string (tk' s p e n).1) ∧ MS w' g s (tk' s p e n).2.2.1 (tk' s p e n).2.2.2 ∧ Alone1 w w' g :=
  (concordref01_Reader_Raw.calls 100 g s p e n _ _ _ _ (w00 w) w ⟨h, Nat.zero_le _⟩ (below00 w) (rraw_f s p e n hp hs hn 100 (by omega))).mono fun r w' ⟨h1, h2, h3, h4⟩ => ⟨h1, h2.1, alone00 h3 h4⟩
theorem MFail {w : World} {g : Nat} {s : ByteArray} {p : Nat} {e : Int} (h : MS w g s p e) (n : Int) : Calls Try.prog 74 #[.pointer (some ⟨g, 0, none⟩), .int .i64 n] w fun r w' => r = .returned (.tuple #[]) ∧ MS w' g s p (fe e n) ∧ Alone1 w w' g :=
  (concordref01_Reader_Fail.calls g s p e n _ _ _ (w00 w) w ⟨h, Nat.zero_le _⟩ (below00 w) (by rw [concordref01_Reader_Fail.f, rfail_f]; rfl)).mono fun r w' ⟨h1, h2, h3, h4⟩ => ⟨h1, h2.1, alone00 h3 h4⟩
theorem Mfail {w : World} {g : Nat} {s : ByteArray} {p : Nat} {e : Int} (h : MS w g s p e) (n : Int) : Calls Try.prog 83 #[.pointer (some ⟨g, 0, none⟩), .int .i64 n] w fun r w' => r = .returned (.tuple #[]) ∧ MS w' g s p (fe e n) ∧ Alone1 w w' g :=
  (concordref01_Reader_fail.calls g s p e n _ _ _ (w00 w) w ⟨h, Nat.zero_le _⟩ (below00 w) (rfail_f s p e n)).mono fun r w' ⟨h1, h2, h3, h4⟩ => ⟨h1, h2.1, alone00 h3 h4⟩
/-- What End answers. -/
def rE (s : ByteArray) (p : Nat) (e : Int) : Int := if e = 0 then (if p < s.size then 12 else 0) else e
theorem MEnd {w : World} {g : Nat} {s : ByteArray} {p : Nat} {e : Int} (h : MS w g s p e) : Calls Try.prog 29 #[.pointer (some ⟨g, 0, none⟩)] w fun r w' => r = .returned (.int .i64 (rE s p e)) ∧ MS w' g s p e ∧ Alone1 w w' g :=
  (concordref01_Reader_End.calls g s p e _ _ _ _ (w00 w) w ⟨h, Nat.zero_le _⟩ (below00 w) (by
    unfold concordref01_Reader_End.f rE
    by_cases he : e = 0
    · subst he
      rw [if_pos rfl, if_pos rfl]
      by_cases hl : p < s.size
      · rw [if_pos (show (p : Int) < (s.size : Int) by omega), if_pos hl]
      · rw [if_neg (show ¬ (p : Int) < (s.size : Int) by omega), if_neg hl]
    · rw [if_neg he, if_neg he])).mono fun r w' ⟨h1, h2, h3, h4⟩ => ⟨h1, h2.1, alone00 h3 h4⟩
theorem Mwhole (t : ByteArray) (h8 : t.size ≤ 8) (w : World) : Calls Try.prog 82 #[.string t] w fun r w' => r = .returned (.int .u64 ((hiN (natsOf t) : Nat) : Int)) ∧ ∃ m, w' = w.drewN m :=
  (concordref01_whole.calls 100 t _ w (whole_f t h8 100 (by omega))).mono fun r w' ⟨h1, m, h2⟩ => ⟨h1, m, by first | exact h2 | exact h2.symm⟩
theorem rF_uni (s : ByteArray) (p : Nat) (e : Int) : rF s p e = (if nanB (hiN (natsOf (tk s p e 8).1)) = true ∧ hiN (natsOf (tk s p e 8).1) ≠ 9221120237041090560 then (0, p, 4) else (hiN (natsOf (tk s p e 8).1), (tk s p e 8).2.2.1, (tk s p e 8).2.2.2)) ∧ (nanB (hiN (natsOf (tk s p e 8).1)) = true → (tk s p e 8).2.2.2 = 0) := by
  have h0 := tk_no s p e 8
  have hf : (tk s p e 8).2.1 = true → (tk s p e 8).2.2.2 = 0 := by
    unfold tk
    split
    · split
      · intro _; rfl
      · intro h; cases h
    · intro h; cases h
  unfold rF
  dsimp only
  generalize tk s p e 8 = t at *
  obtain ⟨t, b, q, f⟩ := t
  dsimp only at *
  have hn0 : nanB 0 = false := by rfl
  cases b with
  | true => exact ⟨by rw [if_pos rfl], fun _ => hf rfl⟩
  | false =>
    rw [h0 rfl, hiN_nil, hn0, if_neg (by decide), if_neg (by rintro ⟨h, _⟩; cases h)]
    exact ⟨rfl, fun h => by cases h⟩
theorem MFloat {w : World} {g : Nat} {s : ByteArray} {p : Nat} {e : Int} (h : MS w g s p e) (hp : p ≤ s.size) (hs : s.size ≤ 140737488351232) : Calls Try.prog 71 #[.pointer (some ⟨g, 0, none⟩)] w fun r w' => r = .returned (.float .f64 (rF s p e).1) ∧ MS w' g s (rF s p e).2.1 (rF s p e).2.2 ∧ Alone1 w w' g := by
  obtain ⟨hu, hz⟩ := rF_uni s p e
  rw [hu]
  have HT := Aside0.mk (MRaw h hp hs 8 (by omega))
  have hx := tk_size s p e 8
  rw [show tk' s p e 8 = tk s p e 8 from if_neg (by omega)] at HT
  generalize tk s p e 8 = t at HT hx hz ⊢
  clear hu
  obtain ⟨t, b, q, f⟩ := t
  dsimp only at HT hx hz ⊢
  have hx8 : t.size ≤ 8 := by omega
  have HH := Aside0.mk (fun w => Mwhole t hx8 w)
  generalize hiN (natsOf t) = n at HH hz ⊢
  have hfb := frombits_run n
  have c1 := h.cells.2.1
  have HM := Aside0.mk h
  clear hx hx8 h
  cases hbn : nanB n with
  | false =>
    have ho : FloatKind.f64.format.order n n = some .eq := by unfold nanB at hbn; exact bne_eq_false_iff_eq.1 hbn
    rw [if_neg (by rintro ⟨h, _⟩; cases h)]
    clear hbn hz
    go_enter Try.func71, Try.ntmps71
    go_wp2_with fail
    refine HT.out.mono ?_
    rintro e w1 ⟨rfl, hr1, ha1⟩
    go_wp2_with fail
    refine (HH.out _).mono ?_
    rintro e w2 ⟨rfl, m, rfl⟩
    go_wp2_with fail
    go_ret
    exact ⟨rfl, hr1, ha1.trans (Alone1_drewN _ _ _)⟩
  | true =>
    have ho : (FloatKind.f64.format.order n n != some .eq) = true := by unfold nanB at hbn; exact hbn
    obtain rfl : f = 0 := hz hbn
    clear hbn hz
    by_cases hc : n = 9221120237041090560
    · rw [if_neg (fun h => h.2 hc)]
      have hne' : ((n : Int) == 9221120237041090560) = true := by rw [beq_iff_eq]; omega
      have hne2 : ((n : Int) != 9221120237041090560) = false := by rw [bne_eq_false_iff_eq]; omega
      clear hc
      go_enter Try.func71, Try.ntmps71
      go_wp2_with fail
      refine HT.out.mono ?_
      rintro e w1 ⟨rfl, hr1, ha1⟩
      go_wp2_with fail
      refine (HH.out _).mono ?_
      rintro e w2 ⟨rfl, m, rfl⟩
      go_wp2_with fail
      refine (HH.out _).mono ?_
      rintro e w2 ⟨rfl, m2, rfl⟩
      go_wp2_with fail
      go_ret
      exact ⟨rfl, hr1, ha1.trans (Alone1_drewN _ _ _)⟩
    · rw [if_pos ⟨rfl, hc⟩]
      have hne' : ((n : Int) == 9221120237041090560) = false := by rw [beq_eq_false_iff_ne]; omega
      have hne2 : ((n : Int) != 9221120237041090560) = true := by rw [bne_iff_ne]; omega
      clear hc
      go_enter Try.func71, Try.ntmps71
      go_wp2_with fail
      refine HT.out.mono ?_
      rintro e w1 ⟨rfl, hr1, ha1⟩
      go_wp2_with fail
      refine (HH.out _).mono ?_
      rintro e w2 ⟨rfl, m, rfl⟩
      go_wp2_with fail
      refine (HH.out _).mono ?_
      rintro e w2 ⟨rfl, m2, rfl⟩
      have hr2 : MS ((w1.drewN m).drewN m2) g s q 0 := hr1
      have ha2 := (ha1.trans (Alone1_drewN _ m _)).trans (Alone1_drewN _ m2 _)
      clear hr1 ha1
      generalize (w1.drewN m).drewN m2 = W2 at hr2 ha2 ⊢
      obtain ⟨k0, k1, k2, z1, z2⟩ := hr2.cells
      have HR2 := Aside0.mk hr2
      clear hr2
      go_wp2_with fail
      refine (Mfail (p := p) (e := 0) (blk_set HR2.out 1 (.int .i64 (p : Int))) 4).mono ?_
      rintro e w3 ⟨rfl, hr3, ha3⟩
      go_wp2_with fail
      go_ret
      exact ⟨rfl, hr3, (ha2.trans ((Alone_set W2 0 g 1 _)).one).trans ha3⟩
end Go.Proofs.Ytikfdfagnalmbaa.My
