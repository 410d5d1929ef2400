/- The document's stands and length, of any bytes. The document's may, of any bytes. The sum ahead: the document's may, of any bytes. The document's may: it answers whether a frame may come. The document's Splitter in memory: Feed, Left. The document's Next, of any bytes. The law's feeds and asks. -/
import Derived.Test.YtgboppgghidgbaaFrScan
import Derived.Test.YtgboppgghidgbaaFrRefAll
import Derived.Test.YtgboppgghidgbaaPSx4
import Derived.Test.YtgboppgghidgbaaFrNextA
import Derived.StillTailTactics
import Derived.Test.YtgboppgghidgbaaPHx1
import Derived.Test.YtgboppgghidgbaaPSx5
namespace Go.Proofs.Ytgboppgghidgbaa.My
open Go.RowKit Go.Proofs.YtgboppgghidgbaaW.PrintWords Go.Proofs.YtgboppgghidgbaaW.PrintLast Go.Proofs.YtgboppgghidgbaaW.PrintMore Go.Proofs.Ytgboppgghidgbaa Go.Proofs.Ytgboppgghidgbaa.PS
set_option linter.unusedSimpArgs false
set_option linter.unusedVariables false
set_option maxRecDepth 100000
set_option maxHeartbeats 800000
theorem length_f (t : ByteArray) (h : 4 ≤ t.size) : concordref21_length.f t = some ((nOf t : Nat) : Int) := by
  have hx := ext2 t (by omega)
  have hb2 : (t[2]).toNat < 256 := (t[2]).toNat_lt
  have hb3 : (t[3]'(by omega)).toNat < 256 := (t[3]'(by omega)).toNat_lt
  have e2 : bt t 2 = ((t[2]).toNat : Int) := by
    unfold bt
    rw [show (2 : Int).toNat = 2 from rfl, dif_pos (by omega)]
  have e3 : bt t 3 = ((t[3]'(by omega)).toNat : Int) := by
    unfold bt
    rw [show (3 : Int).toNat = 3 from rfl, dif_pos (by omega)]
  unfold nOf
  rw [concordref21_length.f, if_pos (by omega), if_pos (by omega), e2, e3, hx]
  congr 1
  unfold wrap64
  omega
/-- A frame stands here: what 'stands' answers. -/
theorem stands_f (t : ByteArray) (hs : t.size ≤ 140737488351232) (k : Nat) (hk : 2 ≤ k) (h : StP t) : ∃ a b c d e tt g hh bd, decT (t.extract 0 (nOf t)) = (a, b, c, d, e, tt, g, hh, bd, 0) ∧ concordref21_stands.f k t = some (a, b, c, d, e, tt, g, hh, bd, ((nOf t : Nat) : Int), true) := by
  obtain ⟨k, rfl⟩ : ∃ j, k = j + 1 := ⟨k - 1, by omega⟩
  obtain ⟨h1, h2, hd⟩ := h
  obtain ⟨a, b, c, d, e, tt, g, hh, bd, hdec⟩ : ∃ a b c d e tt g hh bd, decT (t.extract 0 (nOf t)) = (a, b, c, d, e, tt, g, hh, bd, 0) := ⟨_, _, _, _, _, _, _, _, _, by unfold decT; rw [if_pos hd]⟩
  refine ⟨a, b, c, d, e, tt, g, hh, bd, hdec, ?_⟩
  have hx : (t.extract 0 (nOf t)).size ≤ t.size := by rw [ByteArray.size_extract]; omega
  have hD : concordref21_Decode.f (t.extract 0 (nOf t)) = some (a, b, c, d, e, tt, g, hh, bd, 0) := by rw [concordref21_Decode.f, if_pos (by omega), hdec]
  rw [concordref21_stands.f, if_neg (by omega), length_f t (by omega), Option.bind_some, decide_eq_false (by omega), concordref21_stands.j0, if_neg (by decide), length_f t (by omega), Option.bind_some, if_pos (by omega), if_pos (by omega), Int.toNat_natCast, hD]
  rfl
theorem stands_no (t : ByteArray) (hs : t.size ≤ 140737488351232) (k : Nat) (hk : 2 ≤ k) (h : ¬ StP t) : ∃ a b c d e tt g hh bd n, concordref21_stands.f k t = some (a, b, c, d, e, tt, g, hh, bd, n, false) := by
  obtain ⟨k, rfl⟩ : ∃ j, k = j + 1 := ⟨k - 1, by omega⟩
  rw [concordref21_stands.f]
  by_cases h34 : t.size < 34
  · rw [if_pos (by omega), concordref21_stands.j0, if_pos rfl]
    exact ⟨_, _, _, _, _, _, _, _, _, _, rfl⟩
  · rw [if_neg (by omega), length_f t (by omega), Option.bind_some]
    by_cases hn : t.size < nOf t
    · rw [decide_eq_true (by omega), concordref21_stands.j0, if_pos rfl]
      exact ⟨_, _, _, _, _, _, _, _, _, _, rfl⟩
    · have hd : ¬ DecOk (t.extract 0 (nOf t)) := fun hd => h ⟨by omega, by omega, hd⟩
      have hx : (t.extract 0 (nOf t)).size ≤ t.size := by rw [ByteArray.size_extract]; omega
      have hD : concordref21_Decode.f (t.extract 0 (nOf t)) = some (0, 0, 0, 0, 0, 0, 0, false, ⟨#[]⟩, 210) := by rw [concordref21_Decode.f, if_pos (by omega), decT_bad _ hd]
      rw [decide_eq_false (by omega), concordref21_stands.j0, if_neg (by decide), length_f t (by omega), Option.bind_some, if_pos (by omega), if_pos (by omega), Int.toNat_natCast, hD]
      exact ⟨_, _, _, _, _, _, _, _, _, _, rfl⟩
end Go.Proofs.Ytgboppgghidgbaa.My
namespace Go.Proofs.Ytgboppgghidgbaa.My
open Go.RowKit Go.Proofs.YtgboppgghidgbaaW.PrintWords Go.Proofs.YtgboppgghidgbaaW.PrintLast Go.Proofs.YtgboppgghidgbaaW.PrintMore Go.Proofs.Ytgboppgghidgbaa
set_option linter.unusedSimpArgs false
set_option linter.unusedVariables false
set_option maxRecDepth 100000
set_option maxHeartbeats 1600000
attribute [local go_sem] max2_int min2_int max_two min_two
theorem may0 (w : World) : Calls Try.prog 64 #[.string ⟨#[]⟩] w fun r w' => r = .returned (.bool false) ∧ Below w.heap.size w w' := by
  go_enter Try.func64, Try.ntmps64
  go_wp2_with fail
  go_quiet (fail)
  go_wp2_with fail
  go_ret
  exact ⟨rfl, by repeat (first | exact Below.refl _ _ | apply pw_below_drewN | apply below_drew1)⟩
theorem mayN1 (t : ByteArray) (ht : t.size ≤ 65536) (h0 : t.size = 1) (hk : MkB t = false) (w : World) : Calls Try.prog 64 #[.string t] w fun r w' => r = .returned (.bool false) ∧ Below w.heap.size w w' := by
  have h0b : ((t.size : Int) == 0) = false := by rw [beq_eq_false_iff_ne]; omega
  have hmn : mn (t.size : Int) 2 = 1 := by unfold mn; split <;> omega
  have hkb : ((t.extract 0 1).toList == ((⟨#[157, 227]⟩ : ByteArray).extract 0 1).toList) = false := by
    unfold MkB at hk
    rw [show min t.size 2 = 1 by omega] at hk
    rw [beq_eq_false_iff_ne] at hk ⊢; exact fun e => hk e.symm
  clear hk
  go_enter Try.func64, Try.ntmps64
  go_wp2_with fail
  go_quiet (fail)
  go_wp2_with fail
  go_ret
  exact ⟨rfl, by repeat (first | exact Below.refl _ _ | apply pw_below_drewN | apply below_drew1)⟩
theorem mayN2 (t : ByteArray) (ht : t.size ≤ 65536) (h0 : t.size = 2) (hk : MkB t = false) (w : World) : Calls Try.prog 64 #[.string t] w fun r w' => r = .returned (.bool false) ∧ Below w.heap.size w w' := by
  have h0b : ((t.size : Int) == 0) = false := by rw [beq_eq_false_iff_ne]; omega
  have hmn : mn (t.size : Int) 2 = 2 := by unfold mn; split <;> omega
  have hkb : ((t.extract 0 2).toList == ((⟨#[157, 227]⟩ : ByteArray).extract 0 2).toList) = false := by
    unfold MkB at hk
    rw [show min t.size 2 = 2 by omega] at hk
    rw [beq_eq_false_iff_ne] at hk ⊢; exact fun e => hk e.symm
  clear hk
  go_enter Try.func64, Try.ntmps64
  go_wp2_with fail
  go_quiet (fail)
  go_wp2_with fail
  go_ret
  exact ⟨rfl, by repeat (first | exact Below.refl _ _ | apply pw_below_drewN | apply below_drew1)⟩
theorem mayN3 (t : ByteArray) (ht : t.size ≤ 65536) (h0 : 2 < t.size) (hk : MkB t = false) (w : World) : Calls Try.prog 64 #[.string t] w fun r w' => r = .returned (.bool false) ∧ Below w.heap.size w w' := by
  have h0b : ((t.size : Int) == 0) = false := by rw [beq_eq_false_iff_ne]; omega
  have hmn : mn (t.size : Int) 2 = 2 := by unfold mn; split <;> omega
  have hi2 : (2 : Int) < (t.size : Int) := by omega
  have hkb : ((t.extract 0 2).toList == ((⟨#[157, 227]⟩ : ByteArray).extract 0 2).toList) = false := by
    unfold MkB at hk
    rw [show min t.size 2 = 2 by omega] at hk
    rw [beq_eq_false_iff_ne] at hk ⊢; exact fun e => hk e.symm
  clear hk
  go_enter Try.func64, Try.ntmps64
  go_wp2_with fail
  go_quiet (fail)
  go_wp2_with fail
  go_ret
  exact ⟨rfl, by repeat (first | exact Below.refl _ _ | apply pw_below_drewN | apply below_drew1)⟩
theorem mayC1 (t : ByteArray) (ht : t.size ≤ 65536) (h0 : t.size = 1) (hk : MkB t = true) (w : World) : Calls Try.prog 64 #[.string t] w fun r w' => r = .returned (.bool true) ∧ Below w.heap.size w w' := by
  have h0b : ((t.size : Int) == 0) = false := by rw [beq_eq_false_iff_ne]; omega
  have hmn : mn (t.size : Int) 2 = 1 := by unfold mn; split <;> omega
  have hkb : ((t.extract 0 1).toList == ((⟨#[157, 227]⟩ : ByteArray).extract 0 1).toList) = true := by
    unfold MkB at hk
    rw [show min t.size 2 = 1 by omega] at hk
    rw [beq_iff_eq] at hk ⊢; exact hk.symm
  clear hk
  go_enter Try.func64, Try.ntmps64
  go_wp2_with fail
  go_quiet (fail)
  go_wp2_with fail
  go_quiet (fail)
  go_wp2_with fail
  go_ret
  exact ⟨rfl, by repeat (first | exact Below.refl _ _ | apply pw_below_drewN | apply below_drew1)⟩
theorem mayC0 (t : ByteArray) (ht : t.size ≤ 65536) (h0 : t.size = 2) (hk : MkB t = true) (w : World) : Calls Try.prog 64 #[.string t] w fun r w' => r = .returned (.bool true) ∧ Below w.heap.size w w' := by
  have h0b : ((t.size : Int) == 0) = false := by rw [beq_eq_false_iff_ne]; omega
  have hmn : mn (t.size : Int) 2 = 2 := by unfold mn; split <;> omega
  have hkb : ((t.extract 0 2).toList == ((⟨#[157, 227]⟩ : ByteArray).extract 0 2).toList) = true := by
    unfold MkB at hk
    rw [show min t.size 2 = 2 by omega] at hk
    rw [beq_iff_eq] at hk ⊢; exact hk.symm
  clear hk
  go_enter Try.func64, Try.ntmps64
  go_wp2_with fail
  go_quiet (fail)
  go_wp2_with fail
  go_quiet (fail)
  go_wp2_with fail
  go_ret
  exact ⟨rfl, by repeat (first | exact Below.refl _ _ | apply pw_below_drewN | apply below_drew1)⟩
theorem mayC2 (t : ByteArray) (ht : t.size ≤ 65536) (h0 : 2 < t.size) (h4 : t.size < 4) (hk : MkB t = true) (w : World) : Calls Try.prog 64 #[.string t] w fun r w' => r = .returned (.bool true) ∧ Below w.heap.size w w' := by
  have h0b : ((t.size : Int) == 0) = false := by rw [beq_eq_false_iff_ne]; omega
  have hmn : mn (t.size : Int) 2 = 2 := by unfold mn; split <;> omega
  have hi2 : (2 : Int) < (t.size : Int) := by omega
  have hi8 : (t.size : Int) < 8 := by omega
  have hkb : ((t.extract 0 2).toList == ((⟨#[157, 227]⟩ : ByteArray).extract 0 2).toList) = true := by
    unfold MkB at hk
    rw [show min t.size 2 = 2 by omega] at hk
    rw [beq_iff_eq] at hk ⊢; exact hk.symm
  clear hk
  go_enter Try.func64, Try.ntmps64
  go_wp2_with fail
  go_quiet (fail)
  go_wp2_with fail
  go_quiet (fail)
  go_wp2_with fail
  go_ret
  exact ⟨rfl, by repeat (first | exact Below.refl _ _ | apply pw_below_drewN | apply below_drew1)⟩
theorem mayL1 (t : ByteArray) (ht : t.size ≤ 65536) (h4 : 4 ≤ t.size) (hk : MkB t = true) (hn : nOf t < 34) (w : World) : Calls Try.prog 64 #[.string t] w fun r w' => r = .returned (.bool false) ∧ Below w.heap.size w w' := by
  have h0b : ((t.size : Int) == 0) = false := by rw [beq_eq_false_iff_ne]; omega
  have hmn : mn (t.size : Int) 2 = 2 := by unfold mn; split <;> omega
  have hi2 : (2 : Int) < (t.size : Int) := by omega
  have hkb : ((t.extract 0 2).toList == ((⟨#[157, 227]⟩ : ByteArray).extract 0 2).toList) = true := by
    unfold MkB at hk
    rw [show min t.size 2 = 2 by omega] at hk
    rw [beq_iff_eq] at hk ⊢; exact hk.symm
  clear hk
  have hi4 : (4 : Int) ≤ (t.size : Int) := by omega
  have HL : Aside0 (∀ w : World, Calls Try.prog 68 #[.string t] w fun r w' => r = .returned (.int .i64 (nOf t : Nat)) ∧ Drawn0 w w') := ⟨fun w => PS.concordref21_length.calls t _ w (length_f t (by omega))⟩
  generalize nOf t = n at *
  go_enter Try.func64, Try.ntmps64
  go_wp2_with fail
  go_quiet (fail)
  go_wp2_with (first | (go_at_call 68; refine (HL.out _).mono ?_; rintro e_ w5 ⟨rfl, m5, rfl⟩))
  go_ret
  exact ⟨rfl, by repeat (first | exact Below.refl _ _ | apply pw_below_drewN | apply below_drew1)⟩
theorem mayL2 (t : ByteArray) (ht : t.size ≤ 65536) (h4 : 4 ≤ t.size) (hk : MkB t = true) (hn : 8192 < nOf t) (w : World) : Calls Try.prog 64 #[.string t] w fun r w' => r = .returned (.bool false) ∧ Below w.heap.size w w' := by
  have h0b : ((t.size : Int) == 0) = false := by rw [beq_eq_false_iff_ne]; omega
  have hmn : mn (t.size : Int) 2 = 2 := by unfold mn; split <;> omega
  have hi2 : (2 : Int) < (t.size : Int) := by omega
  have hkb : ((t.extract 0 2).toList == ((⟨#[157, 227]⟩ : ByteArray).extract 0 2).toList) = true := by
    unfold MkB at hk
    rw [show min t.size 2 = 2 by omega] at hk
    rw [beq_iff_eq] at hk ⊢; exact hk.symm
  clear hk
  have hi4 : (4 : Int) ≤ (t.size : Int) := by omega
  have HL : Aside0 (∀ w : World, Calls Try.prog 68 #[.string t] w fun r w' => r = .returned (.int .i64 (nOf t : Nat)) ∧ Drawn0 w w') := ⟨fun w => PS.concordref21_length.calls t _ w (length_f t (by omega))⟩
  generalize nOf t = n at *
  go_enter Try.func64, Try.ntmps64
  go_wp2_with fail
  go_quiet (fail)
  go_wp2_with (first | (go_at_call 68; refine (HL.out _).mono ?_; rintro e_ w5 ⟨rfl, m5, rfl⟩))
  go_ret
  exact ⟨rfl, by repeat (first | exact Below.refl _ _ | apply pw_below_drewN | apply below_drew1)⟩
theorem mayL3 (t : ByteArray) (ht : t.size ≤ 65536) (h4 : 4 ≤ t.size) (hk : MkB t = true) (hn : 34 ≤ nOf t) (hn2 : nOf t ≤ 8192) (hn3 : nOf t ≤ t.size) (w : World) : Calls Try.prog 64 #[.string t] w fun r w' => r = .returned (.bool false) ∧ Below w.heap.size w w' := by
  have h0b : ((t.size : Int) == 0) = false := by rw [beq_eq_false_iff_ne]; omega
  have hmn : mn (t.size : Int) 2 = 2 := by unfold mn; split <;> omega
  have hi2 : (2 : Int) < (t.size : Int) := by omega
  have hkb : ((t.extract 0 2).toList == ((⟨#[157, 227]⟩ : ByteArray).extract 0 2).toList) = true := by
    unfold MkB at hk
    rw [show min t.size 2 = 2 by omega] at hk
    rw [beq_iff_eq] at hk ⊢; exact hk.symm
  clear hk
  have hi4 : (4 : Int) ≤ (t.size : Int) := by omega
  have HL : Aside0 (∀ w : World, Calls Try.prog 68 #[.string t] w fun r w' => r = .returned (.int .i64 (nOf t : Nat)) ∧ Drawn0 w w') := ⟨fun w => PS.concordref21_length.calls t _ w (length_f t (by omega))⟩
  generalize nOf t = n at *
  go_enter Try.func64, Try.ntmps64
  go_wp2_with fail
  go_quiet (fail)
  go_wp2_with (first | (go_at_call 68; refine (HL.out _).mono ?_; rintro e_ w5 ⟨rfl, m5, rfl⟩))
  go_ret
  exact ⟨rfl, by repeat (first | exact Below.refl _ _ | apply pw_below_drewN | apply below_drew1)⟩
theorem mayC3 (t : ByteArray) (ht : t.size ≤ 65536) (h4 : 4 ≤ t.size) (h8 : t.size < 8) (hk : MkB t = true) (hn : 34 ≤ nOf t) (hn2 : nOf t ≤ 8192) (hn3 : t.size < nOf t) (w : World) : Calls Try.prog 64 #[.string t] w fun r w' => r = .returned (.bool true) ∧ Below w.heap.size w w' := by
  have h0b : ((t.size : Int) == 0) = false := by rw [beq_eq_false_iff_ne]; omega
  have hmn : mn (t.size : Int) 2 = 2 := by unfold mn; split <;> omega
  have hi2 : (2 : Int) < (t.size : Int) := by omega
  have hi8 : (t.size : Int) < 8 := by omega
  have hkb : ((t.extract 0 2).toList == ((⟨#[157, 227]⟩ : ByteArray).extract 0 2).toList) = true := by
    unfold MkB at hk
    rw [show min t.size 2 = 2 by omega] at hk
    rw [beq_iff_eq] at hk ⊢; exact hk.symm
  clear hk
  have hi4 : (4 : Int) ≤ (t.size : Int) := by omega
  have HL : Aside0 (∀ w : World, Calls Try.prog 68 #[.string t] w fun r w' => r = .returned (.int .i64 (nOf t : Nat)) ∧ Drawn0 w w') := ⟨fun w => PS.concordref21_length.calls t _ w (length_f t (by omega))⟩
  generalize nOf t = n at *
  go_enter Try.func64, Try.ntmps64
  go_wp2_with fail
  go_quiet (fail)
  go_wp2_with (first | (go_at_call 68; refine (HL.out _).mono ?_; rintro e_ w5 ⟨rfl, m5, rfl⟩))
  go_quiet (fail)
  go_wp2_with fail
  go_ret
  exact ⟨rfl, by repeat (first | exact Below.refl _ _ | apply pw_below_drewN | apply below_drew1)⟩
end Go.Proofs.Ytgboppgghidgbaa.My
namespace Go.Proofs.Ytgboppgghidgbaa.My
open Go.RowKit Go.Proofs.YtgboppgghidgbaaW.PrintWords Go.Proofs.YtgboppgghidgbaaW.PrintLast Go.Proofs.YtgboppgghidgbaaW.PrintMore Go.Proofs.Ytgboppgghidgbaa
set_option linter.unusedSimpArgs false
set_option linter.unusedVariables false
set_option maxRecDepth 100000
set_option maxHeartbeats 1600000
attribute [local go_sem] max2_int min2_int max_two min_two
def mayRT6 : Bool × List (List Nat × List Nat) := (true, [([], []), ([0], [0]), ([1], [1]), ([2], [2]), ([3, 2], [2, 3]), ([4, 2, 2], [2, 4]), ([5, 2], [2, 5]), ([6, 5, 2], [2, 6]), ([2], [2]), ([8, 2], [2, 8]), ([7, 9, 2], [2, 7, 9]), ([2, 10], [2, 10]), ([11, 7, 0, 1, 2, 3, 4, 5, 6, 7, 8, 9, 10, 11], [11])])
def mayRB6 : List Nat := [0, 1, 3, 7, 15, 31, 63, 127, 7, 263, 1023, 2047, 4095]
theorem mayRtab6 : rtab .any (opsOf Try.f64 6) = mayRT6 := by kernel_rfl
theorem mayRbits6 : waitsOk mayRT6.2 mayRB6 = true := by kernel_rfl
theorem mayC4 (t : ByteArray) (ht : t.size ≤ 65536) (h8 : 8 ≤ t.size) (hk : MkB t = true) (hn : 34 ≤ nOf t) (hn2 : nOf t ≤ 8192) (hn3 : t.size < nOf t) (q : Nat) (hq : Crc.sum (bytesN (t.extract 0 4)) = q) (hql : q < 4294967296) (z : ByteArray) (hz : PG.concordref01_Fixed.f 12 (q : Int) 4 = some z) (b : Bool) (hzb : (z.toList == (t.extract 4 8).toList) = b) (w : World) : Calls Try.prog 64 #[.string t] w fun r w' => r = .returned (.bool b) ∧ Below w.heap.size w w' := by
  have h0b : ((t.size : Int) == 0) = false := by rw [beq_eq_false_iff_ne]; omega
  have hmn : mn (t.size : Int) 2 = 2 := by unfold mn; split <;> omega
  have hi2 : (2 : Int) < (t.size : Int) := by omega
  have hi8 : ¬ (t.size : Int) < 8 := by omega
  have hi8b : (8 : Int) ≤ (t.size : Int) := by omega
  have hi8c : decide ((t.size : Int) < 8) = false := decide_eq_false (by omega)
  have hkb : ((t.extract 0 2).toList == ((⟨#[157, 227]⟩ : ByteArray).extract 0 2).toList) = true := by
    unfold MkB at hk
    rw [show min t.size 2 = 2 by omega] at hk
    rw [beq_iff_eq] at hk ⊢; exact hk.symm
  clear hk
  have hi4 : (4 : Int) ≤ (t.size : Int) := by omega
  have HL : Aside0 (∀ w : World, Calls Try.prog 68 #[.string t] w fun r w' => r = .returned (.int .i64 (nOf t : Nat)) ∧ Drawn0 w w') := ⟨fun w => PS.concordref21_length.calls t _ w (length_f t (by omega))⟩
  have HS : Aside0 (∀ w : World, Calls Try.prog 38 #[.string (t.extract 0 4)] w fun r w' => r = .returned (.int .u32 (q : Int)) ∧ Drawn0 w w') := ⟨fun w => concordref01_Sum.calls _ _ w (by rw [concordref01_Sum.f, sumF, if_pos (by rw [ByteArray.size_extract]; omega), hq])⟩
  have HF : Aside0 (∀ w : World, Calls Try.prog 37 #[.int .u64 (IntKind.u64.wrap (q : Int)), .int .i64 4] w fun r w' => r = .returned (.string z) ∧ Below w.heap.size w w') := ⟨fun w => by rw [wr_u64 q (by omega)]; exact PG.concordref01_Fixed.calls 12 _ _ _ w hz⟩
  clear hz hq
  generalize nOf t = n at *
  have HB := Aside0.mk (Below.refl w.heap.size w)
  have c28b0 := eq_true hi8b
  have c24b0 := eq_true hi4
  go_enter Try.func64, Try.ntmps64
  go_wp2_with fail
  go_quiet (fail)
  go_wp2_with (first | (go_at_call 68; refine (HL.out _).mono ?_; rintro e_ w5 ⟨rfl, m5, rfl⟩))
  refine start_ (n := 13) (S := fun w' => True) (ds := []) #[false, false, false, false, false, false, false, false, false, false, false, false, false] (by kernel_rfl) rfl rfl trivial (fun hHeld => ?_); refine with_tabW mayRtab6 mayRbits6 (fun HT_ HW_ => ?_)
  have HB := Aside0.mk (below_drew1 HB.out)
  generalize World.drew _ = w29 at HB hHeld ⊢
  refine pure_ (i := 0) (N := some 36) (v := ?_) (a' := ?_) #[true, false, false, false, false, false, false, false, false, false, false, false, false] rfl rfl (any_of HT_.out (by kernel_rfl)) (fun _ _ _ h => h) (Or.inl ⟨by rfl, ?_⟩) ?_ ?_
  rotate_left
  · intro w'
    go_simp
    with_reducible rfl
  rotate_left
  · simp only [Act.put, List.setIfInBounds_toArray, List.set_cons_zero, List.set_cons_succ, i64_w, i32_w]
    rfl
  refine pure_ (i := 1) (N := some 37) (v := ?_) (a' := ?_) #[true, true, false, false, false, false, false, false, false, false, false, false, false] rfl rfl (any_of HT_.out (by kernel_rfl)) (fun _ _ _ h => h) (Or.inl ⟨by rfl, ?_⟩) ?_ ?_
  rotate_left
  · intro w'
    go_simp
    with_reducible rfl
  rotate_left
  · simp only [Act.put, List.setIfInBounds_toArray, List.set_cons_zero, List.set_cons_succ, i64_w, i32_w]
    rfl
  refine pure_ (i := 2) (N := some 38) (v := ?_) (a' := ?_) #[true, true, true, false, false, false, false, false, false, false, false, false, false] rfl rfl (any_of HT_.out (by kernel_rfl)) (fun _ _ _ h => h) (Or.inl ⟨by rfl, ?_⟩) ?_ ?_
  rotate_left
  · intro w'
    go_simp
    with_reducible rfl
  rotate_left
  · simp only [Act.put, List.setIfInBounds_toArray, List.set_cons_zero, List.set_cons_succ, i64_w, i32_w]
    rfl
  refine pure_ (i := 3) (N := some 39) (v := ?_) (a' := ?_) #[true, true, true, true, false, false, false, false, false, false, false, false, false] rfl rfl (any_of HT_.out (by kernel_rfl)) (fun _ _ _ h => h) (Or.inl ⟨by rfl, ?_⟩) ?_ ?_
  rotate_left
  · intro w'
    go_simp
    with_reducible rfl
  rotate_left
  · simp only [Act.put, List.setIfInBounds_toArray, List.set_cons_zero, List.set_cons_succ, i64_w, i32_w]
    rfl
  refine pure_ (i := 4) (N := some 40) (v := ?_) (a' := ?_) #[true, true, true, true, true, false, false, false, false, false, false, false, false] rfl rfl (any_of HT_.out (by kernel_rfl)) (fun _ _ _ h => h) (Or.inl ⟨by rfl, ?_⟩) ?_ ?_
  rotate_left
  · intro w'
    go_simp
    with_reducible rfl
  rotate_left
  · simp only [Act.put, List.setIfInBounds_toArray, List.set_cons_zero, List.set_cons_succ, i64_w, i32_w]
    rfl
  refine pure_ (i := 8) (N := some 44) (v := ?_) (a' := ?_) #[true, true, true, true, true, false, false, false, true, false, false, false, false] rfl rfl (any_of HT_.out (by kernel_rfl)) (fun _ _ _ h => h) (Or.inl ⟨by rfl, ?_⟩) ?_ ?_
  rotate_left
  · intro w'
    go_simp
    with_reducible rfl
  rotate_left
  · simp only [Act.put, List.setIfInBounds_toArray, List.set_cons_zero, List.set_cons_succ, i64_w, i32_w]
    rfl
  refine pure_ (i := 9) (N := some 45) (v := ?_) (a' := ?_) #[true, true, true, true, true, false, false, false, true, true, false, false, false] rfl rfl (any_of HT_.out (by kernel_rfl)) (fun _ _ _ h => h) (Or.inl ⟨by rfl, ?_⟩) ?_ ?_
  rotate_left
  · intro w'
    go_simp
    with_reducible rfl
  rotate_left
  · simp only [Act.put, List.setIfInBounds_toArray, List.set_cons_zero, List.set_cons_succ, i64_w, i32_w]
    rfl
  refine one_ (i := 5) (N := some 41) #[true, true, true, true, true, true, false, false, true, true, false, false, false] rfl rfl (one_of HT_.out (by kernel_rfl)) (by decide) (fun K hK => ?_)
  refine goes_ Try.func38 (by kernel_rfl) rfl #[.string (t.extract 0 4)] (by rfl) rfl rfl (by (try simp only [List.map_toArray, List.map_cons, List.map_nil]); first | done | rfl | (simp only [List.length_drop, List.length_take]; rfl)) ?_
  with_reducible refine (HS.out _).mono ?_
  rintro e w' ⟨rfl, ⟨nd, rfl⟩⟩
  refine ⟨_, rfl, ?_⟩
  refine hK.out _ _ trivial (fun hHeld => ?_)
  clear hK K
  refine norm_ (a' := ?_) ?_ ?_
  rotate_left
  · show Act.put _ (some 41) _ = _
    simp only [Act.put, List.setIfInBounds_toArray, List.set_cons_zero, List.set_cons_succ, i64_w, i32_w]
    rfl
  refine pure_ (i := 6) (N := some 42) (v := ?_) (a' := ?_) #[true, true, true, true, true, true, true, false, true, true, false, false, false] rfl rfl (any_of HT_.out (by kernel_rfl)) (fun _ _ _ h => h) (Or.inl ⟨by rfl, ?_⟩) ?_ ?_
  rotate_left
  · intro w'
    go_simp
    with_reducible rfl
  rotate_left
  · simp only [Act.put, List.setIfInBounds_toArray, List.set_cons_zero, List.set_cons_succ, i64_w, i32_w]
    rfl
  refine one_ (i := 7) (N := some 43) #[true, true, true, true, true, true, true, true, true, true, false, false, false] rfl rfl (one_of HT_.out (by kernel_rfl)) (by decide) (fun K hK => ?_)
  refine goes_ Try.func37 (by kernel_rfl) rfl #[.int .u64 (IntKind.u64.wrap (q : Int)), .int .i64 4] (by rfl) rfl rfl (by (try simp only [List.map_toArray, List.map_cons, List.map_nil]); first | done | rfl | (simp only [List.length_drop, List.length_take]; rfl)) ?_
  with_reducible refine (HF.out _).mono ?_
  rintro e w30 ⟨rfl, hb⟩
  refine ⟨_, rfl, ?_⟩
  have n0_ := Aside0.mk (below_step (by repeat (first | (with_reducible first | exact HB.out | apply below_alloc | apply pw_below_drewN | apply below_drew1) | exact HB.out | exact Below.refl _ _)) hb)
  clear HB
  have HB := n0_
  clear n0_
  (try clear hb)
  (try clear hb2)
  (try clear hk)
  (try clear hi)
  refine hK.out _ _ trivial (fun hHeld => ?_)
  clear hK K
  refine norm_ (a' := ?_) ?_ ?_
  rotate_left
  · show Act.put _ (some 43) _ = _
    simp only [Act.put, List.setIfInBounds_toArray, List.set_cons_zero, List.set_cons_succ, i64_w, i32_w]
    rfl
  refine pure_ (i := 10) (N := some 46) (v := ?_) (a' := ?_) #[true, true, true, true, true, true, true, true, true, true, true, false, false] rfl rfl (any_of HT_.out (by kernel_rfl)) (fun _ _ _ h => h) (Or.inl ⟨by rfl, ?_⟩) ?_ ?_
  rotate_left
  · intro w'
    go_simp
    with_reducible rfl
  rotate_left
  · simp only [Act.put, List.setIfInBounds_toArray, List.set_cons_zero, List.set_cons_succ, i64_w, i32_w]
    rfl
  refine pure_ (i := 11) (N := some 47) (v := ?_) (a' := ?_) #[true, true, true, true, true, true, true, true, true, true, true, true, false] rfl rfl (any_of HT_.out (by kernel_rfl)) (fun _ _ _ h => h) (Or.inl ⟨by rfl, ?_⟩) ?_ ?_
  rotate_left
  · intro w'
    go_simp
    with_reducible rfl
  rotate_left
  · simp only [Act.put, List.setIfInBounds_toArray, List.set_cons_zero, List.set_cons_succ, i64_w, i32_w]
    rfl
  refine pure_ (i := 12) (N := some 2) (v := ?_) (a' := ?_) #[true, true, true, true, true, true, true, true, true, true, true, true, true] rfl rfl (any_of HT_.out (by kernel_rfl)) (fun _ _ _ h => h) (Or.inl ⟨by rfl, ?_⟩) ?_ ?_
  rotate_left
  · intro w'
    go_simp
    with_reducible rfl
  rotate_left
  · simp only [Act.put, List.setIfInBounds_toArray, List.set_cons_zero, List.set_cons_succ, i64_w, i32_w]
    rfl
  refine done_ (done_of HT_.out (by kernel_rfl)) ?_
  try go_wp2
  go_ret
  subst hzb
  exact ⟨rfl, by repeat (first | exact HB.out | exact Below.refl _ _ | apply pw_below_drewN | apply below_drew1)⟩
end Go.Proofs.Ytgboppgghidgbaa.My
namespace Go.Proofs.Ytgboppgghidgbaa.My
open Go.RowKit Go.Proofs.YtgboppgghidgbaaW.PrintWords Go.Proofs.YtgboppgghidgbaaW.PrintLast Go.Proofs.YtgboppgghidgbaaW.PrintMore Go.Proofs.Ytgboppgghidgbaa
set_option linter.unusedSimpArgs false
set_option linter.unusedVariables false
set_option maxRecDepth 100000
theorem mayC (t : ByteArray) (ht : t.size ≤ 65536) (b : Bool) (hb : b = true ↔ MayP t) (w : World) : Calls Try.prog 64 #[.string t] w fun r w' => r = .returned (.bool b) ∧ Below w.heap.size w w' := by
  have no : ¬ MayP t → b = false := fun h => by cases b with | false => rfl | true => exact absurd (hb.1 rfl) h
  by_cases h0 : t.size = 0
  · obtain rfl := no (fun h => h.1 h0)
    have e : t = ⟨#[]⟩ := by
      apply ByteArray.ext
      exact Array.eq_empty_of_size_eq_zero h0
    rw [e]
    exact may0 w
  · cases hk : MkB t with
    | false =>
      obtain rfl := no (fun h => absurd (hk.symm.trans h.2.1) (by decide))
      by_cases h1 : t.size = 1
      · exact mayN1 t ht h1 hk w
      · by_cases h2 : t.size = 2
        · exact mayN2 t ht h2 hk w
        · exact mayN3 t ht (by omega) hk w
    | true =>
      by_cases h4 : t.size < 4
      · obtain rfl := hb.2 ⟨h0, hk, .inl h4, by unfold sumOk; exact decide_eq_true (.inl (by omega))⟩
        by_cases h1 : t.size = 1
        · exact mayC1 t ht h1 hk w
        · by_cases h2 : t.size = 2
          · exact mayC0 t ht h2 hk w
          · exact mayC2 t ht (by omega) h4 hk w
      · by_cases hn : nOf t < 34
        · obtain rfl := no (fun h => by rcases h.2.2.1 with h | h <;> omega)
          exact mayL1 t ht (by omega) hk hn w
        · by_cases hn2 : 8192 < nOf t
          · obtain rfl := no (fun h => by rcases h.2.2.1 with h | h <;> omega)
            exact mayL2 t ht (by omega) hk hn2 w
          · by_cases hn3 : nOf t ≤ t.size
            · obtain rfl := no (fun h => by rcases h.2.2.1 with h | h <;> omega)
              exact mayL3 t ht (by omega) hk (by omega) (by omega) hn3 w
            · by_cases h8 : t.size < 8
              · obtain rfl := hb.2 ⟨h0, hk, .inr ⟨by omega, by omega, by omega⟩, by unfold sumOk; exact decide_eq_true (.inl h8)⟩
                exact mayC3 t ht (by omega) h8 hk (by omega) (by omega) (by omega) w
              · have hz : PG.concordref01_Fixed.f 12 ((Crc.sum (bytesN (t.extract 0 4)) : Nat) : Int) ((4 : Nat) : Int) = some (strOfNums (be 4 (Crc.sum (bytesN (t.extract 0 4))))) := fixed_f 4 _ 12 (Nat.lt_trans (sum_lt _) (by decide)) (by omega) (by omega)
                refine mayC4 t ht (by omega) hk (by omega) (by omega) (by omega) _ rfl (Nat.lt_of_lt_of_le (sum_lt _) (by decide)) _ hz b ?_ w
                have hq := sum_lt (t.extract 0 4)
                have e1 : natsOf (strOfNums (be 4 (Crc.sum (bytesN (t.extract 0 4))))) = beN 4 (Crc.sum (bytesN (t.extract 0 4))) := natsOf_str _ (be_bounds 4 _)
                have e2 : natsOf (t.extract 4 8) = beN 4 (fN t 4 4) := by
                  rw [← fN_ext t 4 4]
                  exact (hiN_bound _ (natsOf_lt _) 4 (by rw [natsOf_len, ByteArray.size_extract]; omega)).symm
                have e3 : MayP t ↔ Crc.sum (bytesN (t.extract 0 4)) = fN t 4 4 := by
                  constructor
                  · intro h
                    have h5 := h.2.2.2
                    unfold sumOk at h5
                    rcases of_decide_eq_true h5 with h5 | h5
                    · omega
                    · exact h5
                  · intro h
                    exact ⟨h0, hk, .inr ⟨by omega, by omega, by omega⟩, by unfold sumOk; exact decide_eq_true (.inr h)⟩
                rw [Bool.eq_iff_iff, hb, e3, beq_iff_eq]
                constructor
                · intro h
                  rw [ByteArray.toList_eq, ByteArray.toList_eq] at h
                  have h6 := ByteArray.ext (Array.toList_inj.1 h)
                  have h7 : hiN (natsOf (strOfNums (be 4 (Crc.sum (bytesN (t.extract 0 4)))))) = hiN (natsOf (t.extract 4 8)) := by rw [h6]
                  rw [e1, hiN_beN 4 _ (Nat.lt_of_lt_of_le hq (by decide))] at h7
                  rw [h7]
                  exact fN_ext t 4 4
                · intro h
                  congr 1
                  apply natsOf_inj
                  rw [e1, e2, h]
end Go.Proofs.Ytgboppgghidgbaa.My
namespace Go.Proofs.Ytgboppgghidgbaa.My
open Go.RowKit Go.Proofs.YtgboppgghidgbaaW.PrintWords Go.Proofs.YtgboppgghidgbaaW.PrintLast Go.Proofs.YtgboppgghidgbaaW.PrintMore Go.Proofs.Ytgboppgghidgbaa
set_option linter.unusedSimpArgs false
set_option linter.unusedVariables false
set_option maxRecDepth 100000
set_option maxHeartbeats 1600000
def RP (w : World) (g : Nat) (s : ByteArray) (p : Nat) : Prop := w.heap[g]? = some (.cells #[.string s, .int .i64 p] 46 (0, 0))
theorem RP.cells {w : World} {g : Nat} {s : ByteArray} {p : Nat} (h : RP w g s p) : w.cell? ⟨g, 0, none⟩ = some (.string s) ∧ w.cell? ⟨g, 1, none⟩ = some (.int .i64 p) ∧ w.frozen? ⟨g, 0, none⟩ = false ∧ w.frozen? ⟨g, 1, none⟩ = false :=
  ⟨(blk_cell h 0).trans rfl, (blk_cell h 1).trans rfl, blk_frozen h 0, blk_frozen h 1⟩
theorem RP.lt {w : World} {g : Nat} {s : ByteArray} {p : Nat} (h : RP w g s p) : g < w.heap.size := blk_lt h
theorem RP.below {w w' : World} {g : Nat} {s : ByteArray} {p : Nat} (h : RP w g s p) (hb : Below w.heap.size w w') : RP w' g s p := (hb.block g h.lt).trans h
theorem rpLeft {w : World} {g : Nat} {s : ByteArray} {p : Nat} (h : RP w g s p) : Calls Try.prog 49 #[.pointer (some ⟨g, 0, none⟩)] w fun r w' => r = .returned (.int .i64 s.size) ∧ w = w' := by
  obtain ⟨h0, h1, _, _⟩ := h.cells
  go_enter Try.func49, Try.ntmps49
  go_wp2_with fail
  go_ret
  exact ⟨rfl, rfl⟩
theorem rpLeft_nil (w : World) : Calls Try.prog 49 #[.pointer none] w fun r w' => r = .returned (.int .i64 0) ∧ w = w' := by
  go_enter Try.func49, Try.ntmps49
  go_wp2_with fail
  go_ret
  exact ⟨rfl, rfl⟩
theorem rpFeed_nil (b : ByteArray) (w : World) : Calls Try.prog 48 #[.pointer none, .string b] w fun r w' => r = .returned (.int .i64 2) ∧ w = w' := by
  go_enter Try.func48, Try.ntmps48
  go_wp2_with fail
  go_ret
  exact ⟨rfl, rfl⟩
theorem rpFeed_full {w : World} {g : Nat} {s : ByteArray} {p : Nat} (h : RP w g s p) (b : ByteArray) (hs : s.size ≤ 65536) (hb : b.size ≤ 140737488351232) (hf : 65536 < s.size + b.size) : Calls Try.prog 48 #[.pointer (some ⟨g, 0, none⟩), .string b] w fun r w' => r = .returned (.int .i64 3) ∧ w = w' := by
  obtain ⟨h0, h1, _, _⟩ := h.cells
  go_enter Try.func48, Try.ntmps48
  go_wp2_with fail
  go_ret
  exact ⟨rfl, rfl⟩
theorem rpFeed {w : World} {g : Nat} {s : ByteArray} {p : Nat} (h : RP w g s p) (b : ByteArray) (hf : s.size + b.size ≤ 65536) : Calls Try.prog 48 #[.pointer (some ⟨g, 0, none⟩), .string b] w fun r w' => r = .returned (.int .i64 0) ∧ RP w' g (s ++ b) p ∧ Alone w w' g := by
  obtain ⟨h0, h1, f0, _⟩ := h.cells
  have HR := Aside0.mk h
  clear h
  go_enter Try.func48, Try.ntmps48
  go_wp2_with fail
  go_ret
  exact ⟨rfl, blk_set HR.out 0 (.string (s ++ b)), Alone_set w 0 g 0 _⟩
end Go.Proofs.Ytgboppgghidgbaa.My
namespace Go.Proofs.Ytgboppgghidgbaa.My
open Go.RowKit Go.Proofs.YtgboppgghidgbaaW.PrintWords Go.Proofs.YtgboppgghidgbaaW.PrintLast Go.Proofs.YtgboppgghidgbaaW.PrintMore Go.Proofs.Ytgboppgghidgbaa
set_option linter.unusedSimpArgs false
set_option linter.unusedVariables false
set_option maxRecDepth 100000
set_option maxHeartbeats 4000000
theorem RP.far {w : World} {g : Nat} {s : ByteArray} {p : Nat} (h : RP w g s p) {a : Addr} (ha : g ≠ a.block) (u : Value) : RP (w.setCell a u) g s p := blk_far h ha u
theorem RP.alone {w w' : World} {g k : Nat} {s : ByteArray} {p : Nat} (h : RP w g s p) (ha : Alone w w' k) (hk : g ≠ k) : RP w' g s p := (ha.2.2 g hk).trans h
/-- At the loop's head. -/
def RxJ (w wr : World) (g gf : Nat) (s : ByteArray) (p i : Nat) : Prop := RP wr g s p ∧ scanF s 0 = scanF s i ∧ wr.heap[gf]? = some (.cells #[.int .u8 0, .int .u8 0, .int .u8 0, .int .u16 0, .int .u32 0, .int .u64 0, .int .u32 0, .bool false, .string ⟨#[]⟩] 28 (0, 0)) ∧ Amid w wr g
theorem RxJ.below {w wr w' : World} {g gf : Nat} {s : ByteArray} {p i : Nat} (h : RxJ w wr g gf s p i) (hb : Below wr.heap.size wr w') : RxJ w w' g gf s p i :=
  ⟨h.1.below hb, h.2.1, (hb.block _ (blk_lt h.2.2.1)).trans h.2.2.1, h.2.2.2.below hb⟩
theorem ext_frm (s : ByteArray) (i n : Nat) (h : i + n ≤ s.size) : (s.extract i s.size).extract 0 n = s.extract i (i + n) := by
  rw [ByteArray.extract_extract]
  congr 1
  omega
theorem ext_nil (s : ByteArray) : s.extract s.size s.size = ⟨#[]⟩ := by
  apply ByteArray.ext
  simp
theorem rpNext_any {w : World} {g : Nat} {s : ByteArray} {p : Nat} (h : RP w g s p) (hs : s.size ≤ 65536) (hp : p ≤ 70368744177664) : Calls Try.prog 50 #[.pointer (some ⟨g, 0, none⟩)] w fun r w' => r = .returned (nxA s p) ∧ RP w' g (nxS s) (nxP s p) ∧ Amid w w' g := by
  have hgl := h.lt
  go_enter Try.func50, Try.ntmps50
  go_wp2_with fail
  have hB := (Below.refl w.heap.size w).alloc (Nat.le_refl _) (.cells #[.int .u8 0, .int .u8 0, .int .u8 0, .int .u16 0, .int .u32 0, .int .u64 0, .int .u32 0, .bool false, .string ⟨#[]⟩] 28)
  have HJ : Aside0 (RxJ w (w.alloc (.cells #[.int .u8 0, .int .u8 0, .int .u8 0, .int .u16 0, .int .u32 0, .int .u64 0, .int .u32 0, .bool false, .string ⟨#[]⟩] 28)) g w.heap.size s p 0) := ⟨⟨h.below hB, rfl, zeroNew w, (Amid.refl w g).below hB⟩⟩
  clear hB h
  generalize w.alloc (.cells #[.int .u8 0, .int .u8 0, .int .u8 0, .int .u16 0, .int .u32 0, .int .u64 0, .int .u32 0, .bool false, .string ⟨#[]⟩] 28) = W at *
  have hge : w.heap.size ≤ w.heap.size := Nat.le_refl _
  generalize hgf : w.heap.size = gf at HJ hgl ⊢
  have hge : w.heap.size ≤ gf := Nat.le_of_eq hgf
  clear hgf
  go_loopw [5] (fun iv wr => ∃ i : Nat, i ≤ s.size ∧ iv = .int .i64 i ∧ Aside0 (RxJ w wr g gf s p i)) (fun iv _ => s.size - (intOf iv).toNat)
  case atStart => exact ⟨0, Nat.zero_le _, rfl, HJ⟩
  case round =>
    clear HJ
    obtain ⟨i, hi, rfl, HI⟩ := hrel
    obtain ⟨h0, h1, f0, f1⟩ := HI.out.1.cells
    by_cases hlt : i < s.size
    · have hlt2 : (i : Int) < (s.size : Int) := by omega
      have hT1 : (s.extract i s.size).size ≤ 65536 := by rw [ByteArray.size_extract]; omega
      by_cases hst : StP (s.extract i s.size)
      · have hsc : scanF s 0 = (i, 2) := HI.out.2.1.trans (scan_st s i hlt hst)
        have hn : i + nOf (s.extract i s.size) ≤ s.size := by have := hst.2.1; rw [ByteArray.size_extract] at this; omega
        have hn34 := hst.1
        obtain ⟨a, b, c, d, e, tt, gg, hh, bd, hdec, hstf⟩ := stands_f _ (by omega) 12 (by omega) hst
        rw [ext_frm s i _ hn] at hdec
        have HNA : Aside0 (nxA s p = .tuple #[.agg #[.int .u8 a, .int .u8 b, .int .u8 c, .int .u16 d, .int .u32 e, .int .u64 tt, .int .u32 gg, .bool hh, .string bd], .int .i64 ((p + i : Nat) : Int), .bool true]) := ⟨by
          unfold nxA
          rw [hsc, if_pos rfl, hdec]⟩
        have HNS : Aside0 (nxS s = s.extract (i + nOf (s.extract i s.size)) s.size) := ⟨by unfold nxS; rw [hsc, if_pos rfl]⟩
        have HNP : Aside0 (nxP s p = 0) := ⟨by unfold nxP; rw [hsc, if_pos rfl]⟩
        have HST := Aside0.mk (fun W : World => PS.concordref21_stands.calls 12 _ _ _ _ _ _ _ _ _ _ _ _ W hstf)
        clear hdec hstf hsc hst hn34
        generalize nOf (s.extract i s.size) = n at *
        go_wp2_with fail
        refine (HST.out _).mono ?_
        rintro e_ w3 ⟨rfl, hb1⟩
        have HI3 := Aside0.mk (HI.out.below hb1)
        clear HI h0 h1 f0 f1 hb1 HST
        have hB4 := (Below.refl w3.heap.size w3).alloc (Nat.le_refl _) (.cells #[.int .u8 a, .int .u8 b, .int .u8 c, .int .u16 d, .int .u32 e, .int .u64 tt, .int .u32 gg, .bool hh, .string bd] 28)
        have HI4 := Aside0.mk (HI3.out.below hB4)
        have hF4 := W_push w3 #[.int .u8 a, .int .u8 b, .int .u8 c, .int .u16 d, .int .u32 e, .int .u64 tt, .int .u32 gg, .bool hh, .string bd] 28 (0, 0)
        have hR3 := HI3.out.2.2.1
        have hne : gf < w3.heap.size := blk_lt hR3
        have hg3 : g < w3.heap.size := by omega
        obtain ⟨k0, k1, l0, l1⟩ := HI3.out.1.cells
        obtain ⟨h0, h1, f0, f1⟩ := HI4.out.1.cells
        clear hB4
        have qk0 : w3.cell? ⟨gf, 0, none⟩ = some (.int .u8 0) := (blk_cell hR3 0).trans rfl
        have qz0 : w3.frozen? ⟨gf, 0, none⟩ = false := blk_frozen hR3 0
        have qk1 : w3.cell? ⟨gf, 1, none⟩ = some (.int .u8 0) := (blk_cell hR3 1).trans rfl
        have qz1 : w3.frozen? ⟨gf, 1, none⟩ = false := blk_frozen hR3 1
        have qk2 : w3.cell? ⟨gf, 2, none⟩ = some (.int .u8 0) := (blk_cell hR3 2).trans rfl
        have qz2 : w3.frozen? ⟨gf, 2, none⟩ = false := blk_frozen hR3 2
        have qk3 : w3.cell? ⟨gf, 3, none⟩ = some (.int .u16 0) := (blk_cell hR3 3).trans rfl
        have qz3 : w3.frozen? ⟨gf, 3, none⟩ = false := blk_frozen hR3 3
        have qk4 : w3.cell? ⟨gf, 4, none⟩ = some (.int .u32 0) := (blk_cell hR3 4).trans rfl
        have qz4 : w3.frozen? ⟨gf, 4, none⟩ = false := blk_frozen hR3 4
        have qk5 : w3.cell? ⟨gf, 5, none⟩ = some (.int .u64 0) := (blk_cell hR3 5).trans rfl
        have qz5 : w3.frozen? ⟨gf, 5, none⟩ = false := blk_frozen hR3 5
        have qk6 : w3.cell? ⟨gf, 6, none⟩ = some (.int .u32 0) := (blk_cell hR3 6).trans rfl
        have qz6 : w3.frozen? ⟨gf, 6, none⟩ = false := blk_frozen hR3 6
        have qk7 : w3.cell? ⟨gf, 7, none⟩ = some (.bool false) := (blk_cell hR3 7).trans rfl
        have qz7 : w3.frozen? ⟨gf, 7, none⟩ = false := blk_frozen hR3 7
        have qk8 : w3.cell? ⟨gf, 8, none⟩ = some (.string ⟨#[]⟩) := (blk_cell hR3 8).trans rfl
        have qz8 : w3.frozen? ⟨gf, 8, none⟩ = false := blk_frozen hR3 8
        go_wp2_with fail
        try simp only [Exit.jump]
        clear h0 h1 f0 f1 k0 k1 l0 l1 qk0 qz0 qk1 qz1 qk2 qz2 qk3 qz3 qk4 qz4 qk5 qz5 qk6 qz6 qk7 qz7 qk8 qz8
        have hS5 : RP ((w3.setCell ⟨g, 0, none⟩ (.string (s.extract (i + n) s.size))).setCell ⟨g, 1, none⟩ (.int .i64 0)) g (s.extract (i + n) s.size) 0 := blk_set (blk_set HI3.out.1 0 (.string (s.extract (i + n) s.size))) 1 (.int .i64 0)
        have hA5 : Alone w3 ((w3.setCell ⟨g, 0, none⟩ (.string (s.extract (i + n) s.size))).setCell ⟨g, 1, none⟩ (.int .i64 0)) g := (Alone_set w3 0 g 0 (.string (s.extract (i + n) s.size))).trans (Alone_set _ 0 g 1 (.int .i64 0))
        generalize (w3.setCell ⟨g, 0, none⟩ (.string (s.extract (i + n) s.size))).setCell ⟨g, 1, none⟩ (.int .i64 0) = W5 at hS5 hA5 ⊢
        have hR5 := (hA5.2.2 gf (by omega)).trans hR3
        have hR6 := put9_row hR5 (.int .u8 a) (.int .u8 b) (.int .u8 c) (.int .u16 d) (.int .u32 e) (.int .u64 tt) (.int .u32 gg) (.bool hh) (.string bd)
        have hA6 := put9_alone W5 gf (.int .u8 a) (.int .u8 b) (.int .u8 c) (.int .u16 d) (.int .u32 e) (.int .u64 tt) (.int .u32 gg) (.bool hh) (.string bd)
        rw [put9_def]
        generalize put9 W5 gf (.int .u8 a) (.int .u8 b) (.int .u8 c) (.int .u16 d) (.int .u32 e) (.int .u64 tt) (.int .u32 gg) (.bool hh) (.string bd) = W6 at hR6 hA6 ⊢
        have hS6 := hS5.alone hA6 (by omega)
        have A6 : Amid w W6 g := (HI3.out.2.2.2.alone hA5).other hA6 hge
        have hB7 := (Below.refl W6.heap.size W6).alloc (Nat.le_refl _) (.cells #[.int .u8 a, .int .u8 b, .int .u8 c, .int .u16 d, .int .u32 e, .int .u64 tt, .int .u32 gg, .bool hh, .string bd] 28)
        have hR7 := (hB7.block _ (blk_lt hR6)).trans hR6
        have hS7 := hS6.below hB7
        have A7 := A6.below hB7
        generalize W6.alloc (.cells #[.int .u8 a, .int .u8 b, .int .u8 c, .int .u16 d, .int .u32 e, .int .u64 tt, .int .u32 gg, .bool hh, .string bd] 28) = W7 at hR7 hS7 A7 ⊢
        have yk0 : W7.cell? ⟨gf, 0, none⟩ = some (.int .u8 a) := (blk_cell hR7 0).trans rfl
        have yz0 : W7.frozen? ⟨gf, 0, none⟩ = false := blk_frozen hR7 0
        have yk1 : W7.cell? ⟨gf, 1, none⟩ = some (.int .u8 b) := (blk_cell hR7 1).trans rfl
        have yz1 : W7.frozen? ⟨gf, 1, none⟩ = false := blk_frozen hR7 1
        have yk2 : W7.cell? ⟨gf, 2, none⟩ = some (.int .u8 c) := (blk_cell hR7 2).trans rfl
        have yz2 : W7.frozen? ⟨gf, 2, none⟩ = false := blk_frozen hR7 2
        have yk3 : W7.cell? ⟨gf, 3, none⟩ = some (.int .u16 d) := (blk_cell hR7 3).trans rfl
        have yz3 : W7.frozen? ⟨gf, 3, none⟩ = false := blk_frozen hR7 3
        have yk4 : W7.cell? ⟨gf, 4, none⟩ = some (.int .u32 e) := (blk_cell hR7 4).trans rfl
        have yz4 : W7.frozen? ⟨gf, 4, none⟩ = false := blk_frozen hR7 4
        have yk5 : W7.cell? ⟨gf, 5, none⟩ = some (.int .u64 tt) := (blk_cell hR7 5).trans rfl
        have yz5 : W7.frozen? ⟨gf, 5, none⟩ = false := blk_frozen hR7 5
        have yk6 : W7.cell? ⟨gf, 6, none⟩ = some (.int .u32 gg) := (blk_cell hR7 6).trans rfl
        have yz6 : W7.frozen? ⟨gf, 6, none⟩ = false := blk_frozen hR7 6
        have yk7 : W7.cell? ⟨gf, 7, none⟩ = some (.bool hh) := (blk_cell hR7 7).trans rfl
        have yz7 : W7.frozen? ⟨gf, 7, none⟩ = false := blk_frozen hR7 7
        have yk8 : W7.cell? ⟨gf, 8, none⟩ = some (.string bd) := (blk_cell hR7 8).trans rfl
        have yz8 : W7.frozen? ⟨gf, 8, none⟩ = false := blk_frozen hR7 8
        refine bodyPost_ret (v := .tuple #[.agg #[.int .u8 a, .int .u8 b, .int .u8 c, .int .u16 d, .int .u32 e, .int .u64 tt, .int .u32 gg, .bool hh, .string bd], .int .i64 ((p + i : Nat) : Int), .bool true]) (by simp [results, Try.results50, go_sem, yk0, yk1, yk2, yk3, yk4, yk5, yk6, yk7, yk8]) rfl ⟨by rw [HNA.out], by rw [HNS.out, HNP.out]; exact hS7, A7⟩
      · obtain ⟨a, b, c, d, e, tt, gg, hh, bd, m, hstf⟩ := stands_no _ (by omega) 12 (by omega) hst
        have HST := Aside0.mk (fun W : World => PS.concordref21_stands.calls 12 _ _ _ _ _ _ _ _ _ _ _ _ W hstf)
        clear hstf
        by_cases hmy : MayP (s.extract i s.size)
        · have hsc : scanF s 0 = (i, 1) := HI.out.2.1.trans (scan_may s i hlt hst hmy)
          have HMY := Aside0.mk (fun W : World => mayC _ hT1 true ⟨fun _ => hmy, fun _ => rfl⟩ W)
          have HNA : Aside0 (nxA s p = .tuple #[zeroF, .int .i64 0, .bool false]) := ⟨by unfold nxA; rw [hsc, if_neg (by simp)]⟩
          have HNS : Aside0 (nxS s = s.extract i s.size) := ⟨by unfold nxS; rw [hsc, if_neg (by simp)]⟩
          have HNP : Aside0 (nxP s p = p + i) := ⟨by unfold nxP; rw [hsc, if_neg (by simp)]⟩
          clear hsc hmy hst
          go_wp2_with fail
          refine (HST.out _).mono ?_
          rintro e_ w3 ⟨rfl, hb1⟩
          have HI3 := Aside0.mk (HI.out.below hb1)
          clear HI h0 h1 f0 f1 hb1 HST
          have hB4 := (Below.refl w3.heap.size w3).alloc (Nat.le_refl _) (.cells #[.int .u8 a, .int .u8 b, .int .u8 c, .int .u16 d, .int .u32 e, .int .u64 tt, .int .u32 gg, .bool hh, .string bd] 28)
          have HI4 := Aside0.mk (HI3.out.below hB4)
          have hF4 := W_push w3 #[.int .u8 a, .int .u8 b, .int .u8 c, .int .u16 d, .int .u32 e, .int .u64 tt, .int .u32 gg, .bool hh, .string bd] 28 (0, 0)
          obtain ⟨h0, h1, f0, f1⟩ := HI4.out.1.cells
          clear hB4 HI3
          go_wp2_with fail
          generalize w3.alloc (.cells #[.int .u8 a, .int .u8 b, .int .u8 c, .int .u16 d, .int .u32 e, .int .u64 tt, .int .u32 gg, .bool hh, .string bd] 28) = w4 at *
          refine (HMY.out _).mono ?_
          rintro e_ w5 ⟨rfl, hb5⟩
          have HI5 := Aside0.mk (HI4.out.below hb5)
          clear HI4 h0 h1 f0 f1 hb5 HMY hF4
          obtain ⟨h0, h1, f0, f1⟩ := HI5.out.1.cells
          have hR5 := HI5.out.2.2.1
          have hS5 : RP ((w5.setCell ⟨g, 1, none⟩ (.int .i64 ((p + i : Nat) : Int))).setCell ⟨g, 0, none⟩ (.string (s.extract i s.size))) g (s.extract i s.size) (p + i) := blk_set (blk_set HI5.out.1 1 (.int .i64 ((p + i : Nat) : Int))) 0 (.string (s.extract i s.size))
          have hA5 : Alone w5 ((w5.setCell ⟨g, 1, none⟩ (.int .i64 ((p + i : Nat) : Int))).setCell ⟨g, 0, none⟩ (.string (s.extract i s.size))) g := (Alone_set w5 0 g 1 _).trans (Alone_set _ 0 g 0 _)
          have hA6 := HI5.out.2.2.2.alone hA5
          clear hA5
          have qk0 : w5.cell? ⟨gf, 0, none⟩ = some (.int .u8 0) := (blk_cell hR5 0).trans rfl
          have qz0 : w5.frozen? ⟨gf, 0, none⟩ = false := blk_frozen hR5 0
          have qk1 : w5.cell? ⟨gf, 1, none⟩ = some (.int .u8 0) := (blk_cell hR5 1).trans rfl
          have qz1 : w5.frozen? ⟨gf, 1, none⟩ = false := blk_frozen hR5 1
          have qk2 : w5.cell? ⟨gf, 2, none⟩ = some (.int .u8 0) := (blk_cell hR5 2).trans rfl
          have qz2 : w5.frozen? ⟨gf, 2, none⟩ = false := blk_frozen hR5 2
          have qk3 : w5.cell? ⟨gf, 3, none⟩ = some (.int .u16 0) := (blk_cell hR5 3).trans rfl
          have qz3 : w5.frozen? ⟨gf, 3, none⟩ = false := blk_frozen hR5 3
          have qk4 : w5.cell? ⟨gf, 4, none⟩ = some (.int .u32 0) := (blk_cell hR5 4).trans rfl
          have qz4 : w5.frozen? ⟨gf, 4, none⟩ = false := blk_frozen hR5 4
          have qk5 : w5.cell? ⟨gf, 5, none⟩ = some (.int .u64 0) := (blk_cell hR5 5).trans rfl
          have qz5 : w5.frozen? ⟨gf, 5, none⟩ = false := blk_frozen hR5 5
          have qk6 : w5.cell? ⟨gf, 6, none⟩ = some (.int .u32 0) := (blk_cell hR5 6).trans rfl
          have qz6 : w5.frozen? ⟨gf, 6, none⟩ = false := blk_frozen hR5 6
          have qk7 : w5.cell? ⟨gf, 7, none⟩ = some (.bool false) := (blk_cell hR5 7).trans rfl
          have qz7 : w5.frozen? ⟨gf, 7, none⟩ = false := blk_frozen hR5 7
          have qk8 : w5.cell? ⟨gf, 8, none⟩ = some (.string ⟨#[]⟩) := (blk_cell hR5 8).trans rfl
          have qz8 : w5.frozen? ⟨gf, 8, none⟩ = false := blk_frozen hR5 8
          go_wp2_with fail
          try simp only [Exit.jump]
          try simp only [← Int.natCast_add]
          refine bodyPost_ret (v := .tuple #[zeroF, .int .i64 0, .bool false]) (by simp [results, zeroF, Try.results50, go_sem, qk0, qk1, qk2, qk3, qk4, qk5, qk6, qk7, qk8]) rfl ⟨by rw [HNA.out], ?_, ?_⟩
          · rw [HNS.out, HNP.out]
            repeat (first | (with_reducible exact hS5) | refine RP.far ?_ (Nat.ne_of_lt hgl) _)
          · repeat (first | (with_reducible exact hA6) | refine Amid.set ?_ _ _ hge _)
        · have hsk := scan_skip s i hlt hst hmy
          have HMY := Aside0.mk (fun W : World => mayC _ hT1 false ⟨fun h => absurd h (by decide), fun h => absurd h hmy⟩ W)
          clear hmy hst
          go_wp2_with fail
          refine (HST.out _).mono ?_
          rintro e_ w3 ⟨rfl, hb1⟩
          have HI3 := Aside0.mk (HI.out.below hb1)
          clear HI h0 h1 f0 f1 hb1 HST
          have hB4 := (Below.refl w3.heap.size w3).alloc (Nat.le_refl _) (.cells #[.int .u8 a, .int .u8 b, .int .u8 c, .int .u16 d, .int .u32 e, .int .u64 tt, .int .u32 gg, .bool hh, .string bd] 28)
          have HI4 := Aside0.mk (HI3.out.below hB4)
          have hF4 := W_push w3 #[.int .u8 a, .int .u8 b, .int .u8 c, .int .u16 d, .int .u32 e, .int .u64 tt, .int .u32 gg, .bool hh, .string bd] 28 (0, 0)
          obtain ⟨h0, h1, f0, f1⟩ := HI4.out.1.cells
          clear hB4 HI3
          go_wp2_with fail
          generalize w3.alloc (.cells #[.int .u8 a, .int .u8 b, .int .u8 c, .int .u16 d, .int .u32 e, .int .u64 tt, .int .u32 gg, .bool hh, .string bd] 28) = w4 at *
          refine (HMY.out _).mono ?_
          rintro e_ w5 ⟨rfl, hb5⟩
          have HI5 := Aside0.mk (HI4.out.below hb5)
          clear HI4 h0 h1 f0 f1 hb5 HMY hF4
          obtain ⟨h0, h1, f0, f1⟩ := HI5.out.1.cells
          go_wp2_with fail
          go_roundw
          case rel => exact ⟨i + 1, by omega, by go_num, ⟨HI5.out.1, HI5.out.2.1.trans hsk, HI5.out.2.2.1, HI5.out.2.2.2⟩⟩
          case measure => simp [intOf]; omega
    · obtain rfl : i = s.size := by omega
      have hsc : scanF s 0 = (s.size, 0) := HI.out.2.1.trans (scan_end s)
      have HNA : Aside0 (nxA s p = .tuple #[zeroF, .int .i64 0, .bool false]) := ⟨by unfold nxA; rw [hsc, if_neg (by simp)]⟩
      have HNS : Aside0 (nxS s = ⟨#[]⟩) := ⟨by unfold nxS; rw [hsc, if_neg (by simp)]; exact ext_nil s⟩
      have HNP : Aside0 (nxP s p = p + s.size) := ⟨by unfold nxP; rw [hsc, if_neg (by simp)]⟩
      clear hsc
      go_wp2_with fail
      go_still_tail 13, (by kernel_rfl)
      change wpList _ _ _ _ _ wr.drew
      have HI5 : Aside0 (RxJ w wr.drew g gf s p s.size) := ⟨HI.out.1, HI.out.2.1, HI.out.2.2.1, HI.out.2.2.2.drewN 1⟩
      clear HI h0 h1 f0 f1
      generalize wr.drew = w5 at HI5 ⊢
      obtain ⟨h0, h1, f0, f1⟩ := HI5.out.1.cells
      have hR5 := HI5.out.2.2.1
      have hS5 : RP ((w5.setCell ⟨g, 1, none⟩ (.int .i64 ((p + s.size : Nat) : Int))).setCell ⟨g, 0, none⟩ (.string ⟨#[]⟩)) g ⟨#[]⟩ (p + s.size) := blk_set (blk_set HI5.out.1 1 (.int .i64 ((p + s.size : Nat) : Int))) 0 (.string ⟨#[]⟩)
      have hA5 : Alone w5 ((w5.setCell ⟨g, 1, none⟩ (.int .i64 ((p + s.size : Nat) : Int))).setCell ⟨g, 0, none⟩ (.string ⟨#[]⟩)) g := (Alone_set w5 0 g 1 _).trans (Alone_set _ 0 g 0 _)
      have hA6 := HI5.out.2.2.2.alone hA5
      clear hA5
      have qk0 : w5.cell? ⟨gf, 0, none⟩ = some (.int .u8 0) := (blk_cell hR5 0).trans rfl
      have qz0 : w5.frozen? ⟨gf, 0, none⟩ = false := blk_frozen hR5 0
      have qk1 : w5.cell? ⟨gf, 1, none⟩ = some (.int .u8 0) := (blk_cell hR5 1).trans rfl
      have qz1 : w5.frozen? ⟨gf, 1, none⟩ = false := blk_frozen hR5 1
      have qk2 : w5.cell? ⟨gf, 2, none⟩ = some (.int .u8 0) := (blk_cell hR5 2).trans rfl
      have qz2 : w5.frozen? ⟨gf, 2, none⟩ = false := blk_frozen hR5 2
      have qk3 : w5.cell? ⟨gf, 3, none⟩ = some (.int .u16 0) := (blk_cell hR5 3).trans rfl
      have qz3 : w5.frozen? ⟨gf, 3, none⟩ = false := blk_frozen hR5 3
      have qk4 : w5.cell? ⟨gf, 4, none⟩ = some (.int .u32 0) := (blk_cell hR5 4).trans rfl
      have qz4 : w5.frozen? ⟨gf, 4, none⟩ = false := blk_frozen hR5 4
      have qk5 : w5.cell? ⟨gf, 5, none⟩ = some (.int .u64 0) := (blk_cell hR5 5).trans rfl
      have qz5 : w5.frozen? ⟨gf, 5, none⟩ = false := blk_frozen hR5 5
      have qk6 : w5.cell? ⟨gf, 6, none⟩ = some (.int .u32 0) := (blk_cell hR5 6).trans rfl
      have qz6 : w5.frozen? ⟨gf, 6, none⟩ = false := blk_frozen hR5 6
      have qk7 : w5.cell? ⟨gf, 7, none⟩ = some (.bool false) := (blk_cell hR5 7).trans rfl
      have qz7 : w5.frozen? ⟨gf, 7, none⟩ = false := blk_frozen hR5 7
      have qk8 : w5.cell? ⟨gf, 8, none⟩ = some (.string ⟨#[]⟩) := (blk_cell hR5 8).trans rfl
      have qz8 : w5.frozen? ⟨gf, 8, none⟩ = false := blk_frozen hR5 8
      go_wp2_with fail
      try simp only [Exit.jump]
      try simp only [← Int.natCast_add]
      refine bodyPost_ret (v := .tuple #[zeroF, .int .i64 0, .bool false]) (by simp [results, zeroF, Try.results50, go_sem, qk0, qk1, qk2, qk3, qk4, qk5, qk6, qk7, qk8]) rfl ⟨by rw [HNA.out], ?_, ?_⟩
      · rw [HNS.out, HNP.out]
        repeat (first | (with_reducible exact hS5) | refine RP.far ?_ (Nat.ne_of_lt hgl) _)
      · repeat (first | (with_reducible exact hA6) | refine Amid.set ?_ _ _ hge _)
end Go.Proofs.Ytgboppgghidgbaa.My
namespace Go.Proofs.Ytgboppgghidgbaa.My
open Go.RowKit Go.Proofs.YtgboppgghidgbaaW.PrintWords Go.Proofs.YtgboppgghidgbaaW.PrintLast Go.Proofs.YtgboppgghidgbaaW.PrintMore Go.Proofs.Ytgboppgghidgbaa
set_option linter.unusedSimpArgs false
set_option linter.unusedVariables false
set_option maxRecDepth 100000
set_option maxHeartbeats 4000000
attribute [local go_sem high] PH.eqA28
attribute [local go_sem] max2_int min2_int max_two min_two
/-- Of what stood, the blocks g and h alone have changed. -/
def Two (w w' : World) (g h : Nat) : Prop := Below 0 w w' ∧ ∀ k, k < w.heap.size → k ≠ g → k ≠ h → w'.heap[k]? = w.heap[k]?
theorem Two.refl (w : World) (g h : Nat) : Two w w g h := ⟨Below.refl _ _, fun _ _ _ _ => rfl⟩
theorem Two.size {w W : World} {g h : Nat} (t : Two w W g h) : w.heap.size ≤ W.heap.size := t.1.size
theorem Two.trans {w W V : World} {g h : Nat} (t : Two w W g h) (k : Two W V g h) : Two w V g h :=
  ⟨t.1.trans k.1, fun i hi h1 h2 => (k.2 i (Nat.lt_of_lt_of_le hi t.size) h1 h2).trans (t.2 i hi h1 h2)⟩
theorem Two.l {W V : World} {g h : Nat} (k : Amid W V g) : Two W V g h := ⟨k.1, fun i hi h1 _ => k.2 i hi h1⟩
theorem Two.r {W V : World} {g h : Nat} (k : Amid W V h) : Two W V g h := ⟨k.1, fun i hi _ h2 => k.2 i hi h2⟩
theorem Two.low {W V : World} {g h : Nat} (k : Below W.heap.size W V) : Two W V g h := Two.l ((Amid.refl W g).below k)
theorem Two.keep {w W : World} {g h : Nat} (t : Two w W g h) (n : Nat) (hn : n ≤ w.heap.size) (hg : n ≤ g) (hh : n ≤ h) : Below n w W :=
  ⟨t.1.os, t.1.tape, t.1.output, t.1.size, fun k hk => t.2 k (by omega) (by omega) (by omega)⟩
/-- The program's splitter holds s and passed p, the document's s2 and p2. -/
def Pr (w wr : World) (gs gr : Nat) (s : ByteArray) (p : Nat) (s2 : ByteArray) (p2 : Nat) : Prop := SP wr gs s p ∧ RP wr gr s2 p2 ∧ gs ≠ gr ∧ Two w wr gs gr
theorem Pr.own {w wr w' : World} {gs gr : Nat} {s : ByteArray} {p : Nat} {s2 : ByteArray} {p2 : Nat} {s' : ByteArray} {p' : Nat} (h : Pr w wr gs gr s p s2 p2) (hs : SP w' gs s' p') (ha : Amid wr w' gs) : Pr w w' gs gr s' p' s2 p2 :=
  ⟨hs, (ha.2 gr (blk_lt h.2.1) (Ne.symm h.2.2.1)).trans h.2.1, h.2.2.1, h.2.2.2.trans (Two.l ha)⟩
theorem Pr.ref {w wr w' : World} {gs gr : Nat} {s : ByteArray} {p : Nat} {s2 : ByteArray} {p2 : Nat} {s' : ByteArray} {p' : Nat} (h : Pr w wr gs gr s p s2 p2) (hs : RP w' gr s' p') (ha : Amid wr w' gr) : Pr w w' gs gr s p s' p' :=
  ⟨(ha.2 gs (blk_lt h.1) h.2.2.1).trans h.1, hs, h.2.2.1, h.2.2.2.trans (Two.r ha)⟩
theorem Pr.below {w wr w' : World} {gs gr : Nat} {s : ByteArray} {p : Nat} {s2 : ByteArray} {p2 : Nat} (h : Pr w wr gs gr s p s2 p2) (hb : Below wr.heap.size wr w') : Pr w w' gs gr s p s2 p2 :=
  ⟨h.1.below hb, h.2.1.below hb, h.2.2.1, h.2.2.2.trans (Two.low hb)⟩
theorem Pr.two {w V wr : World} {gs gr : Nat} {s : ByteArray} {p : Nat} {s2 : ByteArray} {p2 : Nat} (h : Pr V wr gs gr s p s2 p2) (k : Two w V gs gr) : Pr w wr gs gr s p s2 p2 :=
  ⟨h.1, h.2.1, h.2.2.1, k.trans h.2.2.2⟩
theorem Pr.at {w wr : World} {gs gr : Nat} {s : ByteArray} {p : Nat} {s2 : ByteArray} {p2 : Nat} (h : Pr w wr gs gr s p s2 p2) : Pr wr wr gs gr s p s2 p2 :=
  ⟨h.1, h.2.1, h.2.2.1, Two.refl _ _ _⟩
theorem scan_le (s : ByteArray) : ∀ f i, f + i = s.size → (scanN s f i).1 ≤ s.size
  | 0, i, _ => Nat.le_refl _
  | f + 1, i, h => by
    rw [scanN]
    split
    · show i ≤ s.size; omega
    · split
      · show i ≤ s.size; omega
      · exact scan_le s f (i + 1) (by omega)
theorem nx_size (s : ByteArray) (p : Nat) : (nxS s).size ≤ s.size ∧ nxP s p + (nxS s).size ≤ p + s.size := by
  have h : (scanF s 0).1 ≤ s.size := scan_le s (s.size - 0) 0 (by omega)
  unfold nxS nxP
  split
  · rw [ByteArray.size_extract]; omega
  · rw [ByteArray.size_extract]; omega
theorem nx_form (s : ByteArray) (p : Nat) : ∃ (a b c d e tt gg : Int) (hh : Bool) (bd : ByteArray) (m : Int) (ok : Bool), nxA s p = .tuple #[.agg #[.int .u8 a, .int .u8 b, .int .u8 c, .int .u16 d, .int .u32 e, .int .u64 tt, .int .u32 gg, .bool hh, .string bd], .int .i64 m, .bool ok] := by
  unfold nxA
  split
  · split
    exact ⟨_, _, _, _, _, _, _, _, _, _, _, rfl⟩
  · exact ⟨0, 0, 0, 0, 0, 0, 0, false, ⟨#[]⟩, 0, false, rfl⟩
theorem feeds_calls {w : World} {gs gr : Nat} {s : ByteArray} {p : Nat} (h : Pr w w gs gr s p s p) (hs : s.size ≤ 65536) (x : ByteArray) (hx : x.size ≤ 140737488351232) : Calls Try.prog 18 #[.pointer (some ⟨gs, 0, none⟩), .pointer (some ⟨gr, 0, none⟩), .string x] w fun r w' => r = .returned (.bool true) ∧ ∃ s' : ByteArray, s'.size ≤ 65536 ∧ s'.size ≤ s.size + 65536 ∧ Pr w w' gs gr s' p s' p := by
  have H := Aside0.mk h
  clear h
  by_cases hf : s.size + x.size ≤ 65536
  · go_enter Try.func18, Try.ntmps18
    go_wp2_with fail
    refine (spFeed H.out.1 x hf).mono ?_
    rintro e_ w1 ⟨rfl, hS1, ha1⟩
    have H1 := Aside0.mk (H.out.own hS1 ((Amid.refl _ _).alone ha1))
    clear H hS1 ha1
    go_wp2_with fail
    refine (rpFeed H1.out.2.1 x hf).mono ?_
    rintro e_ w2 ⟨rfl, hS2, ha2⟩
    have H2 := Aside0.mk (H1.out.ref hS2 ((Amid.refl _ _).alone ha2))
    clear H1 hS2 ha2
    go_wp2_with fail
    refine (spLeft H2.out.1).mono ?_
    rintro e_ w3 ⟨rfl, rfl⟩
    go_wp2_with fail
    refine (rpLeft H2.out.2.1).mono ?_
    rintro e_ w3 ⟨rfl, rfl⟩
    go_wp2_with fail
    go_ret
    exact ⟨rfl, s ++ x, by rw [ByteArray.size_append]; exact hf, by rw [ByteArray.size_append]; omega, H2.out⟩
  · go_enter Try.func18, Try.ntmps18
    go_wp2_with fail
    refine (spFeed_full H.out.1 x hs hx (by omega)).mono ?_
    rintro e_ w1 ⟨rfl, rfl⟩
    go_wp2_with fail
    refine (rpFeed_full H.out.2.1 x hs hx (by omega)).mono ?_
    rintro e_ w2 ⟨rfl, rfl⟩
    go_wp2_with fail
    refine (spLeft H.out.1).mono ?_
    rintro e_ w3 ⟨rfl, rfl⟩
    go_wp2_with fail
    refine (rpLeft H.out.2.1).mono ?_
    rintro e_ w3 ⟨rfl, rfl⟩
    go_wp2_with fail
    go_ret
    exact ⟨rfl, s, hs, by omega, H.out⟩
theorem asks_calls {w : World} {gs gr : Nat} {s : ByteArray} {p : Nat} (h : Pr w w gs gr s p s p) (hs : s.size ≤ 65536) (B : Nat) (hB : B ≤ 70368744177664) (hp : p + s.size ≤ B) (n : Nat) (hn : n ≤ 20) : Calls Try.prog 19 #[.pointer (some ⟨gs, 0, none⟩), .pointer (some ⟨gr, 0, none⟩), .int .i64 n] w fun r w' => r = .returned (.bool true) ∧ ∃ (s' : ByteArray) (p' : Nat), s'.size ≤ 65536 ∧ p' + s'.size ≤ B ∧ Pr w w' gs gr s' p' s' p' := by
  have H : Aside0 (∃ (s' : ByteArray) (p' : Nat), s'.size ≤ 65536 ∧ p' + s'.size ≤ B ∧ Pr w w gs gr s' p' s' p') := ⟨⟨s, p, hs, hp, h⟩⟩
  clear h hs hp
  go_enter Try.func19, Try.ntmps19
  go_wp2_with fail
  go_loopw [7] (fun iv wr => ∃ i : Nat, i ≤ n ∧ iv = .int .i64 i ∧ Aside0 (∃ (s' : ByteArray) (p' : Nat), s'.size ≤ 65536 ∧ p' + s'.size ≤ B ∧ Pr w wr gs gr s' p' s' p')) (fun iv _ => n - (intOf iv).toNat)
  case atStart => exact ⟨0, Nat.zero_le _, rfl, H⟩
  case round =>
    clear H
    obtain ⟨i, hi, rfl, HI⟩ := hrel
    by_cases hlt : i < n
    · have hlt2 : (i : Int) < (n : Int) := by omega
      obtain ⟨⟨s, p, hs, hp, HP⟩⟩ := HI
      have HP0 := Aside0.mk HP
      clear HP
      have hz := nx_size s p
      obtain ⟨a, b, c, d, e, tt, gg, hh, bd, m, ok, hA⟩ := nx_form s p
      have HA := Aside0.mk hA
      clear hA
      have hbl : (bd.toList == bd.toList) = true := by simp
      have hbl2 : (bd.toList != bd.toList) = false := by simp
      go_wp2_with fail
      refine (spNext_any HP0.out.1 hs (by omega)).mono ?_
      rw [HA.out]
      rintro e_ w1 ⟨rfl, hS1, ha1⟩
      have HP1 := Aside0.mk (HP0.out.own hS1 ha1)
      clear HP0 hS1 ha1
      go_wp2_with fail
      have hF1 := W_push w1 #[.int .u8 a, .int .u8 b, .int .u8 c, .int .u16 d, .int .u32 e, .int .u64 tt, .int .u32 gg, .bool hh, .string bd] 28 (0, 0)
      have HP2 := Aside0.mk (HP1.out.below ((Below.refl _ _).alloc (Nat.le_refl _) (.cells #[.int .u8 a, .int .u8 b, .int .u8 c, .int .u16 d, .int .u32 e, .int .u64 tt, .int .u32 gg, .bool hh, .string bd] 28)))
      have hn1 : w1.heap.size ≠ gs ∧ w1.heap.size ≠ gr := ⟨Ne.symm (Nat.ne_of_lt (blk_lt HP1.out.1)), Ne.symm (Nat.ne_of_lt (blk_lt HP1.out.2.1))⟩
      clear HP1
      generalize w1.alloc (.cells #[.int .u8 a, .int .u8 b, .int .u8 c, .int .u16 d, .int .u32 e, .int .u64 tt, .int .u32 gg, .bool hh, .string bd] 28) = w2 at *
      generalize w1.heap.size = g1 at *
      refine (rpNext_any HP2.out.2.1 hs (by omega)).mono ?_
      rw [HA.out]
      rintro e_ w3 ⟨rfl, hS3, ha3⟩
      have HP3 := Aside0.mk (HP2.out.ref hS3 ha3)
      have hF3 := (ha3.2 g1 (blk_lt hF1) hn1.2).trans hF1
      clear HP2 hS3 ha3 hF1
      have HF4 := blk_alloc hF3 (.cells #[.int .u8 a, .int .u8 b, .int .u8 c, .int .u16 d, .int .u32 e, .int .u64 tt, .int .u32 gg, .bool hh, .string bd] 28)
      have HF5 := W_push w3 #[.int .u8 a, .int .u8 b, .int .u8 c, .int .u16 d, .int .u32 e, .int .u64 tt, .int .u32 gg, .bool hh, .string bd] 28 (0, 0)
      have HP4 := Aside0.mk (HP3.out.below ((Below.refl _ _).alloc (Nat.le_refl _) (.cells #[.int .u8 a, .int .u8 b, .int .u8 c, .int .u16 d, .int .u32 e, .int .u64 tt, .int .u32 gg, .bool hh, .string bd] 28)))
      clear HP3
      have qk0 : (w3.alloc (.cells #[.int .u8 a, .int .u8 b, .int .u8 c, .int .u16 d, .int .u32 e, .int .u64 tt, .int .u32 gg, .bool hh, .string bd] 28)).cell? ⟨g1, 0, none⟩ = some (.int .u8 a) := (blk_cell HF4 0).trans rfl
      have qk1 : (w3.alloc (.cells #[.int .u8 a, .int .u8 b, .int .u8 c, .int .u16 d, .int .u32 e, .int .u64 tt, .int .u32 gg, .bool hh, .string bd] 28)).cell? ⟨g1, 1, none⟩ = some (.int .u8 b) := (blk_cell HF4 1).trans rfl
      have qk2 : (w3.alloc (.cells #[.int .u8 a, .int .u8 b, .int .u8 c, .int .u16 d, .int .u32 e, .int .u64 tt, .int .u32 gg, .bool hh, .string bd] 28)).cell? ⟨g1, 2, none⟩ = some (.int .u8 c) := (blk_cell HF4 2).trans rfl
      have qk3 : (w3.alloc (.cells #[.int .u8 a, .int .u8 b, .int .u8 c, .int .u16 d, .int .u32 e, .int .u64 tt, .int .u32 gg, .bool hh, .string bd] 28)).cell? ⟨g1, 3, none⟩ = some (.int .u16 d) := (blk_cell HF4 3).trans rfl
      have qk4 : (w3.alloc (.cells #[.int .u8 a, .int .u8 b, .int .u8 c, .int .u16 d, .int .u32 e, .int .u64 tt, .int .u32 gg, .bool hh, .string bd] 28)).cell? ⟨g1, 4, none⟩ = some (.int .u32 e) := (blk_cell HF4 4).trans rfl
      have qk5 : (w3.alloc (.cells #[.int .u8 a, .int .u8 b, .int .u8 c, .int .u16 d, .int .u32 e, .int .u64 tt, .int .u32 gg, .bool hh, .string bd] 28)).cell? ⟨g1, 5, none⟩ = some (.int .u64 tt) := (blk_cell HF4 5).trans rfl
      have qk6 : (w3.alloc (.cells #[.int .u8 a, .int .u8 b, .int .u8 c, .int .u16 d, .int .u32 e, .int .u64 tt, .int .u32 gg, .bool hh, .string bd] 28)).cell? ⟨g1, 6, none⟩ = some (.int .u32 gg) := (blk_cell HF4 6).trans rfl
      have qk7 : (w3.alloc (.cells #[.int .u8 a, .int .u8 b, .int .u8 c, .int .u16 d, .int .u32 e, .int .u64 tt, .int .u32 gg, .bool hh, .string bd] 28)).cell? ⟨g1, 7, none⟩ = some (.bool hh) := (blk_cell HF4 7).trans rfl
      have qk8 : (w3.alloc (.cells #[.int .u8 a, .int .u8 b, .int .u8 c, .int .u16 d, .int .u32 e, .int .u64 tt, .int .u32 gg, .bool hh, .string bd] 28)).cell? ⟨g1, 8, none⟩ = some (.string bd) := (blk_cell HF4 8).trans rfl
      have yk0 : (w3.alloc (.cells #[.int .u8 a, .int .u8 b, .int .u8 c, .int .u16 d, .int .u32 e, .int .u64 tt, .int .u32 gg, .bool hh, .string bd] 28)).cell? ⟨w3.heap.size, 0, none⟩ = some (.int .u8 a) := (blk_cell HF5 0).trans rfl
      have yk1 : (w3.alloc (.cells #[.int .u8 a, .int .u8 b, .int .u8 c, .int .u16 d, .int .u32 e, .int .u64 tt, .int .u32 gg, .bool hh, .string bd] 28)).cell? ⟨w3.heap.size, 1, none⟩ = some (.int .u8 b) := (blk_cell HF5 1).trans rfl
      have yk2 : (w3.alloc (.cells #[.int .u8 a, .int .u8 b, .int .u8 c, .int .u16 d, .int .u32 e, .int .u64 tt, .int .u32 gg, .bool hh, .string bd] 28)).cell? ⟨w3.heap.size, 2, none⟩ = some (.int .u8 c) := (blk_cell HF5 2).trans rfl
      have yk3 : (w3.alloc (.cells #[.int .u8 a, .int .u8 b, .int .u8 c, .int .u16 d, .int .u32 e, .int .u64 tt, .int .u32 gg, .bool hh, .string bd] 28)).cell? ⟨w3.heap.size, 3, none⟩ = some (.int .u16 d) := (blk_cell HF5 3).trans rfl
      have yk4 : (w3.alloc (.cells #[.int .u8 a, .int .u8 b, .int .u8 c, .int .u16 d, .int .u32 e, .int .u64 tt, .int .u32 gg, .bool hh, .string bd] 28)).cell? ⟨w3.heap.size, 4, none⟩ = some (.int .u32 e) := (blk_cell HF5 4).trans rfl
      have yk5 : (w3.alloc (.cells #[.int .u8 a, .int .u8 b, .int .u8 c, .int .u16 d, .int .u32 e, .int .u64 tt, .int .u32 gg, .bool hh, .string bd] 28)).cell? ⟨w3.heap.size, 5, none⟩ = some (.int .u64 tt) := (blk_cell HF5 5).trans rfl
      have yk6 : (w3.alloc (.cells #[.int .u8 a, .int .u8 b, .int .u8 c, .int .u16 d, .int .u32 e, .int .u64 tt, .int .u32 gg, .bool hh, .string bd] 28)).cell? ⟨w3.heap.size, 6, none⟩ = some (.int .u32 gg) := (blk_cell HF5 6).trans rfl
      have yk7 : (w3.alloc (.cells #[.int .u8 a, .int .u8 b, .int .u8 c, .int .u16 d, .int .u32 e, .int .u64 tt, .int .u32 gg, .bool hh, .string bd] 28)).cell? ⟨w3.heap.size, 7, none⟩ = some (.bool hh) := (blk_cell HF5 7).trans rfl
      have yk8 : (w3.alloc (.cells #[.int .u8 a, .int .u8 b, .int .u8 c, .int .u16 d, .int .u32 e, .int .u64 tt, .int .u32 gg, .bool hh, .string bd] 28)).cell? ⟨w3.heap.size, 8, none⟩ = some (.string bd) := (blk_cell HF5 8).trans rfl
      go_wp2_with fail
      refine (spLeft HP4.out.1).mono ?_
      rintro e_ w5 ⟨rfl, rfl⟩
      go_wp2_with fail
      refine (rpLeft HP4.out.2.1).mono ?_
      rintro e_ w5 ⟨rfl, rfl⟩
      go_wp2_with fail
      go_roundw
      case rel => exact ⟨i + 1, by omega, by go_num, ⟨nxS s, nxP s p, by omega, by omega, HP4.out⟩⟩
      case measure => simp [intOf]; omega
    · obtain rfl : i = n := by omega
      go_wp2_with fail
      go_ret
      exact ⟨rfl, HI.out⟩
theorem times_calls (n : Int) : ∃ k : Nat, k ≤ 20 ∧ ∀ w : World, Calls Try.prog 20 #[.int .i64 n] w fun r w' => r = .returned (.int .i64 (k : Int)) ∧ Drawn0 w w' := by
  have h12 : Int.tmod n 21 < 21 ∧ -21 < Int.tmod n 21 := by
    by_cases h0 : 0 ≤ n
    · rw [Int.tmod_eq_emod_of_nonneg h0]; omega
    · obtain ⟨z, hz⟩ : ∃ z : Int, z = -n := ⟨_, rfl⟩
      rw [show n = -z by omega, Int.neg_tmod, Int.tmod_eq_emod_of_nonneg (by omega)]; omega
  obtain ⟨h1, h2⟩ := h12
  by_cases h : Int.tmod n 21 < 0
  · refine ⟨(Int.tmod n 21 + 21).toNat, by omega, fun w => ?_⟩
    refine PS.concordlaw21_times.calls n _ w ?_
    rw [PS.concordlaw21_times.f, if_pos h]
    congr 1
    unfold wrap64
    omega
  · refine ⟨(Int.tmod n 21).toNat, by omega, fun w => ?_⟩
    refine PS.concordlaw21_times.calls n _ w ?_
    rw [PS.concordlaw21_times.f, if_neg h]
    congr 1
    omega
end Go.Proofs.Ytgboppgghidgbaa.My
