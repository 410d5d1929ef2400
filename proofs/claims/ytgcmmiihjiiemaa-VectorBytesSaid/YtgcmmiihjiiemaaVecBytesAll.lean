/- A Reader: Err, Fail, End, At, Uint. The document's Reader: Uint, Fail, End. The document's Take and the program's, of one Reader: the same dots. The document's Decode. The document's Encode. The contracts as VectorBytes' walk asks them. -/
import Derived.Test.YtgcmmiihjiiemaaVecUL
import Derived.Test.YtgcmmiihjiiemaaWWords
import Derived.Test.YtgcmmiihjiiemaaProg
import Derived.Test.YtgcmmiihjiiemaaWLast
import Derived.Test.YtgcmmiihjiiemaaPBy1
import Derived.Deep.RegionHeld3
import Derived.Test.YtgcmmiihjiiemaaVecTkP
import Derived.Test.YtgcmmiihjiiemaaVecPr
import Derived.Test.YtgcmmiihjiiemaaPBy2
import Derived.Test.YtgcmmiihjiiemaaVecMaxP
import Derived.Test.YtgcmmiihjiiemaaVecDots
namespace Go.Proofs.Ytgcmmiihjiiemaa.My
open Go.RowKit Go.Proofs.YtgcmmiihjiiemaaW.PrintWords Go.Proofs.YtgcmmiihjiiemaaW.PrintLast Go.Proofs.Ytgcmmiihjiiemaa
set_option linter.unusedSimpArgs false
set_option linter.unusedVariables false
set_option maxRecDepth 100000
set_option maxHeartbeats 2000000
/-- The Reader at block g: of the text s, at bytes taken, the error e. -/
def RS (w : World) (g : Nat) (s : ByteArray) (p : Nat) (e : Int) : Prop := w.heap[g]? = some (.cells #[.string s, .int .i64 p, .int .i64 e] 79 (0, 0))
/-- The block g alone has changed. -/
def Alone (w w' : World) (g : Nat) : Prop := Below 0 w w' ∧ w'.heap.size = w.heap.size ∧ ∀ k, k ≠ g → w'.heap[k]? = w.heap[k]?
theorem Alone_set (w : World) (m g j : Nat) (u : Value) : Alone w ((w.drewN m).setCell ⟨g, j, none⟩ u) g := by
  have hs : ((w.drewN m).setCell ⟨g, j, none⟩ u).heap.size = w.heap.size := by
    have : ((w.drewN m).setCell ⟨g, j, none⟩ u).heap.size = (w.drewN m).heap.size := by simp [World.setCell]
    exact this
  exact ⟨⟨rfl, rfl, rfl, by rw [hs]; exact Nat.le_refl _, fun k hk => absurd hk (Nat.not_lt_zero _)⟩, hs, fun k hk => Below.heap_setCell (w.drewN m) ⟨g, j, none⟩ u k hk⟩
theorem Alone.trans {a b c : World} {g : Nat} (h : Alone a b g) (k : Alone b c g) : Alone a c g := ⟨h.1.trans k.1, k.2.1.trans h.2.1, fun i hi => (k.2.2 i hi).trans (h.2.2 i hi)⟩
theorem RS.cells {w : World} {g : Nat} {s : ByteArray} {p : Nat} {e : Int} (h : RS w g s p e) : w.cell? ⟨g, 0, none⟩ = some (.string s) ∧ w.cell? ⟨g, 1, none⟩ = some (.int .i64 p) ∧ w.cell? ⟨g, 2, none⟩ = some (.int .i64 e) ∧ w.frozen? ⟨g, 1, none⟩ = false ∧ w.frozen? ⟨g, 2, none⟩ = false :=
  ⟨(blk_cell h 0).trans rfl, (blk_cell h 1).trans rfl, (blk_cell h 2).trans rfl, blk_frozen h 1, blk_frozen h 2⟩
theorem newReader (s : ByteArray) (w : World) : Calls Try.prog 29 #[.string s] w fun e w' => e = .returned (.pointer (some ⟨w.heap.size, 0, none⟩)) ∧ w' = w.alloc (.cells #[.string s, .int .i64 0, .int .i64 0] 79 (0, 0)) := by
  go_enter Try.func29, Try.ntmps29
  go_wp2_with fail
  go_ret
  exact ⟨rfl, rfl⟩
theorem Err_calls {w : World} {g : Nat} {s : ByteArray} {p : Nat} {e : Int} (h : RS w g s p e) : Calls Try.prog 33 #[.pointer (some ⟨g, 0, none⟩)] w fun r w' => r = .returned (.int .i64 e) ∧ w = w' := by
  obtain ⟨h0, h1, h2, _, _⟩ := h.cells
  go_enter Try.func33, Try.ntmps33
  go_wp2_with fail
  go_ret
  exact ⟨rfl, rfl⟩
end Go.Proofs.Ytgcmmiihjiiemaa.My
namespace Go.Proofs.Ytgcmmiihjiiemaa.My
open Go.RowKit Go.Proofs.YtgcmmiihjiiemaaW.PrintWords Go.Proofs.YtgcmmiihjiiemaaW.PrintLast Go.Proofs.Ytgcmmiihjiiemaa
set_option linter.unusedSimpArgs false
set_option linter.unusedVariables false
set_option maxRecDepth 100000
set_option maxHeartbeats 2000000
theorem End_err {w : World} {g : Nat} {s : ByteArray} {p : Nat} {e : Int} (h : RS w g s p e) (he : (e == 0) = false) : Calls Try.prog 35 #[.pointer (some ⟨g, 0, none⟩)] w fun r w' => r = .returned (.int .i64 e) ∧ ∃ m, w' = w.drewN m := by
  obtain ⟨h0, h1, h2, _, _⟩ := h.cells
  have HR := Aside0.mk h
  clear h
  go_enter Try.func35, Try.ntmps35
  go_wp2_with fail
  go_quiet (fail)
  go_wp2_with (first | (go_at_call 33; refine (Err_calls (blk_drewN HR.out _)).mono ?_; rintro e w1 ⟨rfl, rfl⟩))
  go_ret
  exact ⟨rfl, _, rfl⟩
theorem End_rest {w : World} {g : Nat} {s : ByteArray} {p : Nat} (h : RS w g s p 0) (hp : p < s.size) : Calls Try.prog 35 #[.pointer (some ⟨g, 0, none⟩)] w fun r w' => r = .returned (.int .i64 12) ∧ ∃ m, w' = w.drewN m := by
  obtain ⟨h0, h1, h2, _, _⟩ := h.cells
  have hd : decide ((p : Int) < (s.size : Int)) = true := decide_eq_true (by omega)
  clear h
  go_enter Try.func35, Try.ntmps35
  go_wp2_with fail
  go_quiet (fail)
  go_wp2_with fail
  go_ret
  exact ⟨rfl, _, rfl⟩
theorem End_done {w : World} {g : Nat} {s : ByteArray} {p : Nat} (h : RS w g s p 0) (hp : s.size ≤ p) : Calls Try.prog 35 #[.pointer (some ⟨g, 0, none⟩)] w fun r w' => r = .returned (.int .i64 0) ∧ ∃ m, w' = w.drewN m := by
  obtain ⟨h0, h1, h2, _, _⟩ := h.cells
  have hd : decide ((p : Int) < (s.size : Int)) = false := decide_eq_false (by omega)
  have HR := Aside0.mk h
  clear h
  go_enter Try.func35, Try.ntmps35
  go_wp2_with fail
  go_quiet (fail)
  go_wp2_with (first | (go_at_call 33; refine (Err_calls (blk_drewN HR.out _)).mono ?_; rintro e w1 ⟨rfl, rfl⟩))
  go_ret
  exact ⟨rfl, _, rfl⟩
end Go.Proofs.Ytgcmmiihjiiemaa.My
namespace Go.Proofs.Ytgcmmiihjiiemaa.My
open Go.RowKit Go.Proofs.YtgcmmiihjiiemaaW.PrintWords Go.Proofs.YtgcmmiihjiiemaaW.PrintLast Go.Proofs.Ytgcmmiihjiiemaa
set_option linter.unusedSimpArgs false
set_option linter.unusedVariables false
set_option maxRecDepth 100000
set_option maxHeartbeats 2000000
theorem RFail_kept {w : World} {g : Nat} {s : ByteArray} {p : Nat} {e : Int} (h : RS w g s p e) (he : (e == 0) = false) (n : Int) : Calls Try.prog 31 #[.pointer (some ⟨g, 0, none⟩), .int .i64 n] w fun r w' => r = .returned (.tuple #[]) ∧ w = w' := by
  obtain ⟨h0, h1, h2, _, _⟩ := h.cells
  go_enter Try.func31, Try.ntmps31
  go_wp2_with fail
  go_end0
  exact ⟨rfl, rfl⟩
theorem RFail_new {w : World} {g : Nat} {s : ByteArray} {p : Nat} (h : RS w g s p 0) (n : Int) : Calls Try.prog 31 #[.pointer (some ⟨g, 0, none⟩), .int .i64 n] w fun r w' => r = .returned (.tuple #[]) ∧ RS w' g s p n ∧ Alone w w' g := by
  obtain ⟨h0, h1, h2, f1, f2⟩ := h.cells
  have HR := Aside0.mk h
  clear h
  go_enter Try.func31, Try.ntmps31
  go_wp2_with fail
  go_end0
  exact ⟨rfl, blk_set HR.out 2 (.int .i64 n), Alone_set w 0 g 2 _⟩
end Go.Proofs.Ytgcmmiihjiiemaa.My
namespace Go.Proofs.Ytgcmmiihjiiemaa.My
open Go.RowKit Go.Proofs.YtgcmmiihjiiemaaW.PrintWords Go.Proofs.YtgcmmiihjiiemaaW.PrintLast Go.Proofs.Ytgcmmiihjiiemaa
set_option linter.unusedSimpArgs false
set_option linter.unusedVariables false
set_option maxRecDepth 100000
set_option maxHeartbeats 2000000
end Go.Proofs.Ytgcmmiihjiiemaa.My
namespace Go.Proofs.Ytgcmmiihjiiemaa.My
open Go.RowKit Go.Proofs.YtgcmmiihjiiemaaW.PrintWords Go.Proofs.YtgcmmiihjiiemaaW.PrintLast Go.Proofs.Ytgcmmiihjiiemaa
set_option linter.unusedSimpArgs false
set_option linter.unusedVariables false
set_option maxRecDepth 100000
set_option maxHeartbeats 2000000
theorem At_calls {w : World} {g : Nat} {s : ByteArray} {p : Nat} {e : Int} (h : RS w g s p e) : Calls Try.prog 34 #[.pointer (some ⟨g, 0, none⟩)] w fun r w' => r = .returned (.int .i64 p) ∧ w = w' := by
  obtain ⟨h0, h1, h2, _, _⟩ := h.cells
  go_enter Try.func34, Try.ntmps34
  go_wp2_with fail
  go_ret
  exact ⟨rfl, rfl⟩
end Go.Proofs.Ytgcmmiihjiiemaa.My
namespace Go.Proofs.Ytgcmmiihjiiemaa.My
open Go.RowKit Go.Proofs.YtgcmmiihjiiemaaW.PrintWords Go.Proofs.YtgcmmiihjiiemaaW.PrintLast Go.Proofs.Ytgcmmiihjiiemaa
set_option linter.unusedSimpArgs false
set_option linter.unusedVariables false
set_option maxRecDepth 100000
set_option maxHeartbeats 4000000
end Go.Proofs.Ytgcmmiihjiiemaa.My
namespace Go.Proofs.Ytgcmmiihjiiemaa.My
open Go.RowKit Go.Proofs.YtgcmmiihjiiemaaW.PrintWords Go.Proofs.YtgcmmiihjiiemaaW.PrintLast Go.Proofs.YtgcmmiihjiiemaaW.PrintMore Go.Proofs.Ytgcmmiihjiiemaa Go.Proofs.Ytgcmmiihjiiemaa.PVectorMax Go.Proofs.Ytgcmmiihjiiemaa.PB
set_option linter.unusedSimpArgs false
set_option linter.unusedVariables false
set_option maxRecDepth 100000
set_option maxHeartbeats 1600000
def Alone1 (w w' : World) (g : Nat) : Prop := Below 0 w w' ∧ ∀ k, k ≠ g → k < w.heap.size → w'.heap[k]? = w.heap[k]?
theorem Alone.one {w w' : World} {g : Nat} (h : Alone w w' g) : Alone1 w w' g := ⟨h.1, fun k hk _ => h.2.2 k hk⟩
theorem Alone1.trans {a b c : World} {g : Nat} (h : Alone1 a b g) (k : Alone1 b c g) : Alone1 a c g := ⟨h.1.trans k.1, fun i hi hl => (k.2 i hi (Nat.lt_of_lt_of_le hl h.1.size)).trans (h.2 i hi hl)⟩
theorem Alone1_alloc (w : World) (o : Obj) (g : Nat) : Alone1 w (w.alloc o) g := ⟨(Below.refl 0 w).alloc (Nat.zero_le _) o, fun k _ hl => by show (w.heap.push o)[k]? = _; rw [Array.getElem?_push_lt hl, Array.getElem?_eq_getElem hl]⟩
theorem Alone1_below {w w' : World} {g : Nat} (h : Below w.heap.size w w') : Alone1 w w' g := ⟨h.mono (Nat.zero_le _), fun k _ hl => h.block k hl⟩
theorem Alone1_drewN (w : World) (m g : Nat) : Alone1 w (w.drewN m) g := ⟨⟨rfl, rfl, rfl, Nat.le_refl _, fun _ _ => rfl⟩, fun k _ _ => rfl⟩
theorem below_alone1 {base : Nat} {w0 w w' : World} {g : Nat} (h : Below base w0 w) (k : Alone1 w w' g) (hg : base ≤ g) (hb : base ≤ w.heap.size) : Below base w0 w' :=
  ⟨k.1.os.trans h.os, k.1.tape.trans h.tape, k.1.output.trans h.output, Nat.le_trans h.size k.1.size, fun i hi => (k.2 i (by omega) (by omega)).trans (h.block i hi)⟩
theorem W_push (w : World) (C : Array Value) (t : TypeId) (A : Nat × Nat) : (w.alloc (.cells C t A)).heap[w.heap.size]? = some (.cells C t A) := by show (w.heap.push _)[w.heap.size]? = _; rw [Array.getElem?_push_size]
theorem Alone1.refl (w : World) (g : Nat) : Alone1 w w g := ⟨Below.refl _ _, fun _ _ _ => rfl⟩
theorem RFail_any {w : World} {g : Nat} {s : ByteArray} {p : Nat} {e : Int} (h : RS w g s p e) (n : Int) : Calls Try.prog 31 #[.pointer (some ⟨g, 0, none⟩), .int .i64 n] w fun r w' => r = .returned (.tuple #[]) ∧ RS w' g s p (fe e n) ∧ Alone1 w w' g := by
  unfold fe
  by_cases he : e = 0
  · subst he
    rw [if_pos rfl]
    exact (RFail_new h n).mono fun _ _ h => ⟨h.1, h.2.1, h.2.2.one⟩
  · rw [if_neg he]
    exact (RFail_kept h (by simpa using he) n).mono fun _ _ h' => ⟨h'.1, by rw [← h'.2]; exact h, by rw [← h'.2]; exact Alone1.refl _ _⟩
theorem rfail_f (s : ByteArray) (p e n : Int) : concordref01_Reader_fail.f s p e n = some (s, p, fe e n) := by
  unfold concordref01_Reader_fail.f fe
  split <;> rfl
def dgL : Nat → List Nat → List Nat
  | 0, _ => []
  | _ + 1, [] => []
  | k + 1, c :: t => if c < 128 then [c] else c :: dgL k t
theorem dgL_len : ∀ (k : Nat) (l : List Nat), (dgL k l).length ≤ k ∧ (dgL k l).length ≤ l.length
  | 0, l => by simp [dgL]
  | k + 1, [] => by simp [dgL]
  | k + 1, c :: t => by
    rw [dgL]
    split
    · simp
    · have := dgL_len k t
      simp only [List.length_cons]; omega
theorem dgL_pre : ∀ (k : Nat) (l : List Nat), ∃ R, l = dgL k l ++ R
  | 0, l => ⟨l, rfl⟩
  | k + 1, [] => ⟨[], rfl⟩
  | k + 1, c :: t => by
    rw [dgL]
    split
    · exact ⟨t, rfl⟩
    · obtain ⟨R, h⟩ := dgL_pre k t
      exact ⟨R, by rw [List.cons_append, ← h]⟩
theorem digits_l0 (s : ByteArray) (p : Nat) (e : Int) (hp : p ≤ s.size) (hs : s.size ≤ 500000000000000) : ∀ (m i k : Nat), i + m = 10 → p + i ≤ s.size → 2 * m + 2 ≤ k → concordref01_Reader_digits.l0 k (i : Int) s (p : Int) e = some (s.extract p (p + (i + (dgL m ((natsOf s).drop (p + i))).length)), s, (p : Int), e)
  | m, i, k, hi, hpi, hk => by
    obtain ⟨k, rfl⟩ : ∃ j, k = j + 2 := ⟨k - 2, by omega⟩
    have e1 : wrap64 ((p : Int) + i) = ((p + i : Nat) : Int) := by unfold wrap64; omega
    rw [concordref01_Reader_digits.l0]
    by_cases hend : m = 0 ∨ s.size ≤ p + i
    · have hd : dgL m ((natsOf s).drop (p + i)) = [] := by
        rcases hend with rfl | h
        · rfl
        · rw [List.drop_eq_nil_of_le (by rw [natsOf_len]; omega)]
          cases m <;> rfl
      have hfin : concordref01_Reader_digits.j1 (k + 1) (i : Int) false s (p : Int) e = some (s.extract p (p + i), s, (p : Int), e) := by
        rw [concordref01_Reader_digits.j1, if_neg (by decide), if_pos (by omega), e1, if_pos (by omega), if_pos (by omega)]
        simp only [Int.toNat_natCast]
      rw [hd]
      show _ = some (s.extract p (p + i), _)
      by_cases h10 : (i : Int) < 10
      · rw [if_pos h10, e1, decide_eq_false (by omega), hfin]
      · rw [if_neg h10, hfin]
    · obtain ⟨m, rfl⟩ : ∃ j, m = j + 1 := ⟨m - 1, by omega⟩
      have hlt : p + i < s.size := by omega
      have e2 : wrap64 ((i : Int) + 1) = ((i + 1 : Nat) : Int) := by unfold wrap64; omega
      have e3 : wrap64 ((p : Int) + ((i + 1 : Nat) : Int)) = ((p + (i + 1) : Nat) : Int) := by unfold wrap64; omega
      have e4 : wrap64 (((p + (i + 1) : Nat) : Int) - 1) = ((p + i : Nat) : Int) := by unfold wrap64; omega
      rw [if_pos (by omega), e1, decide_eq_true (by omega), concordref01_Reader_digits.j1, if_pos rfl, e2, e3, e4, if_pos (by omega), if_pos (by omega), bt_nat s _ hlt, natsOf_drop s (p + i) hlt, dgL]
      have hg : (natsOf s).getD (p + i) 0 = (s[p + i]).toNat := by
        have := congrArg (fun l => l.getD 0 0) (natsOf_drop s (p + i) hlt)
        simpa [List.getD_eq_getElem?_getD] using this
      rw [hg]
      by_cases hc : (s[p + i]).toNat < 128
      · rw [if_pos (by omega), if_pos (by omega), if_pos (by omega), if_pos (by omega), if_pos hc]
        simp only [Int.toNat_natCast]
        rfl
      · rw [if_neg (by omega), if_neg hc, digits_l0 s p e hp hs m (i + 1) k (by omega) (by omega) (by omega)]
        rw [List.length_cons, show p + (i + 1) = p + i + 1 by omega, show i + 1 + (dgL m ((natsOf s).drop (p + i + 1))).length = i + ((dgL m ((natsOf s).drop (p + i + 1))).length + 1) by omega]
def valL : List Nat → Nat
  | [] => 0
  | c :: t => c % 128 + 128 * valL t
theorem valL_lt : ∀ l : List Nat, valL l < 128 ^ l.length
  | [] => by simp [valL]
  | c :: t => by
    have := valL_lt t
    rw [valL, List.length_cons, Nat.pow_succ]
    omega
theorem uL_dg (most : Nat) : ∀ (k i a : Nat) (l : List Nat), i + (k + 1) = 10 → uL most (k + 1) i a l =
    if (dgL (k + 1) l).length < k + 1 ∧ (dgL (k + 1) l = [] ∨ 128 ≤ (dgL (k + 1) l).getLastD 0) then (10, 0, 0) else
    if ((dgL (k + 1) l).length = k + 1 ∧ 1 < (dgL (k + 1) l).getLastD 0) ∨ (1 < i + (dgL (k + 1) l).length ∧ (dgL (k + 1) l).getLastD 0 = 0) then (11, 0, 0) else
    if most < valL (dgL (k + 1) l) * 128 ^ i + a then (11, 0, 0) else (0, valL (dgL (k + 1) l) * 128 ^ i + a, i + (dgL (k + 1) l).length)
  | k, i, a, [], hi => by
    rw [uL, dgL, if_pos ⟨by simp, .inl rfl⟩]
  | k, i, a, c :: t, hi => by
    rw [uL, dgL]
    by_cases hc : c < 128
    · have hA : ¬ (1 < k + 1 ∧ ([c] = [] ∨ 128 ≤ c)) := by
        rintro ⟨_, h | h⟩
        · cases h
        · omega
      rw [if_pos hc]
      simp only [List.length_singleton, List.getLastD_cons, List.getLastD_nil, valL, Nat.mul_zero, Nat.add_zero, Nat.mod_eq_of_lt hc]
      rw [if_neg hA]
      by_cases h9 : i = 9 ∧ 1 < c
      · have hB : (1 = k + 1 ∧ 1 < c) ∨ (1 < i + 1 ∧ c = 0) := .inl ⟨by omega, h9.2⟩
        rw [if_pos h9, if_pos hB]
      · rw [if_neg h9, if_neg (show ¬ 128 ≤ c by omega)]
        by_cases hz : c = 0 ∧ 0 < i
        · have hB : (1 = k + 1 ∧ 1 < c) ∨ (1 < i + 1 ∧ c = 0) := .inr ⟨by omega, hz.1⟩
          rw [if_pos hB]
          rw [if_pos (by first | exact .inl hz | exact .inr hz | (left; exact hz) | (simp only [hz.1, hz.2]; simp))]
        · have hB : ¬ ((1 = k + 1 ∧ 1 < c) ∨ (1 < i + 1 ∧ c = 0)) := by omega
          rw [if_neg hB]
          have hac : a + c * 128 ^ i = c * 128 ^ i + a := Nat.add_comm ..
          rw [hac]
          by_cases hm : most < c * 128 ^ i + a
          · rw [if_pos hm, if_pos (by first | exact .inr hm | exact .inl hm)]
          · rw [if_neg hm, if_neg (by first | exact fun h => h.elim hz hm | omega)]
    · rw [if_neg hc]
      by_cases h9 : i = 9
      · obtain rfl : k = 0 := by omega
        rw [if_pos ⟨h9, by omega⟩]
        have hd : dgL 0 t = [] := by cases t <;> rfl
        rw [hd]
        simp only [List.length_singleton, List.getLastD_cons, List.getLastD_nil]
        have hA : ¬ (1 < 0 + 1 ∧ ([c] = [] ∨ 128 ≤ c)) := by rintro ⟨h, _⟩; omega
        rw [if_neg hA, if_pos (.inl ⟨trivial, by omega⟩)]
      · obtain ⟨k, rfl⟩ : ∃ j, k = j + 1 := ⟨k - 1, by omega⟩
        rw [if_neg (fun h => h9 h.1), if_pos (show 128 ≤ c by omega), uL_dg most k (i + 1) _ t (by omega)]
        generalize dgL (k + 1) t = D
        have hv : valL (c :: D) * 128 ^ i + a = valL D * 128 ^ (i + 1) + (a + c % 128 * 128 ^ i) := by
          rw [valL, Nat.pow_succ, Nat.add_mul, Nat.mul_comm 128 (valL D), Nat.mul_assoc, Nat.mul_comm 128]
          omega
        rw [hv]
        simp only [List.length_cons]
        cases D with
        | nil =>
          rw [if_pos ⟨by simp, .inl rfl⟩, if_pos ⟨by simp, .inr (by simp; omega)⟩]
        | cons d D =>
          simp only [List.getLastD_cons, List.length_cons]
          have e1 : (D.length + 1 < k + 1 ∧ (d :: D = [] ∨ 128 ≤ D.getLastD d)) = (D.length + 1 + 1 < k + 1 + 1 ∧ (c :: d :: D = [] ∨ 128 ≤ D.getLastD d)) := by
            apply propext
            constructor
            · rintro ⟨h1, h2 | h2⟩
              · cases h2
              · exact ⟨by omega, .inr h2⟩
            · rintro ⟨h1, h2 | h2⟩
              · cases h2
              · exact ⟨by omega, .inr h2⟩
          have e2 : ((D.length + 1 = k + 1 ∧ 1 < D.getLastD d) ∨ (1 < i + 1 + (D.length + 1) ∧ D.getLastD d = 0)) = ((D.length + 1 + 1 = k + 1 + 1 ∧ 1 < D.getLastD d) ∨ (1 < i + (D.length + 1 + 1) ∧ D.getLastD d = 0)) := by
            apply propext
            omega
          have e3 : i + 1 + (D.length + 1) = i + (D.length + 1 + 1) := by omega
          simp only [e1, e2]
          simp only [e3]
theorem getD_drop (l : List Nat) (m : Nat) (h : m < l.length) : l.drop m = l.getD m 0 :: l.drop (m + 1) := by
  rw [List.drop_eq_getElem_cons h, List.getD_eq_getElem?_getD, List.getElem?_eq_getElem h]; rfl
theorem number_l0 (d : ByteArray) (most : Nat) (hl : d.size ≤ 10) (hb : valL (natsOf d) < 18446744073709551616) : ∀ (m k : Nat), m ≤ d.size → m + 1 ≤ k → concordref01_number.l0 k d (most : Int) ((valL ((natsOf d).drop m) : Nat) : Int) ((m : Int) - 1) = some (if most < valL (natsOf d) then (0, 11) else (((valL (natsOf d) : Nat) : Int), 0))
  | 0, k, hm, hk => by
    obtain ⟨k, rfl⟩ : ∃ j, k = j + 1 := ⟨k - 1, by omega⟩
    rw [concordref01_number.l0, if_neg (by omega), List.drop_zero]
    split
    · rw [if_pos (by omega)]
    · rw [if_neg (by omega)]
  | m + 1, k, hm, hk => by
    obtain ⟨k, rfl⟩ : ∃ j, k = j + 1 := ⟨k - 1, by omega⟩
    have e1 : (((m + 1 : Nat) : Int) - 1) = (m : Int) := by omega
    have e2 : wrap64 ((m : Int) - 1) = (m : Int) - 1 := by unfold wrap64; omega
    have hd := getD_drop (natsOf d) m (by rw [natsOf_len]; omega)
    have hv := valL_lt ((natsOf d).drop (m + 1))
    have hle : 128 ^ ((natsOf d).drop (m + 1)).length ≤ 128 ^ 9 := Nat.pow_le_pow_right (by omega) (by rw [List.length_drop, natsOf_len]; omega)
    have hmono : valL ((natsOf d).drop m) ≤ valL (natsOf d) := by
      have h : ∀ (j : Nat) (l : List Nat), valL (l.drop j) ≤ valL l := by
        intro j
        induction j with
        | zero => intro l; simp
        | succ j ih =>
          intro l
          cases l with
          | nil => simp
          | cons c t => rw [List.drop_succ_cons, valL]; have := ih t; omega
      exact h m _
    have e9 : (128 : Nat) ^ 9 = 9223372036854775808 := by decide
    rw [e1, concordref01_number.l0, if_pos (by omega), if_pos (by omega), if_pos (by omega), e2, bt_nat d m (by omega)]
    have hc : (natsOf d).getD m 0 < 256 := natsOf_lt d _ (by
      rw [List.getD_eq_getElem?_getD, List.getElem?_eq_getElem (by rw [natsOf_len]; omega)]
      exact List.getElem_mem _)
    rw [hd, valL] at hmono
    have e3 : IntKind.u64.wrap (IntKind.u64.wrap (128 * ((valL ((natsOf d).drop (m + 1)) : Nat) : Int)) + IntKind.u64.wrap (Int.tmod (((natsOf d).getD m 0 : Nat) : Int) 128)) = ((valL ((natsOf d).drop m) : Nat) : Int) := by
      rw [hd, valL, IntKind.wrap_u64, IntKind.wrap_u64, IntKind.wrap_u64, Int.tmod_eq_emod_of_nonneg (by omega)]
      omega
    rw [e3]
    exact number_l0 d most hl hb m k (by omega) (by omega)
theorem getLastD_at : ∀ (l : List Nat), l ≠ [] → l.getD (l.length - 1) 0 = l.getLastD 0
  | [], h => absurd rfl h
  | [x], _ => rfl
  | x :: y :: t, _ => by
    have := getLastD_at (y :: t) (by simp)
    simpa using this
theorem valL_last : ∀ (l : List Nat), l ≠ [] → valL l < 128 ^ (l.length - 1) * (l.getLastD 0 % 128 + 1)
  | [], h => absurd rfl h
  | [x], _ => by simp [valL]
  | x :: y :: t, _ => by
    have h := valL_last (y :: t) (by simp)
    rw [valL]
    have e1 : (x :: y :: t).length - 1 = ((y :: t).length - 1) + 1 := by simp
    have e2 : (x :: y :: t).getLastD 0 = (y :: t).getLastD 0 := by simp
    rw [e1, e2, Nat.pow_succ]
    generalize 128 ^ ((y :: t).length - 1) = A at *
    generalize (y :: t).getLastD 0 % 128 + 1 = B at *
    rw [show A * 128 * B = 128 * (A * B) by rw [Nat.mul_comm A 128, Nat.mul_assoc]]
    omega
def dgR (most : Nat) (D : List Nat) : Int × Nat × Nat :=
    if D.length < 10 ∧ (D = [] ∨ 128 ≤ D.getLastD 0) then (10, 0, 0) else
    if (D.length = 10 ∧ 1 < D.getLastD 0) ∨ (1 < D.length ∧ D.getLastD 0 = 0) then (11, 0, 0) else
    if most < valL D then (11, 0, 0) else (0, valL D, D.length)
theorem number_f (d : ByteArray) (most : Nat) (hl : d.size ≤ 10) (k : Nat) (hk : 14 ≤ k) : concordref01_number.f k d (most : Int) = some (((dgR most (natsOf d)).2.1 : Int), (dgR most (natsOf d)).1) := by
  obtain ⟨k, rfl⟩ : ∃ j, k = j + 1 := ⟨k - 1, by omega⟩
  have hn : (natsOf d).length = d.size := natsOf_len d
  have hw : 0 < d.size → wrap64 ((d.size : Int) - 1) = ((d.size - 1 : Nat) : Int) := by intro h; unfold wrap64; omega
  have hlast : 0 < d.size → bt d ((d.size - 1 : Nat) : Int) = (((natsOf d).getLastD 0 : Nat) : Int) := by
    intro h
    rw [bt_nat d _ (by omega), ← getLastD_at (natsOf d) (by intro h0; rw [h0] at hn; simp at hn; omega), hn]
  have hval : ¬ (d.size = 10 ∧ 1 < (natsOf d).getLastD 0) → valL (natsOf d) < 18446744073709551616 := by
    intro h
    by_cases h0 : natsOf d = []
    · rw [h0]; decide
    · have h1 := valL_last (natsOf d) h0
      rw [hn] at h1
      by_cases h10 : d.size = 10
      · rw [h10] at h1
        have h2 : (natsOf d).getLastD 0 ≤ 1 := by omega
        have h3 : (128 : Nat) ^ (10 - 1) = 9223372036854775808 := by decide
        rw [h3] at h1
        omega
      · have h2 := valL_lt (natsOf d)
        have h3 : 128 ^ (natsOf d).length ≤ 128 ^ 9 := Nat.pow_le_pow_right (by omega) (by omega)
        have h4 : (128 : Nat) ^ 9 = 9223372036854775808 := by decide
        omega
  have hj1 : ∀ b : Bool, (b = false → valL (natsOf d) < 18446744073709551616) → 0 < d.size → concordref01_number.j1 k d (most : Int) (d.size : Int) b = some (if b = true then (0, 11) else if most < valL (natsOf d) then (0, 11) else (((valL (natsOf d) : Nat) : Int), 0)) := by
    intro b hb h0
    obtain ⟨k, rfl⟩ : ∃ j, k = j + 1 := ⟨k - 1, by omega⟩
    rw [concordref01_number.j1]
    cases b with
    | true => rw [if_pos rfl, if_pos rfl]
    | false =>
      have h := number_l0 d most hl (hb rfl) d.size k (Nat.le_refl _) (by omega)
      rw [List.drop_of_length_le (by omega)] at h
      rw [if_neg (by decide), if_neg (by decide), hw h0, show ((d.size - 1 : Nat) : Int) = (d.size : Int) - 1 by omega]
      exact h
  have hrest : ∀ b0 : Bool, b0 = false → ¬ (d.size < 10 ∧ (natsOf d = [] ∨ 128 ≤ (natsOf d).getLastD 0)) → 0 < d.size → concordref01_number.j0 (k + 1) d (most : Int) (d.size : Int) b0 = some (((dgR most (natsOf d)).2.1 : Int), (dgR most (natsOf d)).1) := by
    rintro _ rfl hA h0
    rw [concordref01_number.j0, if_neg (by decide)]
    unfold dgR
    rw [hn, if_neg hA]
    have htail : ¬ (d.size = 10 ∧ 1 < (natsOf d).getLastD 0) → (if (d.size : Int) > 1 then (if 0 ≤ (wrap64 ((d.size : Int) - 1)) then (if (wrap64 ((d.size : Int) - 1)) < (d.size : Int) then (concordref01_number.j1 k d (most : Int) (d.size : Int) ((bt d (wrap64 ((d.size : Int) - 1))) == 0)) else (none)) else (none)) else (concordref01_number.j1 k d (most : Int) (d.size : Int) false)) = some (((if (d.size = 10 ∧ 1 < (natsOf d).getLastD 0) ∨ (1 < d.size ∧ (natsOf d).getLastD 0 = 0) then ((11, 0, 0) : Int × Nat × Nat) else if most < valL (natsOf d) then (11, 0, 0) else (0, valL (natsOf d), d.size)).2.1 : Int), (if (d.size = 10 ∧ 1 < (natsOf d).getLastD 0) ∨ (1 < d.size ∧ (natsOf d).getLastD 0 = 0) then ((11, 0, 0) : Int × Nat × Nat) else if most < valL (natsOf d) then (11, 0, 0) else (0, valL (natsOf d), d.size)).1) := by
      intro hB
      by_cases h1 : 1 < d.size
      · rw [if_pos (by omega), hw h0, if_pos (by omega), if_pos (by omega), hlast h0, hj1 _ (fun _ => hval hB) h0]
        by_cases hz : (natsOf d).getLastD 0 = 0
        · rw [hz, if_pos (show (((0 : Nat) : Int) == 0) = true from rfl), if_pos (.inr ⟨h1, rfl⟩)]; rfl
        · have hz2 : ¬ (((((natsOf d).getLastD 0 : Nat) : Int) == 0) = true) := by simp only [beq_iff_eq]; omega
          rw [if_neg hz2, if_neg (show ¬ ((d.size = 10 ∧ 1 < (natsOf d).getLastD 0) ∨ (1 < d.size ∧ (natsOf d).getLastD 0 = 0)) from fun h => h.elim hB (fun h => hz h.2))]
          by_cases hm : most < valL (natsOf d)
          · rw [if_pos hm, if_pos hm]; rfl
          · rw [if_neg hm, if_neg hm]
      · rw [if_neg (by omega), hj1 _ (fun _ => hval hB) h0, if_neg (by decide), if_neg (show ¬ ((d.size = 10 ∧ 1 < (natsOf d).getLastD 0) ∨ (1 < d.size ∧ (natsOf d).getLastD 0 = 0)) from fun h => h.elim hB (fun h => h1 h.1))]
        by_cases hm : most < valL (natsOf d)
        · rw [if_pos hm, if_pos hm]; rfl
        · rw [if_neg hm, if_neg hm]
    by_cases h10 : d.size = 10
    · have h9 : bt d 9 = (((natsOf d).getLastD 0 : Nat) : Int) := by
        have := hlast h0
        rw [h10] at this
        exact this
      rw [if_pos (by omega), if_pos (by omega), h9]
      by_cases hgt : 1 < (natsOf d).getLastD 0
      · rw [if_pos (by omega), hj1 true (by intro h; cases h) h0, if_pos rfl, if_pos (.inl ⟨h10, hgt⟩)]; rfl
      · rw [if_neg (by omega)]
        exact htail (fun h => hgt h.2)
    · rw [if_neg (by omega)]
      exact htail (fun h => h10 h.1)
  rw [concordref01_number.f]
  by_cases h10 : d.size < 10
  · rw [if_pos (by omega)]
    by_cases h0 : d.size = 0
    · have hnil : natsOf d = [] := List.eq_nil_of_length_eq_zero (by omega)
      rw [if_pos (by omega), concordref01_number.j0, if_pos rfl, hnil]
      unfold dgR
      rw [if_pos ⟨by simp, .inl rfl⟩]; rfl
    · rw [if_neg (by omega), hw (by omega), if_pos (by omega), if_pos (by omega), hlast (by omega)]
      by_cases h128 : 128 ≤ (natsOf d).getLastD 0
      · rw [decide_eq_true (by omega), concordref01_number.j0, if_pos rfl]
        unfold dgR
        rw [if_pos ⟨by omega, .inr h128⟩]; rfl
      · rw [show decide ((((natsOf d).getLastD 0 : Nat) : Int) ≥ 128) = false from decide_eq_false (by omega)]
        exact hrest _ rfl (by
          rintro ⟨_, h | h⟩
          · rw [h] at hn; simp at hn; omega
          · omega) (by omega)
  · rw [if_neg (by omega)]
    exact hrest false rfl (fun h => h10 h.1) (by omega)
theorem dgD_of (s : ByteArray) (p : Nat) (hp : p ≤ s.size) : natsOf (s.extract p (p + (dgL 10 ((natsOf s).drop p)).length)) = dgL 10 ((natsOf s).drop p) ∧ (dgL 10 ((natsOf s).drop p)).length ≤ 10 ∧ p + (dgL 10 ((natsOf s).drop p)).length ≤ s.size := by
  have h1 := dgL_len 10 ((natsOf s).drop p)
  rw [List.length_drop, natsOf_len] at h1
  refine ⟨?_, h1.1, by omega⟩
  rw [natsOf_extract, Nat.add_sub_cancel_left]
  obtain ⟨R, h⟩ := dgL_pre 10 ((natsOf s).drop p)
  generalize dgL 10 ((natsOf s).drop p) = D at *
  rw [h, List.take_left]
theorem uRead_dg (s : ByteArray) (p most : Nat) : uRead s p most = dgR most (dgL 10 ((natsOf s).drop p)) := by
  unfold uRead dgR
  rw [uL_dg most 9 0 0 _ rfl]
  simp only [Nat.pow_zero, Nat.mul_one, Nat.add_zero, Nat.zero_add]
theorem rU_f (s : ByteArray) (p : Nat) (e : Int) (most : Nat) (hp : p ≤ s.size) (hs : s.size ≤ 500000000000000) (k : Nat) (hk : 24 ≤ k) : concordref01_Reader_Uint.f k s p e most = some (((rU s p e most).1 : Int), s, ((rU s p e most).2.1 : Int), (rU s p e most).2.2) := by
  unfold concordref01_Reader_Uint.f rU
  by_cases he : e = 0
  · subst he
    have hd : concordref01_Reader_digits.f k s p 0 = some (s.extract p (p + (dgL 10 ((natsOf s).drop p)).length), s, (p : Int), 0) := by
      have := digits_l0 s p 0 hp hs 10 0 k (by omega) (by omega) (by omega)
      rw [Nat.add_zero, Nat.zero_add] at this
      exact this
    obtain ⟨h1, h2, h3⟩ := dgD_of s p hp
    have hsz : (s.extract p (p + (dgL 10 ((natsOf s).drop p)).length)).size = (dgL 10 ((natsOf s).drop p)).length := by
      rw [← natsOf_len, h1]
    rw [if_pos rfl, if_pos rfl, hd, Option.bind_some]
    dsimp only
    rw [number_f _ most (by omega) k (by omega), h1, Option.bind_some, uRead_dg]
    dsimp only
    rw [hsz]
    unfold dgR
    split
    · rw [if_neg (by decide), rfail_f]; rfl
    · split
      · rw [if_neg (by decide), rfail_f]; rfl
      · split
        · rw [if_neg (by decide), rfail_f]; rfl
        · rw [if_pos rfl]
          have : wrap64 ((p : Int) + ((dgL 10 ((natsOf s).drop p)).length : Int)) = ((p + (dgL 10 ((natsOf s).drop p)).length : Nat) : Int) := by unfold wrap64; omega
          rw [this]
  · rw [if_neg he, if_neg he]; rfl
def MS (w : World) (g : Nat) (s : ByteArray) (p : Nat) (e : Int) : Prop := w.heap[g]? = some (.cells #[.string s, .int .i64 p, .int .i64 e] 47 (0, 0))
theorem MS.cells {w : World} {g : Nat} {s : ByteArray} {p : Nat} {e : Int} (h : MS w g s p e) : w.cell? ⟨g, 0, none⟩ = some (.string s) ∧ w.cell? ⟨g, 1, none⟩ = some (.int .i64 p) ∧ w.cell? ⟨g, 2, none⟩ = some (.int .i64 e) ∧ w.frozen? ⟨g, 1, none⟩ = false ∧ w.frozen? ⟨g, 2, none⟩ = false :=
  ⟨(blk_cell h 0).trans rfl, (blk_cell h 1).trans rfl, (blk_cell h 2).trans rfl, blk_frozen h 1, blk_frozen h 2⟩
def w00 (w : World) : World := { w with heap := #[] }
theorem below00 (w : World) : Below (w00 w).heap.size (w00 w) w := ⟨rfl, rfl, rfl, Nat.zero_le _, fun k h => absurd h (Nat.not_lt_zero k)⟩
theorem alone00 {w w' : World} {g : Nat} (hb : Below (w00 w).heap.size (w00 w) w') (hk : KeepBut w w' g none) : Alone1 w w' g :=
  ⟨⟨hb.os, hb.tape, hb.output, hk.1, fun k h => absurd h (Nat.not_lt_zero k)⟩, fun k hne hlt => hk.2 k hlt hne (by simp)⟩
theorem MUint {w : World} {g : Nat} {s : ByteArray} {p : Nat} {e : Int} (h : MS w g s p e) (hp : p ≤ s.size) (hs : s.size ≤ 500000000000000) (most : Nat) : Calls Try.prog 57 #[.pointer (some ⟨g, 0, none⟩), .int .u64 most] w fun r w' => r = .returned (.int .u64 (rU s p e most).1) ∧ MS w' g s (rU s p e most).2.1 (rU s p e most).2.2 ∧ Alone1 w w' g :=
  (concordref01_Reader_Uint.calls 100 g s p e most _ _ _ _ (w00 w) w ⟨h, Nat.zero_le _⟩ (below00 w) (rU_f s p e most hp hs 100 (by omega))).mono fun r w' ⟨h1, h2, h3, h4⟩ => ⟨h1, h2.1, alone00 h3 h4⟩
theorem MFail {w : World} {g : Nat} {s : ByteArray} {p : Nat} {e : Int} (h : MS w g s p e) (n : Int) : Calls Try.prog 30 #[.pointer (some ⟨g, 0, none⟩), .int .i64 n] w fun r w' => r = .returned (.tuple #[]) ∧ MS w' g s p (fe e n) ∧ Alone1 w w' g :=
  (concordref01_Reader_Fail.calls g s p e n _ _ _ (w00 w) w ⟨h, Nat.zero_le _⟩ (below00 w) (by rw [concordref01_Reader_Fail.f, rfail_f]; rfl)).mono fun r w' ⟨h1, h2, h3, h4⟩ => ⟨h1, h2.1, alone00 h3 h4⟩
def rE (s : ByteArray) (p : Nat) (e : Int) : Int := if e = 0 then (if p < s.size then 12 else 0) else e
theorem MEnd {w : World} {g : Nat} {s : ByteArray} {p : Nat} {e : Int} (h : MS w g s p e) : Calls Try.prog 36 #[.pointer (some ⟨g, 0, none⟩)] w fun r w' => r = .returned (.int .i64 (rE s p e)) ∧ MS w' g s p e ∧ Alone1 w w' g :=
  (concordref01_Reader_End.calls g s p e _ _ _ _ (w00 w) w ⟨h, Nat.zero_le _⟩ (below00 w) (by
    unfold concordref01_Reader_End.f rE
    by_cases he : e = 0
    · subst he
      rw [if_pos rfl, if_pos rfl]
      by_cases hl : p < s.size
      · rw [if_pos (show (p : Int) < (s.size : Int) by omega), if_pos hl]
      · rw [if_neg (show ¬ (p : Int) < (s.size : Int) by omega), if_neg hl]
    · rw [if_neg he, if_neg he])).mono fun r w' ⟨h1, h2, h3, h4⟩ => ⟨h1, h2.1, alone00 h3 h4⟩
end Go.Proofs.Ytgcmmiihjiiemaa.My
namespace Go.Proofs.Ytgcmmiihjiiemaa.My
open Go.RowKit Go.Proofs.YtgcmmiihjiiemaaW.PrintWords Go.Proofs.YtgcmmiihjiiemaaW.PrintLast Go.Proofs.YtgcmmiihjiiemaaW.PrintMore Go.Proofs.Ytgcmmiihjiiemaa Go.Proofs.Ytgcmmiihjiiemaa.PVectorMax
set_option linter.unusedSimpArgs false
set_option linter.unusedVariables false
set_option maxRecDepth 100000
set_option maxHeartbeats 1600000
open Go.Proofs.Ytgcmmiihjiiemaa.PB in
theorem rtk_no (s : ByteArray) (q : Nat) (hq : q ≤ s.size) (hs : s.size ≤ 500000000000000) (e : Int) (he : e ≠ 0) (N : Nat) (hN : N ≤ 64) : ∀ (n i k : Nat) (L : List Dt), i + n = N → L.length = i → n + 80 ≤ k →
    concordref10_Take.l0 k (N : Int) L (i : Int) s (q : Int) e = some ([], s, (q : Int), e)
  | 0, i, k, L, hi, hL, hk => by
    obtain ⟨k, rfl⟩ : ∃ j, k = j + 2 := ⟨k - 2, by omega⟩
    rw [concordref10_Take.l0, if_neg (by omega), if_neg he, concordref10_Take.j1, if_neg (by decide), if_neg he]
  | n + 1, i, k, L, hi, hL, hk => by
    obtain ⟨k, rfl⟩ : ∃ j, k = j + 1 := ⟨k - 1, by omega⟩
    have f1 := rU_f s q e 4294967295 hq hs k (by omega)
    have f2 := rU_f s q e 1099511627776 hq hs k (by omega)
    rw [rU_err s q 4294967295 he] at f1
    rw [rU_err s q 1099511627776 he] at f2
    have ei : IntKind.u64.wrap ((i : Int) + 1) = ((i + 1 : Nat) : Int) := by rw [IntKind.wrap_u64]; omega
    rw [concordref10_Take.l0, if_pos (by omega), show (4294967295 : Int) = ((4294967295 : Nat) : Int) from rfl, f1, Option.bind_some]
    dsimp only
    rw [show (1099511627776 : Int) = ((1099511627776 : Nat) : Int) from rfl, f2, Option.bind_some]
    dsimp only
    rw [if_pos (by omega), ei]
    exact rtk_no s q hq hs e he N hN n (i + 1) k _ (by omega) (by rw [List.length_append, hL]; rfl) (by omega)
open Go.Proofs.Ytgcmmiihjiiemaa.PB in
theorem rtk_end (s : ByteArray) (L : List Dt) (q : Nat) (hL : L.length ≤ 64) (N : Nat) (k : Nat) (hk : 80 ≤ k) : concordref10_Take.l0 k (N : Int) L (N : Int) s (q : Int) 0 = some ((tkEnd (L, q, 0)).1, s, ((tkEnd (L, q, 0)).2.1 : Int), (tkEnd (L, q, 0)).2.2) := by
  obtain ⟨k, rfl⟩ : ∃ j, k = j + 2 := ⟨k - 2, by omega⟩
  rw [concordref10_Take.l0, if_neg (by omega), if_pos rfl, refValid_f L (by omega) (k + 1) (by omega), Option.bind_some, concordref10_Take.j1]
  unfold tkEnd
  cases hv : validB L with
  | true => rfl
  | false => rfl
open Go.Proofs.Ytgcmmiihjiiemaa.PB in
theorem rtk_l0 (s : ByteArray) (hs : s.size ≤ 500000000000000) (N : Nat) (hN : N ≤ 64) : ∀ (n i q k : Nat) (L : List Dt), i + n = N → L.length = i → q ≤ s.size → n + 100 ≤ k →
    concordref10_Take.l0 k (N : Int) L (i : Int) s (q : Int) 0 = some ((tkEnd (tkO s n q L)).1, s, ((tkEnd (tkO s n q L)).2.1 : Int), (tkEnd (tkO s n q L)).2.2)
  | 0, i, q, k, L, hi, hL, hq, hk => by
    obtain rfl : i = N := by omega
    rw [tkO]
    exact rtk_end s L q (by omega) i k (by omega)
  | n + 1, i, q, k, L, hi, hL, hq, hk => by
    obtain ⟨k, rfl⟩ : ∃ j, k = j + 1 := ⟨k - 1, by omega⟩
    have q1 := rU_le s q 0 4294967295 hq
    have m1 := rU_most s q 0 4294967295
    have f1 := rU_f s q 0 4294967295 hq hs k (by omega)
    have ei : IntKind.u64.wrap ((i : Int) + 1) = ((i + 1 : Nat) : Int) := by rw [IntKind.wrap_u64]; omega
    rw [concordref10_Take.l0, if_pos (by omega), show (4294967295 : Int) = ((4294967295 : Nat) : Int) from rfl, f1, Option.bind_some, tkO]
    generalize rU s q 0 4294967295 = A at *
    obtain ⟨na, qa, ea⟩ := A
    dsimp only at q1 m1 ⊢
    have q2 := rU_le s qa ea 1099511627776 q1
    have f2 := rU_f s qa ea 1099511627776 q1 hs k (by omega)
    rw [show (1099511627776 : Int) = ((1099511627776 : Nat) : Int) from rfl, f2, Option.bind_some]
    generalize rU s qa ea 1099511627776 = C at *
    obtain ⟨nc, qc, ec⟩ := C
    dsimp only at q2 ⊢
    have em : (na : Int) % 4294967296 = na := by omega
    rw [if_pos (by omega), ei, em]
    by_cases hec : ec = 0
    · subst hec
      rw [if_pos rfl]
      exact rtk_l0 s hs N hN n (i + 1) qc k _ (by omega) (by rw [List.length_append, hL]; rfl) q2 (by omega)
    · rw [if_neg hec, rtk_no s qc q2 hs ec hec N hN n (i + 1) k _ (by omega) (by rw [List.length_append, hL]; rfl) (by omega)]
      unfold tkEnd
      dsimp only
      rw [if_neg hec]
open Go.Proofs.Ytgcmmiihjiiemaa.PB in
theorem rTake_f (s : ByteArray) (p : Nat) (e : Int) (hp : p ≤ s.size) (hs : s.size ≤ 500000000000000) (k : Nat) (hk : 200 ≤ k) : concordref10_Take.f k s (p : Int) e = some ((takeV s p e).1, s, ((takeV s p e).2.1 : Int), (takeV s p e).2.2) := by
  have q1 := rU_le s p e 64 hp
  have m1 := rU_most s p e 64
  have b1 := rU_bad s p e 64
  unfold concordref10_Take.f
  rw [show (64 : Int) = ((64 : Nat) : Int) from rfl, rU_f s p e 64 hp hs k (by omega), Option.bind_some, takeV_end]
  unfold tkT
  generalize rU s p e 64 = A at *
  obtain ⟨N, q, e1⟩ := A
  dsimp only at q1 m1 b1 ⊢
  by_cases he : e1 = 0
  · subst he
    rw [if_pos rfl]
    exact rtk_l0 s hs N m1 N 0 q k [] (by omega) rfl q1 (by omega)
  · rw [if_neg he]
    have h := rtk_no s q q1 hs e1 he N m1 N 0 k [] (by omega) rfl (by omega)
    unfold tkEnd
    dsimp only
    rw [if_neg he]
    exact h
theorem Alone1.block {w w' : World} {g : Nat} (h : Alone1 w w' g) {base : Nat} {ok : Nat → Prop} {v : Value} {xs : List Dt} (hr : Kd.R kD 35 w base ok v xs) {C : Array Value} {t : Nat} (hb : w.heap[g]? = some (.cells C t (0, 0))) (ht : t ≠ 35) : Kd.R kD 35 w' base ok v xs :=
  Kd.R_mono (Kd.R_step (Kd.R_types hr hb (by
    intro q hq
    have : q = 35 := by simpa [k35, Kd.iso, Kd.pair, Kd.int, Kd.scalar] using hq
    rw [this]
    exact Ne.symm ht)) (fun k hk hlt => h.2 k hk.2 hlt)) (fun _ hk => hk.1)
theorem RTake {w : World} {g : Nat} {s : ByteArray} {p : Nat} {e : Int} (h : RS w g s p e) (hp : p ≤ s.size) (hs : s.size ≤ 500000000000000) :
    Calls Try.prog 19 #[.pointer (some ⟨g, 0, none⟩)] w fun r w' => ∃ v, r = .returned v ∧ Kd.R kD 35 w' w.heap.size (fun _ => True) v (takeV s p e).1 ∧ RS w' g s (takeV s p e).2.1 (takeV s p e).2.2 ∧ Alone1 w w' g :=
  (Go.Proofs.Ytgcmmiihjiiemaa.PF.vector_Take.calls 200 g s p e _ _ _ _ (w00 w) w ⟨h, Nat.zero_le _⟩ (below00 w) (vTake_f s p e hp hs 200 (Nat.le_refl _))).mono fun r w' ⟨v, h1, h2, h3, h4, h5⟩ => ⟨v, h1, h2, h3.1, alone00 h4 h5⟩
theorem MTake {w : World} {g : Nat} {s : ByteArray} {p : Nat} {e : Int} (h : MS w g s p e) (hp : p ≤ s.size) (hs : s.size ≤ 500000000000000) :
    Calls Try.prog 32 #[.pointer (some ⟨g, 0, none⟩)] w fun r w' => ∃ v, r = .returned v ∧ Kd.R kD 35 w' w.heap.size (fun _ => True) v (takeV s p e).1 ∧ MS w' g s (takeV s p e).2.1 (takeV s p e).2.2 ∧ Alone1 w w' g :=
  (Go.Proofs.Ytgcmmiihjiiemaa.PB.concordref10_Take.calls 200 g s p e _ _ _ _ (w00 w) w ⟨h, Nat.zero_le _⟩ (below00 w) (rTake_f s p e hp hs 200 (Nat.le_refl _))).mono fun r w' ⟨v, h1, h2, h3, h4, h5⟩ => ⟨v, h1, h2, h3.1, alone00 h4 h5⟩
theorem rE_end (s : ByteArray) (p : Nat) (e : Int) : rE s p e = endE s p e := rfl
end Go.Proofs.Ytgcmmiihjiiemaa.My
namespace Go.Proofs.Ytgcmmiihjiiemaa.My
open Go.RowKit Go.Proofs.YtgcmmiihjiiemaaW.PrintWords Go.Proofs.YtgcmmiihjiiemaaW.PrintLast Go.Proofs.YtgcmmiihjiiemaaW.PrintMore Go.Proofs.Ytgcmmiihjiiemaa Go.Proofs.Ytgcmmiihjiiemaa.PVectorMax
set_option linter.unusedSimpArgs false
set_option linter.unusedVariables false
set_option maxRecDepth 100000
set_option maxHeartbeats 1600000
theorem MDecode (s : ByteArray) (hs : s.size ≤ 140737488351232) (w : World) :
    Calls Try.prog 27 #[.string s] w fun e w' => ∃ v, e = .returned (.tuple #[v, .int .i64 (decV s).2]) ∧ Kd.R kD 35 w' w.heap.size (fun _ => True) v (decV s).1 ∧ Below w.heap.size w w' := by
  go_enter Try.func27, Try.ntmps27
  go_wp2_with fail
  have h0 : MS (w.alloc (.cells #[.string s, .int .i64 0, .int .i64 0] 47)) w.heap.size s 0 0 := W_push w _ _ _
  have a0 : Alone1 w (w.alloc (.cells #[.string s, .int .i64 0, .int .i64 0] 47)) w.heap.size := Alone1_alloc w _ _
  refine (MTake h0 (Nat.zero_le _) (Nat.le_trans hs (by decide))).mono ?_
  rintro e_ w1 ⟨v, rfl, hr, hm, ha⟩
  go_wp2_with fail
  refine (MEnd hm).mono ?_
  rintro e_ w2 ⟨rfl, hm2, ha2⟩
  have hr2 := ha2.block hr hm (by decide)
  have hb : Below w.heap.size w w2 := below_alone1 (below_alone1 ((Below.refl _ _).alloc (Nat.le_refl _) _) ha (Nat.le_refl _) (by show _ ≤ (w.heap.push _).size; rw [Array.size_push]; omega)) ha2 (Nat.le_refl _) (Nat.le_trans (by show _ ≤ (w.heap.push _).size; rw [Array.size_push]; omega) ha.1.size)
  have hs1 : w.heap.size ≤ (w.alloc (.cells #[.string s, .int .i64 0, .int .i64 0] 47)).heap.size := by show _ ≤ (w.heap.push _).size; rw [Array.size_push]; omega
  have hr3 := Kd.R_lower hr2 hs1
  have hD : decV s = if endE s (takeV s 0 0).2.1 (takeV s 0 0).2.2 = 0 then ((takeV s 0 0).1, 0) else ([], 100) := rfl
  have HD := Aside0.mk hD
  have HR := Aside0.mk hr3
  have HB := Aside0.mk hb
  clear hD hr hr2 hr3 hb hm hm2 ha ha2 a0 h0 hs1
  rw [rE_end]
  by_cases he : endE s (takeV s 0 0).2.1 (takeV s 0 0).2.2 = 0
  · have e1 := HD.out
    rw [if_pos he] at e1
    rw [he]
    have HE := Aside0.mk e1
    clear e1 HD he
    go_wp2_with fail
    go_ret2
    rw [HE.out]
    exact ⟨v, rfl, HR.out, HB.out⟩
  · have e1 := HD.out
    rw [if_neg he] at e1
    generalize endE s (takeV s 0 0).2.1 (takeV s 0 0).2.2 = E at he ⊢
    have he2 : (E != 0) = true := by simpa using he
    have he3 : (E == 0) = false := by simpa using he
    have HE := Aside0.mk e1
    clear e1 HD he
    go_wp2_with fail
    go_ret2
    rw [HE.out]
    exact ⟨.slice none 0 0, rfl, Kd.R_nil _ _ _ _ _, HB.out⟩
end Go.Proofs.Ytgcmmiihjiiemaa.My
namespace Go.Proofs.Ytgcmmiihjiiemaa.My
open Go.RowKit Go.Proofs.YtgcmmiihjiiemaaW.PrintWords Go.Proofs.YtgcmmiihjiiemaaW.PrintLast Go.Proofs.YtgcmmiihjiiemaaW.PrintMore Go.Proofs.Ytgcmmiihjiiemaa Go.Proofs.Ytgcmmiihjiiemaa.PVectorMax Go.Proofs.Ytgcmmiihjiiemaa.PB
set_option linter.unusedSimpArgs false
set_option linter.unusedVariables false
set_option maxRecDepth 100000
set_option maxHeartbeats 800000
theorem uint_l0 : ∀ (m v k : Nat) (B : List Int), v < 18446744073709551616 → v < 128 * 128 ^ m → B.length + m ≤ 100 → m + 2 ≤ k → concordref01_Uint.l0 k (v : Int) B = some (strOfNums (B ++ uv m v))
  | 0, v, k, B, hv, hm, hl, hk => by
    obtain ⟨k, rfl⟩ : ∃ j, k = j + 1 := ⟨k - 1, by omega⟩
    rw [concordref01_Uint.l0, if_neg (by omega), if_pos (by omega), uv, show (v : Int) % 256 = v by omega]
  | m + 1, v, k, B, hv, hm, hl, hk => by
    obtain ⟨k, rfl⟩ : ∃ j, k = j + 1 := ⟨k - 1, by omega⟩
    rw [concordref01_Uint.l0, uv]
    by_cases h : v < 128
    · rw [if_neg (by omega), if_pos (by omega), if_pos h, show (v : Int) % 256 = v by omega]
    · have e1 : IntKind.u64.wrap (Int.tdiv (v : Int) 128) = ((v / 128 : Nat) : Int) := by
        rw [IntKind.wrap_u64, Int.tdiv_eq_ediv_of_nonneg (by omega)]; omega
      have e2 : IntKind.u64.wrap (Int.tmod (v : Int) 128 + 128) % 256 = ((v % 128 + 128 : Nat) : Int) := by
        rw [IntKind.wrap_u64, Int.tmod_eq_emod_of_nonneg (by omega)]; omega
      rw [if_pos (by omega), if_pos (by omega), if_neg h, e1, e2, uint_l0 m (v / 128) k _ (by omega) (by rw [Nat.pow_succ] at hm; omega) (by simp; omega) (by omega), List.append_assoc, List.singleton_append]
theorem uint_f (v k : Nat) (hv : v < 18446744073709551616) (hk : 12 ≤ k) : concordref01_Uint.f k (v : Int) = some (strOfNums (uv 10 v)) := by
  have h := uint_l0 10 v k [] hv (by rw [show (128 : Nat) ^ 10 = 1180591620717411303424 by decide]; omega) (by simp) (by omega)
  rw [List.nil_append] at h
  exact h
theorem strOf_append (l m : List Int) : strOfNums (l ++ m) = strOfNums l ++ strOfNums m := by
  apply ByteArray.ext
  rw [ByteArray.data_append]
  unfold strOfNums
  simp
theorem rvalid_f {l : List Dt} (h : okD l = true) (k : Nat) (hk : l.length + 1 ≤ k) : concordref10_Valid.f k l = some (validB l) := refValid_f l (by have := okD_len h; omega) k hk
theorem str_size (l : List Int) : (strOfNums l).size = l.length := by unfold strOfNums; simp [ByteArray.size]
theorem renc_l0 {l : List Dt} (h : okD l = true) (hv : validB l = true) : ∀ (n i k : Nat) (B : List Int), i + n = l.length → n + 20 ≤ k → B.length + n * 30 ≤ 1000000 → concordref10_Encode.l0 k l (strOfNums B) (i : Int) = some (strOfNums (B ++ encD (l.drop i)), 0)
  | 0, i, k, B, hi, hk, hB => by
    obtain ⟨k, rfl⟩ : ∃ j, k = j + 1 := ⟨k - 1, by omega⟩
    rw [concordref10_Encode.l0, if_neg (by omega), List.drop_eq_nil_of_le (by omega)]
    show _ = some (strOfNums (B ++ []), 0)
    rw [List.append_nil]
  | n + 1, i, k, B, hi, hk, hB => by
    obtain ⟨k, rfl⟩ : ∃ j, k = j + 1 := ⟨k - 1, by omega⟩
    have hl := okD_len h
    have hm := List.getElem_mem (show i < l.length by omega)
    obtain ⟨p0, p1, p2⟩ := okD_pos h _ hm
    have p3 := vB_max l none (Bool.and_eq_true_iff.1 hv).1 _ hm
    have h1 := uint_f (l[i]).f0.toNat k (by omega) (by omega)
    have h2 := uint_f (l[i]).f1.toNat k (by omega) (by omega)
    rw [Int.toNat_of_nonneg p0] at h1
    rw [Int.toNat_of_nonneg p2] at h2
    have e : IntKind.u64.wrap (l[i]).f0 = (l[i]).f0 := by rw [IntKind.wrap_u64]; omega
    have l1 := uv_len 10 (l[i]).f0.toNat
    have l2 := uv_len 10 (l[i]).f1.toNat
    rw [concordref10_Encode.l0, if_pos (by omega), if_pos (by omega), rd_at l i (by omega), e, h1, Option.bind_some, if_pos (by rw [str_size, str_size]; omega), h2, Option.bind_some, ← strOf_append, if_pos (by rw [str_size, str_size, List.length_append]; omega), ← strOf_append, wr_succ i (by omega), renc_l0 h hv n (i + 1) k _ (by omega) (by omega) (by rw [List.length_append, List.length_append]; omega), List.drop_eq_getElem_cons (show i < l.length by omega)]
    show _ = some (strOfNums (B ++ (uv 10 (l[i]).f0.toNat ++ (uv 10 (l[i]).f1.toNat ++ encD (l.drop (i + 1))))), 0)
    rw [List.append_assoc, List.append_assoc]
theorem renc_f {l : List Dt} (h : okD l = true) (k : Nat) (hk : l.length + 40 ≤ k) : concordref10_Encode.f k l = some (ownEnc l) := by
  have hl := okD_len h
  unfold concordref10_Encode.f ownEnc
  rw [rvalid_f h k (by omega), Option.bind_some]
  cases hv : validB l with
  | false => rfl
  | true =>
    have h64 := (valid_props l hv).2.2
    rw [if_pos rfl, if_pos rfl]
    have e : IntKind.u64.wrap (l.length : Int) = (l.length : Int) := by rw [IntKind.wrap_u64]; omega
    have l1 := uv_len 10 l.length
    rw [e, uint_f l.length k (by omega) (by omega), Option.bind_some]
    have h2 := renc_l0 h hv l.length 0 k (uv 10 l.length) (by omega) (by omega) (by omega)
    rw [List.drop_zero] at h2
    exact h2
theorem venc_f {l : List Dt} (h : okD l = true) : vector_Encode.f l = some (ownEnc l) := by unfold vector_Encode.f; rw [if_pos h]
end Go.Proofs.Ytgcmmiihjiiemaa.My
namespace Go.Proofs.Ytgcmmiihjiiemaa.My
open Go.RowKit Go.Proofs.YtgcmmiihjiiemaaW.PrintWords Go.Proofs.YtgcmmiihjiiemaaW.PrintLast Go.Proofs.YtgcmmiihjiiemaaW.PrintMore Go.Proofs.Ytgcmmiihjiiemaa Go.Proofs.Ytgcmmiihjiiemaa.PVectorMax
set_option linter.unusedSimpArgs false
set_option linter.unusedVariables false
set_option maxRecDepth 100000
set_option maxHeartbeats 800000
def putL (l : List Dt) : List Int := if validB l = true then encL l else []
theorem Put_any (g : Nat) (v : Value) (xs : List Int) (w0 w : World) (HB0 : Below w0.heap.size w0 w) (h : WS w w0.heap.size g v xs) (A : Option Addr) (n c : Nat) (l : List Dt) (hA : Kd.C kD w0 A l.length l) (hc : l.length ≤ c) (hn : l.length = n) (ho : okD l = true) (hx : xs.length ≤ 1000000) :
    Calls Try.prog 20 #[.pointer (some ⟨g, 0, none⟩), .slice A n c] w fun e w' => e = .returned (.int .i64 (ownEnc l).2) ∧ ∃ v', WS w' w0.heap.size g v' (xs ++ putL l) ∧ Below w0.heap.size w0 w' := by
  subst hn
  unfold ownEnc putL
  have hl := okD_len ho
  cases hv : validB l with
  | true => exact Put_calls g v xs w0 w HB0 h A c l hA hc hl (okD_pos ho) hv hx
  | false =>
    refine (Put_bad g w A c l (Kd.C_below hA HB0) hc hl (fun x hx => (okD_pos ho x hx).2.2) hv).mono ?_
    rintro e w' ⟨rfl, hb⟩
    refine ⟨rfl, v, ?_, below_then HB0 HB0.size hb⟩
    have e1 : xs ++ (if false = true then encL l else []) = xs := List.append_nil _
    rw [e1]
    exact h.below hb
theorem told_want (l : List Dt) : strOfNums ([] ++ [9] ++ putL l) = (⟨#[9]⟩ : ByteArray) ++ (ownEnc l).1 := by
  unfold putL ownEnc
  rw [strOf_append, List.nil_append]
  have e : strOfNums [9] = ⟨#[9]⟩ := by decide
  rw [e]
  cases validB l with
  | true => rfl
  | false => rfl
theorem encO (W : World) (A : Option Addr) (n c : Nat) (a : List Dt) (hA : Kd.C kD W A a.length a) (hc : a.length ≤ c) (hn : a.length = n) (oa : okD a = true) (r1 : ByteArray) (r2 : Int) (hr : ownEnc a = (r1, r2)) :
    Calls Try.prog 24 #[.slice A n c] W fun e w' => e = .returned (.tuple #[.string r1, .int .i64 r2]) ∧ Below W.heap.size W w' := by
  subst hn
  exact vector_Encode.calls A c a r1 r2 W hA hc (by rw [venc_f oa, hr])
theorem encR (W : World) (A : Option Addr) (n c : Nat) (a : List Dt) (hA : Kd.C kD W A a.length a) (hc : a.length ≤ c) (hn : a.length = n) (oa : okD a = true) (r1 : ByteArray) (r2 : Int) (hr : ownEnc a = (r1, r2)) :
    Calls Try.prog 23 #[.slice A n c] W fun e w' => e = .returned (.tuple #[.string r1, .int .i64 r2]) ∧ Below W.heap.size W w' := by
  subst hn
  exact Go.Proofs.Ytgcmmiihjiiemaa.PB.concordref10_Encode.calls _ A c a r1 r2 W hA hc (by rw [renc_f oa _ (Nat.le_refl _), hr])
theorem own_size (l : List Dt) : (ownEnc l).1.size ≤ 2000 := by
  unfold ownEnc
  split
  · rename_i h
    have h1 := (valid_props l h).2.2
    show (strOfNums (encL l)).size ≤ 2000
    rw [str_size]
    unfold encL
    have h2 := uv_len 10 l.length
    have h3 := encD_len l
    rw [List.length_append]
    omega
  · exact Nat.zero_le _
theorem takeV_len (s : ByteArray) (p : Nat) (e : Int) : (takeV s p e).1.length ≤ 64 := by
  rw [takeV_end]
  unfold tkEnd
  split
  · split
    · rename_i h
      exact (valid_props _ h).2.2
    · exact Nat.zero_le _
  · exact Nat.zero_le _
theorem decV_len (s : ByteArray) : (decV s).1.length ≤ 64 := by
  unfold decV
  split
  · exact takeV_len s 0 0
  · exact Nat.zero_le _
theorem decO (W : World) (s : ByteArray) (hs : s.size ≤ 140737488351232) (n0 : Nat) (h0 : n0 ≤ W.heap.size) (r1 : List Dt) (r2 : Int) (hr : decV s = (r1, r2)) :
    Calls Try.prog 28 #[.string s] W fun e w' => ∃ (R : Option Addr) (q : Nat), e = .returned (.tuple #[.slice R r1.length q, .int .i64 r2]) ∧ Kd.R kD 35 w' n0 (fun k => W.heap.size ≤ k ∧ k < w'.heap.size) (.slice R r1.length q) r1 ∧ Below W.heap.size W w' := by
  refine (Go.Proofs.Ytgcmmiihjiiemaa.PF.vector_Decode.calls 200 s r1 r2 W (by rw [vDec_f s (Nat.le_trans hs (by decide)) 200 (Nat.le_refl _), hr])).mono ?_
  rintro e w' ⟨v, rfl, h1, h2⟩
  obtain ⟨R, q, rfl⟩ := Kd.R_slice h1
  exact ⟨R, q, rfl, sealRow h1 h0, h2⟩
theorem decR (W : World) (s : ByteArray) (hs : s.size ≤ 140737488351232) (n0 : Nat) (h0 : n0 ≤ W.heap.size) (r1 : List Dt) (r2 : Int) (hr : decV s = (r1, r2)) :
    Calls Try.prog 27 #[.string s] W fun e w' => ∃ (R : Option Addr) (q : Nat), e = .returned (.tuple #[.slice R r1.length q, .int .i64 r2]) ∧ Kd.R kD 35 w' n0 (fun k => W.heap.size ≤ k ∧ k < w'.heap.size) (.slice R r1.length q) r1 ∧ Below W.heap.size W w' := by
  refine (MDecode s hs W).mono ?_
  rintro e w' ⟨v, rfl, h1, h2⟩
  rw [hr] at h1 ⊢
  obtain ⟨R, q, rfl⟩ := Kd.R_slice h1
  exact ⟨R, q, rfl, sealRow h1 h0, h2⟩
theorem RErrB {W : World} {g : Nat} {s : ByteArray} {p : Nat} {e : Int} (h : RS W g s p e) : Calls Try.prog 33 #[.pointer (some ⟨g, 0, none⟩)] W fun r w' => r = .returned (.int .i64 e) ∧ Below W.heap.size W w' := by
  refine (Err_calls h).mono ?_
  rintro e_ w' ⟨rfl, rfl⟩
  exact ⟨rfl, Below.refl _ _⟩
theorem RAtB {W : World} {g : Nat} {s : ByteArray} {p : Nat} {e : Int} (h : RS W g s p e) : Calls Try.prog 34 #[.pointer (some ⟨g, 0, none⟩)] W fun r w' => r = .returned (.int .i64 p) ∧ Below W.heap.size W w' := by
  refine (At_calls h).mono ?_
  rintro e_ w' ⟨rfl, rfl⟩
  exact ⟨rfl, Below.refl _ _⟩
theorem REndB {W : World} {g : Nat} {s : ByteArray} {p : Nat} {e : Int} (h : RS W g s p e) : Calls Try.prog 35 #[.pointer (some ⟨g, 0, none⟩)] W fun r w' => r = .returned (.int .i64 (endE s p e)) ∧ Below W.heap.size W w' := by
  unfold endE
  by_cases he : e = 0
  · subst he
    rw [if_pos rfl]
    by_cases hp : p < s.size
    · rw [if_pos hp]
      refine (End_rest h hp).mono ?_
      rintro e_ w' ⟨rfl, m, rfl⟩
      exact ⟨rfl, pw_below_drewN (Below.refl _ _) m⟩
    · rw [if_neg hp]
      refine (End_done h (by omega)).mono ?_
      rintro e_ w' ⟨rfl, m, rfl⟩
      exact ⟨rfl, pw_below_drewN (Below.refl _ _) m⟩
  · rw [if_neg he]
    refine (End_err h (by simpa using he)).mono ?_
    rintro e_ w' ⟨rfl, m, rfl⟩
    exact ⟨rfl, pw_below_drewN (Below.refl _ _) m⟩
theorem MEndB {W : World} {g : Nat} {s : ByteArray} {p : Nat} {e : Int} (h : MS W g s p e) : Calls Try.prog 36 #[.pointer (some ⟨g, 0, none⟩)] W fun r w' => r = .returned (.int .i64 (endE s p e)) ∧ Below W.heap.size W w' := by
  refine (MEnd h).mono ?_
  rintro e_ w' ⟨rfl, h2, ha⟩
  refine ⟨rfl, ha.1.os, ha.1.tape, ha.1.output, ha.1.size, fun k hk => ?_⟩
  by_cases hg : k = g
  · subst hg
    exact h2.trans h.symm
  · exact ha.2 k hg hk
end Go.Proofs.Ytgcmmiihjiiemaa.My
