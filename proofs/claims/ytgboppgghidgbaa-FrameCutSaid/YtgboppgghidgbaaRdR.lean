/- A Reader in memory: its block holds the text, the place, the error; what each question answers, and what take makes of it. Reader.End, Reader.Fail of a Reader in memory. Reader.Fail; Reader.Uint where an error was noted. wire.high: the number that at most eight bytes are. Reader.Byte, Reader.Fixed where the bytes are there. Reader.Raw where the bytes are there. -/
import Derived.Test.YtgboppgghidgbaaWWords
import Derived.Test.YtgboppgghidgbaaProg
import Derived.Test.YtgboppgghidgbaaWLast
namespace Go.Proofs.Ytgboppgghidgbaa.My
open Go.RowKit Go.Proofs.YtgboppgghidgbaaW.PrintWords Go.Proofs.YtgboppgghidgbaaW.PrintLast Go.Proofs.Ytgboppgghidgbaa
set_option linter.unusedSimpArgs false
set_option linter.unusedVariables false
set_option maxRecDepth 100000
set_option maxHeartbeats 2000000
/-- The Reader at block g: of the text s, at bytes taken, the error e. -/
def RS (w : World) (g : Nat) (s : ByteArray) (p : Nat) (e : Int) : Prop := w.heap[g]? = some (.cells #[.string s, .int .i64 p, .int .i64 e] 102 (0, 0))
/-- The block g alone has changed. -/
def Alone (w w' : World) (g : Nat) : Prop := Below 0 w w' ∧ w'.heap.size = w.heap.size ∧ ∀ k, k ≠ g → w'.heap[k]? = w.heap[k]?
theorem Alone_set (w : World) (m g j : Nat) (u : Value) : Alone w ((w.drewN m).setCell ⟨g, j, none⟩ u) g := by
  have hs : ((w.drewN m).setCell ⟨g, j, none⟩ u).heap.size = w.heap.size := by
    have : ((w.drewN m).setCell ⟨g, j, none⟩ u).heap.size = (w.drewN m).heap.size := by simp [World.setCell]
    exact this
  exact ⟨⟨rfl, rfl, rfl, by rw [hs]; exact Nat.le_refl _, fun k hk => absurd hk (Nat.not_lt_zero _)⟩, hs, fun k hk => Below.heap_setCell (w.drewN m) ⟨g, j, none⟩ u k hk⟩
theorem Alone.trans {a b c : World} {g : Nat} (h : Alone a b g) (k : Alone b c g) : Alone a c g := ⟨h.1.trans k.1, k.2.1.trans h.2.1, fun i hi => (k.2.2 i hi).trans (h.2.2 i hi)⟩
theorem RS.cells {w : World} {g : Nat} {s : ByteArray} {p : Nat} {e : Int} (h : RS w g s p e) : w.cell? ⟨g, 0, none⟩ = some (.string s) ∧ w.cell? ⟨g, 1, none⟩ = some (.int .i64 p) ∧ w.cell? ⟨g, 2, none⟩ = some (.int .i64 e) ∧ w.frozen? ⟨g, 1, none⟩ = false ∧ w.frozen? ⟨g, 2, none⟩ = false :=
  ⟨(blk_cell h 0).trans rfl, (blk_cell h 1).trans rfl, (blk_cell h 2).trans rfl, blk_frozen h 1, blk_frozen h 2⟩
theorem newReader (s : ByteArray) (w : World) : Calls Try.prog 40 #[.string s] w fun e w' => e = .returned (.pointer (some ⟨w.heap.size, 0, none⟩)) ∧ w' = w.alloc (.cells #[.string s, .int .i64 0, .int .i64 0] 102 (0, 0)) := by
  go_enter Try.func40, Try.ntmps40
  go_wp2_with fail
  go_ret
  exact ⟨rfl, rfl⟩
theorem Err_calls {w : World} {g : Nat} {s : ByteArray} {p : Nat} {e : Int} (h : RS w g s p e) : Calls Try.prog 59 #[.pointer (some ⟨g, 0, none⟩)] w fun r w' => r = .returned (.int .i64 e) ∧ w = w' := by
  obtain ⟨h0, h1, h2, _, _⟩ := h.cells
  go_enter Try.func59, Try.ntmps59
  go_wp2_with fail
  go_ret
  exact ⟨rfl, rfl⟩
theorem take_err {w : World} {g : Nat} {s : ByteArray} {p : Nat} {e : Int} (h : RS w g s p e) (he : (e != 0) = true) (n : Int) : Calls Try.prog 56 #[.pointer (some ⟨g, 0, none⟩), .int .i64 n] w fun r w' => r = .returned (.tuple #[.string ⟨#[]⟩, .bool false]) ∧ w = w' := by
  obtain ⟨h0, h1, h2, _, _⟩ := h.cells
  go_enter Try.func56, Try.ntmps56
  go_wp2_with fail
  go_ret2
  exact ⟨rfl, rfl⟩
theorem take_ok {w : World} {g : Nat} {s : ByteArray} {p : Nat} (h : RS w g s p 0) (n : Nat) (hp : p + n ≤ s.size) (hs : s.size ≤ 140737488351232) : Calls Try.prog 56 #[.pointer (some ⟨g, 0, none⟩), .int .i64 n] w fun r w' => r = .returned (.tuple #[.string (s.extract p (p + n)), .bool true]) ∧ RS w' g s (p + n) 0 ∧ Alone w w' g := by
  obtain ⟨h0, h1, h2, f1, f2⟩ := h.cells
  have HR := Aside0.mk h
  clear h
  have hw : wrap64 ((p : Int) + n) = (p : Int) + n := by unfold wrap64; omega
  have hw2 : IntKind.i64.wrap ((p : Int) + n) = (p : Int) + n := by rw [i64_w]; exact hw
  have hsl : ∀ W : World, (Instr.slice 9 (.string s) (some (.int .i64 (p : Int))) (some (.int .i64 ((p : Int) + n))) none).run Try.prog W = .ok (.string (s.extract p (p + n))) W := by
    intro W
    rw [run_slice_string W 9 s .i64 .i64 (p : Int) ((p : Int) + n) Try.underlying9 (by omega) (by omega) (by omega)]
    rw [show ((p : Int) + n).toNat = p + n by omega, Int.toNat_natCast]
  go_enter Try.func56, Try.ntmps56
  go_wp2_with fail
  go_quiet (fail)
  go_wp2_with fail
  go_quiet (fail)
  go_wp2_with fail
  go_ret2
  refine ⟨rfl, ?_, Alone_set w _ g 1 _⟩
  unfold RS
  rw [show (((p + n : Nat) : Int)) = (p : Int) + n from by omega]
  exact blk_set (blk_drewN HR.out _) 1 (.int .i64 ((p : Int) + n))
theorem take_short {w : World} {g : Nat} {s : ByteArray} {p : Nat} (h : RS w g s p 0) (n : Int) (hp : (s.size : Int) - p < n) (hp2 : p ≤ s.size) (hs : s.size ≤ 140737488351232) : Calls Try.prog 56 #[.pointer (some ⟨g, 0, none⟩), .int .i64 n] w fun r w' => r = .returned (.tuple #[.string ⟨#[]⟩, .bool false]) ∧ RS w' g s p 10 ∧ Alone w w' g := by
  obtain ⟨h0, h1, h2, f1, f2⟩ := h.cells
  have HR := Aside0.mk h
  clear h
  go_enter Try.func56, Try.ntmps56
  go_wp2_with fail
  go_quiet (fail)
  go_wp2_with fail
  go_ret2
  exact ⟨rfl, blk_set (blk_drewN HR.out _) 2 (.int .i64 10), Alone_set w _ g 2 _⟩
end Go.Proofs.Ytgboppgghidgbaa.My
namespace Go.Proofs.Ytgboppgghidgbaa.My
open Go.RowKit Go.Proofs.YtgboppgghidgbaaW.PrintWords Go.Proofs.YtgboppgghidgbaaW.PrintLast Go.Proofs.Ytgboppgghidgbaa
set_option linter.unusedSimpArgs false
set_option linter.unusedVariables false
set_option maxRecDepth 100000
set_option maxHeartbeats 2000000
theorem End_err {w : World} {g : Nat} {s : ByteArray} {p : Nat} {e : Int} (h : RS w g s p e) (he : (e == 0) = false) : Calls Try.prog 44 #[.pointer (some ⟨g, 0, none⟩)] w fun r w' => r = .returned (.int .i64 e) ∧ ∃ m, w' = w.drewN m := by
  obtain ⟨h0, h1, h2, _, _⟩ := h.cells
  have HR := Aside0.mk h
  clear h
  go_enter Try.func44, Try.ntmps44
  go_wp2_with fail
  go_quiet (fail)
  go_wp2_with (first | (go_at_call 59; refine (Err_calls (blk_drewN HR.out _)).mono ?_; rintro e w1 ⟨rfl, rfl⟩))
  go_ret
  exact ⟨rfl, _, rfl⟩
theorem End_rest {w : World} {g : Nat} {s : ByteArray} {p : Nat} (h : RS w g s p 0) (hp : p < s.size) : Calls Try.prog 44 #[.pointer (some ⟨g, 0, none⟩)] w fun r w' => r = .returned (.int .i64 12) ∧ ∃ m, w' = w.drewN m := by
  obtain ⟨h0, h1, h2, _, _⟩ := h.cells
  have hd : decide ((p : Int) < (s.size : Int)) = true := decide_eq_true (by omega)
  clear h
  go_enter Try.func44, Try.ntmps44
  go_wp2_with fail
  go_quiet (fail)
  go_wp2_with fail
  go_ret
  exact ⟨rfl, _, rfl⟩
theorem End_done {w : World} {g : Nat} {s : ByteArray} {p : Nat} (h : RS w g s p 0) (hp : s.size ≤ p) : Calls Try.prog 44 #[.pointer (some ⟨g, 0, none⟩)] w fun r w' => r = .returned (.int .i64 0) ∧ ∃ m, w' = w.drewN m := by
  obtain ⟨h0, h1, h2, _, _⟩ := h.cells
  have hd : decide ((p : Int) < (s.size : Int)) = false := decide_eq_false (by omega)
  have HR := Aside0.mk h
  clear h
  go_enter Try.func44, Try.ntmps44
  go_wp2_with fail
  go_quiet (fail)
  go_wp2_with (first | (go_at_call 59; refine (Err_calls (blk_drewN HR.out _)).mono ?_; rintro e w1 ⟨rfl, rfl⟩))
  go_ret
  exact ⟨rfl, _, rfl⟩
end Go.Proofs.Ytgboppgghidgbaa.My
namespace Go.Proofs.Ytgboppgghidgbaa.My
open Go.RowKit Go.Proofs.YtgboppgghidgbaaW.PrintWords Go.Proofs.YtgboppgghidgbaaW.PrintLast Go.Proofs.Ytgboppgghidgbaa
set_option linter.unusedSimpArgs false
set_option linter.unusedVariables false
set_option maxRecDepth 100000
set_option maxHeartbeats 2000000
theorem RFail_kept {w : World} {g : Nat} {s : ByteArray} {p : Nat} {e : Int} (h : RS w g s p e) (he : (e == 0) = false) (n : Int) : Calls Try.prog 58 #[.pointer (some ⟨g, 0, none⟩), .int .i64 n] w fun r w' => r = .returned (.tuple #[]) ∧ w = w' := by
  obtain ⟨h0, h1, h2, _, _⟩ := h.cells
  go_enter Try.func58, Try.ntmps58
  go_wp2_with fail
  go_end0
  exact ⟨rfl, rfl⟩
theorem RFail_new {w : World} {g : Nat} {s : ByteArray} {p : Nat} (h : RS w g s p 0) (n : Int) : Calls Try.prog 58 #[.pointer (some ⟨g, 0, none⟩), .int .i64 n] w fun r w' => r = .returned (.tuple #[]) ∧ RS w' g s p n ∧ Alone w w' g := by
  obtain ⟨h0, h1, h2, f1, f2⟩ := h.cells
  have HR := Aside0.mk h
  clear h
  go_enter Try.func58, Try.ntmps58
  go_wp2_with fail
  go_end0
  exact ⟨rfl, blk_set HR.out 2 (.int .i64 n), Alone_set w 0 g 2 _⟩
end Go.Proofs.Ytgboppgghidgbaa.My
namespace Go.Proofs.Ytgboppgghidgbaa.My
open Go.RowKit Go.Proofs.YtgboppgghidgbaaW.PrintWords Go.Proofs.YtgboppgghidgbaaW.PrintLast Go.Proofs.Ytgboppgghidgbaa
set_option linter.unusedSimpArgs false
set_option linter.unusedVariables false
set_option maxRecDepth 100000
set_option maxHeartbeats 2000000
def hiN (l : List Nat) : Nat := l.foldl (fun v x => v * 256 + x) 0
theorem hiN_snoc (l : List Nat) (x : Nat) : hiN (l ++ [x]) = hiN l * 256 + x := by simp [hiN, List.foldl_append]
def natsOf (s : ByteArray) : List Nat := s.data.toList.map (·.toNat)
theorem natsOf_len (s : ByteArray) : (natsOf s).length = s.size := by unfold natsOf; rw [List.length_map, data_length]
theorem natsOf_take (s : ByteArray) (n : Nat) (h : n < s.size) : (natsOf s).take (n + 1) = (natsOf s).take n ++ [(s[n]).toNat] := by
  have hl : n < (natsOf s).length := by rw [natsOf_len]; exact h
  rw [List.take_succ_eq_append_getElem hl]
  congr 2
  simp [natsOf, ByteArray.getElem_eq_getElem_data]
theorem hiN_lt (s : ByteArray) : ∀ k, k ≤ s.size → hiN ((natsOf s).take k) < 256 ^ k
  | 0, _ => by simp [hiN]
  | k + 1, h => by
    have h1 := hiN_lt s k (by omega)
    have h2 : (s[k]).toNat < 256 := (s[k]).toNat_lt
    rw [natsOf_take s k (by omega), hiN_snoc, Nat.pow_succ]
    omega
theorem high_calls (s : ByteArray) (w : World) (h8 : s.size ≤ 8) :
    Calls Try.prog 57 #[.string s] w fun e w' => e = .returned (.int .u64 ((hiN (natsOf s) : Nat) : Int)) ∧ w = w' := by
  go_enter Try.func57, Try.ntmps57
  go_wp2_with fail
  go_loop [3, 7] (fun v i => ∃ n : Nat, n ≤ s.size ∧ i = .int .i64 n ∧ v = .int .u64 ((hiN ((natsOf s).take n) : Nat) : Int)) (fun _ i => s.size - (intOf i).toNat)
  case atStart => exact ⟨0, by omega, rfl, rfl⟩
  case round =>
    obtain ⟨n, hn, rfl, rfl⟩ := hrel
    by_cases hlt : n < s.size
    · have hby : (s[n]).toNat < 256 := (s[n]).toNat_lt
      have hv := hiN_lt s n hn
      have hp : 256 ^ n ≤ 256 ^ 7 := Nat.pow_le_pow_right (by omega) (by omega)
      have e := Aside0.mk (hiN_snoc ((natsOf s).take n) (s[n]).toNat)
      rw [← natsOf_take s n hlt] at e
      obtain ⟨v, hv0⟩ : ∃ v, v = hiN ((natsOf s).take n) := ⟨_, rfl⟩
      rw [← hv0] at hv e ⊢
      have hvb : v < 72057594037927936 := Nat.lt_of_lt_of_le hv (by simpa using hp)
      clear hv0 hv hp
      have ho : Go.bits .or .u64 ((v : Int) * 256) (s[n].toNat : Int) = ((v * 256 + s[n].toNat : Nat) : Int) := by
        have h1 := u64_or_nat (v * 256) (s[n]).toNat (by omega) (by omega)
        rw [nat_join 8 (v * 256) _ (by omega) (by omega)] at h1
        rw [show ((v : Int) * 256) = ((v * 256 : Nat) : Int) from by omega]; exact h1
      go_wp2
      go_round
      case rel => exact ⟨n + 1, by omega, by go_num, by rw [e.out]; exact congrArg (Value.int .u64) (by omega)⟩
      case measure => simp [intOf]; omega
    · obtain rfl : n = s.size := by omega
      rw [List.take_of_length_le (by rw [natsOf_len]; omega)]
      go_wp2
      go_ret
      exact ⟨rfl, rfl⟩
end Go.Proofs.Ytgboppgghidgbaa.My
namespace Go.Proofs.Ytgboppgghidgbaa.My
open Go.RowKit Go.Proofs.YtgboppgghidgbaaW.PrintWords Go.Proofs.YtgboppgghidgbaaW.PrintLast Go.Proofs.Ytgboppgghidgbaa
set_option linter.unusedSimpArgs false
set_option linter.unusedVariables false
set_option maxRecDepth 100000
set_option maxHeartbeats 2000000
theorem RByte_ok {w : World} {g : Nat} {s : ByteArray} {p : Nat} (h : RS w g s p 0) (hp : p + 1 ≤ s.size) (hs : s.size ≤ 140737488351232) : Calls Try.prog 41 #[.pointer (some ⟨g, 0, none⟩)] w fun r w' => r = .returned (.int .u8 ((hiN (natsOf (s.extract p (p + 1))) : Nat) % 256 : Int)) ∧ RS w' g s (p + 1) 0 ∧ Alone w w' g := by
  have hx : (s.extract p (p + 1)).size ≤ 8 := by rw [ByteArray.size_extract]; omega
  go_enter Try.func41, Try.ntmps41
  go_wp2_with fail
  refine (take_ok h 1 hp hs).mono ?_
  rintro e w1 ⟨rfl, h1, h2⟩
  go_wp2_with fail
  refine (high_calls _ _ hx).mono ?_
  rintro e w2 ⟨rfl, rfl⟩
  go_wp2_with fail
  go_ret
  exact ⟨rfl, h1, h2⟩
theorem RFixed_ok {w : World} {g : Nat} {s : ByteArray} {p n : Nat} (h : RS w g s p 0) (hn1 : 1 ≤ n) (hn8 : n ≤ 8) (hp : p + n ≤ s.size) (hs : s.size ≤ 140737488351232) : Calls Try.prog 42 #[.pointer (some ⟨g, 0, none⟩), .int .i64 n] w fun r w' => r = .returned (.int .u64 ((hiN (natsOf (s.extract p (p + n))) : Nat) : Int)) ∧ RS w' g s (p + n) 0 ∧ Alone w w' g := by
  have hx : (s.extract p (p + n)).size ≤ 8 := by rw [ByteArray.size_extract]; omega
  go_enter Try.func42, Try.ntmps42
  go_wp2_with fail
  refine (take_ok h n hp hs).mono ?_
  rintro e w1 ⟨rfl, h1, h2⟩
  go_wp2_with fail
  refine (high_calls _ _ hx).mono ?_
  rintro e w2 ⟨rfl, rfl⟩
  go_wp2_with fail
  go_ret
  exact ⟨rfl, h1, h2⟩
end Go.Proofs.Ytgboppgghidgbaa.My
namespace Go.Proofs.Ytgboppgghidgbaa.My
open Go.RowKit Go.Proofs.YtgboppgghidgbaaW.PrintWords Go.Proofs.YtgboppgghidgbaaW.PrintLast Go.Proofs.Ytgboppgghidgbaa
set_option linter.unusedSimpArgs false
set_option linter.unusedVariables false
set_option maxRecDepth 100000
set_option maxHeartbeats 800000
theorem RRaw_ok {w : World} {g : Nat} {s : ByteArray} {p n : Nat} (h : RS w g s p 0) (hp : p + n ≤ s.size) (hs : s.size ≤ 140737488351232) : Calls Try.prog 43 #[.pointer (some ⟨g, 0, none⟩), .int .i64 n] w fun r w' => r = .returned (.string (s.extract p (p + n))) ∧ RS w' g s (p + n) 0 ∧ Alone w w' g := by
  go_enter Try.func43, Try.ntmps43
  go_wp2_with fail
  refine (take_ok h n hp hs).mono ?_
  rintro e w1 ⟨rfl, h1, h2⟩
  go_wp2_with fail
  go_ret
  exact ⟨rfl, h1, h2⟩
theorem RS.far {w : World} {g : Nat} {s : ByteArray} {p : Nat} {e : Int} (h : RS w g s p e) {a : Addr} (ha : g ≠ a.block) (u : Value) : RS (w.setCell a u) g s p e := blk_far h ha u
theorem RS.below {w w' : World} {g : Nat} {s : ByteArray} {p : Nat} {e : Int} (h : RS w g s p e) (hb : Below w.heap.size w w') : RS w' g s p e := (hb.block g (blk_lt h)).trans h
/-- The number that n bytes at p are. -/
def fN (s : ByteArray) (p n : Nat) : Nat := hiN (((natsOf s).drop p).take n)
theorem natsOf_extract (s : ByteArray) (p q : Nat) : natsOf (s.extract p q) = ((natsOf s).drop p).take (q - p) := by
  unfold natsOf
  simp [ByteArray.data_extract, List.map_drop, List.map_take]
theorem fN_lt (s : ByteArray) (p n : Nat) : fN s p n < 256 ^ n := by
  have h0 : ∀ (l : List Nat) (v : Nat), (∀ x ∈ l, x < 256) → l.foldl (fun v x => v * 256 + x) v < (v + 1) * 256 ^ l.length := by
    intro l
    induction l with
    | nil => intro v _; simp
    | cons x l ih =>
      intro v hl
      have h1 := ih (v * 256 + x) (fun y hy => hl y (by simp [hy]))
      have h2 := hl x (by simp)
      rw [List.foldl_cons, List.length_cons, Nat.pow_succ]
      refine Nat.lt_of_lt_of_le h1 ?_
      have h3 : (v * 256 + x + 1) * 256 ^ l.length ≤ ((v + 1) * 256) * 256 ^ l.length := Nat.mul_le_mul_right _ (by omega)
      rw [Nat.mul_comm (256 ^ l.length) 256, ← Nat.mul_assoc]
      exact h3
  have h : ∀ (l : List Nat), (∀ x ∈ l, x < 256) → hiN l < 256 ^ l.length := by
    intro l hl
    have := h0 l 0 hl
    simpa [hiN] using this
  have hx : ∀ x ∈ ((natsOf s).drop p).take n, x < 256 := by
    intro x hx
    have h1 := List.mem_of_mem_drop (List.mem_of_mem_take hx)
    obtain ⟨b, _, rfl⟩ := List.mem_map.1 h1
    exact b.toNat_lt
  refine Nat.lt_of_lt_of_le (h _ hx) (Nat.pow_le_pow_right (by omega) ?_)
  rw [List.length_take]; omega
theorem fN_cut (s : ByteArray) (q p n : Nat) (hq : q + n ≤ s.size - p) (hp : p ≤ s.size) : hiN (natsOf ((s.extract p s.size).extract q (q + n))) = fN s (p + q) n := by
  unfold fN
  rw [natsOf_extract, natsOf_extract, Nat.add_sub_cancel_left, List.take_of_length_le (l := (natsOf s).drop p) (by rw [List.length_drop, natsOf_len]; omega), List.drop_drop]
end Go.Proofs.Ytgboppgghidgbaa.My
