/- A Reader in memory: its block holds the text, the place, the error; what each question answers, and what take makes of it. Reader.End, Reader.Fail of a Reader in memory. Reader.Fail; Reader.Uint where an error was noted. wire.high: the number that at most eight bytes are. Reader.Byte, Reader.Fixed where the bytes are there. Reader.Raw where the bytes are there. Reader.At. Reader.Uint. Reader.Small, Reader.Text where the bytes are there. A Reader in memory, whatever its state: what each call answers, and what it leaves. A Reader in memory, whatever its state: Text, Int, Float. -/
import Derived.Test.YtikfdfagnalmbaaWWords
import Derived.Test.YtikfdfagnalmbaaProg
import Derived.Test.YtikfdfagnalmbaaWLast
import Derived.Test.YtikfdfagnalmbaaMyArr
import Derived.Laws.IdiomStrings
import Derived.Test.YtikfdfagnalmbaaWrAll
import Derived.Lib.Zigzag
namespace Go.Proofs.Ytikfdfagnalmbaa.My
open Go.RowKit Go.Proofs.YtikfdfagnalmbaaW.PrintWords Go.Proofs.YtikfdfagnalmbaaW.PrintLast Go.Proofs.Ytikfdfagnalmbaa
set_option linter.unusedSimpArgs false
set_option linter.unusedVariables false
set_option maxRecDepth 100000
set_option maxHeartbeats 2000000
/-- The Reader at block g: of the text s, at bytes taken, the error e. -/
def RS (w : World) (g : Nat) (s : ByteArray) (p : Nat) (e : Int) : Prop := w.heap[g]? = some (.cells #[.string s, .int .i64 p, .int .i64 e] 101 (0, 0))
/-- The block g alone has changed. -/
def Alone (w w' : World) (g : Nat) : Prop := Below 0 w w' ∧ w'.heap.size = w.heap.size ∧ ∀ k, k ≠ g → w'.heap[k]? = w.heap[k]?
theorem Alone_set (w : World) (m g j : Nat) (u : Value) : Alone w ((w.drewN m).setCell ⟨g, j, none⟩ u) g := by
  have hs : ((w.drewN m).setCell ⟨g, j, none⟩ u).heap.size = w.heap.size := by
    have : ((w.drewN m).setCell ⟨g, j, none⟩ u).heap.size = (w.drewN m).heap.size := by simp [World.setCell]
    exact this
  exact ⟨⟨rfl, rfl, rfl, by rw [hs]; exact Nat.le_refl _, fun k hk => absurd hk (Nat.not_lt_zero _)⟩, hs, fun k hk => Below.heap_setCell (w.drewN m) ⟨g, j, none⟩ u k hk⟩
theorem Alone.trans {a b c : World} {g : Nat} (h : Alone a b g) (k : Alone b c g) : Alone a c g := ⟨h.1.trans k.1, k.2.1.trans h.2.1, fun i hi => (k.2.2 i hi).trans (h.2.2 i hi)⟩
theorem RS.cells {w : World} {g : Nat} {s : ByteArray} {p : Nat} {e : Int} (h : RS w g s p e) : w.cell? ⟨g, 0, none⟩ = some (.string s) ∧ w.cell? ⟨g, 1, none⟩ = some (.int .i64 p) ∧ w.cell? ⟨g, 2, none⟩ = some (.int .i64 e) ∧ w.frozen? ⟨g, 1, none⟩ = false ∧ w.frozen? ⟨g, 2, none⟩ = false :=
  ⟨(blk_cell h 0).trans rfl, (blk_cell h 1).trans rfl, (blk_cell h 2).trans rfl, blk_frozen h 1, blk_frozen h 2⟩
theorem newReader (s : ByteArray) (w : World) : Calls Try.prog 24 #[.string s] w fun e w' => e = .returned (.pointer (some ⟨w.heap.size, 0, none⟩)) ∧ w' = w.alloc (.cells #[.string s, .int .i64 0, .int .i64 0] 101 (0, 0)) := by
  go_enter Try.func24, Try.ntmps24
  go_wp2_with fail
  go_ret
  exact ⟨rfl, rfl⟩
theorem Err_calls {w : World} {g : Nat} {s : ByteArray} {p : Nat} {e : Int} (h : RS w g s p e) : Calls Try.prog 27 #[.pointer (some ⟨g, 0, none⟩)] w fun r w' => r = .returned (.int .i64 e) ∧ w = w' := by
  obtain ⟨h0, h1, h2, _, _⟩ := h.cells
  go_enter Try.func27, Try.ntmps27
  go_wp2_with fail
  go_ret
  exact ⟨rfl, rfl⟩
theorem take_err {w : World} {g : Nat} {s : ByteArray} {p : Nat} {e : Int} (h : RS w g s p e) (he : (e != 0) = true) (n : Int) : Calls Try.prog 75 #[.pointer (some ⟨g, 0, none⟩), .int .i64 n] w fun r w' => r = .returned (.tuple #[.string ⟨#[]⟩, .bool false]) ∧ w = w' := by
  obtain ⟨h0, h1, h2, _, _⟩ := h.cells
  go_enter Try.func75, Try.ntmps75
  go_wp2_with fail
  go_ret2
  exact ⟨rfl, rfl⟩
theorem take_ok {w : World} {g : Nat} {s : ByteArray} {p : Nat} (h : RS w g s p 0) (n : Nat) (hp : p + n ≤ s.size) (hs : s.size ≤ 140737488351232) : Calls Try.prog 75 #[.pointer (some ⟨g, 0, none⟩), .int .i64 n] w fun r w' => r = .returned (.tuple #[.string (s.extract p (p + n)), .bool true]) ∧ RS w' g s (p + n) 0 ∧ Alone w w' g := by
  obtain ⟨h0, h1, h2, f1, f2⟩ := h.cells
  have HR := Aside0.mk h
  clear h
  have hw : wrap64 ((p : Int) + n) = (p : Int) + n := by unfold wrap64; omega
  have hw2 : IntKind.i64.wrap ((p : Int) + n) = (p : Int) + n := by rw [i64_w]; exact hw
  have hsl : ∀ W : World, (Instr.slice 9 (.string s) (some (.int .i64 (p : Int))) (some (.int .i64 ((p : Int) + n))) none).run Try.prog W = .ok (.string (s.extract p (p + n))) W := by
    intro W
    rw [run_slice_string W 9 s .i64 .i64 (p : Int) ((p : Int) + n) Try.underlying9 (by omega) (by omega) (by omega)]
    rw [show ((p : Int) + n).toNat = p + n by omega, Int.toNat_natCast]
  go_enter Try.func75, Try.ntmps75
  go_wp2_with fail
  go_quiet (fail)
  go_wp2_with fail
  go_quiet (fail)
  go_wp2_with fail
  go_ret2
  refine ⟨rfl, ?_, Alone_set w _ g 1 _⟩
  unfold RS
  rw [show (((p + n : Nat) : Int)) = (p : Int) + n from by omega]
  exact blk_set (blk_drewN HR.out _) 1 (.int .i64 ((p : Int) + n))
theorem take_short {w : World} {g : Nat} {s : ByteArray} {p : Nat} (h : RS w g s p 0) (n : Int) (hp : (s.size : Int) - p < n) (hp2 : p ≤ s.size) (hs : s.size ≤ 140737488351232) : Calls Try.prog 75 #[.pointer (some ⟨g, 0, none⟩), .int .i64 n] w fun r w' => r = .returned (.tuple #[.string ⟨#[]⟩, .bool false]) ∧ RS w' g s p 10 ∧ Alone w w' g := by
  obtain ⟨h0, h1, h2, f1, f2⟩ := h.cells
  have HR := Aside0.mk h
  clear h
  go_enter Try.func75, Try.ntmps75
  go_wp2_with fail
  go_quiet (fail)
  go_wp2_with fail
  go_ret2
  exact ⟨rfl, blk_set (blk_drewN HR.out _) 2 (.int .i64 10), Alone_set w _ g 2 _⟩
end Go.Proofs.Ytikfdfagnalmbaa.My
namespace Go.Proofs.Ytikfdfagnalmbaa.My
open Go.RowKit Go.Proofs.YtikfdfagnalmbaaW.PrintWords Go.Proofs.YtikfdfagnalmbaaW.PrintLast Go.Proofs.Ytikfdfagnalmbaa
set_option linter.unusedSimpArgs false
set_option linter.unusedVariables false
set_option maxRecDepth 100000
set_option maxHeartbeats 2000000
theorem End_err {w : World} {g : Nat} {s : ByteArray} {p : Nat} {e : Int} (h : RS w g s p e) (he : (e == 0) = false) : Calls Try.prog 28 #[.pointer (some ⟨g, 0, none⟩)] w fun r w' => r = .returned (.int .i64 e) ∧ ∃ m, w' = w.drewN m := by
  obtain ⟨h0, h1, h2, _, _⟩ := h.cells
  have HR := Aside0.mk h
  clear h
  go_enter Try.func28, Try.ntmps28
  go_wp2_with fail
  go_quiet (fail)
  go_wp2_with (first | (go_at_call 27; refine (Err_calls (blk_drewN HR.out _)).mono ?_; rintro e w1 ⟨rfl, rfl⟩))
  go_ret
  exact ⟨rfl, _, rfl⟩
theorem End_rest {w : World} {g : Nat} {s : ByteArray} {p : Nat} (h : RS w g s p 0) (hp : p < s.size) : Calls Try.prog 28 #[.pointer (some ⟨g, 0, none⟩)] w fun r w' => r = .returned (.int .i64 12) ∧ ∃ m, w' = w.drewN m := by
  obtain ⟨h0, h1, h2, _, _⟩ := h.cells
  have hd : decide ((p : Int) < (s.size : Int)) = true := decide_eq_true (by omega)
  clear h
  go_enter Try.func28, Try.ntmps28
  go_wp2_with fail
  go_quiet (fail)
  go_wp2_with fail
  go_ret
  exact ⟨rfl, _, rfl⟩
theorem End_done {w : World} {g : Nat} {s : ByteArray} {p : Nat} (h : RS w g s p 0) (hp : s.size ≤ p) : Calls Try.prog 28 #[.pointer (some ⟨g, 0, none⟩)] w fun r w' => r = .returned (.int .i64 0) ∧ ∃ m, w' = w.drewN m := by
  obtain ⟨h0, h1, h2, _, _⟩ := h.cells
  have hd : decide ((p : Int) < (s.size : Int)) = false := decide_eq_false (by omega)
  have HR := Aside0.mk h
  clear h
  go_enter Try.func28, Try.ntmps28
  go_wp2_with fail
  go_quiet (fail)
  go_wp2_with (first | (go_at_call 27; refine (Err_calls (blk_drewN HR.out _)).mono ?_; rintro e w1 ⟨rfl, rfl⟩))
  go_ret
  exact ⟨rfl, _, rfl⟩
end Go.Proofs.Ytikfdfagnalmbaa.My
namespace Go.Proofs.Ytikfdfagnalmbaa.My
open Go.RowKit Go.Proofs.YtikfdfagnalmbaaW.PrintWords Go.Proofs.YtikfdfagnalmbaaW.PrintLast Go.Proofs.Ytikfdfagnalmbaa
set_option linter.unusedSimpArgs false
set_option linter.unusedVariables false
set_option maxRecDepth 100000
set_option maxHeartbeats 2000000
theorem RFail_kept {w : World} {g : Nat} {s : ByteArray} {p : Nat} {e : Int} (h : RS w g s p e) (he : (e == 0) = false) (n : Int) : Calls Try.prog 33 #[.pointer (some ⟨g, 0, none⟩), .int .i64 n] w fun r w' => r = .returned (.tuple #[]) ∧ w = w' := by
  obtain ⟨h0, h1, h2, _, _⟩ := h.cells
  go_enter Try.func33, Try.ntmps33
  go_wp2_with fail
  go_end0
  exact ⟨rfl, rfl⟩
theorem RFail_new {w : World} {g : Nat} {s : ByteArray} {p : Nat} (h : RS w g s p 0) (n : Int) : Calls Try.prog 33 #[.pointer (some ⟨g, 0, none⟩), .int .i64 n] w fun r w' => r = .returned (.tuple #[]) ∧ RS w' g s p n ∧ Alone w w' g := by
  obtain ⟨h0, h1, h2, f1, f2⟩ := h.cells
  have HR := Aside0.mk h
  clear h
  go_enter Try.func33, Try.ntmps33
  go_wp2_with fail
  go_end0
  exact ⟨rfl, blk_set HR.out 2 (.int .i64 n), Alone_set w 0 g 2 _⟩
end Go.Proofs.Ytikfdfagnalmbaa.My
namespace Go.Proofs.Ytikfdfagnalmbaa.My
open Go.RowKit Go.Proofs.YtikfdfagnalmbaaW.PrintWords Go.Proofs.YtikfdfagnalmbaaW.PrintLast Go.Proofs.Ytikfdfagnalmbaa
set_option linter.unusedSimpArgs false
set_option linter.unusedVariables false
set_option maxRecDepth 100000
set_option maxHeartbeats 2000000
def hiN (l : List Nat) : Nat := l.foldl (fun v x => v * 256 + x) 0
theorem hiN_snoc (l : List Nat) (x : Nat) : hiN (l ++ [x]) = hiN l * 256 + x := by simp [hiN, List.foldl_append]
def natsOf (s : ByteArray) : List Nat := s.data.toList.map (·.toNat)
theorem natsOf_len (s : ByteArray) : (natsOf s).length = s.size := by unfold natsOf; rw [List.length_map, data_length]
theorem natsOf_take (s : ByteArray) (n : Nat) (h : n < s.size) : (natsOf s).take (n + 1) = (natsOf s).take n ++ [(s[n]).toNat] := by
  have hl : n < (natsOf s).length := by rw [natsOf_len]; exact h
  rw [List.take_succ_eq_append_getElem hl]
  congr 2
  simp [natsOf, ByteArray.getElem_eq_getElem_data]
theorem hiN_lt (s : ByteArray) : ∀ k, k ≤ s.size → hiN ((natsOf s).take k) < 256 ^ k
  | 0, _ => by simp [hiN]
  | k + 1, h => by
    have h1 := hiN_lt s k (by omega)
    have h2 : (s[k]).toNat < 256 := (s[k]).toNat_lt
    rw [natsOf_take s k (by omega), hiN_snoc, Nat.pow_succ]
    omega
theorem high_calls (s : ByteArray) (w : World) (h8 : s.size ≤ 8) :
    Calls Try.prog 76 #[.string s] w fun e w' => e = .returned (.int .u64 ((hiN (natsOf s) : Nat) : Int)) ∧ w = w' := by
  go_enter Try.func76, Try.ntmps76
  go_wp2_with fail
  go_loop [3, 7] (fun v i => ∃ n : Nat, n ≤ s.size ∧ i = .int .i64 n ∧ v = .int .u64 ((hiN ((natsOf s).take n) : Nat) : Int)) (fun _ i => s.size - (intOf i).toNat)
  case atStart => exact ⟨0, by omega, rfl, rfl⟩
  case round =>
    obtain ⟨n, hn, rfl, rfl⟩ := hrel
    by_cases hlt : n < s.size
    · have hby : (s[n]).toNat < 256 := (s[n]).toNat_lt
      have hv := hiN_lt s n hn
      have hp : 256 ^ n ≤ 256 ^ 7 := Nat.pow_le_pow_right (by omega) (by omega)
      have e := Aside0.mk (hiN_snoc ((natsOf s).take n) (s[n]).toNat)
      rw [← natsOf_take s n hlt] at e
      obtain ⟨v, hv0⟩ : ∃ v, v = hiN ((natsOf s).take n) := ⟨_, rfl⟩
      rw [← hv0] at hv e ⊢
      have hvb : v < 72057594037927936 := Nat.lt_of_lt_of_le hv (by simpa using hp)
      clear hv0 hv hp
      have ho : Go.bits .or .u64 ((v : Int) * 256) (s[n].toNat : Int) = ((v * 256 + s[n].toNat : Nat) : Int) := by
        have h1 := u64_or_nat (v * 256) (s[n]).toNat (by omega) (by omega)
        rw [nat_join 8 (v * 256) _ (by omega) (by omega)] at h1
        rw [show ((v : Int) * 256) = ((v * 256 : Nat) : Int) from by omega]; exact h1
      go_wp2
      go_round
      case rel => exact ⟨n + 1, by omega, by go_num, by rw [e.out]; exact congrArg (Value.int .u64) (by omega)⟩
      case measure => simp [intOf]; omega
    · obtain rfl : n = s.size := by omega
      rw [List.take_of_length_le (by rw [natsOf_len]; omega)]
      go_wp2
      go_ret
      exact ⟨rfl, rfl⟩
end Go.Proofs.Ytikfdfagnalmbaa.My
namespace Go.Proofs.Ytikfdfagnalmbaa.My
open Go.RowKit Go.Proofs.YtikfdfagnalmbaaW.PrintWords Go.Proofs.YtikfdfagnalmbaaW.PrintLast Go.Proofs.Ytikfdfagnalmbaa
set_option linter.unusedSimpArgs false
set_option linter.unusedVariables false
set_option maxRecDepth 100000
set_option maxHeartbeats 2000000
theorem RByte_ok {w : World} {g : Nat} {s : ByteArray} {p : Nat} (h : RS w g s p 0) (hp : p + 1 ≤ s.size) (hs : s.size ≤ 140737488351232) : Calls Try.prog 34 #[.pointer (some ⟨g, 0, none⟩)] w fun r w' => r = .returned (.int .u8 ((hiN (natsOf (s.extract p (p + 1))) : Nat) % 256 : Int)) ∧ RS w' g s (p + 1) 0 ∧ Alone w w' g := by
  have hx : (s.extract p (p + 1)).size ≤ 8 := by rw [ByteArray.size_extract]; omega
  go_enter Try.func34, Try.ntmps34
  go_wp2_with fail
  refine (take_ok h 1 hp hs).mono ?_
  rintro e w1 ⟨rfl, h1, h2⟩
  go_wp2_with fail
  refine (high_calls _ _ hx).mono ?_
  rintro e w2 ⟨rfl, rfl⟩
  go_wp2_with fail
  go_ret
  exact ⟨rfl, h1, h2⟩
theorem RFixed_ok {w : World} {g : Nat} {s : ByteArray} {p n : Nat} (h : RS w g s p 0) (hn1 : 1 ≤ n) (hn8 : n ≤ 8) (hp : p + n ≤ s.size) (hs : s.size ≤ 140737488351232) : Calls Try.prog 36 #[.pointer (some ⟨g, 0, none⟩), .int .i64 n] w fun r w' => r = .returned (.int .u64 ((hiN (natsOf (s.extract p (p + n))) : Nat) : Int)) ∧ RS w' g s (p + n) 0 ∧ Alone w w' g := by
  have hx : (s.extract p (p + n)).size ≤ 8 := by rw [ByteArray.size_extract]; omega
  go_enter Try.func36, Try.ntmps36
  go_wp2_with fail
  refine (take_ok h n hp hs).mono ?_
  rintro e w1 ⟨rfl, h1, h2⟩
  go_wp2_with fail
  refine (high_calls _ _ hx).mono ?_
  rintro e w2 ⟨rfl, rfl⟩
  go_wp2_with fail
  go_ret
  exact ⟨rfl, h1, h2⟩
end Go.Proofs.Ytikfdfagnalmbaa.My
namespace Go.Proofs.Ytikfdfagnalmbaa.My
open Go.RowKit Go.Proofs.YtikfdfagnalmbaaW.PrintWords Go.Proofs.YtikfdfagnalmbaaW.PrintLast Go.Proofs.Ytikfdfagnalmbaa
set_option linter.unusedSimpArgs false
set_option linter.unusedVariables false
set_option maxRecDepth 100000
set_option maxHeartbeats 800000
theorem RRaw_ok {w : World} {g : Nat} {s : ByteArray} {p n : Nat} (h : RS w g s p 0) (hp : p + n ≤ s.size) (hs : s.size ≤ 140737488351232) : Calls Try.prog 42 #[.pointer (some ⟨g, 0, none⟩), .int .i64 n] w fun r w' => r = .returned (.string (s.extract p (p + n))) ∧ RS w' g s (p + n) 0 ∧ Alone w w' g := by
  go_enter Try.func42, Try.ntmps42
  go_wp2_with fail
  refine (take_ok h n hp hs).mono ?_
  rintro e w1 ⟨rfl, h1, h2⟩
  go_wp2_with fail
  go_ret
  exact ⟨rfl, h1, h2⟩
theorem RS.far {w : World} {g : Nat} {s : ByteArray} {p : Nat} {e : Int} (h : RS w g s p e) {a : Addr} (ha : g ≠ a.block) (u : Value) : RS (w.setCell a u) g s p e := blk_far h ha u
theorem RS.below {w w' : World} {g : Nat} {s : ByteArray} {p : Nat} {e : Int} (h : RS w g s p e) (hb : Below w.heap.size w w') : RS w' g s p e := (hb.block g (blk_lt h)).trans h
/-- The number that n bytes at p are. -/
def fN (s : ByteArray) (p n : Nat) : Nat := hiN (((natsOf s).drop p).take n)
theorem natsOf_extract (s : ByteArray) (p q : Nat) : natsOf (s.extract p q) = ((natsOf s).drop p).take (q - p) := by
  unfold natsOf
  simp [ByteArray.data_extract, List.map_drop, List.map_take]
theorem fN_lt (s : ByteArray) (p n : Nat) : fN s p n < 256 ^ n := by
  have h0 : ∀ (l : List Nat) (v : Nat), (∀ x ∈ l, x < 256) → l.foldl (fun v x => v * 256 + x) v < (v + 1) * 256 ^ l.length := by
    intro l
    induction l with
    | nil => intro v _; simp
    | cons x l ih =>
      intro v hl
      have h1 := ih (v * 256 + x) (fun y hy => hl y (by simp [hy]))
      have h2 := hl x (by simp)
      rw [List.foldl_cons, List.length_cons, Nat.pow_succ]
      refine Nat.lt_of_lt_of_le h1 ?_
      have h3 : (v * 256 + x + 1) * 256 ^ l.length ≤ ((v + 1) * 256) * 256 ^ l.length := Nat.mul_le_mul_right _ (by omega)
      rw [Nat.mul_comm (256 ^ l.length) 256, ← Nat.mul_assoc]
      exact h3
  have h : ∀ (l : List Nat), (∀ x ∈ l, x < 256) → hiN l < 256 ^ l.length := by
    intro l hl
    have := h0 l 0 hl
    simpa [hiN] using this
  have hx : ∀ x ∈ ((natsOf s).drop p).take n, x < 256 := by
    intro x hx
    have h1 := List.mem_of_mem_drop (List.mem_of_mem_take hx)
    obtain ⟨b, _, rfl⟩ := List.mem_map.1 h1
    exact b.toNat_lt
  refine Nat.lt_of_lt_of_le (h _ hx) (Nat.pow_le_pow_right (by omega) ?_)
  rw [List.length_take]; omega
theorem fN_cut (s : ByteArray) (q p n : Nat) (hq : q + n ≤ s.size - p) (hp : p ≤ s.size) : hiN (natsOf ((s.extract p s.size).extract q (q + n))) = fN s (p + q) n := by
  unfold fN
  rw [natsOf_extract, natsOf_extract, Nat.add_sub_cancel_left, List.take_of_length_le (l := (natsOf s).drop p) (by rw [List.length_drop, natsOf_len]; omega), List.drop_drop]
end Go.Proofs.Ytikfdfagnalmbaa.My
namespace Go.Proofs.Ytikfdfagnalmbaa.My
open Go.RowKit Go.Proofs.YtikfdfagnalmbaaW.PrintWords Go.Proofs.YtikfdfagnalmbaaW.PrintLast Go.Proofs.Ytikfdfagnalmbaa
set_option linter.unusedSimpArgs false
set_option linter.unusedVariables false
set_option maxRecDepth 100000
set_option maxHeartbeats 2000000
theorem At_calls {w : World} {g : Nat} {s : ByteArray} {p : Nat} {e : Int} (h : RS w g s p e) : Calls Try.prog 25 #[.pointer (some ⟨g, 0, none⟩)] w fun r w' => r = .returned (.int .i64 p) ∧ w = w' := by
  obtain ⟨h0, h1, h2, _, _⟩ := h.cells
  go_enter Try.func25, Try.ntmps25
  go_wp2_with fail
  go_ret
  exact ⟨rfl, rfl⟩
end Go.Proofs.Ytikfdfagnalmbaa.My
namespace Go.Proofs.Ytikfdfagnalmbaa.My
open Go.RowKit Go.Proofs.YtikfdfagnalmbaaW.PrintWords Go.Proofs.YtikfdfagnalmbaaW.PrintLast Go.Proofs.Ytikfdfagnalmbaa
set_option linter.unusedSimpArgs false
set_option linter.unusedVariables false
set_option maxRecDepth 100000
set_option maxHeartbeats 4000000
/-- A number to the base 128 out of bytes: the error, the number, how many bytes were taken. -/
def uL (most : Nat) : Nat → Nat → Nat → List Nat → Int × Nat × Nat
  | 0, _, _, _ => (11, 0, 0)
  | _ + 1, _, _, [] => (10, 0, 0)
  | k + 1, i, v, c :: t =>
    if i = 9 ∧ 1 < c then (11, 0, 0) else
    if 128 ≤ c then uL most k (i + 1) (v + c % 128 * 128 ^ i) t else
    if (c = 0 ∧ 0 < i) ∨ most < v + c % 128 * 128 ^ i then (11, 0, 0) else (0, v + c % 128 * 128 ^ i, i + 1)
def uRead (s : ByteArray) (p most : Nat) : Int × Nat × Nat := uL most 10 0 0 ((natsOf s).drop p)
theorem RUint_err {w : World} {g : Nat} {s : ByteArray} {p : Nat} {e : Int} (h : RS w g s p e) (he : (e == 0) = false) (most : Int) : Calls Try.prog 37 #[.pointer (some ⟨g, 0, none⟩), .int .u64 most] w fun r w' => r = .returned (.int .u64 0) ∧ w = w' := by
  obtain ⟨h0, h1, h2, _, _⟩ := h.cells
  go_enter Try.func37, Try.ntmps37
  go_wp2_with fail
  go_ret
  exact ⟨rfl, rfl⟩
theorem natsOf_drop (s : ByteArray) (q : Nat) (h : q < s.size) : (natsOf s).drop q = (s[q]).toNat :: (natsOf s).drop (q + 1) := by
  have hl : q < (natsOf s).length := by rw [natsOf_len]; exact h
  rw [List.drop_eq_getElem_cons hl]
  congr 1
  simp [natsOf, ByteArray.getElem_eq_getElem_data]
theorem RS_at {w : World} {g : Nat} {s : ByteArray} {p : Nat} {e : Int} (h : RS w g s p e) (m : Nat) (E : Int) (q : Nat) (hE : E = (q : Int)) : RS ((w.drewN m).setCell ⟨g, 1, none⟩ (.int .i64 E)) g s q e := by
  subst hE
  exact blk_set (blk_drewN h m) 1 (.int .i64 (q : Int))
theorem and127 : ∀ b : Nat, b < 256 → b &&& 127 = b % 128 := by decide
theorem uL_num (n x c : Nat) (hx : x < 128 ^ n) (hn : n < 10) (h9 : ¬ (n = 9 ∧ 1 < c)) : x + c % 128 * 128 ^ n < 128 ^ (n + 1) ∧ x + c % 128 * 128 ^ n < 18446744073709551616 ∧ Aside0 (Go.bits .or .u64 (x : Int) (IntKind.u64.wrap ((c : Int) % 128 * 2 ^ (7 * n))) = ((x + c % 128 * 128 ^ n : Nat) : Int)) := by
  have h1 : c % 128 * 128 ^ n ≤ 127 * 128 ^ n := Nat.mul_le_mul_right _ (by omega)
  have h2 : x + c % 128 * 128 ^ n < 128 ^ (n + 1) := by rw [Nat.pow_succ]; omega
  have h3 : x + c % 128 * 128 ^ n < 18446744073709551616 := by
    by_cases h : n = 9
    · subst h
      have : c % 128 ≤ 1 := by omega
      have e : (128 : Nat) ^ 9 = 9223372036854775808 := by decide
      rw [e] at hx ⊢
      omega
    · have : 128 ^ (n + 1) ≤ 128 ^ 9 := Nat.pow_le_pow_right (by omega) (by omega)
      have e : (128 : Nat) ^ 9 = 9223372036854775808 := by decide
      omega
  refine ⟨h2, h3, ⟨?_⟩⟩
  have e1 : (2 : Nat) ^ (7 * n) = 128 ^ n := by rw [Nat.pow_mul]
  have e2 : ((c : Int) % 128 * 2 ^ (7 * n)) = ((c % 128 * 128 ^ n : Nat) : Int) := by rw [← e1]; push_cast; rfl
  rw [e2, IntKind.wrap_u64, Int.emod_eq_of_lt (by omega) (by omega), u64_or_nat _ _ (by omega) (by omega), Nat.or_comm, ← e1, nat_join (7 * n) _ _ (by rw [Nat.mul_mod_left]) (by rw [e1]; exact hx), Nat.add_comm]
theorem RUint_calls {w : World} {g : Nat} {s : ByteArray} {p : Nat} (h : RS w g s p 0) (hp : p ≤ s.size) (hs : s.size ≤ 140737488351232) (most : Nat) (hm : most < 18446744073709551616) : Calls Try.prog 37 #[.pointer (some ⟨g, 0, none⟩), .int .u64 most] w fun r w' => r = .returned (.int .u64 ((uRead s p most).2.1 : Nat)) ∧ RS w' g s (p + (uRead s p most).2.2) (uRead s p most).1 ∧ Alone w w' g := by
  obtain ⟨h0, h1, h2, f1, f2⟩ := h.cells
  have HR := Aside0.mk h
  clear h
  go_enter Try.func37, Try.ntmps37
  go_wp2_with fail
  go_loopw [5, 17] (fun v i wr => ∃ n x d : Nat, n ≤ 10 ∧ x < 128 ^ n ∧ p + n ≤ s.size ∧ wr = w.drewN d ∧ i = .int .i64 (n : Int) ∧ v = .int .u64 (x : Int) ∧ Aside0 (uRead s p most = uL most (10 - n) n x ((natsOf s).drop (p + n)))) (fun _ i _ => (10 - intOf i).toNat)
  case atStart => exact ⟨0, 0, 0, by omega, by omega, by omega, rfl, rfl, rfl, ⟨rfl⟩⟩
  case round =>
    obtain ⟨n, x, d, hn, hx, hpn, rfl, rfl, rfl, HE⟩ := hrel
    by_cases h10 : n < 10
    · by_cases hsz : p + n < s.size
      · have hc8 : (s[p + n]).toNat < 256 := (s[p + n]).toNat_lt
        have hE2 := Aside0.mk (natsOf_drop s (p + n) hsz)
        go_wp2_with fail
        go_quiet (fail)
        go_wp2_with fail
        have hw2 : IntKind.i64.wrap ((p : Int) + n) = (p : Int) + n := by rw [i64_w]; unfold wrap64; omega
        have hb0 : 0 ≤ (p : Int) + n := by omega
        have hb1 : (p : Int) + n < s.size := by omega
        have hb2 : ((p : Int) + n).toNat = p + n := by omega
        go_quiet (fail)
        generalize (s[p + n]).toNat = c at hc8 hE2
        clear hw2 hb0 hb1 hb2
        obtain ⟨k, hk⟩ : ∃ k, 10 - n = k + 1 := ⟨9 - n, by omega⟩
        rw [hE2.out, hk] at HE
        by_cases h9 : n = 9 ∧ 1 < c
        · have hU := Aside0.mk (HE.out.trans (by rw [uL, if_pos h9]))
          obtain ⟨rfl, h91⟩ := h9
          clear HE hE2 hx
          go_wp2_with fail
          go_ret
          rw [hU.out]
          exact ⟨rfl, blk_set (blk_drewN HR.out _) 2 (.int .i64 11), Alone_set w _ g 2 _⟩
        · obtain ⟨hnew, hnew2, hor⟩ := uL_num n x c hx h10 h9
          have h9' : ¬ (n = 9) ∨ ¬ 1 < c := Decidable.not_and_iff_or_not.1 h9
          have hU := Aside0.mk (HE.out.trans (by rw [uL, if_neg h9]))
          obtain ⟨y, hy⟩ : ∃ y, y = x + c % 128 * 128 ^ n := ⟨_, rfl⟩
          rw [← hy] at hnew hnew2 hor hU
          clear HE hE2 h9 hx hy
          have ha : Go.bits .and .u8 (c : Int) 127 = ((c % 128 : Nat) : Int) := by
            have h1 := u8_and_nat c 127 (by omega) (by omega)
            rw [and127 c hc8] at h1
            exact h1
          by_cases hc7 : 128 ≤ c
          · have hU2 := Aside0.mk (hU.out.trans (if_pos hc7))
            clear hU
            have hn8 : n < 9 := by omega
            have hkk : k = 10 - (n + 1) := by omega
            have HN := Aside0.mk hnew
            clear hnew
            go_wp2_with fail
            refine ⟨⟨n + 1, y, _, by omega, HN.out, by omega, rfl, rfl, ?_, ⟨hkk ▸ hU2.out⟩⟩, ?_⟩
            · exact congrArg (Value.int .u64) (by have h := hor.out; simpa only [Nat.mul_zero, Nat.pow_zero, Int.mul_one] using h)
            · simp [intOf]
              omega
          · have hU2 := Aside0.mk (hU.out.trans (if_neg hc7))
            clear hU hnew
            have hlo : (c : Int) % 128 = c := by omega
            by_cases hz : c = 0 ∧ 0 < n
            · have hU3 := Aside0.mk (hU2.out.trans (if_pos (.inl hz)))
              obtain ⟨rfl, hz2⟩ := hz
              clear hU2
              go_wp2_with fail
              all_goals go_ret
              all_goals rw [hU3.out]
              all_goals exact ⟨rfl, blk_set (blk_drewN HR.out _) 2 (.int .i64 11), Alone_set w _ g 2 _⟩
            · have hz' : ¬ (c = 0) ∨ ¬ 0 < n := Decidable.not_and_iff_or_not.1 hz
              clear hz
              by_cases hn0 : n = 0
              · subst hn0
                have hor2 : Go.bits .or .u64 (x : Int) (c : Int) = (y : Int) := by
                  have h := hor.out
                  rw [hlo, Nat.mul_zero, Int.pow_zero, Int.mul_one, IntKind.wrap_u64, Int.emod_eq_of_lt (by omega) (by omega)] at h
                  exact h
                have hor3 : Go.bits .or .u64 (x : Int) ((c : Int) % 128) = (y : Int) := by rw [hlo]; exact hor2
                by_cases hm2 : most < y
                · have hU3 := Aside0.mk (hU2.out.trans (if_pos (.inr hm2)))
                  clear hU2
                  go_wp2_with fail
                  all_goals go_ret
                  all_goals rw [hU3.out]
                  all_goals exact ⟨rfl, blk_set (blk_drewN HR.out _) 2 (.int .i64 11), Alone_set w _ g 2 _⟩
                · have hU3 := Aside0.mk (hU2.out.trans (if_neg (by omega)))
                  clear hU2
                  go_wp2_with fail
                  all_goals go_ret
                  all_goals rw [hU3.out]
                  all_goals exact ⟨rfl, RS_at HR.out _ _ _ (by dsimp only; omega), Alone_set w _ g 1 _⟩
              · by_cases hn9 : n = 9
                · subst hn9
                  have hor2 : Go.bits .or .u64 (x : Int) ((c : Int) % 128 * 9223372036854775808) = (y : Int) := by
                    have h := hor.out
                    rw [IntKind.wrap_u64, show ((2 : Int) ^ (7 * 9)) = 9223372036854775808 by decide, Int.emod_eq_of_lt (by omega) (by omega)] at h
                    exact h
                  have hor3 : Go.bits .or .u64 (x : Int) ((c : Int) * 9223372036854775808) = (y : Int) := by rw [← hlo]; exact hor2
                  by_cases hm2 : most < y
                  · have hU3 := Aside0.mk (hU2.out.trans (if_pos (.inr hm2)))
                    clear hU2
                    go_wp2_with fail
                    all_goals go_ret
                    all_goals rw [hU3.out]
                    all_goals exact ⟨rfl, blk_set (blk_drewN HR.out _) 2 (.int .i64 11), Alone_set w _ g 2 _⟩
                  · have hU3 := Aside0.mk (hU2.out.trans (if_neg (by omega)))
                    clear hU2
                    go_wp2_with fail
                    all_goals go_ret
                    all_goals rw [hU3.out]
                    all_goals exact ⟨rfl, RS_at HR.out _ _ _ (by dsimp only; omega), Alone_set w _ g 1 _⟩
                · have hor2 := hor.out
                  rw [hlo] at hor2
                  by_cases hm2 : most < y
                  · have hU3 := Aside0.mk (hU2.out.trans (if_pos (.inr hm2)))
                    clear hU2
                    go_wp2_with fail
                    all_goals go_ret
                    all_goals rw [hU3.out]
                    all_goals exact ⟨rfl, blk_set (blk_drewN HR.out _) 2 (.int .i64 11), Alone_set w _ g 2 _⟩
                  · have hU3 := Aside0.mk (hU2.out.trans (if_neg (by omega)))
                    clear hU2
                    go_wp2_with fail
                    all_goals go_ret
                    all_goals rw [hU3.out]
                    all_goals exact ⟨rfl, RS_at HR.out _ _ _ (by dsimp only; omega), Alone_set w _ g 1 _⟩
      · have hU := Aside0.mk (HE.out.trans (by obtain ⟨k, hk⟩ : ∃ k, 10 - n = k + 1 := ⟨9 - n, by omega⟩
                                               rw [hk, List.drop_eq_nil_of_le (by rw [natsOf_len]; omega), uL]))
        clear HE
        go_wp2_with fail
        go_quiet (fail)
        go_wp2_with fail
        go_ret
        rw [hU.out]
        exact ⟨rfl, blk_set (blk_drewN HR.out _) 2 (.int .i64 10), Alone_set w _ g 2 _⟩
    · have hU := Aside0.mk (HE.out.trans (by rw [show 10 - n = 0 by omega, uL]))
      clear HE
      go_wp2_with fail
      go_ret
      rw [hU.out]
      exact ⟨rfl, blk_set (blk_drewN HR.out _) 2 (.int .i64 11), Alone_set w _ g 2 _⟩
end Go.Proofs.Ytikfdfagnalmbaa.My
namespace Go.Proofs.Ytikfdfagnalmbaa.My
open Go.RowKit Go.Proofs.YtikfdfagnalmbaaW.PrintWords Go.Proofs.YtikfdfagnalmbaaW.PrintLast Go.Proofs.Ytikfdfagnalmbaa
set_option linter.unusedSimpArgs false
set_option linter.unusedVariables false
set_option maxRecDepth 100000
set_option maxHeartbeats 4000000
theorem RText_ok {w : World} {g : Nat} {s : ByteArray} {p : Nat} (h : RS w g s p 0) (hp : p ≤ s.size) (hs : s.size ≤ 140737488351232) (most n k : Nat) (hm : most < 9223372036854775808) (hU : uRead s p most = (0, n, k)) (hk : p + k + n ≤ s.size) : Calls Try.prog 41 #[.pointer (some ⟨g, 0, none⟩), .int .i64 most] w fun r w' => r = .returned (.string (s.extract (p + k) (p + k + n))) ∧ RS w' g s (p + k + n) 0 ∧ Alone w w' g := by
  obtain ⟨h0, h1, h2, f1, f2⟩ := h.cells
  have HR := Aside0.mk h
  clear h
  have hw : IntKind.u64.wrap (most : Int) = most := by rw [IntKind.wrap_u64]; omega
  go_enter Try.func41, Try.ntmps41
  go_wp2_with fail
  refine (RUint_calls HR.out hp hs most (by omega)).mono ?_
  rintro e w1 ⟨rfl, hr1, ha1⟩
  rw [hU] at hr1 ⊢
  dsimp only at hr1 ⊢
  have hw2 : IntKind.i64.wrap (n : Int) = n := by rw [i64_w]; unfold wrap64; omega
  go_wp2_with fail
  refine (take_ok hr1 n hk hs).mono ?_
  rintro e w2 ⟨rfl, hr2, ha2⟩
  go_wp2_with fail
  go_ret
  exact ⟨rfl, hr2, ha1.trans ha2⟩
/-- The block g alone has changed of what was there. -/
def Alone1 (w w' : World) (g : Nat) : Prop := Below 0 w w' ∧ ∀ k, k ≠ g → k < w.heap.size → w'.heap[k]? = w.heap[k]?
theorem Alone.one {w w' : World} {g : Nat} (h : Alone w w' g) : Alone1 w w' g := ⟨h.1, fun k hk _ => h.2.2 k hk⟩
theorem Alone1.trans {a b c : World} {g : Nat} (h : Alone1 a b g) (k : Alone1 b c g) : Alone1 a c g := ⟨h.1.trans k.1, fun i hi hl => (k.2 i hi (Nat.lt_of_lt_of_le hl h.1.size)).trans (h.2 i hi hl)⟩
theorem Alone1_alloc (w : World) (o : Obj) (g : Nat) : Alone1 w (w.alloc o) g := ⟨(Below.refl 0 w).alloc (Nat.zero_le _) o, fun k _ hl => by show (w.heap.push o)[k]? = _; rw [Array.getElem?_push_lt hl, Array.getElem?_eq_getElem hl]⟩
theorem Alone1_below {w w' : World} {g : Nat} (h : Below w.heap.size w w') : Alone1 w w' g := ⟨h.mono (Nat.zero_le _), fun k _ hl => h.block k hl⟩
theorem Alone1_drewN (w : World) (m g : Nat) : Alone1 w (w.drewN m) g := ⟨⟨rfl, rfl, rfl, Nat.le_refl _, fun _ _ => rfl⟩, fun k _ _ => rfl⟩
theorem below_alone1 {base : Nat} {w0 w w' : World} {g : Nat} (h : Below base w0 w) (k : Alone1 w w' g) (hg : base ≤ g) (hb : base ≤ w.heap.size) : Below base w0 w' :=
  ⟨k.1.os.trans h.os, k.1.tape.trans h.tape, k.1.output.trans h.output, Nat.le_trans h.size k.1.size, fun i hi => (k.2 i (by omega) (by omega)).trans (h.block i hi)⟩
/-- A number of 16 bits out of two bytes. -/
def small16 (t : ByteArray) : Int := Go.bits .or .i16 (IntKind.i16.wrap (IntKind.i16.wrap (((natsOf t).getD 0 0 : Nat) : Int) * 256)) (IntKind.i16.wrap (((natsOf t).getD 1 0 : Nat) : Int))
theorem W_push (w : World) (C : Array Value) (t : TypeId) (A : Nat × Nat) : (w.alloc (.cells C t A)).heap[w.heap.size]? = some (.cells C t A) := by show (w.heap.push _)[w.heap.size]? = _; rw [Array.getElem?_push_size]
theorem RSmall_ok {w : World} {g : Nat} {s : ByteArray} {p : Nat} (h : RS w g s p 0) (hp : p + 2 ≤ s.size) (hs : s.size ≤ 140737488351232) : Calls Try.prog 35 #[.pointer (some ⟨g, 0, none⟩)] w fun r w' => r = .returned (.int .i16 (small16 (s.extract p (p + 2)))) ∧ RS w' g s (p + 2) 0 ∧ Alone1 w w' g := by
  obtain ⟨t, ht⟩ : ∃ t, s.extract p (p + 2) = t := ⟨_, rfl⟩
  have hx : t.size = 2 := by rw [← ht, ByteArray.size_extract]; omega
  go_enter Try.func35, Try.ntmps35
  go_wp2_with fail
  refine (take_ok h 2 hp hs).mono ?_
  rintro e w1 ⟨rfl, h1, h2⟩
  rw [ht]
  have HT := Aside0.mk ht
  clear ht
  have hcv := fun w => run_bytes_of_string (P := Try.prog) w 9 54 5 t Try.underlying9 Try.underlying54 Try.underlying5
  have hat : ∀ (W : World) (a : Option Addr) (c : Nat), (Instr.arrayAt 105 (.slice a 2 c)).run Try.prog W = .ok (.pointer a) W := fun W a c => run_arrayAt W 105 5 2 Try.underlying105 a 2 c (by omega)
  obtain ⟨a, b, rfl⟩ : ∃ a b : UInt8, t = ⟨#[a, b]⟩ := by
    obtain ⟨⟨l⟩⟩ := t
    match l, hx with
    | [a, b], _ => exact ⟨a, b, rfl⟩
  have hrow : ∀ cap, (bytesRow ⟨#[a, b]⟩ cap)[0]? = some (.int .u8 a.toNat) ∧ (bytesRow ⟨#[a, b]⟩ cap)[1]? = some (.int .u8 b.toNat) := fun cap => by
    unfold bytesRow
    constructor <;> (rw [Array.getElem?_append_left (by simp)]; simp)
  have hc0 : ∀ cap A, (w1.alloc (.cells (bytesRow ⟨#[a, b]⟩ cap) 5 A)).cell? ⟨w1.heap.size, 0, none⟩ = some (.int .u8 a.toNat) := fun cap A => (cell_of_row _ _ 0 _ _ _ (W_push w1 _ _ _)).trans (hrow cap).1
  have hc1 : ∀ cap A, (w1.alloc (.cells (bytesRow ⟨#[a, b]⟩ cap) 5 A)).cell? ⟨w1.heap.size, 1, none⟩ = some (.int .u8 b.toNat) := fun cap A => (cell_of_row _ _ 1 _ _ _ (W_push w1 _ _ _)).trans (hrow cap).2
  have hsm : small16 ⟨#[a, b]⟩ = Go.bits .or .i16 (IntKind.i16.wrap (IntKind.i16.wrap (a.toNat : Int) * 256)) (IntKind.i16.wrap (b.toNat : Int)) := by simp [small16, natsOf]
  have HM := Aside0.mk hsm
  clear hsm
  go_wp2_with fail
  go_ret
  rw [HT.out, HM.out]
  exact ⟨rfl, blk_drew (blk_alloc (blk_alloc h1 _) _), h2.one.trans ((Alone1_alloc w1 _ g).trans ((Alone1_alloc _ _ g).trans (Alone1_drewN _ 1 g)))⟩
end Go.Proofs.Ytikfdfagnalmbaa.My
namespace Go.Proofs.Ytikfdfagnalmbaa.My
open Go.RowKit Go.Proofs.YtikfdfagnalmbaaW.PrintWords Go.Proofs.YtikfdfagnalmbaaW.PrintLast Go.Proofs.Ytikfdfagnalmbaa
set_option linter.unusedSimpArgs false
set_option linter.unusedVariables false
set_option maxRecDepth 100000
set_option maxHeartbeats 1600000
/-- n bytes are taken, if they are there: the bytes, whether they were there, the place, the error. -/
def tk (s : ByteArray) (p : Nat) (e n : Int) : ByteArray × Bool × Nat × Int :=
  if e = 0 then (if n ≤ (s.size : Int) - p then (s.extract p (p + n.toNat), true, p + n.toNat, 0) else (⟨#[]⟩, false, p, 10)) else (⟨#[]⟩, false, p, e)
theorem tk_err {s : ByteArray} {p : Nat} {e : Int} (n : Int) (h : e ≠ 0) : tk s p e n = (⟨#[]⟩, false, p, e) := by unfold tk; rw [if_neg h]
theorem tk_ok {s : ByteArray} {p : Nat} (n : Nat) (h : p + n ≤ s.size) : tk s p 0 n = (s.extract p (p + n), true, p + n, 0) := by unfold tk; rw [if_pos rfl, if_pos (by omega), Int.toNat_natCast]
theorem tk_short {s : ByteArray} {p : Nat} (n : Int) (h : (s.size : Int) - p < n) : tk s p 0 n = (⟨#[]⟩, false, p, 10) := by unfold tk; rw [if_pos rfl, if_neg (by omega)]
theorem tk_le (s : ByteArray) (p : Nat) (e n : Int) (hp : p ≤ s.size) (hn : e = 0 → 0 ≤ n) : (tk s p e n).2.2.1 ≤ s.size := by
  unfold tk
  split
  · rename_i h
    have := hn h
    split
    · show p + n.toNat ≤ s.size; omega
    · exact hp
  · exact hp
theorem tk_size (s : ByteArray) (p : Nat) (e n : Int) : ((tk s p e n).1.size : Int) ≤ max n 0 := by
  unfold tk
  split
  · split
    · show ((s.extract p (p + n.toNat)).size : Int) ≤ _
      rw [ByteArray.size_extract]; omega
    · show ((⟨#[]⟩ : ByteArray).size : Int) ≤ _; rw [show (⟨#[]⟩ : ByteArray).size = 0 from rfl]; omega
  · show ((⟨#[]⟩ : ByteArray).size : Int) ≤ _; rw [show (⟨#[]⟩ : ByteArray).size = 0 from rfl]; omega
theorem Alone1.refl (w : World) (g : Nat) : Alone1 w w g := ⟨Below.refl _ _, fun _ _ _ => rfl⟩
theorem take_any {w : World} {g : Nat} {s : ByteArray} {p : Nat} {e : Int} (h : RS w g s p e) (hp : p ≤ s.size) (hs : s.size ≤ 140737488351232) (n : Int) (hn : e = 0 → 0 ≤ n) : Calls Try.prog 75 #[.pointer (some ⟨g, 0, none⟩), .int .i64 n] w fun r w' => r = .returned (.tuple #[.string (tk s p e n).1, .bool (tk s p e n).2.1]) ∧ RS w' g s (tk s p e n).2.2.1 (tk s p e n).2.2.2 ∧ Alone1 w w' g := by
  by_cases he : e = 0
  · subst he
    by_cases hl : n ≤ (s.size : Int) - p
    · obtain ⟨m, rfl⟩ := Int.eq_ofNat_of_zero_le (hn rfl)
      rw [tk_ok m (by omega)]
      exact (take_ok h m (by omega) hs).mono fun _ _ h => ⟨h.1, h.2.1, h.2.2.one⟩
    · rw [tk_short n (by omega)]
      exact (take_short h n (by omega) hp hs).mono fun _ _ h => ⟨h.1, h.2.1, h.2.2.one⟩
  · rw [tk_err n he]
    exact (take_err h (by simpa using he) n).mono fun _ _ h' => ⟨h'.1, by rw [← h'.2]; exact h, by rw [← h'.2]; exact Alone1.refl _ _⟩
theorem RByte_any {w : World} {g : Nat} {s : ByteArray} {p : Nat} {e : Int} (h : RS w g s p e) (hp : p ≤ s.size) (hs : s.size ≤ 140737488351232) : Calls Try.prog 34 #[.pointer (some ⟨g, 0, none⟩)] w fun r w' => r = .returned (.int .u8 ((hiN (natsOf (tk s p e 1).1) : Nat) % 256 : Int)) ∧ RS w' g s (tk s p e 1).2.2.1 (tk s p e 1).2.2.2 ∧ Alone1 w w' g := by
  have hx := tk_size s p e 1
  have HC := Aside0.mk (take_any h hp hs 1 (fun _ => by omega))
  generalize tk s p e 1 = t at hx HC ⊢
  obtain ⟨t, b, q, f⟩ := t
  have hx8 : t.size ≤ 8 := by have h : (t.size : Int) ≤ max 1 0 := hx; omega
  clear hx
  go_enter Try.func34, Try.ntmps34
  go_wp2_with fail
  refine HC.out.mono ?_
  rintro e w1 ⟨rfl, h1, h2⟩
  go_wp2_with fail
  refine (high_calls t _ hx8).mono ?_
  rintro e w2 ⟨rfl, rfl⟩
  go_wp2_with fail
  go_ret
  exact ⟨rfl, h1, h2⟩
theorem RRaw_any {w : World} {g : Nat} {s : ByteArray} {p : Nat} {e : Int} (h : RS w g s p e) (hp : p ≤ s.size) (hs : s.size ≤ 140737488351232) (n : Int) (hn : 0 ≤ n) : Calls Try.prog 42 #[.pointer (some ⟨g, 0, none⟩), .int .i64 n] w fun r w' => r = .returned (.string (tk s p e n).1) ∧ RS w' g s (tk s p e n).2.2.1 (tk s p e n).2.2.2 ∧ Alone1 w w' g := by
  have HC := Aside0.mk (take_any h hp hs n (fun _ => hn))
  generalize tk s p e n = t at HC ⊢
  obtain ⟨t, b, q, f⟩ := t
  go_enter Try.func42, Try.ntmps42
  go_wp2_with fail
  refine HC.out.mono ?_
  rintro e w1 ⟨rfl, h1, h2⟩
  go_wp2_with fail
  go_ret
  exact ⟨rfl, h1, h2⟩
/-- The error that stays. -/
def fe (e n : Int) : Int := if e = 0 then n else e
theorem RFail_any {w : World} {g : Nat} {s : ByteArray} {p : Nat} {e : Int} (h : RS w g s p e) (n : Int) : Calls Try.prog 33 #[.pointer (some ⟨g, 0, none⟩), .int .i64 n] w fun r w' => r = .returned (.tuple #[]) ∧ RS w' g s p (fe e n) ∧ Alone1 w w' g := by
  unfold fe
  by_cases he : e = 0
  · subst he
    rw [if_pos rfl]
    exact (RFail_new h n).mono fun _ _ h => ⟨h.1, h.2.1, h.2.2.one⟩
  · rw [if_neg he]
    exact (RFail_kept h (by simpa using he) n).mono fun _ _ h' => ⟨h'.1, by rw [← h'.2]; exact h, by rw [← h'.2]; exact Alone1.refl _ _⟩
theorem fe_one (e : Int) : fe e 1 ≠ 0 := by unfold fe; split <;> omega
theorem RRaw_neg {w : World} {g : Nat} {s : ByteArray} {p : Nat} {e : Int} (h : RS w g s p e) (hp : p ≤ s.size) (hs : s.size ≤ 140737488351232) (n : Int) (hn : n < 0) : Calls Try.prog 42 #[.pointer (some ⟨g, 0, none⟩), .int .i64 n] w fun r w' => r = .returned (.string ⟨#[]⟩) ∧ RS w' g s p (fe e 1) ∧ Alone1 w w' g := by
  have hf := fe_one e
  have HC := Aside0.mk (RFail_any h 1)
  generalize fe e 1 = f at hf HC ⊢
  go_enter Try.func42, Try.ntmps42
  go_wp2_with fail
  refine HC.out.mono ?_
  rintro e w1 ⟨rfl, h1, h2⟩
  go_wp2_with fail
  refine (take_any h1 hp hs n (fun h => absurd h hf)).mono ?_
  rw [tk_err n hf]
  rintro e w2 ⟨rfl, h3, h4⟩
  go_wp2_with fail
  go_ret
  exact ⟨rfl, h3, h2.trans h4⟩
theorem RFixed_any {w : World} {g : Nat} {s : ByteArray} {p : Nat} {e : Int} (h : RS w g s p e) (hp : p ≤ s.size) (hs : s.size ≤ 140737488351232) (n : Int) (hn1 : 1 ≤ n) (hn8 : n ≤ 8) : Calls Try.prog 36 #[.pointer (some ⟨g, 0, none⟩), .int .i64 n] w fun r w' => r = .returned (.int .u64 ((hiN (natsOf (tk s p e n).1) : Nat) : Int)) ∧ RS w' g s (tk s p e n).2.2.1 (tk s p e n).2.2.2 ∧ Alone1 w w' g := by
  have hx := tk_size s p e n
  have HC := Aside0.mk (take_any h hp hs n (fun _ => by omega))
  generalize tk s p e n = t at hx HC ⊢
  obtain ⟨t, b, q, f⟩ := t
  have hx8 : t.size ≤ 8 := by have h : (t.size : Int) ≤ max n 0 := hx; omega
  clear hx
  go_enter Try.func36, Try.ntmps36
  go_wp2_with fail
  refine HC.out.mono ?_
  rintro e w1 ⟨rfl, h1, h2⟩
  go_wp2_with fail
  refine (high_calls t _ hx8).mono ?_
  rintro e w2 ⟨rfl, rfl⟩
  go_wp2_with fail
  go_ret
  exact ⟨rfl, h1, h2⟩
theorem hiN_nil : hiN (natsOf ⟨#[]⟩) = 0 := rfl
theorem RFixed_bad {w : World} {g : Nat} {s : ByteArray} {p : Nat} {e : Int} (h : RS w g s p e) (hp : p ≤ s.size) (hs : s.size ≤ 140737488351232) (n : Int) (hn : n < 1 ∨ 8 < n) : Calls Try.prog 36 #[.pointer (some ⟨g, 0, none⟩), .int .i64 n] w fun r w' => r = .returned (.int .u64 0) ∧ RS w' g s p (fe e 1) ∧ Alone1 w w' g := by
  have hf := fe_one e
  have HC := Aside0.mk (RFail_any h 1)
  generalize fe e 1 = f at hf HC ⊢
  rcases hn with hn | hn
  all_goals
    go_enter Try.func36, Try.ntmps36
    go_wp2_with fail
    refine HC.out.mono ?_
    rintro e w1 ⟨rfl, h1, h2⟩
    go_wp2_with fail
    refine (take_any h1 hp hs n (fun h => absurd h hf)).mono ?_
    rw [tk_err n hf]
    rintro e w2 ⟨rfl, h3, h4⟩
    go_wp2_with fail
    refine (high_calls ⟨#[]⟩ _ (Nat.zero_le _)).mono ?_
    rintro e w3 ⟨rfl, rfl⟩
    go_wp2_with fail
    go_ret
    exact ⟨rfl, h3, h2.trans h4⟩
/-- Two bytes as a number of 16 bits. -/
def rSm (t : ByteArray × Bool × Nat × Int) : Int := if t.2.1 = true then small16 t.1 else 0
theorem RSmall_any {w : World} {g : Nat} {s : ByteArray} {p : Nat} {e : Int} (h : RS w g s p e) (hp : p ≤ s.size) (hs : s.size ≤ 140737488351232) : Calls Try.prog 35 #[.pointer (some ⟨g, 0, none⟩)] w fun r w' => r = .returned (.int .i16 (rSm (tk s p e 2))) ∧ RS w' g s (tk s p e 2).2.2.1 (tk s p e 2).2.2.2 ∧ Alone1 w w' g := by
  have hq : ∀ q f, tk s p e 2 = (⟨#[]⟩, false, q, f) → Calls Try.prog 35 #[.pointer (some ⟨g, 0, none⟩)] w fun r w' => r = .returned (.int .i16 (rSm (tk s p e 2))) ∧ RS w' g s (tk s p e 2).2.2.1 (tk s p e 2).2.2.2 ∧ Alone1 w w' g := by
    intro q f ht
    have HC := Aside0.mk (take_any h hp hs 2 (fun _ => by omega))
    rw [ht] at HC ⊢
    clear ht
    go_enter Try.func35, Try.ntmps35
    go_wp2_with fail
    refine HC.out.mono ?_
    rintro e w1 ⟨rfl, h1, h2⟩
    go_wp2_with fail
    go_ret
    exact ⟨rfl, h1, h2⟩
  by_cases he : e = 0
  · subst he
    by_cases hl : p + 2 ≤ s.size
    · rw [show tk s p 0 2 = _ from tk_ok 2 hl]
      exact RSmall_ok h hl hs
    · exact hq _ _ (tk_short 2 (by omega))
  · exact hq _ _ (tk_err 2 he)
/-- A number to the base 128 is taken: the number, the place, the error. -/
def rU (s : ByteArray) (p : Nat) (e : Int) (most : Nat) : Nat × Nat × Int := if e = 0 then ((uRead s p most).2.1, p + (uRead s p most).2.2, (uRead s p most).1) else (0, p, e)
theorem RUint_any {w : World} {g : Nat} {s : ByteArray} {p : Nat} {e : Int} (h : RS w g s p e) (hp : p ≤ s.size) (hs : s.size ≤ 140737488351232) (most : Nat) (hm : most < 18446744073709551616) : Calls Try.prog 37 #[.pointer (some ⟨g, 0, none⟩), .int .u64 most] w fun r w' => r = .returned (.int .u64 ((rU s p e most).1 : Nat)) ∧ RS w' g s (rU s p e most).2.1 (rU s p e most).2.2 ∧ Alone1 w w' g := by
  unfold rU
  by_cases he : e = 0
  · subst he
    rw [if_pos rfl]
    exact (RUint_calls h hp hs most hm).mono fun _ _ h => ⟨h.1, h.2.1, h.2.2.one⟩
  · rw [if_neg he]
    exact (RUint_err h (by simpa using he) most).mono fun _ _ h' => ⟨h'.1, by rw [← h'.2]; exact h, by rw [← h'.2]; exact Alone1.refl _ _⟩
theorem uL_bd (most : Nat) : ∀ (k i v : Nat) (l : List Nat), (uL most k i v l).2.2 ≤ i + l.length ∧ (uL most k i v l).2.1 ≤ most ∧ ((uL most k i v l).1 ≠ 0 → (uL most k i v l).2 = (0, 0))
  | 0, i, v, l => by simp [uL]
  | k + 1, i, v, [] => by simp [uL]
  | k + 1, i, v, c :: t => by
    rw [uL]
    split
    · simp
    · split
      · have := uL_bd most k (i + 1) (v + c % 128 * 128 ^ i) t
        exact ⟨by have := this.1; simp only [List.length_cons]; omega, this.2⟩
      · split
        · simp
        · rename_i h
          exact ⟨by simp only [List.length_cons]; omega, by simp only; omega, by simp⟩
theorem rU_le (s : ByteArray) (p : Nat) (e : Int) (most : Nat) (hp : p ≤ s.size) : (rU s p e most).2.1 ≤ s.size := by
  unfold rU
  split
  · have := (uL_bd most 10 0 0 ((natsOf s).drop p)).1
    rw [List.length_drop, natsOf_len] at this
    show p + (uRead s p most).2.2 ≤ _
    unfold uRead
    omega
  · exact hp
theorem rU_most (s : ByteArray) (p : Nat) (e : Int) (most : Nat) : (rU s p e most).1 ≤ most := by
  unfold rU
  split
  · exact (uL_bd most 10 0 0 ((natsOf s).drop p)).2.1
  · exact Nat.zero_le _
theorem rU_bad (s : ByteArray) (p : Nat) (e : Int) (most : Nat) (h : (rU s p e most).2.2 ≠ 0) : (rU s p e most).1 = 0 ∧ (rU s p e most).2.1 = p := by
  unfold rU at h ⊢
  by_cases he : e = 0
  · rw [if_pos he] at h ⊢
    have := (uL_bd most 10 0 0 ((natsOf s).drop p)).2.2 h
    unfold uRead
    rw [this]
    exact ⟨rfl, rfl⟩
  · rw [if_neg he]
    exact ⟨rfl, rfl⟩
/-- A text is taken: the text, the place, the error. -/
def rT (s : ByteArray) (p : Nat) (e most : Int) : ByteArray × Nat × Int :=
  if most < 0 then (⟨#[]⟩, p, fe e 1) else
  let u := rU s p e most.toNat
  let t := tk s u.2.1 u.2.2 u.1
  if t.2.1 = true then (t.1, t.2.2.1, t.2.2.2) else (⟨#[]⟩, p, t.2.2.2)
theorem RLeft_calls {w : World} {g : Nat} {s : ByteArray} {p : Nat} {e : Int} (h : RS w g s p e) (hp : p ≤ s.size) (hs : s.size ≤ 140737488351232) : Calls Try.prog 26 #[.pointer (some ⟨g, 0, none⟩)] w fun r w' => r = .returned (.int .i64 ((s.size : Int) - p)) ∧ ∃ m, w' = w.drewN m := by
  obtain ⟨h0, h1, h2, f1, f2⟩ := h.cells
  clear h
  go_enter Try.func26, Try.ntmps26
  go_wp2_with fail
  go_quiet (fail)
  go_wp2_with fail
  go_ret
  exact ⟨rfl, _, rfl⟩
end Go.Proofs.Ytikfdfagnalmbaa.My
namespace Go.Proofs.Ytikfdfagnalmbaa.My
open Go.RowKit Go.Proofs.YtikfdfagnalmbaaW.PrintWords Go.Proofs.YtikfdfagnalmbaaW.PrintLast Go.Proofs.Ytikfdfagnalmbaa
set_option linter.unusedSimpArgs false
set_option linter.unusedVariables false
set_option maxRecDepth 100000
set_option maxHeartbeats 1600000
theorem tk_no (s : ByteArray) (p : Nat) (e n : Int) (h : (tk s p e n).2.1 = false) : (tk s p e n).1 = ⟨#[]⟩ := by
  unfold tk at h ⊢
  split
  · rename_i h0
    rw [if_pos h0] at h
    split
    · rename_i h1
      rw [if_pos h1] at h
      cases h
    · rfl
  · rfl
/-- The number with a sign that a number without one stands for. -/
def zag (n : Nat) : Int := if n % 2 = 0 then ((n / 2 : Nat) : Int) else -((n / 2 : Nat) : Int) - 1
theorem zag_bits (n : Nat) (h : n < 18446744073709551616) : bits .xor .i64 ((n : Int) / 2) (wrap64 (-wrap64 (bits .and .u64 (n : Int) 1))) = zag n := by
  rw [Lib.u64_and1 _ (by omega) (by omega)]
  unfold zag
  have hc : ∀ a b : Int, bits .xor .i64 a b = bits .xor .i64 b a := fun a b => by
    show IntKind.i64.wrap ((BitVec.ofInt 64 a ^^^ BitVec.ofInt 64 b).toNat : Int) = IntKind.i64.wrap ((BitVec.ofInt 64 b ^^^ BitVec.ofInt 64 a).toNat : Int)
    rw [BitVec.xor_comm]
  rcases Nat.mod_two_eq_zero_or_one n with h2 | h2
  · rw [if_pos h2, show ((n : Int) % 2) = 0 by omega, show wrap64 (-wrap64 0) = 0 by unfold wrap64; omega]
    show IntKind.i64.wrap ((BitVec.ofInt 64 ((n : Int) / 2) ^^^ BitVec.ofInt 64 0).toNat : Int) = _
    have h3 : (BitVec.ofInt 64 ((n : Int) / 2)).toNat = n / 2 := by
      rw [show ((n : Int) / 2) = ((n / 2 : Nat) : Int) by omega, BitVec.ofInt_natCast, BitVec.toNat_ofNat]; exact Nat.mod_eq_of_lt (by omega)
    rw [BitVec.toNat_xor, h3, show (BitVec.ofInt 64 0).toNat = 0 by decide, Nat.xor_zero, IntKind.wrap_i64]
    omega
  · rw [if_neg (by omega), show ((n : Int) % 2) = 1 by omega, show wrap64 (-wrap64 1) = -1 by unfold wrap64; omega, hc, show ((n : Int) / 2) = ((n / 2 : Nat) : Int) by omega, Lib.i64_not _ (by omega)]
theorem RText_neg {w : World} {g : Nat} {s : ByteArray} {p : Nat} {e : Int} (h : RS w g s p e) (most : Int) (hm : most < 0) : Calls Try.prog 41 #[.pointer (some ⟨g, 0, none⟩), .int .i64 most] w fun r w' => r = .returned (.string ⟨#[]⟩) ∧ RS w' g s p (fe e 1) ∧ Alone1 w w' g := by
  go_enter Try.func41, Try.ntmps41
  go_wp2_with fail
  refine (RFail_any h 1).mono ?_
  rintro e w1 ⟨rfl, h1, h2⟩
  go_wp2_with fail
  go_ret
  exact ⟨rfl, h1, h2⟩
theorem RText_any {w : World} {g : Nat} {s : ByteArray} {p : Nat} {e : Int} (h : RS w g s p e) (hp : p ≤ s.size) (hs : s.size ≤ 140737488351232) (most : Int) (hm1 : most < 9223372036854775808) : Calls Try.prog 41 #[.pointer (some ⟨g, 0, none⟩), .int .i64 most] w fun r w' => r = .returned (.string (rT s p e most).1) ∧ RS w' g s (rT s p e most).2.1 (rT s p e most).2.2 ∧ Alone1 w w' g := by
  by_cases hneg : most < 0
  · unfold rT
    rw [if_pos hneg]
    exact RText_neg h most hneg
  · obtain ⟨m, rfl⟩ := Int.eq_ofNat_of_zero_le (show 0 ≤ most by omega)
    unfold rT
    rw [if_neg hneg, Int.toNat_natCast]
    dsimp only
    obtain ⟨h0, h1, h2, f1, f2⟩ := h.cells
    have HR := Aside0.mk h
    clear h
    have hw : IntKind.u64.wrap (m : Int) = m := by rw [IntKind.wrap_u64]; omega
    have hmo := rU_most s p e m
    have hle := rU_le s p e m hp
    have HU := Aside0.mk (RUint_any HR.out hp hs m (by omega))
    generalize rU s p e m = u at hmo hle HU ⊢
    obtain ⟨n, q, f⟩ := u
    dsimp only at hmo hle HU ⊢
    have hw2 : IntKind.i64.wrap (n : Int) = n := by rw [i64_w]; unfold wrap64; omega
    have HT : Aside0 (∀ w1 : World, RS w1 g s q f → Calls Try.prog 75 #[.pointer (some ⟨g, 0, none⟩), .int .i64 n] w1 fun r w' => r = .returned (.tuple #[.string (tk s q f n).1, .bool (tk s q f n).2.1]) ∧ RS w' g s (tk s q f n).2.2.1 (tk s q f n).2.2.2 ∧ Alone1 w1 w' g) := ⟨fun w1 hr1 => take_any hr1 hle hs n (fun _ => by omega)⟩
    have hno := tk_no s q f n
    generalize tk s q f n = t at HT hno ⊢
    obtain ⟨t, b, q2, f2⟩ := t
    dsimp only at HT hno ⊢
    cases b with
    | true =>
      rw [if_pos rfl]
      go_enter Try.func41, Try.ntmps41
      go_wp2_with fail
      refine HU.out.mono ?_
      rintro e w1 ⟨rfl, hr1, ha1⟩
      go_wp2_with fail
      refine (HT.out _ hr1).mono ?_
      rintro e w2 ⟨rfl, hr2, ha2⟩
      go_wp2_with fail
      go_ret
      exact ⟨rfl, hr2, ha1.trans ha2⟩
    | false =>
      rw [if_neg (by decide)]
      obtain rfl := hno rfl
      clear hno
      go_enter Try.func41, Try.ntmps41
      go_wp2_with fail
      refine HU.out.mono ?_
      rintro e w1 ⟨rfl, hr1, ha1⟩
      go_wp2_with fail
      refine (HT.out _ hr1).mono ?_
      rintro e w2 ⟨rfl, hr2, ha2⟩
      have HR2 := Aside0.mk hr2
      obtain ⟨c0, c1, c2, z1, z2⟩ := hr2.cells
      clear hr2 h0 h1 h2 f1
      go_wp2_with fail
      go_ret
      exact ⟨rfl, blk_set HR2.out 1 (.int .i64 (p : Int)), ha1.trans (ha2.trans (Alone_set w2 0 g 1 _).one)⟩
theorem RInt_any {w : World} {g : Nat} {s : ByteArray} {p : Nat} {e : Int} (h : RS w g s p e) (hp : p ≤ s.size) (hs : s.size ≤ 140737488351232) : Calls Try.prog 38 #[.pointer (some ⟨g, 0, none⟩)] w fun r w' => r = .returned (.int .i64 (zag (rU s p e 18446744073709551615).1)) ∧ RS w' g s (rU s p e 18446744073709551615).2.1 (rU s p e 18446744073709551615).2.2 ∧ Alone1 w w' g := by
  have HU := Aside0.mk (RUint_any h hp hs 18446744073709551615 (by omega))
  have hmo := rU_most s p e 18446744073709551615
  generalize rU s p e 18446744073709551615 = u at HU hmo ⊢
  obtain ⟨n, q, f⟩ := u
  dsimp only at HU hmo ⊢
  have HZ := Aside0.mk (zag_bits n (by omega))
  generalize zag n = z at HZ ⊢
  go_enter Try.func38, Try.ntmps38
  go_wp2_with fail
  refine HU.out.mono ?_
  rintro e w1 ⟨rfl, hr1, ha1⟩
  go_wp2_with fail
  rw [HZ.out]
  go_ret
  exact ⟨rfl, hr1, ha1⟩
/-- A float is taken: its bits, the place, the error. -/
def rF (s : ByteArray) (p : Nat) (e : Int) : Nat × Nat × Int :=
  let t := tk s p e 8
  if t.2.1 = true then (if nanB (hiN (natsOf t.1)) = true ∧ hiN (natsOf t.1) ≠ 9221120237041090560 then (0, p, 4) else (hiN (natsOf t.1), t.2.2.1, t.2.2.2)) else (0, t.2.2.1, t.2.2.2)
theorem RFloat_any {w : World} {g : Nat} {s : ByteArray} {p : Nat} {e : Int} (h : RS w g s p e) (hp : p ≤ s.size) (hs : s.size ≤ 140737488351232) : Calls Try.prog 40 #[.pointer (some ⟨g, 0, none⟩)] w fun r w' => r = .returned (.float .f64 (rF s p e).1) ∧ RS w' g s (rF s p e).2.1 (rF s p e).2.2 ∧ Alone1 w w' g := by
  have HT := Aside0.mk (take_any h hp hs 8 (fun _ => by omega))
  have hx := tk_size s p e 8
  have hq : (tk s p e 8).2.1 = true → (tk s p e 8).2.2.1 = p + 8 := by
    unfold tk
    split
    · split
      · intro _; rfl
      · intro h; cases h
    · intro h; cases h
  unfold rF
  dsimp only
  generalize tk s p e 8 = t at HT hx hq ⊢
  obtain ⟨t, b, q, f⟩ := t
  dsimp only at HT hx hq ⊢
  have hx8 : t.size ≤ 8 := by omega
  clear hx
  cases b with
  | false =>
    rw [if_neg (by decide)]
    go_enter Try.func40, Try.ntmps40
    go_wp2_with fail
    refine HT.out.mono ?_
    rintro e w1 ⟨rfl, hr1, ha1⟩
    go_wp2_with fail
    go_ret
    exact ⟨rfl, hr1, ha1⟩
  | true =>
    rw [if_pos rfl]
    obtain rfl : q = p + 8 := hq rfl
    clear hq
    have HH := Aside0.mk (fun w => high_calls t w hx8)
    have hlt : hiN (natsOf t) < 18446744073709551616 := by
      have h1 := hiN_lt t t.size (Nat.le_refl _)
      rw [List.take_of_length_le (by rw [natsOf_len]; omega)] at h1
      exact Nat.lt_of_lt_of_le h1 (Nat.pow_le_pow_right (by omega : 0 < 256) hx8)
    generalize hiN (natsOf t) = n at HH hlt ⊢
    have hfb := frombits_run n
    have HN := Aside0.mk (isNaN_calls n)
    generalize nanB n = bn at HN ⊢
    by_cases hc : bn = true ∧ n ≠ 9221120237041090560
    · rw [if_pos hc]
      obtain ⟨rfl, hne⟩ := hc
      have hne' : ((n : Int) == 9221120237041090560) = false := by rw [beq_eq_false_iff_ne]; omega
      have hne2 : ((n : Int) != 9221120237041090560) = true := by rw [bne_iff_ne]; omega
      clear hne
      go_enter Try.func40, Try.ntmps40
      go_wp2_with fail
      refine HT.out.mono ?_
      rintro e w1 ⟨rfl, hr1, ha1⟩
      go_wp2_with fail
      refine (HH.out _).mono ?_
      rintro e w2 ⟨rfl, rfl⟩
      go_wp2_with fail
      refine (HN.out _).mono ?_
      rintro e w2 ⟨rfl, rfl⟩
      go_wp2_with fail
      refine (HH.out _).mono ?_
      rintro e w2 ⟨rfl, rfl⟩
      have HR2 := Aside0.mk hr1
      obtain ⟨c0, c1, c2, z1, z2⟩ := hr1.cells
      clear hr1
      go_wp2_with fail
      go_ret
      exact ⟨rfl, blk_set (blk_set HR2.out 1 (.int .i64 (p : Int))) 2 (.int .i64 4), ha1.trans ((Alone_set w1 0 g 1 _).trans (Alone_set _ 0 g 2 _)).one⟩
    · rw [if_neg hc]
      cases bn with
      | false =>
        go_enter Try.func40, Try.ntmps40
        go_wp2_with fail
        refine HT.out.mono ?_
        rintro e w1 ⟨rfl, hr1, ha1⟩
        go_wp2_with fail
        refine (HH.out _).mono ?_
        rintro e w2 ⟨rfl, rfl⟩
        go_wp2_with fail
        refine (HN.out _).mono ?_
        rintro e w2 ⟨rfl, rfl⟩
        go_wp2_with fail
        go_ret
        exact ⟨rfl, hr1, ha1⟩
      | true =>
        have hne : n = 9221120237041090560 := Decidable.byContradiction fun h => hc ⟨rfl, h⟩
        have hne' : ((n : Int) == 9221120237041090560) = true := by rw [beq_iff_eq]; omega
        have hne2 : ((n : Int) != 9221120237041090560) = false := by rw [bne_eq_false_iff_eq]; omega
        clear hc hne
        go_enter Try.func40, Try.ntmps40
        go_wp2_with fail
        refine HT.out.mono ?_
        rintro e w1 ⟨rfl, hr1, ha1⟩
        go_wp2_with fail
        refine (HH.out _).mono ?_
        rintro e w2 ⟨rfl, rfl⟩
        go_wp2_with fail
        refine (HN.out _).mono ?_
        rintro e w2 ⟨rfl, rfl⟩
        go_wp2_with fail
        refine (HH.out _).mono ?_
        rintro e w2 ⟨rfl, rfl⟩
        go_wp2_with fail
        go_ret
        exact ⟨rfl, hr1, ha1⟩
end Go.Proofs.Ytikfdfagnalmbaa.My
