/- Reader.Small, Reader.Text where the bytes are there. -/
import Derived.Test.YtikfdfagnalmbaaRdU
import Derived.Test.YtikfdfagnalmbaaMyArr
import Derived.Laws.IdiomStrings
namespace Go.Proofs.Ytikfdfagnalmbaa.My
open Go.RowKit Go.Proofs.YtikfdfagnalmbaaW.PrintWords Go.Proofs.YtikfdfagnalmbaaW.PrintLast Go.Proofs.Ytikfdfagnalmbaa
set_option linter.unusedSimpArgs false
set_option linter.unusedVariables false
set_option maxRecDepth 100000
set_option maxHeartbeats 4000000
theorem RText_ok {w : World} {g : Nat} {s : ByteArray} {p : Nat} (h : RS w g s p 0) (hp : p ≤ s.size) (hs : s.size ≤ 140737488351232) (most n k : Nat) (hm : most < 9223372036854775808) (hU : uRead s p most = (0, n, k)) (hk : p + k + n ≤ s.size) : Calls Try.prog 41 #[.pointer (some ⟨g, 0, none⟩), .int .i64 most] w fun r w' => r = .returned (.string (s.extract (p + k) (p + k + n))) ∧ RS w' g s (p + k + n) 0 ∧ Alone w w' g := by
  obtain ⟨h0, h1, h2, f1, f2⟩ := h.cells
  have HR := Aside0.mk h
  clear h
  have hw : IntKind.u64.wrap (most : Int) = most := by rw [IntKind.wrap_u64]; omega
  go_enter Try.func41, Try.ntmps41
  go_wp2_with fail
  refine (RUint_calls HR.out hp hs most (by omega)).mono ?_
  rintro e w1 ⟨rfl, hr1, ha1⟩
  rw [hU] at hr1 ⊢
  dsimp only at hr1 ⊢
  have hw2 : IntKind.i64.wrap (n : Int) = n := by rw [i64_w]; unfold wrap64; omega
  go_wp2_with fail
  refine (take_ok hr1 n hk hs).mono ?_
  rintro e w2 ⟨rfl, hr2, ha2⟩
  go_wp2_with fail
  go_ret
  exact ⟨rfl, hr2, ha1.trans ha2⟩
/-- The block g alone has changed of what was there. -/
def Alone1 (w w' : World) (g : Nat) : Prop := Below 0 w w' ∧ ∀ k, k ≠ g → k < w.heap.size → w'.heap[k]? = w.heap[k]?
theorem Alone.one {w w' : World} {g : Nat} (h : Alone w w' g) : Alone1 w w' g := ⟨h.1, fun k hk _ => h.2.2 k hk⟩
theorem Alone1.trans {a b c : World} {g : Nat} (h : Alone1 a b g) (k : Alone1 b c g) : Alone1 a c g := ⟨h.1.trans k.1, fun i hi hl => (k.2 i hi (Nat.lt_of_lt_of_le hl h.1.size)).trans (h.2 i hi hl)⟩
theorem Alone1_alloc (w : World) (o : Obj) (g : Nat) : Alone1 w (w.alloc o) g := ⟨(Below.refl 0 w).alloc (Nat.zero_le _) o, fun k _ hl => by show (w.heap.push o)[k]? = _; rw [Array.getElem?_push_lt hl, Array.getElem?_eq_getElem hl]⟩
theorem Alone1_below {w w' : World} {g : Nat} (h : Below w.heap.size w w') : Alone1 w w' g := ⟨h.mono (Nat.zero_le _), fun k _ hl => h.block k hl⟩
theorem Alone1_drewN (w : World) (m g : Nat) : Alone1 w (w.drewN m) g := ⟨⟨rfl, rfl, rfl, Nat.le_refl _, fun _ _ => rfl⟩, fun k _ _ => rfl⟩
theorem below_alone1 {base : Nat} {w0 w w' : World} {g : Nat} (h : Below base w0 w) (k : Alone1 w w' g) (hg : base ≤ g) (hb : base ≤ w.heap.size) : Below base w0 w' :=
  ⟨k.1.os.trans h.os, k.1.tape.trans h.tape, k.1.output.trans h.output, Nat.le_trans h.size k.1.size, fun i hi => (k.2 i (by omega) (by omega)).trans (h.block i hi)⟩
/-- A number of 16 bits out of two bytes. -/
def small16 (t : ByteArray) : Int := Go.bits .or .i16 (IntKind.i16.wrap (IntKind.i16.wrap (((natsOf t).getD 0 0 : Nat) : Int) * 256)) (IntKind.i16.wrap (((natsOf t).getD 1 0 : Nat) : Int))
theorem W_push (w : World) (C : Array Value) (t : TypeId) (A : Nat × Nat) : (w.alloc (.cells C t A)).heap[w.heap.size]? = some (.cells C t A) := by show (w.heap.push _)[w.heap.size]? = _; rw [Array.getElem?_push_size]
theorem RSmall_ok {w : World} {g : Nat} {s : ByteArray} {p : Nat} (h : RS w g s p 0) (hp : p + 2 ≤ s.size) (hs : s.size ≤ 140737488351232) : Calls Try.prog 35 #[.pointer (some ⟨g, 0, none⟩)] w fun r w' => r = .returned (.int .i16 (small16 (s.extract p (p + 2)))) ∧ RS w' g s (p + 2) 0 ∧ Alone1 w w' g := by
  obtain ⟨t, ht⟩ : ∃ t, s.extract p (p + 2) = t := ⟨_, rfl⟩
  have hx : t.size = 2 := by rw [← ht, ByteArray.size_extract]; omega
  go_enter Try.func35, Try.ntmps35
  go_wp2_with fail
  refine (take_ok h 2 hp hs).mono ?_
  rintro e w1 ⟨rfl, h1, h2⟩
  rw [ht]
  have HT := Aside0.mk ht
  clear ht
  have hcv := fun w => run_bytes_of_string (P := Try.prog) w 9 54 5 t Try.underlying9 Try.underlying54 Try.underlying5
  have hat : ∀ (W : World) (a : Option Addr) (c : Nat), (Instr.arrayAt 105 (.slice a 2 c)).run Try.prog W = .ok (.pointer a) W := fun W a c => run_arrayAt W 105 5 2 Try.underlying105 a 2 c (by omega)
  obtain ⟨a, b, rfl⟩ : ∃ a b : UInt8, t = ⟨#[a, b]⟩ := by
    obtain ⟨⟨l⟩⟩ := t
    match l, hx with
    | [a, b], _ => exact ⟨a, b, rfl⟩
  have hrow : ∀ cap, (bytesRow ⟨#[a, b]⟩ cap)[0]? = some (.int .u8 a.toNat) ∧ (bytesRow ⟨#[a, b]⟩ cap)[1]? = some (.int .u8 b.toNat) := fun cap => by
    unfold bytesRow
    constructor <;> (rw [Array.getElem?_append_left (by simp)]; simp)
  have hc0 : ∀ cap A, (w1.alloc (.cells (bytesRow ⟨#[a, b]⟩ cap) 5 A)).cell? ⟨w1.heap.size, 0, none⟩ = some (.int .u8 a.toNat) := fun cap A => (cell_of_row _ _ 0 _ _ _ (W_push w1 _ _ _)).trans (hrow cap).1
  have hc1 : ∀ cap A, (w1.alloc (.cells (bytesRow ⟨#[a, b]⟩ cap) 5 A)).cell? ⟨w1.heap.size, 1, none⟩ = some (.int .u8 b.toNat) := fun cap A => (cell_of_row _ _ 1 _ _ _ (W_push w1 _ _ _)).trans (hrow cap).2
  have hsm : small16 ⟨#[a, b]⟩ = Go.bits .or .i16 (IntKind.i16.wrap (IntKind.i16.wrap (a.toNat : Int) * 256)) (IntKind.i16.wrap (b.toNat : Int)) := by simp [small16, natsOf]
  have HM := Aside0.mk hsm
  clear hsm
  go_wp2_with fail
  go_ret
  rw [HT.out, HM.out]
  exact ⟨rfl, blk_drew (blk_alloc (blk_alloc h1 _) _), h2.one.trans ((Alone1_alloc w1 _ g).trans ((Alone1_alloc _ _ g).trans (Alone1_drewN _ 1 g)))⟩
end Go.Proofs.Ytikfdfagnalmbaa.My
