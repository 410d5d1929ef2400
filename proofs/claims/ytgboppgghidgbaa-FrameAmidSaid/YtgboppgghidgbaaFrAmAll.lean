/- One byte turned: it is no frame. What was told is read; ranges. A Splitter in memory: New, Feed, Left, pass; strings.IndexByte. Splitter.Next where no frame's mark is among what waits, and where a frame stands behind bytes that are no mark. Splitter.Next where a frame stands behind bytes that are no mark. A slice that came in, opened: its elements as a list; what they weigh. Bytes of which none is the mark's first; a list of items that came in. FrameAmid. -/
import Derived.Test.YtgboppgghidgbaaFrPlain2
import Derived.Laws.Externs
import Derived.Test.YtgboppgghidgbaaRows
import Derived.Test.YtgboppgghidgbaaWWords
import Derived.Deep.Slices
import Derived.Deep.Fields
import Derived.ChangeSame
import Derived.SizedLaws
import Derived.Lib.SmallJoins
import Derived.Test.YtgboppgghidgbaaFrGlue3
import Derived.Test.YtgboppgghidgbaaFrRef
import Derived.Test.YtgboppgghidgbaaPHx1
namespace Go.Proofs.Ytgboppgghidgbaa.My
open Go.RowKit Go.Proofs.YtgboppgghidgbaaW.PrintWords Go.Proofs.Ytgboppgghidgbaa
set_option linter.unusedSimpArgs false
set_option linter.unusedVariables false
theorem decT_bad (s : ByteArray) (h : ¬ DecOk s) : decT s = (0, 0, 0, 0, 0, 0, 0, false, ⟨#[]⟩, 210) := by
  unfold decT; rw [if_neg h]
theorem fN_prefix (s m : ByteArray) (p n : Nat) (h : p + n ≤ s.size) : fN (s ++ m) p n = fN s p n := by
  unfold fN
  rw [natsOf_append, List.drop_append_of_le_length (by rw [natsOf_len]; omega), List.take_append_of_le_length (by rw [List.length_drop, natsOf_len]; omega)]
theorem fN_front (s : ByteArray) (q p n : Nat) (h : p + n ≤ q) : fN (s.extract 0 q) p n = fN s p n := by
  unfold fN
  rw [natsOf_extract, List.drop_zero, Nat.sub_zero, List.drop_take, List.take_take]
  congr 2
  omega
/-- More behind a frame is no frame. -/
theorem more_bad (s m : ByteArray) (h : HeadOk s) (hm : 0 < m.size) : ¬ DecOk (s ++ m) := by
  intro hd
  have h1 := hd.1.2.2.1
  have h2 := h.2.2.1
  have h3 := h.1.1
  rw [fN_prefix s m 2 2 (by omega), ByteArray.size_append] at h1
  omega
/-- A frame cut off is no frame. -/
theorem cut_bad (s : ByteArray) (h : HeadOk s) : ¬ DecOk (s.extract 0 (s.size - 1)) := by
  intro hd
  have h1 := hd.1.2.2.1
  have h2 := h.2.2.1
  have h3 := h.1.1
  rw [fN_front s _ 2 2 (by omega), ByteArray.size_extract] at h1
  omega
/-- One byte turned is no frame. -/
theorem turned_bad (s z : ByteArray) (a b c d e t g : Nat) (h : Bool) (bd : ByteArray) (hs : natsOf s = encN a b c d e t g h bd) (k v : Nat) (hk : k < s.size) (hz : natsOf z = (natsOf s).set k v) (hv : ∀ y, (natsOf s)[k]? = some y → v ≠ y) : ¬ DecOk z := by
  intro hd
  have hr := refields z hd.1 hd.2.1 hd.2.2.1
  rw [hz, hs] at hr
  have hkl : k < (encN a b c d e t g h bd).length := by rw [← hs, natsOf_len]; exact hk
  have hp : ∀ x ∈ preN a b c d e t g h bd, x < 256 := by
    intro x hx
    have h1 := natsOf_lt s
    rw [hs] at h1
    exact h1 x (List.mem_append_left _ hx)
  have hq : ∀ x ∈ preN (fN z 8 1) (fN z 9 1) (fN z 10 1) (fN z 11 2) (fN z 13 4) (fN z 17 8) (fN z 25 4) (fN z 29 1 == 1) (z.extract 30 (z.size - 4)), x < 256 := by
    intro x hx
    have h1 := natsOf_lt z
    rw [hz, hs, hr] at h1
    exact h1 x (List.mem_append_left _ hx)
  have := turned_tf _ _ k v hp hq hkl hr
  rw [hs] at hv
  exact hv _ (List.getElem?_eq_getElem hkl) this.symm
end Go.Proofs.Ytgboppgghidgbaa.My
namespace Go.Proofs.Ytgboppgghidgbaa.My
open Go.RowKit Go.Proofs.YtgboppgghidgbaaW.PrintWords Go.Proofs.Ytgboppgghidgbaa
set_option linter.unusedSimpArgs false
set_option linter.unusedVariables false
set_option maxRecDepth 100000
theorem wfr8 {n : Int} (h : (Lit.int .u8 n).wf = true) : 0 ≤ n ∧ n < 256 := by
  simp only [Lit.wf, IntKind.min, IntKind.max, Bool.and_eq_true, decide_eq_true_eq] at h; simp [IntKind.signed, IntKind.bits] at h; omega
theorem wfr16 {n : Int} (h : (Lit.int .u16 n).wf = true) : 0 ≤ n ∧ n < 65536 := by
  simp only [Lit.wf, IntKind.min, IntKind.max, Bool.and_eq_true, decide_eq_true_eq] at h; simp [IntKind.signed, IntKind.bits] at h; omega
theorem wfr32 {n : Int} (h : (Lit.int .u32 n).wf = true) : 0 ≤ n ∧ n < 4294967296 := by
  simp only [Lit.wf, IntKind.min, IntKind.max, Bool.and_eq_true, decide_eq_true_eq] at h; simp [IntKind.signed, IntKind.bits] at h; omega
theorem wfr64 {n : Int} (h : (Lit.int .u64 n).wf = true) : 0 ≤ n ∧ n < 18446744073709551616 := by
  simp only [Lit.wf, IntKind.min, IntKind.max, Bool.and_eq_true, decide_eq_true_eq] at h; simp [IntKind.signed, IntKind.bits] at h; omega
theorem wfr {a b c d e t g : Int} (wa : (Lit.int .u8 a).wf = true) (wb : (Lit.int .u8 b).wf = true) (wc : (Lit.int .u8 c).wf = true) (wd : (Lit.int .u16 d).wf = true) (we : (Lit.int .u32 e).wf = true) (wt : (Lit.int .u64 t).wf = true) (wg : (Lit.int .u32 g).wf = true) : Fr a b c d e t g :=
  ⟨wfr8 wa, wfr8 wb, wfr8 wc, wfr16 wd, wfr32 we, wfr64 wt, wfr32 wg⟩
end Go.Proofs.Ytgboppgghidgbaa.My
namespace Go.Proofs.Ytgboppgghidgbaa.My
open Go.RowKit Go.Proofs.YtgboppgghidgbaaW.PrintWords Go.Proofs.YtgboppgghidgbaaW.PrintLast Go.Proofs.YtgboppgghidgbaaW.PrintMore Go.Proofs.Ytgboppgghidgbaa
set_option linter.unusedSimpArgs false
set_option linter.unusedVariables false
set_option maxRecDepth 100000
set_option maxHeartbeats 1600000
/-- The Splitter at block g: what waits, how many bytes were passed over. -/
def SP (w : World) (g : Nat) (s : ByteArray) (p : Nat) : Prop := w.heap[g]? = some (.cells #[.string s, .int .i64 p] 92 (0, 0))
theorem SP.cells {w : World} {g : Nat} {s : ByteArray} {p : Nat} (h : SP w g s p) : w.cell? ⟨g, 0, none⟩ = some (.string s) ∧ w.cell? ⟨g, 1, none⟩ = some (.int .i64 p) ∧ w.frozen? ⟨g, 0, none⟩ = false ∧ w.frozen? ⟨g, 1, none⟩ = false :=
  ⟨(blk_cell h 0).trans rfl, (blk_cell h 1).trans rfl, blk_frozen h 0, blk_frozen h 1⟩
theorem SP.lt {w : World} {g : Nat} {s : ByteArray} {p : Nat} (h : SP w g s p) : g < w.heap.size := blk_lt h
theorem SP.below {w w' : World} {g : Nat} {s : ByteArray} {p : Nat} (h : SP w g s p) (hb : Below w.heap.size w w') : SP w' g s p := (hb.block g h.lt).trans h
theorem spNew (w : World) : Calls Try.prog 17 #[] w fun e w' => e = .returned (.pointer (some ⟨w.heap.size, 0, none⟩)) ∧ SP w' w.heap.size ⟨#[]⟩ 0 ∧ Below w.heap.size w w' := by
  go_enter Try.func17, Try.ntmps17
  go_wp2_with fail
  go_ret
  exact ⟨rfl, W_push w _ _ _, (Below.refl _ _).alloc (Nat.le_refl _) _⟩
theorem spLeft {w : World} {g : Nat} {s : ByteArray} {p : Nat} (h : SP w g s p) : Calls Try.prog 25 #[.pointer (some ⟨g, 0, none⟩)] w fun r w' => r = .returned (.int .i64 s.size) ∧ w = w' := by
  obtain ⟨h0, h1, _, _⟩ := h.cells
  go_enter Try.func25, Try.ntmps25
  go_wp2_with fail
  go_ret
  exact ⟨rfl, rfl⟩
theorem spLeft_nil (w : World) : Calls Try.prog 25 #[.pointer none] w fun r w' => r = .returned (.int .i64 0) ∧ w = w' := by
  go_enter Try.func25, Try.ntmps25
  go_wp2_with fail
  go_ret
  exact ⟨rfl, rfl⟩
theorem spFeed_nil (b : ByteArray) (w : World) : Calls Try.prog 21 #[.pointer none, .string b] w fun r w' => r = .returned (.int .i64 2) ∧ w = w' := by
  go_enter Try.func21, Try.ntmps21
  go_wp2_with fail
  go_ret
  exact ⟨rfl, rfl⟩
theorem spFeed_full {w : World} {g : Nat} {s : ByteArray} {p : Nat} (h : SP w g s p) (b : ByteArray) (hs : s.size ≤ 65536) (hb : b.size ≤ 140737488351232) (hf : 65536 < s.size + b.size) : Calls Try.prog 21 #[.pointer (some ⟨g, 0, none⟩), .string b] w fun r w' => r = .returned (.int .i64 3) ∧ w = w' := by
  obtain ⟨h0, h1, _, _⟩ := h.cells
  go_enter Try.func21, Try.ntmps21
  go_wp2_with fail
  go_ret
  exact ⟨rfl, rfl⟩
theorem spFeed {w : World} {g : Nat} {s : ByteArray} {p : Nat} (h : SP w g s p) (b : ByteArray) (hf : s.size + b.size ≤ 65536) : Calls Try.prog 21 #[.pointer (some ⟨g, 0, none⟩), .string b] w fun r w' => r = .returned (.int .i64 0) ∧ SP w' g (s ++ b) p ∧ Alone w w' g := by
  obtain ⟨h0, h1, f0, _⟩ := h.cells
  have HR := Aside0.mk h
  clear h
  go_enter Try.func21, Try.ntmps21
  go_wp2_with fail
  go_ret
  exact ⟨rfl, blk_set HR.out 0 (.string (s ++ b)), Alone_set w 0 g 0 _⟩
theorem spPass {w : World} {g : Nat} {s : ByteArray} {p : Nat} (h : SP w g s p) (n : Nat) (hn : n ≤ s.size) (hs : s.size ≤ 65536) (hp : p ≤ 140737488351232) : Calls Try.prog 52 #[.pointer (some ⟨g, 0, none⟩), .int .i64 n] w fun r w' => r = .returned (.tuple #[]) ∧ SP w' g (s.extract n s.size) (p + n) ∧ Alone w w' g := by
  obtain ⟨h0, h1, f0, f1⟩ := h.cells
  have HR := Aside0.mk h
  clear h
  go_enter Try.func52, Try.ntmps52
  go_wp2_with fail
  go_end0
  exact ⟨rfl, blk_set (blk_set HR.out 0 (.string (s.extract n s.size))) 1 (.int .i64 ((p : Int) + n)), (Alone_set w 0 g 0 _).trans (Alone_set _ 0 g 1 _)⟩
theorem spIdx0 (s : ByteArray) (c : Int) (w : World) : Calls Try.prog 65 #[.string s, .int .u8 c] w fun r w' => r = .returned (.int .i64 (firstIdx s c.toNat.toUInt8)) ∧ w = w' := by
  go_enter Try.func65, Try.ntmps65
  go_wp2_with fail
  rw [run_callFunc_extern Try.func69 (by kernel_rfl) (by kernel_rfl) (by kernel_rfl) (e := Extern.BytealgIndexByte.indexByte) (by kernel_rfl), run_indexByte_string]
  simp only [Result.andThen]
  rw [Oper.upon_value]
  go_wp2_with fail
  go_ret
  exact ⟨rfl, rfl⟩
theorem spIdx (s : ByteArray) (c : Int) (w : World) : Calls Try.prog 51 #[.string s, .int .u8 c] w fun r w' => r = .returned (.int .i64 (firstIdx s c.toNat.toUInt8)) ∧ w = w' := by
  go_enter Try.func51, Try.ntmps51
  go_wp2_with fail
  refine (spIdx0 s c w).mono ?_
  rintro e_ w1 ⟨rfl, rfl⟩
  go_wp2_with fail
  go_ret
  exact ⟨rfl, rfl⟩
theorem firstIdx_none (s : ByteArray) (c : UInt8) (h : ∀ i, i < s.size → s[i]! ≠ c) : firstIdx s c = -1 := by
  unfold firstIdx
  rw [List.find?_eq_none.2]
  intro i hi
  simpa using h i (List.mem_range.1 hi)
theorem firstIdx_at (s : ByteArray) (c : UInt8) (k : Nat) (hk : k < s.size) (hc : s[k]! = c) (h : ∀ i, i < k → s[i]! ≠ c) : firstIdx s c = k := by
  unfold firstIdx
  have e : (List.range s.size).find? (fun i => s[i]! == c) = some k := by
    rw [List.find?_eq_some_iff_append]
    refine ⟨by simpa using hc, List.range k, (List.range (s.size - k - 1)).map (· + (k + 1)), ?_, ?_⟩
    · conv => lhs; rw [show s.size = k + (1 + (s.size - k - 1)) by omega]
      rw [List.range_add, List.range_add]
      simp [Nat.add_assoc, Nat.add_comm, Nat.add_left_comm]
    · intro a ha
      simpa using h a (List.mem_range.1 ha)
  rw [e]
end Go.Proofs.Ytgboppgghidgbaa.My
namespace Go.Proofs.Ytgboppgghidgbaa.My
open Go.RowKit Go.Proofs.YtgboppgghidgbaaW.PrintWords Go.Proofs.YtgboppgghidgbaaW.PrintLast Go.Proofs.YtgboppgghidgbaaW.PrintMore Go.Proofs.Ytgboppgghidgbaa
set_option linter.unusedSimpArgs false
set_option linter.unusedVariables false
set_option maxRecDepth 100000
set_option maxHeartbeats 3200000
/-- Of what stood, the block g alone has changed. -/
def Amid (w w' : World) (g : Nat) : Prop := Below 0 w w' ∧ ∀ k, k < w.heap.size → k ≠ g → w'.heap[k]? = w.heap[k]?
def zeroF : Value := .agg #[.int .u8 0, .int .u8 0, .int .u8 0, .int .u16 0, .int .u32 0, .int .u64 0, .int .u32 0, .bool false, .string ⟨#[]⟩]
theorem Amid.refl (w : World) (g : Nat) : Amid w w g := ⟨Below.refl _ _, fun _ _ _ => rfl⟩
theorem Amid.size {w W : World} {g : Nat} (h : Amid w W g) : w.heap.size ≤ W.heap.size := h.1.size
theorem Amid.below {w W W' : World} {g : Nat} (h : Amid w W g) (k : Below W.heap.size W W') : Amid w W' g :=
  ⟨h.1.trans (k.mono (Nat.zero_le _)), fun i hi hg => (k.block i (Nat.lt_of_lt_of_le hi h.1.size)).trans (h.2 i hi hg)⟩
theorem Amid.alone {w W W' : World} {g : Nat} (h : Amid w W g) (k : Alone W W' g) : Amid w W' g :=
  ⟨h.1.trans k.1, fun i hi hg => (k.2.2 i hg).trans (h.2 i hi hg)⟩
theorem Amid.set {w W : World} {g : Nat} (h : Amid w W g) (k j : Nat) (ha : w.heap.size ≤ k) (u : Value) : Amid w (W.setCell ⟨k, j, none⟩ u) g :=
  ⟨h.1.trans (Alone_set W 0 k j u).1, fun i hi hg => ((Alone_set W 0 k j u).2.2 i (by omega)).trans (h.2 i hi hg)⟩
theorem Amid.drewN {w W : World} {g : Nat} (h : Amid w W g) (m : Nat) : Amid w (W.drewN m) g :=
  ⟨h.1.trans ⟨rfl, rfl, rfl, Nat.le_refl _, fun _ _ => rfl⟩, h.2⟩
theorem SP.far {w : World} {g : Nat} {s : ByteArray} {p : Nat} (h : SP w g s p) {a : Addr} (ha : g ≠ a.block) (u : Value) : SP (w.setCell a u) g s p := blk_far h ha u
theorem zeroNew (w : World) : (w.alloc (.cells #[.int .u8 0, .int .u8 0, .int .u8 0, .int .u16 0, .int .u32 0, .int .u64 0, .int .u32 0, .bool false, .string ⟨#[]⟩] 28)).heap[w.heap.size]? = some (.cells #[.int .u8 0, .int .u8 0, .int .u8 0, .int .u16 0, .int .u32 0, .int .u64 0, .int .u32 0, .bool false, .string ⟨#[]⟩] 28 (0, 0)) := W_push w _ _ _
theorem spNext_nil (w : World) : Calls Try.prog 27 #[.pointer none] w fun r w' => r = .returned (.tuple #[zeroF, .int .i64 0, .bool false]) ∧ Below w.heap.size w w' := by
  go_enter Try.func27, Try.ntmps27
  go_wp2_with fail
  go_step3
  have hR := zeroNew w
  have hB := (Below.refl w.heap.size w).alloc (Nat.le_refl _) (.cells #[.int .u8 0, .int .u8 0, .int .u8 0, .int .u16 0, .int .u32 0, .int .u64 0, .int .u32 0, .bool false, .string ⟨#[]⟩] 28)
  generalize w.alloc (.cells #[.int .u8 0, .int .u8 0, .int .u8 0, .int .u16 0, .int .u32 0, .int .u64 0, .int .u32 0, .bool false, .string ⟨#[]⟩] 28) = W at *
  have qk0 : W.cell? ⟨w.heap.size, 0, none⟩ = some (.int .u8 0) := (blk_cell hR 0).trans rfl
  have qz0 : W.frozen? ⟨w.heap.size, 0, none⟩ = false := blk_frozen hR 0
  have qk1 : W.cell? ⟨w.heap.size, 1, none⟩ = some (.int .u8 0) := (blk_cell hR 1).trans rfl
  have qz1 : W.frozen? ⟨w.heap.size, 1, none⟩ = false := blk_frozen hR 1
  have qk2 : W.cell? ⟨w.heap.size, 2, none⟩ = some (.int .u8 0) := (blk_cell hR 2).trans rfl
  have qz2 : W.frozen? ⟨w.heap.size, 2, none⟩ = false := blk_frozen hR 2
  have qk3 : W.cell? ⟨w.heap.size, 3, none⟩ = some (.int .u16 0) := (blk_cell hR 3).trans rfl
  have qz3 : W.frozen? ⟨w.heap.size, 3, none⟩ = false := blk_frozen hR 3
  have qk4 : W.cell? ⟨w.heap.size, 4, none⟩ = some (.int .u32 0) := (blk_cell hR 4).trans rfl
  have qz4 : W.frozen? ⟨w.heap.size, 4, none⟩ = false := blk_frozen hR 4
  have qk5 : W.cell? ⟨w.heap.size, 5, none⟩ = some (.int .u64 0) := (blk_cell hR 5).trans rfl
  have qz5 : W.frozen? ⟨w.heap.size, 5, none⟩ = false := blk_frozen hR 5
  have qk6 : W.cell? ⟨w.heap.size, 6, none⟩ = some (.int .u32 0) := (blk_cell hR 6).trans rfl
  have qz6 : W.frozen? ⟨w.heap.size, 6, none⟩ = false := blk_frozen hR 6
  have qk7 : W.cell? ⟨w.heap.size, 7, none⟩ = some (.bool false) := (blk_cell hR 7).trans rfl
  have qz7 : W.frozen? ⟨w.heap.size, 7, none⟩ = false := blk_frozen hR 7
  have qk8 : W.cell? ⟨w.heap.size, 8, none⟩ = some (.string ⟨#[]⟩) := (blk_cell hR 8).trans rfl
  have qz8 : W.frozen? ⟨w.heap.size, 8, none⟩ = false := blk_frozen hR 8
  clear hR
  go_wp2_with fail
  rw [Exit.noGoto_ret]
  all_goals refine bodyPost_ret (v := .tuple #[zeroF, .int .i64 0, .bool false]) (by simp [results, zeroF, Try.results27, go_sem, qk0, qk1, qk2, qk3, qk4, qk5, qk6, qk7, qk8]) rfl ⟨rfl, ?_⟩
  all_goals repeat (first | (with_reducible exact hB) | refine below_set ?_ (Nat.le_refl _))
theorem spNext_none {w : World} {g : Nat} {s : ByteArray} {p : Nat} (h : SP w g s p) (hs : s.size ≤ 65536) (hp : p ≤ 140737488351232) (hj : ∀ i, i < s.size → s[i]! ≠ 157) : Calls Try.prog 27 #[.pointer (some ⟨g, 0, none⟩)] w fun r w' => r = .returned (.tuple #[zeroF, .int .i64 0, .bool false]) ∧ SP w' g ⟨#[]⟩ (p + s.size) ∧ Amid w w' g := by
  have HQ : Aside0 (∀ w : World, Calls Try.prog 51 #[.string s, .int .u8 157] w fun r w' => r = .returned (.int .i64 (-1)) ∧ w' = w) := ⟨fun w => (spIdx s 157 w).mono fun _ _ h => ⟨by rw [h.1, show ((157 : Int).toNat.toUInt8) = 157 from rfl, firstIdx_none s 157 hj], h.2.symm⟩⟩
  have hgl := h.lt
  clear hj
  go_enter Try.func27, Try.ntmps27
  go_wp2_with fail
  go_step3
  have hR := zeroNew w
  have hB := (Below.refl w.heap.size w).alloc (Nat.le_refl _) (.cells #[.int .u8 0, .int .u8 0, .int .u8 0, .int .u16 0, .int .u32 0, .int .u64 0, .int .u32 0, .bool false, .string ⟨#[]⟩] 28)
  have hA := (Amid.refl w g).below hB
  have hS : SP _ g s p := h.below hB
  generalize w.alloc (.cells #[.int .u8 0, .int .u8 0, .int .u8 0, .int .u16 0, .int .u32 0, .int .u64 0, .int .u32 0, .bool false, .string ⟨#[]⟩] 28) = W at *
  have HR := Aside0.mk hS
  have HA := Aside0.mk hA
  obtain ⟨h0, h1, f0, f1⟩ := hS.cells
  clear h hB hA hS
  go_wp2_with fail
  go_step3
  go_wp2_with fail
  go_quiet (first | (go_at_call 51; refine Calls.quiet_of_same (HQ.out _)))
  go_wp2_with fail
  have HR' : SP (W.drewN nq) g s p := HR.out
  have HA' := HA.out.drewN nq
  have hR' : (W.drewN nq).heap[w.heap.size]? = _ := hR
  clear h0 h1 f0 f1 HR HA hR
  generalize W.drewN nq = W at *
  refine (spPass HR' s.size (Nat.le_refl _) hs hp).mono ?_
  rintro e_ w1 ⟨rfl, hS1, hA1⟩
  have hR1 : w1.heap[w.heap.size]? = _ := (hA1.2.2 _ (by omega)).trans hR'
  have HA1 := Aside0.mk (HA'.alone hA1)
  have HR1 := Aside0.mk hS1
  clear hA1 hS1 HA' HR'
  have qk0 : w1.cell? ⟨w.heap.size, 0, none⟩ = some (.int .u8 0) := (blk_cell hR1 0).trans rfl
  have qz0 : w1.frozen? ⟨w.heap.size, 0, none⟩ = false := blk_frozen hR1 0
  have qk1 : w1.cell? ⟨w.heap.size, 1, none⟩ = some (.int .u8 0) := (blk_cell hR1 1).trans rfl
  have qz1 : w1.frozen? ⟨w.heap.size, 1, none⟩ = false := blk_frozen hR1 1
  have qk2 : w1.cell? ⟨w.heap.size, 2, none⟩ = some (.int .u8 0) := (blk_cell hR1 2).trans rfl
  have qz2 : w1.frozen? ⟨w.heap.size, 2, none⟩ = false := blk_frozen hR1 2
  have qk3 : w1.cell? ⟨w.heap.size, 3, none⟩ = some (.int .u16 0) := (blk_cell hR1 3).trans rfl
  have qz3 : w1.frozen? ⟨w.heap.size, 3, none⟩ = false := blk_frozen hR1 3
  have qk4 : w1.cell? ⟨w.heap.size, 4, none⟩ = some (.int .u32 0) := (blk_cell hR1 4).trans rfl
  have qz4 : w1.frozen? ⟨w.heap.size, 4, none⟩ = false := blk_frozen hR1 4
  have qk5 : w1.cell? ⟨w.heap.size, 5, none⟩ = some (.int .u64 0) := (blk_cell hR1 5).trans rfl
  have qz5 : w1.frozen? ⟨w.heap.size, 5, none⟩ = false := blk_frozen hR1 5
  have qk6 : w1.cell? ⟨w.heap.size, 6, none⟩ = some (.int .u32 0) := (blk_cell hR1 6).trans rfl
  have qz6 : w1.frozen? ⟨w.heap.size, 6, none⟩ = false := blk_frozen hR1 6
  have qk7 : w1.cell? ⟨w.heap.size, 7, none⟩ = some (.bool false) := (blk_cell hR1 7).trans rfl
  have qz7 : w1.frozen? ⟨w.heap.size, 7, none⟩ = false := blk_frozen hR1 7
  have qk8 : w1.cell? ⟨w.heap.size, 8, none⟩ = some (.string ⟨#[]⟩) := (blk_cell hR1 8).trans rfl
  have qz8 : w1.frozen? ⟨w.heap.size, 8, none⟩ = false := blk_frozen hR1 8
  clear hR' hR1
  go_wp2_with fail
  rw [Exit.noGoto_ret]
  refine bodyPost_ret (v := .tuple #[zeroF, .int .i64 0, .bool false]) (by simp [results, zeroF, Try.results27, go_sem, qk0, qk1, qk2, qk3, qk4, qk5, qk6, qk7, qk8]) rfl ⟨rfl, ?_, ?_⟩
  · rw [show (⟨#[]⟩ : ByteArray) = s.extract s.size s.size by simp [ByteArray.ext_iff]]
    repeat (first | (with_reducible exact HR1.out) | refine SP.far ?_ (Nat.ne_of_lt hgl) _)
  · repeat (first | (with_reducible exact HA1.out) | refine Amid.set ?_ _ _ (Nat.le_refl _) _)
end Go.Proofs.Ytgboppgghidgbaa.My
namespace Go.Proofs.Ytgboppgghidgbaa.My
open Go.RowKit Go.Proofs.YtgboppgghidgbaaW.PrintWords Go.Proofs.YtgboppgghidgbaaW.PrintLast Go.Proofs.YtgboppgghidgbaaW.PrintMore Go.Proofs.Ytgboppgghidgbaa
set_option linter.unusedSimpArgs false
set_option linter.unusedVariables false
set_option maxRecDepth 100000
set_option maxHeartbeats 1600000
/-- Nine cells of a block, written one after another. -/
def put9 (W : World) (k : Nat) (v0 v1 v2 v3 v4 v5 v6 v7 v8 : Value) : World := (((((((((W.setCell ⟨k, 0, none⟩ v0).setCell ⟨k, 1, none⟩ v1).setCell ⟨k, 2, none⟩ v2).setCell ⟨k, 3, none⟩ v3).setCell ⟨k, 4, none⟩ v4).setCell ⟨k, 5, none⟩ v5).setCell ⟨k, 6, none⟩ v6).setCell ⟨k, 7, none⟩ v7).setCell ⟨k, 8, none⟩ v8)
theorem put9_def (W : World) (k : Nat) (v0 v1 v2 v3 v4 v5 v6 v7 v8 : Value) : (((((((((W.setCell ⟨k, 0, none⟩ v0).setCell ⟨k, 1, none⟩ v1).setCell ⟨k, 2, none⟩ v2).setCell ⟨k, 3, none⟩ v3).setCell ⟨k, 4, none⟩ v4).setCell ⟨k, 5, none⟩ v5).setCell ⟨k, 6, none⟩ v6).setCell ⟨k, 7, none⟩ v7).setCell ⟨k, 8, none⟩ v8) = put9 W k v0 v1 v2 v3 v4 v5 v6 v7 v8 := rfl
theorem put9_row {W : World} {k : Nat} {t : TypeId} {c0 c1 c2 c3 c4 c5 c6 c7 c8 : Value} (h : W.heap[k]? = some (.cells #[c0, c1, c2, c3, c4, c5, c6, c7, c8] t (0, 0))) (v0 v1 v2 v3 v4 v5 v6 v7 v8 : Value) : (put9 W k v0 v1 v2 v3 v4 v5 v6 v7 v8).heap[k]? = some (.cells #[v0, v1, v2, v3, v4, v5, v6, v7, v8] t (0, 0)) := by
  unfold put9
  have h0 : (W.setCell ⟨k, 0, none⟩ v0).heap[k]? = some (.cells #[v0, c1, c2, c3, c4, c5, c6, c7, c8] t (0, 0)) := blk_set h 0 v0
  generalize W.setCell ⟨k, 0, none⟩ v0 = W0 at h0 ⊢
  have h1 : (W0.setCell ⟨k, 1, none⟩ v1).heap[k]? = some (.cells #[v0, v1, c2, c3, c4, c5, c6, c7, c8] t (0, 0)) := blk_set h0 1 v1
  generalize W0.setCell ⟨k, 1, none⟩ v1 = W1 at h1 ⊢
  have h2 : (W1.setCell ⟨k, 2, none⟩ v2).heap[k]? = some (.cells #[v0, v1, v2, c3, c4, c5, c6, c7, c8] t (0, 0)) := blk_set h1 2 v2
  generalize W1.setCell ⟨k, 2, none⟩ v2 = W2 at h2 ⊢
  have h3 : (W2.setCell ⟨k, 3, none⟩ v3).heap[k]? = some (.cells #[v0, v1, v2, v3, c4, c5, c6, c7, c8] t (0, 0)) := blk_set h2 3 v3
  generalize W2.setCell ⟨k, 3, none⟩ v3 = W3 at h3 ⊢
  have h4 : (W3.setCell ⟨k, 4, none⟩ v4).heap[k]? = some (.cells #[v0, v1, v2, v3, v4, c5, c6, c7, c8] t (0, 0)) := blk_set h3 4 v4
  generalize W3.setCell ⟨k, 4, none⟩ v4 = W4 at h4 ⊢
  have h5 : (W4.setCell ⟨k, 5, none⟩ v5).heap[k]? = some (.cells #[v0, v1, v2, v3, v4, v5, c6, c7, c8] t (0, 0)) := blk_set h4 5 v5
  generalize W4.setCell ⟨k, 5, none⟩ v5 = W5 at h5 ⊢
  have h6 : (W5.setCell ⟨k, 6, none⟩ v6).heap[k]? = some (.cells #[v0, v1, v2, v3, v4, v5, v6, c7, c8] t (0, 0)) := blk_set h5 6 v6
  generalize W5.setCell ⟨k, 6, none⟩ v6 = W6 at h6 ⊢
  have h7 : (W6.setCell ⟨k, 7, none⟩ v7).heap[k]? = some (.cells #[v0, v1, v2, v3, v4, v5, v6, v7, c8] t (0, 0)) := blk_set h6 7 v7
  generalize W6.setCell ⟨k, 7, none⟩ v7 = W7 at h7 ⊢
  have h8 : (W7.setCell ⟨k, 8, none⟩ v8).heap[k]? = some (.cells #[v0, v1, v2, v3, v4, v5, v6, v7, v8] t (0, 0)) := blk_set h7 8 v8
  generalize W7.setCell ⟨k, 8, none⟩ v8 = W8 at h8 ⊢
  exact h8
theorem put9_alone (W : World) (k : Nat) (v0 v1 v2 v3 v4 v5 v6 v7 v8 : Value) : Alone W (put9 W k v0 v1 v2 v3 v4 v5 v6 v7 v8) k := by
  unfold put9
  have a0 : Alone W (W.setCell ⟨k, 0, none⟩ v0) k := Alone_set W 0 k 0 v0
  generalize W.setCell ⟨k, 0, none⟩ v0 = W0 at a0 ⊢
  have a1 : Alone W (W0.setCell ⟨k, 1, none⟩ v1) k := a0.trans (Alone_set W0 0 k 1 v1)
  generalize W0.setCell ⟨k, 1, none⟩ v1 = W1 at a1 ⊢
  have a2 : Alone W (W1.setCell ⟨k, 2, none⟩ v2) k := a1.trans (Alone_set W1 0 k 2 v2)
  generalize W1.setCell ⟨k, 2, none⟩ v2 = W2 at a2 ⊢
  have a3 : Alone W (W2.setCell ⟨k, 3, none⟩ v3) k := a2.trans (Alone_set W2 0 k 3 v3)
  generalize W2.setCell ⟨k, 3, none⟩ v3 = W3 at a3 ⊢
  have a4 : Alone W (W3.setCell ⟨k, 4, none⟩ v4) k := a3.trans (Alone_set W3 0 k 4 v4)
  generalize W3.setCell ⟨k, 4, none⟩ v4 = W4 at a4 ⊢
  have a5 : Alone W (W4.setCell ⟨k, 5, none⟩ v5) k := a4.trans (Alone_set W4 0 k 5 v5)
  generalize W4.setCell ⟨k, 5, none⟩ v5 = W5 at a5 ⊢
  have a6 : Alone W (W5.setCell ⟨k, 6, none⟩ v6) k := a5.trans (Alone_set W5 0 k 6 v6)
  generalize W5.setCell ⟨k, 6, none⟩ v6 = W6 at a6 ⊢
  have a7 : Alone W (W6.setCell ⟨k, 7, none⟩ v7) k := a6.trans (Alone_set W6 0 k 7 v7)
  generalize W6.setCell ⟨k, 7, none⟩ v7 = W7 at a7 ⊢
  have a8 : Alone W (W7.setCell ⟨k, 8, none⟩ v8) k := a7.trans (Alone_set W7 0 k 8 v8)
  generalize W7.setCell ⟨k, 8, none⟩ v8 = W8 at a8 ⊢
  exact a8
theorem SP.alone {w w' : World} {g k : Nat} {s : ByteArray} {p : Nat} (h : SP w g s p) (ha : Alone w w' k) (hk : g ≠ k) : SP w' g s p := (ha.2.2 g hk).trans h
theorem Amid.other {w W W' : World} {g k : Nat} (h : Amid w W g) (ha : Alone W W' k) (hk : w.heap.size ≤ k) : Amid w W' g :=
  ⟨h.1.trans ha.1, fun i hi hg => (ha.2.2 i (by omega)).trans (h.2 i hi hg)⟩
theorem spNext_frame {w : World} {gs : Nat} {j z : ByteArray} {p : Nat} (h : SP w gs (j ++ z) p) (hs : (j ++ z).size ≤ 65536) (hp : p ≤ 140737488351232) (hj : ∀ i, i < j.size → j[i]! ≠ 157) (a b c d e t g : Int) (hh : Bool) (bd : ByteArray) (hD : frame_Decode.f z = some (a, b, c, d, e, t, g, hh, bd, 0)) : Calls Try.prog 27 #[.pointer (some ⟨gs, 0, none⟩)] w fun r w' => r = .returned (.tuple #[.agg #[.int .u8 a, .int .u8 b, .int .u8 c, .int .u16 d, .int .u32 e, .int .u64 t, .int .u32 g, .bool hh, .string bd], .int .i64 ((p + j.size : Nat) : Int), .bool true]) ∧ SP w' gs ⟨#[]⟩ 0 ∧ Amid w w' gs := by
  have hsz : (j ++ z).size = j.size + z.size := ByteArray.size_append
  have hok : DecOk z := by
    have h1 : z.size ≤ 562949953421312 := by omega
    by_cases hk : DecOk z
    · exact hk
    · rw [frame_Decode.f, if_pos h1, decT_bad z hk] at hD
      simp at hD
  obtain ⟨n0, ok0, hh0, hiff⟩ := head_ex z (by omega)
  obtain ⟨rfl, rfl, h34⟩ := hiff.2 hok.1
  have hz0 : z[0]! = 157 := by
    have hm := hok.1.2.1
    have h0 : (z.extract 0 2)[0]! = 157 := by rw [hm]; rfl
    rw [getElem!_pos z 0 (by omega)]
    rw [getElem!_pos _ 0 (by rw [ByteArray.size_extract]; omega), ByteArray.getElem_extract] at h0
    exact h0
  have hidx : firstIdx (j ++ z) 157 = j.size := by
    refine firstIdx_at _ _ j.size (by omega) ?_ ?_
    · rw [getElem!_pos (j ++ z) j.size (by omega), ByteArray.getElem_append_right (Nat.le_refl _)]
      rw [getElem!_pos z 0 (by omega)] at hz0
      simpa using hz0
    · intro i hi
      have := hj i hi
      rw [getElem!_pos (j ++ z) i (by omega)]
      rw [getElem!_pos j i hi] at this
      rw [ByteArray.getElem_append_left hi]
      exact this
  have hext : (j ++ z).extract j.size (j ++ z).size = z := by
    rw [hsz, ByteArray.extract_append_eq_right rfl rfl]
  have hzz : z.extract 0 z.size = z := by simp
  have HQ : Aside0 (∀ w : World, Calls Try.prog 51 #[.string (j ++ z), .int .u8 157] w fun r w' => r = .returned (.int .i64 (j.size : Int)) ∧ w' = w) := ⟨fun w => (spIdx (j ++ z) 157 w).mono fun _ _ h => ⟨by rw [h.1, show ((157 : Int).toNat.toUInt8) = 157 from rfl, hidx], h.2.symm⟩⟩
  have HE := Aside0.mk hext
  have HZ := Aside0.mk hzz
  have HD := Aside0.mk hD
  have HH := Aside0.mk hh0
  have hjl : j.size ≤ (j ++ z).size := by omega
  have hgl := h.lt
  have hnz : ((z.size : Int) == 0) = false := beq_eq_false_iff_ne.mpr (by omega)
  clear hj hidx hext hzz hD hh0 hz0 hiff hok
  go_enter Try.func27, Try.ntmps27
  go_wp2_with fail
  go_step3
  have hR := zeroNew w
  have hB := (Below.refl w.heap.size w).alloc (Nat.le_refl _) (.cells #[.int .u8 0, .int .u8 0, .int .u8 0, .int .u16 0, .int .u32 0, .int .u64 0, .int .u32 0, .bool false, .string ⟨#[]⟩] 28)
  have hA := (Amid.refl w gs).below hB
  have hS : SP _ gs (j ++ z) p := h.below hB
  generalize w.alloc (.cells #[.int .u8 0, .int .u8 0, .int .u8 0, .int .u16 0, .int .u32 0, .int .u64 0, .int .u32 0, .bool false, .string ⟨#[]⟩] 28) = W at *
  have HR := Aside0.mk hS
  have HA := Aside0.mk hA
  obtain ⟨h0, h1, f0, f1⟩ := hS.cells
  clear h hB hA hS
  go_wp2_with fail
  go_step3
  go_wp2_with fail
  go_quiet (first | (go_at_call 51; refine Calls.quiet_of_same (HQ.out _)))
  go_wp2_with fail
  have HR' : SP (W.drewN nq) gs (j ++ z) p := HR.out
  have HA' := HA.out.drewN nq
  have hR' : (W.drewN nq).heap[w.heap.size]? = _ := hR
  clear h0 h1 f0 f1 HR HA hR
  generalize W.drewN nq = W at *
  refine (spPass HR' j.size hjl hs hp).mono ?_
  rintro e_ w1 ⟨rfl, hS1, hA1⟩
  have hR1 : w1.heap[w.heap.size]? = _ := (hA1.2.2 _ (by omega)).trans hR'
  have HA1 := Aside0.mk (HA'.alone hA1)
  rw [HE.out] at hS1
  have HS1 := Aside0.mk hS1
  clear HR' HA' hA1 hR'
  obtain ⟨h0, h1, f0, f1⟩ := hS1.cells
  clear hS1
  go_wp2_with fail
  refine (PF.frame_head.calls 12 z _ _ w1 HH.out).mono ?_
  rintro e_ w2 ⟨rfl, hb2⟩
  have HA2 := Aside0.mk (HA1.out.below hb2)
  have HS2 := Aside0.mk (HS1.out.below hb2)
  have hR2 := (hb2.block _ (blk_lt hR1)).trans hR1
  clear h0 h1 f0 f1 HS1 HA1 hR1 hb2
  obtain ⟨h0, h1, f0, f1⟩ := HS2.out.cells
  go_wp2_with fail
  refine (frame_Decode.calls z a b c d e t g hh bd 0 w2 HD.out).mono ?_
  rintro e_ w3 ⟨rfl, hb3⟩
  have HA3 := Aside0.mk (HA2.out.below hb3)
  have HS3 := Aside0.mk (HS2.out.below hb3)
  have hR3 := (hb3.block _ (blk_lt hR2)).trans hR2
  clear h0 h1 f0 f1 HS2 HA2 hR2 hb3
  have hB4 := (Below.refl w3.heap.size w3).alloc (Nat.le_refl _) (.cells #[.int .u8 a, .int .u8 b, .int .u8 c, .int .u16 d, .int .u32 e, .int .u64 t, .int .u32 g, .bool hh, .string bd] 28)
  have HA4 := Aside0.mk (HA3.out.below hB4)
  have HS4 := Aside0.mk (HS3.out.below hB4)
  have hR4 := (hB4.block _ (blk_lt hR3)).trans hR3
  have hF4 := W_push w3 #[.int .u8 a, .int .u8 b, .int .u8 c, .int .u16 d, .int .u32 e, .int .u64 t, .int .u32 g, .bool hh, .string bd] 28 (0, 0)
  have hne : w.heap.size < w3.heap.size := by have := blk_lt hR3; omega
  have hg3 : gs < w3.heap.size := by omega
  obtain ⟨k0, k1, l0, l1⟩ := HS3.out.cells
  clear hB4
  obtain ⟨h0, h1, f0, f1⟩ := HS4.out.cells
  have qk0 : w3.cell? ⟨w.heap.size, 0, none⟩ = some (.int .u8 0) := (blk_cell hR3 0).trans rfl
  have qz0 : w3.frozen? ⟨w.heap.size, 0, none⟩ = false := blk_frozen hR3 0
  have qk1 : w3.cell? ⟨w.heap.size, 1, none⟩ = some (.int .u8 0) := (blk_cell hR3 1).trans rfl
  have qz1 : w3.frozen? ⟨w.heap.size, 1, none⟩ = false := blk_frozen hR3 1
  have qk2 : w3.cell? ⟨w.heap.size, 2, none⟩ = some (.int .u8 0) := (blk_cell hR3 2).trans rfl
  have qz2 : w3.frozen? ⟨w.heap.size, 2, none⟩ = false := blk_frozen hR3 2
  have qk3 : w3.cell? ⟨w.heap.size, 3, none⟩ = some (.int .u16 0) := (blk_cell hR3 3).trans rfl
  have qz3 : w3.frozen? ⟨w.heap.size, 3, none⟩ = false := blk_frozen hR3 3
  have qk4 : w3.cell? ⟨w.heap.size, 4, none⟩ = some (.int .u32 0) := (blk_cell hR3 4).trans rfl
  have qz4 : w3.frozen? ⟨w.heap.size, 4, none⟩ = false := blk_frozen hR3 4
  have qk5 : w3.cell? ⟨w.heap.size, 5, none⟩ = some (.int .u64 0) := (blk_cell hR3 5).trans rfl
  have qz5 : w3.frozen? ⟨w.heap.size, 5, none⟩ = false := blk_frozen hR3 5
  have qk6 : w3.cell? ⟨w.heap.size, 6, none⟩ = some (.int .u32 0) := (blk_cell hR3 6).trans rfl
  have qz6 : w3.frozen? ⟨w.heap.size, 6, none⟩ = false := blk_frozen hR3 6
  have qk7 : w3.cell? ⟨w.heap.size, 7, none⟩ = some (.bool false) := (blk_cell hR3 7).trans rfl
  have qz7 : w3.frozen? ⟨w.heap.size, 7, none⟩ = false := blk_frozen hR3 7
  have qk8 : w3.cell? ⟨w.heap.size, 8, none⟩ = some (.string ⟨#[]⟩) := (blk_cell hR3 8).trans rfl
  have qz8 : w3.frozen? ⟨w.heap.size, 8, none⟩ = false := blk_frozen hR3 8
  go_wp2_with fail
  rw [Exit.noGoto_ret]
  clear h0 h1 f0 f1 k0 k1 l0 l1 qk0 qz0 qk1 qz1 qk2 qz2 qk3 qz3 qk4 qz4 qk5 qz5 qk6 qz6 qk7 qz7 qk8 qz8
  have hS5 : SP ((w3.setCell ⟨gs, 0, none⟩ (.string ByteArray.empty)).setCell ⟨gs, 1, none⟩ (.int .i64 0)) gs ByteArray.empty 0 := blk_set (blk_set HS3.out 0 (.string ByteArray.empty)) 1 (.int .i64 0)
  have hA5 : Alone w3 ((w3.setCell ⟨gs, 0, none⟩ (.string ByteArray.empty)).setCell ⟨gs, 1, none⟩ (.int .i64 0)) gs := (Alone_set w3 0 gs 0 (.string ByteArray.empty)).trans (Alone_set _ 0 gs 1 (.int .i64 0))
  generalize (w3.setCell ⟨gs, 0, none⟩ (.string ByteArray.empty)).setCell ⟨gs, 1, none⟩ (.int .i64 0) = W5 at hS5 hA5 ⊢
  have hR5 := (hA5.2.2 w.heap.size (by omega)).trans hR3
  have hR6 := put9_row hR5 (.int .u8 a) (.int .u8 b) (.int .u8 c) (.int .u16 d) (.int .u32 e) (.int .u64 t) (.int .u32 g) (.bool hh) (.string bd)
  have hA6 := put9_alone W5 w.heap.size (.int .u8 a) (.int .u8 b) (.int .u8 c) (.int .u16 d) (.int .u32 e) (.int .u64 t) (.int .u32 g) (.bool hh) (.string bd)
  rw [put9_def]
  generalize put9 W5 w.heap.size (.int .u8 a) (.int .u8 b) (.int .u8 c) (.int .u16 d) (.int .u32 e) (.int .u64 t) (.int .u32 g) (.bool hh) (.string bd) = W6 at hR6 hA6 ⊢
  have hS6 := hS5.alone hA6 (by omega)
  have A6 : Amid w W6 gs := (HA3.out.alone hA5).other hA6 (Nat.le_refl _)
  have hB7 := (Below.refl W6.heap.size W6).alloc (Nat.le_refl _) (.cells #[.int .u8 a, .int .u8 b, .int .u8 c, .int .u16 d, .int .u32 e, .int .u64 t, .int .u32 g, .bool hh, .string bd] 28)
  have hR7 := (hB7.block _ (blk_lt hR6)).trans hR6
  have hS7 := hS6.below hB7
  have A7 := A6.below hB7
  generalize W6.alloc (.cells #[.int .u8 a, .int .u8 b, .int .u8 c, .int .u16 d, .int .u32 e, .int .u64 t, .int .u32 g, .bool hh, .string bd] 28) = W7 at hR7 hS7 A7 ⊢
  have yk0 : W7.cell? ⟨w.heap.size, 0, none⟩ = some (.int .u8 a) := (blk_cell hR7 0).trans rfl
  have yz0 : W7.frozen? ⟨w.heap.size, 0, none⟩ = false := blk_frozen hR7 0
  have yk1 : W7.cell? ⟨w.heap.size, 1, none⟩ = some (.int .u8 b) := (blk_cell hR7 1).trans rfl
  have yz1 : W7.frozen? ⟨w.heap.size, 1, none⟩ = false := blk_frozen hR7 1
  have yk2 : W7.cell? ⟨w.heap.size, 2, none⟩ = some (.int .u8 c) := (blk_cell hR7 2).trans rfl
  have yz2 : W7.frozen? ⟨w.heap.size, 2, none⟩ = false := blk_frozen hR7 2
  have yk3 : W7.cell? ⟨w.heap.size, 3, none⟩ = some (.int .u16 d) := (blk_cell hR7 3).trans rfl
  have yz3 : W7.frozen? ⟨w.heap.size, 3, none⟩ = false := blk_frozen hR7 3
  have yk4 : W7.cell? ⟨w.heap.size, 4, none⟩ = some (.int .u32 e) := (blk_cell hR7 4).trans rfl
  have yz4 : W7.frozen? ⟨w.heap.size, 4, none⟩ = false := blk_frozen hR7 4
  have yk5 : W7.cell? ⟨w.heap.size, 5, none⟩ = some (.int .u64 t) := (blk_cell hR7 5).trans rfl
  have yz5 : W7.frozen? ⟨w.heap.size, 5, none⟩ = false := blk_frozen hR7 5
  have yk6 : W7.cell? ⟨w.heap.size, 6, none⟩ = some (.int .u32 g) := (blk_cell hR7 6).trans rfl
  have yz6 : W7.frozen? ⟨w.heap.size, 6, none⟩ = false := blk_frozen hR7 6
  have yk7 : W7.cell? ⟨w.heap.size, 7, none⟩ = some (.bool hh) := (blk_cell hR7 7).trans rfl
  have yz7 : W7.frozen? ⟨w.heap.size, 7, none⟩ = false := blk_frozen hR7 7
  have yk8 : W7.cell? ⟨w.heap.size, 8, none⟩ = some (.string bd) := (blk_cell hR7 8).trans rfl
  have yz8 : W7.frozen? ⟨w.heap.size, 8, none⟩ = false := blk_frozen hR7 8
  refine bodyPost_ret (v := .tuple #[.agg #[.int .u8 a, .int .u8 b, .int .u8 c, .int .u16 d, .int .u32 e, .int .u64 t, .int .u32 g, .bool hh, .string bd], .int .i64 ((p + j.size : Nat) : Int), .bool true]) (by simp [results, Try.results27, go_sem, yk0, yk1, yk2, yk3, yk4, yk5, yk6, yk7, yk8]) rfl ⟨rfl, hS7, A7⟩
end Go.Proofs.Ytgboppgghidgbaa.My
namespace Go.Proofs.Ytgboppgghidgbaa.My
open Go.ChangeShapes Go.WideShapes Go.Deep Go.RowKit Go.Proofs.YtgboppgghidgbaaW.PrintWords
set_option linter.unusedSimpArgs false
set_option linter.unusedVariables false
/-- A kind of a fixed row of cells. -/
def kflat {α : Type} (sz : Nat) (cells : α → List Value) (hl : ∀ x, (cells x).length = sz) (h1 : ∀ x, ∀ u ∈ cells x, u.oneCell' = true) : Kd α where
  sz := sz
  E := []
  K := fun _ x cs => cs = cells x
  M := fun _ _ _ x cs => cs = cells x
  K_len := fun h => by rw [h]; exact hl _
  K_one := fun h u hu => by rw [h] at hu; exact h1 _ u hu
  K_below := fun _ h => h
  K_of_M := fun h => h
  M_mono := fun _ h => h
  M_bound := fun h => h
  M_move := fun _ h => h
  M_lower := fun _ h => h
section
variable {H : Type} {enc : TypeId × Value → H} {P : Program} {w : World} {base : Nat} {spare : Nat → Bool} {held : Bool}
theorem open_rows {α : Type} [Inhabited α] {t e : TypeId} (ht : P.underlying t = some (.slice e)) (sz : Nat) (hsz : P.cellsOf e = sz) (cells : α → List Value) (hcl : ∀ x, (cells x).length = sz) (Good : DataW H → α → Prop)
    (hdec : ∀ n cs d pl, DataW.trod enc P w base spare held n e cs = some (d, pl) → cs.length = sz → ∃ x, cs = cells x ∧ Good d x)
    {a : Option Addr} {len cap : Nat} {d : DataW H} {ps : List MemPlace} (h : DataW.Trod enc P w base spare held t (.slice a len cap) d ps) :
    ∃ xs : List α, xs.length = len ∧ len ≤ cap ∧ cap ≤ maxLen ∧ ReadsRow (fun x cs => cs = cells x) sz w a len xs ∧
      ((d = .nil ∧ xs = []) ∨ ∃ elems sp, d = .slice elems sp ∧ elems.length = len ∧ ∀ (i : Nat) (x : α), xs[i]? = some x → ∃ y, elems[i]? = some y ∧ Good y x) := by
  obtain ⟨fuel, hf⟩ := h
  rcases open_slice ht hf with ⟨h0, hx⟩ | ⟨ad, ln, cp, m, n, D, Pl, hcs, hb, hl, hm, hmm, hx, hi⟩
  · simp [Value.cells] at h0
    obtain ⟨rfl, rfl, rfl⟩ := h0
    exact ⟨[], rfl, Nat.le_refl _, Nat.zero_le _, ⟨rfl, by omega, fun h => absurd h (Nat.lt_irrefl 0)⟩, .inl ⟨(Prod.mk.inj hx).1, rfl⟩⟩
  · simp [Value.cells] at hcs
    obtain ⟨rfl, rfl, rfl⟩ := hcs
    have hlm : len ≤ m := by rw [hmm]; split <;> omega
    have hex : ∀ i, ∃ x : α, i < len → (∀ j u, (cells x)[j]? = some u → w.cell? (ad.add (i * sz + j)) = some u) ∧ Good (D i) x := by
      intro i
      by_cases hil : i < len
      · obtain ⟨cs', hc, ht'⟩ := hi i (by omega)
        rw [hsz] at hc
        obtain ⟨_, hcl', hat⟩ := World.cells?_some hc
        obtain ⟨x, rfl, hg⟩ := hdec n cs' (D i) (Pl i) ht' hcl'
        refine ⟨x, fun _ => ⟨fun j u hu => ?_, hg⟩⟩
        have hj : j < sz := by rw [← hcl']; exact (List.getElem?_eq_some_iff.1 hu).1
        rw [← Go.Deep.add_add, hat j hj, hu]
      · exact ⟨default, fun h => absurd h hil⟩
    obtain ⟨f, hf⟩ := Classical.axiomOfChoice hex
    refine ⟨(List.range len).map f, by simp, hl, hm, ⟨by simp, by unfold maxLen at hm; omega, fun _ => ⟨ad, rfl, fun j p hj => ?_⟩⟩, .inr ⟨_, _, (Prod.mk.inj hx).1, by simp, fun i x hx => ?_⟩⟩
    · obtain ⟨hj1, hj2⟩ := List.getElem?_eq_some_iff.1 hj
      have hjl : j < len := by simpa using hj1
      have hp : f j = p := by simpa using hj2
      subst hp
      exact ⟨cells (f j), hcl _, rfl, (hf j hjl).1⟩
    · obtain ⟨hj1, hj2⟩ := List.getElem?_eq_some_iff.1 hx
      have hjl : i < len := by simpa using hj1
      have hp : f i = x := by simpa using hj2
      subst hp
      exact ⟨D i, by simp [hjl], (hf i hjl).2⟩
end
theorem bulk_one {H : Type} (d : DataW H) : 1 ≤ Rows.uptoBulk d := by
  cases d with
  | lit l => cases l <;> simp [Rows.uptoBulk]
  | nil => simp [Rows.uptoBulk]
  | ptr d => simp [Rows.uptoBulk]
  | slice elems spare => simp [Rows.uptoBulk]
  | agg parts => simp [Rows.uptoBulk]
  | iface t d => simp [Rows.uptoBulk]
  | map entries => simp [Rows.uptoBulk]
  | held h => simp [Rows.uptoBulk]
theorem bulk_mem {H : Type} {d : DataW H} {l : List (DataW H)} (h : d ∈ l) : Rows.uptoBulk d ≤ Rows.uptoBulkAll l := by
  induction l with
  | nil => cases h
  | cons x r ih =>
    simp only [Rows.uptoBulkAll]
    cases List.mem_cons.1 h with
    | inl e => subst e; omega
    | inr e => have := ih e; omega
theorem bulk_sum {H α : Type} (f : α → Nat) : ∀ (elems : List (DataW H)) (xs : List α), elems.length = xs.length → (∀ (i : Nat) (x : α), xs[i]? = some x → ∃ y, elems[i]? = some y ∧ f x ≤ Rows.uptoBulk y) → (xs.map f).sum ≤ Rows.uptoBulkAll elems
  | [], [], _, _ => by simp
  | [], _ :: _, h, _ => by cases h
  | _ :: _, [], h, _ => by cases h
  | y :: ys, x :: xs, h, hp => by
    obtain ⟨y', hy, h0⟩ := hp 0 x rfl
    obtain rfl : y = y' := by simpa using hy
    have := bulk_sum f ys xs (by simpa using h) (fun i x hx => by
      obtain ⟨y', hy, h1⟩ := hp (i + 1) x (by simpa using hx)
      exact ⟨y', by simpa using hy, h1⟩)
    simp only [List.map_cons, List.sum_cons, Rows.uptoBulkAll]
    omega
theorem weights_all {H : Type} {P : Program} {e : TypeId} : ∀ {l : List (DataW H)} {d : DataW H}, d ∈ l → ∀ n ∈ d.weights P e, n ∈ DataW.weightsAll P e l
  | [], _, h, _, _ => by cases h
  | x :: r, d, h, n, hn => by
    simp only [DataW.weightsAll, List.mem_append]
    rcases List.mem_cons.1 h with rfl | h
    · exact .inl hn
    · exact .inr (weights_all h n hn)
end Go.Proofs.Ytgboppgghidgbaa.My
namespace Go.Proofs.Ytgboppgghidgbaa.PFrameAmid
open Go.RowKit Go.Proofs.YtgboppgghidgbaaW.PrintWords Go.Proofs.YtgboppgghidgbaaW.PrintLast Go.Proofs.YtgboppgghidgbaaW.PrintMore
attribute [local go_sem] max2_int min2_int max_two min_two max_three min_three max_four min_four   -- for this text's walks alone
set_option linter.unusedVariables false
set_option linter.unusedSimpArgs false

theorem info5 : (Try.prog.info? 5).map (fun i => (i.zero, i.size, i.bytes)) = some (some (.int .u8 0), 1, 1) := by kernel_rfl
/-! ### concordlaw21_plain: function 26 -/
def concordlaw21_plain.l0 : Nat → ByteArray → List Int → Int → Option (ByteArray)
  | 0, _, _, _ => none
  | k + 1, x0, x3, x4 => if x4 < (x0.size : Int) then (if 0 ≤ x4 then (if (bt x0 x4) = 157 then (concordlaw21_plain.l0 k x0 x3 (wrap64 (x4 + 1))) else (if x3.length < 140737488355328 then (concordlaw21_plain.l0 k x0 (x3 ++ [bt x0 x4]) (wrap64 (x4 + 1))) else (none))) else (none)) else (some (strOfNums x3))
def concordlaw21_plain.f (k : Nat) (a0 : ByteArray) : Option (ByteArray) := concordlaw21_plain.l0 k a0 ([] : List Int) 0
set_option maxHeartbeats 8000000 in
set_option maxRecDepth 100000 in
theorem concordlaw21_plain.calls (k : Nat) (a0 : ByteArray) (r : ByteArray) (w : World) (h : concordlaw21_plain.f k a0 = some r) :
    Calls Try.prog 26 #[.string a0] w fun e w' => e = .returned (.string r) ∧ Below w.heap.size w w' := by
  have HB := Aside0.mk (Below.refl w.heap.size w)
  have H : (concordlaw21_plain.l0 k a0 ([] : List Int) 0) = some r := h
  clear h
  have H' := Aside0.mk H
  clear H
  go_enter Try.func26, Try.ntmps26
  go_wp2
  go_loopg [3, 4] k (fun kq v3 v4 w' => ∃ (x3_1 : List Int) (x4_1 : Int), v4 = .int .i64 x4_1 ∧ Aside0 (concordlaw21_plain.l0 kq a0 x3_1 x4_1 = some r) ∧ Aside0 (kq ≤ k) ∧ Aside0 (Kd.R (Kd.int .u8) 5 w' w.heap.size (fun _ => True) v3 x3_1) ∧ Aside0 (Below w.heap.size w w'))
  case atStart => exact ⟨(([] : List Int)), (0), (by first | rfl | (simp; done) | (simp [*]; done)), H', ⟨Nat.le_refl _⟩, ⟨by first | exact Kd.R_nil _ _ _ _ _ | exact Kd.N_nil _ _ _ _ _ | exact Kd.V_nil _ _ _ _ _ | exact Kd.Q_nil _ _ _ _ _ | exact Kd.S_nil _ _ _ _ _⟩, ⟨by repeat (first | (with_reducible first | exact HB.out | apply below_alloc | apply pw_below_drewN | apply below_drew1) | exact HB.out)⟩⟩
  case round =>
    clear H'
    obtain ⟨x3_1, x4_1, rfl, HA, HK1, HO_3, HB⟩ := hrel
    cases gk with
    | zero => exact absurd HA.out (by simp [concordlaw21_plain.l0])
    | succ k1 =>
      have H := HA.out
      clear HA
      simp only [concordlaw21_plain.l0] at H
      by_cases c2 : x4_1 < (a0.size : Int)
      · rw [if_pos c2] at H
        have c2b0 : decide (x4_1 < (a0.size : Int)) = true := decide_eq_true c2
        clear c2
        by_cases c3 : 0 ≤ x4_1
        · rw [if_pos c3] at H
          have c3b0 : decide (0 ≤ x4_1) = true := decide_eq_true c3
          clear c3
          by_cases c5 : (bt a0 x4_1) = 157
          · rw [if_pos c5] at H
            have c5b0 : ((bt a0 x4_1) == 157) = true := beq_iff_eq.mpr c5
            have c5b1 : ((bt a0 x4_1) != 157) = false := bne_eq_false_iff_eq.mpr c5
            clear c5
            have H' := Aside0.mk H
            clear H
            have p4 : 0 ≤ (x4_1 : Int) := of_decide_eq_true (by first | (with_reducible assumption) | assumption)
            have q4 : x4_1 < (a0.size : Int) := of_decide_eq_true (by first | (with_reducible assumption) | assumption)
            have hx4 := bt_at a0 x4_1
            replace p4 := eq_true p4
            replace q4 := eq_true q4
            go_wp2
            go_roundg k1
            case measure => have := HK1.out; omega
            case rel => exact ⟨(x3_1), (wrap64 (x4_1 + 1)), (by first | rfl | (simp; done) | (simp [*]; done)), H', ⟨by have := HK1.out; omega⟩, ⟨by (with_reducible repeat (first | apply Kd.R_alloc | apply Kd.R_drewN | apply Kd.R_drew)); exact HO_3.out⟩, ⟨by repeat (first | (with_reducible first | exact HB.out | apply below_alloc | apply pw_below_drewN | apply below_drew1) | exact HB.out)⟩⟩
          · rw [if_neg c5] at H
            have c5b0 : ((bt a0 x4_1) == 157) = false := beq_eq_false_iff_ne.mpr c5
            have c5b1 : ((bt a0 x4_1) != 157) = true := bne_iff_ne.mpr c5
            by_cases c7 : x3_1.length < 140737488355328
            · rw [if_pos c7] at H
              have LMc7 := Aside0.mk c7
              clear c7
              obtain ⟨y123, hy123⟩ : ∃ y_ : List Int, y_ = (x3_1 ++ [bt a0 x4_1]) := ⟨_, rfl⟩
              replace H : (concordlaw21_plain.l0 k1 a0 y123 (wrap64 (x4_1 + 1))) = some r := by first | (rw [hy123]; with_reducible exact H) | (have H2_ := (Option.bind_some _ _).symm.trans H; rw [hy123]; with_reducible exact H2_) | (have H2_ := (Option.bind_some _ _).symm.trans H; with_reducible exact H2_) | with_reducible exact H | (rw [hy123]; exact H) | exact H
              have Ny123 := Aside0.mk hy123
              clear hy123
              have H' := Aside0.mk H
              clear H
              have p4 : 0 ≤ (x4_1 : Int) := of_decide_eq_true (by first | (with_reducible assumption) | assumption)
              have q4 : x4_1 < (a0.size : Int) := of_decide_eq_true (by first | (with_reducible assumption) | assumption)
              have hx4 := bt_at a0 x4_1
              replace p4 := eq_true p4
              replace q4 := eq_true q4
              have p6 : 0 ≤ (x4_1 : Int) := of_decide_eq_true (by first | (with_reducible assumption) | assumption)
              have q6 : x4_1 < (a0.size : Int) := of_decide_eq_true (by first | (with_reducible assumption) | assumption)
              have hx6 := bt_at a0 x4_1
              replace p6 := eq_true p6
              replace q6 := eq_true q6
              go_wp2_with (first | ((with_reducible refine gate_builtin (b := .append) (xs := #[.tmp 15, .tmp 19]) rfl ?_); at_builtin; refine Kd.R_append (Kd.int .u8) (w0 := w) w.heap.size rfl (.tmp 15) (.tmp 19) 39 5 (.int .u8 0) 1 rfl Try.underlying39 info5 rfl (by decide) (by omega) u3 x3_1 (bt a0 x4_1) [.int .u8 (bt a0 x4_1)] (fun _ => True) (fun _ => False) rfl rfl ?aP (fun _ hk => hk.elim) ?aF ?aO ?aB ?aS ?aL ?_; (case aP => exact rfl); (case aB => exact (by repeat (first | (with_reducible first | exact HB.out | apply below_alloc | apply pw_below_drewN | apply below_drew1) | exact HB.out))); (case aF => exact (fun _ _ => trivial)); (case aO => exact (by (with_reducible repeat (first | apply Kd.R_alloc | apply Kd.R_drewN | apply Kd.R_drew)); exact HO_3.out)); (case aS => exact (below_size (by repeat (first | (with_reducible first | exact HB.out | apply below_alloc | apply pw_below_drewN | apply below_drew1) | exact HB.out)))); (case aL => have := LMc7.out; omega); intro v124 w8 ho hb hg hat; rw [← Ny123.out] at ho; have n0_ := Aside0.mk (hb); have n1_ := Aside0.mk (ho); clear HB; clear HO_3; have HB := n0_; have HO125 := n1_; clear n0_ n1_; clear ho hb hg hat))
              go_roundg k1
              case measure => have := HK1.out; omega
              case rel => exact ⟨(y123), (wrap64 (x4_1 + 1)), (by first | rfl | (simp; done) | (simp [*]; done)), H', ⟨by have := HK1.out; omega⟩, ⟨by (with_reducible repeat (first | apply Kd.R_alloc | apply Kd.R_drewN | apply Kd.R_drew)); exact HO125.out⟩, ⟨by repeat (first | (with_reducible first | exact HB.out | apply below_alloc | apply pw_below_drewN | apply below_drew1) | exact HB.out)⟩⟩
            · rw [if_neg c7] at H
              exact absurd H (by simp)
        · rw [if_neg c3] at H
          exact absurd H (by simp)
      · rw [if_neg c2] at H
        have c2b0 : decide (x4_1 < (a0.size : Int)) = false := decide_eq_false c2
        clear c2
        obtain rfl := Option.some.inj H
        have hcv9 := own_string (P := Try.prog) Try.underlying39 Try.underlying5 Try.underlying9 (Kd.own_of_R HO_3.out)
        go_wp2
        go_ret
        exact ⟨by first | rfl | (simp [errW_none, errW_some] <;> rfl) | (simp [*, errW_none, errW_some] <;> rfl), by repeat (first | (with_reducible first | exact HB.out | apply below_alloc | apply pw_below_drewN | apply below_drew1) | exact HB.out)⟩
end Go.Proofs.Ytgboppgghidgbaa.PFrameAmid
namespace Go.Proofs.Ytgboppgghidgbaa.My
open Go.RowKit Go.Proofs.YtgboppgghidgbaaW.PrintWords Go.Proofs.YtgboppgghidgbaaW.PrintLast Go.Proofs.YtgboppgghidgbaaW.PrintMore Go.Proofs.Ytgboppgghidgbaa Go.Proofs.Ytgboppgghidgbaa.PFrameAmid
set_option linter.unusedSimpArgs false
set_option linter.unusedVariables false
set_option maxRecDepth 100000
theorem strOf_at (X : List Int) (i : Nat) (h : i < (strOfNums X).size) (hX : ∀ z ∈ X, 0 ≤ z ∧ z < 256 ∧ z ≠ 157) : (strOfNums X)[i]! ≠ 157 := by
  have hl : i < X.length := by rw [str_size] at h; exact h
  rw [getElem!_pos (strOfNums X) i h]
  have h1 : (strOfNums X)[i] = UInt8.ofNat (X[i]).toNat := by
    rw [ByteArray.getElem_eq_getElem_data]
    have h2 : (strOfNums X).data.toList[i]'(by rw [Array.length_toList]; exact h) = UInt8.ofNat (X[i]).toNat := by
      have h3 := strOfNums_data X
      have h4 : (strOfNums X).data.toList[i]? = some (UInt8.ofNat (X[i]).toNat) := by rw [h3, List.getElem?_map, List.getElem?_eq_getElem hl]; rfl
      exact (List.getElem?_eq_some_iff.1 h4).2
    rw [← h2, Array.getElem_toList]
  obtain ⟨z0, z1, z2⟩ := hX X[i] (List.getElem_mem hl)
  rw [h1]
  intro h2
  have h3 := congrArg UInt8.toNat h2
  rw [UInt8.toNat_ofNat'] at h3
  have h4 : (157 : UInt8).toNat = 157 := rfl
  omega
theorem plain_l0 (s : ByteArray) (hs : s.size ≤ 140737488351232) : ∀ (m i k : Nat) (X : List Int), i + m = s.size → m + 1 ≤ k → X.length ≤ i → (∀ z ∈ X, 0 ≤ z ∧ z < 256 ∧ z ≠ 157) → ∃ r, concordlaw21_plain.l0 k s X (i : Int) = some r ∧ r.size ≤ s.size ∧ ∀ j, j < r.size → r[j]! ≠ 157
  | 0, i, k, X, hi, hk, hX, hz => by
    obtain ⟨k, rfl⟩ : ∃ j, k = j + 1 := ⟨k - 1, by omega⟩
    rw [concordlaw21_plain.l0, if_neg (by omega)]
    exact ⟨_, rfl, by rw [str_size]; omega, fun j hj => strOf_at X j hj hz⟩
  | m + 1, i, k, X, hi, hk, hX, hz => by
    obtain ⟨k, rfl⟩ : ∃ j, k = j + 1 := ⟨k - 1, by omega⟩
    have hlt : i < s.size := by omega
    have hb : bt s (i : Int) = ((s[i]).toNat : Int) := by
      unfold bt
      rw [dif_pos (by rw [Int.toNat_natCast]; exact hlt)]
      simp
    have hlt2 := (s[i]).toNat_lt
    have e1 : wrap64 ((i : Int) + 1) = ((i + 1 : Nat) : Int) := by unfold wrap64; omega
    rw [concordlaw21_plain.l0, if_pos (by omega), if_pos (by omega), hb, e1]
    by_cases h : ((s[i]).toNat : Int) = 157
    · rw [if_pos h]
      exact plain_l0 s hs m (i + 1) k X (by omega) (by omega) (by omega) hz
    · rw [if_neg h, if_pos (by omega)]
      refine plain_l0 s hs m (i + 1) k _ (by omega) (by omega) (by simp; omega) ?_
      intro z hz2
      rcases List.mem_append.1 hz2 with h2 | h2
      · exact hz z h2
      · obtain rfl := List.mem_singleton.1 h2
        exact ⟨by omega, by omega, h⟩
/-- What 'plain' leaves. -/
theorem plain_ex (s : ByteArray) (hs : s.size ≤ 140737488351232) : ∃ r : ByteArray, (∀ w : World, Calls Try.prog 26 #[.string s] w fun e w' => e = .returned (.string r) ∧ Below w.heap.size w w') ∧ r.size ≤ s.size ∧ ∀ j, j < r.size → r[j]! ≠ 157 := by
  obtain ⟨r, h1, h2, h3⟩ := plain_l0 s hs s.size 0 (s.size + 1) [] (by omega) (Nat.le_refl _) (Nat.le_refl _) (by simp)
  exact ⟨r, fun w => concordlaw21_plain.calls (s.size + 1) s r w h1, h2, h3⟩
/-- A frame, and what stands ahead of it, as they came in. -/
structure Am where
  j : ByteArray
  a : Int
  b : Int
  c : Int
  d : Int
  e : Int
  t : Int
  g : Int
  h : Bool
  s : ByteArray
instance : Inhabited Am := ⟨⟨⟨#[]⟩, 0, 0, 0, 0, 0, 0, 0, false, ⟨#[]⟩⟩⟩
def Am.cells (x : Am) : List Value := [.string x.j, .int .u8 x.a, .int .u8 x.b, .int .u8 x.c, .int .u16 x.d, .int .u32 x.e, .int .u64 x.t, .int .u32 x.g, .bool x.h, .string x.s]
def kAm : Kd Am := kflat 10 Am.cells (fun _ => rfl) (fun x u hu => by
  simp only [Am.cells, List.mem_cons, List.not_mem_nil, or_false] at hu
  rcases hu with rfl | rfl | rfl | rfl | rfl | rfl | rfl | rfl | rfl | rfl <;> rfl)
def Am.Ok (x : Am) : Prop := Fr x.a x.b x.c x.d x.e x.t x.g ∧ x.s.size ≤ 140737488351232 ∧ x.j.size ≤ 140737488351232
theorem am_addr {w : World} {a : Option Addr} {n : Nat} {xs : List Am} (h : kAm.C w a n xs) (k : Nat) (hk : k < xs.length) : ∃ b o, a = some ⟨b, o, none⟩ := by
  obtain ⟨hn, _, h2⟩ := h
  obtain ⟨ad, rfl, hc⟩ := h2 (by omega)
  obtain ⟨x, hx⟩ : ∃ x, xs[0]? = some x := ⟨_, List.getElem?_eq_getElem (by omega)⟩
  obtain ⟨c, _, hc2, hc3⟩ := hc 0 x hx
  have hc4 : c = x.cells := hc2
  subst hc4
  have h0 : w.cell? (ad.add (0 * 10 + 0)) = some _ := hc3 0 _ rfl
  have hs := World.cell?_spot h0
  obtain ⟨b, o, sp⟩ := ad
  obtain rfl : sp = none := hs
  exact ⟨b, o, rfl⟩
theorem add_lit' (b o n : Nat) : (⟨b, o, none⟩ : Addr).add n = ⟨b, o + n, none⟩ := by
  unfold Addr.add
  by_cases h : n = 0
  · subst h; rfl
  · rw [if_neg h]
theorem am_at {w : World} {b o n : Nat} {xs : List Am} (h : kAm.C w (some ⟨b, o, none⟩) n xs) (k : Nat) (x : Am) (hk : xs[k]? = some x) : w.cell? ⟨b, o + k * 10, none⟩ = some (.string x.j) ∧ w.cell? ⟨b, o + k * 10 + 1, none⟩ = some (.int .u8 x.a) ∧ w.cell? ⟨b, o + k * 10 + 2, none⟩ = some (.int .u8 x.b) ∧ w.cell? ⟨b, o + k * 10 + 3, none⟩ = some (.int .u8 x.c) ∧ w.cell? ⟨b, o + k * 10 + 4, none⟩ = some (.int .u16 x.d) ∧ w.cell? ⟨b, o + k * 10 + 5, none⟩ = some (.int .u32 x.e) ∧ w.cell? ⟨b, o + k * 10 + 6, none⟩ = some (.int .u64 x.t) ∧ w.cell? ⟨b, o + k * 10 + 7, none⟩ = some (.int .u32 x.g) ∧ w.cell? ⟨b, o + k * 10 + 8, none⟩ = some (.bool x.h) ∧ w.cell? ⟨b, o + k * 10 + 9, none⟩ = some (.string x.s) := by
  obtain ⟨hn, _, h2⟩ := h
  have hl := (List.getElem?_eq_some_iff.1 hk).1
  obtain ⟨ad, e, hc⟩ := h2 (by omega)
  obtain rfl := Option.some.inj e
  obtain ⟨c, _, hc2, hc3⟩ := hc k x hk
  have hc4 : c = x.cells := hc2
  subst hc4
  have g0 := hc3 0 _ rfl
  have g1 := hc3 1 _ rfl
  have g2 := hc3 2 _ rfl
  have g3 := hc3 3 _ rfl
  have g4 := hc3 4 _ rfl
  have g5 := hc3 5 _ rfl
  have g6 := hc3 6 _ rfl
  have g7 := hc3 7 _ rfl
  have g8 := hc3 8 _ rfl
  have g9 := hc3 9 _ rfl
  rw [add_lit'] at g0 g1 g2 g3 g4 g5 g6 g7 g8 g9
  exact ⟨g0, g1, g2, g3, g4, g5, g6, g7, g8, g9⟩
def AmGood {H : Type} (y : DataW H) (x : Am) : Prop := (∃ u v, y = .agg [.lit (.string x.j.data.toList), .agg [.lit (.int .u8 x.a), .lit (.int .u8 x.b), u, v, .lit (.int .u32 x.g), .lit (.bool x.h), .lit (.string x.s.data.toList)]]) ∧ Fr x.a x.b x.c x.d x.e x.t x.g
section
open Go.ChangeShapes Go.WideShapes Go.Deep
variable {H : Type} {enc : TypeId × Value → H} {w : World} {base : Nat} {spare : Nat → Bool} {held : Bool}
set_option maxHeartbeats 1600000
theorem dec_am (n : Nat) (cs : List Value) (d : DataW H) (pl : List MemPlace) (h : DataW.trod enc Try.prog w base spare held n 66 cs = some (d, pl)) (hl : cs.length = 10) : ∃ x : Am, cs = x.cells ∧ AmGood d x := by
  match cs, hl with
  | [c0, c1, c2, c3, c4, c5, c6, c7, c8, c9], _ =>
    obtain ⟨ys, n', _, hy, _, hyl, hf⟩ := DataW.trod_struct Try.underlying66 h
    have k1 : Try.prog.cellsOf 5 = 1 := by kernel_rfl
    have k2 : Try.prog.cellsOf 25 = 3 := by kernel_rfl
    have k3 : Try.prog.cellsOf 26 = 1 := by kernel_rfl
    have k4 : Try.prog.cellsOf 23 = 1 := by kernel_rfl
    have k5 : Try.prog.cellsOf 4 = 1 := by kernel_rfl
    have k6 : Try.prog.cellsOf 9 = 1 := by kernel_rfl
    have k7 : Try.prog.cellsOf 22 = 1 := by kernel_rfl
    have k28 : Try.prog.cellsOf 28 = 9 := by kernel_rfl
    match ys, hyl with
    | [yj, yf], _ =>
      have x0 : DataW.trod enc Try.prog w base spare held n' 9 (([c0, c1, c2, c3, c4, c5, c6, c7, c8, c9].drop 0).take (Try.prog.cellsOf 9)) = some yj := hf 0 _ rfl
      have x1 : DataW.trod enc Try.prog w base spare held n' 28 (([c0, c1, c2, c3, c4, c5, c6, c7, c8, c9].drop 1).take (Try.prog.cellsOf 28)) = some yf := hf 1 _ rfl
      simp only [k6, k28, List.drop_zero, List.drop_succ_cons, List.take_succ_cons, List.take_zero] at x0 x1
      obtain ⟨j, ej, rfl, wj⟩ := DataW.trod_string Try.underlying9 x0
      obtain ⟨zs, n2, _, hy2, _, hzl, hz⟩ := DataW.trod_struct Try.underlying28 x1
      match zs, hzl with
      | [z0, z1, z2, z3, z4, z5, z6], _ =>
        have q0 : DataW.trod enc Try.prog w base spare held n2 5 (([c1, c2, c3, c4, c5, c6, c7, c8, c9].drop 0).take (Try.prog.cellsOf 5)) = some z0 := hz 0 _ rfl
        have q1 : DataW.trod enc Try.prog w base spare held n2 5 (([c1, c2, c3, c4, c5, c6, c7, c8, c9].drop 1).take (Try.prog.cellsOf 5)) = some z1 := hz 1 _ rfl
        have q2 : DataW.trod enc Try.prog w base spare held n2 25 (([c1, c2, c3, c4, c5, c6, c7, c8, c9].drop 2).take (Try.prog.cellsOf 25)) = some z2 := hz 2 _ rfl
        have q3 : DataW.trod enc Try.prog w base spare held n2 26 (([c1, c2, c3, c4, c5, c6, c7, c8, c9].drop 5).take (Try.prog.cellsOf 26)) = some z3 := hz 3 _ rfl
        have q4 : DataW.trod enc Try.prog w base spare held n2 23 (([c1, c2, c3, c4, c5, c6, c7, c8, c9].drop 6).take (Try.prog.cellsOf 23)) = some z4 := hz 4 _ rfl
        have q5 : DataW.trod enc Try.prog w base spare held n2 4 (([c1, c2, c3, c4, c5, c6, c7, c8, c9].drop 7).take (Try.prog.cellsOf 4)) = some z5 := hz 5 _ rfl
        have q6 : DataW.trod enc Try.prog w base spare held n2 9 (([c1, c2, c3, c4, c5, c6, c7, c8, c9].drop 8).take (Try.prog.cellsOf 9)) = some z6 := hz 6 _ rfl
        simp only [k1, k2, k3, k4, k5, k6, List.drop_zero, List.drop_succ_cons, List.take_succ_cons, List.take_zero] at q0 q1 q2 q3 q4 q5 q6
        obtain ⟨us, n3, _, hy3, _, hul, hu⟩ := DataW.trod_struct Try.underlying25 q2
        match us, hul with
        | [u0, u1, u2], _ =>
          have r0 : DataW.trod enc Try.prog w base spare held n3 5 (([c3, c4, c5].drop 0).take (Try.prog.cellsOf 5)) = some u0 := hu 0 _ rfl
          have r1 : DataW.trod enc Try.prog w base spare held n3 22 (([c3, c4, c5].drop 1).take (Try.prog.cellsOf 22)) = some u1 := hu 1 _ rfl
          have r2 : DataW.trod enc Try.prog w base spare held n3 23 (([c3, c4, c5].drop 2).take (Try.prog.cellsOf 23)) = some u2 := hu 2 _ rfl
          simp only [k1, k4, k7, List.drop_zero, List.drop_succ_cons, List.take_succ_cons, List.take_zero] at r0 r1 r2
          obtain ⟨a, e0, rfl, w0⟩ := DataW.trod_int Try.underlying5 q0
          obtain ⟨b, e1, rfl, w1⟩ := DataW.trod_int Try.underlying5 q1
          obtain ⟨c, e2, rfl, w2⟩ := DataW.trod_int Try.underlying5 r0
          obtain ⟨dd, e3, rfl, w3⟩ := DataW.trod_int Try.underlying22 r1
          obtain ⟨e, e4, rfl, w4⟩ := DataW.trod_int Try.underlying23 r2
          obtain ⟨tt, e5, rfl, w5⟩ := DataW.trod_int Try.underlying26 q3
          obtain ⟨g, e6, rfl, w6⟩ := DataW.trod_int Try.underlying23 q4
          obtain ⟨hh, e7, rfl⟩ := DataW.trod_bool Try.underlying4 q5
          obtain ⟨s, e8, rfl, w8⟩ := DataW.trod_string Try.underlying9 q6
          obtain rfl := List.singleton_inj.1 ej
          obtain rfl := List.singleton_inj.1 e0
          obtain rfl := List.singleton_inj.1 e1
          obtain rfl := List.singleton_inj.1 e2
          obtain rfl := List.singleton_inj.1 e3
          obtain rfl := List.singleton_inj.1 e4
          obtain rfl := List.singleton_inj.1 e5
          obtain rfl := List.singleton_inj.1 e6
          obtain rfl := List.singleton_inj.1 e7
          obtain rfl := List.singleton_inj.1 e8
          have hyf := (Prod.mk.inj hy2).1
          exact ⟨⟨j, a, b, c, dd, e, tt, g, hh, s⟩, rfl, ⟨z2.1, .lit (.int .u64 tt), by rw [(Prod.mk.inj hy).1]; simp [hyf]⟩, wfr w0 w1 w2 w3 w4 w5 w6⟩
theorem open_ams {a : Option Addr} {len cap : Nat} {d : DataW H} {ps : List MemPlace} (h : DataW.Trod enc Try.prog w base spare held 63 (.slice a len cap) d ps) :
    ∃ xs : List Am, xs.length = len ∧ len ≤ cap ∧ cap ≤ maxLen ∧ kAm.C w a len xs ∧ 
      ∀ x ∈ xs, Fr x.a x.b x.c x.d x.e x.t x.g ∧ x.j.size ∈ d.weights Try.prog 63 := by
  obtain ⟨xs, hlen, hlc, hcm, hrow, hd⟩ := open_rows Try.underlying63 10 (by kernel_rfl) Am.cells (fun _ => rfl) AmGood dec_am h
  refine ⟨xs, hlen, hlc, hcm, hrow, ?_⟩
  intro x hx
  obtain ⟨i, hi, hix⟩ := List.getElem_of_mem hx
  have hx2 : xs[i]? = some x := by rw [List.getElem?_eq_getElem hi, hix]
  rcases hd with ⟨rfl, rfl⟩ | ⟨elems, sp, rfl, hel, hg⟩
  · cases hx
  · obtain ⟨y, hy, ⟨u, v, rfl⟩, h1⟩ := hg i x hx2
    refine ⟨h1, ?_⟩
    have hm := List.mem_of_getElem? hy
    have hw := weights_all (P := Try.prog) (e := 66) hm x.j.size (by
      simp [DataW.weights, Try.underlying66, DataW.weightsEach])
    simp only [DataW.weights, Try.underlying63, List.mem_cons, List.mem_append]
    exact .inr (.inl hw)
end
end Go.Proofs.Ytgboppgghidgbaa.My
namespace Go.Proofs.Ytgboppgghidgbaa.My
open Go.RowKit Go.Proofs.YtgboppgghidgbaaW.PrintWords Go.Proofs.YtgboppgghidgbaaW.PrintLast Go.Proofs.YtgboppgghidgbaaW.PrintMore Go.Proofs.Ytgboppgghidgbaa
set_option linter.unusedSimpArgs false
set_option linter.unusedVariables false
set_option maxRecDepth 100000
set_option maxHeartbeats 1600000
attribute [local go_sem high] PH.eqA28
attribute [local go_sem] max2_int min2_int max_two min_two
/-- The splitter, empty. -/
def AmJ (w wr : World) (gs : Nat) (s : ByteArray) (p : Nat) : Prop := SP wr gs s p ∧ Below w.heap.size w wr ∧ w.heap.size ≤ gs
theorem AmJ.below {w wr w' : World} {gs : Nat} {s : ByteArray} {p : Nat} (h : AmJ w wr gs s p) (hb : Below wr.heap.size wr w') : AmJ w w' gs s p := ⟨h.1.below hb, below_then h.2.1 (below_size h.2.1) hb, h.2.2⟩
theorem AmJ.alone {w wr w' : World} {gs : Nat} {s s' : ByteArray} {p p' : Nat} (h : AmJ w wr gs s p) (hs : SP w' gs s' p') (ha : Alone wr w' gs) : AmJ w w' gs s' p' :=
  ⟨hs, ⟨ha.1.os.trans h.2.1.os, ha.1.tape.trans h.2.1.tape, ha.1.output.trans h.2.1.output, Nat.le_trans h.2.1.size ha.1.size, fun k hk => (ha.2.2 k (by have := h.2.2; omega)).trans (h.2.1.block k hk)⟩, h.2.2⟩
theorem AmJ.amid {w wr w' : World} {gs : Nat} {s s' : ByteArray} {p p' : Nat} (h : AmJ w wr gs s p) (hs : SP w' gs s' p') (ha : Amid wr w' gs) : AmJ w w' gs s' p' :=
  ⟨hs, ⟨ha.1.os.trans h.2.1.os, ha.1.tape.trans h.2.1.tape, ha.1.output.trans h.2.1.output, Nat.le_trans h.2.1.size ha.1.size, fun k hk => (ha.2 k (Nat.lt_of_lt_of_le hk h.2.1.size) (by have := h.2.2; omega)).trans (h.2.1.block k hk)⟩, h.2.2⟩
theorem str_nil (s : ByteArray) : (⟨#[]⟩ : ByteArray) ++ s = s := ByteArray.empty_append
theorem ext_ne (J : ByteArray) (n : Nat) (h : ∀ j, j < J.size → J[j]! ≠ 157) : ∀ j, j < (J.extract 0 n).size → (J.extract 0 n)[j]! ≠ 157 := by
  intro j hj
  have hj2 : j < J.size := by rw [ByteArray.size_extract] at hj; omega
  have h2 := h j hj2
  rw [getElem!_pos J j hj2] at h2
  rw [getElem!_pos (J.extract 0 n) j hj, ByteArray.getElem_extract]
  simpa using h2
theorem FrameAmid_walk (w : World) (a : Option Addr) (cap : Nat) (xs : List Am) (hcap : xs.length ≤ cap) (hC : kAm.C w a xs.length xs) (hok : ∀ x ∈ xs, Fr x.a x.b x.c x.d x.e x.t x.g ∧ x.j.size ≤ 140737488351232) (s : ByteArray) (hs : s.size ≤ 140737488351232) : Calls Try.prog 9 #[.slice a xs.length cap, .string s] w fun r w' => r = .returned (.bool true) ∧ Below w.heap.size w w' := by
  have hxl : xs.length ≤ 9223372036854775807 := hC.2.1
  have HC := Aside0.mk hC
  have HO := Aside0.mk hok
  clear hC hok
  go_enter Try.func9, Try.ntmps9
  go_wp2_with fail
  refine (spNew _).mono ?_
  rintro e w1 ⟨rfl, hS1, hb1⟩
  have HI : Aside0 (AmJ w w1 w.heap.size ⟨#[]⟩ 0) := ⟨hS1, hb1, Nat.le_refl _⟩
  clear hS1 hb1
  generalize w.heap.size = gs at HI ⊢
  go_wp2_with fail
  go_loopw [6, 7] (fun n i wr => ∃ k : Nat, k ≤ xs.length ∧ k ≤ 20 ∧ n = .int .i64 k ∧ i = .int .i64 k ∧ Aside0 (AmJ w wr gs ⟨#[]⟩ 0)) (fun _ i _ => 20 - (intOf i).toNat)
  case atStart => exact ⟨0, Nat.zero_le _, by omega, rfl, rfl, HI⟩
  case round =>
    clear HI
    obtain ⟨k, hk, hk2, rfl, rfl, HI⟩ := hrel
    by_cases hlt : k < xs.length ∧ k < 20
    · obtain ⟨hlt, h20⟩ := hlt
      have hxk : xs[k]? = some xs[k] := List.getElem?_eq_getElem hlt
      obtain ⟨hF, hj⟩ := HO.out _ (List.getElem_mem hlt)
      obtain ⟨b, o, rfl⟩ := am_addr HC.out k hlt
      generalize xs[k] = x at *
      have HX := Aside0.mk hxk
      clear hxk
      obtain ⟨c0, c1, c2, c3, c4, c5, c6, c7, c8, c9⟩ := am_at (Kd.C_below HC.out HI.out.2.1) k x HX.out
      obtain ⟨J, hJ, hJs, hJn⟩ := plain_ex x.j hj
      obtain ⟨fa, fb, fc, fd, fe, ft, fg, bd, hf, ha, hb, hc, hd, he, ht, hg, hM⟩ := fit_ex x.a x.b x.c x.d x.e x.t x.g x.h x.s hF
      have hE : frame_Encode.f (fa : Int) fb fc fd fe ft fg x.h bd = some (strOfNums (encF fa fb fc fd fe ft fg x.h bd), 0) := by
        rw [frame_Encode.f, if_pos ⟨by omega, by omega, by omega, by omega, by omega, by omega, by omega⟩]
        show some (encR fa fb fc fd fe ft fg x.h bd) = _
        rw [encR, if_pos hM]
      have hn := encF_nats fa fb fc fd fe ft fg x.h bd ha hb hc
      have hD := dec_enc fa fb fc fd fe ft fg x.h bd ha hb hc hd he ht hg hM
      obtain ⟨hsz, hx1, hx2⟩ := fields _ fa fb fc fd fe ft fg x.h bd hn ha hb hc hd he ht hg hM.2.2.2.2.2.2.2
      have hbd := hM.2.2.2.2.2.2.2
      clear hn hx1 hx2
      generalize strOfNums (encF fa fb fc fd fe ft fg x.h bd) = z at *
      have hz : frame_Decode.f z = some ((fa : Int), (fb : Int), (fc : Int), (fd : Int), (fe : Int), (ft : Int), (fg : Int), x.h, bd, 0) := by
        rw [frame_Decode.f, if_pos (by omega), hD]
      have AJ := Aside0.mk hJ
      have AJn := Aside0.mk hJn
      have AF := Aside0.mk hf
      have AE := Aside0.mk hE
      have AZ := Aside0.mk hz
      have ASZ := Aside0.mk hsz
      clear hJ hJn hf hE hz hD hsz hM hF ha hb hc hd he ht hg
      have i0 : (0 : Int) ≤ (k : Int) := by omega
      have i1 : (k : Int) < (xs.length : Int) := by omega
      have i2 : (k : Int) < 20 := by omega
      have i3 : decide ((k : Int) < 20) = true := decide_eq_true i2
      have i4 : decide ((k : Int) < (xs.length : Int)) = true := decide_eq_true i1
      go_wp2_with fail
      clear c0 c1 c2 c3 c4 c5 c6 c7 c8 c9
      refine (AJ.out _).mono ?_
      rintro e_ w2 ⟨rfl, hb2⟩
      have HI2 := Aside0.mk (HI.out.below hb2)
      clear HI hb2 AJ
      obtain ⟨c0, c1, c2, c3, c4, c5, c6, c7, c8, c9⟩ := am_at (Kd.C_below HC.out HI2.out.2.1) k x HX.out
      by_cases h3 : 3000 < J.size
      · have h3b : decide ((3000 : Int) < (J.size : Int)) = true := decide_eq_true (by omega)
        have h3c : (3000 : Int) < (J.size : Int) := by omega
        have h3d : (3000 : Int) ≤ (J.size : Int) := by omega
        go_wp2_with fail
        have hGs : (J.extract 0 3000).size ≤ 3000 := by rw [ByteArray.size_extract]; omega
        have AGn := Aside0.mk (ext_ne J 3000 AJn.out)
        generalize J.extract 0 3000 = G at hGs AGn ⊢
        clear h3 h3b h3c h3d AJn
        have hz1 : z.size ≤ 8192 := by have := ASZ.out; omega
        have hbl : (bd.toList == bd.toList) = true := by simp
        have hbl2 : (bd.toList != bd.toList) = false := by simp
        refine (concordlaw21_fit.calls _ _ _ _ _ _ _ _ _ _ _ _ _ _ _ _ _ _ _ AF.out).mono ?_
        rintro e_ w3 ⟨rfl, hb3⟩
        have HI3 := Aside0.mk (HI2.out.below hb3)
        clear HI2 hb3 AF c0 c1 c2 c3 c4 c5 c6 c7 c8 c9
        go_wp2_with fail
        have hB3 := W_push w3 #[.int .u8 (fa : Int), .int .u8 (fb : Int), .int .u8 (fc : Int), .int .u16 (fd : Int), .int .u32 (fe : Int), .int .u64 (ft : Int), .int .u32 (fg : Int), .bool x.h, .string bd] 28 (0, 0)
        have HI3a := Aside0.mk (HI3.out.below ((Below.refl _ _).alloc (Nat.le_refl _) (.cells #[.int .u8 (fa : Int), .int .u8 (fb : Int), .int .u8 (fc : Int), .int .u16 (fd : Int), .int .u32 (fe : Int), .int .u64 (ft : Int), .int .u32 (fg : Int), .bool x.h, .string bd] 28)))
        clear HI3
        generalize w3.alloc (.cells #[.int .u8 (fa : Int), .int .u8 (fb : Int), .int .u8 (fc : Int), .int .u16 (fd : Int), .int .u32 (fe : Int), .int .u64 (ft : Int), .int .u32 (fg : Int), .bool x.h, .string bd] 28) = w3a at hB3 HI3a ⊢
        generalize w3.heap.size = gf at hB3 ⊢
        have hne : gf ≠ gs := by
          rintro rfl
          have h1 := hB3.symm.trans HI3a.out.1
          simp at h1
        refine (frame_Encode.calls _ _ _ _ _ _ _ _ _ _ _ w3a AE.out).mono ?_
        rintro e_ w4 ⟨rfl, hb4⟩
        have HI4 := Aside0.mk (HI3a.out.below hb4)
        have hB4 := Aside0.mk (blk_below hB3 hb4)
        clear HI3a hb4 AE hB3
        go_wp2_with fail
        refine (spFeed HI4.out.1 G (by show 0 + _ ≤ 65536; omega)).mono ?_
        rintro e_ w5 ⟨rfl, hS5, ha5⟩
        rw [str_nil] at hS5
        have HI5 := Aside0.mk (HI4.out.alone hS5 ha5)
        have hB5 := Aside0.mk ((ha5.2.2 gf hne).trans hB4.out)
        clear HI4 hS5 ha5 hB4
        by_cases hp : k % 2 = 0
        · skip
          have hpar : Int.tmod (k : Int) 2 = 0 := by rw [Int.tmod_eq_emod_of_nonneg (by omega)]; omega
          clear hp
          go_wp2_with fail
          refine (spNext_none HI5.out.1 (by omega) (by omega) AGn.out).mono ?_
          unfold zeroF
          rintro e_ w6 ⟨rfl, hS6, ha6⟩
          have HI6 := Aside0.mk (HI5.out.amid hS6 ha6)
          have hB6 := Aside0.mk ((ha6.2 gf (blk_lt hB5.out) hne).trans hB5.out)
          clear HI5 hS6 ha6 hpar hB5
          go_wp2_with fail
          have HI6a := Aside0.mk (HI6.out.below ((Below.refl _ _).alloc (Nat.le_refl _) (.cells #[.int .u8 0, .int .u8 0, .int .u8 0, .int .u16 0, .int .u32 0, .int .u64 0, .int .u32 0, .bool false, .string ⟨#[]⟩] 28)))
          have hB6a := Aside0.mk (blk_alloc hB6.out (.cells #[.int .u8 0, .int .u8 0, .int .u8 0, .int .u16 0, .int .u32 0, .int .u64 0, .int .u32 0, .bool false, .string ⟨#[]⟩] 28))
          clear HI6 hB6
          generalize w6.alloc (.cells #[.int .u8 0, .int .u8 0, .int .u8 0, .int .u16 0, .int .u32 0, .int .u64 0, .int .u32 0, .bool false, .string ⟨#[]⟩] 28) = w6a at HI6a hB6a ⊢
          refine (spFeed HI6a.out.1 z (by show 0 + z.size ≤ 65536; omega)).mono ?_
          rintro e_ w7 ⟨rfl, hS7, ha7⟩
          have HI7 := Aside0.mk (HI6a.out.alone hS7 ha7)
          have hB7 := Aside0.mk ((ha7.2.2 gf hne).trans hB6a.out)
          clear HI6a hS7 ha7 hB6a
          go_wp2_with fail
          refine (spNext_frame HI7.out.1 (by rw [str_nil]; omega) (by omega) (fun i hi => absurd hi (Nat.not_lt_zero i)) _ _ _ _ _ _ _ _ _ AZ.out).mono ?_
          rintro e_ w8 ⟨rfl, hS8, ha8⟩
          have hkk : ((0 + G.size + (⟨#[]⟩ : ByteArray).size : Nat) : Int) = (G.size : Int) := by show ((0 + G.size + 0 : Nat) : Int) = _; omega
          rw [hkk]
          have HI8 := Aside0.mk (HI7.out.amid hS8 ha8)
          have hB8 := (ha8.2 gf (blk_lt hB7.out) hne).trans hB7.out
          clear HI7 hS8 ha8 hkk hB7
          have hB9 := blk_alloc hB8 (.cells #[.int .u8 (fa : Int), .int .u8 (fb : Int), .int .u8 (fc : Int), .int .u16 (fd : Int), .int .u32 (fe : Int), .int .u64 (ft : Int), .int .u32 (fg : Int), .bool x.h, .string bd] 28)
          have fk0 : (w8.alloc (.cells #[.int .u8 (fa : Int), .int .u8 (fb : Int), .int .u8 (fc : Int), .int .u16 (fd : Int), .int .u32 (fe : Int), .int .u64 (ft : Int), .int .u32 (fg : Int), .bool x.h, .string bd] 28)).cell? ⟨gf, 0, none⟩ = some (.int .u8 (fa : Int)) := (blk_cell hB9 0).trans rfl
          have fk1 : (w8.alloc (.cells #[.int .u8 (fa : Int), .int .u8 (fb : Int), .int .u8 (fc : Int), .int .u16 (fd : Int), .int .u32 (fe : Int), .int .u64 (ft : Int), .int .u32 (fg : Int), .bool x.h, .string bd] 28)).cell? ⟨gf, 1, none⟩ = some (.int .u8 (fb : Int)) := (blk_cell hB9 1).trans rfl
          have fk2 : (w8.alloc (.cells #[.int .u8 (fa : Int), .int .u8 (fb : Int), .int .u8 (fc : Int), .int .u16 (fd : Int), .int .u32 (fe : Int), .int .u64 (ft : Int), .int .u32 (fg : Int), .bool x.h, .string bd] 28)).cell? ⟨gf, 2, none⟩ = some (.int .u8 (fc : Int)) := (blk_cell hB9 2).trans rfl
          have fk3 : (w8.alloc (.cells #[.int .u8 (fa : Int), .int .u8 (fb : Int), .int .u8 (fc : Int), .int .u16 (fd : Int), .int .u32 (fe : Int), .int .u64 (ft : Int), .int .u32 (fg : Int), .bool x.h, .string bd] 28)).cell? ⟨gf, 3, none⟩ = some (.int .u16 (fd : Int)) := (blk_cell hB9 3).trans rfl
          have fk4 : (w8.alloc (.cells #[.int .u8 (fa : Int), .int .u8 (fb : Int), .int .u8 (fc : Int), .int .u16 (fd : Int), .int .u32 (fe : Int), .int .u64 (ft : Int), .int .u32 (fg : Int), .bool x.h, .string bd] 28)).cell? ⟨gf, 4, none⟩ = some (.int .u32 (fe : Int)) := (blk_cell hB9 4).trans rfl
          have fk5 : (w8.alloc (.cells #[.int .u8 (fa : Int), .int .u8 (fb : Int), .int .u8 (fc : Int), .int .u16 (fd : Int), .int .u32 (fe : Int), .int .u64 (ft : Int), .int .u32 (fg : Int), .bool x.h, .string bd] 28)).cell? ⟨gf, 5, none⟩ = some (.int .u64 (ft : Int)) := (blk_cell hB9 5).trans rfl
          have fk6 : (w8.alloc (.cells #[.int .u8 (fa : Int), .int .u8 (fb : Int), .int .u8 (fc : Int), .int .u16 (fd : Int), .int .u32 (fe : Int), .int .u64 (ft : Int), .int .u32 (fg : Int), .bool x.h, .string bd] 28)).cell? ⟨gf, 6, none⟩ = some (.int .u32 (fg : Int)) := (blk_cell hB9 6).trans rfl
          have fk7 : (w8.alloc (.cells #[.int .u8 (fa : Int), .int .u8 (fb : Int), .int .u8 (fc : Int), .int .u16 (fd : Int), .int .u32 (fe : Int), .int .u64 (ft : Int), .int .u32 (fg : Int), .bool x.h, .string bd] 28)).cell? ⟨gf, 7, none⟩ = some (.bool x.h) := (blk_cell hB9 7).trans rfl
          have fk8 : (w8.alloc (.cells #[.int .u8 (fa : Int), .int .u8 (fb : Int), .int .u8 (fc : Int), .int .u16 (fd : Int), .int .u32 (fe : Int), .int .u64 (ft : Int), .int .u32 (fg : Int), .bool x.h, .string bd] 28)).cell? ⟨gf, 8, none⟩ = some (.string bd) := (blk_cell hB9 8).trans rfl
          clear hB8 hB9
          have HI9 := Aside0.mk (HI8.out.below ((Below.refl _ _).alloc (Nat.le_refl _) (.cells #[.int .u8 (fa : Int), .int .u8 (fb : Int), .int .u8 (fc : Int), .int .u16 (fd : Int), .int .u32 (fe : Int), .int .u64 (ft : Int), .int .u32 (fg : Int), .bool x.h, .string bd] 28)))
          clear HI8
          go_wp2_with fail
          refine (spLeft HI9.out.1).mono ?_
          rintro e_ w9 ⟨rfl, rfl⟩
          clear fk0 fk1 fk2 fk3 fk4 fk5 fk6 fk7 fk8
          go_wp2_with fail
          go_roundw
          case rel => exact ⟨k + 1, by omega, by omega, by go_num, by go_num, HI9⟩
          case measure => simp [intOf]; omega
        · skip
          have hpar : Int.tmod (k : Int) 2 = 1 := by rw [Int.tmod_eq_emod_of_nonneg (by omega)]; omega
          clear hp
          go_wp2_with fail
          refine (spFeed HI5.out.1 z (by omega)).mono ?_
          rintro e_ w7 ⟨rfl, hS7, ha7⟩
          have HI7 := Aside0.mk (HI5.out.alone hS7 ha7)
          have hB7 := Aside0.mk ((ha7.2.2 gf hne).trans hB5.out)
          clear HI5 hS7 ha7 hpar hB5
          go_wp2_with fail
          refine (spNext_frame HI7.out.1 (by rw [ByteArray.size_append]; omega) (by omega) AGn.out _ _ _ _ _ _ _ _ _ AZ.out).mono ?_
          rintro e_ w8 ⟨rfl, hS8, ha8⟩
          have hkk : ((0 + G.size : Nat) : Int) = (G.size : Int) := by omega
          rw [hkk]
          have HI8 := Aside0.mk (HI7.out.amid hS8 ha8)
          have hB8 := (ha8.2 gf (blk_lt hB7.out) hne).trans hB7.out
          clear HI7 hS8 ha8 hkk hB7
          have hB9 := blk_alloc hB8 (.cells #[.int .u8 (fa : Int), .int .u8 (fb : Int), .int .u8 (fc : Int), .int .u16 (fd : Int), .int .u32 (fe : Int), .int .u64 (ft : Int), .int .u32 (fg : Int), .bool x.h, .string bd] 28)
          have fk0 : (w8.alloc (.cells #[.int .u8 (fa : Int), .int .u8 (fb : Int), .int .u8 (fc : Int), .int .u16 (fd : Int), .int .u32 (fe : Int), .int .u64 (ft : Int), .int .u32 (fg : Int), .bool x.h, .string bd] 28)).cell? ⟨gf, 0, none⟩ = some (.int .u8 (fa : Int)) := (blk_cell hB9 0).trans rfl
          have fk1 : (w8.alloc (.cells #[.int .u8 (fa : Int), .int .u8 (fb : Int), .int .u8 (fc : Int), .int .u16 (fd : Int), .int .u32 (fe : Int), .int .u64 (ft : Int), .int .u32 (fg : Int), .bool x.h, .string bd] 28)).cell? ⟨gf, 1, none⟩ = some (.int .u8 (fb : Int)) := (blk_cell hB9 1).trans rfl
          have fk2 : (w8.alloc (.cells #[.int .u8 (fa : Int), .int .u8 (fb : Int), .int .u8 (fc : Int), .int .u16 (fd : Int), .int .u32 (fe : Int), .int .u64 (ft : Int), .int .u32 (fg : Int), .bool x.h, .string bd] 28)).cell? ⟨gf, 2, none⟩ = some (.int .u8 (fc : Int)) := (blk_cell hB9 2).trans rfl
          have fk3 : (w8.alloc (.cells #[.int .u8 (fa : Int), .int .u8 (fb : Int), .int .u8 (fc : Int), .int .u16 (fd : Int), .int .u32 (fe : Int), .int .u64 (ft : Int), .int .u32 (fg : Int), .bool x.h, .string bd] 28)).cell? ⟨gf, 3, none⟩ = some (.int .u16 (fd : Int)) := (blk_cell hB9 3).trans rfl
          have fk4 : (w8.alloc (.cells #[.int .u8 (fa : Int), .int .u8 (fb : Int), .int .u8 (fc : Int), .int .u16 (fd : Int), .int .u32 (fe : Int), .int .u64 (ft : Int), .int .u32 (fg : Int), .bool x.h, .string bd] 28)).cell? ⟨gf, 4, none⟩ = some (.int .u32 (fe : Int)) := (blk_cell hB9 4).trans rfl
          have fk5 : (w8.alloc (.cells #[.int .u8 (fa : Int), .int .u8 (fb : Int), .int .u8 (fc : Int), .int .u16 (fd : Int), .int .u32 (fe : Int), .int .u64 (ft : Int), .int .u32 (fg : Int), .bool x.h, .string bd] 28)).cell? ⟨gf, 5, none⟩ = some (.int .u64 (ft : Int)) := (blk_cell hB9 5).trans rfl
          have fk6 : (w8.alloc (.cells #[.int .u8 (fa : Int), .int .u8 (fb : Int), .int .u8 (fc : Int), .int .u16 (fd : Int), .int .u32 (fe : Int), .int .u64 (ft : Int), .int .u32 (fg : Int), .bool x.h, .string bd] 28)).cell? ⟨gf, 6, none⟩ = some (.int .u32 (fg : Int)) := (blk_cell hB9 6).trans rfl
          have fk7 : (w8.alloc (.cells #[.int .u8 (fa : Int), .int .u8 (fb : Int), .int .u8 (fc : Int), .int .u16 (fd : Int), .int .u32 (fe : Int), .int .u64 (ft : Int), .int .u32 (fg : Int), .bool x.h, .string bd] 28)).cell? ⟨gf, 7, none⟩ = some (.bool x.h) := (blk_cell hB9 7).trans rfl
          have fk8 : (w8.alloc (.cells #[.int .u8 (fa : Int), .int .u8 (fb : Int), .int .u8 (fc : Int), .int .u16 (fd : Int), .int .u32 (fe : Int), .int .u64 (ft : Int), .int .u32 (fg : Int), .bool x.h, .string bd] 28)).cell? ⟨gf, 8, none⟩ = some (.string bd) := (blk_cell hB9 8).trans rfl
          clear hB8 hB9
          have HI9 := Aside0.mk (HI8.out.below ((Below.refl _ _).alloc (Nat.le_refl _) (.cells #[.int .u8 (fa : Int), .int .u8 (fb : Int), .int .u8 (fc : Int), .int .u16 (fd : Int), .int .u32 (fe : Int), .int .u64 (ft : Int), .int .u32 (fg : Int), .bool x.h, .string bd] 28)))
          clear HI8
          go_wp2_with fail
          refine (spLeft HI9.out.1).mono ?_
          rintro e_ w9 ⟨rfl, rfl⟩
          clear fk0 fk1 fk2 fk3 fk4 fk5 fk6 fk7 fk8
          go_wp2_with fail
          go_roundw
          case rel => exact ⟨k + 1, by omega, by omega, by go_num, by go_num, HI9⟩
          case measure => simp [intOf]; omega
      · have h3b : decide ((3000 : Int) < (J.size : Int)) = false := decide_eq_false (by omega)
        have h3c : ¬ (3000 : Int) < (J.size : Int) := by omega
        go_wp2_with fail
        have hGs : J.size ≤ 3000 := by omega
        clear h3 h3b h3c
        have AGn := AJn
        clear AJn
        generalize J = G at *
        have hz1 : z.size ≤ 8192 := by have := ASZ.out; omega
        have hbl : (bd.toList == bd.toList) = true := by simp
        have hbl2 : (bd.toList != bd.toList) = false := by simp
        refine (concordlaw21_fit.calls _ _ _ _ _ _ _ _ _ _ _ _ _ _ _ _ _ _ _ AF.out).mono ?_
        rintro e_ w3 ⟨rfl, hb3⟩
        have HI3 := Aside0.mk (HI2.out.below hb3)
        clear HI2 hb3 AF c0 c1 c2 c3 c4 c5 c6 c7 c8 c9
        go_wp2_with fail
        have hB3 := W_push w3 #[.int .u8 (fa : Int), .int .u8 (fb : Int), .int .u8 (fc : Int), .int .u16 (fd : Int), .int .u32 (fe : Int), .int .u64 (ft : Int), .int .u32 (fg : Int), .bool x.h, .string bd] 28 (0, 0)
        have HI3a := Aside0.mk (HI3.out.below ((Below.refl _ _).alloc (Nat.le_refl _) (.cells #[.int .u8 (fa : Int), .int .u8 (fb : Int), .int .u8 (fc : Int), .int .u16 (fd : Int), .int .u32 (fe : Int), .int .u64 (ft : Int), .int .u32 (fg : Int), .bool x.h, .string bd] 28)))
        clear HI3
        generalize w3.alloc (.cells #[.int .u8 (fa : Int), .int .u8 (fb : Int), .int .u8 (fc : Int), .int .u16 (fd : Int), .int .u32 (fe : Int), .int .u64 (ft : Int), .int .u32 (fg : Int), .bool x.h, .string bd] 28) = w3a at hB3 HI3a ⊢
        generalize w3.heap.size = gf at hB3 ⊢
        have hne : gf ≠ gs := by
          rintro rfl
          have h1 := hB3.symm.trans HI3a.out.1
          simp at h1
        refine (frame_Encode.calls _ _ _ _ _ _ _ _ _ _ _ w3a AE.out).mono ?_
        rintro e_ w4 ⟨rfl, hb4⟩
        have HI4 := Aside0.mk (HI3a.out.below hb4)
        have hB4 := Aside0.mk (blk_below hB3 hb4)
        clear HI3a hb4 AE hB3
        go_wp2_with fail
        refine (spFeed HI4.out.1 G (by show 0 + _ ≤ 65536; omega)).mono ?_
        rintro e_ w5 ⟨rfl, hS5, ha5⟩
        rw [str_nil] at hS5
        have HI5 := Aside0.mk (HI4.out.alone hS5 ha5)
        have hB5 := Aside0.mk ((ha5.2.2 gf hne).trans hB4.out)
        clear HI4 hS5 ha5 hB4
        by_cases hp : k % 2 = 0
        · skip
          have hpar : Int.tmod (k : Int) 2 = 0 := by rw [Int.tmod_eq_emod_of_nonneg (by omega)]; omega
          clear hp
          go_wp2_with fail
          refine (spNext_none HI5.out.1 (by omega) (by omega) AGn.out).mono ?_
          unfold zeroF
          rintro e_ w6 ⟨rfl, hS6, ha6⟩
          have HI6 := Aside0.mk (HI5.out.amid hS6 ha6)
          have hB6 := Aside0.mk ((ha6.2 gf (blk_lt hB5.out) hne).trans hB5.out)
          clear HI5 hS6 ha6 hpar hB5
          go_wp2_with fail
          have HI6a := Aside0.mk (HI6.out.below ((Below.refl _ _).alloc (Nat.le_refl _) (.cells #[.int .u8 0, .int .u8 0, .int .u8 0, .int .u16 0, .int .u32 0, .int .u64 0, .int .u32 0, .bool false, .string ⟨#[]⟩] 28)))
          have hB6a := Aside0.mk (blk_alloc hB6.out (.cells #[.int .u8 0, .int .u8 0, .int .u8 0, .int .u16 0, .int .u32 0, .int .u64 0, .int .u32 0, .bool false, .string ⟨#[]⟩] 28))
          clear HI6 hB6
          generalize w6.alloc (.cells #[.int .u8 0, .int .u8 0, .int .u8 0, .int .u16 0, .int .u32 0, .int .u64 0, .int .u32 0, .bool false, .string ⟨#[]⟩] 28) = w6a at HI6a hB6a ⊢
          refine (spFeed HI6a.out.1 z (by show 0 + z.size ≤ 65536; omega)).mono ?_
          rintro e_ w7 ⟨rfl, hS7, ha7⟩
          have HI7 := Aside0.mk (HI6a.out.alone hS7 ha7)
          have hB7 := Aside0.mk ((ha7.2.2 gf hne).trans hB6a.out)
          clear HI6a hS7 ha7 hB6a
          go_wp2_with fail
          refine (spNext_frame HI7.out.1 (by rw [str_nil]; omega) (by omega) (fun i hi => absurd hi (Nat.not_lt_zero i)) _ _ _ _ _ _ _ _ _ AZ.out).mono ?_
          rintro e_ w8 ⟨rfl, hS8, ha8⟩
          have hkk : ((0 + G.size + (⟨#[]⟩ : ByteArray).size : Nat) : Int) = (G.size : Int) := by show ((0 + G.size + 0 : Nat) : Int) = _; omega
          rw [hkk]
          have HI8 := Aside0.mk (HI7.out.amid hS8 ha8)
          have hB8 := (ha8.2 gf (blk_lt hB7.out) hne).trans hB7.out
          clear HI7 hS8 ha8 hkk hB7
          have hB9 := blk_alloc hB8 (.cells #[.int .u8 (fa : Int), .int .u8 (fb : Int), .int .u8 (fc : Int), .int .u16 (fd : Int), .int .u32 (fe : Int), .int .u64 (ft : Int), .int .u32 (fg : Int), .bool x.h, .string bd] 28)
          have fk0 : (w8.alloc (.cells #[.int .u8 (fa : Int), .int .u8 (fb : Int), .int .u8 (fc : Int), .int .u16 (fd : Int), .int .u32 (fe : Int), .int .u64 (ft : Int), .int .u32 (fg : Int), .bool x.h, .string bd] 28)).cell? ⟨gf, 0, none⟩ = some (.int .u8 (fa : Int)) := (blk_cell hB9 0).trans rfl
          have fk1 : (w8.alloc (.cells #[.int .u8 (fa : Int), .int .u8 (fb : Int), .int .u8 (fc : Int), .int .u16 (fd : Int), .int .u32 (fe : Int), .int .u64 (ft : Int), .int .u32 (fg : Int), .bool x.h, .string bd] 28)).cell? ⟨gf, 1, none⟩ = some (.int .u8 (fb : Int)) := (blk_cell hB9 1).trans rfl
          have fk2 : (w8.alloc (.cells #[.int .u8 (fa : Int), .int .u8 (fb : Int), .int .u8 (fc : Int), .int .u16 (fd : Int), .int .u32 (fe : Int), .int .u64 (ft : Int), .int .u32 (fg : Int), .bool x.h, .string bd] 28)).cell? ⟨gf, 2, none⟩ = some (.int .u8 (fc : Int)) := (blk_cell hB9 2).trans rfl
          have fk3 : (w8.alloc (.cells #[.int .u8 (fa : Int), .int .u8 (fb : Int), .int .u8 (fc : Int), .int .u16 (fd : Int), .int .u32 (fe : Int), .int .u64 (ft : Int), .int .u32 (fg : Int), .bool x.h, .string bd] 28)).cell? ⟨gf, 3, none⟩ = some (.int .u16 (fd : Int)) := (blk_cell hB9 3).trans rfl
          have fk4 : (w8.alloc (.cells #[.int .u8 (fa : Int), .int .u8 (fb : Int), .int .u8 (fc : Int), .int .u16 (fd : Int), .int .u32 (fe : Int), .int .u64 (ft : Int), .int .u32 (fg : Int), .bool x.h, .string bd] 28)).cell? ⟨gf, 4, none⟩ = some (.int .u32 (fe : Int)) := (blk_cell hB9 4).trans rfl
          have fk5 : (w8.alloc (.cells #[.int .u8 (fa : Int), .int .u8 (fb : Int), .int .u8 (fc : Int), .int .u16 (fd : Int), .int .u32 (fe : Int), .int .u64 (ft : Int), .int .u32 (fg : Int), .bool x.h, .string bd] 28)).cell? ⟨gf, 5, none⟩ = some (.int .u64 (ft : Int)) := (blk_cell hB9 5).trans rfl
          have fk6 : (w8.alloc (.cells #[.int .u8 (fa : Int), .int .u8 (fb : Int), .int .u8 (fc : Int), .int .u16 (fd : Int), .int .u32 (fe : Int), .int .u64 (ft : Int), .int .u32 (fg : Int), .bool x.h, .string bd] 28)).cell? ⟨gf, 6, none⟩ = some (.int .u32 (fg : Int)) := (blk_cell hB9 6).trans rfl
          have fk7 : (w8.alloc (.cells #[.int .u8 (fa : Int), .int .u8 (fb : Int), .int .u8 (fc : Int), .int .u16 (fd : Int), .int .u32 (fe : Int), .int .u64 (ft : Int), .int .u32 (fg : Int), .bool x.h, .string bd] 28)).cell? ⟨gf, 7, none⟩ = some (.bool x.h) := (blk_cell hB9 7).trans rfl
          have fk8 : (w8.alloc (.cells #[.int .u8 (fa : Int), .int .u8 (fb : Int), .int .u8 (fc : Int), .int .u16 (fd : Int), .int .u32 (fe : Int), .int .u64 (ft : Int), .int .u32 (fg : Int), .bool x.h, .string bd] 28)).cell? ⟨gf, 8, none⟩ = some (.string bd) := (blk_cell hB9 8).trans rfl
          clear hB8 hB9
          have HI9 := Aside0.mk (HI8.out.below ((Below.refl _ _).alloc (Nat.le_refl _) (.cells #[.int .u8 (fa : Int), .int .u8 (fb : Int), .int .u8 (fc : Int), .int .u16 (fd : Int), .int .u32 (fe : Int), .int .u64 (ft : Int), .int .u32 (fg : Int), .bool x.h, .string bd] 28)))
          clear HI8
          go_wp2_with fail
          refine (spLeft HI9.out.1).mono ?_
          rintro e_ w9 ⟨rfl, rfl⟩
          clear fk0 fk1 fk2 fk3 fk4 fk5 fk6 fk7 fk8
          go_wp2_with fail
          go_roundw
          case rel => exact ⟨k + 1, by omega, by omega, by go_num, by go_num, HI9⟩
          case measure => simp [intOf]; omega
        · skip
          have hpar : Int.tmod (k : Int) 2 = 1 := by rw [Int.tmod_eq_emod_of_nonneg (by omega)]; omega
          clear hp
          go_wp2_with fail
          refine (spFeed HI5.out.1 z (by omega)).mono ?_
          rintro e_ w7 ⟨rfl, hS7, ha7⟩
          have HI7 := Aside0.mk (HI5.out.alone hS7 ha7)
          have hB7 := Aside0.mk ((ha7.2.2 gf hne).trans hB5.out)
          clear HI5 hS7 ha7 hpar hB5
          go_wp2_with fail
          refine (spNext_frame HI7.out.1 (by rw [ByteArray.size_append]; omega) (by omega) AGn.out _ _ _ _ _ _ _ _ _ AZ.out).mono ?_
          rintro e_ w8 ⟨rfl, hS8, ha8⟩
          have hkk : ((0 + G.size : Nat) : Int) = (G.size : Int) := by omega
          rw [hkk]
          have HI8 := Aside0.mk (HI7.out.amid hS8 ha8)
          have hB8 := (ha8.2 gf (blk_lt hB7.out) hne).trans hB7.out
          clear HI7 hS8 ha8 hkk hB7
          have hB9 := blk_alloc hB8 (.cells #[.int .u8 (fa : Int), .int .u8 (fb : Int), .int .u8 (fc : Int), .int .u16 (fd : Int), .int .u32 (fe : Int), .int .u64 (ft : Int), .int .u32 (fg : Int), .bool x.h, .string bd] 28)
          have fk0 : (w8.alloc (.cells #[.int .u8 (fa : Int), .int .u8 (fb : Int), .int .u8 (fc : Int), .int .u16 (fd : Int), .int .u32 (fe : Int), .int .u64 (ft : Int), .int .u32 (fg : Int), .bool x.h, .string bd] 28)).cell? ⟨gf, 0, none⟩ = some (.int .u8 (fa : Int)) := (blk_cell hB9 0).trans rfl
          have fk1 : (w8.alloc (.cells #[.int .u8 (fa : Int), .int .u8 (fb : Int), .int .u8 (fc : Int), .int .u16 (fd : Int), .int .u32 (fe : Int), .int .u64 (ft : Int), .int .u32 (fg : Int), .bool x.h, .string bd] 28)).cell? ⟨gf, 1, none⟩ = some (.int .u8 (fb : Int)) := (blk_cell hB9 1).trans rfl
          have fk2 : (w8.alloc (.cells #[.int .u8 (fa : Int), .int .u8 (fb : Int), .int .u8 (fc : Int), .int .u16 (fd : Int), .int .u32 (fe : Int), .int .u64 (ft : Int), .int .u32 (fg : Int), .bool x.h, .string bd] 28)).cell? ⟨gf, 2, none⟩ = some (.int .u8 (fc : Int)) := (blk_cell hB9 2).trans rfl
          have fk3 : (w8.alloc (.cells #[.int .u8 (fa : Int), .int .u8 (fb : Int), .int .u8 (fc : Int), .int .u16 (fd : Int), .int .u32 (fe : Int), .int .u64 (ft : Int), .int .u32 (fg : Int), .bool x.h, .string bd] 28)).cell? ⟨gf, 3, none⟩ = some (.int .u16 (fd : Int)) := (blk_cell hB9 3).trans rfl
          have fk4 : (w8.alloc (.cells #[.int .u8 (fa : Int), .int .u8 (fb : Int), .int .u8 (fc : Int), .int .u16 (fd : Int), .int .u32 (fe : Int), .int .u64 (ft : Int), .int .u32 (fg : Int), .bool x.h, .string bd] 28)).cell? ⟨gf, 4, none⟩ = some (.int .u32 (fe : Int)) := (blk_cell hB9 4).trans rfl
          have fk5 : (w8.alloc (.cells #[.int .u8 (fa : Int), .int .u8 (fb : Int), .int .u8 (fc : Int), .int .u16 (fd : Int), .int .u32 (fe : Int), .int .u64 (ft : Int), .int .u32 (fg : Int), .bool x.h, .string bd] 28)).cell? ⟨gf, 5, none⟩ = some (.int .u64 (ft : Int)) := (blk_cell hB9 5).trans rfl
          have fk6 : (w8.alloc (.cells #[.int .u8 (fa : Int), .int .u8 (fb : Int), .int .u8 (fc : Int), .int .u16 (fd : Int), .int .u32 (fe : Int), .int .u64 (ft : Int), .int .u32 (fg : Int), .bool x.h, .string bd] 28)).cell? ⟨gf, 6, none⟩ = some (.int .u32 (fg : Int)) := (blk_cell hB9 6).trans rfl
          have fk7 : (w8.alloc (.cells #[.int .u8 (fa : Int), .int .u8 (fb : Int), .int .u8 (fc : Int), .int .u16 (fd : Int), .int .u32 (fe : Int), .int .u64 (ft : Int), .int .u32 (fg : Int), .bool x.h, .string bd] 28)).cell? ⟨gf, 7, none⟩ = some (.bool x.h) := (blk_cell hB9 7).trans rfl
          have fk8 : (w8.alloc (.cells #[.int .u8 (fa : Int), .int .u8 (fb : Int), .int .u8 (fc : Int), .int .u16 (fd : Int), .int .u32 (fe : Int), .int .u64 (ft : Int), .int .u32 (fg : Int), .bool x.h, .string bd] 28)).cell? ⟨gf, 8, none⟩ = some (.string bd) := (blk_cell hB9 8).trans rfl
          clear hB8 hB9
          have HI9 := Aside0.mk (HI8.out.below ((Below.refl _ _).alloc (Nat.le_refl _) (.cells #[.int .u8 (fa : Int), .int .u8 (fb : Int), .int .u8 (fc : Int), .int .u16 (fd : Int), .int .u32 (fe : Int), .int .u64 (ft : Int), .int .u32 (fg : Int), .bool x.h, .string bd] 28)))
          clear HI8
          go_wp2_with fail
          refine (spLeft HI9.out.1).mono ?_
          rintro e_ w9 ⟨rfl, rfl⟩
          clear fk0 fk1 fk2 fk3 fk4 fk5 fk6 fk7 fk8
          go_wp2_with fail
          go_roundw
          case rel => exact ⟨k + 1, by omega, by omega, by go_num, by go_num, HI9⟩
          case measure => simp [intOf]; omega
    · obtain ⟨P, hP, hPs, hPn⟩ := plain_ex s hs
      have AP := Aside0.mk hP
      have APn := Aside0.mk hPn
      clear hP hPn
      by_cases hend : s.size < 3000
      · have e1 : decide ((s.size : Int) < 3000) = true := decide_eq_true (by omega)
        by_cases hq : k = xs.length
        · skip
          subst hq
          clear hlt
          have hm1 : ¬ (20 : Int) < (xs.length : Int) := by omega
          have hm2 : (xs.length : Int) ≤ 20 := by omega
          go_wp2_with fail
          refine (AP.out _).mono ?_
          rintro e_ w2 ⟨rfl, hb2⟩
          have HI2 := Aside0.mk (HI.out.below hb2)
          clear HI hb2 AP
          go_wp2_with fail
          refine (spFeed HI2.out.1 P (by show 0 + P.size ≤ 65536; omega)).mono ?_
          rintro e_ w3 ⟨rfl, hS3, ha3⟩
          rw [str_nil] at hS3
          have HI3 := Aside0.mk (HI2.out.alone hS3 ha3)
          clear HI2 hS3 ha3
          go_wp2_with fail
          refine (spNext_none HI3.out.1 (by omega) (by omega) APn.out).mono ?_
          unfold zeroF
          rintro e_ w4 ⟨rfl, hS4, ha4⟩
          have HI4 := Aside0.mk (HI3.out.amid hS4 ha4)
          clear HI3 hS4 ha4
          go_wp2_with fail
          have HI5 := Aside0.mk (HI4.out.below ((Below.refl _ _).alloc (Nat.le_refl _) (.cells #[.int .u8 0, .int .u8 0, .int .u8 0, .int .u16 0, .int .u32 0, .int .u64 0, .int .u32 0, .bool false, .string ⟨#[]⟩] 28)))
          clear HI4
          generalize w4.alloc (.cells #[.int .u8 0, .int .u8 0, .int .u8 0, .int .u16 0, .int .u32 0, .int .u64 0, .int .u32 0, .bool false, .string ⟨#[]⟩] 28) = w5 at HI5 ⊢
          refine (spLeft HI5.out.1).mono ?_
          rintro e_ w6 ⟨rfl, rfl⟩
          rw [show (((⟨#[]⟩ : ByteArray).size : Nat) : Int) = 0 from rfl]
          go_wp2_with fail
          refine (PG.concordlaw21_alive.calls true _ alive_f).mono ?_
          rintro e_ w6 ⟨rfl, hb6⟩
          go_wp2_with fail
          go_ret
          exact ⟨rfl, (HI5.out.below hb6).2.1⟩
        · skip
          obtain rfl : k = 20 := by omega
          have hm0 : 20 < xs.length := by omega
          have hm1 : (20 : Int) < (xs.length : Int) := by omega
          clear hlt
          go_wp2_with fail
          refine (AP.out _).mono ?_
          rintro e_ w2 ⟨rfl, hb2⟩
          have HI2 := Aside0.mk (HI.out.below hb2)
          clear HI hb2 AP
          go_wp2_with fail
          refine (spFeed HI2.out.1 P (by show 0 + P.size ≤ 65536; omega)).mono ?_
          rintro e_ w3 ⟨rfl, hS3, ha3⟩
          rw [str_nil] at hS3
          have HI3 := Aside0.mk (HI2.out.alone hS3 ha3)
          clear HI2 hS3 ha3
          go_wp2_with fail
          refine (spNext_none HI3.out.1 (by omega) (by omega) APn.out).mono ?_
          unfold zeroF
          rintro e_ w4 ⟨rfl, hS4, ha4⟩
          have HI4 := Aside0.mk (HI3.out.amid hS4 ha4)
          clear HI3 hS4 ha4
          go_wp2_with fail
          have HI5 := Aside0.mk (HI4.out.below ((Below.refl _ _).alloc (Nat.le_refl _) (.cells #[.int .u8 0, .int .u8 0, .int .u8 0, .int .u16 0, .int .u32 0, .int .u64 0, .int .u32 0, .bool false, .string ⟨#[]⟩] 28)))
          clear HI4
          generalize w4.alloc (.cells #[.int .u8 0, .int .u8 0, .int .u8 0, .int .u16 0, .int .u32 0, .int .u64 0, .int .u32 0, .bool false, .string ⟨#[]⟩] 28) = w5 at HI5 ⊢
          refine (spLeft HI5.out.1).mono ?_
          rintro e_ w6 ⟨rfl, rfl⟩
          rw [show (((⟨#[]⟩ : ByteArray).size : Nat) : Int) = 0 from rfl]
          go_wp2_with fail
          refine (PG.concordlaw21_alive.calls true _ alive_f).mono ?_
          rintro e_ w6 ⟨rfl, hb6⟩
          go_wp2_with fail
          go_ret
          exact ⟨rfl, (HI5.out.below hb6).2.1⟩
      · have e1 : decide ((s.size : Int) < 3000) = false := decide_eq_false (by omega)
        by_cases hq : k = xs.length
        · skip
          subst hq
          clear hlt
          have hm1 : ¬ (20 : Int) < (xs.length : Int) := by omega
          have hm2 : (xs.length : Int) ≤ 20 := by omega
          go_wp2_with fail
          refine (spNext_none HI.out.1 (by show 0 ≤ 65536; omega) (by omega) (fun i hi => absurd hi (Nat.not_lt_zero i))).mono ?_
          have HI3 := HI
          clear HI
          unfold zeroF
          rintro e_ w4 ⟨rfl, hS4, ha4⟩
          have HI4 := Aside0.mk (HI3.out.amid hS4 ha4)
          clear HI3 hS4 ha4
          go_wp2_with fail
          have HI5 := Aside0.mk (HI4.out.below ((Below.refl _ _).alloc (Nat.le_refl _) (.cells #[.int .u8 0, .int .u8 0, .int .u8 0, .int .u16 0, .int .u32 0, .int .u64 0, .int .u32 0, .bool false, .string ⟨#[]⟩] 28)))
          clear HI4
          generalize w4.alloc (.cells #[.int .u8 0, .int .u8 0, .int .u8 0, .int .u16 0, .int .u32 0, .int .u64 0, .int .u32 0, .bool false, .string ⟨#[]⟩] 28) = w5 at HI5 ⊢
          refine (spLeft HI5.out.1).mono ?_
          rintro e_ w6 ⟨rfl, rfl⟩
          rw [show (((⟨#[]⟩ : ByteArray).size : Nat) : Int) = 0 from rfl]
          go_wp2_with fail
          refine (PG.concordlaw21_alive.calls true _ alive_f).mono ?_
          rintro e_ w6 ⟨rfl, hb6⟩
          go_wp2_with fail
          go_ret
          exact ⟨rfl, (HI5.out.below hb6).2.1⟩
        · skip
          obtain rfl : k = 20 := by omega
          have hm0 : 20 < xs.length := by omega
          have hm1 : (20 : Int) < (xs.length : Int) := by omega
          clear hlt
          go_wp2_with fail
          refine (spNext_none HI.out.1 (by show 0 ≤ 65536; omega) (by omega) (fun i hi => absurd hi (Nat.not_lt_zero i))).mono ?_
          have HI3 := HI
          clear HI
          unfold zeroF
          rintro e_ w4 ⟨rfl, hS4, ha4⟩
          have HI4 := Aside0.mk (HI3.out.amid hS4 ha4)
          clear HI3 hS4 ha4
          go_wp2_with fail
          have HI5 := Aside0.mk (HI4.out.below ((Below.refl _ _).alloc (Nat.le_refl _) (.cells #[.int .u8 0, .int .u8 0, .int .u8 0, .int .u16 0, .int .u32 0, .int .u64 0, .int .u32 0, .bool false, .string ⟨#[]⟩] 28)))
          clear HI4
          generalize w4.alloc (.cells #[.int .u8 0, .int .u8 0, .int .u8 0, .int .u16 0, .int .u32 0, .int .u64 0, .int .u32 0, .bool false, .string ⟨#[]⟩] 28) = w5 at HI5 ⊢
          refine (spLeft HI5.out.1).mono ?_
          rintro e_ w6 ⟨rfl, rfl⟩
          rw [show (((⟨#[]⟩ : ByteArray).size : Nat) : Int) = 0 from rfl]
          go_wp2_with fail
          refine (PG.concordlaw21_alive.calls true _ alive_f).mono ?_
          rintro e_ w6 ⟨rfl, hb6⟩
          go_wp2_with fail
          go_ret
          exact ⟨rfl, (HI5.out.below hb6).2.1⟩
end Go.Proofs.Ytgboppgghidgbaa.My
