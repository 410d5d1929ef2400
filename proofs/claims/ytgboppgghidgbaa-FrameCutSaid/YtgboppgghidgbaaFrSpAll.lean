/- One byte turned: it is no frame. What was told is read; ranges. A Splitter in memory: New, Feed, Left, pass; strings.IndexByte. Splitter.Next where no frame's mark is among what waits, and where a frame stands behind bytes that are no mark. Splitter.Next where a frame stands behind bytes that are no mark. -/
import Derived.Test.YtgboppgghidgbaaFrPlain2
import Derived.Laws.Externs
namespace Go.Proofs.Ytgboppgghidgbaa.My
open Go.RowKit Go.Proofs.YtgboppgghidgbaaW.PrintWords Go.Proofs.Ytgboppgghidgbaa
set_option linter.unusedSimpArgs false
set_option linter.unusedVariables false
theorem decT_bad (s : ByteArray) (h : ¬ DecOk s) : decT s = (0, 0, 0, 0, 0, 0, 0, false, ⟨#[]⟩, 210) := by
  unfold decT; rw [if_neg h]
theorem fN_prefix (s m : ByteArray) (p n : Nat) (h : p + n ≤ s.size) : fN (s ++ m) p n = fN s p n := by
  unfold fN
  rw [natsOf_append, List.drop_append_of_le_length (by rw [natsOf_len]; omega), List.take_append_of_le_length (by rw [List.length_drop, natsOf_len]; omega)]
theorem fN_front (s : ByteArray) (q p n : Nat) (h : p + n ≤ q) : fN (s.extract 0 q) p n = fN s p n := by
  unfold fN
  rw [natsOf_extract, List.drop_zero, Nat.sub_zero, List.drop_take, List.take_take]
  congr 2
  omega
/-- More behind a frame is no frame. -/
theorem more_bad (s m : ByteArray) (h : HeadOk s) (hm : 0 < m.size) : ¬ DecOk (s ++ m) := by
  intro hd
  have h1 := hd.1.2.2.1
  have h2 := h.2.2.1
  have h3 := h.1.1
  rw [fN_prefix s m 2 2 (by omega), ByteArray.size_append] at h1
  omega
/-- A frame cut off is no frame. -/
theorem cut_bad (s : ByteArray) (h : HeadOk s) : ¬ DecOk (s.extract 0 (s.size - 1)) := by
  intro hd
  have h1 := hd.1.2.2.1
  have h2 := h.2.2.1
  have h3 := h.1.1
  rw [fN_front s _ 2 2 (by omega), ByteArray.size_extract] at h1
  omega
/-- One byte turned is no frame. -/
theorem turned_bad (s z : ByteArray) (a b c d e t g : Nat) (h : Bool) (bd : ByteArray) (hs : natsOf s = encN a b c d e t g h bd) (k v : Nat) (hk : k < s.size) (hz : natsOf z = (natsOf s).set k v) (hv : ∀ y, (natsOf s)[k]? = some y → v ≠ y) : ¬ DecOk z := by
  intro hd
  have hr := refields z hd.1 hd.2.1 hd.2.2.1
  rw [hz, hs] at hr
  have hkl : k < (encN a b c d e t g h bd).length := by rw [← hs, natsOf_len]; exact hk
  have hp : ∀ x ∈ preN a b c d e t g h bd, x < 256 := by
    intro x hx
    have h1 := natsOf_lt s
    rw [hs] at h1
    exact h1 x (List.mem_append_left _ hx)
  have hq : ∀ x ∈ preN (fN z 8 1) (fN z 9 1) (fN z 10 1) (fN z 11 2) (fN z 13 4) (fN z 17 8) (fN z 25 4) (fN z 29 1 == 1) (z.extract 30 (z.size - 4)), x < 256 := by
    intro x hx
    have h1 := natsOf_lt z
    rw [hz, hs, hr] at h1
    exact h1 x (List.mem_append_left _ hx)
  have := turned_tf _ _ k v hp hq hkl hr
  rw [hs] at hv
  exact hv _ (List.getElem?_eq_getElem hkl) this.symm
end Go.Proofs.Ytgboppgghidgbaa.My
namespace Go.Proofs.Ytgboppgghidgbaa.My
open Go.RowKit Go.Proofs.YtgboppgghidgbaaW.PrintWords Go.Proofs.Ytgboppgghidgbaa
set_option linter.unusedSimpArgs false
set_option linter.unusedVariables false
set_option maxRecDepth 100000
theorem dec_enc (a b c d e t g : Nat) (h : Bool) (bd : ByteArray) (ha : a < 256) (hb : b < 256) (hc : c < 256) (hd : d < 65536) (he : e < 4294967296) (ht : t < 18446744073709551616) (hg : g < 4294967296) (hM : May a b c d e g h bd.size) :
    decT (strOfNums (encF a b c d e t g h bd)) = ((a : Int), (b : Int), (c : Int), (d : Int), (e : Int), (t : Int), (g : Int), h, bd, 0) := by
  have hn := encF_nats a b c d e t g h bd ha hb hc
  generalize strOfNums (encF a b c d e t g h bd) = s at hn
  obtain ⟨hsz, hk, f1, f2, f3, f4, f5, f6, f7, f8, f9, f10⟩ := fields s a b c d e t g h bd hn ha hb hc hd he ht hg hM.2.2.2.2.2.2.2
  have hx : (fN s 29 1 == 1) = h := by rw [f8]; cases h <;> rfl
  have hx1 : fN s 29 1 ≤ 1 := by rw [f8]; split <;> omega
  have hok : DecOk s := ⟨hk, hx1, f10, by rw [hx, f1, f2, f3, f4, f5, f7, f9]; exact hM⟩
  unfold decT
  rw [if_pos hok, hx, f1, f2, f3, f4, f5, f6, f7, f9]
theorem wfr8 {n : Int} (h : (Lit.int .u8 n).wf = true) : 0 ≤ n ∧ n < 256 := by
  simp only [Lit.wf, IntKind.min, IntKind.max, Bool.and_eq_true, decide_eq_true_eq] at h; simp [IntKind.signed, IntKind.bits] at h; omega
theorem wfr16 {n : Int} (h : (Lit.int .u16 n).wf = true) : 0 ≤ n ∧ n < 65536 := by
  simp only [Lit.wf, IntKind.min, IntKind.max, Bool.and_eq_true, decide_eq_true_eq] at h; simp [IntKind.signed, IntKind.bits] at h; omega
theorem wfr32 {n : Int} (h : (Lit.int .u32 n).wf = true) : 0 ≤ n ∧ n < 4294967296 := by
  simp only [Lit.wf, IntKind.min, IntKind.max, Bool.and_eq_true, decide_eq_true_eq] at h; simp [IntKind.signed, IntKind.bits] at h; omega
theorem wfr64 {n : Int} (h : (Lit.int .u64 n).wf = true) : 0 ≤ n ∧ n < 18446744073709551616 := by
  simp only [Lit.wf, IntKind.min, IntKind.max, Bool.and_eq_true, decide_eq_true_eq] at h; simp [IntKind.signed, IntKind.bits] at h; omega
theorem wfr {a b c d e t g : Int} (wa : (Lit.int .u8 a).wf = true) (wb : (Lit.int .u8 b).wf = true) (wc : (Lit.int .u8 c).wf = true) (wd : (Lit.int .u16 d).wf = true) (we : (Lit.int .u32 e).wf = true) (wt : (Lit.int .u64 t).wf = true) (wg : (Lit.int .u32 g).wf = true) : Fr a b c d e t g :=
  ⟨wfr8 wa, wfr8 wb, wfr8 wc, wfr16 wd, wfr32 we, wfr64 wt, wfr32 wg⟩
end Go.Proofs.Ytgboppgghidgbaa.My
namespace Go.Proofs.Ytgboppgghidgbaa.My
open Go.RowKit Go.Proofs.YtgboppgghidgbaaW.PrintWords Go.Proofs.YtgboppgghidgbaaW.PrintLast Go.Proofs.YtgboppgghidgbaaW.PrintMore Go.Proofs.Ytgboppgghidgbaa
set_option linter.unusedSimpArgs false
set_option linter.unusedVariables false
set_option maxRecDepth 100000
set_option maxHeartbeats 1600000
/-- The Splitter at block g: what waits, how many bytes were passed over. -/
def SP (w : World) (g : Nat) (s : ByteArray) (p : Nat) : Prop := w.heap[g]? = some (.cells #[.string s, .int .i64 p] 92 (0, 0))
theorem SP.cells {w : World} {g : Nat} {s : ByteArray} {p : Nat} (h : SP w g s p) : w.cell? ⟨g, 0, none⟩ = some (.string s) ∧ w.cell? ⟨g, 1, none⟩ = some (.int .i64 p) ∧ w.frozen? ⟨g, 0, none⟩ = false ∧ w.frozen? ⟨g, 1, none⟩ = false :=
  ⟨(blk_cell h 0).trans rfl, (blk_cell h 1).trans rfl, blk_frozen h 0, blk_frozen h 1⟩
theorem SP.lt {w : World} {g : Nat} {s : ByteArray} {p : Nat} (h : SP w g s p) : g < w.heap.size := blk_lt h
theorem SP.below {w w' : World} {g : Nat} {s : ByteArray} {p : Nat} (h : SP w g s p) (hb : Below w.heap.size w w') : SP w' g s p := (hb.block g h.lt).trans h
theorem spNew (w : World) : Calls Try.prog 17 #[] w fun e w' => e = .returned (.pointer (some ⟨w.heap.size, 0, none⟩)) ∧ SP w' w.heap.size ⟨#[]⟩ 0 ∧ Below w.heap.size w w' := by
  go_enter Try.func17, Try.ntmps17
  go_wp2_with fail
  go_ret
  exact ⟨rfl, W_push w _ _ _, (Below.refl _ _).alloc (Nat.le_refl _) _⟩
theorem spLeft {w : World} {g : Nat} {s : ByteArray} {p : Nat} (h : SP w g s p) : Calls Try.prog 25 #[.pointer (some ⟨g, 0, none⟩)] w fun r w' => r = .returned (.int .i64 s.size) ∧ w = w' := by
  obtain ⟨h0, h1, _, _⟩ := h.cells
  go_enter Try.func25, Try.ntmps25
  go_wp2_with fail
  go_ret
  exact ⟨rfl, rfl⟩
theorem spLeft_nil (w : World) : Calls Try.prog 25 #[.pointer none] w fun r w' => r = .returned (.int .i64 0) ∧ w = w' := by
  go_enter Try.func25, Try.ntmps25
  go_wp2_with fail
  go_ret
  exact ⟨rfl, rfl⟩
theorem spFeed_nil (b : ByteArray) (w : World) : Calls Try.prog 21 #[.pointer none, .string b] w fun r w' => r = .returned (.int .i64 2) ∧ w = w' := by
  go_enter Try.func21, Try.ntmps21
  go_wp2_with fail
  go_ret
  exact ⟨rfl, rfl⟩
theorem spFeed_full {w : World} {g : Nat} {s : ByteArray} {p : Nat} (h : SP w g s p) (b : ByteArray) (hs : s.size ≤ 65536) (hb : b.size ≤ 140737488351232) (hf : 65536 < s.size + b.size) : Calls Try.prog 21 #[.pointer (some ⟨g, 0, none⟩), .string b] w fun r w' => r = .returned (.int .i64 3) ∧ w = w' := by
  obtain ⟨h0, h1, _, _⟩ := h.cells
  go_enter Try.func21, Try.ntmps21
  go_wp2_with fail
  go_ret
  exact ⟨rfl, rfl⟩
theorem spFeed {w : World} {g : Nat} {s : ByteArray} {p : Nat} (h : SP w g s p) (b : ByteArray) (hf : s.size + b.size ≤ 65536) : Calls Try.prog 21 #[.pointer (some ⟨g, 0, none⟩), .string b] w fun r w' => r = .returned (.int .i64 0) ∧ SP w' g (s ++ b) p ∧ Alone w w' g := by
  obtain ⟨h0, h1, f0, _⟩ := h.cells
  have HR := Aside0.mk h
  clear h
  go_enter Try.func21, Try.ntmps21
  go_wp2_with fail
  go_ret
  exact ⟨rfl, blk_set HR.out 0 (.string (s ++ b)), Alone_set w 0 g 0 _⟩
theorem spPass {w : World} {g : Nat} {s : ByteArray} {p : Nat} (h : SP w g s p) (n : Nat) (hn : n ≤ s.size) (hs : s.size ≤ 65536) (hp : p ≤ 140737488351232) : Calls Try.prog 52 #[.pointer (some ⟨g, 0, none⟩), .int .i64 n] w fun r w' => r = .returned (.tuple #[]) ∧ SP w' g (s.extract n s.size) (p + n) ∧ Alone w w' g := by
  obtain ⟨h0, h1, f0, f1⟩ := h.cells
  have HR := Aside0.mk h
  clear h
  go_enter Try.func52, Try.ntmps52
  go_wp2_with fail
  go_end0
  exact ⟨rfl, blk_set (blk_set HR.out 0 (.string (s.extract n s.size))) 1 (.int .i64 ((p : Int) + n)), (Alone_set w 0 g 0 _).trans (Alone_set _ 0 g 1 _)⟩
theorem spIdx0 (s : ByteArray) (c : Int) (w : World) : Calls Try.prog 65 #[.string s, .int .u8 c] w fun r w' => r = .returned (.int .i64 (firstIdx s c.toNat.toUInt8)) ∧ w = w' := by
  go_enter Try.func65, Try.ntmps65
  go_wp2_with fail
  rw [run_callFunc_extern Try.func69 (by kernel_rfl) (by kernel_rfl) (by kernel_rfl) (e := Extern.BytealgIndexByte.indexByte) (by kernel_rfl), run_indexByte_string]
  simp only [Result.andThen]
  rw [Oper.upon_value]
  go_wp2_with fail
  go_ret
  exact ⟨rfl, rfl⟩
theorem spIdx (s : ByteArray) (c : Int) (w : World) : Calls Try.prog 51 #[.string s, .int .u8 c] w fun r w' => r = .returned (.int .i64 (firstIdx s c.toNat.toUInt8)) ∧ w = w' := by
  go_enter Try.func51, Try.ntmps51
  go_wp2_with fail
  refine (spIdx0 s c w).mono ?_
  rintro e_ w1 ⟨rfl, rfl⟩
  go_wp2_with fail
  go_ret
  exact ⟨rfl, rfl⟩
theorem firstIdx_none (s : ByteArray) (c : UInt8) (h : ∀ i, i < s.size → s[i]! ≠ c) : firstIdx s c = -1 := by
  unfold firstIdx
  rw [List.find?_eq_none.2]
  intro i hi
  simpa using h i (List.mem_range.1 hi)
theorem firstIdx_at (s : ByteArray) (c : UInt8) (k : Nat) (hk : k < s.size) (hc : s[k]! = c) (h : ∀ i, i < k → s[i]! ≠ c) : firstIdx s c = k := by
  unfold firstIdx
  have e : (List.range s.size).find? (fun i => s[i]! == c) = some k := by
    rw [List.find?_eq_some_iff_append]
    refine ⟨by simpa using hc, List.range k, (List.range (s.size - k - 1)).map (· + (k + 1)), ?_, ?_⟩
    · conv => lhs; rw [show s.size = k + (1 + (s.size - k - 1)) by omega]
      rw [List.range_add, List.range_add]
      simp [Nat.add_assoc, Nat.add_comm, Nat.add_left_comm]
    · intro a ha
      simpa using h a (List.mem_range.1 ha)
  rw [e]
end Go.Proofs.Ytgboppgghidgbaa.My
namespace Go.Proofs.Ytgboppgghidgbaa.My
open Go.RowKit Go.Proofs.YtgboppgghidgbaaW.PrintWords Go.Proofs.YtgboppgghidgbaaW.PrintLast Go.Proofs.YtgboppgghidgbaaW.PrintMore Go.Proofs.Ytgboppgghidgbaa
set_option linter.unusedSimpArgs false
set_option linter.unusedVariables false
set_option maxRecDepth 100000
set_option maxHeartbeats 3200000
/-- Of what stood, the block g alone has changed. -/
def Amid (w w' : World) (g : Nat) : Prop := Below 0 w w' ∧ ∀ k, k < w.heap.size → k ≠ g → w'.heap[k]? = w.heap[k]?
def zeroF : Value := .agg #[.int .u8 0, .int .u8 0, .int .u8 0, .int .u16 0, .int .u32 0, .int .u64 0, .int .u32 0, .bool false, .string ⟨#[]⟩]
theorem Amid.refl (w : World) (g : Nat) : Amid w w g := ⟨Below.refl _ _, fun _ _ _ => rfl⟩
theorem Amid.size {w W : World} {g : Nat} (h : Amid w W g) : w.heap.size ≤ W.heap.size := h.1.size
theorem Amid.below {w W W' : World} {g : Nat} (h : Amid w W g) (k : Below W.heap.size W W') : Amid w W' g :=
  ⟨h.1.trans (k.mono (Nat.zero_le _)), fun i hi hg => (k.block i (Nat.lt_of_lt_of_le hi h.1.size)).trans (h.2 i hi hg)⟩
theorem Amid.alone {w W W' : World} {g : Nat} (h : Amid w W g) (k : Alone W W' g) : Amid w W' g :=
  ⟨h.1.trans k.1, fun i hi hg => (k.2.2 i hg).trans (h.2 i hi hg)⟩
theorem Amid.set {w W : World} {g : Nat} (h : Amid w W g) (k j : Nat) (ha : w.heap.size ≤ k) (u : Value) : Amid w (W.setCell ⟨k, j, none⟩ u) g :=
  ⟨h.1.trans (Alone_set W 0 k j u).1, fun i hi hg => ((Alone_set W 0 k j u).2.2 i (by omega)).trans (h.2 i hi hg)⟩
theorem Amid.drewN {w W : World} {g : Nat} (h : Amid w W g) (m : Nat) : Amid w (W.drewN m) g :=
  ⟨h.1.trans ⟨rfl, rfl, rfl, Nat.le_refl _, fun _ _ => rfl⟩, h.2⟩
theorem SP.far {w : World} {g : Nat} {s : ByteArray} {p : Nat} (h : SP w g s p) {a : Addr} (ha : g ≠ a.block) (u : Value) : SP (w.setCell a u) g s p := blk_far h ha u
theorem zeroNew (w : World) : (w.alloc (.cells #[.int .u8 0, .int .u8 0, .int .u8 0, .int .u16 0, .int .u32 0, .int .u64 0, .int .u32 0, .bool false, .string ⟨#[]⟩] 28)).heap[w.heap.size]? = some (.cells #[.int .u8 0, .int .u8 0, .int .u8 0, .int .u16 0, .int .u32 0, .int .u64 0, .int .u32 0, .bool false, .string ⟨#[]⟩] 28 (0, 0)) := W_push w _ _ _
theorem spNext_nil (w : World) : Calls Try.prog 27 #[.pointer none] w fun r w' => r = .returned (.tuple #[zeroF, .int .i64 0, .bool false]) ∧ Below w.heap.size w w' := by
  go_enter Try.func27, Try.ntmps27
  go_wp2_with fail
  go_step3
  have hR := zeroNew w
  have hB := (Below.refl w.heap.size w).alloc (Nat.le_refl _) (.cells #[.int .u8 0, .int .u8 0, .int .u8 0, .int .u16 0, .int .u32 0, .int .u64 0, .int .u32 0, .bool false, .string ⟨#[]⟩] 28)
  generalize w.alloc (.cells #[.int .u8 0, .int .u8 0, .int .u8 0, .int .u16 0, .int .u32 0, .int .u64 0, .int .u32 0, .bool false, .string ⟨#[]⟩] 28) = W at *
  have qk0 : W.cell? ⟨w.heap.size, 0, none⟩ = some (.int .u8 0) := (blk_cell hR 0).trans rfl
  have qz0 : W.frozen? ⟨w.heap.size, 0, none⟩ = false := blk_frozen hR 0
  have qk1 : W.cell? ⟨w.heap.size, 1, none⟩ = some (.int .u8 0) := (blk_cell hR 1).trans rfl
  have qz1 : W.frozen? ⟨w.heap.size, 1, none⟩ = false := blk_frozen hR 1
  have qk2 : W.cell? ⟨w.heap.size, 2, none⟩ = some (.int .u8 0) := (blk_cell hR 2).trans rfl
  have qz2 : W.frozen? ⟨w.heap.size, 2, none⟩ = false := blk_frozen hR 2
  have qk3 : W.cell? ⟨w.heap.size, 3, none⟩ = some (.int .u16 0) := (blk_cell hR 3).trans rfl
  have qz3 : W.frozen? ⟨w.heap.size, 3, none⟩ = false := blk_frozen hR 3
  have qk4 : W.cell? ⟨w.heap.size, 4, none⟩ = some (.int .u32 0) := (blk_cell hR 4).trans rfl
  have qz4 : W.frozen? ⟨w.heap.size, 4, none⟩ = false := blk_frozen hR 4
  have qk5 : W.cell? ⟨w.heap.size, 5, none⟩ = some (.int .u64 0) := (blk_cell hR 5).trans rfl
  have qz5 : W.frozen? ⟨w.heap.size, 5, none⟩ = false := blk_frozen hR 5
  have qk6 : W.cell? ⟨w.heap.size, 6, none⟩ = some (.int .u32 0) := (blk_cell hR 6).trans rfl
  have qz6 : W.frozen? ⟨w.heap.size, 6, none⟩ = false := blk_frozen hR 6
  have qk7 : W.cell? ⟨w.heap.size, 7, none⟩ = some (.bool false) := (blk_cell hR 7).trans rfl
  have qz7 : W.frozen? ⟨w.heap.size, 7, none⟩ = false := blk_frozen hR 7
  have qk8 : W.cell? ⟨w.heap.size, 8, none⟩ = some (.string ⟨#[]⟩) := (blk_cell hR 8).trans rfl
  have qz8 : W.frozen? ⟨w.heap.size, 8, none⟩ = false := blk_frozen hR 8
  clear hR
  go_wp2_with fail
  rw [Exit.noGoto_ret]
  all_goals refine bodyPost_ret (v := .tuple #[zeroF, .int .i64 0, .bool false]) (by simp [results, zeroF, Try.results27, go_sem, qk0, qk1, qk2, qk3, qk4, qk5, qk6, qk7, qk8]) rfl ⟨rfl, ?_⟩
  all_goals repeat (first | (with_reducible exact hB) | refine below_set ?_ (Nat.le_refl _))
theorem spNext_none {w : World} {g : Nat} {s : ByteArray} {p : Nat} (h : SP w g s p) (hs : s.size ≤ 65536) (hp : p ≤ 140737488351232) (hj : ∀ i, i < s.size → s[i]! ≠ 157) : Calls Try.prog 27 #[.pointer (some ⟨g, 0, none⟩)] w fun r w' => r = .returned (.tuple #[zeroF, .int .i64 0, .bool false]) ∧ SP w' g ⟨#[]⟩ (p + s.size) ∧ Amid w w' g := by
  have HQ : Aside0 (∀ w : World, Calls Try.prog 51 #[.string s, .int .u8 157] w fun r w' => r = .returned (.int .i64 (-1)) ∧ w' = w) := ⟨fun w => (spIdx s 157 w).mono fun _ _ h => ⟨by rw [h.1, show ((157 : Int).toNat.toUInt8) = 157 from rfl, firstIdx_none s 157 hj], h.2.symm⟩⟩
  have hgl := h.lt
  clear hj
  go_enter Try.func27, Try.ntmps27
  go_wp2_with fail
  go_step3
  have hR := zeroNew w
  have hB := (Below.refl w.heap.size w).alloc (Nat.le_refl _) (.cells #[.int .u8 0, .int .u8 0, .int .u8 0, .int .u16 0, .int .u32 0, .int .u64 0, .int .u32 0, .bool false, .string ⟨#[]⟩] 28)
  have hA := (Amid.refl w g).below hB
  have hS : SP _ g s p := h.below hB
  generalize w.alloc (.cells #[.int .u8 0, .int .u8 0, .int .u8 0, .int .u16 0, .int .u32 0, .int .u64 0, .int .u32 0, .bool false, .string ⟨#[]⟩] 28) = W at *
  have HR := Aside0.mk hS
  have HA := Aside0.mk hA
  obtain ⟨h0, h1, f0, f1⟩ := hS.cells
  clear h hB hA hS
  go_wp2_with fail
  go_step3
  go_wp2_with fail
  go_quiet (first | (go_at_call 51; refine Calls.quiet_of_same (HQ.out _)))
  go_wp2_with fail
  have HR' : SP (W.drewN nq) g s p := HR.out
  have HA' := HA.out.drewN nq
  have hR' : (W.drewN nq).heap[w.heap.size]? = _ := hR
  clear h0 h1 f0 f1 HR HA hR
  generalize W.drewN nq = W at *
  refine (spPass HR' s.size (Nat.le_refl _) hs hp).mono ?_
  rintro e_ w1 ⟨rfl, hS1, hA1⟩
  have hR1 : w1.heap[w.heap.size]? = _ := (hA1.2.2 _ (by omega)).trans hR'
  have HA1 := Aside0.mk (HA'.alone hA1)
  have HR1 := Aside0.mk hS1
  clear hA1 hS1 HA' HR'
  have qk0 : w1.cell? ⟨w.heap.size, 0, none⟩ = some (.int .u8 0) := (blk_cell hR1 0).trans rfl
  have qz0 : w1.frozen? ⟨w.heap.size, 0, none⟩ = false := blk_frozen hR1 0
  have qk1 : w1.cell? ⟨w.heap.size, 1, none⟩ = some (.int .u8 0) := (blk_cell hR1 1).trans rfl
  have qz1 : w1.frozen? ⟨w.heap.size, 1, none⟩ = false := blk_frozen hR1 1
  have qk2 : w1.cell? ⟨w.heap.size, 2, none⟩ = some (.int .u8 0) := (blk_cell hR1 2).trans rfl
  have qz2 : w1.frozen? ⟨w.heap.size, 2, none⟩ = false := blk_frozen hR1 2
  have qk3 : w1.cell? ⟨w.heap.size, 3, none⟩ = some (.int .u16 0) := (blk_cell hR1 3).trans rfl
  have qz3 : w1.frozen? ⟨w.heap.size, 3, none⟩ = false := blk_frozen hR1 3
  have qk4 : w1.cell? ⟨w.heap.size, 4, none⟩ = some (.int .u32 0) := (blk_cell hR1 4).trans rfl
  have qz4 : w1.frozen? ⟨w.heap.size, 4, none⟩ = false := blk_frozen hR1 4
  have qk5 : w1.cell? ⟨w.heap.size, 5, none⟩ = some (.int .u64 0) := (blk_cell hR1 5).trans rfl
  have qz5 : w1.frozen? ⟨w.heap.size, 5, none⟩ = false := blk_frozen hR1 5
  have qk6 : w1.cell? ⟨w.heap.size, 6, none⟩ = some (.int .u32 0) := (blk_cell hR1 6).trans rfl
  have qz6 : w1.frozen? ⟨w.heap.size, 6, none⟩ = false := blk_frozen hR1 6
  have qk7 : w1.cell? ⟨w.heap.size, 7, none⟩ = some (.bool false) := (blk_cell hR1 7).trans rfl
  have qz7 : w1.frozen? ⟨w.heap.size, 7, none⟩ = false := blk_frozen hR1 7
  have qk8 : w1.cell? ⟨w.heap.size, 8, none⟩ = some (.string ⟨#[]⟩) := (blk_cell hR1 8).trans rfl
  have qz8 : w1.frozen? ⟨w.heap.size, 8, none⟩ = false := blk_frozen hR1 8
  clear hR' hR1
  go_wp2_with fail
  rw [Exit.noGoto_ret]
  refine bodyPost_ret (v := .tuple #[zeroF, .int .i64 0, .bool false]) (by simp [results, zeroF, Try.results27, go_sem, qk0, qk1, qk2, qk3, qk4, qk5, qk6, qk7, qk8]) rfl ⟨rfl, ?_, ?_⟩
  · rw [show (⟨#[]⟩ : ByteArray) = s.extract s.size s.size by simp [ByteArray.ext_iff]]
    repeat (first | (with_reducible exact HR1.out) | refine SP.far ?_ (Nat.ne_of_lt hgl) _)
  · repeat (first | (with_reducible exact HA1.out) | refine Amid.set ?_ _ _ (Nat.le_refl _) _)
end Go.Proofs.Ytgboppgghidgbaa.My
namespace Go.Proofs.Ytgboppgghidgbaa.My
open Go.RowKit Go.Proofs.YtgboppgghidgbaaW.PrintWords Go.Proofs.YtgboppgghidgbaaW.PrintLast Go.Proofs.YtgboppgghidgbaaW.PrintMore Go.Proofs.Ytgboppgghidgbaa
set_option linter.unusedSimpArgs false
set_option linter.unusedVariables false
set_option maxRecDepth 100000
set_option maxHeartbeats 1600000
/-- Nine cells of a block, written one after another. -/
def put9 (W : World) (k : Nat) (v0 v1 v2 v3 v4 v5 v6 v7 v8 : Value) : World := (((((((((W.setCell ⟨k, 0, none⟩ v0).setCell ⟨k, 1, none⟩ v1).setCell ⟨k, 2, none⟩ v2).setCell ⟨k, 3, none⟩ v3).setCell ⟨k, 4, none⟩ v4).setCell ⟨k, 5, none⟩ v5).setCell ⟨k, 6, none⟩ v6).setCell ⟨k, 7, none⟩ v7).setCell ⟨k, 8, none⟩ v8)
theorem put9_def (W : World) (k : Nat) (v0 v1 v2 v3 v4 v5 v6 v7 v8 : Value) : (((((((((W.setCell ⟨k, 0, none⟩ v0).setCell ⟨k, 1, none⟩ v1).setCell ⟨k, 2, none⟩ v2).setCell ⟨k, 3, none⟩ v3).setCell ⟨k, 4, none⟩ v4).setCell ⟨k, 5, none⟩ v5).setCell ⟨k, 6, none⟩ v6).setCell ⟨k, 7, none⟩ v7).setCell ⟨k, 8, none⟩ v8) = put9 W k v0 v1 v2 v3 v4 v5 v6 v7 v8 := rfl
theorem put9_row {W : World} {k : Nat} {t : TypeId} {c0 c1 c2 c3 c4 c5 c6 c7 c8 : Value} (h : W.heap[k]? = some (.cells #[c0, c1, c2, c3, c4, c5, c6, c7, c8] t (0, 0))) (v0 v1 v2 v3 v4 v5 v6 v7 v8 : Value) : (put9 W k v0 v1 v2 v3 v4 v5 v6 v7 v8).heap[k]? = some (.cells #[v0, v1, v2, v3, v4, v5, v6, v7, v8] t (0, 0)) := by
  unfold put9
  have h0 : (W.setCell ⟨k, 0, none⟩ v0).heap[k]? = some (.cells #[v0, c1, c2, c3, c4, c5, c6, c7, c8] t (0, 0)) := blk_set h 0 v0
  generalize W.setCell ⟨k, 0, none⟩ v0 = W0 at h0 ⊢
  have h1 : (W0.setCell ⟨k, 1, none⟩ v1).heap[k]? = some (.cells #[v0, v1, c2, c3, c4, c5, c6, c7, c8] t (0, 0)) := blk_set h0 1 v1
  generalize W0.setCell ⟨k, 1, none⟩ v1 = W1 at h1 ⊢
  have h2 : (W1.setCell ⟨k, 2, none⟩ v2).heap[k]? = some (.cells #[v0, v1, v2, c3, c4, c5, c6, c7, c8] t (0, 0)) := blk_set h1 2 v2
  generalize W1.setCell ⟨k, 2, none⟩ v2 = W2 at h2 ⊢
  have h3 : (W2.setCell ⟨k, 3, none⟩ v3).heap[k]? = some (.cells #[v0, v1, v2, v3, c4, c5, c6, c7, c8] t (0, 0)) := blk_set h2 3 v3
  generalize W2.setCell ⟨k, 3, none⟩ v3 = W3 at h3 ⊢
  have h4 : (W3.setCell ⟨k, 4, none⟩ v4).heap[k]? = some (.cells #[v0, v1, v2, v3, v4, c5, c6, c7, c8] t (0, 0)) := blk_set h3 4 v4
  generalize W3.setCell ⟨k, 4, none⟩ v4 = W4 at h4 ⊢
  have h5 : (W4.setCell ⟨k, 5, none⟩ v5).heap[k]? = some (.cells #[v0, v1, v2, v3, v4, v5, c6, c7, c8] t (0, 0)) := blk_set h4 5 v5
  generalize W4.setCell ⟨k, 5, none⟩ v5 = W5 at h5 ⊢
  have h6 : (W5.setCell ⟨k, 6, none⟩ v6).heap[k]? = some (.cells #[v0, v1, v2, v3, v4, v5, v6, c7, c8] t (0, 0)) := blk_set h5 6 v6
  generalize W5.setCell ⟨k, 6, none⟩ v6 = W6 at h6 ⊢
  have h7 : (W6.setCell ⟨k, 7, none⟩ v7).heap[k]? = some (.cells #[v0, v1, v2, v3, v4, v5, v6, v7, c8] t (0, 0)) := blk_set h6 7 v7
  generalize W6.setCell ⟨k, 7, none⟩ v7 = W7 at h7 ⊢
  have h8 : (W7.setCell ⟨k, 8, none⟩ v8).heap[k]? = some (.cells #[v0, v1, v2, v3, v4, v5, v6, v7, v8] t (0, 0)) := blk_set h7 8 v8
  generalize W7.setCell ⟨k, 8, none⟩ v8 = W8 at h8 ⊢
  exact h8
theorem put9_alone (W : World) (k : Nat) (v0 v1 v2 v3 v4 v5 v6 v7 v8 : Value) : Alone W (put9 W k v0 v1 v2 v3 v4 v5 v6 v7 v8) k := by
  unfold put9
  have a0 : Alone W (W.setCell ⟨k, 0, none⟩ v0) k := Alone_set W 0 k 0 v0
  generalize W.setCell ⟨k, 0, none⟩ v0 = W0 at a0 ⊢
  have a1 : Alone W (W0.setCell ⟨k, 1, none⟩ v1) k := a0.trans (Alone_set W0 0 k 1 v1)
  generalize W0.setCell ⟨k, 1, none⟩ v1 = W1 at a1 ⊢
  have a2 : Alone W (W1.setCell ⟨k, 2, none⟩ v2) k := a1.trans (Alone_set W1 0 k 2 v2)
  generalize W1.setCell ⟨k, 2, none⟩ v2 = W2 at a2 ⊢
  have a3 : Alone W (W2.setCell ⟨k, 3, none⟩ v3) k := a2.trans (Alone_set W2 0 k 3 v3)
  generalize W2.setCell ⟨k, 3, none⟩ v3 = W3 at a3 ⊢
  have a4 : Alone W (W3.setCell ⟨k, 4, none⟩ v4) k := a3.trans (Alone_set W3 0 k 4 v4)
  generalize W3.setCell ⟨k, 4, none⟩ v4 = W4 at a4 ⊢
  have a5 : Alone W (W4.setCell ⟨k, 5, none⟩ v5) k := a4.trans (Alone_set W4 0 k 5 v5)
  generalize W4.setCell ⟨k, 5, none⟩ v5 = W5 at a5 ⊢
  have a6 : Alone W (W5.setCell ⟨k, 6, none⟩ v6) k := a5.trans (Alone_set W5 0 k 6 v6)
  generalize W5.setCell ⟨k, 6, none⟩ v6 = W6 at a6 ⊢
  have a7 : Alone W (W6.setCell ⟨k, 7, none⟩ v7) k := a6.trans (Alone_set W6 0 k 7 v7)
  generalize W6.setCell ⟨k, 7, none⟩ v7 = W7 at a7 ⊢
  have a8 : Alone W (W7.setCell ⟨k, 8, none⟩ v8) k := a7.trans (Alone_set W7 0 k 8 v8)
  generalize W7.setCell ⟨k, 8, none⟩ v8 = W8 at a8 ⊢
  exact a8
theorem SP.alone {w w' : World} {g k : Nat} {s : ByteArray} {p : Nat} (h : SP w g s p) (ha : Alone w w' k) (hk : g ≠ k) : SP w' g s p := (ha.2.2 g hk).trans h
theorem Amid.other {w W W' : World} {g k : Nat} (h : Amid w W g) (ha : Alone W W' k) (hk : w.heap.size ≤ k) : Amid w W' g :=
  ⟨h.1.trans ha.1, fun i hi hg => (ha.2.2 i (by omega)).trans (h.2 i hi hg)⟩
theorem spNext_frame {w : World} {gs : Nat} {j z : ByteArray} {p : Nat} (h : SP w gs (j ++ z) p) (hs : (j ++ z).size ≤ 65536) (hp : p ≤ 140737488351232) (hj : ∀ i, i < j.size → j[i]! ≠ 157) (a b c d e t g : Int) (hh : Bool) (bd : ByteArray) (hD : frame_Decode.f z = some (a, b, c, d, e, t, g, hh, bd, 0)) : Calls Try.prog 27 #[.pointer (some ⟨gs, 0, none⟩)] w fun r w' => r = .returned (.tuple #[.agg #[.int .u8 a, .int .u8 b, .int .u8 c, .int .u16 d, .int .u32 e, .int .u64 t, .int .u32 g, .bool hh, .string bd], .int .i64 ((p + j.size : Nat) : Int), .bool true]) ∧ SP w' gs ⟨#[]⟩ 0 ∧ Amid w w' gs := by
  have hsz : (j ++ z).size = j.size + z.size := ByteArray.size_append
  have hok : DecOk z := by
    have h1 : z.size ≤ 562949953421312 := by omega
    by_cases hk : DecOk z
    · exact hk
    · rw [frame_Decode.f, if_pos h1, decT_bad z hk] at hD
      simp at hD
  obtain ⟨n0, ok0, hh0, hiff⟩ := head_ex z (by omega)
  obtain ⟨rfl, rfl, h34⟩ := hiff.2 hok.1
  have hz0 : z[0]! = 157 := by
    have hm := hok.1.2.1
    have h0 : (z.extract 0 2)[0]! = 157 := by rw [hm]; rfl
    rw [getElem!_pos z 0 (by omega)]
    rw [getElem!_pos _ 0 (by rw [ByteArray.size_extract]; omega), ByteArray.getElem_extract] at h0
    exact h0
  have hidx : firstIdx (j ++ z) 157 = j.size := by
    refine firstIdx_at _ _ j.size (by omega) ?_ ?_
    · rw [getElem!_pos (j ++ z) j.size (by omega), ByteArray.getElem_append_right (Nat.le_refl _)]
      rw [getElem!_pos z 0 (by omega)] at hz0
      simpa using hz0
    · intro i hi
      have := hj i hi
      rw [getElem!_pos (j ++ z) i (by omega)]
      rw [getElem!_pos j i hi] at this
      rw [ByteArray.getElem_append_left hi]
      exact this
  have hext : (j ++ z).extract j.size (j ++ z).size = z := by
    rw [hsz, ByteArray.extract_append_eq_right rfl rfl]
  have hzz : z.extract 0 z.size = z := by simp
  have HQ : Aside0 (∀ w : World, Calls Try.prog 51 #[.string (j ++ z), .int .u8 157] w fun r w' => r = .returned (.int .i64 (j.size : Int)) ∧ w' = w) := ⟨fun w => (spIdx (j ++ z) 157 w).mono fun _ _ h => ⟨by rw [h.1, show ((157 : Int).toNat.toUInt8) = 157 from rfl, hidx], h.2.symm⟩⟩
  have HE := Aside0.mk hext
  have HZ := Aside0.mk hzz
  have HD := Aside0.mk hD
  have HH := Aside0.mk hh0
  have hjl : j.size ≤ (j ++ z).size := by omega
  have hgl := h.lt
  have hnz : ((z.size : Int) == 0) = false := beq_eq_false_iff_ne.mpr (by omega)
  clear hj hidx hext hzz hD hh0 hz0 hiff hok
  go_enter Try.func27, Try.ntmps27
  go_wp2_with fail
  go_step3
  have hR := zeroNew w
  have hB := (Below.refl w.heap.size w).alloc (Nat.le_refl _) (.cells #[.int .u8 0, .int .u8 0, .int .u8 0, .int .u16 0, .int .u32 0, .int .u64 0, .int .u32 0, .bool false, .string ⟨#[]⟩] 28)
  have hA := (Amid.refl w gs).below hB
  have hS : SP _ gs (j ++ z) p := h.below hB
  generalize w.alloc (.cells #[.int .u8 0, .int .u8 0, .int .u8 0, .int .u16 0, .int .u32 0, .int .u64 0, .int .u32 0, .bool false, .string ⟨#[]⟩] 28) = W at *
  have HR := Aside0.mk hS
  have HA := Aside0.mk hA
  obtain ⟨h0, h1, f0, f1⟩ := hS.cells
  clear h hB hA hS
  go_wp2_with fail
  go_step3
  go_wp2_with fail
  go_quiet (first | (go_at_call 51; refine Calls.quiet_of_same (HQ.out _)))
  go_wp2_with fail
  have HR' : SP (W.drewN nq) gs (j ++ z) p := HR.out
  have HA' := HA.out.drewN nq
  have hR' : (W.drewN nq).heap[w.heap.size]? = _ := hR
  clear h0 h1 f0 f1 HR HA hR
  generalize W.drewN nq = W at *
  refine (spPass HR' j.size hjl hs hp).mono ?_
  rintro e_ w1 ⟨rfl, hS1, hA1⟩
  have hR1 : w1.heap[w.heap.size]? = _ := (hA1.2.2 _ (by omega)).trans hR'
  have HA1 := Aside0.mk (HA'.alone hA1)
  rw [HE.out] at hS1
  have HS1 := Aside0.mk hS1
  clear HR' HA' hA1 hR'
  obtain ⟨h0, h1, f0, f1⟩ := hS1.cells
  clear hS1
  go_wp2_with fail
  refine (PF.frame_head.calls 12 z _ _ w1 HH.out).mono ?_
  rintro e_ w2 ⟨rfl, hb2⟩
  have HA2 := Aside0.mk (HA1.out.below hb2)
  have HS2 := Aside0.mk (HS1.out.below hb2)
  have hR2 := (hb2.block _ (blk_lt hR1)).trans hR1
  clear h0 h1 f0 f1 HS1 HA1 hR1 hb2
  obtain ⟨h0, h1, f0, f1⟩ := HS2.out.cells
  go_wp2_with fail
  refine (frame_Decode.calls z a b c d e t g hh bd 0 w2 HD.out).mono ?_
  rintro e_ w3 ⟨rfl, hb3⟩
  have HA3 := Aside0.mk (HA2.out.below hb3)
  have HS3 := Aside0.mk (HS2.out.below hb3)
  have hR3 := (hb3.block _ (blk_lt hR2)).trans hR2
  clear h0 h1 f0 f1 HS2 HA2 hR2 hb3
  have hB4 := (Below.refl w3.heap.size w3).alloc (Nat.le_refl _) (.cells #[.int .u8 a, .int .u8 b, .int .u8 c, .int .u16 d, .int .u32 e, .int .u64 t, .int .u32 g, .bool hh, .string bd] 28)
  have HA4 := Aside0.mk (HA3.out.below hB4)
  have HS4 := Aside0.mk (HS3.out.below hB4)
  have hR4 := (hB4.block _ (blk_lt hR3)).trans hR3
  have hF4 := W_push w3 #[.int .u8 a, .int .u8 b, .int .u8 c, .int .u16 d, .int .u32 e, .int .u64 t, .int .u32 g, .bool hh, .string bd] 28 (0, 0)
  have hne : w.heap.size < w3.heap.size := by have := blk_lt hR3; omega
  have hg3 : gs < w3.heap.size := by omega
  obtain ⟨k0, k1, l0, l1⟩ := HS3.out.cells
  clear hB4
  obtain ⟨h0, h1, f0, f1⟩ := HS4.out.cells
  have qk0 : w3.cell? ⟨w.heap.size, 0, none⟩ = some (.int .u8 0) := (blk_cell hR3 0).trans rfl
  have qz0 : w3.frozen? ⟨w.heap.size, 0, none⟩ = false := blk_frozen hR3 0
  have qk1 : w3.cell? ⟨w.heap.size, 1, none⟩ = some (.int .u8 0) := (blk_cell hR3 1).trans rfl
  have qz1 : w3.frozen? ⟨w.heap.size, 1, none⟩ = false := blk_frozen hR3 1
  have qk2 : w3.cell? ⟨w.heap.size, 2, none⟩ = some (.int .u8 0) := (blk_cell hR3 2).trans rfl
  have qz2 : w3.frozen? ⟨w.heap.size, 2, none⟩ = false := blk_frozen hR3 2
  have qk3 : w3.cell? ⟨w.heap.size, 3, none⟩ = some (.int .u16 0) := (blk_cell hR3 3).trans rfl
  have qz3 : w3.frozen? ⟨w.heap.size, 3, none⟩ = false := blk_frozen hR3 3
  have qk4 : w3.cell? ⟨w.heap.size, 4, none⟩ = some (.int .u32 0) := (blk_cell hR3 4).trans rfl
  have qz4 : w3.frozen? ⟨w.heap.size, 4, none⟩ = false := blk_frozen hR3 4
  have qk5 : w3.cell? ⟨w.heap.size, 5, none⟩ = some (.int .u64 0) := (blk_cell hR3 5).trans rfl
  have qz5 : w3.frozen? ⟨w.heap.size, 5, none⟩ = false := blk_frozen hR3 5
  have qk6 : w3.cell? ⟨w.heap.size, 6, none⟩ = some (.int .u32 0) := (blk_cell hR3 6).trans rfl
  have qz6 : w3.frozen? ⟨w.heap.size, 6, none⟩ = false := blk_frozen hR3 6
  have qk7 : w3.cell? ⟨w.heap.size, 7, none⟩ = some (.bool false) := (blk_cell hR3 7).trans rfl
  have qz7 : w3.frozen? ⟨w.heap.size, 7, none⟩ = false := blk_frozen hR3 7
  have qk8 : w3.cell? ⟨w.heap.size, 8, none⟩ = some (.string ⟨#[]⟩) := (blk_cell hR3 8).trans rfl
  have qz8 : w3.frozen? ⟨w.heap.size, 8, none⟩ = false := blk_frozen hR3 8
  go_wp2_with fail
  rw [Exit.noGoto_ret]
  clear h0 h1 f0 f1 k0 k1 l0 l1 qk0 qz0 qk1 qz1 qk2 qz2 qk3 qz3 qk4 qz4 qk5 qz5 qk6 qz6 qk7 qz7 qk8 qz8
  have hS5 : SP ((w3.setCell ⟨gs, 0, none⟩ (.string ByteArray.empty)).setCell ⟨gs, 1, none⟩ (.int .i64 0)) gs ByteArray.empty 0 := blk_set (blk_set HS3.out 0 (.string ByteArray.empty)) 1 (.int .i64 0)
  have hA5 : Alone w3 ((w3.setCell ⟨gs, 0, none⟩ (.string ByteArray.empty)).setCell ⟨gs, 1, none⟩ (.int .i64 0)) gs := (Alone_set w3 0 gs 0 (.string ByteArray.empty)).trans (Alone_set _ 0 gs 1 (.int .i64 0))
  generalize (w3.setCell ⟨gs, 0, none⟩ (.string ByteArray.empty)).setCell ⟨gs, 1, none⟩ (.int .i64 0) = W5 at hS5 hA5 ⊢
  have hR5 := (hA5.2.2 w.heap.size (by omega)).trans hR3
  have hR6 := put9_row hR5 (.int .u8 a) (.int .u8 b) (.int .u8 c) (.int .u16 d) (.int .u32 e) (.int .u64 t) (.int .u32 g) (.bool hh) (.string bd)
  have hA6 := put9_alone W5 w.heap.size (.int .u8 a) (.int .u8 b) (.int .u8 c) (.int .u16 d) (.int .u32 e) (.int .u64 t) (.int .u32 g) (.bool hh) (.string bd)
  rw [put9_def]
  generalize put9 W5 w.heap.size (.int .u8 a) (.int .u8 b) (.int .u8 c) (.int .u16 d) (.int .u32 e) (.int .u64 t) (.int .u32 g) (.bool hh) (.string bd) = W6 at hR6 hA6 ⊢
  have hS6 := hS5.alone hA6 (by omega)
  have A6 : Amid w W6 gs := (HA3.out.alone hA5).other hA6 (Nat.le_refl _)
  have hB7 := (Below.refl W6.heap.size W6).alloc (Nat.le_refl _) (.cells #[.int .u8 a, .int .u8 b, .int .u8 c, .int .u16 d, .int .u32 e, .int .u64 t, .int .u32 g, .bool hh, .string bd] 28)
  have hR7 := (hB7.block _ (blk_lt hR6)).trans hR6
  have hS7 := hS6.below hB7
  have A7 := A6.below hB7
  generalize W6.alloc (.cells #[.int .u8 a, .int .u8 b, .int .u8 c, .int .u16 d, .int .u32 e, .int .u64 t, .int .u32 g, .bool hh, .string bd] 28) = W7 at hR7 hS7 A7 ⊢
  have yk0 : W7.cell? ⟨w.heap.size, 0, none⟩ = some (.int .u8 a) := (blk_cell hR7 0).trans rfl
  have yz0 : W7.frozen? ⟨w.heap.size, 0, none⟩ = false := blk_frozen hR7 0
  have yk1 : W7.cell? ⟨w.heap.size, 1, none⟩ = some (.int .u8 b) := (blk_cell hR7 1).trans rfl
  have yz1 : W7.frozen? ⟨w.heap.size, 1, none⟩ = false := blk_frozen hR7 1
  have yk2 : W7.cell? ⟨w.heap.size, 2, none⟩ = some (.int .u8 c) := (blk_cell hR7 2).trans rfl
  have yz2 : W7.frozen? ⟨w.heap.size, 2, none⟩ = false := blk_frozen hR7 2
  have yk3 : W7.cell? ⟨w.heap.size, 3, none⟩ = some (.int .u16 d) := (blk_cell hR7 3).trans rfl
  have yz3 : W7.frozen? ⟨w.heap.size, 3, none⟩ = false := blk_frozen hR7 3
  have yk4 : W7.cell? ⟨w.heap.size, 4, none⟩ = some (.int .u32 e) := (blk_cell hR7 4).trans rfl
  have yz4 : W7.frozen? ⟨w.heap.size, 4, none⟩ = false := blk_frozen hR7 4
  have yk5 : W7.cell? ⟨w.heap.size, 5, none⟩ = some (.int .u64 t) := (blk_cell hR7 5).trans rfl
  have yz5 : W7.frozen? ⟨w.heap.size, 5, none⟩ = false := blk_frozen hR7 5
  have yk6 : W7.cell? ⟨w.heap.size, 6, none⟩ = some (.int .u32 g) := (blk_cell hR7 6).trans rfl
  have yz6 : W7.frozen? ⟨w.heap.size, 6, none⟩ = false := blk_frozen hR7 6
  have yk7 : W7.cell? ⟨w.heap.size, 7, none⟩ = some (.bool hh) := (blk_cell hR7 7).trans rfl
  have yz7 : W7.frozen? ⟨w.heap.size, 7, none⟩ = false := blk_frozen hR7 7
  have yk8 : W7.cell? ⟨w.heap.size, 8, none⟩ = some (.string bd) := (blk_cell hR7 8).trans rfl
  have yz8 : W7.frozen? ⟨w.heap.size, 8, none⟩ = false := blk_frozen hR7 8
  refine bodyPost_ret (v := .tuple #[.agg #[.int .u8 a, .int .u8 b, .int .u8 c, .int .u16 d, .int .u32 e, .int .u64 t, .int .u32 g, .bool hh, .string bd], .int .i64 ((p + j.size : Nat) : Int), .bool true]) (by simp [results, Try.results27, go_sem, yk0, yk1, yk2, yk3, yk4, yk5, yk6, yk7, yk8]) rfl ⟨rfl, hS7, A7⟩
end Go.Proofs.Ytgboppgghidgbaa.My
