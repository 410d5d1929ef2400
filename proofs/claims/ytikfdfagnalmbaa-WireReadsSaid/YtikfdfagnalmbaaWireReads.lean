/- WireReads. -/
import Derived.Test.YtikfdfagnalmbaaTaken
import Derived.Test.YtikfdfagnalmbaaWireBack
namespace Go.Proofs.Ytikfdfagnalmbaa.My
open Go.RowKit Go.Proofs.YtikfdfagnalmbaaW.PrintWords Go.Proofs.YtikfdfagnalmbaaW.PrintLast Go.Proofs.YtikfdfagnalmbaaW.PrintMore Go.Proofs.Ytikfdfagnalmbaa
set_option linter.unusedSimpArgs false
set_option linter.unusedVariables false
set_option maxRecDepth 100000
set_option maxHeartbeats 1600000
theorem REnd {w : World} {g : Nat} {s : ByteArray} {p : Nat} {e : Int} (h : RS w g s p e) : Calls Try.prog 28 #[.pointer (some ⟨g, 0, none⟩)] w fun r w' => r = .returned (.int .i64 (rE s p e)) ∧ ∃ m, w' = w.drewN m := by
  unfold rE
  by_cases he : e = 0
  · subst he
    rw [if_pos rfl]
    by_cases hl : p < s.size
    · rw [if_pos hl]; exact End_rest h hl
    · rw [if_neg hl]; exact End_done h (by omega)
  · rw [if_neg he]; exact End_err h (by rw [beq_eq_false_iff_ne]; exact he)
/-- Two readers and the document's two, where they lie. -/
structure RdJ (w wr : World) (g0 g1 h0 h1 gA gB : Nat) (s t : ByteArray) (p0 : Nat) (e0 : Int) (p1 : Nat) (e1 : Int) : Prop where
  r0 : RS wr g0 s p0 e0
  r1 : RS wr g1 t p1 e1
  m0 : MS wr h0 s p0 e0
  m1 : MS wr h1 t p1 e1
  ng : g1 ≠ g0
  nh : h1 ≠ h0
  aA : wr.heap[gA]? = some (.cells #[.pointer (some ⟨g0, 0, none⟩), .pointer (some ⟨g1, 0, none⟩)] 45 (0, 0))
  aB : wr.heap[gB]? = some (.cells #[.pointer (some ⟨h0, 0, none⟩), .pointer (some ⟨h1, 0, none⟩)] 49 (0, 0))
  bel : Below w.heap.size w wr
  ge : w.heap.size ≤ g0 ∧ w.heap.size ≤ g1 ∧ w.heap.size ≤ h0 ∧ w.heap.size ≤ h1
  le : p0 ≤ s.size ∧ p1 ≤ t.size
theorem RdJ.below {w wr w' : World} {g0 g1 h0 h1 gA gB : Nat} {s t : ByteArray} {p0 : Nat} {e0 : Int} {p1 : Nat} {e1 : Int} (h : RdJ w wr g0 g1 h0 h1 gA gB s t p0 e0 p1 e1) (hb : Below wr.heap.size wr w') : RdJ w w' g0 g1 h0 h1 gA gB s t p0 e0 p1 e1 :=
  ⟨blk_below h.r0 hb, blk_below h.r1 hb, blk_below h.m0 hb, blk_below h.m1 hb, h.ng, h.nh, blk_below h.aA hb, blk_below h.aB hb, below_then h.bel (below_size h.bel) hb, h.ge, h.le⟩
theorem a2_block {w w' : World} {g h k t t1 t2 : Nat} {C C1 C2 : Array Value} (m : Alone2 w w' g h) (hb : w.heap[k]? = some (.cells C t (0, 0))) (hg : w.heap[g]? = some (.cells C1 t1 (0, 0))) (hh : w.heap[h]? = some (.cells C2 t2 (0, 0))) (n1 : t ≠ t1 ∨ k ≠ g) (n2 : t ≠ t2 ∨ k ≠ h) : w'.heap[k]? = some (.cells C t (0, 0)) := by
  refine (m.2 k ?_ ?_ (blk_lt hb)).trans hb
  · rcases n1 with n1 | n1
    · rintro rfl
      have h1 := hb.symm.trans hg
      simp at h1
      exact n1 h1.2
    · exact n1
  · rcases n2 with n2 | n2
    · rintro rfl
      have h1 := hb.symm.trans hh
      simp at h1
      exact n2 h1.2
    · exact n2
theorem a2_below {w0 w w' : World} {g h : Nat} (hb : Below w0.heap.size w0 w) (m : Alone2 w w' g h) (hg : w0.heap.size ≤ g) (hh : w0.heap.size ≤ h) : Below w0.heap.size w0 w' :=
  ⟨m.1.os.trans hb.os, m.1.tape.trans hb.tape, m.1.output.trans hb.output, Nat.le_trans hb.size m.1.size, fun k hk => (m.2 k (by omega) (by omega) (Nat.lt_of_lt_of_le hk hb.size)).trans (hb.block k hk)⟩
theorem RdJ.step0 {w wr w' : World} {g0 g1 h0 h1 gA gB : Nat} {s t : ByteArray} {p0 : Nat} {e0 : Int} {p1 : Nat} {e1 : Int} {p : Nat} {e : Int} (h : RdJ w wr g0 g1 h0 h1 gA gB s t p0 e0 p1 e1) (hr : RS w' g0 s p e) (hm : MS w' h0 s p e) (m : Alone2 wr w' g0 h0) (hp : p ≤ s.size) : RdJ w w' g0 g1 h0 h1 gA gB s t p e p1 e1 :=
  ⟨hr, a2_block m h.r1 h.r0 h.m0 (.inr h.ng) (.inl (by decide)), hm, a2_block m h.m1 h.r0 h.m0 (.inl (by decide)) (.inr h.nh), h.ng, h.nh, a2_block m h.aA h.r0 h.m0 (.inl (by decide)) (.inl (by decide)), a2_block m h.aB h.r0 h.m0 (.inl (by decide)) (.inl (by decide)), a2_below h.bel m h.ge.1 h.ge.2.2.1, h.ge, hp, h.le.2⟩
theorem RdJ.step1 {w wr w' : World} {g0 g1 h0 h1 gA gB : Nat} {s t : ByteArray} {p0 : Nat} {e0 : Int} {p1 : Nat} {e1 : Int} {p : Nat} {e : Int} (h : RdJ w wr g0 g1 h0 h1 gA gB s t p0 e0 p1 e1) (hr : RS w' g1 t p e) (hm : MS w' h1 t p e) (m : Alone2 wr w' g1 h1) (hp : p ≤ t.size) : RdJ w w' g0 g1 h0 h1 gA gB s t p0 e0 p e :=
  ⟨a2_block m h.r0 h.r1 h.m1 (.inr (Ne.symm h.ng)) (.inl (by decide)), hr, a2_block m h.m0 h.r1 h.m1 (.inl (by decide)) (.inr (Ne.symm h.nh)), hm, h.ng, h.nh, a2_block m h.aA h.r1 h.m1 (.inl (by decide)) (.inl (by decide)), a2_block m h.aB h.r1 h.m1 (.inl (by decide)) (.inl (by decide)), a2_below h.bel m h.ge.2.1 h.ge.2.2.2, h.ge, h.le.1, hp⟩
theorem Alone1.two {w w' : World} {g h : Nat} (m : Alone1 w w' h) : Alone2 w w' g h := ⟨m.1, fun k _ h2 h3 => m.2 k h2 h3⟩
theorem RdJ.end0 {w wr w' : World} {g0 g1 h0 h1 gA gB : Nat} {s t : ByteArray} {p0 : Nat} {e0 : Int} {p1 : Nat} {e1 : Int} (h : RdJ w wr g0 g1 h0 h1 gA gB s t p0 e0 p1 e1) (hm : MS w' h0 s p0 e0) (m : Alone1 wr w' h0) : RdJ w w' g0 g1 h0 h1 gA gB s t p0 e0 p1 e1 := h.step0 (RS_alone h.m0 h.r0 m) hm m.two h.le.1
theorem RdJ.end1 {w wr w' : World} {g0 g1 h0 h1 gA gB : Nat} {s t : ByteArray} {p0 : Nat} {e0 : Int} {p1 : Nat} {e1 : Int} (h : RdJ w wr g0 g1 h0 h1 gA gB s t p0 e0 p1 e1) (hm : MS w' h1 t p1 e1) (m : Alone1 wr w' h1) : RdJ w w' g0 g1 h0 h1 gA gB s t p0 e0 p1 e1 := h.step1 (RS_alone h.m1 h.r1 m) hm m.two h.le.2
theorem RdJ.end0' {w wr wr2 w' : World} {g0 g1 h0 h1 gA gB : Nat} {s t : ByteArray} {p0 : Nat} {e0 : Int} {p1 : Nat} {e1 : Int} (h : RdJ w wr g0 g1 h0 h1 gA gB s t p0 e0 p1 e1) (hm : MS w' h0 s p0 e0) (m : Alone1 wr2 w' h0) (e : wr2.os = wr.os ∧ wr2.tape = wr.tape ∧ wr2.output = wr.output ∧ wr2.heap = wr.heap) : RdJ w w' g0 g1 h0 h1 gA gB s t p0 e0 p1 e1 :=
  (h.below ⟨e.1, e.2.1, e.2.2.1, by rw [e.2.2.2]; exact Nat.le_refl _, fun k _ => by rw [e.2.2.2]⟩ : RdJ w wr2 g0 g1 h0 h1 gA gB s t p0 e0 p1 e1).end0 hm m
theorem RdJ.end1' {w wr wr2 w' : World} {g0 g1 h0 h1 gA gB : Nat} {s t : ByteArray} {p0 : Nat} {e0 : Int} {p1 : Nat} {e1 : Int} (h : RdJ w wr g0 g1 h0 h1 gA gB s t p0 e0 p1 e1) (hm : MS w' h1 t p1 e1) (m : Alone1 wr2 w' h1) (e : wr2.os = wr.os ∧ wr2.tape = wr.tape ∧ wr2.output = wr.output ∧ wr2.heap = wr.heap) : RdJ w w' g0 g1 h0 h1 gA gB s t p0 e0 p1 e1 :=
  (h.below ⟨e.1, e.2.1, e.2.2.1, by rw [e.2.2.2]; exact Nat.le_refl _, fun k _ => by rw [e.2.2.2]⟩ : RdJ w wr2 g0 g1 h0 h1 gA gB s t p0 e0 p1 e1).end1 hm m
theorem getN (w : World) : w.heap[w.heap.size]? = none := by simp
theorem alloc_size (w : World) (o : Obj) : (w.alloc o).heap.size = w.heap.size + 1 := by show (w.heap.push o).size = _; simp
theorem RdJ_start (w : World) (s t : ByteArray) : RdJ w ((((((w.alloc (.cells #[.string s, .int .i64 0, .int .i64 0] 101)).alloc (.cells #[.string t, .int .i64 0, .int .i64 0] 101)).alloc (.cells #[.pointer (some ⟨w.heap.size, 0, none⟩), .pointer (some ⟨w.heap.size + 1, 0, none⟩)] 45)).alloc (.cells #[.string s, .int .i64 0, .int .i64 0] 48)).alloc (.cells #[.string t, .int .i64 0, .int .i64 0] 48)).alloc (.cells #[.pointer (some ⟨w.heap.size + 1 + 1 + 1, 0, none⟩), .pointer (some ⟨w.heap.size + 1 + 1 + 1 + 1, 0, none⟩)] 49)) w.heap.size (w.heap.size + 1) (w.heap.size + 1 + 1 + 1) (w.heap.size + 1 + 1 + 1 + 1) (w.heap.size + 1 + 1) (w.heap.size + 1 + 1 + 1 + 1 + 1) s t 0 0 0 0 := by
  have push : ∀ (W : World) (C : Array Value) (T n : Nat), W.heap.size = n → (W.alloc (.cells C T (0, 0))).heap[n]? = some (.cells C T (0, 0)) := fun W C T n h => by rw [← h]; exact W_push W C T (0, 0)
  refine ⟨?_, ?_, ?_, ?_, by omega, by omega, ?_, ?_, ?_, ⟨by omega, by omega, by omega, by omega⟩, ⟨Nat.zero_le _, Nat.zero_le _⟩⟩
  · exact blk_alloc (blk_alloc (blk_alloc (blk_alloc (blk_alloc (push w _ _ _ rfl) _) _) _) _) _
  · exact blk_alloc (blk_alloc (blk_alloc (blk_alloc (push _ _ _ _ (alloc_size ..)) _) _) _) _
  · exact blk_alloc (blk_alloc (push _ _ _ _ (by simp only [alloc_size])) _) _
  · exact blk_alloc (push _ _ _ _ (by simp only [alloc_size])) _
  · exact blk_alloc (blk_alloc (blk_alloc (push _ _ _ _ (by simp only [alloc_size])) _) _) _
  · exact push _ _ _ _ (by simp only [alloc_size])
  · have b0 := Below.refl w.heap.size w
    have b1 := b0.alloc (below_size b0) (.cells #[.string s, .int .i64 0, .int .i64 0] 101)
    have b2 := b1.alloc (below_size b1) (.cells #[.string t, .int .i64 0, .int .i64 0] 101)
    have b3 := b2.alloc (below_size b2) (.cells #[.pointer (some ⟨w.heap.size, 0, none⟩), .pointer (some ⟨w.heap.size + 1, 0, none⟩)] 45)
    have b4 := b3.alloc (below_size b3) (.cells #[.string s, .int .i64 0, .int .i64 0] 48)
    have b5 := b4.alloc (below_size b4) (.cells #[.string t, .int .i64 0, .int .i64 0] 48)
    exact b5.alloc (below_size b5) _
theorem WireReads_walk (w : World) (s : ByteArray) (hs : s.size ≤ 140737488351232) (t : ByteArray) (ht : t.size ≤ 140737488351232) (a : Option Addr) (cap : Nat) (xs : List Item) (hcap : xs.length ≤ cap) (hC : kItem.C w a xs.length xs) (hok : ∀ x ∈ xs, x.Ok) : Calls Try.prog 5 #[.string s, .string t, .slice a xs.length cap] w fun e w' => e = .returned (.bool true) ∧ Below w.heap.size w w' := by
  have hxl : xs.length ≤ 9223372036854775807 := hC.2.1
  go_enter Try.func5, Try.ntmps5
  go_wp2_with fail
  refine (newReader _ _).mono ?_
  rintro e w1 ⟨rfl, hw1⟩
  go_wp2_with fail
  refine (newReader _ _).mono ?_
  rintro e w2 ⟨rfl, hw2⟩
  go_wp2_with fail
  clear hw1 hw2
  have HI : Aside0 (RdJ w _ w.heap.size (w.heap.size + 1) (w.heap.size + 1 + 1 + 1) (w.heap.size + 1 + 1 + 1 + 1) (w.heap.size + 1 + 1) (w.heap.size + 1 + 1 + 1 + 1 + 1) s t 0 0 0 0) := ⟨RdJ_start w s t⟩
  have HC := Aside0.mk hC
  have HO := Aside0.mk hok
  clear hC hok
  generalize hW0 : (((((w.alloc _).alloc _).alloc _).alloc _).alloc _).alloc _ = W0 at HI ⊢
  clear hW0
  generalize w.heap.size + 1 + 1 + 1 + 1 + 1 = gB at HI ⊢
  generalize w.heap.size + 1 + 1 + 1 + 1 = h1 at HI ⊢
  generalize w.heap.size + 1 + 1 + 1 = h0 at HI ⊢
  generalize w.heap.size + 1 + 1 = gA at HI ⊢
  generalize w.heap.size + 1 = g1 at HI ⊢
  generalize w.heap.size = g0 at HI ⊢
  go_loopw [9] (fun i wr => ∃ (k p0 p1 : Nat) (e0 e1 : Int), k ≤ xs.length ∧ i = .int .i64 k ∧ Aside0 (RdJ w wr g0 g1 h0 h1 gA gB s t p0 e0 p1 e1)) (fun i _ => xs.length + 1 - (intOf i).toNat)
  case atStart => exact ⟨0, 0, 0, 0, 0, Nat.zero_le _, rfl, HI⟩
  case round =>
    clear HI
    obtain ⟨k, p0, p1, e0, e1, hk, rfl, HI⟩ := hrel
    go_wp2_with fail
    go_loopw [10] (fun j wr => (j = .int .i64 0 ∨ j = .int .i64 1 ∨ j = .int .i64 2) ∧ Aside0 (RdJ w wr g0 g1 h0 h1 gA gB s t p0 e0 p1 e1)) (fun j _ => 2 - (intOf j).toNat)
    case atStart => exact ⟨.inl rfl, HI⟩
    case round =>
      clear HI
      obtain ⟨hj, HI⟩ := hrel
      rcases hj with rfl | rfl | rfl
      · skip
        obtain ⟨k0, k1, k2, z1, z2⟩ := MS.cells HI.out.m0
        have kA : wr.cell? ⟨gA, 0, none⟩ = some (.pointer (some ⟨g0, 0, none⟩)) := (blk_cell HI.out.aA 0).trans rfl
        have kB : wr.cell? ⟨gB, 0, none⟩ = some (.pointer (some ⟨h0, 0, none⟩)) := (blk_cell HI.out.aB 0).trans rfl
        clear z1 z2
        have f0 : (((p0 : Nat) : Int) != ((p0 : Nat) : Int)) = false := by simp
        have f1 : IntKind.i64.wrap ((s.size : Int) - ((p0 : Nat) : Int)) = (s.size : Int) - ((p0 : Nat) : Int) := by have := HI.out.le; rw [IntKind.wrap_i64]; omega
        have f2 : (((s.size : Int) - ((p0 : Nat) : Int)) != ((s.size : Int) - ((p0 : Nat) : Int))) = false := by simp
        have f3 : (e0 != e0) = false := by simp
        have f4 : (rE s p0 e0 != rE s p0 e0) = false := by simp
        have HJd := Aside0.mk (HI.out.below (below_drew (Below.refl _ _)))
        have hle := HI.out.le
        go_wp2_with fail
        go_region_held3 (fun W' : World => W'.cell? ⟨h0, 0, none⟩ = some (.string s) ∧ W'.cell? ⟨h0, 1, none⟩ = some (.int .i64 (p0 : Nat)) ∧ W'.cell? ⟨h0, 2, none⟩ = some (.int .i64 e0) ∧ W'.cell? ⟨gA, 0, none⟩ = some (.pointer (some ⟨g0, 0, none⟩)) ∧ W'.cell? ⟨gB, 0, none⟩ = some (.pointer (some ⟨h0, 0, none⟩))) (first | go_keep | (go_split_ands; refine ⟨?_, ?_, ?_, ?_, ?_⟩ <;> go_keep)) (first | (go_at_call 25; refine (At_calls HJd.out.r0).mono ?_; rintro e_ w7 ⟨rfl, rfl⟩) | (go_at_call 26; refine (RLeft_calls HJd.out.r0 (by omega) (by omega)).mono ?_; rintro e_ w7 ⟨rfl, m7, rfl⟩) | (go_at_call 27; refine (Err_calls (g := g0) (s := s) (p := p0) (e := e0) ?_).mono ?_; (exact HJd.out.r0); rintro e_ w7 ⟨rfl, rfl⟩) | (go_at_call 28; refine (REnd (g := g0) (s := s) (p := p0) (e := e0) ?_).mono ?_; (exact HJd.out.r0); rintro e_ w7 ⟨rfl, m8, rfl⟩) | (go_at_call 29; refine (MEnd (g := h0) (s := s) (p := p0) (e := e0) ?_).mono ?_; (exact HJd.out.m0); rintro e_ w9 ⟨rfl, hm9, ha9⟩; have HJ9 := RdJ.end0' HJd.out hm9 ha9 ⟨rfl, rfl, rfl, rfl⟩; have q0 : w9.cell? ⟨h0, 0, none⟩ = some (.string s) := (MS.cells hm9).1; have q1 : w9.cell? ⟨h0, 1, none⟩ = some (.int .i64 (p0 : Nat)) := (MS.cells hm9).2.1; have q2 : w9.cell? ⟨h0, 2, none⟩ = some (.int .i64 e0) := (MS.cells hm9).2.2.1; have qA : w9.cell? ⟨gA, 0, none⟩ = some (.pointer (some ⟨g0, 0, none⟩)) := (blk_cell HJ9.aA 0).trans rfl; have qB : w9.cell? ⟨gB, 0, none⟩ = some (.pointer (some ⟨h0, 0, none⟩)) := (blk_cell HJ9.aB 0).trans rfl))
        clear hm9 ha9 HI HJd k0 k1 k2 kA kB q0 q1 q2 qA qB f0 f1 f2 f3 f4 hle
        have HJ := Aside0.mk HJ9
        clear HJ9
        go_wp2_with fail
        go_roundw
        case rel => exact ⟨.inr (.inl rfl), HJ⟩
        case measure => simp [intOf]
      · skip
        obtain ⟨k0, k1, k2, z1, z2⟩ := MS.cells HI.out.m1
        have kA : wr.cell? ⟨gA, 1, none⟩ = some (.pointer (some ⟨g1, 0, none⟩)) := (blk_cell HI.out.aA 1).trans rfl
        have kB : wr.cell? ⟨gB, 1, none⟩ = some (.pointer (some ⟨h1, 0, none⟩)) := (blk_cell HI.out.aB 1).trans rfl
        clear z1 z2
        have f0 : (((p1 : Nat) : Int) != ((p1 : Nat) : Int)) = false := by simp
        have f1 : IntKind.i64.wrap ((t.size : Int) - ((p1 : Nat) : Int)) = (t.size : Int) - ((p1 : Nat) : Int) := by have := HI.out.le; rw [IntKind.wrap_i64]; omega
        have f2 : (((t.size : Int) - ((p1 : Nat) : Int)) != ((t.size : Int) - ((p1 : Nat) : Int))) = false := by simp
        have f3 : (e1 != e1) = false := by simp
        have f4 : (rE t p1 e1 != rE t p1 e1) = false := by simp
        have HJd := Aside0.mk (HI.out.below (below_drew (Below.refl _ _)))
        have hle := HI.out.le
        go_wp2_with fail
        go_region_held3 (fun W' : World => W'.cell? ⟨h1, 0, none⟩ = some (.string t) ∧ W'.cell? ⟨h1, 1, none⟩ = some (.int .i64 (p1 : Nat)) ∧ W'.cell? ⟨h1, 2, none⟩ = some (.int .i64 e1) ∧ W'.cell? ⟨gA, 1, none⟩ = some (.pointer (some ⟨g1, 0, none⟩)) ∧ W'.cell? ⟨gB, 1, none⟩ = some (.pointer (some ⟨h1, 0, none⟩))) (first | go_keep | (go_split_ands; refine ⟨?_, ?_, ?_, ?_, ?_⟩ <;> go_keep)) (first | (go_at_call 25; refine (At_calls HJd.out.r1).mono ?_; rintro e_ w7 ⟨rfl, rfl⟩) | (go_at_call 26; refine (RLeft_calls HJd.out.r1 (by omega) (by omega)).mono ?_; rintro e_ w7 ⟨rfl, m7, rfl⟩) | (go_at_call 27; refine (Err_calls (g := g1) (s := t) (p := p1) (e := e1) ?_).mono ?_; (exact HJd.out.r1); rintro e_ w7 ⟨rfl, rfl⟩) | (go_at_call 28; refine (REnd (g := g1) (s := t) (p := p1) (e := e1) ?_).mono ?_; (exact HJd.out.r1); rintro e_ w7 ⟨rfl, m8, rfl⟩) | (go_at_call 29; refine (MEnd (g := h1) (s := t) (p := p1) (e := e1) ?_).mono ?_; (exact HJd.out.m1); rintro e_ w9 ⟨rfl, hm9, ha9⟩; have HJ9 := RdJ.end1' HJd.out hm9 ha9 ⟨rfl, rfl, rfl, rfl⟩; have q0 : w9.cell? ⟨h1, 0, none⟩ = some (.string t) := (MS.cells hm9).1; have q1 : w9.cell? ⟨h1, 1, none⟩ = some (.int .i64 (p1 : Nat)) := (MS.cells hm9).2.1; have q2 : w9.cell? ⟨h1, 2, none⟩ = some (.int .i64 e1) := (MS.cells hm9).2.2.1; have qA : w9.cell? ⟨gA, 1, none⟩ = some (.pointer (some ⟨g1, 0, none⟩)) := (blk_cell HJ9.aA 1).trans rfl; have qB : w9.cell? ⟨gB, 1, none⟩ = some (.pointer (some ⟨h1, 0, none⟩)) := (blk_cell HJ9.aB 1).trans rfl))
        clear hm9 ha9 HI HJd k0 k1 k2 kA kB q0 q1 q2 qA qB f0 f1 f2 f3 f4 hle
        have HJ := Aside0.mk HJ9
        clear HJ9
        go_wp2_with fail
        go_roundw
        case rel => exact ⟨.inr (.inr rfl), HJ⟩
        case measure => simp [intOf]
      · by_cases hlt : k < xs.length
        · have HX := Aside0.mk (show xs[k]? = some xs[k] from List.getElem?_eq_getElem hlt)
          have hx : xs[k].Ok := HO.out _ (List.getElem_mem hlt)
          obtain ⟨b, o, rfl⟩ := item_addr HC.out k hlt
          generalize xs[k] = x at *
          obtain ⟨c0, c1, c2, c3, c4⟩ := item_at (Kd.C_below HC.out HI.out.bel) k x HX.out
          have i0 : (0 : Int) ≤ (k : Int) := by omega
          have i1 : (k : Int) < (xs.length : Int) := by omega
          have hkl : ((k : Int) == (xs.length : Int)) = false := by rw [beq_eq_false_iff_ne]; omega
          by_cases hwho : x.who = 0
          · have hw1 : (x.who != 0) = false := bne_eq_false_iff_eq.2 hwho
            clear hwho; have hwho := hw1
            have hle := HI.out.le
            go_wp2_with fail
            have kA : wr.cell? ⟨gA, 0, none⟩ = some (.pointer (some ⟨g0, 0, none⟩)) := (blk_cell HI.out.aA 0).trans rfl
            have kB : wr.cell? ⟨gB, 0, none⟩ = some (.pointer (some ⟨h0, 0, none⟩)) := (blk_cell HI.out.aB 0).trans rfl
            have HJd := Aside0.mk (HI.out.below (below_drew (Below.refl _ _)))
            go_region_held3 (fun W' : World => W'.cell? ⟨gA, 0, none⟩ = some (.pointer (some ⟨g0, 0, none⟩)) ∧ W'.cell? ⟨gB, 0, none⟩ = some (.pointer (some ⟨h0, 0, none⟩)) ∧ W'.cell? ⟨b, o + k * 5, none⟩ = some (.int .i64 x.who) ∧ W'.cell? ⟨b, o + k * 5 + 1, none⟩ = some (.int .i64 x.kind) ∧ W'.cell? ⟨b, o + k * 5 + 2, none⟩ = some (.int .i64 x.n) ∧ W'.cell? ⟨b, o + k * 5 + 3, none⟩ = some (.int .u64 (x.v : Int)) ∧ W'.cell? ⟨b, o + k * 5 + 4, none⟩ = some (.string x.s)) (first | go_keep | (go_split_ands; refine ⟨?_, ?_, ?_, ?_, ?_, ?_, ?_⟩ <;> go_keep)) (first | (go_at_call 30; refine (taken_calls x hx g0 h0 s p0 e0 _ HJd.out.r0 HJd.out.m0 (by omega) (by omega)).mono ?_; rintro e_ w5 ⟨rfl, hr5, hm5, ha5⟩; have HJ5 := HJd.out.step0 hr5 hm5 ha5 (tn_le x s p0 e0 (by omega)); have qA : w5.cell? ⟨gA, 0, none⟩ = some (.pointer (some ⟨g0, 0, none⟩)) := (blk_cell HJ5.aA 0).trans rfl; have qB : w5.cell? ⟨gB, 0, none⟩ = some (.pointer (some ⟨h0, 0, none⟩)) := (blk_cell HJ5.aB 0).trans rfl; have ⟨d0, d1, d2, d3, d4⟩ := item_at (Kd.C_below HC.out HJ5.bel) k x HX.out))
            clear HI HJd hr5 hm5 ha5 kA kB qA qB c0 c1 c2 c3 c4 d0 d1 d2 d3 d4 hwho hw1 i0 i1 hkl
            have HJ := Aside0.mk HJ5
            clear HJ5
            go_wp2_with fail
            go_roundw
            case rel => exact ⟨k + 1, (x.tn s p0 e0).1, p1, (x.tn s p0 e0).2, e1, by omega, by go_num, HJ⟩
            case measure => simp [intOf]; omega
          · have hw1 : (x.who != 0) = true := bne_iff_ne.2 hwho
            clear hwho; have hwho := hw1
            have hle := HI.out.le
            go_wp2_with fail
            have kA : wr.cell? ⟨gA, 1, none⟩ = some (.pointer (some ⟨g1, 0, none⟩)) := (blk_cell HI.out.aA 1).trans rfl
            have kB : wr.cell? ⟨gB, 1, none⟩ = some (.pointer (some ⟨h1, 0, none⟩)) := (blk_cell HI.out.aB 1).trans rfl
            have HJd := Aside0.mk (HI.out.below (below_drew (Below.refl _ _)))
            go_region_held3 (fun W' : World => W'.cell? ⟨gA, 1, none⟩ = some (.pointer (some ⟨g1, 0, none⟩)) ∧ W'.cell? ⟨gB, 1, none⟩ = some (.pointer (some ⟨h1, 0, none⟩)) ∧ W'.cell? ⟨b, o + k * 5, none⟩ = some (.int .i64 x.who) ∧ W'.cell? ⟨b, o + k * 5 + 1, none⟩ = some (.int .i64 x.kind) ∧ W'.cell? ⟨b, o + k * 5 + 2, none⟩ = some (.int .i64 x.n) ∧ W'.cell? ⟨b, o + k * 5 + 3, none⟩ = some (.int .u64 (x.v : Int)) ∧ W'.cell? ⟨b, o + k * 5 + 4, none⟩ = some (.string x.s)) (first | go_keep | (go_split_ands; refine ⟨?_, ?_, ?_, ?_, ?_, ?_, ?_⟩ <;> go_keep)) (first | (go_at_call 30; refine (taken_calls x hx g1 h1 t p1 e1 _ HJd.out.r1 HJd.out.m1 (by omega) (by omega)).mono ?_; rintro e_ w5 ⟨rfl, hr5, hm5, ha5⟩; have HJ5 := HJd.out.step1 hr5 hm5 ha5 (tn_le x t p1 e1 (by omega)); have qA : w5.cell? ⟨gA, 1, none⟩ = some (.pointer (some ⟨g1, 0, none⟩)) := (blk_cell HJ5.aA 1).trans rfl; have qB : w5.cell? ⟨gB, 1, none⟩ = some (.pointer (some ⟨h1, 0, none⟩)) := (blk_cell HJ5.aB 1).trans rfl; have ⟨d0, d1, d2, d3, d4⟩ := item_at (Kd.C_below HC.out HJ5.bel) k x HX.out))
            clear HI HJd hr5 hm5 ha5 kA kB qA qB c0 c1 c2 c3 c4 d0 d1 d2 d3 d4 hwho hw1 i0 i1 hkl
            have HJ := Aside0.mk HJ5
            clear HJ5
            go_wp2_with fail
            go_roundw
            case rel => exact ⟨k + 1, p0, (x.tn t p1 e1).1, e0, (x.tn t p1 e1).2, by omega, by go_num, HJ⟩
            case measure => simp [intOf]; omega
        · obtain rfl : k = xs.length := by omega
          have hb := HI.out.bel
          clear HI
          go_wp2_with fail
          go_ret
          exact ⟨rfl, hb⟩
end Go.Proofs.Ytikfdfagnalmbaa.My
