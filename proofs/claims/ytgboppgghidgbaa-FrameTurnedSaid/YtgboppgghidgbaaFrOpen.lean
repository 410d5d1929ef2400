/- A frame that came in, opened. -/
import Derived.Test.YtgboppgghidgbaaProg
import Derived.WalkKit
import Derived.ProofKit
import Derived.OpenShut
import Derived.ShutString
import Derived.ChangeOld
import Derived.Below
import Derived.SizedLaws
import Derived.Lib.SmallJoins
namespace Go.Proofs.Ytgboppgghidgbaa.My
open Go.ChangeShapes Go.WideShapes Go.ChangeAt Go.RowKit Go.Joins
set_option maxRecDepth 100000
set_option linter.unusedSimpArgs false
theorem list9 {α : Type} {l : List α} (h : l.length = 9) : ∃ c0 c1 c2 c3 c4 c5 c6 c7 c8, l = [c0, c1, c2, c3, c4, c5, c6, c7, c8] := by
  match l, h with
  | [c0, c1, c2, c3, c4, c5, c6, c7, c8], _ => exact ⟨c0, c1, c2, c3, c4, c5, c6, c7, c8, rfl⟩
theorem list7 {α : Type} {l : List α} (h : l.length = 7) : ∃ c0 c1 c2 c3 c4 c5 c6, l = [c0, c1, c2, c3, c4, c5, c6] := by
  match l, h with
  | [c0, c1, c2, c3, c4, c5, c6], _ => exact ⟨c0, c1, c2, c3, c4, c5, c6, rfl⟩
theorem list3 {α : Type} {l : List α} (h : l.length = 3) : ∃ c0 c1 c2, l = [c0, c1, c2] := by
  match l, h with
  | [c0, c1, c2], _ => exact ⟨c0, c1, c2, rfl⟩
theorem open_frame {H : Type} {enc : TypeId × Value → H} {w : World} {base : Nat} {spare : Nat → Bool} {held : Bool} {r : Reach} {b0 : Nat} {v : Value} {D : DataW H} {p : List MemPlace} (hv : Value.okWide Try.prog w r b0 28 v) (h : DataW.Trod enc Try.prog w base spare held 28 v D p) :
    ∃ (a b c d e t g : Int) (hh : Bool) (s : ByteArray), v = .agg #[.int .u8 a, .int .u8 b, .int .u8 c, .int .u16 d, .int .u32 e, .int .u64 t, .int .u32 g, .bool hh, .string s] ∧ (Lit.int .u8 a).wf = true ∧ (Lit.int .u8 b).wf = true ∧ (Lit.int .u8 c).wf = true ∧ (Lit.int .u16 d).wf = true ∧ (Lit.int .u32 e).wf = true ∧ (Lit.int .u64 t).wf = true ∧ (Lit.int .u32 g).wf = true ∧ s.size ≤ maxLen := by
  obtain ⟨cs, rfl, hsz⟩ := okWide_struct Try.underlying28 hv
  obtain ⟨l⟩ := cs
  have k28 : Try.prog.cellsOf 28 = 9 := by kernel_rfl
  rw [k28] at hsz
  have h9 : l.length = 9 := hsz
  obtain ⟨c0, c1, c2, c3, c4, c5, c6, c7, c8, rfl⟩ := list9 h9
  obtain ⟨fuel, hf⟩ := h
  obtain ⟨xs, n, _, _, _, hlen, hx⟩ := DataW.trod_struct Try.underlying28 hf
  obtain ⟨y0, y1, y2, y3, y4, y5, y6, rfl⟩ := list7 (hlen.trans rfl)
  have k1 : Try.prog.cellsOf 5 = 1 := by kernel_rfl
  have k2 : Try.prog.cellsOf 25 = 3 := by kernel_rfl
  have k3 : Try.prog.cellsOf 26 = 1 := by kernel_rfl
  have k4 : Try.prog.cellsOf 23 = 1 := by kernel_rfl
  have k5 : Try.prog.cellsOf 4 = 1 := by kernel_rfl
  have k6 : Try.prog.cellsOf 9 = 1 := by kernel_rfl
  have k7 : Try.prog.cellsOf 22 = 1 := by kernel_rfl
  have x0 : DataW.trod enc Try.prog w base spare held n 5 (((_ : List Value).drop 0).take (Try.prog.cellsOf 5)) = _ := hx 0 _ rfl
  have x1 : DataW.trod enc Try.prog w base spare held n 5 (((_ : List Value).drop 1).take (Try.prog.cellsOf 5)) = _ := hx 1 _ rfl
  have x2 : DataW.trod enc Try.prog w base spare held n 25 (((_ : List Value).drop 2).take (Try.prog.cellsOf 25)) = _ := hx 2 _ rfl
  have x3 : DataW.trod enc Try.prog w base spare held n 26 (((_ : List Value).drop 5).take (Try.prog.cellsOf 26)) = _ := hx 3 _ rfl
  have x4 : DataW.trod enc Try.prog w base spare held n 23 (((_ : List Value).drop 6).take (Try.prog.cellsOf 23)) = _ := hx 4 _ rfl
  have x5 : DataW.trod enc Try.prog w base spare held n 4 (((_ : List Value).drop 7).take (Try.prog.cellsOf 4)) = _ := hx 5 _ rfl
  have x6 : DataW.trod enc Try.prog w base spare held n 9 (((_ : List Value).drop 8).take (Try.prog.cellsOf 9)) = _ := hx 6 _ rfl
  simp only [Value.cells, k1, k2, k3, k4, k5, k6, List.drop_zero, List.drop_succ_cons, List.take_succ_cons, List.take_zero, List.getElem?_cons_zero, List.getElem?_cons_succ] at x0 x1 x2 x3 x4 x5 x6
  obtain ⟨zs, m, _, _, _, hlen2, hz⟩ := DataW.trod_struct Try.underlying25 x2
  obtain ⟨z0, z1, z2, rfl⟩ := list3 (hlen2.trans rfl)
  have q0 : DataW.trod enc Try.prog w base spare held m 5 (((_ : List Value).drop 0).take (Try.prog.cellsOf 5)) = _ := hz 0 _ rfl
  have q1 : DataW.trod enc Try.prog w base spare held m 22 (((_ : List Value).drop 1).take (Try.prog.cellsOf 22)) = _ := hz 1 _ rfl
  have q2 : DataW.trod enc Try.prog w base spare held m 23 (((_ : List Value).drop 2).take (Try.prog.cellsOf 23)) = _ := hz 2 _ rfl
  simp only [k1, k4, k7, List.drop_zero, List.drop_succ_cons, List.take_succ_cons, List.take_zero, List.getElem?_cons_zero, List.getElem?_cons_succ] at q0 q1 q2
  obtain ⟨a, e0, _, w0⟩ := DataW.trod_int Try.underlying5 x0
  obtain ⟨b, e1, _, w1⟩ := DataW.trod_int Try.underlying5 x1
  obtain ⟨c, e2, _, w2⟩ := DataW.trod_int Try.underlying5 q0
  obtain ⟨d, e3, _, w3⟩ := DataW.trod_int Try.underlying22 q1
  obtain ⟨e, e4, _, w4⟩ := DataW.trod_int Try.underlying23 q2
  obtain ⟨t, e5, _, w5⟩ := DataW.trod_int Try.underlying26 x3
  obtain ⟨g, e6, _, w6⟩ := DataW.trod_int Try.underlying23 x4
  obtain ⟨hh, e7, _⟩ := DataW.trod_bool Try.underlying4 x5
  obtain ⟨s, e8, _, w8⟩ := DataW.trod_string Try.underlying9 x6
  obtain rfl := List.singleton_inj.1 e0
  obtain rfl := List.singleton_inj.1 e1
  obtain rfl := List.singleton_inj.1 e2
  obtain rfl := List.singleton_inj.1 e3
  obtain rfl := List.singleton_inj.1 e4
  obtain rfl := List.singleton_inj.1 e5
  obtain rfl := List.singleton_inj.1 e6
  obtain rfl := List.singleton_inj.1 e7
  obtain rfl := List.singleton_inj.1 e8
  exact ⟨a, b, c, d, e, t, g, hh, s, rfl, w0, w1, w2, w3, w4, w5, w6, w8⟩
end Go.Proofs.Ytgboppgghidgbaa.My
