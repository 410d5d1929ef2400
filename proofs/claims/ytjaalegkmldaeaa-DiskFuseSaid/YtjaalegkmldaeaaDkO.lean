/- Lists of strings, of steps that came in. -/
import Derived.Test.YtjaalegkmldaeaaOpenBools
namespace Go.Proofs.Ytjaalegkmldaeaa.My
open Go.ChangeShapes Go.WideShapes Go.Deep Go.RowKit Go.Proofs.YtjaalegkmldaeaaW.PrintWords
set_option linter.unusedSimpArgs false
set_option linter.unusedVariables false
set_option maxRecDepth 100000
structure Stp where
  kind : Int
  n : Int
  s : ByteArray
  odd : Bool
  A : Option Addr
  c : Nat
  keep : List Bool
  torn : Int
  cut : Int
instance : Inhabited Stp := ⟨⟨0, 0, ⟨#[]⟩, false, none, 0, [], 0, 0⟩⟩
def Stp.cells (x : Stp) : List Value := [.int .i64 x.kind, .int .i64 x.n, .string x.s, .bool x.odd, .slice x.A x.keep.length x.c, .int .i64 x.torn, .int .i64 x.cut]
def kStp : Kd Stp := kflat 7 Stp.cells (fun _ => rfl) (fun x u hu => by
  simp only [Stp.cells, List.mem_cons, List.not_mem_nil, or_false] at hu
  rcases hu with rfl | rfl | rfl | rfl | rfl | rfl | rfl <;> rfl)
/-- What is known of a step that came in. -/
structure Stp.Ok (w : World) (x : Stp) : Prop where
  kind : (Lit.int .i64 x.kind).wf = true
  n : (Lit.int .i64 x.n).wf = true
  torn : (Lit.int .i64 x.torn).wf = true
  cut : (Lit.int .i64 x.cut).wf = true
  keep : Kd.bool.C w x.A x.keep.length x.keep
  cap : x.keep.length ≤ x.c
def StpGood {H : Type} (w : World) (y : DataW H) (x : Stp) : Prop := (∃ f, y = .agg [.lit (.int .i64 x.kind), .lit (.int .i64 x.n), .lit (.string x.s.data.toList), .lit (.bool x.odd), f]) ∧ x.Ok w
section
variable {H : Type} {enc : TypeId × Value → H} {w : World} {base : Nat} {spare : Nat → Bool} {held : Bool}
theorem slice_shape {t e : TypeId} {n : Nat} {c : Value} {y : DataW H × List MemPlace} (ht : Try.prog.underlying t = some (.slice e)) (h : DataW.trod enc Try.prog w base spare held n t [c] = some y) : ∃ A l cp, c = .slice A l cp ∧ DataW.Trod enc Try.prog w base spare held t (.slice A l cp) y.1 y.2 := by
  rcases open_slice ht h with ⟨h0, _⟩ | ⟨ad, ln, cp, m, n, D, Pl, hcs, _⟩
  · obtain rfl := List.singleton_inj.1 h0
    exact ⟨none, 0, 0, rfl, ⟨_, h⟩⟩
  · obtain rfl := List.singleton_inj.1 hcs
    exact ⟨some ad, ln, cp, rfl, ⟨_, h⟩⟩
theorem dec_fate (n : Nat) (cs : List Value) (y : DataW H × List MemPlace) (h : DataW.trod enc Try.prog w base spare held n 30 cs = some y) (hl : cs.length = 3) : ∃ A c keep torn cut, cs = [.slice A (List.length keep) c, .int .i64 torn, .int .i64 cut] ∧ (Lit.int .i64 torn).wf = true ∧ (Lit.int .i64 cut).wf = true ∧ Kd.bool.C w A keep.length keep ∧ keep.length ≤ c := by
  match cs, hl with
  | [c0, c1, c2], _ =>
    obtain ⟨ys, n', _, hy, _, hyl, hf⟩ := DataW.trod_struct Try.underlying30 h
    have k1 : Try.prog.cellsOf 3 = 1 := by kernel_rfl
    have k2 : Try.prog.cellsOf 28 = 1 := by kernel_rfl
    match ys, hyl with
    | [y0, y1, y2], _ =>
      have x0 : DataW.trod enc Try.prog w base spare held n' 28 (([c0, c1, c2].drop 0).take (Try.prog.cellsOf 28)) = some y0 := hf 0 _ rfl
      have x1 : DataW.trod enc Try.prog w base spare held n' 3 (([c0, c1, c2].drop 1).take (Try.prog.cellsOf 3)) = some y1 := hf 1 _ rfl
      have x2 : DataW.trod enc Try.prog w base spare held n' 3 (([c0, c1, c2].drop 2).take (Try.prog.cellsOf 3)) = some y2 := hf 2 _ rfl
      simp only [k1, k2, List.drop_zero, List.drop_succ_cons, List.take_succ_cons, List.take_zero] at x0 x1 x2
      obtain ⟨A, l, cp, rfl, t0⟩ := slice_shape Try.underlying28 x0
      obtain ⟨keep, hl, hc, _, hr⟩ := open_bools_in t0
      subst hl
      obtain ⟨torn, e1, _, w1⟩ := DataW.trod_int Try.underlying3 x1
      obtain ⟨cut, e2, _, w2⟩ := DataW.trod_int Try.underlying3 x2
      obtain rfl := List.singleton_inj.1 e1
      obtain rfl := List.singleton_inj.1 e2
      exact ⟨A, cp, keep, torn, cut, rfl, w1, w2, hr, hc⟩
theorem dec_stp (n : Nat) (cs : List Value) (d : DataW H) (pl : List MemPlace) (h : DataW.trod enc Try.prog w base spare held n 32 cs = some (d, pl)) (hl : cs.length = 7) : ∃ x : Stp, cs = x.cells ∧ StpGood w d x := by
  match cs, hl with
  | [c0, c1, c2, c3, c4, c5, c6], _ =>
    obtain ⟨ys, n', _, hy, _, hyl, hf⟩ := DataW.trod_struct Try.underlying32 h
    have k1 : Try.prog.cellsOf 3 = 1 := by kernel_rfl
    have k2 : Try.prog.cellsOf 4 = 1 := by kernel_rfl
    have k3 : Try.prog.cellsOf 9 = 1 := by kernel_rfl
    have k4 : Try.prog.cellsOf 30 = 3 := by kernel_rfl
    match ys, hyl with
    | [y0, y1, y2, y3, y4], _ =>
      have x0 : DataW.trod enc Try.prog w base spare held n' 3 (([c0, c1, c2, c3, c4, c5, c6].drop 0).take (Try.prog.cellsOf 3)) = some y0 := hf 0 _ rfl
      have x1 : DataW.trod enc Try.prog w base spare held n' 3 (([c0, c1, c2, c3, c4, c5, c6].drop 1).take (Try.prog.cellsOf 3)) = some y1 := hf 1 _ rfl
      have x2 : DataW.trod enc Try.prog w base spare held n' 9 (([c0, c1, c2, c3, c4, c5, c6].drop 2).take (Try.prog.cellsOf 9)) = some y2 := hf 2 _ rfl
      have x3 : DataW.trod enc Try.prog w base spare held n' 4 (([c0, c1, c2, c3, c4, c5, c6].drop 3).take (Try.prog.cellsOf 4)) = some y3 := hf 3 _ rfl
      have x4 : DataW.trod enc Try.prog w base spare held n' 30 (([c0, c1, c2, c3, c4, c5, c6].drop 4).take (Try.prog.cellsOf 30)) = some y4 := hf 4 _ rfl
      simp only [k1, k2, k3, k4, List.drop_zero, List.drop_succ_cons, List.take_succ_cons, List.take_zero] at x0 x1 x2 x3 x4
      obtain ⟨kind, e0, f0, w0⟩ := DataW.trod_int Try.underlying3 x0
      obtain ⟨m, e1, f1, w1⟩ := DataW.trod_int Try.underlying3 x1
      obtain ⟨s, e2, f2, _⟩ := DataW.trod_string Try.underlying9 x2
      obtain ⟨odd, e3, f3⟩ := DataW.trod_bool Try.underlying4 x3
      obtain ⟨A, c, keep, torn, cut, e4, w4, w5, hk, hc⟩ := dec_fate n' _ y4 x4 rfl
      obtain rfl := List.singleton_inj.1 e0
      obtain rfl := List.singleton_inj.1 e1
      obtain rfl := List.singleton_inj.1 e2
      obtain rfl := List.singleton_inj.1 e3
      simp only [List.cons.injEq, and_true] at e4
      obtain ⟨rfl, rfl, rfl⟩ := e4
      subst f0 f1 f2 f3
      exact ⟨⟨kind, m, s, odd, A, c, keep, torn, cut⟩, rfl, ⟨y4.1, (Prod.mk.inj hy).1⟩, ⟨w0, w1, w4, w5, hk, hc⟩⟩
theorem weight_len {P : Program} {t e : TypeId} {elems sp : List (DataW H)} (hu : P.underlying t = some (.slice e)) (B : Nat) (hB : P.bytesOf e = B) (hw : ∀ n ∈ DataW.weights P t (.slice elems sp : DataW H), n ≤ 140737488351232) : elems.length * B ≤ 140737488351232 := by
  have h := hw ((elems.length + sp.length) * B) (by
    simp only [DataW.weights, hu, hB]
    exact List.mem_cons_self)
  exact Nat.le_trans (Nat.mul_le_mul_right _ (Nat.le_add_right _ _)) h
theorem weight_mem {P : Program} {t e : TypeId} {elems sp : List (DataW H)} (hu : P.underlying t = some (.slice e)) (hw : ∀ n ∈ DataW.weights P t (.slice elems sp : DataW H), n ≤ 140737488351232) {y : DataW H} (hy : y ∈ elems) : ∀ n ∈ y.weights P e, n ≤ 140737488351232 := by
  intro n hn
  refine hw n ?_
  simp only [DataW.weights, hu]
  exact List.mem_cons_of_mem _ (List.mem_append_left _ (weights_all hy n hn))
theorem open_steps {a : Option Addr} {len cap : Nat} {d : DataW H} {ps : List MemPlace} (h : DataW.Trod enc Try.prog w base spare held 44 (.slice a len cap) d ps) (hw : ∀ n ∈ d.weights Try.prog 44, n ≤ 140737488351232) :
    ∃ xs : List Stp, xs.length = len ∧ len ≤ cap ∧ kStp.C w a len xs ∧ (∀ x ∈ xs, x.Ok w) ∧ (∀ x ∈ xs, x.s.size ≤ 140737488351232) ∧ xs.length * 80 ≤ 140737488351232 := by
  obtain ⟨xs, hlen, hlc, hcm, hrow, hd⟩ := open_rows Try.underlying44 7 (by kernel_rfl) Stp.cells (fun _ => rfl) (StpGood w) dec_stp h
  refine ⟨xs, hlen, hlc, hrow, ?_⟩
  rcases hd with ⟨rfl, rfl⟩ | ⟨elems, sp, rfl, hel, hg⟩
  · exact ⟨fun x hx => (by cases hx), fun x hx => (by cases hx), by decide⟩
  · have hx2 : ∀ x ∈ xs, ∃ y ∈ elems, StpGood w y x := by
      intro x hx
      obtain ⟨i, hi, hix⟩ := List.getElem_of_mem hx
      obtain ⟨y, hy, h1⟩ := hg i x (by rw [List.getElem?_eq_getElem hi, hix])
      exact ⟨y, List.mem_of_getElem? hy, h1⟩
    refine ⟨fun x hx => ?_, fun x hx => ?_, ?_⟩
    · obtain ⟨y, _, h1⟩ := hx2 x hx
      exact h1.2
    · obtain ⟨y, hy, ⟨f, rfl⟩, _⟩ := hx2 x hx
      refine weight_mem Try.underlying44 hw hy x.s.size ?_
      simp [DataW.weights, Try.underlying32, DataW.weightsEach]
    · rw [hlen, ← hel]
      exact weight_len Try.underlying44 80 (by kernel_rfl) hw
theorem open_strs {a : Option Addr} {len cap : Nat} {d : DataW H} {ps : List MemPlace} (h : DataW.Trod enc Try.prog w base spare held 37 (.slice a len cap) d ps) (hw : ∀ n ∈ d.weights Try.prog 37, n ≤ 140737488351232) :
    ∃ xs : List ByteArray, xs.length = len ∧ len ≤ cap ∧ Kd.string.C w a len xs ∧ (∀ x ∈ xs, x.size ≤ 140737488351232) ∧ xs.length * 16 ≤ 140737488351232 := by
  obtain ⟨xs, hlen, hlc, hcm, hrow, hd⟩ := open_rows (α := ByteArray) Try.underlying37 1 (by kernel_rfl) (fun x => [Value.string x]) (fun _ => rfl) (fun y x => y = .lit (.string x.data.toList)) (fun n cs d pl h hl => by
    obtain ⟨s, e0, e1, _⟩ := DataW.trod_string Try.underlying9 h
    exact ⟨s, e0, (Prod.mk.inj e1).1⟩) h
  refine ⟨xs, hlen, hlc, hrow, ?_⟩
  rcases hd with ⟨rfl, rfl⟩ | ⟨elems, sp, rfl, hel, hg⟩
  · exact ⟨fun x hx => (by cases hx), by decide⟩
  · refine ⟨fun x hx => ?_, ?_⟩
    · obtain ⟨i, hi, hix⟩ := List.getElem_of_mem hx
      obtain ⟨y, hy, rfl⟩ := hg i x (by rw [List.getElem?_eq_getElem hi, hix])
      refine weight_mem Try.underlying37 hw (List.mem_of_getElem? hy) x.size ?_
      simp [DataW.weights]
    · rw [hlen, ← hel]
      exact weight_len Try.underlying37 16 (by kernel_rfl) hw
end
end Go.Proofs.Ytjaalegkmldaeaa.My
