/- A list of dots that came in. -/
import Derived.Test.YtgcmmiihjiiemaaOpenRows
import Derived.Test.YtgcmmiihjiiemaaPVectorMaxx0
namespace Go.Proofs.Ytgcmmiihjiiemaa.My
open Go.ChangeShapes Go.WideShapes Go.Deep Go.RowKit Go.Proofs.YtgcmmiihjiiemaaW.PrintWords Go.Proofs.Ytgcmmiihjiiemaa.PVectorMax
set_option linter.unusedSimpArgs false
set_option linter.unusedVariables false
set_option maxRecDepth 100000
instance : Inhabited S35 := ⟨⟨0, 0⟩⟩
def dotCells (x : S35) : List Value := [.int .u32 x.f0, .int .u64 x.f1]
def DotGood {H : Type} (y : DataW H) (x : S35) : Prop := y = .agg [.lit (.int .u32 x.f0), .lit (.int .u64 x.f1)] ∧ (Lit.int .u32 x.f0).wf = true ∧ (Lit.int .u64 x.f1).wf = true
def DotOk (x : S35) : Prop := (0 ≤ x.f0 ∧ x.f0 < 4294967296) ∧ (0 ≤ x.f1 ∧ x.f1 < 18446744073709551616)
theorem dot_ok {x : S35} (h0 : (Lit.int .u32 x.f0).wf = true) (h1 : (Lit.int .u64 x.f1).wf = true) : DotOk x := by
  simp [Lit.wf, IntKind.min, IntKind.max, IntKind.signed, IntKind.bits] at h0 h1
  exact ⟨by omega, by omega⟩
section
variable {H : Type} {enc : TypeId × Value → H} {w : World} {base : Nat} {spare : Nat → Bool} {held : Bool}
theorem dec_dot (n : Nat) (cs : List Value) (d : DataW H) (pl : List MemPlace) (h : DataW.trod enc Try.prog w base spare held n 35 cs = some (d, pl)) (hl : cs.length = 2) : ∃ x : S35, cs = dotCells x ∧ DotGood d x := by
  match cs, hl with
  | [c0, c1], _ =>
    obtain ⟨ys, n', _, hy, _, hyl, hf⟩ := DataW.trod_struct Try.underlying35 h
    have k1 : Try.prog.cellsOf 33 = 1 := by kernel_rfl
    have k2 : Try.prog.cellsOf 29 = 1 := by kernel_rfl
    match ys, hyl with
    | [y0, y1], _ =>
      have x0 : DataW.trod enc Try.prog w base spare held n' 33 (([c0, c1].drop 0).take (Try.prog.cellsOf 33)) = some y0 := hf 0 _ rfl
      have x1 : DataW.trod enc Try.prog w base spare held n' 29 (([c0, c1].drop 1).take (Try.prog.cellsOf 29)) = some y1 := hf 1 _ rfl
      simp only [k1, k2, List.drop_zero, List.drop_succ_cons, List.take_succ_cons, List.take_zero] at x0 x1
      obtain ⟨s, e0, rfl, w0⟩ := DataW.trod_int Try.underlying33 x0
      obtain ⟨m, e1, rfl, w1⟩ := DataW.trod_int Try.underlying29 x1
      obtain rfl := List.singleton_inj.1 e0
      obtain rfl := List.singleton_inj.1 e1
      exact ⟨⟨s, m⟩, rfl, (Prod.mk.inj hy).1, w0, w1⟩
theorem open_dots {a : Option Addr} {len cap : Nat} {d : DataW H} {ps : List MemPlace} (h : DataW.Trod enc Try.prog w base spare held 22 (.slice a len cap) d ps) :
    ∃ xs : List S35, xs.length = len ∧ len ≤ cap ∧ cap ≤ maxLen ∧ Kd.C k35 w a len xs ∧ (∀ x ∈ xs, DotOk x) ∧ (len = 0 ∨ ∃ q, len ≤ q ∧ q * 16 ∈ d.weights Try.prog 22) := by
  obtain ⟨xs, hlen, hlc, hcm, hrow, hd⟩ := open_rows Try.underlying22 2 (by kernel_rfl) dotCells (fun _ => rfl) DotGood dec_dot h
  refine ⟨xs, hlen, hlc, hcm, ReadsRow.imp_ hrow (Below.refl _ _) (fun x cs hp => by rw [hp]; exact k35_mk w x), ?_, ?_⟩
  · intro x hx
    obtain ⟨i, hi, hix⟩ := List.getElem_of_mem hx
    have hx2 : xs[i]? = some x := by rw [List.getElem?_eq_getElem hi, hix]
    rcases hd with ⟨rfl, rfl⟩ | ⟨elems, sp, rfl, hel, hg⟩
    · cases hx
    · obtain ⟨y, hy, _, h1, h2⟩ := hg i x hx2
      exact dot_ok h1 h2
  · rcases hd with ⟨rfl, rfl⟩ | ⟨elems, sp, rfl, hel, hg⟩
    · exact .inl hlen.symm
    · refine .inr ⟨elems.length + sp.length, by omega, ?_⟩
      have hb : Try.prog.bytesOf 35 = 16 := by kernel_rfl
      simp only [DataW.weights, Try.underlying22, List.mem_cons, hb]
      exact .inl trivial
end
end Go.Proofs.Ytgcmmiihjiiemaa.My
