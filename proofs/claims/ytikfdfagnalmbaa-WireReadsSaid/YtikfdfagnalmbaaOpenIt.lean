/- A list of items that came in. -/
import Derived.Test.YtikfdfagnalmbaaOpenRows
import Derived.Test.YtikfdfagnalmbaaItAll
namespace Go.Proofs.Ytikfdfagnalmbaa.My
open Go.ChangeShapes Go.WideShapes Go.Deep Go.RowKit Go.Proofs.YtikfdfagnalmbaaW.PrintWords
set_option linter.unusedSimpArgs false
set_option linter.unusedVariables false
set_option maxRecDepth 100000
def Item.cells (x : Item) : List Value := [.int .i64 x.who, .int .i64 x.kind, .int .i64 x.n, .int .u64 (x.v : Int), .string x.s]
instance : Inhabited Item := ⟨⟨0, 0, 0, 0, ⟨#[]⟩⟩⟩
def kItem : Kd Item := kflat 5 Item.cells (fun _ => rfl) (fun x u hu => by
  simp only [Item.cells, List.mem_cons, List.not_mem_nil, or_false] at hu
  rcases hu with rfl | rfl | rfl | rfl | rfl <;> rfl)
def ItGood {H : Type} (y : DataW H) (x : Item) : Prop := y = .agg [.lit (.int .i64 x.who), .lit (.int .i64 x.kind), .lit (.int .i64 x.n), .lit (.int .u64 (x.v : Int)), .lit (.string x.s.data.toList)] ∧ x.v < 18446744073709551616 ∧ -9223372036854775808 ≤ x.n ∧ x.n ≤ 9223372036854775807
theorem wf64 {n : Int} (h : (Lit.int .i64 n).wf = true) : -9223372036854775808 ≤ n ∧ n ≤ 9223372036854775807 := by
  simp only [Lit.wf, IntKind.min, IntKind.max, Bool.and_eq_true, decide_eq_true_eq] at h; simp [IntKind.signed, IntKind.bits] at h; omega
theorem wfU {n : Int} (h : (Lit.int .u64 n).wf = true) : 0 ≤ n ∧ n < 18446744073709551616 := by
  simp only [Lit.wf, IntKind.min, IntKind.max, Bool.and_eq_true, decide_eq_true_eq] at h; simp [IntKind.signed, IntKind.bits] at h; omega
section
variable {H : Type} {enc : TypeId × Value → H} {w : World} {base : Nat} {spare : Nat → Bool} {held : Bool}
theorem dec_item (n : Nat) (cs : List Value) (d : DataW H) (pl : List MemPlace) (h : DataW.trod enc Try.prog w base spare held n 35 cs = some (d, pl)) (hl : cs.length = 5) : ∃ x : Item, cs = x.cells ∧ ItGood d x := by
  match cs, hl with
  | [c0, c1, c2, c3, c4], _ =>
    obtain ⟨ys, n', _, hy, _, hyl, hf⟩ := DataW.trod_struct Try.underlying35 h
    have k1 : Try.prog.cellsOf 3 = 1 := by kernel_rfl
    have k2 : Try.prog.cellsOf 33 = 1 := by kernel_rfl
    have k3 : Try.prog.cellsOf 9 = 1 := by kernel_rfl
    have x0 : DataW.trod enc Try.prog w base spare held n' 3 (([c0, c1, c2, c3, c4].drop 0).take (Try.prog.cellsOf 3)) = ys[0]? := hf 0 _ rfl
    have x1 : DataW.trod enc Try.prog w base spare held n' 3 (([c0, c1, c2, c3, c4].drop 1).take (Try.prog.cellsOf 3)) = ys[1]? := hf 1 _ rfl
    have x2 : DataW.trod enc Try.prog w base spare held n' 3 (([c0, c1, c2, c3, c4].drop 2).take (Try.prog.cellsOf 3)) = ys[2]? := hf 2 _ rfl
    have x3 : DataW.trod enc Try.prog w base spare held n' 33 (([c0, c1, c2, c3, c4].drop 3).take (Try.prog.cellsOf 33)) = ys[3]? := hf 3 _ rfl
    have x4 : DataW.trod enc Try.prog w base spare held n' 9 (([c0, c1, c2, c3, c4].drop 4).take (Try.prog.cellsOf 9)) = ys[4]? := hf 4 _ rfl
    simp only [k1, k2, k3, List.drop_zero, List.drop_succ_cons, List.take_succ_cons, List.take_zero] at x0 x1 x2 x3 x4
    match ys, hyl with
    | [y0, y1, y2, y3, y4], _ =>
      simp only [List.getElem?_cons_zero, List.getElem?_cons_succ] at x0 x1 x2 x3 x4
      obtain ⟨a0, e0, rfl, w0⟩ := DataW.trod_int Try.underlying3 x0
      obtain ⟨a1, e1, rfl, w1⟩ := DataW.trod_int Try.underlying3 x1
      obtain ⟨a2, e2, rfl, w2⟩ := DataW.trod_int Try.underlying3 x2
      obtain ⟨a3, e3, rfl, w3⟩ := DataW.trod_int Try.underlying33 x3
      obtain ⟨a4, e4, rfl, w4⟩ := DataW.trod_string Try.underlying9 x4
      obtain rfl := List.singleton_inj.1 e0
      obtain rfl := List.singleton_inj.1 e1
      obtain rfl := List.singleton_inj.1 e2
      obtain rfl := List.singleton_inj.1 e3
      obtain rfl := List.singleton_inj.1 e4
      have b2 := wf64 w2
      have b3 := wfU w3
      obtain ⟨v, rfl⟩ := Int.eq_ofNat_of_zero_le b3.1
      exact ⟨⟨a0, a1, a2, v, a4⟩, rfl, (Prod.mk.inj hy).1, by show v < _; omega, b2.1, b2.2⟩
theorem open_items {a : Option Addr} {len cap : Nat} {d : DataW H} {ps : List MemPlace} (h : DataW.Trod enc Try.prog w base spare held 27 (.slice a len cap) d ps) :
    ∃ xs : List Item, xs.length = len ∧ len ≤ cap ∧ cap ≤ maxLen ∧ kItem.C w a len xs ∧ (xs.map (fun x => 6 + x.s.size)).sum ≤ Rows.uptoBulk d ∧
      ∀ x ∈ xs, (x.v < 18446744073709551616 ∧ -9223372036854775808 ≤ x.n ∧ x.n ≤ 9223372036854775807) ∧ x.s.size ∈ d.weights Try.prog 27 := by
  obtain ⟨xs, hlen, hlc, hcm, hrow, hd⟩ := open_rows Try.underlying27 5 (by kernel_rfl) Item.cells (fun _ => rfl) ItGood dec_item h
  refine ⟨xs, hlen, hlc, hcm, hrow, ?_, ?_⟩
  · rcases hd with ⟨rfl, rfl⟩ | ⟨elems, sp, rfl, hel, hg⟩
    · simp
    · refine Nat.le_trans (bulk_sum _ elems xs (by omega) (fun i x hx => ?_)) (by simp only [Rows.uptoBulk]; omega)
      obtain ⟨y, hy, rfl, _⟩ := hg i x hx
      exact ⟨_, hy, by simp [Rows.uptoBulk, Rows.uptoBulkAll]; have : x.s.data.size = x.s.size := rfl; omega⟩
  · intro x hx
    obtain ⟨i, hi, hix⟩ := List.getElem_of_mem hx
    have hx2 : xs[i]? = some x := by rw [List.getElem?_eq_getElem hi, hix]
    rcases hd with ⟨rfl, rfl⟩ | ⟨elems, sp, rfl, hel, hg⟩
    · cases hx
    · obtain ⟨y, hy, rfl, h1, h2, h3⟩ := hg i x hx2
      refine ⟨⟨h1, h2, h3⟩, ?_⟩
      have hm := List.mem_of_getElem? hy
      have hw := weights_all (P := Try.prog) (e := 35) hm x.s.size (by
        simp [DataW.weights, Try.underlying35, DataW.weightsEach])
      simp only [DataW.weights, Try.underlying27, List.mem_cons, List.mem_append]
      exact .inr (.inl hw)
end
end Go.Proofs.Ytikfdfagnalmbaa.My
