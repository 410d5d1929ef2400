/- A node that came in, opened. -/
import Derived.Test.YtdjjpgdhnoibkaaRows
import Derived.Test.YtdjjpgdhnoibkaaWWords
import Derived.Deep.Slices
import Derived.Deep.Fields
import Derived.ChangeSame
import Derived.SizedLaws
import Derived.Lib.SmallJoins
import Derived.Test.YtdjjpgdhnoibkaaNdChk
namespace Go.Proofs.Ytdjjpgdhnoibkaa.My
open Go.ChangeShapes Go.WideShapes Go.Deep Go.RowKit Go.Proofs.YtdjjpgdhnoibkaaW.PrintWords
set_option linter.unusedSimpArgs false
set_option linter.unusedVariables false
section
variable {H : Type} {enc : TypeId × Value → H} {P : Program} {w : World} {base : Nat} {spare : Nat → Bool} {held : Bool}
theorem open_rows {α : Type} [Inhabited α] {t e : TypeId} (ht : P.underlying t = some (.slice e)) (sz : Nat) (hsz : P.cellsOf e = sz) (cells : α → List Value) (hcl : ∀ x, (cells x).length = sz) (Good : DataW H → α → Prop)
    (hdec : ∀ n cs d pl, DataW.trod enc P w base spare held n e cs = some (d, pl) → cs.length = sz → ∃ x, cs = cells x ∧ Good d x)
    {a : Option Addr} {len cap : Nat} {d : DataW H} {ps : List MemPlace} (h : DataW.Trod enc P w base spare held t (.slice a len cap) d ps) :
    ∃ xs : List α, xs.length = len ∧ len ≤ cap ∧ cap ≤ maxLen ∧ ReadsRow (fun x cs => cs = cells x) sz w a len xs ∧
      ((d = .nil ∧ xs = []) ∨ ∃ elems sp, d = .slice elems sp ∧ elems.length = len ∧ ∀ (i : Nat) (x : α), xs[i]? = some x → ∃ y, elems[i]? = some y ∧ Good y x) := by
  obtain ⟨fuel, hf⟩ := h
  rcases open_slice ht hf with ⟨h0, hx⟩ | ⟨ad, ln, cp, m, n, D, Pl, hcs, hb, hl, hm, hmm, hx, hi⟩
  · simp [Value.cells] at h0
    obtain ⟨rfl, rfl, rfl⟩ := h0
    exact ⟨[], rfl, Nat.le_refl _, Nat.zero_le _, ⟨rfl, by omega, fun h => absurd h (Nat.lt_irrefl 0)⟩, .inl ⟨(Prod.mk.inj hx).1, rfl⟩⟩
  · simp [Value.cells] at hcs
    obtain ⟨rfl, rfl, rfl⟩ := hcs
    have hlm : len ≤ m := by rw [hmm]; split <;> omega
    have hex : ∀ i, ∃ x : α, i < len → (∀ j u, (cells x)[j]? = some u → w.cell? (ad.add (i * sz + j)) = some u) ∧ Good (D i) x := by
      intro i
      by_cases hil : i < len
      · obtain ⟨cs', hc, ht'⟩ := hi i (by omega)
        rw [hsz] at hc
        obtain ⟨_, hcl', hat⟩ := World.cells?_some hc
        obtain ⟨x, rfl, hg⟩ := hdec n cs' (D i) (Pl i) ht' hcl'
        refine ⟨x, fun _ => ⟨fun j u hu => ?_, hg⟩⟩
        have hj : j < sz := by rw [← hcl']; exact (List.getElem?_eq_some_iff.1 hu).1
        rw [← Go.Deep.add_add, hat j hj, hu]
      · exact ⟨default, fun h => absurd h hil⟩
    obtain ⟨f, hf⟩ := Classical.axiomOfChoice hex
    refine ⟨(List.range len).map f, by simp, hl, hm, ⟨by simp, by unfold maxLen at hm; omega, fun _ => ⟨ad, rfl, fun j p hj => ?_⟩⟩, .inr ⟨_, _, (Prod.mk.inj hx).1, by simp, fun i x hx => ?_⟩⟩
    · obtain ⟨hj1, hj2⟩ := List.getElem?_eq_some_iff.1 hj
      have hjl : j < len := by simpa using hj1
      have hp : f j = p := by simpa using hj2
      subst hp
      exact ⟨cells (f j), hcl _, rfl, (hf j hjl).1⟩
    · obtain ⟨hj1, hj2⟩ := List.getElem?_eq_some_iff.1 hx
      have hjl : i < len := by simpa using hj1
      have hp : f i = x := by simpa using hj2
      subst hp
      exact ⟨D i, by simp [hjl], (hf i hjl).2⟩
end
theorem weights_all {H : Type} {P : Program} {e : TypeId} : ∀ {l : List (DataW H)} {d : DataW H}, d ∈ l → ∀ n ∈ d.weights P e, n ∈ DataW.weightsAll P e l
  | [], _, h, _, _ => by cases h
  | x :: r, d, h, n, hn => by
    simp only [DataW.weightsAll, List.mem_append]
    rcases List.mem_cons.1 h with rfl | h
    · exact .inl hn
    · exact .inr (weights_all h n hn)
end Go.Proofs.Ytdjjpgdhnoibkaa.My
namespace Go.Proofs.Ytdjjpgdhnoibkaa.My
open Go.ChangeShapes Go.WideShapes Go.Deep Go.RowKit Go.Joins Go.Proofs.YtdjjpgdhnoibkaaW.PrintWords Go.Proofs.Ytdjjpgdhnoibkaa.PZ
set_option linter.unusedSimpArgs false
set_option linter.unusedVariables false
set_option maxRecDepth 100000
instance : Inhabited S66 := ⟨z66⟩
def cellCells (x : S66) : List Value := [.string x.f0, .string x.f1]
def CellGood {H : Type} (y : DataW H) (x : S66) : Prop := y = .agg [.lit (.string x.f0.data.toList), .lit (.string x.f1.data.toList)]
def StrGood {H : Type} (y : DataW H) (x : ByteArray) : Prop := y = .lit (.string x.data.toList)
def IntGood {H : Type} (y : DataW H) (x : Int) : Prop := (Lit.int .u32 x).wf = true
theorem slice_shape {H : Type} {enc : TypeId × Value → H} {P : Program} {w : World} {base : Nat} {spare : Nat → Bool} {held : Bool} {n : Nat} {t e : TypeId} {v : Value} {y : DataW H × List MemPlace} (ht : P.underlying t = some (.slice e)) (h : DataW.trod enc P w base spare held n t [v] = some y) : ∃ a len cap, v = .slice a len cap ∧ DataW.Trod enc P w base spare held t (.slice a len cap) y.1 y.2 := by
  rcases open_slice ht h with ⟨h0, _⟩ | ⟨a, len, cap, _, _, _, _, h0, _⟩
  · obtain rfl := List.singleton_inj.1 h0
    exact ⟨none, 0, 0, rfl, n, by simpa [Value.cells] using h⟩
  · obtain rfl := List.singleton_inj.1 h0
    exact ⟨some a, len, cap, rfl, n, by simpa [Value.cells] using h⟩
section
variable {H : Type} {enc : TypeId × Value → H} {w : World} {base : Nat} {spare : Nat → Bool} {held : Bool}
theorem dec_cell (n : Nat) (cs : List Value) (d : DataW H) (pl : List MemPlace) (h : DataW.trod enc Try.prog w base spare held n 66 cs = some (d, pl)) (hl : cs.length = 2) : ∃ x : S66, cs = cellCells x ∧ CellGood d x := by
  match cs, hl with
  | [c0, c1], _ =>
    obtain ⟨ys, n', _, hy, _, hyl, hf⟩ := DataW.trod_struct Try.underlying66 h
    have k1 : Try.prog.cellsOf 9 = 1 := by kernel_rfl
    match ys, hyl with
    | [y0, y1], _ =>
      have x0 : DataW.trod enc Try.prog w base spare held n' 9 (([c0, c1].drop 0).take (Try.prog.cellsOf 9)) = some y0 := hf 0 _ rfl
      have x1 : DataW.trod enc Try.prog w base spare held n' 9 (([c0, c1].drop 1).take (Try.prog.cellsOf 9)) = some y1 := hf 1 _ rfl
      simp only [k1, List.drop_zero, List.drop_succ_cons, List.take_succ_cons, List.take_zero] at x0 x1
      obtain ⟨s, e0, rfl, w0⟩ := DataW.trod_string Try.underlying9 x0
      obtain ⟨m, e1, rfl, w1⟩ := DataW.trod_string Try.underlying9 x1
      obtain rfl := List.singleton_inj.1 e0
      obtain rfl := List.singleton_inj.1 e1
      exact ⟨⟨s, m⟩, rfl, (Prod.mk.inj hy).1⟩
theorem dec_str (n : Nat) (cs : List Value) (d : DataW H) (pl : List MemPlace) (h : DataW.trod enc Try.prog w base spare held n 9 cs = some (d, pl)) (hl : cs.length = 1) : ∃ x : ByteArray, cs = [.string x] ∧ StrGood d x := by
  obtain ⟨s, e0, e1, _⟩ := DataW.trod_string Try.underlying9 h
  exact ⟨s, e0, (Prod.mk.inj e1).1⟩
theorem dec_u32 (n : Nat) (cs : List Value) (d : DataW H) (pl : List MemPlace) (h : DataW.trod enc Try.prog w base spare held n 45 cs = some (d, pl)) (hl : cs.length = 1) : ∃ x : Int, cs = [.int .u32 x] ∧ IntGood d x := by
  obtain ⟨s, e0, e1, hw⟩ := DataW.trod_int Try.underlying45 h
  exact ⟨s, e0, hw⟩
theorem weight_len {P : Program} {t e : TypeId} {elems sp : List (DataW H)} (hu : P.underlying t = some (.slice e)) (B : Nat) (hB : P.bytesOf e = B) (hw : ∀ n ∈ DataW.weights P t (.slice elems sp : DataW H), n ≤ 140737488351232) : elems.length * B ≤ 140737488351232 := by
  have h := hw ((elems.length + sp.length) * B) (by
    simp only [DataW.weights, hu, hB]
    exact List.mem_cons_self)
  exact Nat.le_trans (Nat.mul_le_mul_right _ (Nat.le_add_right _ _)) h
theorem weight_mem {P : Program} {t e : TypeId} {elems sp : List (DataW H)} (hu : P.underlying t = some (.slice e)) (hw : ∀ n ∈ DataW.weights P t (.slice elems sp : DataW H), n ≤ 140737488351232) {y : DataW H} (hy : y ∈ elems) : ∀ n ∈ y.weights P e, n ≤ 140737488351232 := by
  intro n hn
  refine hw n ?_
  simp only [DataW.weights, hu]
  exact List.mem_cons_of_mem _ (List.mem_append_left _ (weights_all hy n hn))
/-- A node. -/
theorem open_node {r : Reach} {b0 : Nat} {v : Value} {D : DataW H} {p : List MemPlace} (hv : Value.okWide Try.prog w r b0 26 v) (h : DataW.Trod enc Try.prog w base spare held 26 v D p) :
    ∃ (b : Bool) (A1 : Option Addr) (c1 : Nat) (cs : List S66) (A2 : Option Addr) (c2 : Nat) (ks : List ByteArray) (A3 : Option Addr) (c3 : Nat) (kids : List Int), v = .agg #[.bool b, .slice A1 cs.length c1, .slice A2 ks.length c2, .slice A3 kids.length c3] ∧
      cs.length ≤ c1 ∧ ks.length ≤ c2 ∧ kids.length ≤ c3 ∧ Kd.C k66 w A1 cs.length cs ∧ Kd.C Kd.string w A2 ks.length ks ∧ Kd.C (Kd.int .u32) w A3 kids.length kids ∧ (∀ x ∈ kids, 0 ≤ x ∧ x < 4294967296) ∧
      ((∀ n ∈ D.weights Try.prog 26, n ≤ 140737488351232) → NdOk cs ks kids) := by
  obtain ⟨v0, v1, v2, v3, y0, y1, y2, y3, n, rfl, hD, _, x0, x1, x2, x3⟩ := open_agg4 Try.underlying26 (by kernel_rfl) (by kernel_rfl) hv h
  obtain ⟨b, e0, _⟩ := DataW.trod_bool Try.underlying4 x0
  obtain rfl := List.singleton_inj.1 e0
  obtain ⟨A1, l1, c1, rfl, t1⟩ := slice_shape Try.underlying22 x1
  obtain ⟨A2, l2, c2, rfl, t2⟩ := slice_shape Try.underlying23 x2
  obtain ⟨A3, l3, c3, rfl, t3⟩ := slice_shape Try.underlying24 x3
  obtain ⟨cs, hl1, hc1, _, hr1, hd1⟩ := open_rows Try.underlying22 2 (by kernel_rfl) cellCells (fun _ => rfl) CellGood dec_cell t1
  obtain ⟨ks, hl2, hc2, _, hr2, hd2⟩ := open_rows (α := ByteArray) Try.underlying23 1 (by kernel_rfl) (fun x => [.string x]) (fun _ => rfl) StrGood dec_str t2
  obtain ⟨kids, hl3, hc3, _, hr3, hd3⟩ := open_rows (α := Int) Try.underlying24 1 (by kernel_rfl) (fun x => [.int .u32 x]) (fun _ => rfl) IntGood dec_u32 t3
  subst hl1 hl2 hl3
  have hk : ∀ x ∈ kids, 0 ≤ x ∧ x < 4294967296 := by
    intro x hx
    obtain ⟨i, hi, hix⟩ := List.getElem_of_mem hx
    have hx2 : kids[i]? = some x := by rw [List.getElem?_eq_getElem hi, hix]
    rcases hd3 with ⟨_, rfl⟩ | ⟨elems, sp, _, hel, hg⟩
    · cases hx
    · obtain ⟨y, hy, h1⟩ := hg i x hx2
      unfold IntGood at h1
      simp [Lit.wf, IntKind.min, IntKind.max, IntKind.signed, IntKind.bits] at h1
      omega
  refine ⟨b, A1, c1, cs, A2, c2, ks, A3, c3, kids, rfl, hc1, hc2, hc3, ReadsRow.imp_ hr1 (Below.refl _ _) (fun x cs hp => by rw [hp]; exact k66_mk w x), ReadsRow.imp_ hr2 (Below.refl _ _) (fun x cs hp => hp), ReadsRow.imp_ hr3 (Below.refl _ _) (fun x cs hp => hp), hk, fun hw => ?_⟩
  have hwj : ∀ (j : Nat) (t : TypeId) (d : DataW H), ([4, 22, 23, 24] : List TypeId)[j]? = some t → [y0.1, y1.1, y2.1, y3.1][j]? = some d → ∀ n ∈ d.weights Try.prog t, n ≤ 140737488351232 := by
    intro j t d ht hd n hn
    refine hw n ?_
    rw [hD]
    simp only [DataW.weights, Try.underlying26]
    exact DataW.weights_mem_each ht hd n hn
  have w1 := hwj 1 _ _ rfl rfl
  have w2 := hwj 2 _ _ rfl rfl
  have w3 := hwj 3 _ _ rfl rfl
  clear hwj hw hD x0 x1 x2 x3 t1 t2 t3 h
  have q1 : cs.length * 32 ≤ 140737488351232 ∧ ∀ c ∈ cs, c.f0.size ≤ 140737488351232 ∧ c.f1.size ≤ 140737488351232 := by
    rcases hd1 with ⟨_, rfl⟩ | ⟨elems, sp, he, hel, hg⟩
    · exact ⟨by decide, fun c hc => by cases hc⟩
    · rw [he] at w1
      refine ⟨hel ▸ weight_len Try.underlying22 32 (by kernel_rfl) w1, fun c hc => ?_⟩
      obtain ⟨i, hi, hix⟩ := List.getElem_of_mem hc
      obtain ⟨y, hy, h1⟩ := hg i c (by rw [List.getElem?_eq_getElem hi, hix])
      have h2 := weight_mem Try.underlying22 w1 (List.mem_of_getElem? hy)
      unfold CellGood at h1
      rw [h1] at h2
      simp only [DataW.weights, Try.underlying66, DataW.weightsEach] at h2
      exact ⟨by have := h2 c.f0.data.toList.length (by simp [DataW.weightsEach, DataW.weights]); rwa [data_length] at this, by have := h2 c.f1.data.toList.length (by simp [DataW.weightsEach, DataW.weights]); rwa [data_length] at this⟩
  have q2 : ks.length * 16 ≤ 140737488351232 ∧ ∀ k ∈ ks, k.size ≤ 140737488351232 := by
    rcases hd2 with ⟨_, rfl⟩ | ⟨elems, sp, he, hel, hg⟩
    · exact ⟨by decide, fun c hc => by cases hc⟩
    · rw [he] at w2
      refine ⟨hel ▸ weight_len Try.underlying23 16 (by kernel_rfl) w2, fun c hc => ?_⟩
      obtain ⟨i, hi, hix⟩ := List.getElem_of_mem hc
      obtain ⟨y, hy, h1⟩ := hg i c (by rw [List.getElem?_eq_getElem hi, hix])
      have h2 := weight_mem Try.underlying23 w2 (List.mem_of_getElem? hy)
      unfold StrGood at h1
      rw [h1] at h2
      have := h2 c.data.toList.length (by simp [DataW.weights])
      rwa [data_length] at this
  have q3 : kids.length * 4 ≤ 140737488351232 := by
    rcases hd3 with ⟨_, rfl⟩ | ⟨elems, sp, he, hel, hg⟩
    · decide
    · rw [he] at w3
      exact hel ▸ weight_len Try.underlying24 4 (by kernel_rfl) w3
  exact ⟨⟨by omega, by omega, by omega⟩, q1.2, q2.2⟩
end
end Go.Proofs.Ytdjjpgdhnoibkaa.My
