/- NodeBranches. -/
import Derived.Test.YtdjjpgdhnoibkaaRows
import Derived.Test.YtdjjpgdhnoibkaaWWords
import Derived.Deep.Slices
import Derived.Deep.Fields
import Derived.ChangeSame
import Derived.SizedLaws
import Derived.Lib.SmallJoins
import Derived.Test.YtdjjpgdhnoibkaaNdFindP
import Derived.Test.YtdjjpgdhnoibkaaNdAgain
import Derived.Test.YtdjjpgdhnoibkaaNdRBr
namespace Go.Proofs.Ytdjjpgdhnoibkaa.My
open Go.ChangeShapes Go.WideShapes Go.Deep Go.RowKit Go.Proofs.YtdjjpgdhnoibkaaW.PrintWords
set_option linter.unusedSimpArgs false
set_option linter.unusedVariables false
section
variable {H : Type} {enc : TypeId × Value → H} {P : Program} {w : World} {base : Nat} {spare : Nat → Bool} {held : Bool}
theorem open_rows {α : Type} [Inhabited α] {t e : TypeId} (ht : P.underlying t = some (.slice e)) (sz : Nat) (hsz : P.cellsOf e = sz) (cells : α → List Value) (hcl : ∀ x, (cells x).length = sz) (Good : DataW H → α → Prop)
    (hdec : ∀ n cs d pl, DataW.trod enc P w base spare held n e cs = some (d, pl) → cs.length = sz → ∃ x, cs = cells x ∧ Good d x)
    {a : Option Addr} {len cap : Nat} {d : DataW H} {ps : List MemPlace} (h : DataW.Trod enc P w base spare held t (.slice a len cap) d ps) :
    ∃ xs : List α, xs.length = len ∧ len ≤ cap ∧ cap ≤ maxLen ∧ ReadsRow (fun x cs => cs = cells x) sz w a len xs ∧
      ((d = .nil ∧ xs = []) ∨ ∃ elems sp, d = .slice elems sp ∧ elems.length = len ∧ ∀ (i : Nat) (x : α), xs[i]? = some x → ∃ y, elems[i]? = some y ∧ Good y x) := by
  obtain ⟨fuel, hf⟩ := h
  rcases open_slice ht hf with ⟨h0, hx⟩ | ⟨ad, ln, cp, m, n, D, Pl, hcs, hb, hl, hm, hmm, hx, hi⟩
  · simp [Value.cells] at h0
    obtain ⟨rfl, rfl, rfl⟩ := h0
    exact ⟨[], rfl, Nat.le_refl _, Nat.zero_le _, ⟨rfl, by omega, fun h => absurd h (Nat.lt_irrefl 0)⟩, .inl ⟨(Prod.mk.inj hx).1, rfl⟩⟩
  · simp [Value.cells] at hcs
    obtain ⟨rfl, rfl, rfl⟩ := hcs
    have hlm : len ≤ m := by rw [hmm]; split <;> omega
    have hex : ∀ i, ∃ x : α, i < len → (∀ j u, (cells x)[j]? = some u → w.cell? (ad.add (i * sz + j)) = some u) ∧ Good (D i) x := by
      intro i
      by_cases hil : i < len
      · obtain ⟨cs', hc, ht'⟩ := hi i (by omega)
        rw [hsz] at hc
        obtain ⟨_, hcl', hat⟩ := World.cells?_some hc
        obtain ⟨x, rfl, hg⟩ := hdec n cs' (D i) (Pl i) ht' hcl'
        refine ⟨x, fun _ => ⟨fun j u hu => ?_, hg⟩⟩
        have hj : j < sz := by rw [← hcl']; exact (List.getElem?_eq_some_iff.1 hu).1
        rw [← Go.Deep.add_add, hat j hj, hu]
      · exact ⟨default, fun h => absurd h hil⟩
    obtain ⟨f, hf⟩ := Classical.axiomOfChoice hex
    refine ⟨(List.range len).map f, by simp, hl, hm, ⟨by simp, by unfold maxLen at hm; omega, fun _ => ⟨ad, rfl, fun j p hj => ?_⟩⟩, .inr ⟨_, _, (Prod.mk.inj hx).1, by simp, fun i x hx => ?_⟩⟩
    · obtain ⟨hj1, hj2⟩ := List.getElem?_eq_some_iff.1 hj
      have hjl : j < len := by simpa using hj1
      have hp : f j = p := by simpa using hj2
      subst hp
      exact ⟨cells (f j), hcl _, rfl, (hf j hjl).1⟩
    · obtain ⟨hj1, hj2⟩ := List.getElem?_eq_some_iff.1 hx
      have hjl : i < len := by simpa using hj1
      have hp : f i = x := by simpa using hj2
      subst hp
      exact ⟨D i, by simp [hjl], (hf i hjl).2⟩
end
theorem weights_all {H : Type} {P : Program} {e : TypeId} : ∀ {l : List (DataW H)} {d : DataW H}, d ∈ l → ∀ n ∈ d.weights P e, n ∈ DataW.weightsAll P e l
  | [], _, h, _, _ => by cases h
  | x :: r, d, h, n, hn => by
    simp only [DataW.weightsAll, List.mem_append]
    rcases List.mem_cons.1 h with rfl | h
    · exact .inl hn
    · exact .inr (weights_all h n hn)
end Go.Proofs.Ytdjjpgdhnoibkaa.My
namespace Go.Proofs.Ytdjjpgdhnoibkaa.My
open Go.ChangeShapes Go.WideShapes Go.Deep Go.RowKit Go.Joins Go.Proofs.YtdjjpgdhnoibkaaW.PrintWords Go.Proofs.Ytdjjpgdhnoibkaa.PZ
set_option linter.unusedSimpArgs false
set_option linter.unusedVariables false
set_option maxRecDepth 100000
instance : Inhabited S66 := ⟨z66⟩
def cellCells (x : S66) : List Value := [.string x.f0, .string x.f1]
def CellGood {H : Type} (y : DataW H) (x : S66) : Prop := y = .agg [.lit (.string x.f0.data.toList), .lit (.string x.f1.data.toList)]
def StrGood {H : Type} (y : DataW H) (x : ByteArray) : Prop := y = .lit (.string x.data.toList)
def IntGood {H : Type} (y : DataW H) (x : Int) : Prop := (Lit.int .u32 x).wf = true
theorem slice_shape {H : Type} {enc : TypeId × Value → H} {P : Program} {w : World} {base : Nat} {spare : Nat → Bool} {held : Bool} {n : Nat} {t e : TypeId} {v : Value} {y : DataW H × List MemPlace} (ht : P.underlying t = some (.slice e)) (h : DataW.trod enc P w base spare held n t [v] = some y) : ∃ a len cap, v = .slice a len cap ∧ DataW.Trod enc P w base spare held t (.slice a len cap) y.1 y.2 := by
  rcases open_slice ht h with ⟨h0, _⟩ | ⟨a, len, cap, _, _, _, _, h0, _⟩
  · obtain rfl := List.singleton_inj.1 h0
    exact ⟨none, 0, 0, rfl, n, by simpa [Value.cells] using h⟩
  · obtain rfl := List.singleton_inj.1 h0
    exact ⟨some a, len, cap, rfl, n, by simpa [Value.cells] using h⟩
section
variable {H : Type} {enc : TypeId × Value → H} {w : World} {base : Nat} {spare : Nat → Bool} {held : Bool}
theorem dec_cell (n : Nat) (cs : List Value) (d : DataW H) (pl : List MemPlace) (h : DataW.trod enc Try.prog w base spare held n 66 cs = some (d, pl)) (hl : cs.length = 2) : ∃ x : S66, cs = cellCells x ∧ CellGood d x := by
  match cs, hl with
  | [c0, c1], _ =>
    obtain ⟨ys, n', _, hy, _, hyl, hf⟩ := DataW.trod_struct Try.underlying66 h
    have k1 : Try.prog.cellsOf 9 = 1 := by kernel_rfl
    match ys, hyl with
    | [y0, y1], _ =>
      have x0 : DataW.trod enc Try.prog w base spare held n' 9 (([c0, c1].drop 0).take (Try.prog.cellsOf 9)) = some y0 := hf 0 _ rfl
      have x1 : DataW.trod enc Try.prog w base spare held n' 9 (([c0, c1].drop 1).take (Try.prog.cellsOf 9)) = some y1 := hf 1 _ rfl
      simp only [k1, List.drop_zero, List.drop_succ_cons, List.take_succ_cons, List.take_zero] at x0 x1
      obtain ⟨s, e0, rfl, w0⟩ := DataW.trod_string Try.underlying9 x0
      obtain ⟨m, e1, rfl, w1⟩ := DataW.trod_string Try.underlying9 x1
      obtain rfl := List.singleton_inj.1 e0
      obtain rfl := List.singleton_inj.1 e1
      exact ⟨⟨s, m⟩, rfl, (Prod.mk.inj hy).1⟩
theorem dec_str (n : Nat) (cs : List Value) (d : DataW H) (pl : List MemPlace) (h : DataW.trod enc Try.prog w base spare held n 9 cs = some (d, pl)) (hl : cs.length = 1) : ∃ x : ByteArray, cs = [.string x] ∧ StrGood d x := by
  obtain ⟨s, e0, e1, _⟩ := DataW.trod_string Try.underlying9 h
  exact ⟨s, e0, (Prod.mk.inj e1).1⟩
theorem dec_u32 (n : Nat) (cs : List Value) (d : DataW H) (pl : List MemPlace) (h : DataW.trod enc Try.prog w base spare held n 45 cs = some (d, pl)) (hl : cs.length = 1) : ∃ x : Int, cs = [.int .u32 x] ∧ IntGood d x := by
  obtain ⟨s, e0, e1, hw⟩ := DataW.trod_int Try.underlying45 h
  exact ⟨s, e0, hw⟩
theorem weight_len {P : Program} {t e : TypeId} {elems sp : List (DataW H)} (hu : P.underlying t = some (.slice e)) (B : Nat) (hB : P.bytesOf e = B) (hw : ∀ n ∈ DataW.weights P t (.slice elems sp : DataW H), n ≤ 140737488351232) : elems.length * B ≤ 140737488351232 := by
  have h := hw ((elems.length + sp.length) * B) (by
    simp only [DataW.weights, hu, hB]
    exact List.mem_cons_self)
  exact Nat.le_trans (Nat.mul_le_mul_right _ (Nat.le_add_right _ _)) h
theorem weight_mem {P : Program} {t e : TypeId} {elems sp : List (DataW H)} (hu : P.underlying t = some (.slice e)) (hw : ∀ n ∈ DataW.weights P t (.slice elems sp : DataW H), n ≤ 140737488351232) {y : DataW H} (hy : y ∈ elems) : ∀ n ∈ y.weights P e, n ≤ 140737488351232 := by
  intro n hn
  refine hw n ?_
  simp only [DataW.weights, hu]
  exact List.mem_cons_of_mem _ (List.mem_append_left _ (weights_all hy n hn))
/-- A node. -/
theorem open_node {r : Reach} {b0 : Nat} {v : Value} {D : DataW H} {p : List MemPlace} (hv : Value.okWide Try.prog w r b0 26 v) (h : DataW.Trod enc Try.prog w base spare held 26 v D p) :
    ∃ (b : Bool) (A1 : Option Addr) (c1 : Nat) (cs : List S66) (A2 : Option Addr) (c2 : Nat) (ks : List ByteArray) (A3 : Option Addr) (c3 : Nat) (kids : List Int), v = .agg #[.bool b, .slice A1 cs.length c1, .slice A2 ks.length c2, .slice A3 kids.length c3] ∧
      cs.length ≤ c1 ∧ ks.length ≤ c2 ∧ kids.length ≤ c3 ∧ Kd.C k66 w A1 cs.length cs ∧ Kd.C Kd.string w A2 ks.length ks ∧ Kd.C (Kd.int .u32) w A3 kids.length kids ∧ (∀ x ∈ kids, 0 ≤ x ∧ x < 4294967296) ∧
      ((∀ n ∈ D.weights Try.prog 26, n ≤ 140737488351232) → NdOk cs ks kids ∧ NdRoom cs ks kids) := by
  obtain ⟨v0, v1, v2, v3, y0, y1, y2, y3, n, rfl, hD, _, x0, x1, x2, x3⟩ := open_agg4 Try.underlying26 (by kernel_rfl) (by kernel_rfl) hv h
  obtain ⟨b, e0, _⟩ := DataW.trod_bool Try.underlying4 x0
  obtain rfl := List.singleton_inj.1 e0
  obtain ⟨A1, l1, c1, rfl, t1⟩ := slice_shape Try.underlying22 x1
  obtain ⟨A2, l2, c2, rfl, t2⟩ := slice_shape Try.underlying23 x2
  obtain ⟨A3, l3, c3, rfl, t3⟩ := slice_shape Try.underlying24 x3
  obtain ⟨cs, hl1, hc1, _, hr1, hd1⟩ := open_rows Try.underlying22 2 (by kernel_rfl) cellCells (fun _ => rfl) CellGood dec_cell t1
  obtain ⟨ks, hl2, hc2, _, hr2, hd2⟩ := open_rows (α := ByteArray) Try.underlying23 1 (by kernel_rfl) (fun x => [.string x]) (fun _ => rfl) StrGood dec_str t2
  obtain ⟨kids, hl3, hc3, _, hr3, hd3⟩ := open_rows (α := Int) Try.underlying24 1 (by kernel_rfl) (fun x => [.int .u32 x]) (fun _ => rfl) IntGood dec_u32 t3
  subst hl1 hl2 hl3
  have hk : ∀ x ∈ kids, 0 ≤ x ∧ x < 4294967296 := by
    intro x hx
    obtain ⟨i, hi, hix⟩ := List.getElem_of_mem hx
    have hx2 : kids[i]? = some x := by rw [List.getElem?_eq_getElem hi, hix]
    rcases hd3 with ⟨_, rfl⟩ | ⟨elems, sp, _, hel, hg⟩
    · cases hx
    · obtain ⟨y, hy, h1⟩ := hg i x hx2
      unfold IntGood at h1
      simp [Lit.wf, IntKind.min, IntKind.max, IntKind.signed, IntKind.bits] at h1
      omega
  refine ⟨b, A1, c1, cs, A2, c2, ks, A3, c3, kids, rfl, hc1, hc2, hc3, ReadsRow.imp_ hr1 (Below.refl _ _) (fun x cs hp => by rw [hp]; exact k66_mk w x), ReadsRow.imp_ hr2 (Below.refl _ _) (fun x cs hp => hp), ReadsRow.imp_ hr3 (Below.refl _ _) (fun x cs hp => hp), hk, fun hw => ?_⟩
  have hwj : ∀ (j : Nat) (t : TypeId) (d : DataW H), ([4, 22, 23, 24] : List TypeId)[j]? = some t → [y0.1, y1.1, y2.1, y3.1][j]? = some d → ∀ n ∈ d.weights Try.prog t, n ≤ 140737488351232 := by
    intro j t d ht hd n hn
    refine hw n ?_
    rw [hD]
    simp only [DataW.weights, Try.underlying26]
    exact DataW.weights_mem_each ht hd n hn
  have w1 := hwj 1 _ _ rfl rfl
  have w2 := hwj 2 _ _ rfl rfl
  have w3 := hwj 3 _ _ rfl rfl
  clear hwj hw hD x0 x1 x2 x3 t1 t2 t3 h
  have q1 : cs.length * 32 ≤ 140737488351232 ∧ ∀ c ∈ cs, c.f0.size ≤ 140737488351232 ∧ c.f1.size ≤ 140737488351232 := by
    rcases hd1 with ⟨_, rfl⟩ | ⟨elems, sp, he, hel, hg⟩
    · exact ⟨by decide, fun c hc => by cases hc⟩
    · rw [he] at w1
      refine ⟨hel ▸ weight_len Try.underlying22 32 (by kernel_rfl) w1, fun c hc => ?_⟩
      obtain ⟨i, hi, hix⟩ := List.getElem_of_mem hc
      obtain ⟨y, hy, h1⟩ := hg i c (by rw [List.getElem?_eq_getElem hi, hix])
      have h2 := weight_mem Try.underlying22 w1 (List.mem_of_getElem? hy)
      unfold CellGood at h1
      rw [h1] at h2
      simp only [DataW.weights, Try.underlying66, DataW.weightsEach] at h2
      exact ⟨by have := h2 c.f0.data.toList.length (by simp [DataW.weightsEach, DataW.weights]); rwa [data_length] at this, by have := h2 c.f1.data.toList.length (by simp [DataW.weightsEach, DataW.weights]); rwa [data_length] at this⟩
  have q2 : ks.length * 16 ≤ 140737488351232 ∧ ∀ k ∈ ks, k.size ≤ 140737488351232 := by
    rcases hd2 with ⟨_, rfl⟩ | ⟨elems, sp, he, hel, hg⟩
    · exact ⟨by decide, fun c hc => by cases hc⟩
    · rw [he] at w2
      refine ⟨hel ▸ weight_len Try.underlying23 16 (by kernel_rfl) w2, fun c hc => ?_⟩
      obtain ⟨i, hi, hix⟩ := List.getElem_of_mem hc
      obtain ⟨y, hy, h1⟩ := hg i c (by rw [List.getElem?_eq_getElem hi, hix])
      have h2 := weight_mem Try.underlying23 w2 (List.mem_of_getElem? hy)
      unfold StrGood at h1
      rw [h1] at h2
      have := h2 c.data.toList.length (by simp [DataW.weights])
      rwa [data_length] at this
  have q3 : kids.length * 4 ≤ 140737488351232 := by
    rcases hd3 with ⟨_, rfl⟩ | ⟨elems, sp, he, hel, hg⟩
    · decide
    · rw [he] at w3
      exact hel ▸ weight_len Try.underlying24 4 (by kernel_rfl) w3
  exact ⟨⟨⟨by omega, by omega, by omega⟩, q1.2, q2.2⟩, by unfold NdRoom; omega⟩
end
end Go.Proofs.Ytdjjpgdhnoibkaa.My
namespace Go.Proofs.Ytdjjpgdhnoibkaa.My
open Go.RowKit Go.Proofs.YtdjjpgdhnoibkaaW.PrintWords Go.Proofs.YtdjjpgdhnoibkaaW.PrintLast Go.Proofs.YtdjjpgdhnoibkaaW.PrintMore Go.Proofs.Ytdjjpgdhnoibkaa Go.Proofs.Ytdjjpgdhnoibkaa.PZ Go.Proofs.Ytdjjpgdhnoibkaa.PD Go.Proofs.Ytdjjpgdhnoibkaa.PB
set_option linter.unusedSimpArgs false
set_option linter.unusedVariables false
set_option maxRecDepth 100000
set_option maxHeartbeats 3200000
attribute [local go_sem high] conv_rune str_leq str_gtr
theorem agains (NA NW : Nat) (ca cw : Array Value) (hea : ∀ (args : Array Value) (W : World), (callFunc NA args).run Try.prog W = .ok (.enter NA args) W) (hew : ∀ (args : Array Value) (W : World), (callFunc NW args).run Try.prog W = .ok (.enter NW args) W) (G : Bool → List Ce → List ByteArray → List Int → NdV) (hG : ∀ b cs ks kids, (G b cs ks kids).1.2.1.length ≤ 1000000 ∧ (G b cs ks kids).1.2.2.1.length ≤ 1000000 ∧ (G b cs ks kids).1.2.2.2.length ≤ 1000000) (w : World) (b : Bool) (A1 : Option Addr) (c1 : Nat) (cs : List S66) (A2 : Option Addr) (c2 : Nat) (ks : List ByteArray) (A3 : Option Addr) (c3 : Nat) (kids : List Int) (hc1 : cs.length ≤ c1) (hc2 : ks.length ≤ c2) (hc3 : kids.length ≤ c3) (h1 : Kd.C k66 w A1 cs.length cs) (h2 : Kd.C Kd.string w A2 ks.length ks) (h3 : Kd.C (Kd.int .u32) w A3 kids.length kids) (hk : ∀ x ∈ kids, 0 ≤ x ∧ x < 4294967296) (hn : NdOk cs ks kids ∧ NdRoom cs ks kids) (hA : Asks w NA ca G) (hW : Asks w NW cw G) :
  Calls Try.prog 36 #[.agg #[.bool b, .slice A1 cs.length c1, .slice A2 ks.length c2, .slice A3 kids.length c3], .func (.func NA) #[] ca, .func (.func NW) #[] cw] w fun e w' => e = .returned (.bool true) ∧ Below w.heap.size w w' := by
 obtain ⟨t1, t2, t3, hl, e1, e2, e3⟩ := lent2_f b cs ks kids hn.1 hn.2
 obtain ⟨r1, r2, r3, ho, l1, l2, l3, hn', hk'⟩ := over_f b cs ks kids hn.1 hk _ (Nat.le_refl _)
 exact again_go NA NW ca cw hea hew G w hA hW b A1 c1 cs A2 c2 ks A3 c3 kids hc1 hc2 hc3 h1 h2 h3 hk hn.1 t1 t2 t3 hl e1 e2 e3 r1 r2 r3 _ ho l1 l2 l3 hn' hk' _ _ _ _ _ rfl _ _ _ _ _ rfl (hG b cs ks kids) (hG b r1 r2 r3)
def growG (i : Int) (key : ByteArray) (kid : Int) (b : Bool) (cs : List Ce) (ks : List ByteArray) (kids : List Int) : NdV :=
 (((growV b cs ks kids i key kid).1, (growV b cs ks kids i key kid).2.1, (growV b cs ks kids i key kid).2.2.1, (growV b cs ks kids i key kid).2.2.2.1), (growV b cs ks kids i key kid).2.2.2.2)
theorem ask_grow1 (w : World) (p_i : Addr) (p_key : Addr) (p_kid : Addr) (i : Int) (key : ByteArray) (kid : Int) (h_i : w.cell? p_i = some (.int .i64 i)) (h_key : w.cell? p_key = some (.string key)) (h_kid : w.cell? p_kid = some (.int .u32 kid)) : Asks w 37 #[.pointer (some p_i), .pointer (some p_key), .pointer (some p_kid)] (growG i key kid) := by
 intro W hB b A1 c1 cs A2 c2 ks A3 c3 kids hc1 hc2 hc3 h1 h2 h3 hn hk
 show Calls Try.prog 37 #[.agg #[.bool b, .slice A1 cs.length c1, .slice A2 ks.length c2, .slice A3 kids.length c3], .pointer (some p_i), .pointer (some p_key), .pointer (some p_kid)] W _
 unfold growG
 generalize hp : growV b cs ks kids i key kid = P
 obtain ⟨r1, r2, r3, r4, r5⟩ := P
 dsimp only
 have HP := Aside0.mk hp
 clear hp
 have hlw := hB.size
 have hb1 : Below W.heap.size W (W.alloc (.cells #[.bool b, .slice A1 cs.length c1, .slice A2 ks.length c2, .slice A3 kids.length c3] 26)) := (Below.refl _ _).alloc (Nat.le_refl _) _
 have hbx : (W.alloc (.cells #[.bool b, .slice A1 cs.length c1, .slice A2 ks.length c2, .slice A3 kids.length c3] 26)).heap[W.heap.size]? = some (.cells #[.bool b, .slice A1 cs.length c1, .slice A2 ks.length c2, .slice A3 kids.length c3] 26 (0, 0)) := blk_new W _
 have hs1 : (W.alloc (.cells #[.bool b, .slice A1 cs.length c1, .slice A2 ks.length c2, .slice A3 kids.length c3] 26)).heap.size = W.heap.size + 1 := by show (W.heap.push _).size = _; rw [Array.size_push]
 have hb2 : Below W.heap.size W ((W.alloc (.cells #[.bool b, .slice A1 cs.length c1, .slice A2 ks.length c2, .slice A3 kids.length c3] 26)).alloc (.cells #[.bool false, .slice none 0 0, .slice none 0 0, .slice none 0 0] 26)) := hb1.alloc (by omega) _
 have hbo : ((W.alloc (.cells #[.bool b, .slice A1 cs.length c1, .slice A2 ks.length c2, .slice A3 kids.length c3] 26)).alloc (.cells #[.bool false, .slice none 0 0, .slice none 0 0, .slice none 0 0] 26)).heap[W.heap.size + 1]? = some (.cells #[.bool false, .slice none 0 0, .slice none 0 0, .slice none 0 0] 26 (0, 0)) := by
  rw [← hs1]
  exact blk_new _ _
 have hbx2 : ((W.alloc (.cells #[.bool b, .slice A1 cs.length c1, .slice A2 ks.length c2, .slice A3 kids.length c3] 26)).alloc (.cells #[.bool false, .slice none 0 0, .slice none 0 0, .slice none 0 0] 26)).heap[W.heap.size]? = some (.cells #[.bool b, .slice A1 cs.length c1, .slice A2 ks.length c2, .slice A3 kids.length c3] 26 (0, 0)) := blk_below hbx ((Below.refl _ _).alloc (Nat.le_refl _) _)
 have k_i := (hb2.cell (Nat.lt_of_lt_of_le (World.block_lt_of_cell? w _ h_i) hlw)).trans ((hB.cell (World.block_lt_of_cell? w _ h_i)).trans h_i)
 have k_key := (hb2.cell (Nat.lt_of_lt_of_le (World.block_lt_of_cell? w _ h_key) hlw)).trans ((hB.cell (World.block_lt_of_cell? w _ h_key)).trans h_key)
 have k_kid := (hb2.cell (Nat.lt_of_lt_of_le (World.block_lt_of_cell? w _ h_kid) hlw)).trans ((hB.cell (World.block_lt_of_cell? w _ h_kid)).trans h_kid)
 have x0 := (blk_cell hbx2 0).trans rfl
 have x1 := (blk_cell hbx2 1).trans rfl
 have x2 := (blk_cell hbx2 2).trans rfl
 have x3 := (blk_cell hbx2 3).trans rfl
 have HB := Aside0.mk hb2
 have HO := Aside0.mk hbo
 have HW := Aside0.mk hlw
 clear hb1 hbx hs1 hbo hbx2 hlw hB h_i h_key h_kid
 go_enter Try.func37, Try.ntmps37
 go_wp2_with fail
 generalize (W.alloc (.cells #[.bool b, .slice A1 cs.length c1, .slice A2 ks.length c2, .slice A3 kids.length c3] 26)).alloc (.cells #[.bool false, .slice none 0 0, .slice none 0 0, .slice none 0 0] 26) = w2 at *
 clear x0 x1 x2 x3 k_i k_key k_kid
 obtain ⟨go, hgo⟩ : ∃ g, g = W.heap.size + 1 := ⟨_, rfl⟩
 rw [← hgo] at HO ⊢
 have HGO : Aside0 (W.heap.size ≤ go) := ⟨by omega⟩
 clear hgo
 refine (grow_calls w2 b A1 c1 cs A2 c2 ks A3 c3 kids i key kid hc1 hc2 hc3 (Kd.C_below h1 HB.out) (Kd.C_below h2 HB.out) (Kd.C_below h3 HB.out) hn r1 r2 r3 r4 r5 HP.out).mono ?_
 rintro e_ w3 ⟨v1, v2, v3, rfl, g1, g2, g3, hb3⟩
 replace HO := Aside0.mk (blk_below HO.out hb3)
 have hw2 := HB.out.size
 replace HB := Aside0.mk (below_then HB.out (below_size HB.out) hb3)
 obtain ⟨D1, d1, rfl⟩ := Kd.R_slice g1
 obtain ⟨D2, d2, rfl⟩ := Kd.R_slice g2
 obtain ⟨D3, d3, rfl⟩ := Kd.R_slice g3
 have G1 := Aside0.mk (Kd.R_lower g1 hw2)
 have G2 := Aside0.mk (Kd.R_lower g2 hw2)
 have G3 := Aside0.mk (Kd.R_lower g3 hw2)
 clear g1 g2 g3 hb3 hw2
 have o0 : w3.cell? ⟨go, 0, none⟩ = some (.bool false) := (blk_cell HO.out 0).trans rfl
 have o1 : w3.cell? ⟨go, 1, none⟩ = some (.slice none 0 0) := (blk_cell HO.out 1).trans rfl
 have o2 : w3.cell? ⟨go, 2, none⟩ = some (.slice none 0 0) := (blk_cell HO.out 2).trans rfl
 have o3 : w3.cell? ⟨go, 3, none⟩ = some (.slice none 0 0) := (blk_cell HO.out 3).trans rfl
 have f0 := blk_frozen HO.out 0
 have f1 := blk_frozen HO.out 1
 have f2 := blk_frozen HO.out 2
 have f3 := blk_frozen HO.out 3
 go_wp2_with fail
 (try simp only [Exit.inBlock, Exit.then]); refine bodyPost_ret (results_ct rfl _ _ go 26 _ (0, 0) _ rfl (ret_all HO.out _ _ _ _) Try.underlying26 rfl (by kernel_rfl)) rfl ?_
 exact ⟨D1, d1, D2, d2, D3, d3, rfl, NR_seal (R_ret G1.out HO.out (by decide) _ _ _ _) (R_ret G2.out HO.out (by decide) _ _ _ _) (R_ret G3.out HO.out (by decide) _ _ _ _) HW.out, below_set (below_set (below_set (below_set HB.out HGO.out) HGO.out) HGO.out) HGO.out⟩
theorem ask_grow2 (w : World) (p_i : Addr) (p_key : Addr) (p_kid : Addr) (i : Int) (key : ByteArray) (kid : Int) (h_i : w.cell? p_i = some (.int .i64 i)) (h_key : w.cell? p_key = some (.string key)) (h_kid : w.cell? p_kid = some (.int .u32 kid)) : Asks w 39 #[.pointer (some p_i), .pointer (some p_key), .pointer (some p_kid)] (growG i key kid) := by
 intro W hB b A1 c1 cs A2 c2 ks A3 c3 kids hc1 hc2 hc3 h1 h2 h3 hn hk
 show Calls Try.prog 39 #[.agg #[.bool b, .slice A1 cs.length c1, .slice A2 ks.length c2, .slice A3 kids.length c3], .pointer (some p_i), .pointer (some p_key), .pointer (some p_kid)] W _
 unfold growG
 generalize hp : growV b cs ks kids i key kid = P
 obtain ⟨r1, r2, r3, r4, r5⟩ := P
 dsimp only
 have HP := Aside0.mk hp
 clear hp
 have hlw := hB.size
 have hb1 : Below W.heap.size W (W.alloc (.cells #[.bool b, .slice A1 cs.length c1, .slice A2 ks.length c2, .slice A3 kids.length c3] 26)) := (Below.refl _ _).alloc (Nat.le_refl _) _
 have hbx : (W.alloc (.cells #[.bool b, .slice A1 cs.length c1, .slice A2 ks.length c2, .slice A3 kids.length c3] 26)).heap[W.heap.size]? = some (.cells #[.bool b, .slice A1 cs.length c1, .slice A2 ks.length c2, .slice A3 kids.length c3] 26 (0, 0)) := blk_new W _
 have hs1 : (W.alloc (.cells #[.bool b, .slice A1 cs.length c1, .slice A2 ks.length c2, .slice A3 kids.length c3] 26)).heap.size = W.heap.size + 1 := by show (W.heap.push _).size = _; rw [Array.size_push]
 have hb2 : Below W.heap.size W ((W.alloc (.cells #[.bool b, .slice A1 cs.length c1, .slice A2 ks.length c2, .slice A3 kids.length c3] 26)).alloc (.cells #[.bool false, .slice none 0 0, .slice none 0 0, .slice none 0 0] 26)) := hb1.alloc (by omega) _
 have hbo : ((W.alloc (.cells #[.bool b, .slice A1 cs.length c1, .slice A2 ks.length c2, .slice A3 kids.length c3] 26)).alloc (.cells #[.bool false, .slice none 0 0, .slice none 0 0, .slice none 0 0] 26)).heap[W.heap.size + 1]? = some (.cells #[.bool false, .slice none 0 0, .slice none 0 0, .slice none 0 0] 26 (0, 0)) := by
  rw [← hs1]
  exact blk_new _ _
 have hbx2 : ((W.alloc (.cells #[.bool b, .slice A1 cs.length c1, .slice A2 ks.length c2, .slice A3 kids.length c3] 26)).alloc (.cells #[.bool false, .slice none 0 0, .slice none 0 0, .slice none 0 0] 26)).heap[W.heap.size]? = some (.cells #[.bool b, .slice A1 cs.length c1, .slice A2 ks.length c2, .slice A3 kids.length c3] 26 (0, 0)) := blk_below hbx ((Below.refl _ _).alloc (Nat.le_refl _) _)
 have k_i := (hb2.cell (Nat.lt_of_lt_of_le (World.block_lt_of_cell? w _ h_i) hlw)).trans ((hB.cell (World.block_lt_of_cell? w _ h_i)).trans h_i)
 have k_key := (hb2.cell (Nat.lt_of_lt_of_le (World.block_lt_of_cell? w _ h_key) hlw)).trans ((hB.cell (World.block_lt_of_cell? w _ h_key)).trans h_key)
 have k_kid := (hb2.cell (Nat.lt_of_lt_of_le (World.block_lt_of_cell? w _ h_kid) hlw)).trans ((hB.cell (World.block_lt_of_cell? w _ h_kid)).trans h_kid)
 have x0 := (blk_cell hbx2 0).trans rfl
 have x1 := (blk_cell hbx2 1).trans rfl
 have x2 := (blk_cell hbx2 2).trans rfl
 have x3 := (blk_cell hbx2 3).trans rfl
 have HB := Aside0.mk hb2
 have HO := Aside0.mk hbo
 have HW := Aside0.mk hlw
 clear hb1 hbx hs1 hbo hbx2 hlw hB h_i h_key h_kid
 go_enter Try.func39, Try.ntmps39
 go_wp2_with fail
 generalize (W.alloc (.cells #[.bool b, .slice A1 cs.length c1, .slice A2 ks.length c2, .slice A3 kids.length c3] 26)).alloc (.cells #[.bool false, .slice none 0 0, .slice none 0 0, .slice none 0 0] 26) = w2 at *
 clear x0 x1 x2 x3 k_i k_key k_kid
 obtain ⟨go, hgo⟩ : ∃ g, g = W.heap.size + 1 := ⟨_, rfl⟩
 rw [← hgo] at HO ⊢
 have HGO : Aside0 (W.heap.size ≤ go) := ⟨by omega⟩
 clear hgo
 refine (concordref08_Grow.calls _ b A1 c1 cs A2 c2 ks A3 c3 kids i key kid r1 r2 r3 r4 r5 w2 (Kd.C_below h1 HB.out) hc1 (Kd.C_below h2 HB.out) hc2 (Kd.C_below h3 HB.out) hc3 ((rgrow_f b cs ks kids i key kid hn _ (Nat.le_refl _)).trans (congrArg some HP.out))).mono ?_
 rintro e_ w3 ⟨v1, v2, v3, rfl, g1, g2, g3, hb3⟩
 replace HO := Aside0.mk (blk_below HO.out hb3)
 have hw2 := HB.out.size
 replace HB := Aside0.mk (below_then HB.out (below_size HB.out) hb3)
 obtain ⟨D1, d1, rfl⟩ := Kd.R_slice g1
 obtain ⟨D2, d2, rfl⟩ := Kd.R_slice g2
 obtain ⟨D3, d3, rfl⟩ := Kd.R_slice g3
 have G1 := Aside0.mk (Kd.R_lower g1 hw2)
 have G2 := Aside0.mk (Kd.R_lower g2 hw2)
 have G3 := Aside0.mk (Kd.R_lower g3 hw2)
 clear g1 g2 g3 hb3 hw2
 have o0 : w3.cell? ⟨go, 0, none⟩ = some (.bool false) := (blk_cell HO.out 0).trans rfl
 have o1 : w3.cell? ⟨go, 1, none⟩ = some (.slice none 0 0) := (blk_cell HO.out 1).trans rfl
 have o2 : w3.cell? ⟨go, 2, none⟩ = some (.slice none 0 0) := (blk_cell HO.out 2).trans rfl
 have o3 : w3.cell? ⟨go, 3, none⟩ = some (.slice none 0 0) := (blk_cell HO.out 3).trans rfl
 have f0 := blk_frozen HO.out 0
 have f1 := blk_frozen HO.out 1
 have f2 := blk_frozen HO.out 2
 have f3 := blk_frozen HO.out 3
 go_wp2_with fail
 (try simp only [Exit.inBlock, Exit.then]); refine bodyPost_ret (results_ct rfl _ _ go 26 _ (0, 0) _ rfl (ret_all HO.out _ _ _ _) Try.underlying26 rfl (by kernel_rfl)) rfl ?_
 exact ⟨D1, d1, D2, d2, D3, d3, rfl, NR_seal (R_ret G1.out HO.out (by decide) _ _ _ _) (R_ret G2.out HO.out (by decide) _ _ _ _) (R_ret G3.out HO.out (by decide) _ _ _ _) HW.out, below_set (below_set (below_set (below_set HB.out HGO.out) HGO.out) HGO.out) HGO.out⟩
def shrinkG (i : Int) (b : Bool) (cs : List Ce) (ks : List ByteArray) (kids : List Int) : NdV :=
 (((shrinkV b cs ks kids i).1, (shrinkV b cs ks kids i).2.1, (shrinkV b cs ks kids i).2.2.1, (shrinkV b cs ks kids i).2.2.2.1), (shrinkV b cs ks kids i).2.2.2.2)
theorem ask_shrink1 (w : World) (p_i : Addr) (i : Int) (h_i : w.cell? p_i = some (.int .i64 i)) : Asks w 41 #[.pointer (some p_i)] (shrinkG i) := by
 intro W hB b A1 c1 cs A2 c2 ks A3 c3 kids hc1 hc2 hc3 h1 h2 h3 hn hk
 show Calls Try.prog 41 #[.agg #[.bool b, .slice A1 cs.length c1, .slice A2 ks.length c2, .slice A3 kids.length c3], .pointer (some p_i)] W _
 unfold shrinkG
 generalize hp : shrinkV b cs ks kids i = P
 obtain ⟨r1, r2, r3, r4, r5⟩ := P
 dsimp only
 have HP := Aside0.mk hp
 clear hp
 have hlw := hB.size
 have hb1 : Below W.heap.size W (W.alloc (.cells #[.bool b, .slice A1 cs.length c1, .slice A2 ks.length c2, .slice A3 kids.length c3] 26)) := (Below.refl _ _).alloc (Nat.le_refl _) _
 have hbx : (W.alloc (.cells #[.bool b, .slice A1 cs.length c1, .slice A2 ks.length c2, .slice A3 kids.length c3] 26)).heap[W.heap.size]? = some (.cells #[.bool b, .slice A1 cs.length c1, .slice A2 ks.length c2, .slice A3 kids.length c3] 26 (0, 0)) := blk_new W _
 have hs1 : (W.alloc (.cells #[.bool b, .slice A1 cs.length c1, .slice A2 ks.length c2, .slice A3 kids.length c3] 26)).heap.size = W.heap.size + 1 := by show (W.heap.push _).size = _; rw [Array.size_push]
 have hb2 : Below W.heap.size W ((W.alloc (.cells #[.bool b, .slice A1 cs.length c1, .slice A2 ks.length c2, .slice A3 kids.length c3] 26)).alloc (.cells #[.bool false, .slice none 0 0, .slice none 0 0, .slice none 0 0] 26)) := hb1.alloc (by omega) _
 have hbo : ((W.alloc (.cells #[.bool b, .slice A1 cs.length c1, .slice A2 ks.length c2, .slice A3 kids.length c3] 26)).alloc (.cells #[.bool false, .slice none 0 0, .slice none 0 0, .slice none 0 0] 26)).heap[W.heap.size + 1]? = some (.cells #[.bool false, .slice none 0 0, .slice none 0 0, .slice none 0 0] 26 (0, 0)) := by
  rw [← hs1]
  exact blk_new _ _
 have hbx2 : ((W.alloc (.cells #[.bool b, .slice A1 cs.length c1, .slice A2 ks.length c2, .slice A3 kids.length c3] 26)).alloc (.cells #[.bool false, .slice none 0 0, .slice none 0 0, .slice none 0 0] 26)).heap[W.heap.size]? = some (.cells #[.bool b, .slice A1 cs.length c1, .slice A2 ks.length c2, .slice A3 kids.length c3] 26 (0, 0)) := blk_below hbx ((Below.refl _ _).alloc (Nat.le_refl _) _)
 have k_i := (hb2.cell (Nat.lt_of_lt_of_le (World.block_lt_of_cell? w _ h_i) hlw)).trans ((hB.cell (World.block_lt_of_cell? w _ h_i)).trans h_i)
 have x0 := (blk_cell hbx2 0).trans rfl
 have x1 := (blk_cell hbx2 1).trans rfl
 have x2 := (blk_cell hbx2 2).trans rfl
 have x3 := (blk_cell hbx2 3).trans rfl
 have HB := Aside0.mk hb2
 have HO := Aside0.mk hbo
 have HW := Aside0.mk hlw
 clear hb1 hbx hs1 hbo hbx2 hlw hB h_i
 go_enter Try.func41, Try.ntmps41
 go_wp2_with fail
 generalize (W.alloc (.cells #[.bool b, .slice A1 cs.length c1, .slice A2 ks.length c2, .slice A3 kids.length c3] 26)).alloc (.cells #[.bool false, .slice none 0 0, .slice none 0 0, .slice none 0 0] 26) = w2 at *
 clear x0 x1 x2 x3 k_i
 obtain ⟨go, hgo⟩ : ∃ g, g = W.heap.size + 1 := ⟨_, rfl⟩
 rw [← hgo] at HO ⊢
 have HGO : Aside0 (W.heap.size ≤ go) := ⟨by omega⟩
 clear hgo
 refine (shrink_calls w2 b A1 c1 cs A2 c2 ks A3 c3 kids i hc1 hc2 hc3 (Kd.C_below h1 HB.out) (Kd.C_below h2 HB.out) (Kd.C_below h3 HB.out) hn r1 r2 r3 r4 r5 HP.out).mono ?_
 rintro e_ w3 ⟨v1, v2, v3, rfl, g1, g2, g3, hb3⟩
 replace HO := Aside0.mk (blk_below HO.out hb3)
 have hw2 := HB.out.size
 replace HB := Aside0.mk (below_then HB.out (below_size HB.out) hb3)
 obtain ⟨D1, d1, rfl⟩ := Kd.R_slice g1
 obtain ⟨D2, d2, rfl⟩ := Kd.R_slice g2
 obtain ⟨D3, d3, rfl⟩ := Kd.R_slice g3
 have G1 := Aside0.mk (Kd.R_lower g1 hw2)
 have G2 := Aside0.mk (Kd.R_lower g2 hw2)
 have G3 := Aside0.mk (Kd.R_lower g3 hw2)
 clear g1 g2 g3 hb3 hw2
 have o0 : w3.cell? ⟨go, 0, none⟩ = some (.bool false) := (blk_cell HO.out 0).trans rfl
 have o1 : w3.cell? ⟨go, 1, none⟩ = some (.slice none 0 0) := (blk_cell HO.out 1).trans rfl
 have o2 : w3.cell? ⟨go, 2, none⟩ = some (.slice none 0 0) := (blk_cell HO.out 2).trans rfl
 have o3 : w3.cell? ⟨go, 3, none⟩ = some (.slice none 0 0) := (blk_cell HO.out 3).trans rfl
 have f0 := blk_frozen HO.out 0
 have f1 := blk_frozen HO.out 1
 have f2 := blk_frozen HO.out 2
 have f3 := blk_frozen HO.out 3
 go_wp2_with fail
 (try simp only [Exit.inBlock, Exit.then]); refine bodyPost_ret (results_ct rfl _ _ go 26 _ (0, 0) _ rfl (ret_all HO.out _ _ _ _) Try.underlying26 rfl (by kernel_rfl)) rfl ?_
 exact ⟨D1, d1, D2, d2, D3, d3, rfl, NR_seal (R_ret G1.out HO.out (by decide) _ _ _ _) (R_ret G2.out HO.out (by decide) _ _ _ _) (R_ret G3.out HO.out (by decide) _ _ _ _) HW.out, below_set (below_set (below_set (below_set HB.out HGO.out) HGO.out) HGO.out) HGO.out⟩
theorem ask_shrink2 (w : World) (p_i : Addr) (i : Int) (h_i : w.cell? p_i = some (.int .i64 i)) : Asks w 43 #[.pointer (some p_i)] (shrinkG i) := by
 intro W hB b A1 c1 cs A2 c2 ks A3 c3 kids hc1 hc2 hc3 h1 h2 h3 hn hk
 show Calls Try.prog 43 #[.agg #[.bool b, .slice A1 cs.length c1, .slice A2 ks.length c2, .slice A3 kids.length c3], .pointer (some p_i)] W _
 unfold shrinkG
 generalize hp : shrinkV b cs ks kids i = P
 obtain ⟨r1, r2, r3, r4, r5⟩ := P
 dsimp only
 have HP := Aside0.mk hp
 clear hp
 have hlw := hB.size
 have hb1 : Below W.heap.size W (W.alloc (.cells #[.bool b, .slice A1 cs.length c1, .slice A2 ks.length c2, .slice A3 kids.length c3] 26)) := (Below.refl _ _).alloc (Nat.le_refl _) _
 have hbx : (W.alloc (.cells #[.bool b, .slice A1 cs.length c1, .slice A2 ks.length c2, .slice A3 kids.length c3] 26)).heap[W.heap.size]? = some (.cells #[.bool b, .slice A1 cs.length c1, .slice A2 ks.length c2, .slice A3 kids.length c3] 26 (0, 0)) := blk_new W _
 have hs1 : (W.alloc (.cells #[.bool b, .slice A1 cs.length c1, .slice A2 ks.length c2, .slice A3 kids.length c3] 26)).heap.size = W.heap.size + 1 := by show (W.heap.push _).size = _; rw [Array.size_push]
 have hb2 : Below W.heap.size W ((W.alloc (.cells #[.bool b, .slice A1 cs.length c1, .slice A2 ks.length c2, .slice A3 kids.length c3] 26)).alloc (.cells #[.bool false, .slice none 0 0, .slice none 0 0, .slice none 0 0] 26)) := hb1.alloc (by omega) _
 have hbo : ((W.alloc (.cells #[.bool b, .slice A1 cs.length c1, .slice A2 ks.length c2, .slice A3 kids.length c3] 26)).alloc (.cells #[.bool false, .slice none 0 0, .slice none 0 0, .slice none 0 0] 26)).heap[W.heap.size + 1]? = some (.cells #[.bool false, .slice none 0 0, .slice none 0 0, .slice none 0 0] 26 (0, 0)) := by
  rw [← hs1]
  exact blk_new _ _
 have hbx2 : ((W.alloc (.cells #[.bool b, .slice A1 cs.length c1, .slice A2 ks.length c2, .slice A3 kids.length c3] 26)).alloc (.cells #[.bool false, .slice none 0 0, .slice none 0 0, .slice none 0 0] 26)).heap[W.heap.size]? = some (.cells #[.bool b, .slice A1 cs.length c1, .slice A2 ks.length c2, .slice A3 kids.length c3] 26 (0, 0)) := blk_below hbx ((Below.refl _ _).alloc (Nat.le_refl _) _)
 have k_i := (hb2.cell (Nat.lt_of_lt_of_le (World.block_lt_of_cell? w _ h_i) hlw)).trans ((hB.cell (World.block_lt_of_cell? w _ h_i)).trans h_i)
 have x0 := (blk_cell hbx2 0).trans rfl
 have x1 := (blk_cell hbx2 1).trans rfl
 have x2 := (blk_cell hbx2 2).trans rfl
 have x3 := (blk_cell hbx2 3).trans rfl
 have HB := Aside0.mk hb2
 have HO := Aside0.mk hbo
 have HW := Aside0.mk hlw
 clear hb1 hbx hs1 hbo hbx2 hlw hB h_i
 go_enter Try.func43, Try.ntmps43
 go_wp2_with fail
 generalize (W.alloc (.cells #[.bool b, .slice A1 cs.length c1, .slice A2 ks.length c2, .slice A3 kids.length c3] 26)).alloc (.cells #[.bool false, .slice none 0 0, .slice none 0 0, .slice none 0 0] 26) = w2 at *
 clear x0 x1 x2 x3 k_i
 obtain ⟨go, hgo⟩ : ∃ g, g = W.heap.size + 1 := ⟨_, rfl⟩
 rw [← hgo] at HO ⊢
 have HGO : Aside0 (W.heap.size ≤ go) := ⟨by omega⟩
 clear hgo
 refine (concordref08_Shrink.calls _ b A1 c1 cs A2 c2 ks A3 c3 kids i r1 r2 r3 r4 r5 w2 (Kd.C_below h1 HB.out) hc1 (Kd.C_below h2 HB.out) hc2 (Kd.C_below h3 HB.out) hc3 ((rshrink_f b cs ks kids i hn _ (Nat.le_refl _)).trans (congrArg some HP.out))).mono ?_
 rintro e_ w3 ⟨v1, v2, v3, rfl, g1, g2, g3, hb3⟩
 replace HO := Aside0.mk (blk_below HO.out hb3)
 have hw2 := HB.out.size
 replace HB := Aside0.mk (below_then HB.out (below_size HB.out) hb3)
 obtain ⟨D1, d1, rfl⟩ := Kd.R_slice g1
 obtain ⟨D2, d2, rfl⟩ := Kd.R_slice g2
 obtain ⟨D3, d3, rfl⟩ := Kd.R_slice g3
 have G1 := Aside0.mk (Kd.R_lower g1 hw2)
 have G2 := Aside0.mk (Kd.R_lower g2 hw2)
 have G3 := Aside0.mk (Kd.R_lower g3 hw2)
 clear g1 g2 g3 hb3 hw2
 have o0 : w3.cell? ⟨go, 0, none⟩ = some (.bool false) := (blk_cell HO.out 0).trans rfl
 have o1 : w3.cell? ⟨go, 1, none⟩ = some (.slice none 0 0) := (blk_cell HO.out 1).trans rfl
 have o2 : w3.cell? ⟨go, 2, none⟩ = some (.slice none 0 0) := (blk_cell HO.out 2).trans rfl
 have o3 : w3.cell? ⟨go, 3, none⟩ = some (.slice none 0 0) := (blk_cell HO.out 3).trans rfl
 have f0 := blk_frozen HO.out 0
 have f1 := blk_frozen HO.out 1
 have f2 := blk_frozen HO.out 2
 have f3 := blk_frozen HO.out 3
 go_wp2_with fail
 (try simp only [Exit.inBlock, Exit.then]); refine bodyPost_ret (results_ct rfl _ _ go 26 _ (0, 0) _ rfl (ret_all HO.out _ _ _ _) Try.underlying26 rfl (by kernel_rfl)) rfl ?_
 exact ⟨D1, d1, D2, d2, D3, d3, rfl, NR_seal (R_ret G1.out HO.out (by decide) _ _ _ _) (R_ret G2.out HO.out (by decide) _ _ _ _) (R_ret G3.out HO.out (by decide) _ _ _ _) HW.out, below_set (below_set (below_set (below_set HB.out HGO.out) HGO.out) HGO.out) HGO.out⟩
def turnG (i : Int) (key : ByteArray) (b : Bool) (cs : List Ce) (ks : List ByteArray) (kids : List Int) : NdV :=
 (((turnV b cs ks kids i key).1, (turnV b cs ks kids i key).2.1, (turnV b cs ks kids i key).2.2.1, (turnV b cs ks kids i key).2.2.2.1), (turnV b cs ks kids i key).2.2.2.2)
theorem ask_turn1 (w : World) (p_i : Addr) (p_key : Addr) (i : Int) (key : ByteArray) (h_i : w.cell? p_i = some (.int .i64 i)) (h_key : w.cell? p_key = some (.string key)) : Asks w 45 #[.pointer (some p_i), .pointer (some p_key)] (turnG i key) := by
 intro W hB b A1 c1 cs A2 c2 ks A3 c3 kids hc1 hc2 hc3 h1 h2 h3 hn hk
 show Calls Try.prog 45 #[.agg #[.bool b, .slice A1 cs.length c1, .slice A2 ks.length c2, .slice A3 kids.length c3], .pointer (some p_i), .pointer (some p_key)] W _
 unfold turnG
 generalize hp : turnV b cs ks kids i key = P
 obtain ⟨r1, r2, r3, r4, r5⟩ := P
 dsimp only
 have HP := Aside0.mk hp
 clear hp
 have hlw := hB.size
 have hb1 : Below W.heap.size W (W.alloc (.cells #[.bool b, .slice A1 cs.length c1, .slice A2 ks.length c2, .slice A3 kids.length c3] 26)) := (Below.refl _ _).alloc (Nat.le_refl _) _
 have hbx : (W.alloc (.cells #[.bool b, .slice A1 cs.length c1, .slice A2 ks.length c2, .slice A3 kids.length c3] 26)).heap[W.heap.size]? = some (.cells #[.bool b, .slice A1 cs.length c1, .slice A2 ks.length c2, .slice A3 kids.length c3] 26 (0, 0)) := blk_new W _
 have hs1 : (W.alloc (.cells #[.bool b, .slice A1 cs.length c1, .slice A2 ks.length c2, .slice A3 kids.length c3] 26)).heap.size = W.heap.size + 1 := by show (W.heap.push _).size = _; rw [Array.size_push]
 have hb2 : Below W.heap.size W ((W.alloc (.cells #[.bool b, .slice A1 cs.length c1, .slice A2 ks.length c2, .slice A3 kids.length c3] 26)).alloc (.cells #[.bool false, .slice none 0 0, .slice none 0 0, .slice none 0 0] 26)) := hb1.alloc (by omega) _
 have hbo : ((W.alloc (.cells #[.bool b, .slice A1 cs.length c1, .slice A2 ks.length c2, .slice A3 kids.length c3] 26)).alloc (.cells #[.bool false, .slice none 0 0, .slice none 0 0, .slice none 0 0] 26)).heap[W.heap.size + 1]? = some (.cells #[.bool false, .slice none 0 0, .slice none 0 0, .slice none 0 0] 26 (0, 0)) := by
  rw [← hs1]
  exact blk_new _ _
 have hbx2 : ((W.alloc (.cells #[.bool b, .slice A1 cs.length c1, .slice A2 ks.length c2, .slice A3 kids.length c3] 26)).alloc (.cells #[.bool false, .slice none 0 0, .slice none 0 0, .slice none 0 0] 26)).heap[W.heap.size]? = some (.cells #[.bool b, .slice A1 cs.length c1, .slice A2 ks.length c2, .slice A3 kids.length c3] 26 (0, 0)) := blk_below hbx ((Below.refl _ _).alloc (Nat.le_refl _) _)
 have k_i := (hb2.cell (Nat.lt_of_lt_of_le (World.block_lt_of_cell? w _ h_i) hlw)).trans ((hB.cell (World.block_lt_of_cell? w _ h_i)).trans h_i)
 have k_key := (hb2.cell (Nat.lt_of_lt_of_le (World.block_lt_of_cell? w _ h_key) hlw)).trans ((hB.cell (World.block_lt_of_cell? w _ h_key)).trans h_key)
 have x0 := (blk_cell hbx2 0).trans rfl
 have x1 := (blk_cell hbx2 1).trans rfl
 have x2 := (blk_cell hbx2 2).trans rfl
 have x3 := (blk_cell hbx2 3).trans rfl
 have HB := Aside0.mk hb2
 have HO := Aside0.mk hbo
 have HW := Aside0.mk hlw
 clear hb1 hbx hs1 hbo hbx2 hlw hB h_i h_key
 go_enter Try.func45, Try.ntmps45
 go_wp2_with fail
 generalize (W.alloc (.cells #[.bool b, .slice A1 cs.length c1, .slice A2 ks.length c2, .slice A3 kids.length c3] 26)).alloc (.cells #[.bool false, .slice none 0 0, .slice none 0 0, .slice none 0 0] 26) = w2 at *
 clear x0 x1 x2 x3 k_i k_key
 obtain ⟨go, hgo⟩ : ∃ g, g = W.heap.size + 1 := ⟨_, rfl⟩
 rw [← hgo] at HO ⊢
 have HGO : Aside0 (W.heap.size ≤ go) := ⟨by omega⟩
 clear hgo
 refine (turn_calls w2 b A1 c1 cs A2 c2 ks A3 c3 kids i key hc1 hc2 hc3 (Kd.C_below h1 HB.out) (Kd.C_below h2 HB.out) (Kd.C_below h3 HB.out) hn r1 r2 r3 r4 r5 HP.out).mono ?_
 rintro e_ w3 ⟨v1, v2, v3, rfl, g1, g2, g3, hb3⟩
 replace HO := Aside0.mk (blk_below HO.out hb3)
 have hw2 := HB.out.size
 replace HB := Aside0.mk (below_then HB.out (below_size HB.out) hb3)
 obtain ⟨D1, d1, rfl⟩ := Kd.R_slice g1
 obtain ⟨D2, d2, rfl⟩ := Kd.R_slice g2
 obtain ⟨D3, d3, rfl⟩ := Kd.R_slice g3
 have G1 := Aside0.mk (Kd.R_lower g1 hw2)
 have G2 := Aside0.mk (Kd.R_lower g2 hw2)
 have G3 := Aside0.mk (Kd.R_lower g3 hw2)
 clear g1 g2 g3 hb3 hw2
 have o0 : w3.cell? ⟨go, 0, none⟩ = some (.bool false) := (blk_cell HO.out 0).trans rfl
 have o1 : w3.cell? ⟨go, 1, none⟩ = some (.slice none 0 0) := (blk_cell HO.out 1).trans rfl
 have o2 : w3.cell? ⟨go, 2, none⟩ = some (.slice none 0 0) := (blk_cell HO.out 2).trans rfl
 have o3 : w3.cell? ⟨go, 3, none⟩ = some (.slice none 0 0) := (blk_cell HO.out 3).trans rfl
 have f0 := blk_frozen HO.out 0
 have f1 := blk_frozen HO.out 1
 have f2 := blk_frozen HO.out 2
 have f3 := blk_frozen HO.out 3
 go_wp2_with fail
 (try simp only [Exit.inBlock, Exit.then]); refine bodyPost_ret (results_ct rfl _ _ go 26 _ (0, 0) _ rfl (ret_all HO.out _ _ _ _) Try.underlying26 rfl (by kernel_rfl)) rfl ?_
 exact ⟨D1, d1, D2, d2, D3, d3, rfl, NR_seal (R_ret G1.out HO.out (by decide) _ _ _ _) (R_ret G2.out HO.out (by decide) _ _ _ _) (R_ret G3.out HO.out (by decide) _ _ _ _) HW.out, below_set (below_set (below_set (below_set HB.out HGO.out) HGO.out) HGO.out) HGO.out⟩
theorem ask_turn2 (w : World) (p_i : Addr) (p_key : Addr) (i : Int) (key : ByteArray) (h_i : w.cell? p_i = some (.int .i64 i)) (h_key : w.cell? p_key = some (.string key)) : Asks w 47 #[.pointer (some p_i), .pointer (some p_key)] (turnG i key) := by
 intro W hB b A1 c1 cs A2 c2 ks A3 c3 kids hc1 hc2 hc3 h1 h2 h3 hn hk
 show Calls Try.prog 47 #[.agg #[.bool b, .slice A1 cs.length c1, .slice A2 ks.length c2, .slice A3 kids.length c3], .pointer (some p_i), .pointer (some p_key)] W _
 unfold turnG
 generalize hp : turnV b cs ks kids i key = P
 obtain ⟨r1, r2, r3, r4, r5⟩ := P
 dsimp only
 have HP := Aside0.mk hp
 clear hp
 have hlw := hB.size
 have hb1 : Below W.heap.size W (W.alloc (.cells #[.bool b, .slice A1 cs.length c1, .slice A2 ks.length c2, .slice A3 kids.length c3] 26)) := (Below.refl _ _).alloc (Nat.le_refl _) _
 have hbx : (W.alloc (.cells #[.bool b, .slice A1 cs.length c1, .slice A2 ks.length c2, .slice A3 kids.length c3] 26)).heap[W.heap.size]? = some (.cells #[.bool b, .slice A1 cs.length c1, .slice A2 ks.length c2, .slice A3 kids.length c3] 26 (0, 0)) := blk_new W _
 have hs1 : (W.alloc (.cells #[.bool b, .slice A1 cs.length c1, .slice A2 ks.length c2, .slice A3 kids.length c3] 26)).heap.size = W.heap.size + 1 := by show (W.heap.push _).size = _; rw [Array.size_push]
 have hb2 : Below W.heap.size W ((W.alloc (.cells #[.bool b, .slice A1 cs.length c1, .slice A2 ks.length c2, .slice A3 kids.length c3] 26)).alloc (.cells #[.bool false, .slice none 0 0, .slice none 0 0, .slice none 0 0] 26)) := hb1.alloc (by omega) _
 have hbo : ((W.alloc (.cells #[.bool b, .slice A1 cs.length c1, .slice A2 ks.length c2, .slice A3 kids.length c3] 26)).alloc (.cells #[.bool false, .slice none 0 0, .slice none 0 0, .slice none 0 0] 26)).heap[W.heap.size + 1]? = some (.cells #[.bool false, .slice none 0 0, .slice none 0 0, .slice none 0 0] 26 (0, 0)) := by
  rw [← hs1]
  exact blk_new _ _
 have hbx2 : ((W.alloc (.cells #[.bool b, .slice A1 cs.length c1, .slice A2 ks.length c2, .slice A3 kids.length c3] 26)).alloc (.cells #[.bool false, .slice none 0 0, .slice none 0 0, .slice none 0 0] 26)).heap[W.heap.size]? = some (.cells #[.bool b, .slice A1 cs.length c1, .slice A2 ks.length c2, .slice A3 kids.length c3] 26 (0, 0)) := blk_below hbx ((Below.refl _ _).alloc (Nat.le_refl _) _)
 have k_i := (hb2.cell (Nat.lt_of_lt_of_le (World.block_lt_of_cell? w _ h_i) hlw)).trans ((hB.cell (World.block_lt_of_cell? w _ h_i)).trans h_i)
 have k_key := (hb2.cell (Nat.lt_of_lt_of_le (World.block_lt_of_cell? w _ h_key) hlw)).trans ((hB.cell (World.block_lt_of_cell? w _ h_key)).trans h_key)
 have x0 := (blk_cell hbx2 0).trans rfl
 have x1 := (blk_cell hbx2 1).trans rfl
 have x2 := (blk_cell hbx2 2).trans rfl
 have x3 := (blk_cell hbx2 3).trans rfl
 have HB := Aside0.mk hb2
 have HO := Aside0.mk hbo
 have HW := Aside0.mk hlw
 clear hb1 hbx hs1 hbo hbx2 hlw hB h_i h_key
 go_enter Try.func47, Try.ntmps47
 go_wp2_with fail
 generalize (W.alloc (.cells #[.bool b, .slice A1 cs.length c1, .slice A2 ks.length c2, .slice A3 kids.length c3] 26)).alloc (.cells #[.bool false, .slice none 0 0, .slice none 0 0, .slice none 0 0] 26) = w2 at *
 clear x0 x1 x2 x3 k_i k_key
 obtain ⟨go, hgo⟩ : ∃ g, g = W.heap.size + 1 := ⟨_, rfl⟩
 rw [← hgo] at HO ⊢
 have HGO : Aside0 (W.heap.size ≤ go) := ⟨by omega⟩
 clear hgo
 refine (concordref08_Turn.calls _ b A1 c1 cs A2 c2 ks A3 c3 kids i key r1 r2 r3 r4 r5 w2 (Kd.C_below h1 HB.out) hc1 (Kd.C_below h2 HB.out) hc2 (Kd.C_below h3 HB.out) hc3 ((rturn_f b cs ks kids i key hn _ (Nat.le_refl _)).trans (congrArg some HP.out))).mono ?_
 rintro e_ w3 ⟨v1, v2, v3, rfl, g1, g2, g3, hb3⟩
 replace HO := Aside0.mk (blk_below HO.out hb3)
 have hw2 := HB.out.size
 replace HB := Aside0.mk (below_then HB.out (below_size HB.out) hb3)
 obtain ⟨D1, d1, rfl⟩ := Kd.R_slice g1
 obtain ⟨D2, d2, rfl⟩ := Kd.R_slice g2
 obtain ⟨D3, d3, rfl⟩ := Kd.R_slice g3
 have G1 := Aside0.mk (Kd.R_lower g1 hw2)
 have G2 := Aside0.mk (Kd.R_lower g2 hw2)
 have G3 := Aside0.mk (Kd.R_lower g3 hw2)
 clear g1 g2 g3 hb3 hw2
 have o0 : w3.cell? ⟨go, 0, none⟩ = some (.bool false) := (blk_cell HO.out 0).trans rfl
 have o1 : w3.cell? ⟨go, 1, none⟩ = some (.slice none 0 0) := (blk_cell HO.out 1).trans rfl
 have o2 : w3.cell? ⟨go, 2, none⟩ = some (.slice none 0 0) := (blk_cell HO.out 2).trans rfl
 have o3 : w3.cell? ⟨go, 3, none⟩ = some (.slice none 0 0) := (blk_cell HO.out 3).trans rfl
 have f0 := blk_frozen HO.out 0
 have f1 := blk_frozen HO.out 1
 have f2 := blk_frozen HO.out 2
 have f3 := blk_frozen HO.out 3
 go_wp2_with fail
 (try simp only [Exit.inBlock, Exit.then]); refine bodyPost_ret (results_ct rfl _ _ go 26 _ (0, 0) _ rfl (ret_all HO.out _ _ _ _) Try.underlying26 rfl (by kernel_rfl)) rfl ?_
 exact ⟨D1, d1, D2, d2, D3, d3, rfl, NR_seal (R_ret G1.out HO.out (by decide) _ _ _ _) (R_ret G2.out HO.out (by decide) _ _ _ _) (R_ret G3.out HO.out (by decide) _ _ _ _) HW.out, below_set (below_set (below_set (below_set HB.out HGO.out) HGO.out) HGO.out) HGO.out⟩
theorem whole_len (ks : List ByteArray) (kids : List Int) (h1 : ks.length ≤ 1000000) (h2 : kids.length ≤ 1000000) : (wholeV [] ks kids).2.1.length ≤ 1000000 ∧ (wholeV [] ks kids).2.2.1.length ≤ 1000000 ∧ (wholeV [] ks kids).2.2.2.1.length ≤ 1000000 := by
 unfold wholeV
 split
 ·exact ⟨by simp, h1, h2⟩
 ·simp
theorem ins_le {α : Type} (l : List α) (p q : Nat) (x : α) (h : l.length ≤ 10000) : (l.take p ++ ([x] ++ l.drop q)).length ≤ 1000000 := by
 rw [List.length_append, List.length_append, List.length_take, List.length_drop, List.length_singleton]; omega
theorem growG_len (i : Int) (key : ByteArray) (kid : Int) (b : Bool) (cs : List Ce) (ks : List ByteArray) (kids : List Int) : (growG i key kid b cs ks kids).1.2.1.length ≤ 1000000 ∧ (growG i key kid b cs ks kids).1.2.2.1.length ≤ 1000000 ∧ (growG i key kid b cs ks kids).1.2.2.2.length ≤ 1000000 := by
 unfold growG growV
 dsimp only
 by_cases hb : brV b cs ks kids = 0
 ·rw [if_pos hb]
  obtain ⟨rfl, hc⟩ := brV_zero hb
  obtain ⟨hB, hl⟩ := brOk_of hc
  have h2 := hB.2.1
  split
  ·simp
  ·exact whole_len _ _ (ins_le _ _ _ _ (by omega)) (ins_le _ _ _ _ (by omega))
 ·rw [if_neg hb]; simp
theorem shrinkG_len (i : Int) (b : Bool) (cs : List Ce) (ks : List ByteArray) (kids : List Int) : (shrinkG i b cs ks kids).1.2.1.length ≤ 1000000 ∧ (shrinkG i b cs ks kids).1.2.2.1.length ≤ 1000000 ∧ (shrinkG i b cs ks kids).1.2.2.2.length ≤ 1000000 := by
 unfold shrinkG shrinkV
 dsimp only
 by_cases hb : brV b cs ks kids = 0
 ·rw [if_pos hb]
  obtain ⟨rfl, hc⟩ := brV_zero hb
  obtain ⟨hB, hl⟩ := brOk_of hc
  have h2 := hB.2.1
  split
  ·simp
  ·refine ⟨by simp, ?_, ?_⟩ <;> (dsimp only; rw [List.length_append, List.length_take, List.length_drop]; omega)
 ·rw [if_neg hb]; simp
theorem turnG_len (i : Int) (key : ByteArray) (b : Bool) (cs : List Ce) (ks : List ByteArray) (kids : List Int) : (turnG i key b cs ks kids).1.2.1.length ≤ 1000000 ∧ (turnG i key b cs ks kids).1.2.2.1.length ≤ 1000000 ∧ (turnG i key b cs ks kids).1.2.2.2.length ≤ 1000000 := by
 unfold turnG turnV
 dsimp only
 by_cases hb : brV b cs ks kids = 0
 ·rw [if_pos hb]
  obtain ⟨rfl, hc⟩ := brV_zero hb
  obtain ⟨hB, hl⟩ := brOk_of hc
  have h2 := hB.2.1
  split
  ·simp
  ·exact whole_len _ _ (ins_le _ _ _ _ (by omega)) (by omega)
 ·rw [if_neg hb]; simp
theorem NodeBranches_walk (w : World) (b : Bool) (A1 : Option Addr) (c1 : Nat) (cs : List S66) (A2 : Option Addr) (c2 : Nat) (ks : List ByteArray) (A3 : Option Addr) (c3 : Nat) (kids : List Int) (hc1 : cs.length ≤ c1) (hc2 : ks.length ≤ c2) (hc3 : kids.length ≤ c3) (h1 : Kd.C k66 w A1 cs.length cs) (h2 : Kd.C Kd.string w A2 ks.length ks) (h3 : Kd.C (Kd.int .u32) w A3 kids.length kids) (hk : ∀ x ∈ kids, 0 ≤ x ∧ x < 4294967296) (hn : NdOk cs ks kids ∧ NdRoom cs ks kids) (i : Int) (hi : (Lit.int .i64 i).wf = true) (key : ByteArray) (hks : key.size ≤ 140737488351232) (kid : Int) (hkd : (Lit.int .u32 kid).wf = true) :
  Calls Try.prog 8 #[.agg #[.bool b, .slice A1 cs.length c1, .slice A2 ks.length c2, .slice A3 kids.length c3], .int .i64 i, .string key, .int .u32 kid] w fun e w' => e = .returned (.bool true) ∧ Below w.heap.size w w' := by
 have s1 : (w.alloc (.cells #[.bool b, .slice A1 cs.length c1, .slice A2 ks.length c2, .slice A3 kids.length c3] 26)).heap.size = w.heap.size + 1 := by show ((w).heap.push _).size = _; rw [Array.size_push]
 have hb1 : Below w.heap.size w (w.alloc (.cells #[.bool b, .slice A1 cs.length c1, .slice A2 ks.length c2, .slice A3 kids.length c3] 26)) := (Below.refl _ _).alloc (Nat.le_refl _) _
 have s2 : ((w.alloc (.cells #[.bool b, .slice A1 cs.length c1, .slice A2 ks.length c2, .slice A3 kids.length c3] 26)).alloc (.cells #[.int .i64 i] 3)).heap.size = w.heap.size + 1 + 1 := by show ((w.alloc (.cells #[.bool b, .slice A1 cs.length c1, .slice A2 ks.length c2, .slice A3 kids.length c3] 26)).heap.push _).size = _; rw [Array.size_push, s1]
 have hb2 : Below w.heap.size w ((w.alloc (.cells #[.bool b, .slice A1 cs.length c1, .slice A2 ks.length c2, .slice A3 kids.length c3] 26)).alloc (.cells #[.int .i64 i] 3)) := hb1.alloc (by omega) _
 have s3 : (((w.alloc (.cells #[.bool b, .slice A1 cs.length c1, .slice A2 ks.length c2, .slice A3 kids.length c3] 26)).alloc (.cells #[.int .i64 i] 3)).alloc (.cells #[.string key] 9)).heap.size = w.heap.size + 1 + 1 + 1 := by show (((w.alloc (.cells #[.bool b, .slice A1 cs.length c1, .slice A2 ks.length c2, .slice A3 kids.length c3] 26)).alloc (.cells #[.int .i64 i] 3)).heap.push _).size = _; rw [Array.size_push, s2]
 have hb3 : Below w.heap.size w (((w.alloc (.cells #[.bool b, .slice A1 cs.length c1, .slice A2 ks.length c2, .slice A3 kids.length c3] 26)).alloc (.cells #[.int .i64 i] 3)).alloc (.cells #[.string key] 9)) := hb2.alloc (by omega) _
 have s4 : ((((w.alloc (.cells #[.bool b, .slice A1 cs.length c1, .slice A2 ks.length c2, .slice A3 kids.length c3] 26)).alloc (.cells #[.int .i64 i] 3)).alloc (.cells #[.string key] 9)).alloc (.cells #[.int .u32 kid] 45)).heap.size = w.heap.size + 1 + 1 + 1 + 1 := by show ((((w.alloc (.cells #[.bool b, .slice A1 cs.length c1, .slice A2 ks.length c2, .slice A3 kids.length c3] 26)).alloc (.cells #[.int .i64 i] 3)).alloc (.cells #[.string key] 9)).heap.push _).size = _; rw [Array.size_push, s3]
 have hb4 : Below w.heap.size w ((((w.alloc (.cells #[.bool b, .slice A1 cs.length c1, .slice A2 ks.length c2, .slice A3 kids.length c3] 26)).alloc (.cells #[.int .i64 i] 3)).alloc (.cells #[.string key] 9)).alloc (.cells #[.int .u32 kid] 45)) := hb3.alloc (by omega) _
 have bn_1 : (w.alloc (.cells #[.bool b, .slice A1 cs.length c1, .slice A2 ks.length c2, .slice A3 kids.length c3] 26)).heap[w.heap.size]? = some (.cells #[.bool b, .slice A1 cs.length c1, .slice A2 ks.length c2, .slice A3 kids.length c3] 26 (0, 0)) := by exact blk_new _ _
 have bn_2 : ((w.alloc (.cells #[.bool b, .slice A1 cs.length c1, .slice A2 ks.length c2, .slice A3 kids.length c3] 26)).alloc (.cells #[.int .i64 i] 3)).heap[w.heap.size]? = some (.cells #[.bool b, .slice A1 cs.length c1, .slice A2 ks.length c2, .slice A3 kids.length c3] 26 (0, 0)) := blk_below bn_1 ((Below.refl _ _).alloc (Nat.le_refl _) _)
 have bn_3 : (((w.alloc (.cells #[.bool b, .slice A1 cs.length c1, .slice A2 ks.length c2, .slice A3 kids.length c3] 26)).alloc (.cells #[.int .i64 i] 3)).alloc (.cells #[.string key] 9)).heap[w.heap.size]? = some (.cells #[.bool b, .slice A1 cs.length c1, .slice A2 ks.length c2, .slice A3 kids.length c3] 26 (0, 0)) := blk_below bn_2 ((Below.refl _ _).alloc (Nat.le_refl _) _)
 have bn_4 : ((((w.alloc (.cells #[.bool b, .slice A1 cs.length c1, .slice A2 ks.length c2, .slice A3 kids.length c3] 26)).alloc (.cells #[.int .i64 i] 3)).alloc (.cells #[.string key] 9)).alloc (.cells #[.int .u32 kid] 45)).heap[w.heap.size]? = some (.cells #[.bool b, .slice A1 cs.length c1, .slice A2 ks.length c2, .slice A3 kids.length c3] 26 (0, 0)) := blk_below bn_3 ((Below.refl _ _).alloc (Nat.le_refl _) _)
 have bi_2 : ((w.alloc (.cells #[.bool b, .slice A1 cs.length c1, .slice A2 ks.length c2, .slice A3 kids.length c3] 26)).alloc (.cells #[.int .i64 i] 3)).heap[w.heap.size + 1]? = some (.cells #[.int .i64 i] 3 (0, 0)) := by rw [← s1]; exact blk_new _ _
 have bi_3 : (((w.alloc (.cells #[.bool b, .slice A1 cs.length c1, .slice A2 ks.length c2, .slice A3 kids.length c3] 26)).alloc (.cells #[.int .i64 i] 3)).alloc (.cells #[.string key] 9)).heap[w.heap.size + 1]? = some (.cells #[.int .i64 i] 3 (0, 0)) := blk_below bi_2 ((Below.refl _ _).alloc (Nat.le_refl _) _)
 have bi_4 : ((((w.alloc (.cells #[.bool b, .slice A1 cs.length c1, .slice A2 ks.length c2, .slice A3 kids.length c3] 26)).alloc (.cells #[.int .i64 i] 3)).alloc (.cells #[.string key] 9)).alloc (.cells #[.int .u32 kid] 45)).heap[w.heap.size + 1]? = some (.cells #[.int .i64 i] 3 (0, 0)) := blk_below bi_3 ((Below.refl _ _).alloc (Nat.le_refl _) _)
 have bkey_3 : (((w.alloc (.cells #[.bool b, .slice A1 cs.length c1, .slice A2 ks.length c2, .slice A3 kids.length c3] 26)).alloc (.cells #[.int .i64 i] 3)).alloc (.cells #[.string key] 9)).heap[w.heap.size + 1 + 1]? = some (.cells #[.string key] 9 (0, 0)) := by rw [← s2]; exact blk_new _ _
 have bkey_4 : ((((w.alloc (.cells #[.bool b, .slice A1 cs.length c1, .slice A2 ks.length c2, .slice A3 kids.length c3] 26)).alloc (.cells #[.int .i64 i] 3)).alloc (.cells #[.string key] 9)).alloc (.cells #[.int .u32 kid] 45)).heap[w.heap.size + 1 + 1]? = some (.cells #[.string key] 9 (0, 0)) := blk_below bkey_3 ((Below.refl _ _).alloc (Nat.le_refl _) _)
 have bkid_4 : ((((w.alloc (.cells #[.bool b, .slice A1 cs.length c1, .slice A2 ks.length c2, .slice A3 kids.length c3] 26)).alloc (.cells #[.int .i64 i] 3)).alloc (.cells #[.string key] 9)).alloc (.cells #[.int .u32 kid] 45)).heap[w.heap.size + 1 + 1 + 1]? = some (.cells #[.int .u32 kid] 45 (0, 0)) := by rw [← s3]; exact blk_new _ _
 have z0 : ((((w.alloc (.cells #[.bool b, .slice A1 cs.length c1, .slice A2 ks.length c2, .slice A3 kids.length c3] 26)).alloc (.cells #[.int .i64 i] 3)).alloc (.cells #[.string key] 9)).alloc (.cells #[.int .u32 kid] 45)).cell? ⟨w.heap.size, 0, none⟩ = some (.bool b) := (blk_cell bn_4 0).trans rfl
 have z1 : ((((w.alloc (.cells #[.bool b, .slice A1 cs.length c1, .slice A2 ks.length c2, .slice A3 kids.length c3] 26)).alloc (.cells #[.int .i64 i] 3)).alloc (.cells #[.string key] 9)).alloc (.cells #[.int .u32 kid] 45)).cell? ⟨w.heap.size, 1, none⟩ = some (.slice A1 cs.length c1) := (blk_cell bn_4 1).trans rfl
 have z2 : ((((w.alloc (.cells #[.bool b, .slice A1 cs.length c1, .slice A2 ks.length c2, .slice A3 kids.length c3] 26)).alloc (.cells #[.int .i64 i] 3)).alloc (.cells #[.string key] 9)).alloc (.cells #[.int .u32 kid] 45)).cell? ⟨w.heap.size, 2, none⟩ = some (.slice A2 ks.length c2) := (blk_cell bn_4 2).trans rfl
 have z3 : ((((w.alloc (.cells #[.bool b, .slice A1 cs.length c1, .slice A2 ks.length c2, .slice A3 kids.length c3] 26)).alloc (.cells #[.int .i64 i] 3)).alloc (.cells #[.string key] 9)).alloc (.cells #[.int .u32 kid] 45)).cell? ⟨w.heap.size, 3, none⟩ = some (.slice A3 kids.length c3) := (blk_cell bn_4 3).trans rfl
 have HB := Aside0.mk hb4
 have H_n := Aside0.mk bn_4
 have H_i := Aside0.mk bi_4
 have H_key := Aside0.mk bkey_4
 have H_kid := Aside0.mk bkid_4
 have HNN := Aside0.mk hn
 clear hb1 hb2 hb3 hb4 s1 s2 s3 s4 bn_1 bn_2 bn_3 bn_4 bi_2 bi_3 bi_4 bkey_3 bkey_4 bkid_4 hn
 go_enter Try.func8, Try.ntmps8
 go_wp2_with fail
 clear z0 z1 z2 z3
 generalize (((w.alloc (.cells #[.bool b, .slice A1 cs.length c1, .slice A2 ks.length c2, .slice A3 kids.length c3] 26)).alloc (.cells #[.int .i64 i] 3)).alloc (.cells #[.string key] 9)).alloc (.cells #[.int .u32 kid] 45) = w3 at *
 obtain ⟨g_n, hg_n⟩ : ∃ g, g = w.heap.size := ⟨_, rfl⟩
 obtain ⟨g_i, hg_i⟩ : ∃ g, g = w.heap.size + 1 := ⟨_, rfl⟩
 obtain ⟨g_key, hg_key⟩ : ∃ g, g = w.heap.size + 1 + 1 := ⟨_, rfl⟩
 obtain ⟨g_kid, hg_kid⟩ : ∃ g, g = w.heap.size + 1 + 1 + 1 := ⟨_, rfl⟩
 rw [← hg_kid] at H_kid ⊢
 rw [← hg_key] at H_key ⊢
 rw [← hg_i] at H_i ⊢
 rw [← hg_n] at H_n ⊢
 clear hg_n hg_i hg_key hg_kid
 have k_i : w3.cell? ⟨g_i, 0, none⟩ = some (.int .i64 i) := (blk_cell H_i.out 0).trans rfl
 have k_key : w3.cell? ⟨g_key, 0, none⟩ = some (.string key) := (blk_cell H_key.out 0).trans rfl
 have k_kid : w3.cell? ⟨g_kid, 0, none⟩ = some (.int .u32 kid) := (blk_cell H_kid.out 0).trans rfl
 refine (agains 37 39 _ _ (enters_ Try.func37 (by kernel_rfl) rfl) (enters_ Try.func39 (by kernel_rfl) rfl) (growG i key kid) (growG_len i key kid) w3 b A1 c1 cs A2 c2 ks A3 c3 kids hc1 hc2 hc3 (Kd.C_below h1 HB.out) (Kd.C_below h2 HB.out) (Kd.C_below h3 HB.out) hk HNN.out (ask_grow1 w3 _ _ _ i key kid k_i k_key k_kid) (ask_grow2 w3 _ _ _ i key kid k_i k_key k_kid)).mono ?_
 rintro e_ w4 ⟨rfl, hb⟩
 replace H_n := Aside0.mk (blk_below H_n.out hb)
 replace H_i := Aside0.mk (blk_below H_i.out hb)
 replace H_key := Aside0.mk (blk_below H_key.out hb)
 replace H_kid := Aside0.mk (blk_below H_kid.out hb)
 replace HB := Aside0.mk (below_then HB.out (below_size HB.out) hb)
 clear hb k_i k_key k_kid
 have z0 : w4.cell? ⟨g_n, 0, none⟩ = some (.bool b) := (blk_cell H_n.out 0).trans rfl
 have z1 : w4.cell? ⟨g_n, 1, none⟩ = some (.slice A1 cs.length c1) := (blk_cell H_n.out 1).trans rfl
 have z2 : w4.cell? ⟨g_n, 2, none⟩ = some (.slice A2 ks.length c2) := (blk_cell H_n.out 2).trans rfl
 have z3 : w4.cell? ⟨g_n, 3, none⟩ = some (.slice A3 kids.length c3) := (blk_cell H_n.out 3).trans rfl
 go_wp2_with fail
 clear z0 z1 z2 z3
 have k_i : w4.cell? ⟨g_i, 0, none⟩ = some (.int .i64 i) := (blk_cell H_i.out 0).trans rfl
 refine (agains 41 43 _ _ (enters_ Try.func41 (by kernel_rfl) rfl) (enters_ Try.func43 (by kernel_rfl) rfl) (shrinkG i) (shrinkG_len i) w4 b A1 c1 cs A2 c2 ks A3 c3 kids hc1 hc2 hc3 (Kd.C_below h1 HB.out) (Kd.C_below h2 HB.out) (Kd.C_below h3 HB.out) hk HNN.out (ask_shrink1 w4 _ i k_i) (ask_shrink2 w4 _ i k_i)).mono ?_
 rintro e_ w5 ⟨rfl, hb⟩
 replace H_n := Aside0.mk (blk_below H_n.out hb)
 replace H_i := Aside0.mk (blk_below H_i.out hb)
 replace H_key := Aside0.mk (blk_below H_key.out hb)
 replace H_kid := Aside0.mk (blk_below H_kid.out hb)
 replace HB := Aside0.mk (below_then HB.out (below_size HB.out) hb)
 clear hb k_i
 have z0 : w5.cell? ⟨g_n, 0, none⟩ = some (.bool b) := (blk_cell H_n.out 0).trans rfl
 have z1 : w5.cell? ⟨g_n, 1, none⟩ = some (.slice A1 cs.length c1) := (blk_cell H_n.out 1).trans rfl
 have z2 : w5.cell? ⟨g_n, 2, none⟩ = some (.slice A2 ks.length c2) := (blk_cell H_n.out 2).trans rfl
 have z3 : w5.cell? ⟨g_n, 3, none⟩ = some (.slice A3 kids.length c3) := (blk_cell H_n.out 3).trans rfl
 go_wp2_with fail
 clear z0 z1 z2 z3
 have k_i : w5.cell? ⟨g_i, 0, none⟩ = some (.int .i64 i) := (blk_cell H_i.out 0).trans rfl
 have k_key : w5.cell? ⟨g_key, 0, none⟩ = some (.string key) := (blk_cell H_key.out 0).trans rfl
 refine (agains 45 47 _ _ (enters_ Try.func45 (by kernel_rfl) rfl) (enters_ Try.func47 (by kernel_rfl) rfl) (turnG i key) (turnG_len i key) w5 b A1 c1 cs A2 c2 ks A3 c3 kids hc1 hc2 hc3 (Kd.C_below h1 HB.out) (Kd.C_below h2 HB.out) (Kd.C_below h3 HB.out) hk HNN.out (ask_turn1 w5 _ _ i key k_i k_key) (ask_turn2 w5 _ _ i key k_i k_key)).mono ?_
 rintro e_ w6 ⟨rfl, hb⟩
 replace H_n := Aside0.mk (blk_below H_n.out hb)
 replace H_i := Aside0.mk (blk_below H_i.out hb)
 replace H_key := Aside0.mk (blk_below H_key.out hb)
 replace H_kid := Aside0.mk (blk_below H_kid.out hb)
 replace HB := Aside0.mk (below_then HB.out (below_size HB.out) hb)
 clear hb k_i k_key
 go_wp2_with fail
 go_ret
 exact ⟨rfl, HB.out⟩
end Go.Proofs.Ytdjjpgdhnoibkaa.My
