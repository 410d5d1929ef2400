/- NodePuts. -/
import Derived.Test.YtdjjpgdhnoibkaaRows
import Derived.Test.YtdjjpgdhnoibkaaWWords
import Derived.Deep.Slices
import Derived.Deep.Fields
import Derived.ChangeSame
import Derived.SizedLaws
import Derived.Lib.SmallJoins
import Derived.Test.YtdjjpgdhnoibkaaNdFindP
import Derived.Test.YtdjjpgdhnoibkaaNdPut
import Derived.Test.YtdjjpgdhnoibkaaNdSrt
import Derived.Test.YtdjjpgdhnoibkaaPZx2
import Derived.Test.YtdjjpgdhnoibkaaPZx3
import Derived.Test.YtdjjpgdhnoibkaaNdAgain
import Derived.Test.YtdjjpgdhnoibkaaPZx0
import Derived.Test.YtdjjpgdhnoibkaaPZx1
import Derived.Test.YtdjjpgdhnoibkaaPZx5
import Derived.Test.YtdjjpgdhnoibkaaNdEnc
import Derived.Test.YtdjjpgdhnoibkaaNdCat
import Derived.Test.YtdjjpgdhnoibkaaPDy12
import Derived.Test.YtdjjpgdhnoibkaaPZx4
namespace Go.Proofs.Ytdjjpgdhnoibkaa.My
open Go.ChangeShapes Go.WideShapes Go.Deep Go.RowKit Go.Proofs.YtdjjpgdhnoibkaaW.PrintWords
set_option linter.unusedSimpArgs false
set_option linter.unusedVariables false
section
variable {H : Type} {enc : TypeId × Value → H} {P : Program} {w : World} {base : Nat} {spare : Nat → Bool} {held : Bool}
theorem open_rows {α : Type} [Inhabited α] {t e : TypeId} (ht : P.underlying t = some (.slice e)) (sz : Nat) (hsz : P.cellsOf e = sz) (cells : α → List Value) (hcl : ∀ x, (cells x).length = sz) (Good : DataW H → α → Prop)
    (hdec : ∀ n cs d pl, DataW.trod enc P w base spare held n e cs = some (d, pl) → cs.length = sz → ∃ x, cs = cells x ∧ Good d x)
    {a : Option Addr} {len cap : Nat} {d : DataW H} {ps : List MemPlace} (h : DataW.Trod enc P w base spare held t (.slice a len cap) d ps) :
    ∃ xs : List α, xs.length = len ∧ len ≤ cap ∧ cap ≤ maxLen ∧ ReadsRow (fun x cs => cs = cells x) sz w a len xs ∧
      ((d = .nil ∧ xs = []) ∨ ∃ elems sp, d = .slice elems sp ∧ elems.length = len ∧ ∀ (i : Nat) (x : α), xs[i]? = some x → ∃ y, elems[i]? = some y ∧ Good y x) := by
  obtain ⟨fuel, hf⟩ := h
  rcases open_slice ht hf with ⟨h0, hx⟩ | ⟨ad, ln, cp, m, n, D, Pl, hcs, hb, hl, hm, hmm, hx, hi⟩
  · simp [Value.cells] at h0
    obtain ⟨rfl, rfl, rfl⟩ := h0
    exact ⟨[], rfl, Nat.le_refl _, Nat.zero_le _, ⟨rfl, by omega, fun h => absurd h (Nat.lt_irrefl 0)⟩, .inl ⟨(Prod.mk.inj hx).1, rfl⟩⟩
  · simp [Value.cells] at hcs
    obtain ⟨rfl, rfl, rfl⟩ := hcs
    have hlm : len ≤ m := by rw [hmm]; split <;> omega
    have hex : ∀ i, ∃ x : α, i < len → (∀ j u, (cells x)[j]? = some u → w.cell? (ad.add (i * sz + j)) = some u) ∧ Good (D i) x := by
      intro i
      by_cases hil : i < len
      · obtain ⟨cs', hc, ht'⟩ := hi i (by omega)
        rw [hsz] at hc
        obtain ⟨_, hcl', hat⟩ := World.cells?_some hc
        obtain ⟨x, rfl, hg⟩ := hdec n cs' (D i) (Pl i) ht' hcl'
        refine ⟨x, fun _ => ⟨fun j u hu => ?_, hg⟩⟩
        have hj : j < sz := by rw [← hcl']; exact (List.getElem?_eq_some_iff.1 hu).1
        rw [← Go.Deep.add_add, hat j hj, hu]
      · exact ⟨default, fun h => absurd h hil⟩
    obtain ⟨f, hf⟩ := Classical.axiomOfChoice hex
    refine ⟨(List.range len).map f, by simp, hl, hm, ⟨by simp, by unfold maxLen at hm; omega, fun _ => ⟨ad, rfl, fun j p hj => ?_⟩⟩, .inr ⟨_, _, (Prod.mk.inj hx).1, by simp, fun i x hx => ?_⟩⟩
    · obtain ⟨hj1, hj2⟩ := List.getElem?_eq_some_iff.1 hj
      have hjl : j < len := by simpa using hj1
      have hp : f j = p := by simpa using hj2
      subst hp
      exact ⟨cells (f j), hcl _, rfl, (hf j hjl).1⟩
    · obtain ⟨hj1, hj2⟩ := List.getElem?_eq_some_iff.1 hx
      have hjl : i < len := by simpa using hj1
      have hp : f i = x := by simpa using hj2
      subst hp
      exact ⟨D i, by simp [hjl], (hf i hjl).2⟩
end
theorem weights_all {H : Type} {P : Program} {e : TypeId} : ∀ {l : List (DataW H)} {d : DataW H}, d ∈ l → ∀ n ∈ d.weights P e, n ∈ DataW.weightsAll P e l
  | [], _, h, _, _ => by cases h
  | x :: r, d, h, n, hn => by
    simp only [DataW.weightsAll, List.mem_append]
    rcases List.mem_cons.1 h with rfl | h
    · exact .inl hn
    · exact .inr (weights_all h n hn)
end Go.Proofs.Ytdjjpgdhnoibkaa.My
namespace Go.Proofs.Ytdjjpgdhnoibkaa.My
open Go.ChangeShapes Go.WideShapes Go.Deep Go.RowKit Go.Joins Go.Proofs.YtdjjpgdhnoibkaaW.PrintWords Go.Proofs.Ytdjjpgdhnoibkaa.PZ
set_option linter.unusedSimpArgs false
set_option linter.unusedVariables false
set_option maxRecDepth 100000
instance : Inhabited S66 := ⟨z66⟩
def cellCells (x : S66) : List Value := [.string x.f0, .string x.f1]
def CellGood {H : Type} (y : DataW H) (x : S66) : Prop := y = .agg [.lit (.string x.f0.data.toList), .lit (.string x.f1.data.toList)]
def StrGood {H : Type} (y : DataW H) (x : ByteArray) : Prop := y = .lit (.string x.data.toList)
def IntGood {H : Type} (y : DataW H) (x : Int) : Prop := (Lit.int .u32 x).wf = true
theorem slice_shape {H : Type} {enc : TypeId × Value → H} {P : Program} {w : World} {base : Nat} {spare : Nat → Bool} {held : Bool} {n : Nat} {t e : TypeId} {v : Value} {y : DataW H × List MemPlace} (ht : P.underlying t = some (.slice e)) (h : DataW.trod enc P w base spare held n t [v] = some y) : ∃ a len cap, v = .slice a len cap ∧ DataW.Trod enc P w base spare held t (.slice a len cap) y.1 y.2 := by
  rcases open_slice ht h with ⟨h0, _⟩ | ⟨a, len, cap, _, _, _, _, h0, _⟩
  · obtain rfl := List.singleton_inj.1 h0
    exact ⟨none, 0, 0, rfl, n, by simpa [Value.cells] using h⟩
  · obtain rfl := List.singleton_inj.1 h0
    exact ⟨some a, len, cap, rfl, n, by simpa [Value.cells] using h⟩
section
variable {H : Type} {enc : TypeId × Value → H} {w : World} {base : Nat} {spare : Nat → Bool} {held : Bool}
theorem dec_cell (n : Nat) (cs : List Value) (d : DataW H) (pl : List MemPlace) (h : DataW.trod enc Try.prog w base spare held n 66 cs = some (d, pl)) (hl : cs.length = 2) : ∃ x : S66, cs = cellCells x ∧ CellGood d x := by
  match cs, hl with
  | [c0, c1], _ =>
    obtain ⟨ys, n', _, hy, _, hyl, hf⟩ := DataW.trod_struct Try.underlying66 h
    have k1 : Try.prog.cellsOf 9 = 1 := by kernel_rfl
    match ys, hyl with
    | [y0, y1], _ =>
      have x0 : DataW.trod enc Try.prog w base spare held n' 9 (([c0, c1].drop 0).take (Try.prog.cellsOf 9)) = some y0 := hf 0 _ rfl
      have x1 : DataW.trod enc Try.prog w base spare held n' 9 (([c0, c1].drop 1).take (Try.prog.cellsOf 9)) = some y1 := hf 1 _ rfl
      simp only [k1, List.drop_zero, List.drop_succ_cons, List.take_succ_cons, List.take_zero] at x0 x1
      obtain ⟨s, e0, rfl, w0⟩ := DataW.trod_string Try.underlying9 x0
      obtain ⟨m, e1, rfl, w1⟩ := DataW.trod_string Try.underlying9 x1
      obtain rfl := List.singleton_inj.1 e0
      obtain rfl := List.singleton_inj.1 e1
      exact ⟨⟨s, m⟩, rfl, (Prod.mk.inj hy).1⟩
theorem dec_str (n : Nat) (cs : List Value) (d : DataW H) (pl : List MemPlace) (h : DataW.trod enc Try.prog w base spare held n 9 cs = some (d, pl)) (hl : cs.length = 1) : ∃ x : ByteArray, cs = [.string x] ∧ StrGood d x := by
  obtain ⟨s, e0, e1, _⟩ := DataW.trod_string Try.underlying9 h
  exact ⟨s, e0, (Prod.mk.inj e1).1⟩
theorem dec_u32 (n : Nat) (cs : List Value) (d : DataW H) (pl : List MemPlace) (h : DataW.trod enc Try.prog w base spare held n 45 cs = some (d, pl)) (hl : cs.length = 1) : ∃ x : Int, cs = [.int .u32 x] ∧ IntGood d x := by
  obtain ⟨s, e0, e1, hw⟩ := DataW.trod_int Try.underlying45 h
  exact ⟨s, e0, hw⟩
theorem weight_len {P : Program} {t e : TypeId} {elems sp : List (DataW H)} (hu : P.underlying t = some (.slice e)) (B : Nat) (hB : P.bytesOf e = B) (hw : ∀ n ∈ DataW.weights P t (.slice elems sp : DataW H), n ≤ 140737488351232) : elems.length * B ≤ 140737488351232 := by
  have h := hw ((elems.length + sp.length) * B) (by
    simp only [DataW.weights, hu, hB]
    exact List.mem_cons_self)
  exact Nat.le_trans (Nat.mul_le_mul_right _ (Nat.le_add_right _ _)) h
theorem weight_mem {P : Program} {t e : TypeId} {elems sp : List (DataW H)} (hu : P.underlying t = some (.slice e)) (hw : ∀ n ∈ DataW.weights P t (.slice elems sp : DataW H), n ≤ 140737488351232) {y : DataW H} (hy : y ∈ elems) : ∀ n ∈ y.weights P e, n ≤ 140737488351232 := by
  intro n hn
  refine hw n ?_
  simp only [DataW.weights, hu]
  exact List.mem_cons_of_mem _ (List.mem_append_left _ (weights_all hy n hn))
/-- A node. -/
theorem open_node {r : Reach} {b0 : Nat} {v : Value} {D : DataW H} {p : List MemPlace} (hv : Value.okWide Try.prog w r b0 26 v) (h : DataW.Trod enc Try.prog w base spare held 26 v D p) :
    ∃ (b : Bool) (A1 : Option Addr) (c1 : Nat) (cs : List S66) (A2 : Option Addr) (c2 : Nat) (ks : List ByteArray) (A3 : Option Addr) (c3 : Nat) (kids : List Int), v = .agg #[.bool b, .slice A1 cs.length c1, .slice A2 ks.length c2, .slice A3 kids.length c3] ∧
      cs.length ≤ c1 ∧ ks.length ≤ c2 ∧ kids.length ≤ c3 ∧ Kd.C k66 w A1 cs.length cs ∧ Kd.C Kd.string w A2 ks.length ks ∧ Kd.C (Kd.int .u32) w A3 kids.length kids ∧ (∀ x ∈ kids, 0 ≤ x ∧ x < 4294967296) ∧
      ((∀ n ∈ D.weights Try.prog 26, n ≤ 140737488351232) → NdOk cs ks kids ∧ NdRoom cs ks kids) := by
  obtain ⟨v0, v1, v2, v3, y0, y1, y2, y3, n, rfl, hD, _, x0, x1, x2, x3⟩ := open_agg4 Try.underlying26 (by kernel_rfl) (by kernel_rfl) hv h
  obtain ⟨b, e0, _⟩ := DataW.trod_bool Try.underlying4 x0
  obtain rfl := List.singleton_inj.1 e0
  obtain ⟨A1, l1, c1, rfl, t1⟩ := slice_shape Try.underlying22 x1
  obtain ⟨A2, l2, c2, rfl, t2⟩ := slice_shape Try.underlying23 x2
  obtain ⟨A3, l3, c3, rfl, t3⟩ := slice_shape Try.underlying24 x3
  obtain ⟨cs, hl1, hc1, _, hr1, hd1⟩ := open_rows Try.underlying22 2 (by kernel_rfl) cellCells (fun _ => rfl) CellGood dec_cell t1
  obtain ⟨ks, hl2, hc2, _, hr2, hd2⟩ := open_rows (α := ByteArray) Try.underlying23 1 (by kernel_rfl) (fun x => [.string x]) (fun _ => rfl) StrGood dec_str t2
  obtain ⟨kids, hl3, hc3, _, hr3, hd3⟩ := open_rows (α := Int) Try.underlying24 1 (by kernel_rfl) (fun x => [.int .u32 x]) (fun _ => rfl) IntGood dec_u32 t3
  subst hl1 hl2 hl3
  have hk : ∀ x ∈ kids, 0 ≤ x ∧ x < 4294967296 := by
    intro x hx
    obtain ⟨i, hi, hix⟩ := List.getElem_of_mem hx
    have hx2 : kids[i]? = some x := by rw [List.getElem?_eq_getElem hi, hix]
    rcases hd3 with ⟨_, rfl⟩ | ⟨elems, sp, _, hel, hg⟩
    · cases hx
    · obtain ⟨y, hy, h1⟩ := hg i x hx2
      unfold IntGood at h1
      simp [Lit.wf, IntKind.min, IntKind.max, IntKind.signed, IntKind.bits] at h1
      omega
  refine ⟨b, A1, c1, cs, A2, c2, ks, A3, c3, kids, rfl, hc1, hc2, hc3, ReadsRow.imp_ hr1 (Below.refl _ _) (fun x cs hp => by rw [hp]; exact k66_mk w x), ReadsRow.imp_ hr2 (Below.refl _ _) (fun x cs hp => hp), ReadsRow.imp_ hr3 (Below.refl _ _) (fun x cs hp => hp), hk, fun hw => ?_⟩
  have hwj : ∀ (j : Nat) (t : TypeId) (d : DataW H), ([4, 22, 23, 24] : List TypeId)[j]? = some t → [y0.1, y1.1, y2.1, y3.1][j]? = some d → ∀ n ∈ d.weights Try.prog t, n ≤ 140737488351232 := by
    intro j t d ht hd n hn
    refine hw n ?_
    rw [hD]
    simp only [DataW.weights, Try.underlying26]
    exact DataW.weights_mem_each ht hd n hn
  have w1 := hwj 1 _ _ rfl rfl
  have w2 := hwj 2 _ _ rfl rfl
  have w3 := hwj 3 _ _ rfl rfl
  clear hwj hw hD x0 x1 x2 x3 t1 t2 t3 h
  have q1 : cs.length * 32 ≤ 140737488351232 ∧ ∀ c ∈ cs, c.f0.size ≤ 140737488351232 ∧ c.f1.size ≤ 140737488351232 := by
    rcases hd1 with ⟨_, rfl⟩ | ⟨elems, sp, he, hel, hg⟩
    · exact ⟨by decide, fun c hc => by cases hc⟩
    · rw [he] at w1
      refine ⟨hel ▸ weight_len Try.underlying22 32 (by kernel_rfl) w1, fun c hc => ?_⟩
      obtain ⟨i, hi, hix⟩ := List.getElem_of_mem hc
      obtain ⟨y, hy, h1⟩ := hg i c (by rw [List.getElem?_eq_getElem hi, hix])
      have h2 := weight_mem Try.underlying22 w1 (List.mem_of_getElem? hy)
      unfold CellGood at h1
      rw [h1] at h2
      simp only [DataW.weights, Try.underlying66, DataW.weightsEach] at h2
      exact ⟨by have := h2 c.f0.data.toList.length (by simp [DataW.weightsEach, DataW.weights]); rwa [data_length] at this, by have := h2 c.f1.data.toList.length (by simp [DataW.weightsEach, DataW.weights]); rwa [data_length] at this⟩
  have q2 : ks.length * 16 ≤ 140737488351232 ∧ ∀ k ∈ ks, k.size ≤ 140737488351232 := by
    rcases hd2 with ⟨_, rfl⟩ | ⟨elems, sp, he, hel, hg⟩
    · exact ⟨by decide, fun c hc => by cases hc⟩
    · rw [he] at w2
      refine ⟨hel ▸ weight_len Try.underlying23 16 (by kernel_rfl) w2, fun c hc => ?_⟩
      obtain ⟨i, hi, hix⟩ := List.getElem_of_mem hc
      obtain ⟨y, hy, h1⟩ := hg i c (by rw [List.getElem?_eq_getElem hi, hix])
      have h2 := weight_mem Try.underlying23 w2 (List.mem_of_getElem? hy)
      unfold StrGood at h1
      rw [h1] at h2
      have := h2 c.data.toList.length (by simp [DataW.weights])
      rwa [data_length] at this
  have q3 : kids.length * 4 ≤ 140737488351232 := by
    rcases hd3 with ⟨_, rfl⟩ | ⟨elems, sp, he, hel, hg⟩
    · decide
    · rw [he] at w3
      exact hel ▸ weight_len Try.underlying24 4 (by kernel_rfl) w3
  exact ⟨⟨⟨by omega, by omega, by omega⟩, q1.2, q2.2⟩, by unfold NdRoom; omega⟩
end
end Go.Proofs.Ytdjjpgdhnoibkaa.My
namespace Go.Proofs.Ytdjjpgdhnoibkaa.My
open Go.RowKit Go.Proofs.YtdjjpgdhnoibkaaW.PrintWords Go.Proofs.YtdjjpgdhnoibkaaW.PrintLast Go.Proofs.YtdjjpgdhnoibkaaW.PrintMore Go.Proofs.Ytdjjpgdhnoibkaa Go.Proofs.Ytdjjpgdhnoibkaa.PZ
set_option linter.unusedSimpArgs false
set_option linter.unusedVariables false
set_option maxRecDepth 100000
set_option maxHeartbeats 3200000
attribute [local go_sem high] conv_rune str_leq str_gtr
theorem ret_all {w2 : World} {g : Nat} {u0 u1 u2 u3 : Value} (h : w2.heap[g]? = some (.cells #[u0, u1, u2, u3] 26 (0, 0))) (v0 v1 v2 v3 : Value) :
    ((((w2.setCell ⟨g, 0, none⟩ v0).setCell ⟨g, 1, none⟩ v1).setCell ⟨g, 2, none⟩ v2).setCell ⟨g, 3, none⟩ v3).heap[g]? = some (.cells #[v0, v1, v2, v3] 26 (0, 0)) := by
  refine blk_put (cs := #[v0, v1, v2, u3]) ?_ 3 _ rfl
  refine blk_put (cs := #[v0, v1, u2, u3]) ?_ 2 _ rfl
  refine blk_put (cs := #[v0, u1, u2, u3]) ?_ 1 _ rfl
  exact blk_put (cs := #[u0, u1, u2, u3]) h 0 _ rfl
theorem R_ret {α : Type} {d : Kd α} {e g : Nat} {w : World} {base : Nat} {ok : Nat → Prop} {v : Value} {xs : List α} (h : d.R e w base ok v xs) {cells : Array Value} (hb : w.heap[g]? = some (.cells cells 26 (0, 0))) (ht : ∀ q, q ∈ e :: d.E → q ≠ 26) (v0 v1 v2 v3 : Value) :
    d.R e ((((w.setCell ⟨g, 0, none⟩ v0).setCell ⟨g, 1, none⟩ v1).setCell ⟨g, 2, none⟩ v2).setCell ⟨g, 3, none⟩ v3) base ok v xs :=
  Kd.R_mono (Kd.R_far (p := ⟨g, 3, none⟩) (Kd.R_far (p := ⟨g, 2, none⟩) (Kd.R_far (p := ⟨g, 1, none⟩) (Kd.R_far (p := ⟨g, 0, none⟩) (Kd.R_types h hb ht) (fun _ hk => hk.2) v0) (fun _ hk => hk.2) v1) (fun _ hk => hk.2) v2) (fun _ hk => hk.2) v3) (fun _ hk => hk.1)
theorem leaf_calls (W : World) (A : Option Addr) (n c : Nat) : Calls Try.prog 76 #[.slice A n c] W fun e w' => e = .returned (.agg #[.bool true, .slice A n c, .slice none 0 0, .slice none 0 0]) ∧ Below W.heap.size W w' := by
  go_enter Try.func76, Try.ntmps76
  go_wp2_with fail
  refine bodyPost_ret (results_cell_row rfl _ _ W.heap.size 26 #[.bool true, .slice A n c, .slice none 0 0, .slice none 0 0] (0, 0) _ rfl (blk_new W _) Try.underlying26 rfl (by kernel_rfl)) rfl ?_
  exact ⟨rfl, (Below.refl _ _).alloc (Nat.le_refl _) _⟩
/-- What Put has gathered ahead of cell i; whether the new one is in. -/
def rP (cs : List Ce) (s g i : Nat) (x : Ce) : List Ce := if i ≤ s then cs.take i else cs.take s ++ x :: (cs.take i).drop (s + g)
theorem rP_len (cs : List Ce) (s g i : Nat) (x : Ce) : (rP cs s g i x).length ≤ i + 1 := by
  unfold rP
  split
  · rw [List.length_take]; omega
  · rw [List.length_append, List.length_cons, List.length_drop, List.length_take, List.length_take]; omega
theorem rP_lo (cs : List Ce) (s g i : Nat) (x : Ce) (h : i < s) (hi : i < cs.length) : rP cs s g (i + 1) x = rP cs s g i x ++ [cs[i]] := by
  unfold rP
  rw [if_pos (by omega), if_pos (by omega), List.take_succ_eq_append_getElem hi]
theorem rP_hi (cs : List Ce) (s g i : Nat) (x : Ce) (h : s < i) (hg : g ≤ 1) (hi : i < cs.length) : rP cs s g (i + 1) x = rP cs s g i x ++ [cs[i]] := by
  unfold rP
  rw [if_neg (by omega), if_neg (by omega), List.take_succ_eq_append_getElem hi, List.drop_append_of_le_length (by rw [List.length_take]; omega), List.append_assoc]
  rfl
theorem rP_at0 (cs : List Ce) (s : Nat) (x : Ce) (hi : s < cs.length) : rP cs s 0 (s + 1) x = rP cs s 0 s x ++ [x] ++ [cs[s]] := by
  unfold rP
  rw [if_neg (by omega), if_pos (Nat.le_refl _), List.take_succ_eq_append_getElem hi, Nat.add_zero, List.drop_left' (by rw [List.length_take]; omega)]
  simp
theorem rP_at1 (cs : List Ce) (s : Nat) (x : Ce) (hi : s < cs.length) : rP cs s 1 (s + 1) x = rP cs s 1 s x ++ [x] := by
  unfold rP
  rw [if_neg (by omega), if_pos (Nat.le_refl _), List.drop_eq_nil_of_le (by rw [List.length_take]; omega)]
theorem ins_rP (cs : List Ce) (key value : ByteArray) (s g : Nat) (hs : s = srch (pF cs key) cs.length 0 cs.length) (hg : g = if (findV cs key).2 = true then 1 else 0) (h : s < cs.length) : insV cs key value = rP cs s g cs.length ⟨key, value⟩ := by
  have e1 : (findV cs key).1.toNat = s := by unfold findV; rw [← hs]; exact Int.toNat_natCast s
  unfold insV rP
  rw [e1, ← hg, if_neg (by omega), List.take_length]
theorem ins_end (cs : List Ce) (key value : ByteArray) (s g : Nat) (hs : s = srch (pF cs key) cs.length 0 cs.length) (h : s = cs.length) : insV cs key value = rP cs s g cs.length ⟨key, value⟩ ++ [⟨key, value⟩] := by
  have e1 : (findV cs key).1.toNat = s := by unfold findV; rw [← hs]; exact Int.toNat_natCast s
  have e2 : rP cs s g cs.length ⟨key, value⟩ = cs := by unfold rP; rw [if_pos (by omega), List.take_length]
  rw [e2]
  unfold insV
  rw [e1, List.drop_eq_nil_of_le (by omega), h, List.take_length]
theorem find_ne (cs : List Ce) (key : ByteArray) (h : Rise (cs.map (fun c => c.f0))) (i : Nat) (hi : i < cs.length) (hne : i ≠ srch (pF cs key) cs.length 0 cs.length) : (cs[i].f0.toList == key.toList) = false := by
  obtain ⟨f1, f2, f3⟩ := find_at cs key h
  generalize srch (pF cs key) cs.length 0 cs.length = s at *
  rw [beq_eq_false_iff_ne]
  intro e
  by_cases his : i < s
  · have h5 := f2 i hi his
    rw [e, bl_irr] at h5
    cases h5
  · have hr := rise_at h s i (by omega) (by rw [List.length_map]; exact hi)
    rw [List.getElem_map, List.getElem_map] at hr
    have h5 := bl_le_lt key.toList _ _ (f3 s (by omega) (Nat.le_refl _)) hr
    rw [e, bl_irr] at h5
    cases h5
theorem rput_calls (W : World) (b : Bool) (B1 : Option Addr) (c1 : Nat) (cs : List Ce) (B2 : Option Addr) (c2 : Nat) (ks : List ByteArray) (B3 : Option Addr) (c3 : Nat) (kids : List Int) (key value : ByteArray) (hc1 : cs.length ≤ c1) (hc2 : ks.length ≤ c2) (hc3 : kids.length ≤ c3) (h1 : Kd.C k66 W B1 cs.length cs) (h2 : Kd.C Kd.string W B2 ks.length ks) (h3 : Kd.C (Kd.int .u32) W B3 kids.length kids) (hn : NdOk cs ks kids) (hks : key.size ≤ 140737488351232) (hvs : value.size ≤ 140737488351232) (r1 : Bool) (r2 : List Ce) (r3 : List ByteArray) (r4 : List Int) (r5 : Int) (h : putV b cs ks kids key value = (r1, r2, r3, r4, r5)) :
    Calls Try.prog 52 #[.agg #[.bool b, .slice B1 cs.length c1, .slice B2 ks.length c2, .slice B3 kids.length c3], .string key, .string value] W fun e w' => ∃ v1_ v2_ v3_ : Value, e = .returned (.tuple #[.agg #[.bool r1, v1_, v2_, v3_], .int .i64 r5]) ∧ Kd.R k66 66 w' W.heap.size (fun _ => True) v1_ r2 ∧ Kd.R Kd.string 9 w' W.heap.size (fun _ => True) v2_ r3 ∧ Kd.R (Kd.int .u32) 45 w' W.heap.size (fun _ => True) v3_ r4 ∧ Below W.heap.size W w' := by
  have hchk := rchk_f b cs ks kids hn (2 * (cs.length + ks.length) + kids.length + 60) (Nat.le_refl _)
  generalize hC : chkV b cs ks kids = C at hchk
  have H := Aside0.mk h
  have HN := Aside0.mk hn
  clear h hn
  go_enter Try.func52, Try.ntmps52
  go_wp2_with fail
  have hbx : (W.alloc (.cells #[.bool b, .slice B1 cs.length c1, .slice B2 ks.length c2, .slice B3 kids.length c3] 26)).heap[W.heap.size]? = some (.cells #[.bool b, .slice B1 cs.length c1, .slice B2 ks.length c2, .slice B3 kids.length c3] 26 (0, 0)) := blk_new W _
  have hb0 : Below W.heap.size W (W.alloc (.cells #[.bool b, .slice B1 cs.length c1, .slice B2 ks.length c2, .slice B3 kids.length c3] 26)) := (Below.refl _ _).alloc (Nat.le_refl _) _
  have hs1 : (W.alloc (.cells #[.bool b, .slice B1 cs.length c1, .slice B2 ks.length c2, .slice B3 kids.length c3] 26)).heap.size = W.heap.size + 1 := by show (W.heap.push _).size = _; rw [Array.size_push]
  generalize W.alloc (.cells #[.bool b, .slice B1 cs.length c1, .slice B2 ks.length c2, .slice B3 kids.length c3] 26) = wa at *
  have hbo : (wa.alloc (.cells #[.bool false, .slice none 0 0, .slice none 0 0, .slice none 0 0] 26)).heap[wa.heap.size]? = some (.cells #[.bool false, .slice none 0 0, .slice none 0 0, .slice none 0 0] 26 (0, 0)) := blk_new wa _
  have hb1 : Below wa.heap.size wa (wa.alloc (.cells #[.bool false, .slice none 0 0, .slice none 0 0, .slice none 0 0] 26)) := (Below.refl _ _).alloc (Nat.le_refl _) _
  rw [hs1] at hbo
  replace hbx := blk_below hbx hb1
  replace hb0 := below_then hb0 (below_size hb0) hb1
  clear hb1 hs1
  generalize wa.alloc (.cells #[.bool false, .slice none 0 0, .slice none 0 0, .slice none 0 0] 26) = w1 at *
  generalize hgo : W.heap.size + 1 = go at hbo ⊢
  generalize hgn : W.heap.size = gn at hbx ⊢
  have HG := Aside0.mk hgn
  have HG1 := Aside0.mk hgo
  clear hgn hgo
  have hR1 := Kd.C_below h1 hb0
  have hR2 := Kd.C_below h2 hb0
  have hR3 := Kd.C_below h3 hb0
  have HRW := Aside0.mk h1
  clear h1 h2 h3
  refine (concordref08_Check.calls _ b B1 c1 cs B2 c2 ks B3 c3 kids C w1 hR1 hc1 hR2 hc2 hR3 hc3 hchk).mono ?_
  rintro e_ w2 ⟨rfl, hb2⟩
  replace hbx := blk_below hbx hb2
  replace hbo := blk_below hbo hb2
  replace hb0 := below_then hb0 (below_size hb0) hb2
  clear hR1 hR2 hR3 hb2 hchk
  have k0 : w2.cell? ⟨gn, 0, none⟩ = some (.bool b) := (blk_cell hbx 0).trans rfl
  have k1 : w2.cell? ⟨gn, 1, none⟩ = some (.slice B1 cs.length c1) := (blk_cell hbx 1).trans rfl
  have k2 : w2.cell? ⟨gn, 2, none⟩ = some (.slice B2 ks.length c2) := (blk_cell hbx 2).trans rfl
  have k3 : w2.cell? ⟨gn, 3, none⟩ = some (.slice B3 kids.length c3) := (blk_cell hbx 3).trans rfl
  have o0 : w2.cell? ⟨go, 0, none⟩ = some (.bool false) := (blk_cell hbo 0).trans rfl
  have o1 : w2.cell? ⟨go, 1, none⟩ = some (.slice none 0 0) := (blk_cell hbo 1).trans rfl
  have o2 : w2.cell? ⟨go, 2, none⟩ = some (.slice none 0 0) := (blk_cell hbo 2).trans rfl
  have o3 : w2.cell? ⟨go, 3, none⟩ = some (.slice none 0 0) := (blk_cell hbo 3).trans rfl
  have f0 := blk_frozen hbo 0
  have f1 := blk_frozen hbo 1
  have f2 := blk_frozen hbo 2
  have f3 := blk_frozen hbo 3
  have HB := Aside0.mk hb0
  have HG2 := Aside0.mk (show W.heap.size ≤ go by have := HG1.out; omega)
  clear hb0
  have bad : ∀ c, (∀ v, v = putV b cs ks kids key value → v = (false, [], [], [], c)) → (r1, r2, r3, r4, r5) = (false, [], [], [], c) := fun c hc => H.out.symm.trans (hc _ rfl)
  by_cases hC0 : C = 0
  · subst hC0
    have HC := Aside0.mk hC
    clear hC
    cases b with
    | false =>
      have hp := bad 80 (fun v hv => by rw [hv]; unfold putV; rw [HC.out, if_pos rfl, if_neg (show ¬ (false = true) by decide)])
      clear bad
      injection hp with e1 hp
      injection hp with e2 hp
      injection hp with e3 hp
      injection hp with e4 e5
      subst e1 e2 e3 e4 e5
      go_wp2_with fail
      (try simp only [Exit.inBlock, Exit.then]); refine bodyPost_ret (results_ct rfl _ _ go 26 _ (0, 0) _ rfl (ret_all hbo _ _ _ _) Try.underlying26 rfl (by kernel_rfl)) rfl ?_
      exact ⟨_, _, _, rfl, Kd.R_nil _ _ _ _ _, Kd.R_nil _ _ _ _ _, Kd.R_nil _ _ _ _ _, below_set (below_set (below_set (below_set HB.out HG2.out) HG2.out) HG2.out) HG2.out⟩
    | true =>
      by_cases hk0 : key.size = 0
      · have e0 : key.toList.isEmpty = true := (isE key).2 hk0
        have hp := bad 1 (fun v hv => by rw [hv]; unfold putV; rw [HC.out, if_pos rfl, if_pos rfl, if_pos hk0])
        clear bad hk0
        injection hp with e1 hp
        injection hp with e2 hp
        injection hp with e3 hp
        injection hp with e4 e5
        subst e1 e2 e3 e4 e5
        go_wp2_with fail
        (try simp only [Exit.inBlock, Exit.then]); refine bodyPost_ret (results_ct rfl _ _ go 26 _ (0, 0) _ rfl (ret_all hbo _ _ _ _) Try.underlying26 rfl (by kernel_rfl)) rfl ?_
        exact ⟨_, _, _, rfl, Kd.R_nil _ _ _ _ _, Kd.R_nil _ _ _ _ _, Kd.R_nil _ _ _ _ _, below_set (below_set (below_set (below_set HB.out HG2.out) HG2.out) HG2.out) HG2.out⟩
      · have e0 : key.toList.isEmpty = false := by rw [← Bool.not_eq_true, isE]; exact hk0
        have hb3 : Below w2.heap.size w2 (w2.alloc (.cells #[.string key, .string value] 66)) := (Below.refl _ _).alloc (Nat.le_refl _) _
        have hbz : (w2.alloc (.cells #[.string key, .string value] 66)).heap[w2.heap.size]? = some (.cells #[.string key, .string value] 66 (0, 0)) := blk_new _ _
        have z0 : (w2.alloc (.cells #[.string key, .string value] 66)).cell? ⟨w2.heap.size, 0, none⟩ = some (.string key) := (blk_cell hbz 0).trans rfl
        have z1 : (w2.alloc (.cells #[.string key, .string value] 66)).cell? ⟨w2.heap.size, 1, none⟩ = some (.string value) := (blk_cell hbz 1).trans rfl
        go_wp2_with fail
        clear k0 k1 k2 k3 o0 o1 o2 o3 f0 f1 f2 f3 z0 z1
        have hbx3 := blk_below hbx hb3
        have hbo3 := blk_below hbo hb3
        have HB3 := Aside0.mk (below_then HB.out (below_size HB.out) hb3)
        clear hbx hbo HB
        have hzx := blk_lt hbx3
        have hzo := blk_lt hbo3
        generalize w2.alloc (.cells #[.string key, .string value] 66) = w3 at *
        obtain ⟨gx, hgx⟩ : ∃ g, g = w2.heap.size := ⟨_, rfl⟩
        rw [← hgx] at hbz ⊢
        clear hgx hb3 hzx hzo
        refine (concordref08_cellMay.calls key value (okC ⟨key, value⟩) w3 (cellMay_f ⟨key, value⟩ hks hvs)).mono ?_
        rintro e_ w4 ⟨rfl, hb4⟩
        have hbx := blk_below hbx3 hb4
        have hbo := blk_below hbo3 hb4
        replace hbz := blk_below hbz hb4
        have HB := Aside0.mk (below_then HB3.out (below_size HB3.out) hb4)
        clear hbx3 hbo3 HB3 hb4
        have k0 : w4.cell? ⟨gn, 0, none⟩ = some (.bool true) := (blk_cell hbx 0).trans rfl
        have k1 : w4.cell? ⟨gn, 1, none⟩ = some (.slice B1 cs.length c1) := (blk_cell hbx 1).trans rfl
        have k2 : w4.cell? ⟨gn, 2, none⟩ = some (.slice B2 ks.length c2) := (blk_cell hbx 2).trans rfl
        have k3 : w4.cell? ⟨gn, 3, none⟩ = some (.slice B3 kids.length c3) := (blk_cell hbx 3).trans rfl
        have o0 : w4.cell? ⟨go, 0, none⟩ = some (.bool false) := (blk_cell hbo 0).trans rfl
        have o1 : w4.cell? ⟨go, 1, none⟩ = some (.slice none 0 0) := (blk_cell hbo 1).trans rfl
        have o2 : w4.cell? ⟨go, 2, none⟩ = some (.slice none 0 0) := (blk_cell hbo 2).trans rfl
        have o3 : w4.cell? ⟨go, 3, none⟩ = some (.slice none 0 0) := (blk_cell hbo 3).trans rfl
        have f0 := blk_frozen hbo 0
        have f1 := blk_frozen hbo 1
        have f2 := blk_frozen hbo 2
        have f3 := blk_frozen hbo 3
        have z0 : w4.cell? ⟨gx, 0, none⟩ = some (.string key) := (blk_cell hbz 0).trans rfl
        have z1 : w4.cell? ⟨gx, 1, none⟩ = some (.string value) := (blk_cell hbz 1).trans rfl
        by_cases hbig : 320 < key.size + value.size
        · have d1 : okC ⟨key, value⟩ = false := by unfold okC; rw [decide_eq_false (show ¬ key.size + value.size ≤ 320 by omega), Bool.and_false]
          have hp := bad 82 (fun v hv => by rw [hv]; unfold putV; rw [HC.out, if_pos rfl, if_pos rfl, if_neg hk0, if_pos hbig])
          clear bad hk0 hbig
          rw [d1]
          injection hp with e1 hp
          injection hp with e2 hp
          injection hp with e3 hp
          injection hp with e4 e5
          subst e1 e2 e3 e4 e5
          go_wp2_with fail
          (try simp only [Exit.inBlock, Exit.then]); refine bodyPost_ret (results_ct rfl _ _ go 26 _ (0, 0) _ rfl (ret_all hbo _ _ _ _) Try.underlying26 rfl (by kernel_rfl)) rfl ?_
          exact ⟨_, _, _, rfl, Kd.R_nil _ _ _ _ _, Kd.R_nil _ _ _ _ _, Kd.R_nil _ _ _ _ _, below_set (below_set (below_set (below_set HB.out HG2.out) HG2.out) HG2.out) HG2.out⟩
        · have d1 : okC ⟨key, value⟩ = true := by unfold okC; rw [decide_eq_true (show 1 ≤ key.size by omega), decide_eq_true (show key.size + value.size ≤ 320 by omega)]; rfl
          rw [d1]
          clear bad
          have HBG := Aside0.mk (And.intro hk0 hbig)
          clear hk0 hbig
          go_wp2_with fail
          clear k0 k1 k2 k3 o0 o1 o2 o3 f0 f1 f2 f3 z0 z1
          obtain ⟨s, hs⟩ : ∃ s, s = srch (pF cs key) cs.length 0 cs.length := ⟨_, rfl⟩
          obtain ⟨g, hg⟩ : ∃ g, g = if (findV cs key).2 = true then 1 else 0 := ⟨_, rfl⟩
          have hri : Rise (cs.map (fun c => c.f0)) := (by obtain ⟨a1, a2, a3, a4, a5⟩ := chk_facts HC.out; unfold shpV at a1; rw [if_pos rfl, Bool.and_eq_true] at a1; rw [List.isEmpty_iff.1 a1.1, keys_leaf] at a4; exact ((rsB_iff _ _).1 a4).2)
          obtain ⟨f1, f2, f3⟩ := find_at cs key hri
          have hne := find_ne cs key hri
          rw [← hs] at hne
          clear hri
          have hln : cs.length ≤ 2000 := by have a2 := (chk_facts HC.out).2.2.2.2; have a3 := cs_len cs; unfold lngV at a2; rw [if_pos rfl] at a2; omega
          have hgl : g ≤ 1 := by rw [hg]; split <;> omega
          have HLN := Aside0.mk (And.intro hln (And.intro hgl hne))
          clear hln hgl hne
          rw [← hs] at f1 f2 f3
          have hT : (findV cs key).2 = (decide (s < cs.length) && ((rd_T66 cs (s : Int)).f0.toList == key.toList)) := by unfold findV; rw [← hs]
          have HS := Aside0.mk (And.intro f1 (And.intro f2 f3))
          have HT := Aside0.mk (And.intro hT (And.intro hg hs))
          clear f1 f2 f3 hT hg hs
          have HR0 : Aside0 (Kd.R k66 66 w4 W.heap.size (fun k => k ≠ gx) (.slice none 0 0) (rP cs s g 0 ⟨key, value⟩)) := ⟨by rw [show rP cs s g 0 ⟨key, value⟩ = [] by unfold rP; rw [if_pos (Nat.zero_le _)]; rfl]; exact Kd.R_nil _ _ _ _ _⟩
          have HX := Aside0.mk (And.intro hbx (And.intro hbo hbz))
          clear hbx hbo hbz
          go_loopw [10, 11, 12] (fun lv pv iv wr => ∃ (i : Nat), iv = .int .i64 i ∧ pv = .bool (decide (s < i)) ∧ i ≤ cs.length ∧ Aside0 (Kd.R k66 66 wr W.heap.size (fun k => k ≠ gx) lv (rP cs s g i ⟨key, value⟩)) ∧ Aside0 (wr.heap[gn]? = some (.cells #[.bool true, .slice B1 cs.length c1, .slice B2 ks.length c2, .slice B3 kids.length c3] 26 (0, 0)) ∧ wr.heap[go]? = some (.cells #[.bool false, .slice none 0 0, .slice none 0 0, .slice none 0 0] 26 (0, 0)) ∧ wr.heap[gx]? = some (.cells #[.string key, .string value] 66 (0, 0))) ∧ Aside0 (Below W.heap.size W wr)) (fun _ _ iv _ => cs.length - vNat iv)
          case atStart => exact ⟨0, rfl, by rw [decide_eq_false (Nat.not_lt_zero _)], Nat.zero_le _, HR0, HX, HB⟩
          case round =>
            clear HR0 HX HB
            obtain ⟨i, rfl, rfl, hi, HR, HX, HB⟩ := hrel
            have k0 : wr.cell? ⟨gn, 0, none⟩ = some (.bool true) := (blk_cell HX.out.1 0).trans rfl
            have k1 : wr.cell? ⟨gn, 1, none⟩ = some (.slice B1 cs.length c1) := (blk_cell HX.out.1 1).trans rfl
            have k2 : wr.cell? ⟨gn, 2, none⟩ = some (.slice B2 ks.length c2) := (blk_cell HX.out.1 2).trans rfl
            have k3 : wr.cell? ⟨gn, 3, none⟩ = some (.slice B3 kids.length c3) := (blk_cell HX.out.1 3).trans rfl
            have o0 : wr.cell? ⟨go, 0, none⟩ = some (.bool false) := (blk_cell HX.out.2.1 0).trans rfl
            have o1 : wr.cell? ⟨go, 1, none⟩ = some (.slice none 0 0) := (blk_cell HX.out.2.1 1).trans rfl
            have o2 : wr.cell? ⟨go, 2, none⟩ = some (.slice none 0 0) := (blk_cell HX.out.2.1 2).trans rfl
            have o3 : wr.cell? ⟨go, 3, none⟩ = some (.slice none 0 0) := (blk_cell HX.out.2.1 3).trans rfl
            have f0 := blk_frozen HX.out.2.1 0
            have f1 := blk_frozen HX.out.2.1 1
            have f2 := blk_frozen HX.out.2.1 2
            have f3 := blk_frozen HX.out.2.1 3
            have z0 : wr.cell? ⟨gx, 0, none⟩ = some (.string key) := (blk_cell HX.out.2.2 0).trans rfl
            have z1 : wr.cell? ⟨gx, 1, none⟩ = some (.string value) := (blk_cell HX.out.2.2 1).trans rfl
            by_cases hil : i < cs.length
            · have b1 : decide ((i : Int) < (cs.length : Int)) = true := decide_eq_true (by omega)
              have j0 : (0 : Int) ≤ (i : Int) := by omega
              have j1 : (i : Int) < (cs.length : Int) := by omega
              have w5 : wrap64 ((i : Int) + 1) = ((i + 1 : Nat) : Int) := w64S i (by have := HN.out.1.1; omega)
              obtain ⟨ad, rfl, Y0, Y1⟩ := at_T66 HRW.out (i : Int) j0 j1
              rw [Int.toNat_natCast] at Y0 Y1
              rw [rdC_at cs i hil] at Y0 Y1
              have q2 := HS.out.2.1 i hil
              have q3 := HS.out.2.2 i hil
              have hxe : ∃ x, x = cs[i] := ⟨_, rfl⟩
              obtain ⟨x, hx⟩ := hxe
              rw [← hx] at Y0 Y1 q2 q3
              have HXE := Aside0.mk hx
              clear hx
              have HIL := Aside0.mk hil
              have HY := Aside0.mk (And.intro Y0 Y1)
              clear hi Y0 Y1
              have y0 := (HB.out.cell (World.block_lt_of_cell? W _ HY.out.1)).trans HY.out.1
              have y1 := (HB.out.cell (World.block_lt_of_cell? W _ HY.out.2)).trans HY.out.2
              have HLL := Aside0.mk (show (rP cs s g i ⟨key, value⟩).length ≤ 2001 by have := rP_len cs s g i ⟨key, value⟩; have := HLN.out.1; have := HIL.out; omega)
              by_cases his : i < s
              · have ds : decide (s < i) = false := decide_eq_false (by omega)
                rw [ds]
                have q := q2 his
                have ne := HLN.out.2.2 i HIL.out (by omega)
                rw [← HXE.out] at ne
                have ne2 : (x.f0.toList != key.toList) = true := by rw [bne, ne]; rfl
                have HI2 := Aside0.mk his
                clear his q2 q3 ds
                go_wp2_with (first | ((with_reducible refine gate_builtin (b := .append) (xs := #[.tmp 64, .tmp 70]) rfl ?_); (try (refine gate_guard (by rfl) ?_; dsimp only)); at_builtin; refine Kd.R_append k66 (w0 := W) W.heap.size rfl (.tmp 64) (.tmp 70) 22 66 (.agg #[(.string ⟨#[]⟩), (.string ⟨#[]⟩)]) 32 rfl Try.underlying22 info66 rfl (by decide) (by omega) _ (rP cs s g i ⟨key, value⟩) (⟨x.f0, x.f1⟩ : Ce) [.string x.f0, .string x.f1] (fun k => k ≠ gx) (fun _ => False) rfl rfl ?aP (fun _ hk => hk.elim) ?aF ?aO ?aB ?aS ?aL ?_; (case aP => exact k66_mkM _ _ _ (⟨x.f0, x.f1⟩ : Ce)); (case aB => exact HB.out); (case aO => exact HR.out); (case aF => exact (fun k hk hkg => by have := blk_lt HX.out.2.2; omega)); (case aS => exact HB.out.size); (case aL => have := HLL.out; omega); intro v9 w9 ho hb hg hat; have nX_ := Aside0.mk (And.intro (blk_grown HX.out.1 hg (Kd.R_ne HR.out HX.out.1 (by decide))) (And.intro (blk_grown HX.out.2.1 hg (Kd.R_ne HR.out HX.out.2.1 (by decide))) (blk_grown HX.out.2.2 hg (fun he => HR.out.1 _ he.symm rfl)))); have nL_ := Aside0.mk (show ((rP cs s g i ⟨key, value⟩) ++ [(⟨x.f0, x.f1⟩ : Ce)]).length ≤ 2002 from (by rw [List.length_append]; exact Nat.add_le_add_right HLL.out 1)); (try clear k0 k1 k2 k3 o0 o1 o2 o3 f0 f1 f2 f3 z0 z1); (try clear y0 y1); clear HX HB HR HLL; have HX := nX_; have HB := Aside0.mk hb; have HR := Aside0.mk ho; have HLL := nL_; clear nX_ nL_ ho hb hg hat; obtain ⟨A9, c9, e9⟩ := Kd.R_slice HR.out; subst e9; have h9 := HR.out; rw [List.length_append] at h9; (try rw [List.length_append] at h9); replace HR := Aside0.mk h9; clear h9; skip))
                go_roundw
                case rel => exact ⟨i + 1, by rw [w5], by rw [decide_eq_false (by have := HI2.out; omega)], HIL.out, ⟨by rw [rP_lo cs s g i _ HI2.out HIL.out, ← HXE.out]; exact HR.out⟩, HX, HB⟩
                case measure => rw [w5]; simp only [vNat, Int.toNat_natCast]; exact Nat.sub_lt_sub_left HIL.out (Nat.lt_succ_self i)
              · have q := q3 (by omega)
                by_cases hsi : i = s
                · have ds : decide (s < i) = false := decide_eq_false (by omega)
                  rw [ds]
                  have HI2 := Aside0.mk hsi
                  have hT := HT.out.1
                  have hg := HT.out.2.1
                  rw [hT] at hg
                  have hrd : rd_T66 cs (s : Int) = x := by rw [← hsi, rdC_at cs i HIL.out, ← HXE.out]
                  rw [hrd, decide_eq_true (show s < cs.length by have := HIL.out; omega), Bool.true_and] at hg
                  clear his hsi q2 q3 ds hT hrd
                  cases hqe : (x.f0.toList == key.toList) with
                  | true =>
                    rw [hqe, if_pos rfl] at hg
                    have ne2 : (x.f0.toList != key.toList) = false := by rw [bne, hqe]; rfl
                    have HGG := Aside0.mk hg
                    clear hg
                    go_wp2_with (first | ((with_reducible refine gate_builtin (b := .append) (xs := #[.tmp 52, .tmp 54]) rfl ?_); (try (refine gate_guard (by rfl) ?_; dsimp only)); at_builtin; refine Kd.R_append k66 (w0 := W) W.heap.size rfl (.tmp 52) (.tmp 54) 22 66 (.agg #[(.string ⟨#[]⟩), (.string ⟨#[]⟩)]) 32 rfl Try.underlying22 info66 rfl (by decide) (by omega) _ (rP cs s g i ⟨key, value⟩) (⟨key, value⟩ : Ce) [.string key, .string value] (fun k => k ≠ gx) (fun _ => False) rfl rfl ?aP (fun _ hk => hk.elim) ?aF ?aO ?aB ?aS ?aL ?_; (case aP => exact k66_mkM _ _ _ (⟨key, value⟩ : Ce)); (case aB => exact HB.out); (case aO => exact HR.out); (case aF => exact (fun k hk hkg => by have := blk_lt HX.out.2.2; omega)); (case aS => exact HB.out.size); (case aL => have := HLL.out; omega); intro v9 w9 ho hb hg hat; have nX_ := Aside0.mk (And.intro (blk_grown HX.out.1 hg (Kd.R_ne HR.out HX.out.1 (by decide))) (And.intro (blk_grown HX.out.2.1 hg (Kd.R_ne HR.out HX.out.2.1 (by decide))) (blk_grown HX.out.2.2 hg (fun he => HR.out.1 _ he.symm rfl)))); have nL_ := Aside0.mk (show ((rP cs s g i ⟨key, value⟩) ++ [(⟨key, value⟩ : Ce)]).length ≤ 2002 from (by rw [List.length_append]; exact Nat.add_le_add_right HLL.out 1)); (try clear k0 k1 k2 k3 o0 o1 o2 o3 f0 f1 f2 f3 z0 z1); (try clear y0 y1); clear HX HB HR HLL; have HX := nX_; have HB := Aside0.mk hb; have HR := Aside0.mk ho; have HLL := nL_; clear nX_ nL_ ho hb hg hat; obtain ⟨A9, c9, e9⟩ := Kd.R_slice HR.out; subst e9; have h9 := HR.out; rw [List.length_append] at h9; (try rw [List.length_append] at h9); replace HR := Aside0.mk h9; clear h9; have k1 : w9.cell? ⟨gn, 1, none⟩ = some (.slice (some ad) cs.length c1) := (blk_cell HX.out.1 1).trans rfl; have y0 := (HB.out.cell (World.block_lt_of_cell? W _ HY.out.1)).trans HY.out.1; have y1 := (HB.out.cell (World.block_lt_of_cell? W _ HY.out.2)).trans HY.out.2))
                    go_roundw
                    case rel => exact ⟨i + 1, by rw [w5], by rw [decide_eq_true (by have := HI2.out; omega)], HIL.out, ⟨by rw [show rP cs s g (i + 1) ⟨key, value⟩ = rP cs s g i ⟨key, value⟩ ++ [⟨key, value⟩] by rw [HGG.out, HI2.out]; exact rP_at1 cs s _ (by have := HIL.out; have := HI2.out; omega)]; exact HR.out⟩, HX, HB⟩
                    case measure => rw [w5]; simp only [vNat, Int.toNat_natCast]; exact Nat.sub_lt_sub_left HIL.out (Nat.lt_succ_self i)
                  | false =>
                    rw [hqe, if_neg (by decide)] at hg
                    have ne2 : (x.f0.toList != key.toList) = true := by rw [bne, hqe]; rfl
                    have HGG := Aside0.mk hg
                    clear hg
                    go_wp2_with (first | ((with_reducible refine gate_builtin (b := .append) (xs := #[.tmp 52, .tmp 54]) rfl ?_); (try (refine gate_guard (by rfl) ?_; dsimp only)); at_builtin; refine Kd.R_append k66 (w0 := W) W.heap.size rfl (.tmp 52) (.tmp 54) 22 66 (.agg #[(.string ⟨#[]⟩), (.string ⟨#[]⟩)]) 32 rfl Try.underlying22 info66 rfl (by decide) (by omega) _ (rP cs s g i ⟨key, value⟩) (⟨key, value⟩ : Ce) [.string key, .string value] (fun k => k ≠ gx) (fun _ => False) rfl rfl ?aP (fun _ hk => hk.elim) ?aF ?aO ?aB ?aS ?aL ?_; (case aP => exact k66_mkM _ _ _ (⟨key, value⟩ : Ce)); (case aB => exact HB.out); (case aO => exact HR.out); (case aF => exact (fun k hk hkg => by have := blk_lt HX.out.2.2; omega)); (case aS => exact HB.out.size); (case aL => have := HLL.out; omega); intro v9 w9 ho hb hg hat; have nX_ := Aside0.mk (And.intro (blk_grown HX.out.1 hg (Kd.R_ne HR.out HX.out.1 (by decide))) (And.intro (blk_grown HX.out.2.1 hg (Kd.R_ne HR.out HX.out.2.1 (by decide))) (blk_grown HX.out.2.2 hg (fun he => HR.out.1 _ he.symm rfl)))); have nL_ := Aside0.mk (show ((rP cs s g i ⟨key, value⟩) ++ [(⟨key, value⟩ : Ce)]).length ≤ 2002 from (by rw [List.length_append]; exact Nat.add_le_add_right HLL.out 1)); (try clear k0 k1 k2 k3 o0 o1 o2 o3 f0 f1 f2 f3 z0 z1); (try clear y0 y1); clear HX HB HR HLL; have HX := nX_; have HB := Aside0.mk hb; have HR := Aside0.mk ho; have HLL := nL_; clear nX_ nL_ ho hb hg hat; obtain ⟨A9, c9, e9⟩ := Kd.R_slice HR.out; subst e9; have h9 := HR.out; rw [List.length_append] at h9; (try rw [List.length_append] at h9); replace HR := Aside0.mk h9; clear h9; have k1 : w9.cell? ⟨gn, 1, none⟩ = some (.slice (some ad) cs.length c1) := (blk_cell HX.out.1 1).trans rfl; have y0 := (HB.out.cell (World.block_lt_of_cell? W _ HY.out.1)).trans HY.out.1; have y1 := (HB.out.cell (World.block_lt_of_cell? W _ HY.out.2)).trans HY.out.2) | ((with_reducible refine gate_builtin (b := .append) (xs := #[.tmp 64, .tmp 70]) rfl ?_); (try (refine gate_guard (by rfl) ?_; dsimp only)); at_builtin; refine Kd.R_append k66 (w0 := W) W.heap.size rfl (.tmp 64) (.tmp 70) 22 66 (.agg #[(.string ⟨#[]⟩), (.string ⟨#[]⟩)]) 32 rfl Try.underlying22 info66 rfl (by decide) (by omega) _ (rP cs s g i ⟨key, value⟩ ++ [(⟨key, value⟩ : Ce)]) (⟨x.f0, x.f1⟩ : Ce) [.string x.f0, .string x.f1] (fun k => k ≠ gx) (fun _ => False) rfl rfl ?aP (fun _ hk => hk.elim) ?aF ?aO ?aB ?aS ?aL ?_; (case aP => exact k66_mkM _ _ _ (⟨x.f0, x.f1⟩ : Ce)); (case aB => exact HB.out); (case aO => exact HR.out); (case aF => exact (fun k hk hkg => by have := blk_lt HX.out.2.2; omega)); (case aS => exact HB.out.size); (case aL => have := HLL.out; omega); intro v9 w9 ho hb hg hat; have nX_ := Aside0.mk (And.intro (blk_grown HX.out.1 hg (Kd.R_ne HR.out HX.out.1 (by decide))) (And.intro (blk_grown HX.out.2.1 hg (Kd.R_ne HR.out HX.out.2.1 (by decide))) (blk_grown HX.out.2.2 hg (fun he => HR.out.1 _ he.symm rfl)))); have nL_ := Aside0.mk (show ((rP cs s g i ⟨key, value⟩ ++ [(⟨key, value⟩ : Ce)]) ++ [(⟨x.f0, x.f1⟩ : Ce)]).length ≤ 2003 from (by rw [List.length_append]; exact Nat.add_le_add_right HLL.out 1)); (try clear k0 k1 k2 k3 o0 o1 o2 o3 f0 f1 f2 f3 z0 z1); (try clear y0 y1); clear HX HB HR HLL; have HX := nX_; have HB := Aside0.mk hb; have HR := Aside0.mk ho; have HLL := nL_; clear nX_ nL_ ho hb hg hat; obtain ⟨A9, c9, e9⟩ := Kd.R_slice HR.out; subst e9; have h9 := HR.out; rw [List.length_append] at h9; (try rw [List.length_append] at h9); replace HR := Aside0.mk h9; clear h9; skip))
                    go_roundw
                    case rel => exact ⟨i + 1, by rw [w5], by rw [decide_eq_true (by have := HI2.out; omega)], HIL.out, ⟨by (have hlt : s < cs.length := by have := HIL.out; have := HI2.out; omega); (have hxs : cs[s] = x := by rw [HXE.out]; simp only [HI2.out]); rw [show rP cs s g (i + 1) ⟨key, value⟩ = rP cs s g i ⟨key, value⟩ ++ [⟨key, value⟩] ++ [x] by rw [HGG.out, HI2.out]; exact (rP_at0 cs s _ hlt).trans (by rw [hxs])]; exact HR.out⟩, HX, HB⟩
                    case measure => rw [w5]; simp only [vNat, Int.toNat_natCast]; exact Nat.sub_lt_sub_left HIL.out (Nat.lt_succ_self i)
                · have ds : decide (s < i) = true := decide_eq_true (by omega)
                  rw [ds]
                  have ne := HLN.out.2.2 i HIL.out hsi
                  rw [← HXE.out] at ne
                  have ne2 : (x.f0.toList != key.toList) = true := by rw [bne, ne]; rfl
                  have HI2 := Aside0.mk (show s < i by omega)
                  clear his hsi q2 q3 ds
                  go_wp2_with (first | ((with_reducible refine gate_builtin (b := .append) (xs := #[.tmp 64, .tmp 70]) rfl ?_); (try (refine gate_guard (by rfl) ?_; dsimp only)); at_builtin; refine Kd.R_append k66 (w0 := W) W.heap.size rfl (.tmp 64) (.tmp 70) 22 66 (.agg #[(.string ⟨#[]⟩), (.string ⟨#[]⟩)]) 32 rfl Try.underlying22 info66 rfl (by decide) (by omega) _ (rP cs s g i ⟨key, value⟩) (⟨x.f0, x.f1⟩ : Ce) [.string x.f0, .string x.f1] (fun k => k ≠ gx) (fun _ => False) rfl rfl ?aP (fun _ hk => hk.elim) ?aF ?aO ?aB ?aS ?aL ?_; (case aP => exact k66_mkM _ _ _ (⟨x.f0, x.f1⟩ : Ce)); (case aB => exact HB.out); (case aO => exact HR.out); (case aF => exact (fun k hk hkg => by have := blk_lt HX.out.2.2; omega)); (case aS => exact HB.out.size); (case aL => have := HLL.out; omega); intro v9 w9 ho hb hg hat; have nX_ := Aside0.mk (And.intro (blk_grown HX.out.1 hg (Kd.R_ne HR.out HX.out.1 (by decide))) (And.intro (blk_grown HX.out.2.1 hg (Kd.R_ne HR.out HX.out.2.1 (by decide))) (blk_grown HX.out.2.2 hg (fun he => HR.out.1 _ he.symm rfl)))); have nL_ := Aside0.mk (show ((rP cs s g i ⟨key, value⟩) ++ [(⟨x.f0, x.f1⟩ : Ce)]).length ≤ 2002 from (by rw [List.length_append]; exact Nat.add_le_add_right HLL.out 1)); (try clear k0 k1 k2 k3 o0 o1 o2 o3 f0 f1 f2 f3 z0 z1); (try clear y0 y1); clear HX HB HR HLL; have HX := nX_; have HB := Aside0.mk hb; have HR := Aside0.mk ho; have HLL := nL_; clear nX_ nL_ ho hb hg hat; obtain ⟨A9, c9, e9⟩ := Kd.R_slice HR.out; subst e9; have h9 := HR.out; rw [List.length_append] at h9; (try rw [List.length_append] at h9); replace HR := Aside0.mk h9; clear h9; skip))
                  go_roundw
                  case rel => exact ⟨i + 1, by rw [w5], by rw [decide_eq_true (by have := HI2.out; omega)], HIL.out, ⟨by rw [rP_hi cs s g i _ HI2.out HLN.out.2.1 HIL.out, ← HXE.out]; exact HR.out⟩, HX, HB⟩
                  case measure => rw [w5]; simp only [vNat, Int.toNat_natCast]; exact Nat.sub_lt_sub_left HIL.out (Nat.lt_succ_self i)
            · have b1 : decide ((i : Int) < (cs.length : Int)) = false := decide_eq_false (by omega)
              have hie : i = cs.length := by omega
              have HIE := Aside0.mk hie
              have HLL := Aside0.mk (show (rP cs s g i ⟨key, value⟩).length ≤ 2001 by have := rP_len cs s g i ⟨key, value⟩; have := HLN.out.1; omega)
              clear hie
              obtain ⟨A9, c9, e9⟩ := Kd.R_slice HR.out
              subst e9
              skip
              by_cases hsl : s < i
              · have ds : decide (s < i) = true := decide_eq_true hsl
                rw [ds]
                clear ds
                go_wp2_with fail
                have he : insV cs key value = rP cs s g i ⟨key, value⟩ := by rw [HIE.out]; exact ins_rP cs key value s g HT.out.2.2 HT.out.2.1 (by rw [← HIE.out]; exact hsl)
                generalize rP cs s g i ⟨key, value⟩ = L at he HR HLL ⊢
                have HLE := Aside0.mk he
                clear he
                obtain ⟨n9, hn9⟩ : ∃ n, n = L.length := ⟨_, rfl⟩
                rw [← hn9] at HR ⊢
                clear hn9
                have hln := (Kd.R_reads' HR.out).1
                subst hln
                refine (leaf_calls _ A9 L.length c9).mono ?_
                rintro e_ wl ⟨rfl, hbl⟩
                (try clear k0 k1 k2 k3 o0 o1 o2 o3 f0 f1 f2 f3 z0 z1)
                replace HR := Aside0.mk (Kd.R_below HR.out hbl)
                replace HX := Aside0.mk (And.intro (blk_below HX.out.1 hbl) (And.intro (blk_below HX.out.2.1 hbl) (blk_below HX.out.2.2 hbl)))
                replace HB := Aside0.mk (below_then HB.out (below_size HB.out) hbl)
                clear hbl
                have hok : L.all okC = true := by
                  have hf := (chk_facts HC.out).2.1
                  rw [← HLE.out]
                  unfold insV
                  rw [List.all_append, List.all_cons, Bool.and_eq_true, Bool.and_eq_true]
                  refine ⟨List.all_eq_true.2 fun x hx => List.all_eq_true.1 hf x (List.mem_of_mem_take hx), ?_, List.all_eq_true.2 fun x hx => List.all_eq_true.1 hf x (List.mem_of_mem_drop hx)⟩
                  exact d1
                have hsz := long_f true L [] [] ⟨⟨by have := HLL.out; omega, by decide, by decide⟩, fun c hc => by have := okC_sz (List.all_eq_true.1 hok c hc); omega, fun k hk => by cases hk⟩ hok rfl (L.length + 5) (Nat.le_refl _)
                have hlv : lngV true L [] = 3 + sumC L := by unfold lngV; rw [if_pos rfl]
                rw [hlv] at hsz
                clear hlv hok
                go_wp2_with fail
                refine (concordref08_Long.calls _ true A9 c9 L none 0 [] none 0 [] _ wl (Kd.R_reads' HR.out).2.2 (Kd.R_reads' HR.out).2.1 (Kd.C_nil _ _) (Nat.le_refl _) (Kd.C_nil _ _) (Nat.le_refl _) hsz).mono ?_
                rintro e_ wm ⟨rfl, hbm⟩
                clear hsz
                replace HR := Aside0.mk (Kd.R_below HR.out hbm)
                replace HX := Aside0.mk (And.intro (blk_below HX.out.1 hbm) (And.intro (blk_below HX.out.2.1 hbm) (blk_below HX.out.2.2 hbm)))
                replace HB := Aside0.mk (below_then HB.out (below_size HB.out) hbm)
                clear hbm
                have h9 := H.out
                unfold putV at h9
                rw [HC.out, if_pos rfl, if_pos rfl, if_neg HBG.out.1, if_neg HBG.out.2, HLE.out] at h9
                generalize 3 + sumC L = sz at h9 ⊢
                have o0 : wm.cell? ⟨go, 0, none⟩ = some (.bool false) := (blk_cell HX.out.2.1 0).trans rfl
                have o1 : wm.cell? ⟨go, 1, none⟩ = some (.slice none 0 0) := (blk_cell HX.out.2.1 1).trans rfl
                have o2 : wm.cell? ⟨go, 2, none⟩ = some (.slice none 0 0) := (blk_cell HX.out.2.1 2).trans rfl
                have o3 : wm.cell? ⟨go, 3, none⟩ = some (.slice none 0 0) := (blk_cell HX.out.2.1 3).trans rfl
                have f0 := blk_frozen HX.out.2.1 0
                have f1 := blk_frozen HX.out.2.1 1
                have f2 := blk_frozen HX.out.2.1 2
                have f3 := blk_frozen HX.out.2.1 3
                by_cases hsz : 1992 < sz
                · have d2 : decide ((sz : Int) > 1992) = true := decide_eq_true (by omega)
                  rw [if_pos hsz] at h9
                  have hp := h9.symm
                  clear h9
                  injection hp with e1 hp
                  injection hp with e2 hp
                  injection hp with e3 hp
                  injection hp with e4 e5
                  subst e1 e2 e3 e4 e5
                  go_wp2_with fail
                  (try simp only [Exit.inBlock, Exit.then]); refine bodyPost_ret (results_ct rfl _ _ go 26 _ (0, 0) _ rfl (ret_all HX.out.2.1 _ _ _ _) Try.underlying26 rfl (by kernel_rfl)) rfl ?_
                  exact ⟨_, _, _, rfl, Kd.R_nil _ _ _ _ _, Kd.R_nil _ _ _ _ _, Kd.R_nil _ _ _ _ _, below_set (below_set (below_set (below_set HB.out HG2.out) HG2.out) HG2.out) HG2.out⟩
                · have d2 : decide ((sz : Int) > 1992) = false := decide_eq_false (by omega)
                  rw [if_neg hsz] at h9
                  have hp := h9.symm
                  clear h9
                  injection hp with e1 hp
                  injection hp with e2 hp
                  injection hp with e3 hp
                  injection hp with e4 e5
                  subst e1 e2 e3 e4 e5
                  go_wp2_with fail
                  refine (leaf_calls _ A9 _ c9).mono ?_
                  rintro e_ wp ⟨rfl, hbp⟩
                  clear o0 o1 o2 o3 f0 f1 f2 f3
                  replace HR := Aside0.mk (Kd.R_below HR.out hbp)
                  replace HX := Aside0.mk (And.intro (blk_below HX.out.1 hbp) (And.intro (blk_below HX.out.2.1 hbp) (blk_below HX.out.2.2 hbp)))
                  replace HB := Aside0.mk (below_then HB.out (below_size HB.out) hbp)
                  clear hbp
                  have o0 : wp.cell? ⟨go, 0, none⟩ = some (.bool false) := (blk_cell HX.out.2.1 0).trans rfl
                  have o1 : wp.cell? ⟨go, 1, none⟩ = some (.slice none 0 0) := (blk_cell HX.out.2.1 1).trans rfl
                  have o2 : wp.cell? ⟨go, 2, none⟩ = some (.slice none 0 0) := (blk_cell HX.out.2.1 2).trans rfl
                  have o3 : wp.cell? ⟨go, 3, none⟩ = some (.slice none 0 0) := (blk_cell HX.out.2.1 3).trans rfl
                  have f0 := blk_frozen HX.out.2.1 0
                  have f1 := blk_frozen HX.out.2.1 1
                  have f2 := blk_frozen HX.out.2.1 2
                  have f3 := blk_frozen HX.out.2.1 3
                  go_wp2_with fail
                  (try simp only [Exit.inBlock, Exit.then]); refine bodyPost_ret (results_ct rfl _ _ go 26 _ (0, 0) _ rfl (ret_all HX.out.2.1 _ _ _ _) Try.underlying26 rfl (by kernel_rfl)) rfl ?_
                  exact ⟨_, _, _, rfl, R_ret (Kd.R_mono HR.out (fun _ _ => trivial)) HX.out.2.1 (by decide) _ _ _ _, Kd.R_nil _ _ _ _ _, Kd.R_nil _ _ _ _ _, below_set (below_set (below_set (below_set HB.out HG2.out) HG2.out) HG2.out) HG2.out⟩
              · have ds : decide (s < i) = false := decide_eq_false hsl
                rw [ds]
                clear ds
                go_wp2_with (first | ((with_reducible refine gate_builtin (b := .append) (xs := #[.tmp 74, .tmp 76]) rfl ?_); (try (refine gate_guard (by rfl) ?_; dsimp only)); at_builtin; refine Kd.R_append k66 (w0 := W) W.heap.size rfl (.tmp 74) (.tmp 76) 22 66 (.agg #[(.string ⟨#[]⟩), (.string ⟨#[]⟩)]) 32 rfl Try.underlying22 info66 rfl (by decide) (by omega) _ (rP cs s g i ⟨key, value⟩) (⟨key, value⟩ : Ce) [.string key, .string value] (fun k => k ≠ gx) (fun _ => False) rfl rfl ?aP (fun _ hk => hk.elim) ?aF ?aO ?aB ?aS ?aL ?_; (case aP => exact k66_mkM _ _ _ (⟨key, value⟩ : Ce)); (case aB => exact HB.out); (case aO => exact HR.out); (case aF => exact (fun k hk hkg => by have := blk_lt HX.out.2.2; omega)); (case aS => exact HB.out.size); (case aL => have := HLL.out; omega); intro v9 w9 ho hb hg hat; have nX_ := Aside0.mk (And.intro (blk_grown HX.out.1 hg (Kd.R_ne HR.out HX.out.1 (by decide))) (And.intro (blk_grown HX.out.2.1 hg (Kd.R_ne HR.out HX.out.2.1 (by decide))) (blk_grown HX.out.2.2 hg (fun he => HR.out.1 _ he.symm rfl)))); have nL_ := Aside0.mk (show ((rP cs s g i ⟨key, value⟩) ++ [(⟨key, value⟩ : Ce)]).length ≤ 2002 from (by rw [List.length_append]; exact Nat.add_le_add_right HLL.out 1)); (try clear k0 k1 k2 k3 o0 o1 o2 o3 f0 f1 f2 f3 z0 z1); (try clear y0 y1); clear HX HB HR HLL; have HX := nX_; have HB := Aside0.mk hb; have HR := Aside0.mk ho; have HLL := nL_; clear nX_ nL_ ho hb hg hat; obtain ⟨A9, c9, e9⟩ := Kd.R_slice HR.out; subst e9; have h9 := HR.out; rw [List.length_append] at h9; (try rw [List.length_append] at h9); replace HR := Aside0.mk h9; clear h9; skip))
                have he : insV cs key value = rP cs s g i ⟨key, value⟩ ++ [⟨key, value⟩] := by rw [HIE.out]; exact ins_end cs key value s g HT.out.2.2 (by have := HS.out.1; have := HIE.out; omega)
                generalize rP cs s g i ⟨key, value⟩ ++ [⟨key, value⟩] = L at he HR HLL
                have HLE := Aside0.mk he
                clear he
                generalize (rP cs s g i ⟨key, value⟩).length + 1 = n9 at *
                have hln := (Kd.R_reads' HR.out).1
                subst hln
                refine (leaf_calls _ A9 L.length c9).mono ?_
                rintro e_ wl ⟨rfl, hbl⟩
                (try clear k0 k1 k2 k3 o0 o1 o2 o3 f0 f1 f2 f3 z0 z1)
                replace HR := Aside0.mk (Kd.R_below HR.out hbl)
                replace HX := Aside0.mk (And.intro (blk_below HX.out.1 hbl) (And.intro (blk_below HX.out.2.1 hbl) (blk_below HX.out.2.2 hbl)))
                replace HB := Aside0.mk (below_then HB.out (below_size HB.out) hbl)
                clear hbl
                have hok : L.all okC = true := by
                  have hf := (chk_facts HC.out).2.1
                  rw [← HLE.out]
                  unfold insV
                  rw [List.all_append, List.all_cons, Bool.and_eq_true, Bool.and_eq_true]
                  refine ⟨List.all_eq_true.2 fun x hx => List.all_eq_true.1 hf x (List.mem_of_mem_take hx), ?_, List.all_eq_true.2 fun x hx => List.all_eq_true.1 hf x (List.mem_of_mem_drop hx)⟩
                  exact d1
                have hsz := long_f true L [] [] ⟨⟨by have := HLL.out; omega, by decide, by decide⟩, fun c hc => by have := okC_sz (List.all_eq_true.1 hok c hc); omega, fun k hk => by cases hk⟩ hok rfl (L.length + 5) (Nat.le_refl _)
                have hlv : lngV true L [] = 3 + sumC L := by unfold lngV; rw [if_pos rfl]
                rw [hlv] at hsz
                clear hlv hok
                go_wp2_with fail
                refine (concordref08_Long.calls _ true A9 c9 L none 0 [] none 0 [] _ wl (Kd.R_reads' HR.out).2.2 (Kd.R_reads' HR.out).2.1 (Kd.C_nil _ _) (Nat.le_refl _) (Kd.C_nil _ _) (Nat.le_refl _) hsz).mono ?_
                rintro e_ wm ⟨rfl, hbm⟩
                clear hsz
                replace HR := Aside0.mk (Kd.R_below HR.out hbm)
                replace HX := Aside0.mk (And.intro (blk_below HX.out.1 hbm) (And.intro (blk_below HX.out.2.1 hbm) (blk_below HX.out.2.2 hbm)))
                replace HB := Aside0.mk (below_then HB.out (below_size HB.out) hbm)
                clear hbm
                have h9 := H.out
                unfold putV at h9
                rw [HC.out, if_pos rfl, if_pos rfl, if_neg HBG.out.1, if_neg HBG.out.2, HLE.out] at h9
                generalize 3 + sumC L = sz at h9 ⊢
                have o0 : wm.cell? ⟨go, 0, none⟩ = some (.bool false) := (blk_cell HX.out.2.1 0).trans rfl
                have o1 : wm.cell? ⟨go, 1, none⟩ = some (.slice none 0 0) := (blk_cell HX.out.2.1 1).trans rfl
                have o2 : wm.cell? ⟨go, 2, none⟩ = some (.slice none 0 0) := (blk_cell HX.out.2.1 2).trans rfl
                have o3 : wm.cell? ⟨go, 3, none⟩ = some (.slice none 0 0) := (blk_cell HX.out.2.1 3).trans rfl
                have f0 := blk_frozen HX.out.2.1 0
                have f1 := blk_frozen HX.out.2.1 1
                have f2 := blk_frozen HX.out.2.1 2
                have f3 := blk_frozen HX.out.2.1 3
                by_cases hsz : 1992 < sz
                · have d2 : decide ((sz : Int) > 1992) = true := decide_eq_true (by omega)
                  rw [if_pos hsz] at h9
                  have hp := h9.symm
                  clear h9
                  injection hp with e1 hp
                  injection hp with e2 hp
                  injection hp with e3 hp
                  injection hp with e4 e5
                  subst e1 e2 e3 e4 e5
                  go_wp2_with fail
                  (try simp only [Exit.inBlock, Exit.then]); refine bodyPost_ret (results_ct rfl _ _ go 26 _ (0, 0) _ rfl (ret_all HX.out.2.1 _ _ _ _) Try.underlying26 rfl (by kernel_rfl)) rfl ?_
                  exact ⟨_, _, _, rfl, Kd.R_nil _ _ _ _ _, Kd.R_nil _ _ _ _ _, Kd.R_nil _ _ _ _ _, below_set (below_set (below_set (below_set HB.out HG2.out) HG2.out) HG2.out) HG2.out⟩
                · have d2 : decide ((sz : Int) > 1992) = false := decide_eq_false (by omega)
                  rw [if_neg hsz] at h9
                  have hp := h9.symm
                  clear h9
                  injection hp with e1 hp
                  injection hp with e2 hp
                  injection hp with e3 hp
                  injection hp with e4 e5
                  subst e1 e2 e3 e4 e5
                  go_wp2_with fail
                  refine (leaf_calls _ A9 _ c9).mono ?_
                  rintro e_ wp ⟨rfl, hbp⟩
                  clear o0 o1 o2 o3 f0 f1 f2 f3
                  replace HR := Aside0.mk (Kd.R_below HR.out hbp)
                  replace HX := Aside0.mk (And.intro (blk_below HX.out.1 hbp) (And.intro (blk_below HX.out.2.1 hbp) (blk_below HX.out.2.2 hbp)))
                  replace HB := Aside0.mk (below_then HB.out (below_size HB.out) hbp)
                  clear hbp
                  have o0 : wp.cell? ⟨go, 0, none⟩ = some (.bool false) := (blk_cell HX.out.2.1 0).trans rfl
                  have o1 : wp.cell? ⟨go, 1, none⟩ = some (.slice none 0 0) := (blk_cell HX.out.2.1 1).trans rfl
                  have o2 : wp.cell? ⟨go, 2, none⟩ = some (.slice none 0 0) := (blk_cell HX.out.2.1 2).trans rfl
                  have o3 : wp.cell? ⟨go, 3, none⟩ = some (.slice none 0 0) := (blk_cell HX.out.2.1 3).trans rfl
                  have f0 := blk_frozen HX.out.2.1 0
                  have f1 := blk_frozen HX.out.2.1 1
                  have f2 := blk_frozen HX.out.2.1 2
                  have f3 := blk_frozen HX.out.2.1 3
                  go_wp2_with fail
                  (try simp only [Exit.inBlock, Exit.then]); refine bodyPost_ret (results_ct rfl _ _ go 26 _ (0, 0) _ rfl (ret_all HX.out.2.1 _ _ _ _) Try.underlying26 rfl (by kernel_rfl)) rfl ?_
                  exact ⟨_, _, _, rfl, R_ret (Kd.R_mono HR.out (fun _ _ => trivial)) HX.out.2.1 (by decide) _ _ _ _, Kd.R_nil _ _ _ _ _, Kd.R_nil _ _ _ _ _, below_set (below_set (below_set (below_set HB.out HG2.out) HG2.out) HG2.out) HG2.out⟩
  · have d1 : (C != 0) = true := by simpa using hC0
    have hp := bad C (fun v hv => by rw [hv]; unfold putV; rw [if_neg (by rw [hC]; exact hC0), hC])
    have HC := Aside0.mk hC0
    clear bad hC0
    injection hp with e1 hp
    injection hp with e2 hp
    injection hp with e3 hp
    injection hp with e4 e5
    subst e1 e2 e3 e4 e5
    go_wp2_with fail
    (try simp only [Exit.inBlock, Exit.then]); refine bodyPost_ret (results_ct rfl _ _ go 26 _ (0, 0) _ rfl (ret_all hbo _ _ _ _) Try.underlying26 rfl (by kernel_rfl)) rfl ?_
    exact ⟨_, _, _, rfl, Kd.R_nil _ _ _ _ _, Kd.R_nil _ _ _ _ _, Kd.R_nil _ _ _ _ _, below_set (below_set (below_set (below_set HB.out HG2.out) HG2.out) HG2.out) HG2.out⟩
end Go.Proofs.Ytdjjpgdhnoibkaa.My
namespace Go.Proofs.Ytdjjpgdhnoibkaa.My
open Go.RowKit Go.Proofs.YtdjjpgdhnoibkaaW.PrintWords Go.Proofs.YtdjjpgdhnoibkaaW.PrintLast Go.Proofs.YtdjjpgdhnoibkaaW.PrintMore Go.Proofs.Ytdjjpgdhnoibkaa Go.Proofs.Ytdjjpgdhnoibkaa.PZ Go.Proofs.Ytdjjpgdhnoibkaa.PD
set_option linter.unusedSimpArgs false
set_option linter.unusedVariables false
set_option maxRecDepth 100000
set_option maxHeartbeats 3200000
attribute [local go_sem high] conv_rune str_leq str_gtr
def putG (key value : ByteArray) (b : Bool) (cs : List Ce) (ks : List ByteArray) (kids : List Int) : NdV :=
  (((putV b cs ks kids key value).1, (putV b cs ks kids key value).2.1, (putV b cs ks kids key value).2.2.1, (putV b cs ks kids key value).2.2.2.1), (putV b cs ks kids key value).2.2.2.2)
theorem ask_put1 (w : World) (pk pv : Addr) (key value : ByteArray) (hpk : w.cell? pk = some (.string key)) (hpv : w.cell? pv = some (.string value)) (hks : key.size ≤ 140737488351232) (hvs : value.size ≤ 140737488351232) : Asks w 49 #[.pointer (some pk), .pointer (some pv)] (putG key value) := by
  intro W hB b A1 c1 cs A2 c2 ks A3 c3 kids hc1 hc2 hc3 h1 h2 h3 hn hk
  show Calls Try.prog 49 #[.agg #[.bool b, .slice A1 cs.length c1, .slice A2 ks.length c2, .slice A3 kids.length c3], .pointer (some pk), .pointer (some pv)] W _
  unfold putG
  generalize hp : putV b cs ks kids key value = P
  obtain ⟨r1, r2, r3, r4, r5⟩ := P
  dsimp only
  have HP := Aside0.mk hp
  clear hp
  have hlw := hB.size
  have hb1 : Below W.heap.size W (W.alloc (.cells #[.bool b, .slice A1 cs.length c1, .slice A2 ks.length c2, .slice A3 kids.length c3] 26)) := (Below.refl _ _).alloc (Nat.le_refl _) _
  have hbx : (W.alloc (.cells #[.bool b, .slice A1 cs.length c1, .slice A2 ks.length c2, .slice A3 kids.length c3] 26)).heap[W.heap.size]? = some (.cells #[.bool b, .slice A1 cs.length c1, .slice A2 ks.length c2, .slice A3 kids.length c3] 26 (0, 0)) := blk_new W _
  have hs1 : (W.alloc (.cells #[.bool b, .slice A1 cs.length c1, .slice A2 ks.length c2, .slice A3 kids.length c3] 26)).heap.size = W.heap.size + 1 := by show (W.heap.push _).size = _; rw [Array.size_push]
  have hb2 : Below W.heap.size W ((W.alloc (.cells #[.bool b, .slice A1 cs.length c1, .slice A2 ks.length c2, .slice A3 kids.length c3] 26)).alloc (.cells #[.bool false, .slice none 0 0, .slice none 0 0, .slice none 0 0] 26)) := hb1.alloc (by omega) _
  have hbo : ((W.alloc (.cells #[.bool b, .slice A1 cs.length c1, .slice A2 ks.length c2, .slice A3 kids.length c3] 26)).alloc (.cells #[.bool false, .slice none 0 0, .slice none 0 0, .slice none 0 0] 26)).heap[W.heap.size + 1]? = some (.cells #[.bool false, .slice none 0 0, .slice none 0 0, .slice none 0 0] 26 (0, 0)) := by
    rw [← hs1]
    exact blk_new _ _
  have hbx2 : ((W.alloc (.cells #[.bool b, .slice A1 cs.length c1, .slice A2 ks.length c2, .slice A3 kids.length c3] 26)).alloc (.cells #[.bool false, .slice none 0 0, .slice none 0 0, .slice none 0 0] 26)).heap[W.heap.size]? = some (.cells #[.bool b, .slice A1 cs.length c1, .slice A2 ks.length c2, .slice A3 kids.length c3] 26 (0, 0)) := blk_below hbx ((Below.refl _ _).alloc (Nat.le_refl _) _)
  have kk := (hb2.cell (Nat.lt_of_lt_of_le (World.block_lt_of_cell? w _ hpk) hlw)).trans ((hB.cell (World.block_lt_of_cell? w _ hpk)).trans hpk)
  have kv := (hb2.cell (Nat.lt_of_lt_of_le (World.block_lt_of_cell? w _ hpv) hlw)).trans ((hB.cell (World.block_lt_of_cell? w _ hpv)).trans hpv)
  have x0 := (blk_cell hbx2 0).trans rfl
  have x1 := (blk_cell hbx2 1).trans rfl
  have x2 := (blk_cell hbx2 2).trans rfl
  have x3 := (blk_cell hbx2 3).trans rfl
  have HB := Aside0.mk hb2
  have HO := Aside0.mk hbo
  have HW := Aside0.mk hlw
  clear hb1 hbx hs1 hbo hbx2 hlw hB hpk hpv
  go_enter Try.func49, Try.ntmps49
  go_wp2_with fail
  generalize (W.alloc (.cells #[.bool b, .slice A1 cs.length c1, .slice A2 ks.length c2, .slice A3 kids.length c3] 26)).alloc (.cells #[.bool false, .slice none 0 0, .slice none 0 0, .slice none 0 0] 26) = w2 at *
  clear x0 x1 x2 x3 kk kv
  obtain ⟨go, hgo⟩ : ∃ g, g = W.heap.size + 1 := ⟨_, rfl⟩
  rw [← hgo] at HO ⊢
  have HGO : Aside0 (W.heap.size ≤ go) := ⟨by omega⟩
  clear hgo
  refine (node_Put.calls b A1 c1 cs A2 c2 ks A3 c3 kids key value r1 r2 r3 r4 r5 w2 (Kd.C_below h1 HB.out) hc1 (Kd.C_below h2 HB.out) hc2 (Kd.C_below h3 HB.out) hc3 (show node_Put.f b cs ks kids key value = some (r1, r2, r3, r4, r5) by unfold node_Put.f; rw [if_pos ⟨ndB_of' hn hk, hks, hvs⟩, HP.out])).mono ?_
  rintro e_ w3 ⟨v1, v2, v3, rfl, g1, g2, g3, hb3⟩
  replace HO := Aside0.mk (blk_below HO.out hb3)
  have hw2 := HB.out.size
  replace HB := Aside0.mk (below_then HB.out (below_size HB.out) hb3)
  obtain ⟨D1, d1, rfl⟩ := Kd.R_slice g1
  obtain ⟨D2, d2, rfl⟩ := Kd.R_slice g2
  obtain ⟨D3, d3, rfl⟩ := Kd.R_slice g3
  have G1 := Aside0.mk (Kd.R_lower g1 hw2)
  have G2 := Aside0.mk (Kd.R_lower g2 hw2)
  have G3 := Aside0.mk (Kd.R_lower g3 hw2)
  clear g1 g2 g3 hb3 hw2
  have o0 : w3.cell? ⟨go, 0, none⟩ = some (.bool false) := (blk_cell HO.out 0).trans rfl
  have o1 : w3.cell? ⟨go, 1, none⟩ = some (.slice none 0 0) := (blk_cell HO.out 1).trans rfl
  have o2 : w3.cell? ⟨go, 2, none⟩ = some (.slice none 0 0) := (blk_cell HO.out 2).trans rfl
  have o3 : w3.cell? ⟨go, 3, none⟩ = some (.slice none 0 0) := (blk_cell HO.out 3).trans rfl
  have f0 := blk_frozen HO.out 0
  have f1 := blk_frozen HO.out 1
  have f2 := blk_frozen HO.out 2
  have f3 := blk_frozen HO.out 3
  go_wp2_with fail
  (try simp only [Exit.inBlock, Exit.then]); refine bodyPost_ret (results_ct rfl _ _ go 26 _ (0, 0) _ rfl (ret_all HO.out _ _ _ _) Try.underlying26 rfl (by kernel_rfl)) rfl ?_
  exact ⟨D1, d1, D2, d2, D3, d3, rfl, NR_seal (R_ret G1.out HO.out (by decide) _ _ _ _) (R_ret G2.out HO.out (by decide) _ _ _ _) (R_ret G3.out HO.out (by decide) _ _ _ _) HW.out, below_set (below_set (below_set (below_set HB.out HGO.out) HGO.out) HGO.out) HGO.out⟩
theorem ask_put2 (w : World) (pk pv : Addr) (key value : ByteArray) (hpk : w.cell? pk = some (.string key)) (hpv : w.cell? pv = some (.string value)) (hks : key.size ≤ 140737488351232) (hvs : value.size ≤ 140737488351232) : Asks w 51 #[.pointer (some pk), .pointer (some pv)] (putG key value) := by
  intro W hB b A1 c1 cs A2 c2 ks A3 c3 kids hc1 hc2 hc3 h1 h2 h3 hn hk
  show Calls Try.prog 51 #[.agg #[.bool b, .slice A1 cs.length c1, .slice A2 ks.length c2, .slice A3 kids.length c3], .pointer (some pk), .pointer (some pv)] W _
  unfold putG
  generalize hp : putV b cs ks kids key value = P
  obtain ⟨r1, r2, r3, r4, r5⟩ := P
  dsimp only
  have HP := Aside0.mk hp
  clear hp
  have hlw := hB.size
  have hb1 : Below W.heap.size W (W.alloc (.cells #[.bool b, .slice A1 cs.length c1, .slice A2 ks.length c2, .slice A3 kids.length c3] 26)) := (Below.refl _ _).alloc (Nat.le_refl _) _
  have hbx : (W.alloc (.cells #[.bool b, .slice A1 cs.length c1, .slice A2 ks.length c2, .slice A3 kids.length c3] 26)).heap[W.heap.size]? = some (.cells #[.bool b, .slice A1 cs.length c1, .slice A2 ks.length c2, .slice A3 kids.length c3] 26 (0, 0)) := blk_new W _
  have hs1 : (W.alloc (.cells #[.bool b, .slice A1 cs.length c1, .slice A2 ks.length c2, .slice A3 kids.length c3] 26)).heap.size = W.heap.size + 1 := by show (W.heap.push _).size = _; rw [Array.size_push]
  have hb2 : Below W.heap.size W ((W.alloc (.cells #[.bool b, .slice A1 cs.length c1, .slice A2 ks.length c2, .slice A3 kids.length c3] 26)).alloc (.cells #[.bool false, .slice none 0 0, .slice none 0 0, .slice none 0 0] 26)) := hb1.alloc (by omega) _
  have hbo : ((W.alloc (.cells #[.bool b, .slice A1 cs.length c1, .slice A2 ks.length c2, .slice A3 kids.length c3] 26)).alloc (.cells #[.bool false, .slice none 0 0, .slice none 0 0, .slice none 0 0] 26)).heap[W.heap.size + 1]? = some (.cells #[.bool false, .slice none 0 0, .slice none 0 0, .slice none 0 0] 26 (0, 0)) := by
    rw [← hs1]
    exact blk_new _ _
  have hbx2 : ((W.alloc (.cells #[.bool b, .slice A1 cs.length c1, .slice A2 ks.length c2, .slice A3 kids.length c3] 26)).alloc (.cells #[.bool false, .slice none 0 0, .slice none 0 0, .slice none 0 0] 26)).heap[W.heap.size]? = some (.cells #[.bool b, .slice A1 cs.length c1, .slice A2 ks.length c2, .slice A3 kids.length c3] 26 (0, 0)) := blk_below hbx ((Below.refl _ _).alloc (Nat.le_refl _) _)
  have kk := (hb2.cell (Nat.lt_of_lt_of_le (World.block_lt_of_cell? w _ hpk) hlw)).trans ((hB.cell (World.block_lt_of_cell? w _ hpk)).trans hpk)
  have kv := (hb2.cell (Nat.lt_of_lt_of_le (World.block_lt_of_cell? w _ hpv) hlw)).trans ((hB.cell (World.block_lt_of_cell? w _ hpv)).trans hpv)
  have x0 := (blk_cell hbx2 0).trans rfl
  have x1 := (blk_cell hbx2 1).trans rfl
  have x2 := (blk_cell hbx2 2).trans rfl
  have x3 := (blk_cell hbx2 3).trans rfl
  have HB := Aside0.mk hb2
  have HO := Aside0.mk hbo
  have HW := Aside0.mk hlw
  clear hb1 hbx hs1 hbo hbx2 hlw hB hpk hpv
  go_enter Try.func51, Try.ntmps51
  go_wp2_with fail
  generalize (W.alloc (.cells #[.bool b, .slice A1 cs.length c1, .slice A2 ks.length c2, .slice A3 kids.length c3] 26)).alloc (.cells #[.bool false, .slice none 0 0, .slice none 0 0, .slice none 0 0] 26) = w2 at *
  clear x0 x1 x2 x3 kk kv
  obtain ⟨go, hgo⟩ : ∃ g, g = W.heap.size + 1 := ⟨_, rfl⟩
  rw [← hgo] at HO ⊢
  have HGO : Aside0 (W.heap.size ≤ go) := ⟨by omega⟩
  clear hgo
  refine (rput_calls w2 b A1 c1 cs A2 c2 ks A3 c3 kids key value hc1 hc2 hc3 (Kd.C_below h1 HB.out) (Kd.C_below h2 HB.out) (Kd.C_below h3 HB.out) hn hks hvs r1 r2 r3 r4 r5 HP.out).mono ?_
  rintro e_ w3 ⟨v1, v2, v3, rfl, g1, g2, g3, hb3⟩
  replace HO := Aside0.mk (blk_below HO.out hb3)
  have hw2 := HB.out.size
  replace HB := Aside0.mk (below_then HB.out (below_size HB.out) hb3)
  obtain ⟨D1, d1, rfl⟩ := Kd.R_slice g1
  obtain ⟨D2, d2, rfl⟩ := Kd.R_slice g2
  obtain ⟨D3, d3, rfl⟩ := Kd.R_slice g3
  have G1 := Aside0.mk (Kd.R_lower g1 hw2)
  have G2 := Aside0.mk (Kd.R_lower g2 hw2)
  have G3 := Aside0.mk (Kd.R_lower g3 hw2)
  clear g1 g2 g3 hb3 hw2
  have o0 : w3.cell? ⟨go, 0, none⟩ = some (.bool false) := (blk_cell HO.out 0).trans rfl
  have o1 : w3.cell? ⟨go, 1, none⟩ = some (.slice none 0 0) := (blk_cell HO.out 1).trans rfl
  have o2 : w3.cell? ⟨go, 2, none⟩ = some (.slice none 0 0) := (blk_cell HO.out 2).trans rfl
  have o3 : w3.cell? ⟨go, 3, none⟩ = some (.slice none 0 0) := (blk_cell HO.out 3).trans rfl
  have f0 := blk_frozen HO.out 0
  have f1 := blk_frozen HO.out 1
  have f2 := blk_frozen HO.out 2
  have f3 := blk_frozen HO.out 3
  go_wp2_with fail
  (try simp only [Exit.inBlock, Exit.then]); refine bodyPost_ret (results_ct rfl _ _ go 26 _ (0, 0) _ rfl (ret_all HO.out _ _ _ _) Try.underlying26 rfl (by kernel_rfl)) rfl ?_
  exact ⟨D1, d1, D2, d2, D3, d3, rfl, NR_seal (R_ret G1.out HO.out (by decide) _ _ _ _) (R_ret G2.out HO.out (by decide) _ _ _ _) (R_ret G3.out HO.out (by decide) _ _ _ _) HW.out, below_set (below_set (below_set (below_set HB.out HGO.out) HGO.out) HGO.out) HGO.out⟩
end Go.Proofs.Ytdjjpgdhnoibkaa.My
namespace Go.Proofs.Ytdjjpgdhnoibkaa.PD
open Go.Proofs.Ytdjjpgdhnoibkaa.PZ
open Go.Proofs.Ytdjjpgdhnoibkaa.My
attribute [local go_sem high] conv_rune str_leq str_gtr
open Go.RowKit Go.Proofs.YtdjjpgdhnoibkaaW.PrintWords Go.Proofs.YtdjjpgdhnoibkaaW.PrintLast Go.Proofs.YtdjjpgdhnoibkaaW.PrintMore
attribute [local go_sem] max2_int min2_int max_two min_two max_three min_three max_four min_four   -- for this text's walks alone
set_option linter.unusedVariables false
set_option linter.unusedSimpArgs false
attribute [local go_sem high] eqA66
/-! ### node_Take: function 55 -/
def node_Take.f (k : Nat) (a0_0 : Bool) (l0_1 : List (S66)) (l0_2 : List ByteArray) (l0_3 : List Int) (a1 : ByteArray) : Option (Bool × (List (S66)) × List ByteArray × List Int × Bool) := (node_Find.f k a0_0 l0_1 l0_2 l0_3 a1).bind fun bt371 => (if bt371.2 = true then (if 0 ≤ bt371.1 then (if bt371.1 ≤ (l0_1.length : Int) then (if 0 ≤ (wrap64 (bt371.1 + 1)) then (if (wrap64 (bt371.1 + 1)) ≤ (l0_1.length : Int) then ((slices_Concat_api_Cell_api_Cell.f (([(l0_1.take (bt371.1 : Int).toNat), (l0_1.drop ((wrap64 (bt371.1 + 1)) : Int).toNat)] : List (List (S66))))).bind fun t386 => (some (true, t386, ([] : List ByteArray), ([] : List Int), true))) else (none)) else (none)) else (none)) else (none)) else (some (false, ([] : List (S66)), ([] : List ByteArray), ([] : List Int), false)))
def node_Take.T4 : Bool × List (List Nat × List Nat) := (true, [([], []), ([0], [0]), ([], []), ([1, 2], [1, 2]), ([], []), ([4], [4]), ([], []), ([6], [6]), ([5, 7], [5, 7]), ([3, 8], [3, 8]), ([9], [9]), ([10], [10]), ([11, 10, 0, 1, 2, 3, 4, 5, 6, 7, 8, 9, 10, 11], [11]), ([12, 0, 1, 2, 3, 4, 5, 6, 7, 8, 9, 10, 11, 12], [])])
def node_Take.B4 : List Nat := [0, 1, 0, 7, 0, 16, 0, 64, 240, 511, 1023, 2047, 4095, 8191]
theorem node_Take.tab4 : rtab .any (opsOf Try.f55 4) = node_Take.T4 := by kernel_rfl
theorem node_Take.bits4 : waitsOk node_Take.T4.2 node_Take.B4 = true := by kernel_rfl
set_option maxHeartbeats 8000000 in
set_option maxRecDepth 100000 in
theorem node_Take.calls (k : Nat) (a0_0 : Bool) (P0_1_ : Nat → Prop) (A0_1 : Option Addr) (c0_1 : Nat) (l0_1 : List (S66)) (A0_2 : Option Addr) (c0_2 : Nat) (l0_2 : List ByteArray) (A0_3 : Option Addr) (c0_3 : Nat) (l0_3 : List Int) (a1 : ByteArray) (r1 : Bool) (r2 : List (S66)) (r3 : List ByteArray) (r4 : List Int) (r5 : Bool) (w : World) (hs0_1 : Kd.V k66 66 w w.heap.size (fun k_ => P0_1_ k_) (.slice A0_1 l0_1.length c0_1) l0_1) (hr0_2 : Kd.C Kd.string w A0_2 l0_2.length l0_2) (hc0_2 : l0_2.length ≤ c0_2) (hr0_3 : Kd.C (Kd.int .u32) w A0_3 l0_3.length l0_3) (hc0_3 : l0_3.length ≤ c0_3) (h : node_Take.f k a0_0 l0_1 l0_2 l0_3 a1 = some (r1, r2, r3, r4, r5)) :
  Calls Try.prog 55 #[.agg #[.bool a0_0, .slice A0_1 l0_1.length c0_1, .slice A0_2 l0_2.length c0_2, .slice A0_3 l0_3.length c0_3], .string a1] w fun e w' => ∃ v1_ v2_ v3_ : Value, e = .returned (.tuple #[.agg #[.bool r1, v1_, v2_, v3_], .bool r5]) ∧ Kd.R k66 66 w' w.heap.size (fun k_ => (w.heap.size ≤ k_)) v1_ r2 ∧ Kd.R Kd.string 9 w' w.heap.size (fun k_ => (w.heap.size ≤ k_)) v2_ r3 ∧ Kd.R (Kd.int .u32) 45 w' w.heap.size (fun k_ => (w.heap.size ≤ k_)) v3_ r4 ∧ Below w.heap.size w w' := by
 have hu26 := Try.underlying26
 have HO0_1 := Aside0.mk (show Kd.V k66 66 w w.heap.size (fun k_ => (P0_1_ k_ ∨ w.heap.size ≤ k_)) (.slice A0_1 l0_1.length c0_1) l0_1 from Kd.V_mono hs0_1 (fun k_ hk => .inl hk))
 have HR0_2 := Aside0.mk hr0_2
 have HC0_2 := Aside0.mk hc0_2
 clear hr0_2 hc0_2
 have HR0_3 := Aside0.mk hr0_3
 have HC0_3 := Aside0.mk hc0_3
 clear hr0_3 hc0_3
 have HB := Aside0.mk (Below.refl w.heap.size w)
 have H : ((node_Find.f k a0_0 l0_1 l0_2 l0_3 a1).bind fun bt371 => (if bt371.2 = true then (if 0 ≤ bt371.1 then (if bt371.1 ≤ (l0_1.length : Int) then (if 0 ≤ (wrap64 (bt371.1 + 1)) then (if (wrap64 (bt371.1 + 1)) ≤ (l0_1.length : Int) then ((slices_Concat_api_Cell_api_Cell.f (([(l0_1.take (bt371.1 : Int).toNat), (l0_1.drop ((wrap64 (bt371.1 + 1)) : Int).toNat)] : List (List (S66))))).bind fun t386 => (some (true, t386, ([] : List ByteArray), ([] : List Int), true))) else (none)) else (none)) else (none)) else (none)) else (some (false, ([] : List (S66)), ([] : List ByteArray), ([] : List Int), false)))) = some (r1, r2, r3, r4, r5) := h
 clear h
 replace H := Option.bind_eq_some_iff.mp H
 obtain ⟨⟨t371, t372⟩, A30, H⟩ := H
 replace H : (if t372 = true then (if 0 ≤ t371 then (if t371 ≤ (l0_1.length : Int) then (if 0 ≤ (wrap64 (t371 + 1)) then (if (wrap64 (t371 + 1)) ≤ (l0_1.length : Int) then ((slices_Concat_api_Cell_api_Cell.f (([(l0_1.take (t371 : Int).toNat), (l0_1.drop ((wrap64 (t371 + 1)) : Int).toNat)] : List (List (S66))))).bind fun t386 => (some (true, t386, ([] : List ByteArray), ([] : List Int), true))) else (none)) else (none)) else (none)) else (none)) else (some (false, ([] : List (S66)), ([] : List ByteArray), ([] : List Int), false))) = some (r1, r2, r3, r4, r5) := H
 have A3 := Aside0.mk A30
 clear A30
 by_cases c4 : t372 = true
 ·subst c4
  have H1 : (if 0 ≤ t371 then (if t371 ≤ (l0_1.length : Int) then (if 0 ≤ (wrap64 (t371 + 1)) then (if (wrap64 (t371 + 1)) ≤ (l0_1.length : Int) then ((slices_Concat_api_Cell_api_Cell.f (([(l0_1.take (t371 : Int).toNat), (l0_1.drop ((wrap64 (t371 + 1)) : Int).toNat)] : List (List (S66))))).bind fun t386 => (some (true, t386, ([] : List ByteArray), ([] : List Int), true))) else (none)) else (none)) else (none)) else (none)) = some (r1, r2, r3, r4, r5) := by rw [if_pos rfl] at H; exact H
  clear H
  have H := H1
  clear H1
  by_cases c5 : 0 ≤ t371
  ·rw [if_pos c5] at H
   have c5b0 := eq_true c5
   have c5b1 : decide (0 ≤ t371) = true := decide_eq_true c5
   clear c5
   by_cases c6 : t371 ≤ (l0_1.length : Int)
   ·rw [if_pos c6] at H
    have c6b0 := eq_true c6
    have c6b1 : decide (t371 ≤ (l0_1.length : Int)) = true := decide_eq_true c6
    clear c6
    obtain ⟨y373, hy373⟩ : ∃ y_ : List (S66), y_ = (l0_1.take (t371 : Int).toNat) := ⟨_, rfl⟩
    replace H : (if 0 ≤ (wrap64 (t371 + 1)) then (if (wrap64 (t371 + 1)) ≤ (l0_1.length : Int) then ((slices_Concat_api_Cell_api_Cell.f (([y373, (l0_1.drop ((wrap64 (t371 + 1)) : Int).toNat)] : List (List (S66))))).bind fun t386 => (some (true, t386, ([] : List ByteArray), ([] : List Int), true))) else (none)) else (none)) = some (r1, r2, r3, r4, r5) := by first | (rw [hy373]; with_reducible exact H) | (have H2_ := (Option.bind_some _ _).symm.trans H; rw [hy373]; with_reducible exact H2_) | (have H2_ := (Option.bind_some _ _).symm.trans H; with_reducible exact H2_) | with_reducible exact H | (rw [hy373]; exact H) | exact H
    have Ny373 := Aside0.mk hy373
    clear hy373
    obtain ⟨ji7, hji7⟩ : ∃ j_ : Int, (wrap64 (t371 + 1)) = j_ := ⟨_, rfl⟩
    replace H : (if 0 ≤ (ji7) then (if (ji7) ≤ (l0_1.length : Int) then ((slices_Concat_api_Cell_api_Cell.f (([y373, (l0_1.drop ((ji7) : Int).toNat)] : List (List (S66))))).bind fun t386 => (some (true, t386, ([] : List ByteArray), ([] : List Int), true))) else (none)) else (none)) = some (r1, r2, r3, r4, r5) := by first | (rw [hji7] at H; exact H) | (simp only [hji7] at H ⊢; exact H)
    (try rw [hji7] at A3)
    have hji7w : (IntKind.i64.wrap (t371 + 1)) = ji7 := (i64_w _).trans hji7
    by_cases c8 : 0 ≤ (ji7)
    ·rw [if_pos c8] at H
     have c8b0 := eq_true c8
     have c8b1 : decide (0 ≤ (ji7)) = true := decide_eq_true c8
     clear c8
     by_cases c9 : (ji7) ≤ (l0_1.length : Int)
     ·rw [if_pos c9] at H
      have c9b0 := eq_true c9
      have c9b1 : decide ((ji7) ≤ (l0_1.length : Int)) = true := decide_eq_true c9
      clear c9
      obtain ⟨y378, hy378⟩ : ∃ y_ : List (S66), y_ = (l0_1.drop ((ji7) : Int).toNat) := ⟨_, rfl⟩
      replace H : ((slices_Concat_api_Cell_api_Cell.f (([y373, y378] : List (List (S66))))).bind fun t386 => (some (true, t386, ([] : List ByteArray), ([] : List Int), true))) = some (r1, r2, r3, r4, r5) := by first | (rw [hy378]; with_reducible exact H) | (have H2_ := (Option.bind_some _ _).symm.trans H; rw [hy378]; with_reducible exact H2_) | (have H2_ := (Option.bind_some _ _).symm.trans H; with_reducible exact H2_) | with_reducible exact H | (rw [hy378]; exact H) | exact H
      have Ny378 := Aside0.mk hy378
      clear hy378
      obtain ⟨y383, hy383⟩ : ∃ y_ : List (List (S66)), y_ = (([y373, y378] : List (List (S66)))) := ⟨_, rfl⟩
      replace H : ((slices_Concat_api_Cell_api_Cell.f y383).bind fun t386 => (some (true, t386, ([] : List ByteArray), ([] : List Int), true))) = some (r1, r2, r3, r4, r5) := by first | (rw [hy383]; with_reducible exact H) | (have H2_ := (Option.bind_some _ _).symm.trans H; rw [hy383]; with_reducible exact H2_) | (have H2_ := (Option.bind_some _ _).symm.trans H; with_reducible exact H2_) | with_reducible exact H | (rw [hy383]; exact H) | exact H
      have Ny383 := Aside0.mk hy383
      clear hy383
      replace H := Option.bind_eq_some_iff.mp H
      obtain ⟨t386, A100, H⟩ := H
      replace H : (some (true, t386, ([] : List ByteArray), ([] : List Int), true)) = some (r1, r2, r3, r4, r5) := H
      have A10 := Aside0.mk A100
      clear A100
      simp only [Option.some.injEq, Prod.mk.injEq] at H
      obtain ⟨rfl, rfl, rfl, rfl, rfl⟩ := H
      go_enter Try.func55, Try.ntmps55
      try go_wp2_with (first | ((with_reducible refine gate_dst (N := 2) rfl ?_); refine box_event ?hg (N := 2) ?hd (cs := #[.bool a0_0, .slice A0_1 l0_1.length c0_1, .slice A0_2 l0_2.length c0_2, .slice A0_3 l0_3.length c0_3]) (t := 26) ?hr ?_; (case hd => rfl); (case hg => rfl); (case hr => first | (go_simp; done) | (go_simp; rfl)); intro gb369 hg w11 hbox hb; have n0_ := Aside0.mk (Kd.V_below (Kd.V_elderB (by (with_reducible repeat (first | apply Kd.V_alloc | apply Kd.V_drewN | apply Kd.V_drew)); exact HO0_1.out) gb369 (Nat.le_of_eq hg.symm)) hb); have n1_ := Aside0.mk (below_step (by repeat (first | (with_reducible first | exact HB.out | apply below_alloc | apply pw_below_drewN | apply below_drew1) | exact HB.out)) hb); have n2_ := Aside0.mk (hbox); have n3_ := Aside0.mk ((by rw [hg]; exact (below_size (by repeat (first | (with_reducible first | exact HB.out | apply below_alloc | apply pw_below_drewN | apply below_drew1) | exact HB.out))) : w.heap.size ≤ gb369)); have n4_ := Aside0.mk ((by rw [hg]; exact (below_size (by repeat (first | (with_reducible first | exact HB.out | apply below_alloc | apply pw_below_drewN | apply below_drew1) | exact HB.out))) : w.heap.size ≤ gb369)); clear HO0_1; clear HB; have HO0_1 := n0_; have HB := n1_; have BK369 := n2_; have GW369 := n3_; have GE369 := n4_; clear n0_ n1_ n2_ n3_ n4_; clear hb hbox hg) | ((with_reducible refine gate_dst (N := 4) rfl ?_); refine box_event ?hg (N := 4) ?hd (cs := #[.bool false, .slice none 0 0, .slice none 0 0, .slice none 0 0]) (t := 26) ?hr ?_; (case hd => rfl); (case hg => rfl); (case hr => first | (go_simp; done) | (go_simp; rfl)); intro gb370 hg w12 hbox hb; have n0_ := Aside0.mk (Kd.V_below (Kd.V_elderB (by (with_reducible repeat (first | apply Kd.V_alloc | apply Kd.V_drewN | apply Kd.V_drew)); exact HO0_1.out) gb370 (Nat.le_of_eq hg.symm)) hb); have n1_ := Aside0.mk (blk_below (g := gb369) (o := .cells #[.bool a0_0, .slice A0_1 l0_1.length c0_1, .slice A0_2 l0_2.length c0_2, .slice A0_3 l0_3.length c0_3] 26 (0, 0)) (by (with_reducible repeat (first | refine blk_drewN ?_ _ | refine blk_drew ?_ | refine blk_alloc ?_ _)); exact BK369.out) hb); have n2_ := Aside0.mk (below_step (by repeat (first | (with_reducible first | exact HB.out | apply below_alloc | apply pw_below_drewN | apply below_drew1 | refine below_set ?_ GE369.out) | exact HB.out)) hb); have n3_ := Aside0.mk (hbox); have n4_ := Aside0.mk ((by rw [hg]; exact (below_size (by repeat (first | (with_reducible first | exact HB.out | apply below_alloc | apply pw_below_drewN | apply below_drew1 | refine below_set ?_ GE369.out) | exact HB.out))) : w.heap.size ≤ gb370)); have n5_ := Aside0.mk ((by rw [hg]; exact (below_size (by repeat (first | (with_reducible first | exact HB.out | apply below_alloc | apply pw_below_drewN | apply below_drew1 | refine below_set ?_ GE369.out) | exact HB.out))) : w.heap.size ≤ gb370)); have n6_ := Aside0.mk ((by rw [hg]; exact Nat.ne_of_lt (blk_lt (g := gb369) (o := .cells #[.bool a0_0, .slice A0_1 l0_1.length c0_1, .slice A0_2 l0_2.length c0_2, .slice A0_3 l0_3.length c0_3] 26 (0, 0)) (by (with_reducible repeat (first | refine blk_drewN ?_ _ | refine blk_drew ?_ | refine blk_alloc ?_ _)); exact BK369.out)) : gb369 ≠ gb370)); have n7_ := Aside0.mk ((by rw [hg]; exact Nat.ne_of_gt (blk_lt (g := gb369) (o := .cells #[.bool a0_0, .slice A0_1 l0_1.length c0_1, .slice A0_2 l0_2.length c0_2, .slice A0_3 l0_3.length c0_3] 26 (0, 0)) (by (with_reducible repeat (first | refine blk_drewN ?_ _ | refine blk_drew ?_ | refine blk_alloc ?_ _)); exact BK369.out)) : gb370 ≠ gb369)); clear HO0_1; clear BK369; clear HB; have HO0_1 := n0_; have BK369 := n1_; have HB := n2_; have BK370 := n3_; have GW370 := n4_; have GE370 := n5_; have NB369_370 := n6_; have NB370_369 := n7_; clear n0_ n1_ n2_ n3_ n4_ n5_ n6_ n7_; clear hb hbox hg; have hnb13 := NB369_370.out; have hnc13 := NB370_369.out; have hcz14_0 : w12.cell? ⟨gb369, 0, none⟩ = some (.bool a0_0) := (blk_cell BK369.out 0).trans rfl; have hcz14_1 : w12.cell? ⟨gb369, 1, none⟩ = some (.slice A0_1 l0_1.length c0_1) := (blk_cell BK369.out 1).trans rfl; have hcz14_2 : w12.cell? ⟨gb369, 2, none⟩ = some (.slice A0_2 l0_2.length c0_2) := (blk_cell BK369.out 2).trans rfl; have hcz14_3 : w12.cell? ⟨gb369, 3, none⟩ = some (.slice A0_3 l0_3.length c0_3) := (blk_cell BK369.out 3).trans rfl; have hfz14_0 := blk_frozen BK369.out 0; have hfz14_1 := blk_frozen BK369.out 1; have hfz14_2 := blk_frozen BK369.out 2; have hfz14_3 := blk_frozen BK369.out 3) | ((with_reducible refine gate_callee (f := 17) rfl ?_); refine goesL_ (some 11) rfl rfl Try.func17 (by kernel_rfl) rfl #[.agg #[.bool a0_0, .slice A0_1 l0_1.length c0_1, .slice A0_2 l0_2.length c0_2, .slice A0_3 l0_3.length c0_3], .string a1] rfl (by (try simp only [List.map_toArray, List.map_cons, List.map_nil]); first | done | rfl | (simp only [List.length_drop, List.length_take]; rfl)) ?_; (with_reducible refine (node_Find.calls k a0_0 _ _ l0_1 _ _ l0_2 _ _ l0_3 a1 t371 true _ ?side1 ?side2 ?side3 ?side4 ?side5 ?side6 A3.out).mono ?_); (case side1 => repeat (first | exact (Kd.V_reads' HO0_1.out).2.2 | (with_reducible refine Kd.C_alloc ?_ _) | (with_reducible refine Kd.C_drewN ?_ _) | (with_reducible refine Kd.C_drew ?_))); (case side2 => exact (Kd.V_reads' HO0_1.out).2.1); (case side3 => repeat (first | exact (Kd.C_below HR0_2.out HB.out) | (with_reducible refine Kd.C_alloc ?_ _) | (with_reducible refine Kd.C_drewN ?_ _) | (with_reducible refine Kd.C_drew ?_))); (case side4 => exact HC0_2.out); (case side5 => repeat (first | exact (Kd.C_below HR0_3.out HB.out) | (with_reducible refine Kd.C_alloc ?_ _) | (with_reducible refine Kd.C_drewN ?_ _) | (with_reducible refine Kd.C_drew ?_))); (case side6 => exact HC0_3.out); rintro e w15 ⟨rfl, hb⟩; refine ⟨_, rfl, ?_⟩; have n0_ := Aside0.mk (Kd.V_below (by (with_reducible repeat (first | apply Kd.V_alloc | apply Kd.V_drewN | apply Kd.V_drew)); exact HO0_1.out) hb); have n1_ := Aside0.mk (blk_below (g := gb369) (o := .cells #[.bool a0_0, .slice A0_1 l0_1.length c0_1, .slice A0_2 l0_2.length c0_2, .slice A0_3 l0_3.length c0_3] 26 (0, 0)) (by (with_reducible repeat (first | refine blk_drewN ?_ _ | refine blk_drew ?_ | refine blk_alloc ?_ _)); exact BK369.out) hb); have n2_ := Aside0.mk (blk_below (g := gb370) (o := .cells #[.bool false, .slice none 0 0, .slice none 0 0, .slice none 0 0] 26 (0, 0)) (by (with_reducible repeat (first | refine blk_drewN ?_ _ | refine blk_drew ?_ | refine blk_alloc ?_ _)); exact BK370.out) hb); have n3_ := Aside0.mk (below_step (by repeat (first | (with_reducible first | exact HB.out | apply below_alloc | apply pw_below_drewN | apply below_drew1 | refine below_set ?_ GE369.out | refine below_set ?_ GE370.out) | exact HB.out)) hb); clear HO0_1; clear BK369; clear BK370; clear HB; have HO0_1 := n0_; have BK369 := n1_; have BK370 := n2_; have HB := n3_; clear n0_ n1_ n2_ n3_; (try clear hb); (try clear hb2); (try clear hk); (try clear hi)))
      have n0_ := Aside0.mk (Kd.V_drew HO0_1.out)
      have n1_ := Aside0.mk (blk_drew BK369.out)
      have n2_ := Aside0.mk (blk_drew BK370.out)
      have n3_ := Aside0.mk (below_drew1 HB.out)
      clear HO0_1
      clear BK369
      clear BK370
      clear HB
      have HO0_1 := n0_
      have BK369 := n1_
      have BK370 := n2_
      have HB := n3_
      clear n0_ n1_ n2_ n3_
      have q17 : (t371 : Int) ≤ ((l0_1.length : Int) : Int) := of_decide_eq_true (by first | (with_reducible assumption) | assumption)
      obtain ⟨i017, hi017, _, hsz17, _⟩ := info_parts info66
      have hroom17 : l0_1.length ≤ c0_1 := (Kd.V_reads' HO0_1.out).2.1
      have hC17 : Kd.F k66 _ _ A0_1 l0_1.length l0_1 := (Kd.V_at (base := w.heap.size) HO0_1.out).2.2
      have hcut17 := cut_to (P := Try.prog) 22 66 .i64 Try.underlying22 hi017 A0_1 l0_1.length c0_1 t371 (of_decide_eq_true (by first | (with_reducible assumption) | assumption)) q17 hroom17
      have hr17 := Kd.F_take (m := (t371 : Int).toNat) hC17 (by omega)
      have hy17 : y373.length = (t371 : Int).toNat := (by rw [Ny373.out, List.length_take]; omega)
      rw [← Ny373.out] at hr17
      rw [← hy17] at hcut17
      have HO377 := Aside0.mk (show Kd.V k66 66 _ w.heap.size _ (.slice A0_1 y373.length c0_1) y373 from Kd.V_mk (by omega) hr17)
      have HC377 := Aside0.mk (show y373.length ≤ c0_1 from by omega)
      clear hr17 hC17 hroom17 hi017 hsz17
      have KY17 := Aside0.mk hy17
      clear hy17
      replace q17 := eq_true q17
      have q18 : ((ji7) : Int) ≤ ((l0_1.length : Int) : Int) := of_decide_eq_true (by first | (with_reducible assumption) | assumption)
      obtain ⟨i018, hi018, _, hsz18, _⟩ := info_parts info66
      have hroom18 : l0_1.length ≤ c0_1 := (Kd.V_reads' HO0_1.out).2.1
      have hC18 : Kd.F k66 _ _ A0_1 l0_1.length l0_1 := (Kd.V_at (base := w.heap.size) HO0_1.out).2.2
      have q018 : (0 : Int) ≤ ((ji7) : Int) := of_decide_eq_true (by first | (with_reducible assumption) | assumption)
      have hcut18 := cut_from (P := Try.prog) 22 66 .i64 Try.underlying22 hi018 2 hsz18 A0_1 l0_1.length c0_1 (ji7) q018 q18
      have hr18 := Kd.F_cut (m := ((ji7) : Int).toNat) (c := c0_1) hC18 (by omega) hroom18
      obtain ⟨A18, hA18⟩ : ∃ A1, A1 = (if c0_1 = ((ji7) : Int).toNat then A0_1 else (A0_1 : Option Addr).map (·.add (((ji7) : Int).toNat * 2))) := ⟨_, rfl⟩
      obtain ⟨c18, hc18⟩ : ∃ c1, c1 = c0_1 - ((ji7) : Int).toNat := ⟨_, rfl⟩
      have hy18 : y378.length = l0_1.length - ((ji7) : Int).toNat := (by rw [Ny378.out, List.length_drop] <;> omega)
      rw [show (l0_1).drop ((ji7) : Int).toNat = y378 from Ny378.out.symm] at hr18
      replace hr18 : Kd.F k66 _ _ A18 y378.length y378 := (by rw [hA18]; exact hr18)
      rw [← hy18, ← hA18, ← hc18] at hcut18
      have HO382 := Aside0.mk (show Kd.V k66 66 _ w.heap.size _ (.slice A18 y378.length c18) y378 from Kd.V_mk (by rw [hy18, hc18]; exact Nat.sub_le_sub_right hroom18 _) hr18)
      have HC382 := Aside0.mk (show y378.length ≤ c18 from by rw [hy18, hc18]; exact Nat.sub_le_sub_right hroom18 _)
      clear hr18 hC18 hroom18 hi018 hsz18 hc18
      have KY18 := Aside0.mk hy18
      have KA18 := Aside0.mk hA18
      clear hy18 hA18
      replace q18 := eq_true q18
      refine start_ (n := 14) (S := fun w' => w'.cell? ⟨gb369, 0, none⟩ = some (.bool a0_0) ∧ w'.cell? ⟨gb369, 1, none⟩ = some (.slice A0_1 l0_1.length c0_1) ∧ w'.cell? ⟨gb369, 2, none⟩ = some (.slice A0_2 l0_2.length c0_2) ∧ w'.cell? ⟨gb369, 3, none⟩ = some (.slice A0_3 l0_3.length c0_3)) (ds := []) #[false,false,false,false,false,false,false,false,false,false,false,false,false,false] (by kernel_rfl) rfl rfl ⟨(blk_cell BK369.out 0).trans rfl, (blk_cell BK369.out 1).trans rfl, (blk_cell BK369.out 2).trans rfl, (blk_cell BK369.out 3).trans rfl⟩ (fun hHeld => ?_); refine with_tabW node_Take.tab4 node_Take.bits4 (fun HT_ HW_ => ?_)
      generalize w15.drew = w16 at HO0_1 BK369 BK370 HB HO377 HO382 hHeld ⊢
      refine pure_ (i := 0) (N := some 17) (v := ?_) (a' := ?_) #[true,false,false,false,false,false,false,false,false,false,false,false,false,false] rfl rfl (any_of HT_.out (by kernel_rfl)) (fun _ _ _ h => h) (Or.inl ⟨by rfl, ?_⟩) ?_ ?_
      rotate_left
      ·intro w'
       go_simp
       with_reducible rfl
      rotate_left
      ·simp only [Act.put, List.setIfInBounds_toArray, List.set_cons_zero, List.set_cons_succ, i64_w, i32_w]
       rfl
      refine pure_ (i := 2) (N := some 19) (v := ?_) (a' := ?_) #[true,false,true,false,false,false,false,false,false,false,false,false,false,false] rfl rfl (any_of HT_.out (by kernel_rfl)) (fun _ _ _ h => h) (Or.inl ⟨by rfl, ?_⟩) ?_ ?_
      rotate_left
      ·intro w'
       go_simp
       with_reducible rfl
      rotate_left
      ·simp only [Act.put, List.setIfInBounds_toArray, List.set_cons_zero, List.set_cons_succ, i64_w, i32_w]
       rfl
      refine pure_ (i := 4) (N := some 21) (v := ?_) (a' := ?_) #[true,false,true,false,true,false,false,false,false,false,false,false,false,false] rfl rfl (any_of HT_.out (by kernel_rfl)) (fun _ _ _ h => h) (Or.inl ⟨by rfl, ?_⟩) ?_ ?_
      rotate_left
      ·intro w'
       go_simp
       with_reducible rfl
      rotate_left
      ·simp only [Act.put, List.setIfInBounds_toArray, List.set_cons_zero, List.set_cons_succ, i64_w, i32_w]
       rfl
      refine pure_ (i := 6) (N := some 23) (v := ?_) (a' := ?_) #[true,false,true,false,true,false,true,false,false,false,false,false,false,false] rfl rfl (any_of HT_.out (by kernel_rfl)) (fun _ _ _ h => h) (Or.inl ⟨by rfl, ?_⟩) ?_ ?_
      rotate_left
      ·intro w'
       go_simp
       with_reducible rfl
      rotate_left
      ·simp only [Act.put, List.setIfInBounds_toArray, List.set_cons_zero, List.set_cons_succ, i64_w, i32_w]
       rfl
      refine pure_ (i := 7) (N := some 24) (v := ?_) (a' := ?_) #[true,false,true,false,true,false,true,true,false,false,false,false,false,false] rfl rfl (any_of HT_.out (by kernel_rfl)) (fun _ _ _ h => h) (Or.inl ⟨by rfl, ?_⟩) ?_ ?_
      rotate_left
      ·intro w'
       go_simp
       with_reducible rfl
      rotate_left
      ·simp only [Act.put, List.setIfInBounds_toArray, List.set_cons_zero, List.set_cons_succ, i64_w, i32_w]
       rfl
      refine take_ (i := 1) (N := some 18) (v := ?_) (a' := ?_) #[true,true,true,false,true,false,true,true,false,false,false,false,false,false] rfl rfl (take_ofW HT_.out HW_.out (by kernel_rfl)) (fun _ _ _ h => h) (Or.inl ⟨by rfl, ?_⟩) hHeld ?_ ?_
      rotate_left
      ·rintro w' ⟨s0, s1, s2, s3⟩
       go_simp
       with_reducible rfl
      rotate_left
      ·simp only [Act.put, List.setIfInBounds_toArray, List.set_cons_zero, List.set_cons_succ, i64_w, i32_w]
       rfl
      refine pure_ (i := 3) (N := some 20) (v := ?_) (a' := ?_) #[true,true,true,true,true,false,true,true,false,false,false,false,false,false] rfl rfl (any_of HT_.out (by kernel_rfl)) (fun _ _ _ h => h) (Or.inl ⟨by rfl, ?_⟩) ?_ ?_
      rotate_left
      ·intro w'
       go_simp
       with_reducible rfl
      rotate_left
      ·simp only [Act.put, List.setIfInBounds_toArray, List.set_cons_zero, List.set_cons_succ, i64_w, i32_w]
       rfl
      refine take_ (i := 5) (N := some 22) (v := ?_) (a' := ?_) #[true,true,true,true,true,true,true,true,false,false,false,false,false,false] rfl rfl (take_ofW HT_.out HW_.out (by kernel_rfl)) (fun _ _ _ h => h) (Or.inl ⟨by rfl, ?_⟩) hHeld ?_ ?_
      rotate_left
      ·rintro w' ⟨s0, s1, s2, s3⟩
       go_simp
       with_reducible rfl
      rotate_left
      ·simp only [Act.put, List.setIfInBounds_toArray, List.set_cons_zero, List.set_cons_succ, i64_w, i32_w]
       rfl
      refine pure_ (i := 8) (N := some 25) (v := ?_) (a' := ?_) #[true,true,true,true,true,true,true,true,true,false,false,false,false,false] rfl rfl (any_of HT_.out (by kernel_rfl)) (fun _ _ _ h => h) (Or.inl ⟨by rfl, ?_⟩) ?_ ?_
      rotate_left
      ·intro w'
       go_simp
       with_reducible rfl
      rotate_left
      ·simp only [Act.put, List.setIfInBounds_toArray, List.set_cons_zero, List.set_cons_succ, i64_w, i32_w]
       rfl
      refine one_ (i := 9) (N := some 26) #[true,true,true,true,true,true,true,true,true,true,false,false,false,false] rfl rfl (one_of HT_.out (by kernel_rfl)) (by decide) (fun K hK => ?_)
      refine Kd.N_lit_step (Kd.slice 66 k66) _ 22 ?hg (N' := 26) ?hd (xs := ([y373, y378] : List (List (S66)))) (inner := [.slice A0_1 y373.length c0_1, .slice A18 y378.length c18]) (ok := (fun k_ => (P0_1_ k_ ∨ w.heap.size ≤ k_) ∧ k_ ≠ gb369 ∧ k_ ≠ gb370)) (okp := (fun k_ => (P0_1_ k_ ∨ w.heap.size ≤ k_) ∧ k_ ≠ gb369 ∧ k_ ≠ gb370)) ?hr ?hp (fun _ hk => hk) ((show ∀ k_, w16.heap.size ≤ k_ → (fun k_ => (P0_1_ k_ ∨ w.heap.size ≤ k_) ∧ k_ ≠ gb369 ∧ k_ ≠ gb370) k_ from fun k_ hk => ⟨(.inr (Nat.le_trans (below_size (by repeat (first | (with_reducible first | exact HB.out | apply below_alloc | apply pw_below_drewN | apply below_drew1 | refine below_set ?_ GE369.out | refine below_set ?_ GE370.out) | exact HB.out))) hk)), Kd.freshB (g := gb369) (o := .cells #[.bool a0_0, .slice A0_1 l0_1.length c0_1, .slice A0_2 l0_2.length c0_2, .slice A0_3 l0_3.length c0_3] 26 (0, 0)) (by (with_reducible repeat (first | refine blk_drewN ?_ _ | refine blk_drew ?_ | refine blk_alloc ?_ _)); exact BK369.out) k_ hk, Kd.freshB (g := gb370) (o := .cells #[.bool false, .slice none 0 0, .slice none 0 0, .slice none 0 0] 26 (0, 0)) (by (with_reducible repeat (first | refine blk_drewN ?_ _ | refine blk_drew ?_ | refine blk_alloc ?_ _)); exact BK370.out) k_ hk⟩) _ (Nat.le_refl _)) (Below.refl _ _) (Nat.le_refl _) (by simp) ?_; (case hd => rfl); (case hg => rfl); (case hr => first | (go_simp; done) | (go_simp; rfl)); (case hp => exact (Reps.one (show Kd.FK (Kd.slice 66 k66) _ _ y373 [.slice A0_1 y373.length c0_1] from (Kd.FK_slice_mk (Kd.V_reads' (Kd.V_mono (ok' := (fun k_ => (P0_1_ k_ ∨ w.heap.size ≤ k_) ∧ k_ ≠ gb369 ∧ k_ ≠ gb370)) (HO377.out) (fun k_ hk => ⟨hk.1.1, ⟨hk.1.2, hk.2⟩⟩))).2.1 (Kd.V_F (Kd.V_mono (ok' := (fun k_ => (P0_1_ k_ ∨ w.heap.size ≤ k_) ∧ k_ ≠ gb369 ∧ k_ ≠ gb370)) (HO377.out) (fun k_ hk => ⟨hk.1.1, ⟨hk.1.2, hk.2⟩⟩))))) (Reps.one (show Kd.FK (Kd.slice 66 k66) _ _ y378 [.slice A18 y378.length c18] from (Kd.FK_slice_mk (Kd.V_reads' (Kd.V_mono (ok' := (fun k_ => (P0_1_ k_ ∨ w.heap.size ≤ k_) ∧ k_ ≠ gb369 ∧ k_ ≠ gb370)) (HO382.out) (fun k_ hk => ⟨hk.1.1, ⟨hk.1.2, hk.2⟩⟩))).2.1 (Kd.V_F (Kd.V_mono (ok' := (fun k_ => (P0_1_ k_ ∨ w.heap.size ≤ k_) ∧ k_ ≠ gb369 ∧ k_ ≠ gb370)) (HO382.out) (fun k_ hk => ⟨hk.1.1, ⟨hk.1.2, hk.2⟩⟩))))) (Reps.none _ _))))
      intro v384 w19 ho20 hb hg_ hnew_
      clear hg_ hnew_
      (first | rw [← Ny383.out] at ho20 | (simp only [Int.reduceToNat] at ho20; rw [← Ny383.out] at ho20))
      have n0_ := Aside0.mk (Kd.V_elder' (by (with_reducible repeat (first | apply Kd.V_alloc | apply Kd.V_drewN | apply Kd.V_drew)); exact HO0_1.out) (Kd.N_base ho20) hb)
      have n1_ := Aside0.mk (Kd.V_elder' (by (with_reducible repeat (first | apply Kd.V_alloc | apply Kd.V_drewN | apply Kd.V_drew)); exact HO377.out) (Kd.N_base ho20) hb)
      have n2_ := Aside0.mk (Kd.V_elder' (by (with_reducible repeat (first | apply Kd.V_alloc | apply Kd.V_drewN | apply Kd.V_drew)); exact HO382.out) (Kd.N_base ho20) hb)
      have n3_ := Aside0.mk (Kd.N_lower ho20 (below_size (by repeat (first | (with_reducible first | exact HB.out | apply below_alloc | apply pw_below_drewN | apply below_drew1 | refine below_set ?_ GE369.out | refine below_set ?_ GE370.out) | exact HB.out))))
      have n4_ := Aside0.mk (blk_below (g := gb369) (o := .cells #[.bool a0_0, .slice A0_1 l0_1.length c0_1, .slice A0_2 l0_2.length c0_2, .slice A0_3 l0_3.length c0_3] 26 (0, 0)) (by (with_reducible repeat (first | refine blk_drewN ?_ _ | refine blk_drew ?_ | refine blk_alloc ?_ _)); exact BK369.out) hb)
      have n5_ := Aside0.mk (blk_below (g := gb370) (o := .cells #[.bool false, .slice none 0 0, .slice none 0 0, .slice none 0 0] 26 (0, 0)) (by (with_reducible repeat (first | refine blk_drewN ?_ _ | refine blk_drew ?_ | refine blk_alloc ?_ _)); exact BK370.out) hb)
      have n6_ := Aside0.mk (below_step (by repeat (first | (with_reducible first | exact HB.out | apply below_alloc | apply pw_below_drewN | apply below_drew1 | refine below_set ?_ GE369.out | refine below_set ?_ GE370.out) | exact HB.out)) hb)
      clear HO0_1
      clear HO377
      clear HO382
      clear BK369
      clear BK370
      clear HB
      have HO0_1 := n0_
      have HO377 := n1_
      have HO382 := n2_
      have HO385 := n3_
      have BK369 := n4_
      have BK370 := n5_
      have HB := n6_
      clear n0_ n1_ n2_ n3_ n4_ n5_ n6_
      clear hb ho20
      obtain ⟨Ao21, co21, eo21⟩ := Kd.N_slice HO385.out
      (first | subst eo21 | (injection eo21 with f1_ f2_ f3_; have f4_ := f1_.symm; have f5_ := f3_.symm; clear f1_ f2_ f3_; subst f4_; subst f5_))
      refine hK.out _ _ ⟨(blk_cell BK369.out 0).trans rfl, (blk_cell BK369.out 1).trans rfl, (blk_cell BK369.out 2).trans rfl, (blk_cell BK369.out 3).trans rfl⟩ (fun hHeld => ?_)
      clear hK K
      refine norm_ (a' := ?_) ?_ ?_
      rotate_left
      ·show Act.put _ (some 26) _ = _
       simp only [Act.put, List.setIfInBounds_toArray, List.set_cons_zero, List.set_cons_succ, i64_w, i32_w]
       rfl
      refine one_ (i := 10) (N := some 27) #[true,true,true,true,true,true,true,true,true,true,true,false,false,false] rfl rfl (one_of HT_.out (by kernel_rfl)) (by decide) (fun K hK => ?_)
      refine goes_ Try.func82 (by kernel_rfl) rfl #[.slice Ao21 y383.length co21] (by rfl) rfl rfl (by (try simp only [List.map_toArray, List.map_cons, List.map_nil]); first | done | rfl | (simp only [List.length_drop, List.length_take]; rfl)) ?_
      with_reducible refine (slices_Concat_api_Cell_api_Cell.calls _ _ y383 t386 _ ?side1 ?side2 A10.out).mono ?_
      (case side1 => repeat (first | exact (Kd.N_reads' HO385.out).2.2 | (with_reducible refine Kd.C_alloc ?_ _) | (with_reducible refine Kd.C_drewN ?_ _) | (with_reducible refine Kd.C_drew ?_)))
      (case side2 => exact (Kd.N_reads' HO385.out).2.1)
      rintro e w22 ⟨v387, rfl, ho0, hb⟩
      refine ⟨_, rfl, ?_⟩
      have n0_ := Aside0.mk (Kd.V_elder' (by (with_reducible repeat (first | apply Kd.V_alloc | apply Kd.V_drewN | apply Kd.V_drew)); exact HO0_1.out) (Kd.R_base ho0) hb)
      have n1_ := Aside0.mk (Kd.V_elder' (by (with_reducible repeat (first | apply Kd.V_alloc | apply Kd.V_drewN | apply Kd.V_drew)); exact HO377.out) (Kd.R_base ho0) hb)
      have n2_ := Aside0.mk (Kd.V_elder' (by (with_reducible repeat (first | apply Kd.V_alloc | apply Kd.V_drewN | apply Kd.V_drew)); exact HO382.out) (Kd.R_base ho0) hb)
      have n3_ := Aside0.mk (Kd.N_elder' (by (with_reducible repeat (first | apply Kd.N_alloc | apply Kd.N_drewN | apply Kd.N_drew)); exact HO385.out) (Kd.R_base ho0) hb)
      have n4_ := Aside0.mk (Kd.R_lower (Kd.R_newM (M := fun k_ => (w.heap.size ≤ k_)) ho0 (below_size (by repeat (first | (with_reducible first | exact HB.out | apply below_alloc | apply pw_below_drewN | apply below_drew1 | refine below_set ?_ GE369.out | refine below_set ?_ GE370.out) | exact HB.out))) (fun k_ h_ => h_)) (below_size (by repeat (first | (with_reducible first | exact HB.out | apply below_alloc | apply pw_below_drewN | apply below_drew1 | refine below_set ?_ GE369.out | refine below_set ?_ GE370.out) | exact HB.out))))
      have n5_ := Aside0.mk (blk_below (g := gb369) (o := .cells #[.bool a0_0, .slice A0_1 l0_1.length c0_1, .slice A0_2 l0_2.length c0_2, .slice A0_3 l0_3.length c0_3] 26 (0, 0)) (by (with_reducible repeat (first | refine blk_drewN ?_ _ | refine blk_drew ?_ | refine blk_alloc ?_ _)); exact BK369.out) hb)
      have n6_ := Aside0.mk (blk_below (g := gb370) (o := .cells #[.bool false, .slice none 0 0, .slice none 0 0, .slice none 0 0] 26 (0, 0)) (by (with_reducible repeat (first | refine blk_drewN ?_ _ | refine blk_drew ?_ | refine blk_alloc ?_ _)); exact BK370.out) hb)
      have n7_ := Aside0.mk (below_step (by repeat (first | (with_reducible first | exact HB.out | apply below_alloc | apply pw_below_drewN | apply below_drew1 | refine below_set ?_ GE369.out | refine below_set ?_ GE370.out) | exact HB.out)) hb)
      clear HO0_1
      clear HO377
      clear HO382
      clear HO385
      clear BK369
      clear BK370
      clear HB
      have HO0_1 := n0_
      have HO377 := n1_
      have HO382 := n2_
      have HO385 := n3_
      have HO388 := n4_
      have BK369 := n5_
      have BK370 := n6_
      have HB := n7_
      clear n0_ n1_ n2_ n3_ n4_ n5_ n6_ n7_
      (try clear hb)
      (try clear hb2)
      (try clear hk)
      (try clear hi)
      (try clear ho0)
      obtain ⟨Ao23, co23, eo23⟩ := Kd.R_slice HO388.out
      (first | subst eo23 | (injection eo23 with f1_ f2_ f3_; have f4_ := f1_.symm; have f5_ := f3_.symm; clear f1_ f2_ f3_; subst f4_; subst f5_))
      refine hK.out _ _ ⟨(blk_cell BK369.out 0).trans rfl, (blk_cell BK369.out 1).trans rfl, (blk_cell BK369.out 2).trans rfl, (blk_cell BK369.out 3).trans rfl⟩ (fun hHeld => ?_)
      clear hK K
      refine norm_ (a' := ?_) ?_ ?_
      rotate_left
      ·show Act.put _ (some 27) _ = _
       simp only [Act.put, List.setIfInBounds_toArray, List.set_cons_zero, List.set_cons_succ, i64_w, i32_w]
       rfl
      refine pure_ (i := 11) (N := some 28) (v := ?_) (a' := ?_) #[true,true,true,true,true,true,true,true,true,true,true,true,false,false] rfl rfl (any_of HT_.out (by kernel_rfl)) (fun _ _ _ h => h) (Or.inl ⟨by rfl, ?_⟩) ?_ ?_
      rotate_left
      ·intro w'
       go_simp
       with_reducible rfl
      rotate_left
      ·simp only [Act.put, List.setIfInBounds_toArray, List.set_cons_zero, List.set_cons_succ, i64_w, i32_w]
       rfl
      refine one_ (i := 12) (N := none) #[true,true,true,true,true,true,true,true,true,true,true,true,true,false] rfl rfl (one_of HT_.out (by kernel_rfl)) (by decide) (fun K hK => ?_)
      have hs24 : w22.cell? ⟨gb370, 0, none⟩ = some (.bool false) := (blk_cell BK370.out 0).trans rfl
      have hfs24 := blk_frozen BK370.out 0
      have hns24_0 := NB369_370.out
      have hms24_0 := NB370_369.out
      have hs25 : w22.cell? ⟨gb370, 1, none⟩ = some (.slice none 0 0) := (blk_cell BK370.out 1).trans rfl
      have hfs25 := blk_frozen BK370.out 1
      have hns25_0 := NB369_370.out
      have hms25_0 := NB370_369.out
      have hs26 : w22.cell? ⟨gb370, 2, none⟩ = some (.slice none 0 0) := (blk_cell BK370.out 2).trans rfl
      have hfs26 := blk_frozen BK370.out 2
      have hns26_0 := NB369_370.out
      have hms26_0 := NB370_369.out
      have hs27 : w22.cell? ⟨gb370, 3, none⟩ = some (.slice none 0 0) := (blk_cell BK370.out 3).trans rfl
      have hfs27 := blk_frozen BK370.out 3
      have hns27_0 := NB369_370.out
      have hms27_0 := NB370_369.out
      refine skip_ (w1 := ?_) (by rfl) rfl ?_ ?_
      rotate_left
      ·go_simp
       rfl
      refine hK.out _ _ ⟨((cell_far (p := ⟨gb370, _, none⟩) NB369_370.out _).trans (((cell_far (p := ⟨gb370, _, none⟩) NB369_370.out _).trans (((cell_far (p := ⟨gb370, _, none⟩) NB369_370.out _).trans (((cell_far (p := ⟨gb370, _, none⟩) NB369_370.out _).trans (hHeld.1)))))))), ((cell_far (p := ⟨gb370, _, none⟩) NB369_370.out _).trans (((cell_far (p := ⟨gb370, _, none⟩) NB369_370.out _).trans (((cell_far (p := ⟨gb370, _, none⟩) NB369_370.out _).trans (((cell_far (p := ⟨gb370, _, none⟩) NB369_370.out _).trans (hHeld.2.1)))))))), ((cell_far (p := ⟨gb370, _, none⟩) NB369_370.out _).trans (((cell_far (p := ⟨gb370, _, none⟩) NB369_370.out _).trans (((cell_far (p := ⟨gb370, _, none⟩) NB369_370.out _).trans (((cell_far (p := ⟨gb370, _, none⟩) NB369_370.out _).trans (hHeld.2.2.1)))))))), ((cell_far (p := ⟨gb370, _, none⟩) NB369_370.out _).trans (((cell_far (p := ⟨gb370, _, none⟩) NB369_370.out _).trans (((cell_far (p := ⟨gb370, _, none⟩) NB369_370.out _).trans (((cell_far (p := ⟨gb370, _, none⟩) NB369_370.out _).trans (hHeld.2.2.2))))))))⟩ (fun hHeld => ?_)
      clear hK K
      refine pure_ (i := 13) (N := some 5) (v := ?_) (a' := ?_) #[true,true,true,true,true,true,true,true,true,true,true,true,true,true] rfl rfl (any_of HT_.out (by kernel_rfl)) (fun _ _ _ h => h) (Or.inl ⟨by rfl, ?_⟩) ?_ ?_
      rotate_left
      ·intro w'
       go_simp
       with_reducible rfl
      rotate_left
      ·simp only [Act.put, List.setIfInBounds_toArray, List.set_cons_zero, List.set_cons_succ, i64_w, i32_w]
       rfl
      refine done_ (done_of HT_.out (by kernel_rfl)) ?_
      try go_wp2
      refine bodyPost_ret (results_ct rfl _ _ gb370 26 #[.bool true, .slice Ao23 t386.length co23, .slice none 0 0, .slice none 0 0] (0, 0) _ rfl (by (with_reducible repeat (first | refine blk_drewN ?_ _ | refine blk_drew ?_ | refine blk_alloc ?_ _)); refine blk_put (cs := #[.bool true, .slice Ao23 t386.length co23, .slice none 0 0, .slice none 0 0]) ?_ 3 _ rfl; (with_reducible repeat (first | refine blk_drewN ?_ _ | refine blk_drew ?_ | refine blk_alloc ?_ _)); refine blk_put (cs := #[.bool true, .slice Ao23 t386.length co23, .slice none 0 0, .slice none 0 0]) ?_ 2 _ rfl; (with_reducible repeat (first | refine blk_drewN ?_ _ | refine blk_drew ?_ | refine blk_alloc ?_ _)); refine blk_put (cs := #[.bool true, .slice none 0 0, .slice none 0 0, .slice none 0 0]) ?_ 1 _ rfl; (with_reducible repeat (first | refine blk_drewN ?_ _ | refine blk_drew ?_ | refine blk_alloc ?_ _)); refine blk_put (cs := #[.bool false, .slice none 0 0, .slice none 0 0, .slice none 0 0]) ?_ 0 _ rfl; (with_reducible repeat (first | refine blk_drewN ?_ _ | refine blk_drew ?_ | refine blk_alloc ?_ _)); exact BK370.out) Try.underlying26 rfl (by kernel_rfl)) rfl ?_
      exact ⟨_, _, _, by first | rfl | (simp [errW_none, errW_some] <;> rfl) | (simp only [← hji7]; first | rfl | (simp [errW_none, errW_some] <;> rfl)) | (simp [*, errW_none, errW_some] <;> rfl), by (with_reducible repeat (first | apply Kd.R_alloc | apply Kd.R_drewN | apply Kd.R_drew)); exact Kd.R_mono (Kd.R_far (p := ⟨gb370, 3, none⟩) (Kd.R_far (p := ⟨gb370, 2, none⟩) (Kd.R_far (p := ⟨gb370, 1, none⟩) (Kd.R_far (p := ⟨gb370, 0, none⟩) (Kd.R_types HO388.out BK370.out (by decide)) (fun _ hk => hk.2) (.bool true)) (fun _ hk => hk.2) (.slice Ao23 t386.length co23)) (fun _ hk => hk.2) (.slice none 0 0)) (fun _ hk => hk.2) (.slice none 0 0)) (fun _ hk => hk.1.1), by first | exact Kd.R_nil _ _ _ _ _ | exact Kd.N_nil _ _ _ _ _ | exact Kd.V_nil _ _ _ _ _ | exact Kd.Q_nil _ _ _ _ _ | exact Kd.S_nil _ _ _ _ _, by first | exact Kd.R_nil _ _ _ _ _ | exact Kd.N_nil _ _ _ _ _ | exact Kd.V_nil _ _ _ _ _ | exact Kd.Q_nil _ _ _ _ _ | exact Kd.S_nil _ _ _ _ _, by repeat (first | (with_reducible first | exact HB.out | apply below_alloc | apply pw_below_drewN | apply below_drew1 | refine below_set ?_ GE369.out | refine below_set ?_ GE370.out) | exact HB.out)⟩
     ·rw [if_neg c9] at H
      exact absurd H (by simp)
    ·rw [if_neg c8] at H
     exact absurd H (by simp)
   ·rw [if_neg c6] at H
    exact absurd H (by simp)
  ·rw [if_neg c5] at H
   exact absurd H (by simp)
 ·replace c4 := Bool.eq_false_iff.mpr c4
  subst c4
  have H1 : (some (false, ([] : List (S66)), ([] : List ByteArray), ([] : List Int), false)) = some (r1, r2, r3, r4, r5) := by rw [if_neg (show ¬ (false = true) by decide)] at H; exact H
  clear H
  have H := H1
  clear H1
  simp only [Option.some.injEq, Prod.mk.injEq] at H
  obtain ⟨rfl, rfl, rfl, rfl, rfl⟩ := H
  go_enter Try.func55, Try.ntmps55
  go_wp2_with (first | ((with_reducible refine gate_dst (N := 2) rfl ?_); refine box_event ?hg (N := 2) ?hd (cs := #[.bool a0_0, .slice A0_1 l0_1.length c0_1, .slice A0_2 l0_2.length c0_2, .slice A0_3 l0_3.length c0_3]) (t := 26) ?hr ?_; (case hd => rfl); (case hg => rfl); (case hr => first | (go_simp; done) | (go_simp; rfl)); intro gb369 hg w28 hbox hb; have n0_ := Aside0.mk (Kd.V_below (Kd.V_elderB (by (with_reducible repeat (first | apply Kd.V_alloc | apply Kd.V_drewN | apply Kd.V_drew)); exact HO0_1.out) gb369 (Nat.le_of_eq hg.symm)) hb); have n1_ := Aside0.mk (below_step (by repeat (first | (with_reducible first | exact HB.out | apply below_alloc | apply pw_below_drewN | apply below_drew1) | exact HB.out)) hb); have n2_ := Aside0.mk (hbox); have n3_ := Aside0.mk ((by rw [hg]; exact (below_size (by repeat (first | (with_reducible first | exact HB.out | apply below_alloc | apply pw_below_drewN | apply below_drew1) | exact HB.out))) : w.heap.size ≤ gb369)); have n4_ := Aside0.mk ((by rw [hg]; exact (below_size (by repeat (first | (with_reducible first | exact HB.out | apply below_alloc | apply pw_below_drewN | apply below_drew1) | exact HB.out))) : w.heap.size ≤ gb369)); clear HO0_1; clear HB; have HO0_1 := n0_; have HB := n1_; have BK369 := n2_; have GW369 := n3_; have GE369 := n4_; clear n0_ n1_ n2_ n3_ n4_; clear hb hbox hg) | ((with_reducible refine gate_dst (N := 4) rfl ?_); refine box_event ?hg (N := 4) ?hd (cs := #[.bool false, .slice none 0 0, .slice none 0 0, .slice none 0 0]) (t := 26) ?hr ?_; (case hd => rfl); (case hg => rfl); (case hr => first | (go_simp; done) | (go_simp; rfl)); intro gb370 hg w29 hbox hb; have n0_ := Aside0.mk (Kd.V_below (Kd.V_elderB (by (with_reducible repeat (first | apply Kd.V_alloc | apply Kd.V_drewN | apply Kd.V_drew)); exact HO0_1.out) gb370 (Nat.le_of_eq hg.symm)) hb); have n1_ := Aside0.mk (blk_below (g := gb369) (o := .cells #[.bool a0_0, .slice A0_1 l0_1.length c0_1, .slice A0_2 l0_2.length c0_2, .slice A0_3 l0_3.length c0_3] 26 (0, 0)) (by (with_reducible repeat (first | refine blk_drewN ?_ _ | refine blk_drew ?_ | refine blk_alloc ?_ _)); exact BK369.out) hb); have n2_ := Aside0.mk (below_step (by repeat (first | (with_reducible first | exact HB.out | apply below_alloc | apply pw_below_drewN | apply below_drew1 | refine below_set ?_ GE369.out) | exact HB.out)) hb); have n3_ := Aside0.mk (hbox); have n4_ := Aside0.mk ((by rw [hg]; exact (below_size (by repeat (first | (with_reducible first | exact HB.out | apply below_alloc | apply pw_below_drewN | apply below_drew1 | refine below_set ?_ GE369.out) | exact HB.out))) : w.heap.size ≤ gb370)); have n5_ := Aside0.mk ((by rw [hg]; exact (below_size (by repeat (first | (with_reducible first | exact HB.out | apply below_alloc | apply pw_below_drewN | apply below_drew1 | refine below_set ?_ GE369.out) | exact HB.out))) : w.heap.size ≤ gb370)); have n6_ := Aside0.mk ((by rw [hg]; exact Nat.ne_of_lt (blk_lt (g := gb369) (o := .cells #[.bool a0_0, .slice A0_1 l0_1.length c0_1, .slice A0_2 l0_2.length c0_2, .slice A0_3 l0_3.length c0_3] 26 (0, 0)) (by (with_reducible repeat (first | refine blk_drewN ?_ _ | refine blk_drew ?_ | refine blk_alloc ?_ _)); exact BK369.out)) : gb369 ≠ gb370)); have n7_ := Aside0.mk ((by rw [hg]; exact Nat.ne_of_gt (blk_lt (g := gb369) (o := .cells #[.bool a0_0, .slice A0_1 l0_1.length c0_1, .slice A0_2 l0_2.length c0_2, .slice A0_3 l0_3.length c0_3] 26 (0, 0)) (by (with_reducible repeat (first | refine blk_drewN ?_ _ | refine blk_drew ?_ | refine blk_alloc ?_ _)); exact BK369.out)) : gb370 ≠ gb369)); clear HO0_1; clear BK369; clear HB; have HO0_1 := n0_; have BK369 := n1_; have HB := n2_; have BK370 := n3_; have GW370 := n4_; have GE370 := n5_; have NB369_370 := n6_; have NB370_369 := n7_; clear n0_ n1_ n2_ n3_ n4_ n5_ n6_ n7_; clear hb hbox hg; have hnb30 := NB369_370.out; have hnc30 := NB370_369.out; have hcz31_0 : w29.cell? ⟨gb369, 0, none⟩ = some (.bool a0_0) := (blk_cell BK369.out 0).trans rfl; have hcz31_1 : w29.cell? ⟨gb369, 1, none⟩ = some (.slice A0_1 l0_1.length c0_1) := (blk_cell BK369.out 1).trans rfl; have hcz31_2 : w29.cell? ⟨gb369, 2, none⟩ = some (.slice A0_2 l0_2.length c0_2) := (blk_cell BK369.out 2).trans rfl; have hcz31_3 : w29.cell? ⟨gb369, 3, none⟩ = some (.slice A0_3 l0_3.length c0_3) := (blk_cell BK369.out 3).trans rfl; have hfz31_0 := blk_frozen BK369.out 0; have hfz31_1 := blk_frozen BK369.out 1; have hfz31_2 := blk_frozen BK369.out 2; have hfz31_3 := blk_frozen BK369.out 3) | ((with_reducible refine gate_callee (f := 17) rfl ?_); refine goesL_ (some 11) rfl rfl Try.func17 (by kernel_rfl) rfl #[.agg #[.bool a0_0, .slice A0_1 l0_1.length c0_1, .slice A0_2 l0_2.length c0_2, .slice A0_3 l0_3.length c0_3], .string a1] rfl (by (try simp only [List.map_toArray, List.map_cons, List.map_nil]); first | done | rfl | (simp only [List.length_drop, List.length_take]; rfl)) ?_; (with_reducible refine (node_Find.calls k a0_0 _ _ l0_1 _ _ l0_2 _ _ l0_3 a1 t371 false _ ?side1 ?side2 ?side3 ?side4 ?side5 ?side6 A3.out).mono ?_); (case side1 => repeat (first | exact (Kd.V_reads' HO0_1.out).2.2 | (with_reducible refine Kd.C_alloc ?_ _) | (with_reducible refine Kd.C_drewN ?_ _) | (with_reducible refine Kd.C_drew ?_))); (case side2 => exact (Kd.V_reads' HO0_1.out).2.1); (case side3 => repeat (first | exact (Kd.C_below HR0_2.out HB.out) | (with_reducible refine Kd.C_alloc ?_ _) | (with_reducible refine Kd.C_drewN ?_ _) | (with_reducible refine Kd.C_drew ?_))); (case side4 => exact HC0_2.out); (case side5 => repeat (first | exact (Kd.C_below HR0_3.out HB.out) | (with_reducible refine Kd.C_alloc ?_ _) | (with_reducible refine Kd.C_drewN ?_ _) | (with_reducible refine Kd.C_drew ?_))); (case side6 => exact HC0_3.out); rintro e w32 ⟨rfl, hb⟩; refine ⟨_, rfl, ?_⟩; have n0_ := Aside0.mk (Kd.V_below (by (with_reducible repeat (first | apply Kd.V_alloc | apply Kd.V_drewN | apply Kd.V_drew)); exact HO0_1.out) hb); have n1_ := Aside0.mk (blk_below (g := gb369) (o := .cells #[.bool a0_0, .slice A0_1 l0_1.length c0_1, .slice A0_2 l0_2.length c0_2, .slice A0_3 l0_3.length c0_3] 26 (0, 0)) (by (with_reducible repeat (first | refine blk_drewN ?_ _ | refine blk_drew ?_ | refine blk_alloc ?_ _)); exact BK369.out) hb); have n2_ := Aside0.mk (blk_below (g := gb370) (o := .cells #[.bool false, .slice none 0 0, .slice none 0 0, .slice none 0 0] 26 (0, 0)) (by (with_reducible repeat (first | refine blk_drewN ?_ _ | refine blk_drew ?_ | refine blk_alloc ?_ _)); exact BK370.out) hb); have n3_ := Aside0.mk (below_step (by repeat (first | (with_reducible first | exact HB.out | apply below_alloc | apply pw_below_drewN | apply below_drew1 | refine below_set ?_ GE369.out | refine below_set ?_ GE370.out) | exact HB.out)) hb); clear HO0_1; clear BK369; clear BK370; clear HB; have HO0_1 := n0_; have BK369 := n1_; have BK370 := n2_; have HB := n3_; clear n0_ n1_ n2_ n3_; (try clear hb); (try clear hb2); (try clear hk); (try clear hi); have hcz33_0 : w32.cell? ⟨gb370, 0, none⟩ = some (.bool false) := (blk_cell BK370.out 0).trans rfl; have hcz33_1 : w32.cell? ⟨gb370, 1, none⟩ = some (.slice none 0 0) := (blk_cell BK370.out 1).trans rfl; have hcz33_2 : w32.cell? ⟨gb370, 2, none⟩ = some (.slice none 0 0) := (blk_cell BK370.out 2).trans rfl; have hcz33_3 : w32.cell? ⟨gb370, 3, none⟩ = some (.slice none 0 0) := (blk_cell BK370.out 3).trans rfl; have hfz33_0 := blk_frozen BK370.out 0; have hfz33_1 := blk_frozen BK370.out 1; have hfz33_2 := blk_frozen BK370.out 2; have hfz33_3 := blk_frozen BK370.out 3))
  refine bodyPost_ret (results_ct rfl _ _ gb370 26 #[.bool false, .slice none 0 0, .slice none 0 0, .slice none 0 0] (0, 0) _ rfl (by (with_reducible repeat (first | refine blk_drewN ?_ _ | refine blk_drew ?_ | refine blk_alloc ?_ _)); refine blk_put (cs := #[.bool false, .slice none 0 0, .slice none 0 0, .slice none 0 0]) ?_ 3 _ rfl; (with_reducible repeat (first | refine blk_drewN ?_ _ | refine blk_drew ?_ | refine blk_alloc ?_ _)); refine blk_put (cs := #[.bool false, .slice none 0 0, .slice none 0 0, .slice none 0 0]) ?_ 2 _ rfl; (with_reducible repeat (first | refine blk_drewN ?_ _ | refine blk_drew ?_ | refine blk_alloc ?_ _)); refine blk_put (cs := #[.bool false, .slice none 0 0, .slice none 0 0, .slice none 0 0]) ?_ 1 _ rfl; (with_reducible repeat (first | refine blk_drewN ?_ _ | refine blk_drew ?_ | refine blk_alloc ?_ _)); refine blk_put (cs := #[.bool false, .slice none 0 0, .slice none 0 0, .slice none 0 0]) ?_ 0 _ rfl; (with_reducible repeat (first | refine blk_drewN ?_ _ | refine blk_drew ?_ | refine blk_alloc ?_ _)); exact BK370.out) Try.underlying26 rfl (by kernel_rfl)) rfl ?_
  exact ⟨_, _, _, by first | rfl | (simp [errW_none, errW_some] <;> rfl) | (simp [*, errW_none, errW_some] <;> rfl), by first | exact Kd.R_nil _ _ _ _ _ | exact Kd.N_nil _ _ _ _ _ | exact Kd.V_nil _ _ _ _ _ | exact Kd.Q_nil _ _ _ _ _ | exact Kd.S_nil _ _ _ _ _, by first | exact Kd.R_nil _ _ _ _ _ | exact Kd.N_nil _ _ _ _ _ | exact Kd.V_nil _ _ _ _ _ | exact Kd.Q_nil _ _ _ _ _ | exact Kd.S_nil _ _ _ _ _, by first | exact Kd.R_nil _ _ _ _ _ | exact Kd.N_nil _ _ _ _ _ | exact Kd.V_nil _ _ _ _ _ | exact Kd.Q_nil _ _ _ _ _ | exact Kd.S_nil _ _ _ _ _, by repeat (first | (with_reducible first | exact HB.out | apply below_alloc | apply pw_below_drewN | apply below_drew1 | refine below_set ?_ GE369.out | refine below_set ?_ GE370.out) | exact HB.out)⟩

end Go.Proofs.Ytdjjpgdhnoibkaa.PD
namespace Go.Proofs.Ytdjjpgdhnoibkaa.PR
open Go.Proofs.Ytdjjpgdhnoibkaa.PZ
open Go.Proofs.Ytdjjpgdhnoibkaa.My
attribute [local go_sem high] conv_rune str_leq str_gtr
open Go.RowKit Go.Proofs.YtdjjpgdhnoibkaaW.PrintWords Go.Proofs.YtdjjpgdhnoibkaaW.PrintLast Go.Proofs.YtdjjpgdhnoibkaaW.PrintMore
attribute [local go_sem] max2_int min2_int max_two min_two max_three min_three max_four min_four   -- for this text's walks alone
set_option linter.unusedVariables false
set_option linter.unusedSimpArgs false
/-! ### concordref08_leaf: function 76 -/
def concordref08_leaf.f (l0 : List (S66)) : Option (Bool × (List (S66)) × List ByteArray × List Int) := some (true, l0, ([] : List ByteArray), ([] : List Int))
set_option maxHeartbeats 8000000 in
set_option maxRecDepth 100000 in
theorem concordref08_leaf.calls (P0_ : Nat → Prop) (u9000_ : Value) (l0 : List (S66)) (r1 : Bool) (r2 : List (S66)) (r3 : List ByteArray) (r4 : List Int) (w0 w : World) (hB : Below w0.heap.size w0 w) (ho0 : Kd.R k66 66 w w0.heap.size P0_ u9000_ l0) (h : concordref08_leaf.f l0 = some (r1, r2, r3, r4)) :
  Calls Try.prog 76 #[u9000_] w fun e w' => ∃ v1_ v2_ v3_ : Value, e = .returned (.agg #[.bool r1, v1_, v2_, v3_]) ∧ Kd.R k66 66 w' w0.heap.size (fun k_ => (P0_ k_ ∨ w.heap.size ≤ k_)) v1_ r2 ∧ Kd.R Kd.string 9 w' w0.heap.size (fun k_ => (P0_ k_ ∨ w.heap.size ≤ k_)) v2_ r3 ∧ Kd.R (Kd.int .u32) 45 w' w0.heap.size (fun k_ => (P0_ k_ ∨ w.heap.size ≤ k_)) v3_ r4 ∧ Below w0.heap.size w0 w' ∧ Kept w w' (fun k_ => P0_ k_) := by
 have hu26 := Try.underlying26
 have HO0 := Aside0.mk (show Kd.R k66 66 w w0.heap.size (fun k_ => (P0_ k_ ∨ w.heap.size ≤ k_)) u9000_ l0 from Kd.R_mono ho0 (fun k_ hk => (.inl hk)))
 have HK := Aside0.mk (Kept.refl w (fun k_ => P0_ k_))
 have HW0 := Aside0.mk hB.size
 have HB := Aside0.mk hB
 clear hB
 have H : (some (true, l0, ([] : List ByteArray), ([] : List Int))) = some (r1, r2, r3, r4) := h
 clear h
 simp only [Option.some.injEq, Prod.mk.injEq] at H
 obtain ⟨rfl, rfl, rfl, rfl⟩ := H
 go_enter Try.func76, Try.ntmps76
 go_wp2_with (first | ((with_reducible refine gate_dst (N := 2) rfl ?_); refine box_event ?hg (N := 2) ?hd (cs := #[.bool false, .slice none 0 0, .slice none 0 0, .slice none 0 0]) (t := 26) ?hr ?_; (case hd => rfl); (case hg => rfl); (case hr => first | (go_simp; done) | (go_simp; rfl)); intro gb136 hg w2 hbox hb; have n0_ := Aside0.mk (Kd.R_below (by (with_reducible repeat (first | apply Kd.R_alloc | apply Kd.R_drewN | apply Kd.R_drew)); exact HO0.out) hb); have n1_ := Aside0.mk (Kept.below (S := (fun k_ => P0_ k_)) (by repeat (first | (with_reducible first | exact HK.out | apply Kept.alloc | apply Kept.drewN | apply Kept.drew) | exact HK.out)) hb); have n2_ := Aside0.mk (below_step (by repeat (first | (with_reducible first | exact HB.out | apply below_alloc | apply pw_below_drewN | apply below_drew1) | exact HB.out)) hb); have n3_ := Aside0.mk (hbox); have n4_ := Aside0.mk ((by rw [hg]; exact (by first | exact HK.out.1 | exact (show Kept w _ (fun k_ => P0_ k_) from by repeat (first | (with_reducible first | exact HK.out | apply Kept.alloc | apply Kept.drewN | apply Kept.drew) | exact HK.out)).1) : w.heap.size ≤ gb136)); have n5_ := Aside0.mk ((by rw [hg]; exact (below_size (by repeat (first | (with_reducible first | exact HB.out | apply below_alloc | apply pw_below_drewN | apply below_drew1) | exact HB.out))) : w0.heap.size ≤ gb136)); clear HO0; clear HK; clear HB; have HO0 := n0_; have HK := n1_; have HB := n2_; have BK136 := n3_; have GW136 := n4_; have GE136 := n5_; clear n0_ n1_ n2_ n3_ n4_ n5_; clear hb hbox hg; obtain ⟨Ao3, co3, eo3⟩ := Kd.R_slice HO0.out; subst eo3; have hcz4_0 : w2.cell? ⟨gb136, 0, none⟩ = some (.bool false) := (blk_cell BK136.out 0).trans rfl; have hcz4_1 : w2.cell? ⟨gb136, 1, none⟩ = some (.slice none 0 0) := (blk_cell BK136.out 1).trans rfl; have hcz4_2 : w2.cell? ⟨gb136, 2, none⟩ = some (.slice none 0 0) := (blk_cell BK136.out 2).trans rfl; have hcz4_3 : w2.cell? ⟨gb136, 3, none⟩ = some (.slice none 0 0) := (blk_cell BK136.out 3).trans rfl; have hfz4_0 := blk_frozen BK136.out 0; have hfz4_1 := blk_frozen BK136.out 1; have hfz4_2 := blk_frozen BK136.out 2; have hfz4_3 := blk_frozen BK136.out 3))
 refine bodyPost_ret (results_cell_row rfl _ _ gb136 26 #[.bool true, .slice Ao3 l0.length co3, .slice none 0 0, .slice none 0 0] (0, 0) _ rfl (by (with_reducible repeat (first | refine blk_drewN ?_ _ | refine blk_drew ?_ | refine blk_alloc ?_ _)); refine blk_put (cs := #[.bool true, .slice Ao3 l0.length co3, .slice none 0 0, .slice none 0 0]) ?_ 3 _ rfl; (with_reducible repeat (first | refine blk_drewN ?_ _ | refine blk_drew ?_ | refine blk_alloc ?_ _)); refine blk_put (cs := #[.bool true, .slice Ao3 l0.length co3, .slice none 0 0, .slice none 0 0]) ?_ 2 _ rfl; (with_reducible repeat (first | refine blk_drewN ?_ _ | refine blk_drew ?_ | refine blk_alloc ?_ _)); refine blk_put (cs := #[.bool true, .slice none 0 0, .slice none 0 0, .slice none 0 0]) ?_ 1 _ rfl; (with_reducible repeat (first | refine blk_drewN ?_ _ | refine blk_drew ?_ | refine blk_alloc ?_ _)); refine blk_put (cs := #[.bool false, .slice none 0 0, .slice none 0 0, .slice none 0 0]) ?_ 0 _ rfl; (with_reducible repeat (first | refine blk_drewN ?_ _ | refine blk_drew ?_ | refine blk_alloc ?_ _)); exact BK136.out) Try.underlying26 rfl (by kernel_rfl)) rfl ?_
 exact ⟨_, _, _, by first | rfl | (simp [errW_none, errW_some] <;> rfl) | (simp [*, errW_none, errW_some] <;> rfl), by (with_reducible repeat (first | apply Kd.R_alloc | apply Kd.R_drewN | apply Kd.R_drew)); exact Kd.R_mono (Kd.R_far (p := ⟨gb136, 3, none⟩) (Kd.R_far (p := ⟨gb136, 2, none⟩) (Kd.R_far (p := ⟨gb136, 1, none⟩) (Kd.R_far (p := ⟨gb136, 0, none⟩) (Kd.R_types HO0.out BK136.out (by decide)) (fun _ hk => hk.2) (.bool true)) (fun _ hk => hk.2) (.slice Ao3 l0.length co3)) (fun _ hk => hk.2) (.slice none 0 0)) (fun _ hk => hk.2) (.slice none 0 0)) (fun _ hk => hk.1), by first | exact Kd.R_nil _ _ _ _ _ | exact Kd.N_nil _ _ _ _ _ | exact Kd.V_nil _ _ _ _ _ | exact Kd.Q_nil _ _ _ _ _ | exact Kd.S_nil _ _ _ _ _, by first | exact Kd.R_nil _ _ _ _ _ | exact Kd.N_nil _ _ _ _ _ | exact Kd.V_nil _ _ _ _ _ | exact Kd.Q_nil _ _ _ _ _ | exact Kd.S_nil _ _ _ _ _, by repeat (first | (with_reducible first | exact HB.out | apply below_alloc | apply pw_below_drewN | apply below_drew1 | refine below_set ?_ GE136.out) | exact HB.out), by repeat (first | (with_reducible first | exact HK.out | apply Kept.alloc | apply Kept.drewN | apply Kept.drew | refine Kept.setCell ?_ (.inr GW136.out) _) | exact HK.out)⟩

-- NOT PRINTED: function 52 (concordref08_Put)
/-! ### concordref08_Take: function 57 -/
def concordref08_Take.l0 : Nat → ByteArray → List (S66) → Int → Bool → List (S66) → List ByteArray → List Int → Option (Bool × (List (S66)) × List ByteArray × List Int × Bool)
 | 0, _, _, _, _, _, _, _ => none
 | k + 1, x1, x8, x9, x176000, x176001, x176002, x176003 => if x9 < (x176001.length : Int) then (if 0 ≤ x9 then (if ((rd_T66 x176001 x9).f0).toList = x1.toList then (concordref08_Take.l0 k x1 x8 (wrap64 (x9 + 1)) x176000 x176001 x176002 x176003) else (if x8.length < 4398046511104 then (concordref08_Take.l0 k x1 (x8 ++ [(⟨(rd_T66 x176001 x9).f0, (rd_T66 x176001 x9).f1⟩ : S66)]) (wrap64 (x9 + 1)) x176000 x176001 x176002 x176003) else (none))) else (none)) else ((concordref08_leaf.f x8).bind fun bt184 => (some (bt184.1, bt184.2.1, bt184.2.2.1, bt184.2.2.2, true)))
def concordref08_Take.f (k : Nat) (a0_0 : Bool) (l0_1 : List (S66)) (l0_2 : List ByteArray) (l0_3 : List Int) (a1 : ByteArray) : Option (Bool × (List (S66)) × List ByteArray × List Int × Bool) := (concordref08_Find.f k a0_0 l0_1 l0_2 l0_3 a1).bind fun bt177 => (if bt177.2 = true then (concordref08_Take.l0 k a1 ([] : List (S66)) 0 a0_0 l0_1 l0_2 l0_3) else (some (false, ([] : List (S66)), ([] : List ByteArray), ([] : List Int), false)))
set_option maxHeartbeats 8000000 in
set_option maxRecDepth 100000 in
theorem concordref08_Take.calls (k : Nat) (a0_0 : Bool) (A0_1 : Option Addr) (c0_1 : Nat) (l0_1 : List (S66)) (A0_2 : Option Addr) (c0_2 : Nat) (l0_2 : List ByteArray) (A0_3 : Option Addr) (c0_3 : Nat) (l0_3 : List Int) (a1 : ByteArray) (r1 : Bool) (r2 : List (S66)) (r3 : List ByteArray) (r4 : List Int) (r5 : Bool) (w : World) (hr0_1 : Kd.C k66 w A0_1 l0_1.length l0_1) (hc0_1 : l0_1.length ≤ c0_1) (hr0_2 : Kd.C Kd.string w A0_2 l0_2.length l0_2) (hc0_2 : l0_2.length ≤ c0_2) (hr0_3 : Kd.C (Kd.int .u32) w A0_3 l0_3.length l0_3) (hc0_3 : l0_3.length ≤ c0_3) (h : concordref08_Take.f k a0_0 l0_1 l0_2 l0_3 a1 = some (r1, r2, r3, r4, r5)) :
  Calls Try.prog 57 #[.agg #[.bool a0_0, .slice A0_1 l0_1.length c0_1, .slice A0_2 l0_2.length c0_2, .slice A0_3 l0_3.length c0_3], .string a1] w fun e w' => ∃ v1_ v2_ v3_ : Value, e = .returned (.tuple #[.agg #[.bool r1, v1_, v2_, v3_], .bool r5]) ∧ Kd.R k66 66 w' w.heap.size (fun _ => True) v1_ r2 ∧ Kd.R Kd.string 9 w' w.heap.size (fun _ => True) v2_ r3 ∧ Kd.R (Kd.int .u32) 45 w' w.heap.size (fun _ => True) v3_ r4 ∧ Below w.heap.size w w' := by
 have hu26 := Try.underlying26
 have hu66 := Try.underlying66
 have HR0_1 := Aside0.mk hr0_1
 have HC0_1 := Aside0.mk hc0_1
 clear hr0_1 hc0_1
 have HR0_2 := Aside0.mk hr0_2
 have HC0_2 := Aside0.mk hc0_2
 clear hr0_2 hc0_2
 have HR0_3 := Aside0.mk hr0_3
 have HC0_3 := Aside0.mk hc0_3
 clear hr0_3 hc0_3
 have HB := Aside0.mk (Below.refl w.heap.size w)
 have H : ((concordref08_Find.f k a0_0 l0_1 l0_2 l0_3 a1).bind fun bt177 => (if bt177.2 = true then (concordref08_Take.l0 k a1 ([] : List (S66)) 0 a0_0 l0_1 l0_2 l0_3) else (some (false, ([] : List (S66)), ([] : List ByteArray), ([] : List Int), false)))) = some (r1, r2, r3, r4, r5) := h
 clear h
 replace H := Option.bind_eq_some_iff.mp H
 obtain ⟨⟨t177, t178⟩, A30, H⟩ := H
 replace H : (if t178 = true then (concordref08_Take.l0 k a1 ([] : List (S66)) 0 a0_0 l0_1 l0_2 l0_3) else (some (false, ([] : List (S66)), ([] : List ByteArray), ([] : List Int), false))) = some (r1, r2, r3, r4, r5) := H
 have A3 := Aside0.mk A30
 clear A30
 by_cases c4 : t178 = true
 ·subst c4
  have H1 : (concordref08_Take.l0 k a1 ([] : List (S66)) 0 a0_0 l0_1 l0_2 l0_3) = some (r1, r2, r3, r4, r5) := by rw [if_pos rfl] at H; exact H
  clear H
  have H := H1
  clear H1
  have H' := Aside0.mk H
  clear H
  go_enter Try.func57, Try.ntmps57
  go_wp2_with (first | ((with_reducible refine gate_dst (N := 2) rfl ?_); refine box_event ?hg (N := 2) ?hd (cs := #[.bool a0_0, .slice A0_1 l0_1.length c0_1, .slice A0_2 l0_2.length c0_2, .slice A0_3 l0_3.length c0_3]) (t := 26) ?hr ?_; (case hd => rfl); (case hg => rfl); (case hr => first | (go_simp; done) | (go_simp; rfl)); intro gb175 hg w5 hbox hb; have n0_ := Aside0.mk (below_step (by repeat (first | (with_reducible first | exact HB.out | apply below_alloc | apply pw_below_drewN | apply below_drew1) | exact HB.out)) hb); have n1_ := Aside0.mk (hbox); have n2_ := Aside0.mk ((by rw [hg]; exact (below_size (by repeat (first | (with_reducible first | exact HB.out | apply below_alloc | apply pw_below_drewN | apply below_drew1) | exact HB.out))) : w.heap.size ≤ gb175)); have n3_ := Aside0.mk ((by rw [hg]; exact (below_size (by repeat (first | (with_reducible first | exact HB.out | apply below_alloc | apply pw_below_drewN | apply below_drew1) | exact HB.out))) : w.heap.size ≤ gb175)); clear HB; have HB := n0_; have BK175 := n1_; have GW175 := n2_; have GE175 := n3_; clear n0_ n1_ n2_ n3_; clear hb hbox hg) | ((with_reducible refine gate_dst (N := 4) rfl ?_); refine box_event ?hg (N := 4) ?hd (cs := #[.bool false, .slice none 0 0, .slice none 0 0, .slice none 0 0]) (t := 26) ?hr ?_; (case hd => rfl); (case hg => rfl); (case hr => first | (go_simp; done) | (go_simp; rfl)); intro gb176 hg w6 hbox hb; have n0_ := Aside0.mk (blk_below (g := gb175) (o := .cells #[.bool a0_0, .slice A0_1 l0_1.length c0_1, .slice A0_2 l0_2.length c0_2, .slice A0_3 l0_3.length c0_3] 26 (0, 0)) (by (with_reducible repeat (first | refine blk_drewN ?_ _ | refine blk_drew ?_ | refine blk_alloc ?_ _)); exact BK175.out) hb); have n1_ := Aside0.mk (below_step (by repeat (first | (with_reducible first | exact HB.out | apply below_alloc | apply pw_below_drewN | apply below_drew1 | refine below_set ?_ GE175.out) | exact HB.out)) hb); have n2_ := Aside0.mk (hbox); have n3_ := Aside0.mk ((by rw [hg]; exact (below_size (by repeat (first | (with_reducible first | exact HB.out | apply below_alloc | apply pw_below_drewN | apply below_drew1 | refine below_set ?_ GE175.out) | exact HB.out))) : w.heap.size ≤ gb176)); have n4_ := Aside0.mk ((by rw [hg]; exact (below_size (by repeat (first | (with_reducible first | exact HB.out | apply below_alloc | apply pw_below_drewN | apply below_drew1 | refine below_set ?_ GE175.out) | exact HB.out))) : w.heap.size ≤ gb176)); have n5_ := Aside0.mk ((by rw [hg]; exact Nat.ne_of_lt (blk_lt (g := gb175) (o := .cells #[.bool a0_0, .slice A0_1 l0_1.length c0_1, .slice A0_2 l0_2.length c0_2, .slice A0_3 l0_3.length c0_3] 26 (0, 0)) (by (with_reducible repeat (first | refine blk_drewN ?_ _ | refine blk_drew ?_ | refine blk_alloc ?_ _)); exact BK175.out)) : gb175 ≠ gb176)); have n6_ := Aside0.mk ((by rw [hg]; exact Nat.ne_of_gt (blk_lt (g := gb175) (o := .cells #[.bool a0_0, .slice A0_1 l0_1.length c0_1, .slice A0_2 l0_2.length c0_2, .slice A0_3 l0_3.length c0_3] 26 (0, 0)) (by (with_reducible repeat (first | refine blk_drewN ?_ _ | refine blk_drew ?_ | refine blk_alloc ?_ _)); exact BK175.out)) : gb176 ≠ gb175)); clear BK175; clear HB; have BK175 := n0_; have HB := n1_; have BK176 := n2_; have GW176 := n3_; have GE176 := n4_; have NB175_176 := n5_; have NB176_175 := n6_; clear n0_ n1_ n2_ n3_ n4_ n5_ n6_; clear hb hbox hg; have hnb7 := NB175_176.out; have hnc7 := NB176_175.out; have hcz8_0 : w6.cell? ⟨gb175, 0, none⟩ = some (.bool a0_0) := (blk_cell BK175.out 0).trans rfl; have hcz8_1 : w6.cell? ⟨gb175, 1, none⟩ = some (.slice A0_1 l0_1.length c0_1) := (blk_cell BK175.out 1).trans rfl; have hcz8_2 : w6.cell? ⟨gb175, 2, none⟩ = some (.slice A0_2 l0_2.length c0_2) := (blk_cell BK175.out 2).trans rfl; have hcz8_3 : w6.cell? ⟨gb175, 3, none⟩ = some (.slice A0_3 l0_3.length c0_3) := (blk_cell BK175.out 3).trans rfl; have hfz8_0 := blk_frozen BK175.out 0; have hfz8_1 := blk_frozen BK175.out 1; have hfz8_2 := blk_frozen BK175.out 2; have hfz8_3 := blk_frozen BK175.out 3) | ((with_reducible refine gate_callee (f := 16) rfl ?_); refine goesL_ (some 13) rfl rfl Try.func16 (by kernel_rfl) rfl #[.agg #[.bool a0_0, .slice A0_1 l0_1.length c0_1, .slice A0_2 l0_2.length c0_2, .slice A0_3 l0_3.length c0_3], .string a1] rfl (by (try simp only [List.map_toArray, List.map_cons, List.map_nil]); first | done | rfl | (simp only [List.length_drop, List.length_take]; rfl)) ?_; (with_reducible refine (concordref08_Find.calls k a0_0 _ _ l0_1 _ _ l0_2 _ _ l0_3 a1 t177 true _ ?side1 ?side2 ?side3 ?side4 ?side5 ?side6 A3.out).mono ?_); (case side1 => repeat (first | exact (Kd.C_below HR0_1.out HB.out) | (with_reducible refine Kd.C_alloc ?_ _) | (with_reducible refine Kd.C_drewN ?_ _) | (with_reducible refine Kd.C_drew ?_))); (case side2 => exact HC0_1.out); (case side3 => repeat (first | exact (Kd.C_below HR0_2.out HB.out) | (with_reducible refine Kd.C_alloc ?_ _) | (with_reducible refine Kd.C_drewN ?_ _) | (with_reducible refine Kd.C_drew ?_))); (case side4 => exact HC0_2.out); (case side5 => repeat (first | exact (Kd.C_below HR0_3.out HB.out) | (with_reducible refine Kd.C_alloc ?_ _) | (with_reducible refine Kd.C_drewN ?_ _) | (with_reducible refine Kd.C_drew ?_))); (case side6 => exact HC0_3.out); rintro e w9 ⟨rfl, hb⟩; refine ⟨_, rfl, ?_⟩; have n0_ := Aside0.mk (blk_below (g := gb175) (o := .cells #[.bool a0_0, .slice A0_1 l0_1.length c0_1, .slice A0_2 l0_2.length c0_2, .slice A0_3 l0_3.length c0_3] 26 (0, 0)) (by (with_reducible repeat (first | refine blk_drewN ?_ _ | refine blk_drew ?_ | refine blk_alloc ?_ _)); exact BK175.out) hb); have n1_ := Aside0.mk (blk_below (g := gb176) (o := .cells #[.bool false, .slice none 0 0, .slice none 0 0, .slice none 0 0] 26 (0, 0)) (by (with_reducible repeat (first | refine blk_drewN ?_ _ | refine blk_drew ?_ | refine blk_alloc ?_ _)); exact BK176.out) hb); have n2_ := Aside0.mk (below_step (by repeat (first | (with_reducible first | exact HB.out | apply below_alloc | apply pw_below_drewN | apply below_drew1 | refine below_set ?_ GE175.out | refine below_set ?_ GE176.out) | exact HB.out)) hb); clear BK175; clear BK176; clear HB; have BK175 := n0_; have BK176 := n1_; have HB := n2_; clear n0_ n1_ n2_; (try clear hb); (try clear hb2); (try clear hk); (try clear hi)))
  go_loopg [8, 9] k (fun kq v8 v9 w' => ∃ (x8_1 : List (S66)) (x9_1 : Int), v9 = .int .i64 x9_1 ∧ Aside0 (concordref08_Take.l0 kq a1 x8_1 x9_1 a0_0 l0_1 l0_2 l0_3 = some (r1, r2, r3, r4, r5)) ∧ Aside0 (kq ≤ k) ∧ Aside0 (Kd.R k66 66 w' w.heap.size (fun _ => True) v8 x8_1) ∧ Aside0 (w'.heap[gb175]? = some (.cells #[.bool a0_0, (.slice A0_1 l0_1.length c0_1), (.slice A0_2 l0_2.length c0_2), (.slice A0_3 l0_3.length c0_3)] 26 (0, 0))) ∧ Aside0 (w'.heap[gb176]? = some (.cells #[.bool false, (.slice none 0 0), (.slice none 0 0), (.slice none 0 0)] 26 (0, 0))) ∧ Aside0 (Below w.heap.size w w'))
  case atStart => exact ⟨(([] : List (S66))), (0), (by first | rfl | (simp; done) | (simp [*]; done) | (simp only [i64_w]; done)), H', ⟨Nat.le_refl _⟩, ⟨by first | exact Kd.R_nil _ _ _ _ _ | exact Kd.N_nil _ _ _ _ _ | exact Kd.V_nil _ _ _ _ _ | exact Kd.Q_nil _ _ _ _ _ | exact Kd.S_nil _ _ _ _ _⟩, ⟨by (with_reducible repeat (first | refine blk_drewN ?_ _ | refine blk_drew ?_ | refine blk_alloc ?_ _)); exact BK175.out⟩, ⟨by (with_reducible repeat (first | refine blk_drewN ?_ _ | refine blk_drew ?_ | refine blk_alloc ?_ _)); exact BK176.out⟩, ⟨by repeat (first | (with_reducible first | exact HB.out | apply below_alloc | apply pw_below_drewN | apply below_drew1 | refine below_set ?_ GE175.out | refine below_set ?_ GE176.out) | exact HB.out)⟩⟩
  case round =>
   clear H'
   try clear c1
   try clear p2
   try clear c4
   try clear c5
   try clear c7
   try clear hcz8_0
   try clear hcz8_1
   try clear hcz8_2
   try clear hcz8_3
   try clear hfz8_0
   try clear hfz8_1
   try clear hfz8_2
   try clear hfz8_3
   obtain ⟨x8_1, x9_1, rfl, HA, HK1, HO_8, BK175, BK176, HB⟩ := hrel
   cases gk with
   | zero => exact absurd HA.out (by simp [concordref08_Take.l0])
   | succ k1 =>
    have H := HA.out
    clear HA
    simp only [concordref08_Take.l0] at H
    by_cases c10 : x9_1 < (l0_1.length : Int)
    ·rw [if_pos c10] at H
     have c10b0 : decide (x9_1 < (l0_1.length : Int)) = true := decide_eq_true c10
     clear c10
     by_cases c11 : 0 ≤ x9_1
     ·rw [if_pos c11] at H
      have c11b0 : decide (0 ≤ x9_1) = true := decide_eq_true c11
      clear c11
      by_cases c12 : ((rd_T66 l0_1 x9_1).f0).toList = a1.toList
      ·rw [if_pos c12] at H
       have c12b0 : (((rd_T66 l0_1 x9_1).f0).toList == a1.toList) = true := beq_iff_eq.mpr c12
       have c12b1 : (((rd_T66 l0_1 x9_1).f0).toList != a1.toList) = false := bne_eq_false_iff_eq.mpr c12
       clear c12
       have H' := Aside0.mk H
       clear H
       have hnb13 := NB175_176.out
       have hnc13 := NB176_175.out
       have hcz14_0 : wr.cell? ⟨gb175, 0, none⟩ = some (.bool a0_0) := (blk_cell BK175.out 0).trans rfl
       have hcz14_1 : wr.cell? ⟨gb175, 1, none⟩ = some (.slice A0_1 l0_1.length c0_1) := (blk_cell BK175.out 1).trans rfl
       have hcz14_2 : wr.cell? ⟨gb175, 2, none⟩ = some (.slice A0_2 l0_2.length c0_2) := (blk_cell BK175.out 2).trans rfl
       have hcz14_3 : wr.cell? ⟨gb175, 3, none⟩ = some (.slice A0_3 l0_3.length c0_3) := (blk_cell BK175.out 3).trans rfl
       have hfz14_0 := blk_frozen BK175.out 0
       have hfz14_1 := blk_frozen BK175.out 1
       have hfz14_2 := blk_frozen BK175.out 2
       have hfz14_3 := blk_frozen BK175.out 3
       have p179 : 0 ≤ (x9_1 : Int) := of_decide_eq_true (by first | (with_reducible assumption) | assumption)
       have q179 : x9_1 < (l0_1.length : Int) := of_decide_eq_true (by first | (with_reducible assumption) | assumption)
       obtain ⟨ad179, e179, hx179_0, hx179_1⟩ := at_T66 HR0_1.out x9_1 p179 q179
       cases e179
       replace hx179_0 := (HB.out.cell (World.block_lt_of_cell? w _ hx179_0)).trans hx179_0
       replace hx179_1 := (HB.out.cell (World.block_lt_of_cell? w _ hx179_1)).trans hx179_1
       replace p179 := eq_true p179
       replace q179 := eq_true q179
       go_wp2
       go_roundg k1
       case measure => have := HK1.out; omega
       case rel => exact ⟨(x8_1), (wrap64 (x9_1 + 1)), (by first | rfl | (simp; done) | (simp [*]; done) | (simp only [i64_w]; done)), H', ⟨by have := HK1.out; omega⟩, ⟨by (with_reducible repeat (first | apply Kd.R_alloc | apply Kd.R_drewN | apply Kd.R_drew)); exact HO_8.out⟩, ⟨by (with_reducible repeat (first | refine blk_drewN ?_ _ | refine blk_drew ?_ | refine blk_alloc ?_ _)); exact BK175.out⟩, ⟨by (with_reducible repeat (first | refine blk_drewN ?_ _ | refine blk_drew ?_ | refine blk_alloc ?_ _)); exact BK176.out⟩, ⟨by repeat (first | (with_reducible first | exact HB.out | apply below_alloc | apply pw_below_drewN | apply below_drew1 | refine below_set ?_ GE175.out | refine below_set ?_ GE176.out) | exact HB.out)⟩⟩
      ·rw [if_neg c12] at H
       have c12b0 : (((rd_T66 l0_1 x9_1).f0).toList == a1.toList) = false := beq_eq_false_iff_ne.mpr c12
       have c12b1 : (((rd_T66 l0_1 x9_1).f0).toList != a1.toList) = true := bne_iff_ne.mpr c12
       by_cases c15 : x8_1.length < 4398046511104
       ·rw [if_pos c15] at H
        have LMc15 := Aside0.mk c15
        clear c15
        obtain ⟨y181, hy181⟩ : ∃ y_ : List (S66), y_ = (x8_1 ++ [(⟨(rd_T66 l0_1 x9_1).f0, (rd_T66 l0_1 x9_1).f1⟩ : S66)]) := ⟨_, rfl⟩
        replace H : (concordref08_Take.l0 k1 a1 y181 (wrap64 (x9_1 + 1)) a0_0 l0_1 l0_2 l0_3) = some (r1, r2, r3, r4, r5) := by first | (rw [hy181]; with_reducible exact H) | (have H2_ := (Option.bind_some _ _).symm.trans H; rw [hy181]; with_reducible exact H2_) | (have H2_ := (Option.bind_some _ _).symm.trans H; with_reducible exact H2_) | with_reducible exact H | (rw [hy181]; exact H) | exact H
        have Ny181 := Aside0.mk hy181
        clear hy181
        have H' := Aside0.mk H
        clear H
        have hnb16 := NB175_176.out
        have hnc16 := NB176_175.out
        have hcz17_0 : wr.cell? ⟨gb175, 0, none⟩ = some (.bool a0_0) := (blk_cell BK175.out 0).trans rfl
        have hcz17_1 : wr.cell? ⟨gb175, 1, none⟩ = some (.slice A0_1 l0_1.length c0_1) := (blk_cell BK175.out 1).trans rfl
        have hcz17_2 : wr.cell? ⟨gb175, 2, none⟩ = some (.slice A0_2 l0_2.length c0_2) := (blk_cell BK175.out 2).trans rfl
        have hcz17_3 : wr.cell? ⟨gb175, 3, none⟩ = some (.slice A0_3 l0_3.length c0_3) := (blk_cell BK175.out 3).trans rfl
        have hfz17_0 := blk_frozen BK175.out 0
        have hfz17_1 := blk_frozen BK175.out 1
        have hfz17_2 := blk_frozen BK175.out 2
        have hfz17_3 := blk_frozen BK175.out 3
        have p179 : 0 ≤ (x9_1 : Int) := of_decide_eq_true (by first | (with_reducible assumption) | assumption)
        have q179 : x9_1 < (l0_1.length : Int) := of_decide_eq_true (by first | (with_reducible assumption) | assumption)
        obtain ⟨ad179, e179, hx179_0, hx179_1⟩ := at_T66 HR0_1.out x9_1 p179 q179
        cases e179
        replace hx179_0 := (HB.out.cell (World.block_lt_of_cell? w _ hx179_0)).trans hx179_0
        replace hx179_1 := (HB.out.cell (World.block_lt_of_cell? w _ hx179_1)).trans hx179_1
        replace p179 := eq_true p179
        replace q179 := eq_true q179
        have p180 : 0 ≤ (x9_1 : Int) := of_decide_eq_true (by first | (with_reducible assumption) | assumption)
        have q180 : x9_1 < (l0_1.length : Int) := of_decide_eq_true (by first | (with_reducible assumption) | assumption)
        obtain ⟨ad180, e180, hx180_0, hx180_1⟩ := at_T66 HR0_1.out x9_1 p180 q180
        obtain rfl : ad179 = ad180 := (by injection e180)
        replace hx180_0 := (HB.out.cell (World.block_lt_of_cell? w _ hx180_0)).trans hx180_0
        replace hx180_1 := (HB.out.cell (World.block_lt_of_cell? w _ hx180_1)).trans hx180_1
        replace p180 := eq_true p180
        replace q180 := eq_true q180
        go_wp2_with (first | ((with_reducible refine gate_builtin (b := .append) (xs := #[.tmp 34, .tmp 40]) rfl ?_); at_builtin; refine Kd.R_append k66 (w0 := w) w.heap.size rfl (.tmp 34) (.tmp 40) 22 66 (.agg #[(.string ⟨#[]⟩), (.string ⟨#[]⟩)]) 32 rfl Try.underlying22 info66 rfl (by decide) (by omega) u8 x8_1 (⟨(rd_T66 l0_1 x9_1).f0, (rd_T66 l0_1 x9_1).f1⟩ : S66) [.string ((rd_T66 l0_1 x9_1).f0), .string ((rd_T66 l0_1 x9_1).f1)] (fun _ => True) (fun _ => False) rfl rfl ?aP (fun _ hk => hk.elim) ?aF ?aO ?aB ?aS ?aL ?_; (case aP => exact k66_mkM _ _ _ (⟨(rd_T66 l0_1 x9_1).f0, (rd_T66 l0_1 x9_1).f1⟩ : S66)); (case aB => exact (by repeat (first | (with_reducible first | exact HB.out | apply below_alloc | apply pw_below_drewN | apply below_drew1 | refine below_set ?_ GE175.out | refine below_set ?_ GE176.out) | exact HB.out))); (case aF => exact (fun _ _ => trivial)); (case aO => exact (by (with_reducible repeat (first | apply Kd.R_alloc | apply Kd.R_drewN | apply Kd.R_drew)); exact HO_8.out)); (case aS => exact (below_size (by repeat (first | (with_reducible first | exact HB.out | apply below_alloc | apply pw_below_drewN | apply below_drew1 | refine below_set ?_ GE175.out | refine below_set ?_ GE176.out) | exact HB.out)))); (case aL => have := LMc15.out; omega); intro v182 w18 ho hb hg hat; rw [← Ny181.out] at ho; have n0_ := Aside0.mk (blk_grown (g := gb175) (o := .cells #[.bool a0_0, .slice (some ad179) l0_1.length c0_1, .slice A0_2 l0_2.length c0_2, .slice A0_3 l0_3.length c0_3] 26 (0, 0)) (by (with_reducible repeat (first | refine blk_drewN ?_ _ | refine blk_drew ?_ | refine blk_alloc ?_ _)); exact BK175.out) hg (Kd.R_ne HO_8.out BK175.out (by decide))); have n1_ := Aside0.mk (blk_grown (g := gb176) (o := .cells #[.bool false, .slice none 0 0, .slice none 0 0, .slice none 0 0] 26 (0, 0)) (by (with_reducible repeat (first | refine blk_drewN ?_ _ | refine blk_drew ?_ | refine blk_alloc ?_ _)); exact BK176.out) hg (Kd.R_ne HO_8.out BK176.out (by decide))); have n2_ := Aside0.mk (hb); have n3_ := Aside0.mk (ho); clear BK175; clear BK176; clear HB; clear HO_8; have BK175 := n0_; have BK176 := n1_; have HB := n2_; have HO183 := n3_; clear n0_ n1_ n2_ n3_; clear ho hb hg hat))
        go_roundg k1
        case measure => have := HK1.out; omega
        case rel => exact ⟨(y181), (wrap64 (x9_1 + 1)), (by first | rfl | (simp; done) | (simp [*]; done) | (simp only [i64_w]; done)), H', ⟨by have := HK1.out; omega⟩, ⟨by (with_reducible repeat (first | apply Kd.R_alloc | apply Kd.R_drewN | apply Kd.R_drew)); exact HO183.out⟩, ⟨by (with_reducible repeat (first | refine blk_drewN ?_ _ | refine blk_drew ?_ | refine blk_alloc ?_ _)); exact BK175.out⟩, ⟨by (with_reducible repeat (first | refine blk_drewN ?_ _ | refine blk_drew ?_ | refine blk_alloc ?_ _)); exact BK176.out⟩, ⟨by repeat (first | (with_reducible first | exact HB.out | apply below_alloc | apply pw_below_drewN | apply below_drew1 | refine below_set ?_ GE175.out | refine below_set ?_ GE176.out) | exact HB.out)⟩⟩
       ·rw [if_neg c15] at H
        exact absurd H (by simp)
     ·rw [if_neg c11] at H
      exact absurd H (by simp)
    ·rw [if_neg c10] at H
     have c10b0 : decide (x9_1 < (l0_1.length : Int)) = false := decide_eq_false c10
     clear c10
     replace H := Option.bind_eq_some_iff.mp H
     obtain ⟨⟨t184, t185, t188, t191⟩, A190, H⟩ := H
     replace H : (some (t184, t185, t188, t191, true)) = some (r1, r2, r3, r4, r5) := H
     have A19 := Aside0.mk A190
     clear A190
     simp only [Option.some.injEq, Prod.mk.injEq] at H
     obtain ⟨rfl, rfl, rfl, rfl, rfl⟩ := H
     have hnb20 := NB175_176.out
     have hnc20 := NB176_175.out
     have hcz21_0 : wr.cell? ⟨gb175, 0, none⟩ = some (.bool a0_0) := (blk_cell BK175.out 0).trans rfl
     have hcz21_1 : wr.cell? ⟨gb175, 1, none⟩ = some (.slice A0_1 l0_1.length c0_1) := (blk_cell BK175.out 1).trans rfl
     have hcz21_2 : wr.cell? ⟨gb175, 2, none⟩ = some (.slice A0_2 l0_2.length c0_2) := (blk_cell BK175.out 2).trans rfl
     have hcz21_3 : wr.cell? ⟨gb175, 3, none⟩ = some (.slice A0_3 l0_3.length c0_3) := (blk_cell BK175.out 3).trans rfl
     have hfz21_0 := blk_frozen BK175.out 0
     have hfz21_1 := blk_frozen BK175.out 1
     have hfz21_2 := blk_frozen BK175.out 2
     have hfz21_3 := blk_frozen BK175.out 3
     obtain ⟨Ao22, co22, eo22⟩ := Kd.R_slice HO_8.out
     subst eo22
     go_wp2_with (first | ((with_reducible refine gate_callee (f := 76) rfl ?_); refine goesL_ (some 43) rfl rfl Try.func76 (by kernel_rfl) rfl #[.slice Ao22 x8_1.length co22] rfl (by (try simp only [List.map_toArray, List.map_cons, List.map_nil]); first | done | rfl | (simp only [List.length_drop, List.length_take]; rfl)) ?_; (with_reducible refine (concordref08_leaf.calls (fun k_ => some k_ = (.slice Ao22 x8_1.length co22 : Value).ownBlock) (.slice Ao22 x8_1.length co22) x8_1 t184 t185 t188 t191 w _ ?side1 ?side2 A19.out).mono ?_); (case side1 => repeat (first | (with_reducible first | exact HB.out | apply below_alloc | apply pw_below_drewN | apply below_drew1 | refine below_set ?_ GE175.out | refine below_set ?_ GE176.out) | exact HB.out)); (case side2 => exact Kd.R_tight rfl HO_8.out); rintro e w23 ⟨v186, v189, v192, rfl, ho0, ho1, ho2, hb, hkp⟩; refine ⟨_, rfl, ?_⟩; have n0_ := Aside0.mk (blk_kept (by (with_reducible repeat (first | refine blk_drewN ?_ _ | refine blk_drew ?_ | refine blk_alloc ?_ _)); exact BK175.out) hkp (fun hs_ => (fun e_ => (Kd.R_ne HO_8.out BK175.out (by decide)) e_) hs_)); have n1_ := Aside0.mk (blk_kept (by (with_reducible repeat (first | refine blk_drewN ?_ _ | refine blk_drew ?_ | refine blk_alloc ?_ _)); exact BK176.out) hkp (fun hs_ => (fun e_ => (Kd.R_ne HO_8.out BK176.out (by decide)) e_) hs_)); have n2_ := Aside0.mk (Kd.R_mono (ok' := fun k_ => True) ho0 (fun k_ hk_ => trivial)); have n3_ := Aside0.mk (Kd.R_mono (ok' := fun k_ => True) ho1 (fun k_ hk_ => trivial)); have n4_ := Aside0.mk (Kd.R_mono (ok' := fun k_ => True) ho2 (fun k_ hk_ => trivial)); have n5_ := Aside0.mk (hb); clear BK175; clear BK176; clear HB; clear HO_8; have BK175 := n0_; have BK176 := n1_; have HO187 := n2_; have HO190 := n3_; have HO193 := n4_; have HB := n5_; clear n0_ n1_ n2_ n3_ n4_ n5_; (try clear hb); (try clear hkp); (try clear ho0); (try clear ho1); (try clear ho2); have hcz24_0 : w23.cell? ⟨gb176, 0, none⟩ = some (.bool false) := (blk_cell BK176.out 0).trans rfl; have hcz24_1 : w23.cell? ⟨gb176, 1, none⟩ = some (.slice none 0 0) := (blk_cell BK176.out 1).trans rfl; have hcz24_2 : w23.cell? ⟨gb176, 2, none⟩ = some (.slice none 0 0) := (blk_cell BK176.out 2).trans rfl; have hcz24_3 : w23.cell? ⟨gb176, 3, none⟩ = some (.slice none 0 0) := (blk_cell BK176.out 3).trans rfl; have hfz24_0 := blk_frozen BK176.out 0; have hfz24_1 := blk_frozen BK176.out 1; have hfz24_2 := blk_frozen BK176.out 2; have hfz24_3 := blk_frozen BK176.out 3; obtain ⟨Ao25, co25, eo25⟩ := Kd.R_slice HO187.out; subst eo25; obtain ⟨Ao26, co26, eo26⟩ := Kd.R_slice HO190.out; subst eo26; obtain ⟨Ao27, co27, eo27⟩ := Kd.R_slice HO193.out; subst eo27))
     refine bodyPost_ret (results_ct rfl _ _ gb176 26 #[.bool t184, .slice Ao25 t185.length co25, .slice Ao26 t188.length co26, .slice Ao27 t191.length co27] (0, 0) _ rfl (by (with_reducible repeat (first | refine blk_drewN ?_ _ | refine blk_drew ?_ | refine blk_alloc ?_ _)); refine blk_put (cs := #[.bool t184, .slice Ao25 t185.length co25, .slice Ao26 t188.length co26, .slice none 0 0]) ?_ 3 _ rfl; (with_reducible repeat (first | refine blk_drewN ?_ _ | refine blk_drew ?_ | refine blk_alloc ?_ _)); refine blk_put (cs := #[.bool t184, .slice Ao25 t185.length co25, .slice none 0 0, .slice none 0 0]) ?_ 2 _ rfl; (with_reducible repeat (first | refine blk_drewN ?_ _ | refine blk_drew ?_ | refine blk_alloc ?_ _)); refine blk_put (cs := #[.bool t184, .slice none 0 0, .slice none 0 0, .slice none 0 0]) ?_ 1 _ rfl; (with_reducible repeat (first | refine blk_drewN ?_ _ | refine blk_drew ?_ | refine blk_alloc ?_ _)); refine blk_put (cs := #[.bool false, .slice none 0 0, .slice none 0 0, .slice none 0 0]) ?_ 0 _ rfl; (with_reducible repeat (first | refine blk_drewN ?_ _ | refine blk_drew ?_ | refine blk_alloc ?_ _)); exact BK176.out) Try.underlying26 rfl (by kernel_rfl)) rfl ?_
     exact ⟨_, _, _, by first | rfl | (simp [errW_none, errW_some] <;> rfl) | (simp [*, errW_none, errW_some] <;> rfl), by (with_reducible repeat (first | apply Kd.R_alloc | apply Kd.R_drewN | apply Kd.R_drew)); exact Kd.R_mono (Kd.R_far (p := ⟨gb176, 3, none⟩) (Kd.R_far (p := ⟨gb176, 2, none⟩) (Kd.R_far (p := ⟨gb176, 1, none⟩) (Kd.R_far (p := ⟨gb176, 0, none⟩) (Kd.R_types HO187.out BK176.out (by decide)) (fun _ hk => hk.2) (.bool t184)) (fun _ hk => hk.2) (.slice Ao25 t185.length co25)) (fun _ hk => hk.2) (.slice Ao26 t188.length co26)) (fun _ hk => hk.2) (.slice Ao27 t191.length co27)) (fun _ hk => trivial), by (with_reducible repeat (first | apply Kd.R_alloc | apply Kd.R_drewN | apply Kd.R_drew)); exact Kd.R_mono (Kd.R_far (p := ⟨gb176, 3, none⟩) (Kd.R_far (p := ⟨gb176, 2, none⟩) (Kd.R_far (p := ⟨gb176, 1, none⟩) (Kd.R_far (p := ⟨gb176, 0, none⟩) (Kd.R_types HO190.out BK176.out (by decide)) (fun _ hk => hk.2) (.bool t184)) (fun _ hk => hk.2) (.slice Ao25 t185.length co25)) (fun _ hk => hk.2) (.slice Ao26 t188.length co26)) (fun _ hk => hk.2) (.slice Ao27 t191.length co27)) (fun _ hk => trivial), by (with_reducible repeat (first | apply Kd.R_alloc | apply Kd.R_drewN | apply Kd.R_drew)); exact Kd.R_mono (Kd.R_far (p := ⟨gb176, 3, none⟩) (Kd.R_far (p := ⟨gb176, 2, none⟩) (Kd.R_far (p := ⟨gb176, 1, none⟩) (Kd.R_far (p := ⟨gb176, 0, none⟩) (Kd.R_types HO193.out BK176.out (by decide)) (fun _ hk => hk.2) (.bool t184)) (fun _ hk => hk.2) (.slice Ao25 t185.length co25)) (fun _ hk => hk.2) (.slice Ao26 t188.length co26)) (fun _ hk => hk.2) (.slice Ao27 t191.length co27)) (fun _ hk => trivial), by repeat (first | (with_reducible first | exact HB.out | apply below_alloc | apply pw_below_drewN | apply below_drew1 | refine below_set ?_ GE175.out | refine below_set ?_ GE176.out) | exact HB.out)⟩
 ·replace c4 := Bool.eq_false_iff.mpr c4
  subst c4
  have H1 : (some (false, ([] : List (S66)), ([] : List ByteArray), ([] : List Int), false)) = some (r1, r2, r3, r4, r5) := by rw [if_neg (show ¬ (false = true) by decide)] at H; exact H
  clear H
  have H := H1
  clear H1
  simp only [Option.some.injEq, Prod.mk.injEq] at H
  obtain ⟨rfl, rfl, rfl, rfl, rfl⟩ := H
  go_enter Try.func57, Try.ntmps57
  go_wp2_with (first | ((with_reducible refine gate_dst (N := 2) rfl ?_); refine box_event ?hg (N := 2) ?hd (cs := #[.bool a0_0, .slice A0_1 l0_1.length c0_1, .slice A0_2 l0_2.length c0_2, .slice A0_3 l0_3.length c0_3]) (t := 26) ?hr ?_; (case hd => rfl); (case hg => rfl); (case hr => first | (go_simp; done) | (go_simp; rfl)); intro gb175 hg w28 hbox hb; have n0_ := Aside0.mk (below_step (by repeat (first | (with_reducible first | exact HB.out | apply below_alloc | apply pw_below_drewN | apply below_drew1) | exact HB.out)) hb); have n1_ := Aside0.mk (hbox); have n2_ := Aside0.mk ((by rw [hg]; exact (below_size (by repeat (first | (with_reducible first | exact HB.out | apply below_alloc | apply pw_below_drewN | apply below_drew1) | exact HB.out))) : w.heap.size ≤ gb175)); have n3_ := Aside0.mk ((by rw [hg]; exact (below_size (by repeat (first | (with_reducible first | exact HB.out | apply below_alloc | apply pw_below_drewN | apply below_drew1) | exact HB.out))) : w.heap.size ≤ gb175)); clear HB; have HB := n0_; have BK175 := n1_; have GW175 := n2_; have GE175 := n3_; clear n0_ n1_ n2_ n3_; clear hb hbox hg) | ((with_reducible refine gate_dst (N := 4) rfl ?_); refine box_event ?hg (N := 4) ?hd (cs := #[.bool false, .slice none 0 0, .slice none 0 0, .slice none 0 0]) (t := 26) ?hr ?_; (case hd => rfl); (case hg => rfl); (case hr => first | (go_simp; done) | (go_simp; rfl)); intro gb176 hg w29 hbox hb; have n0_ := Aside0.mk (blk_below (g := gb175) (o := .cells #[.bool a0_0, .slice A0_1 l0_1.length c0_1, .slice A0_2 l0_2.length c0_2, .slice A0_3 l0_3.length c0_3] 26 (0, 0)) (by (with_reducible repeat (first | refine blk_drewN ?_ _ | refine blk_drew ?_ | refine blk_alloc ?_ _)); exact BK175.out) hb); have n1_ := Aside0.mk (below_step (by repeat (first | (with_reducible first | exact HB.out | apply below_alloc | apply pw_below_drewN | apply below_drew1 | refine below_set ?_ GE175.out) | exact HB.out)) hb); have n2_ := Aside0.mk (hbox); have n3_ := Aside0.mk ((by rw [hg]; exact (below_size (by repeat (first | (with_reducible first | exact HB.out | apply below_alloc | apply pw_below_drewN | apply below_drew1 | refine below_set ?_ GE175.out) | exact HB.out))) : w.heap.size ≤ gb176)); have n4_ := Aside0.mk ((by rw [hg]; exact (below_size (by repeat (first | (with_reducible first | exact HB.out | apply below_alloc | apply pw_below_drewN | apply below_drew1 | refine below_set ?_ GE175.out) | exact HB.out))) : w.heap.size ≤ gb176)); have n5_ := Aside0.mk ((by rw [hg]; exact Nat.ne_of_lt (blk_lt (g := gb175) (o := .cells #[.bool a0_0, .slice A0_1 l0_1.length c0_1, .slice A0_2 l0_2.length c0_2, .slice A0_3 l0_3.length c0_3] 26 (0, 0)) (by (with_reducible repeat (first | refine blk_drewN ?_ _ | refine blk_drew ?_ | refine blk_alloc ?_ _)); exact BK175.out)) : gb175 ≠ gb176)); have n6_ := Aside0.mk ((by rw [hg]; exact Nat.ne_of_gt (blk_lt (g := gb175) (o := .cells #[.bool a0_0, .slice A0_1 l0_1.length c0_1, .slice A0_2 l0_2.length c0_2, .slice A0_3 l0_3.length c0_3] 26 (0, 0)) (by (with_reducible repeat (first | refine blk_drewN ?_ _ | refine blk_drew ?_ | refine blk_alloc ?_ _)); exact BK175.out)) : gb176 ≠ gb175)); clear BK175; clear HB; have BK175 := n0_; have HB := n1_; have BK176 := n2_; have GW176 := n3_; have GE176 := n4_; have NB175_176 := n5_; have NB176_175 := n6_; clear n0_ n1_ n2_ n3_ n4_ n5_ n6_; clear hb hbox hg; have hnb30 := NB175_176.out; have hnc30 := NB176_175.out; have hcz31_0 : w29.cell? ⟨gb175, 0, none⟩ = some (.bool a0_0) := (blk_cell BK175.out 0).trans rfl; have hcz31_1 : w29.cell? ⟨gb175, 1, none⟩ = some (.slice A0_1 l0_1.length c0_1) := (blk_cell BK175.out 1).trans rfl; have hcz31_2 : w29.cell? ⟨gb175, 2, none⟩ = some (.slice A0_2 l0_2.length c0_2) := (blk_cell BK175.out 2).trans rfl; have hcz31_3 : w29.cell? ⟨gb175, 3, none⟩ = some (.slice A0_3 l0_3.length c0_3) := (blk_cell BK175.out 3).trans rfl; have hfz31_0 := blk_frozen BK175.out 0; have hfz31_1 := blk_frozen BK175.out 1; have hfz31_2 := blk_frozen BK175.out 2; have hfz31_3 := blk_frozen BK175.out 3) | ((with_reducible refine gate_callee (f := 16) rfl ?_); refine goesL_ (some 13) rfl rfl Try.func16 (by kernel_rfl) rfl #[.agg #[.bool a0_0, .slice A0_1 l0_1.length c0_1, .slice A0_2 l0_2.length c0_2, .slice A0_3 l0_3.length c0_3], .string a1] rfl (by (try simp only [List.map_toArray, List.map_cons, List.map_nil]); first | done | rfl | (simp only [List.length_drop, List.length_take]; rfl)) ?_; (with_reducible refine (concordref08_Find.calls k a0_0 _ _ l0_1 _ _ l0_2 _ _ l0_3 a1 t177 false _ ?side1 ?side2 ?side3 ?side4 ?side5 ?side6 A3.out).mono ?_); (case side1 => repeat (first | exact (Kd.C_below HR0_1.out HB.out) | (with_reducible refine Kd.C_alloc ?_ _) | (with_reducible refine Kd.C_drewN ?_ _) | (with_reducible refine Kd.C_drew ?_))); (case side2 => exact HC0_1.out); (case side3 => repeat (first | exact (Kd.C_below HR0_2.out HB.out) | (with_reducible refine Kd.C_alloc ?_ _) | (with_reducible refine Kd.C_drewN ?_ _) | (with_reducible refine Kd.C_drew ?_))); (case side4 => exact HC0_2.out); (case side5 => repeat (first | exact (Kd.C_below HR0_3.out HB.out) | (with_reducible refine Kd.C_alloc ?_ _) | (with_reducible refine Kd.C_drewN ?_ _) | (with_reducible refine Kd.C_drew ?_))); (case side6 => exact HC0_3.out); rintro e w32 ⟨rfl, hb⟩; refine ⟨_, rfl, ?_⟩; have n0_ := Aside0.mk (blk_below (g := gb175) (o := .cells #[.bool a0_0, .slice A0_1 l0_1.length c0_1, .slice A0_2 l0_2.length c0_2, .slice A0_3 l0_3.length c0_3] 26 (0, 0)) (by (with_reducible repeat (first | refine blk_drewN ?_ _ | refine blk_drew ?_ | refine blk_alloc ?_ _)); exact BK175.out) hb); have n1_ := Aside0.mk (blk_below (g := gb176) (o := .cells #[.bool false, .slice none 0 0, .slice none 0 0, .slice none 0 0] 26 (0, 0)) (by (with_reducible repeat (first | refine blk_drewN ?_ _ | refine blk_drew ?_ | refine blk_alloc ?_ _)); exact BK176.out) hb); have n2_ := Aside0.mk (below_step (by repeat (first | (with_reducible first | exact HB.out | apply below_alloc | apply pw_below_drewN | apply below_drew1 | refine below_set ?_ GE175.out | refine below_set ?_ GE176.out) | exact HB.out)) hb); clear BK175; clear BK176; clear HB; have BK175 := n0_; have BK176 := n1_; have HB := n2_; clear n0_ n1_ n2_; (try clear hb); (try clear hb2); (try clear hk); (try clear hi); have hcz33_0 : w32.cell? ⟨gb176, 0, none⟩ = some (.bool false) := (blk_cell BK176.out 0).trans rfl; have hcz33_1 : w32.cell? ⟨gb176, 1, none⟩ = some (.slice none 0 0) := (blk_cell BK176.out 1).trans rfl; have hcz33_2 : w32.cell? ⟨gb176, 2, none⟩ = some (.slice none 0 0) := (blk_cell BK176.out 2).trans rfl; have hcz33_3 : w32.cell? ⟨gb176, 3, none⟩ = some (.slice none 0 0) := (blk_cell BK176.out 3).trans rfl; have hfz33_0 := blk_frozen BK176.out 0; have hfz33_1 := blk_frozen BK176.out 1; have hfz33_2 := blk_frozen BK176.out 2; have hfz33_3 := blk_frozen BK176.out 3))
  refine bodyPost_ret (results_ct rfl _ _ gb176 26 #[.bool false, .slice none 0 0, .slice none 0 0, .slice none 0 0] (0, 0) _ rfl (by (with_reducible repeat (first | refine blk_drewN ?_ _ | refine blk_drew ?_ | refine blk_alloc ?_ _)); refine blk_put (cs := #[.bool false, .slice none 0 0, .slice none 0 0, .slice none 0 0]) ?_ 3 _ rfl; (with_reducible repeat (first | refine blk_drewN ?_ _ | refine blk_drew ?_ | refine blk_alloc ?_ _)); refine blk_put (cs := #[.bool false, .slice none 0 0, .slice none 0 0, .slice none 0 0]) ?_ 2 _ rfl; (with_reducible repeat (first | refine blk_drewN ?_ _ | refine blk_drew ?_ | refine blk_alloc ?_ _)); refine blk_put (cs := #[.bool false, .slice none 0 0, .slice none 0 0, .slice none 0 0]) ?_ 1 _ rfl; (with_reducible repeat (first | refine blk_drewN ?_ _ | refine blk_drew ?_ | refine blk_alloc ?_ _)); refine blk_put (cs := #[.bool false, .slice none 0 0, .slice none 0 0, .slice none 0 0]) ?_ 0 _ rfl; (with_reducible repeat (first | refine blk_drewN ?_ _ | refine blk_drew ?_ | refine blk_alloc ?_ _)); exact BK176.out) Try.underlying26 rfl (by kernel_rfl)) rfl ?_
  exact ⟨_, _, _, by first | rfl | (simp [errW_none, errW_some] <;> rfl) | (simp [*, errW_none, errW_some] <;> rfl), by first | exact Kd.R_nil _ _ _ _ _ | exact Kd.N_nil _ _ _ _ _ | exact Kd.V_nil _ _ _ _ _ | exact Kd.Q_nil _ _ _ _ _ | exact Kd.S_nil _ _ _ _ _, by first | exact Kd.R_nil _ _ _ _ _ | exact Kd.N_nil _ _ _ _ _ | exact Kd.V_nil _ _ _ _ _ | exact Kd.Q_nil _ _ _ _ _ | exact Kd.S_nil _ _ _ _ _, by first | exact Kd.R_nil _ _ _ _ _ | exact Kd.N_nil _ _ _ _ _ | exact Kd.V_nil _ _ _ _ _ | exact Kd.Q_nil _ _ _ _ _ | exact Kd.S_nil _ _ _ _ _, by repeat (first | (with_reducible first | exact HB.out | apply below_alloc | apply pw_below_drewN | apply below_drew1 | refine below_set ?_ GE175.out | refine below_set ?_ GE176.out) | exact HB.out)⟩

end Go.Proofs.Ytdjjpgdhnoibkaa.PR
namespace Go.Proofs.Ytdjjpgdhnoibkaa.My
open Go.RowKit Go.Proofs.YtdjjpgdhnoibkaaW.PrintWords Go.Proofs.YtdjjpgdhnoibkaaW.PrintLast Go.Proofs.YtdjjpgdhnoibkaaW.PrintMore Go.Proofs.Ytdjjpgdhnoibkaa Go.Proofs.Ytdjjpgdhnoibkaa.PZ Go.Proofs.Ytdjjpgdhnoibkaa.PD Go.Proofs.Ytdjjpgdhnoibkaa.PR
set_option linter.unusedSimpArgs false
set_option linter.unusedVariables false
set_option maxRecDepth 100000
set_option maxHeartbeats 3200000
attribute [local go_sem high] conv_rune str_leq str_gtr
theorem heapC : Kd.Heap k66 := ⟨fun _ h => by rw [k66_open h]; exact k66_mk _ _⟩
def takeV (b : Bool) (cs : List Ce) (ks : List ByteArray) (kids : List Int) (key : ByteArray) : Bool × List Ce × List ByteArray × List Int × Bool :=
  if (findA b cs ks kids key).2 = true then (true, cs.take (findA b cs ks kids key).1.toNat ++ cs.drop ((findA b cs ks kids key).1.toNat + 1), [], [], true) else (false, [], [], [], false)
theorem findA_there {b : Bool} {cs : List Ce} {ks : List ByteArray} {kids : List Int} {key : ByteArray} (h : (findA b cs ks kids key).2 = true) : b = true ∧ chkV b cs ks kids = 0 ∧ (findA b cs ks kids key).1 = ((srch (pF cs key) cs.length 0 cs.length : Nat) : Int) ∧ srch (pF cs key) cs.length 0 cs.length < cs.length ∧ ((rd_T66 cs ((srch (pF cs key) cs.length 0 cs.length : Nat) : Int)).f0.toList == key.toList) = true := by
  unfold findA at h ⊢
  by_cases hc : b = true ∧ chkV b cs ks kids = 0
  · rw [if_pos hc] at h ⊢
    unfold findV at h ⊢
    dsimp only at h ⊢
    rw [Bool.and_eq_true, decide_eq_true_eq] at h
    exact ⟨hc.1, hc.2, rfl, h.1, h.2⟩
  · rw [if_neg hc] at h
    cases h
theorem cs_le_of {cs : List Ce} {ks : List ByteArray} {kids : List Int} (h : chkV true cs ks kids = 0) : cs.length ≤ 2000 := by
  have a2 := (chk_facts h).2.2.2.2
  have a3 := cs_len cs
  unfold lngV at a2
  rw [if_pos rfl] at a2
  omega
theorem otake_f (b : Bool) (cs : List Ce) (ks : List ByteArray) (kids : List Int) (key : ByteArray) (hn : NdOk cs ks kids) (k : Nat) (hk : 2 * (cs.length + ks.length) + kids.length + 60 ≤ k) : node_Take.f k b cs ks kids key = some (takeV b cs ks kids key) := by
  unfold node_Take.f takeV
  rw [nfind_f b cs ks kids key hn k hk, Option.bind_some]
  by_cases h : (findA b cs ks kids key).2 = true
  · obtain ⟨rfl, hc, e1, hlt, _⟩ := findA_there h
    have hl := cs_le_of hc
    rw [if_pos h, if_pos h, e1]
    generalize srch (pF cs key) cs.length 0 cs.length = s at *
    rw [if_pos (by omega), if_pos (by omega), w64S s (by omega), if_pos (by omega), if_pos (by omega), Int.toNat_natCast, Int.toNat_natCast]
    have hf : ([cs.take s, cs.drop (s + 1)] : List (List Ce)).flatten = cs.take s ++ cs.drop (s + 1) := by simp
    unfold slices_Concat_api_Cell_api_Cell.f
    rw [if_pos ⟨by simp, by rw [hf, List.length_append, List.length_take, List.length_drop]; omega⟩, hf, Option.bind_some]
  · rw [if_neg h, if_neg h]
def tP (cs : List Ce) (s i : Nat) : List Ce := if i ≤ s then cs.take i else cs.take s ++ (cs.take i).drop (s + 1)
theorem rtake_l0 (b : Bool) (cs : List Ce) (ks : List ByteArray) (kids : List Int) (key : ByteArray) (hl : cs.length ≤ 2000) (hri : Rise (cs.map (fun c => c.f0))) (s : Nat) (hs : s = srch (pF cs key) cs.length 0 cs.length) (hlt : s < cs.length) (hq : (cs[s].f0.toList == key.toList) = true) : ∀ (n i k : Nat), i + n = cs.length → n + 1 ≤ k →
    concordref08_Take.l0 k key (tP cs s i) (i : Int) b cs ks kids = some (true, cs.take s ++ cs.drop (s + 1), [], [], true)
  | 0, i, k, hi, hk => by
    obtain ⟨k, rfl⟩ : ∃ j, k = j + 1 := ⟨k - 1, by omega⟩
    rw [concordref08_Take.l0, if_neg (by omega)]
    unfold concordref08_leaf.f tP
    rw [Option.bind_some, if_neg (by omega), show i = cs.length by omega, List.take_length]
  | n + 1, i, k, hi, hk => by
    obtain ⟨k, rfl⟩ : ∃ j, k = j + 1 := ⟨k - 1, by omega⟩
    have hil : i < cs.length := by omega
    have ih := rtake_l0 b cs ks kids key hl hri s hs hlt hq n (i + 1) k (by omega) (by omega)
    have hlen : (tP cs s i).length ≤ 4000 := by
      unfold tP
      split
      · rw [List.length_take]; omega
      · rw [List.length_append, List.length_drop, List.length_take, List.length_take]; omega
    rw [concordref08_Take.l0, if_pos (by omega), if_pos (by omega), rdC_at cs i hil, w64S i (by omega)]
    by_cases his : i = s
    · subst his
      rw [if_pos (beq_iff_eq.1 hq)]
      have e : tP cs i (i + 1) = tP cs i i := by
        unfold tP
        rw [if_neg (by omega), if_pos (Nat.le_refl _), List.drop_eq_nil_of_le (by rw [List.length_take]; omega), List.append_nil]
      rw [← e]
      exact ih
    · have hne := find_ne cs key hri i hil (by rw [← hs]; exact his)
      rw [if_neg (beq_eq_false_iff_ne.1 hne), if_pos (by omega)]
      have e : tP cs s (i + 1) = tP cs s i ++ [cs[i]] := by
        unfold tP
        by_cases h : i < s
        · rw [if_pos (by omega), if_pos (by omega), List.take_succ_eq_append_getElem hil]
        · rw [if_neg (by omega), if_neg (by omega), List.take_succ_eq_append_getElem hil, List.drop_append_of_le_length (by rw [List.length_take]; omega), List.append_assoc]
      rw [e] at ih
      exact ih
theorem rtake_f (b : Bool) (cs : List Ce) (ks : List ByteArray) (kids : List Int) (key : ByteArray) (hn : NdOk cs ks kids) (k : Nat) (hk : 2 * (cs.length + ks.length) + kids.length + 60 ≤ k) : concordref08_Take.f k b cs ks kids key = some (takeV b cs ks kids key) := by
  unfold concordref08_Take.f takeV
  rw [rfind_f b cs ks kids key hn k hk, Option.bind_some]
  by_cases h : (findA b cs ks kids key).2 = true
  · obtain ⟨rfl, hc, e1, hlt, hq⟩ := findA_there h
    rw [rdC_at cs _ hlt] at hq
    have hl := rtake_l0 true cs ks kids key (cs_le_of hc) (rise_leaf hc) _ rfl hlt hq cs.length 0 k (by omega) (by omega)
    rw [if_pos h, if_pos h, e1, Int.toNat_natCast]
    refine Eq.trans ?_ hl
    congr 1
  · rw [if_neg h, if_neg h]
theorem taken_calls (W : World) (b : Bool) (A1 : Option Addr) (n1 c1 : Nat) (A2 : Option Addr) (n2 c2 : Nat) (A3 : Option Addr) (n3 c3 : Nat) (t : Bool) :
    Calls Try.prog 54 #[.agg #[.bool b, .slice A1 n1 c1, .slice A2 n2 c2, .slice A3 n3 c3], .bool t] W fun e w' => e = .returned (.tuple #[.agg #[.bool b, .slice A1 n1 c1, .slice A2 n2 c2, .slice A3 n3 c3], .int .i64 (if t = true then 0 else 9999)]) ∧ Below W.heap.size W w' := by
  have hb1 : Below W.heap.size W (W.alloc (.cells #[.bool b, .slice A1 n1 c1, .slice A2 n2 c2, .slice A3 n3 c3] 26)) := (Below.refl _ _).alloc (Nat.le_refl _) _
  have hs1 : (W.alloc (.cells #[.bool b, .slice A1 n1 c1, .slice A2 n2 c2, .slice A3 n3 c3] 26)).heap.size = W.heap.size + 1 := by show (W.heap.push _).size = _; rw [Array.size_push]
  have hb2 : Below W.heap.size W ((W.alloc (.cells #[.bool b, .slice A1 n1 c1, .slice A2 n2 c2, .slice A3 n3 c3] 26)).alloc (.cells #[.bool b, .slice A1 n1 c1, .slice A2 n2 c2, .slice A3 n3 c3] 26)) := hb1.alloc (by omega) _
  have hbo : ((W.alloc (.cells #[.bool b, .slice A1 n1 c1, .slice A2 n2 c2, .slice A3 n3 c3] 26)).alloc (.cells #[.bool b, .slice A1 n1 c1, .slice A2 n2 c2, .slice A3 n3 c3] 26)).heap[W.heap.size + 1]? = some (.cells #[.bool b, .slice A1 n1 c1, .slice A2 n2 c2, .slice A3 n3 c3] 26 (0, 0)) := by
    rw [← hs1]
    exact blk_new _ _
  have HB := Aside0.mk hb2
  have HO := Aside0.mk hbo
  clear hb1 hs1 hbo hb2
  go_enter Try.func54, Try.ntmps54
  cases t with
  | true =>
    go_wp2_with fail
    (try simp only [Exit.inBlock, Exit.then]); refine bodyPost_ret (results_ct rfl _ _ (W.heap.size + 1) 26 #[.bool b, .slice A1 n1 c1, .slice A2 n2 c2, .slice A3 n3 c3] (0, 0) _ rfl HO.out Try.underlying26 rfl (by kernel_rfl)) rfl ?_
    exact ⟨rfl, HB.out⟩
  | false =>
    go_wp2_with fail
    (try simp only [Exit.inBlock, Exit.then]); refine bodyPost_ret (results_ct rfl _ _ (W.heap.size + 1) 26 #[.bool b, .slice A1 n1 c1, .slice A2 n2 c2, .slice A3 n3 c3] (0, 0) _ rfl HO.out Try.underlying26 rfl (by kernel_rfl)) rfl ?_
    exact ⟨rfl, HB.out⟩
def takeG (key : ByteArray) (b : Bool) (cs : List Ce) (ks : List ByteArray) (kids : List Int) : NdV :=
  (((takeV b cs ks kids key).1, (takeV b cs ks kids key).2.1, (takeV b cs ks kids key).2.2.1, (takeV b cs ks kids key).2.2.2.1), if (takeV b cs ks kids key).2.2.2.2 = true then 0 else 9999)
theorem ask_take1 (w : World) (pk : Addr) (key : ByteArray) (hpk : w.cell? pk = some (.string key)) : Asks w 53 #[.pointer (some pk)] (takeG key) := by
  intro W hB b A1 c1 cs A2 c2 ks A3 c3 kids hc1 hc2 hc3 h1 h2 h3 hn hk
  show Calls Try.prog 53 #[.agg #[.bool b, .slice A1 cs.length c1, .slice A2 ks.length c2, .slice A3 kids.length c3], .pointer (some pk)] W _
  unfold takeG
  generalize hp : takeV b cs ks kids key = P
  obtain ⟨r1, r2, r3, r4, r5⟩ := P
  dsimp only
  generalize her : (if r5 = true then (0 : Int) else 9999) = er
  have HER := Aside0.mk her
  clear her
  have HP := Aside0.mk hp
  clear hp
  have hlw := hB.size
  have hb1 : Below W.heap.size W (W.alloc (.cells #[.bool b, .slice A1 cs.length c1, .slice A2 ks.length c2, .slice A3 kids.length c3] 26)) := (Below.refl _ _).alloc (Nat.le_refl _) _
  have hbx : (W.alloc (.cells #[.bool b, .slice A1 cs.length c1, .slice A2 ks.length c2, .slice A3 kids.length c3] 26)).heap[W.heap.size]? = some (.cells #[.bool b, .slice A1 cs.length c1, .slice A2 ks.length c2, .slice A3 kids.length c3] 26 (0, 0)) := blk_new W _
  have hs1 : (W.alloc (.cells #[.bool b, .slice A1 cs.length c1, .slice A2 ks.length c2, .slice A3 kids.length c3] 26)).heap.size = W.heap.size + 1 := by show (W.heap.push _).size = _; rw [Array.size_push]
  have hb2 : Below W.heap.size W ((W.alloc (.cells #[.bool b, .slice A1 cs.length c1, .slice A2 ks.length c2, .slice A3 kids.length c3] 26)).alloc (.cells #[.bool false, .slice none 0 0, .slice none 0 0, .slice none 0 0] 26)) := hb1.alloc (by omega) _
  have hbo : ((W.alloc (.cells #[.bool b, .slice A1 cs.length c1, .slice A2 ks.length c2, .slice A3 kids.length c3] 26)).alloc (.cells #[.bool false, .slice none 0 0, .slice none 0 0, .slice none 0 0] 26)).heap[W.heap.size + 1]? = some (.cells #[.bool false, .slice none 0 0, .slice none 0 0, .slice none 0 0] 26 (0, 0)) := by
    rw [← hs1]
    exact blk_new _ _
  have hbx2 : ((W.alloc (.cells #[.bool b, .slice A1 cs.length c1, .slice A2 ks.length c2, .slice A3 kids.length c3] 26)).alloc (.cells #[.bool false, .slice none 0 0, .slice none 0 0, .slice none 0 0] 26)).heap[W.heap.size]? = some (.cells #[.bool b, .slice A1 cs.length c1, .slice A2 ks.length c2, .slice A3 kids.length c3] 26 (0, 0)) := blk_below hbx ((Below.refl _ _).alloc (Nat.le_refl _) _)
  have kk := (hb2.cell (Nat.lt_of_lt_of_le (World.block_lt_of_cell? w _ hpk) hlw)).trans ((hB.cell (World.block_lt_of_cell? w _ hpk)).trans hpk)
  have x0 := (blk_cell hbx2 0).trans rfl
  have x1 := (blk_cell hbx2 1).trans rfl
  have x2 := (blk_cell hbx2 2).trans rfl
  have x3 := (blk_cell hbx2 3).trans rfl
  have HB := Aside0.mk hb2
  have HO := Aside0.mk hbo
  have HW := Aside0.mk hlw
  clear hb1 hbx hs1 hbo hbx2 hlw hB hpk
  go_enter Try.func53, Try.ntmps53
  go_wp2_with fail
  generalize (W.alloc (.cells #[.bool b, .slice A1 cs.length c1, .slice A2 ks.length c2, .slice A3 kids.length c3] 26)).alloc (.cells #[.bool false, .slice none 0 0, .slice none 0 0, .slice none 0 0] 26) = w2 at *
  clear x0 x1 x2 x3 kk
  obtain ⟨go, hgo⟩ : ∃ g, g = W.heap.size + 1 := ⟨_, rfl⟩
  rw [← hgo] at HO ⊢
  have HGO : Aside0 (W.heap.size ≤ go) := ⟨by omega⟩
  clear hgo
  refine (node_Take.calls (2 * (cs.length + ks.length) + kids.length + 60) b (fun k => k < w2.heap.size) A1 c1 cs A2 c2 ks A3 c3 kids key r1 r2 r3 r4 r5 w2 (Kd.V_mk hc1 (Kd.C_F heapC (Kd.C_below h1 HB.out))) (Kd.C_below h2 HB.out) hc2 (Kd.C_below h3 HB.out) hc3 ((otake_f b cs ks kids key hn _ (Nat.le_refl _)).trans (congrArg some HP.out))).mono ?_
  rintro e_ w3 ⟨v1, v2, v3, rfl, g1, g2, g3, hb3⟩
  replace HO := Aside0.mk (blk_below HO.out hb3)
  have hw2 := HB.out.size
  replace HB := Aside0.mk (below_then HB.out (below_size HB.out) hb3)
  obtain ⟨D1, d1, rfl⟩ := Kd.R_slice g1
  obtain ⟨D2, d2, rfl⟩ := Kd.R_slice g2
  obtain ⟨D3, d3, rfl⟩ := Kd.R_slice g3
  have G1 := Aside0.mk (Kd.R_lower g1 hw2)
  have G2 := Aside0.mk (Kd.R_lower g2 hw2)
  have G3 := Aside0.mk (Kd.R_lower g3 hw2)
  clear g1 g2 g3 hb3 hw2
  go_wp2_with fail
  have X := taken_calls w3 r1 D1 r2.length d1 D2 r3.length d2 D3 r4.length d3 r5
  rw [HER.out] at X
  refine X.mono ?_
  rintro e_ w4 ⟨rfl, hb4⟩
  clear X
  replace HO := Aside0.mk (blk_below HO.out hb4)
  replace HB := Aside0.mk (below_then HB.out (below_size HB.out) hb4)
  replace G1 := Aside0.mk (Kd.R_below (Kd.R_mono (ok' := fun _ => True) G1.out (fun _ _ => trivial)) hb4)
  replace G2 := Aside0.mk (Kd.R_below (Kd.R_mono (ok' := fun _ => True) G2.out (fun _ _ => trivial)) hb4)
  replace G3 := Aside0.mk (Kd.R_below (Kd.R_mono (ok' := fun _ => True) G3.out (fun _ _ => trivial)) hb4)
  clear hb4
  have o0 : w4.cell? ⟨go, 0, none⟩ = some (.bool false) := (blk_cell HO.out 0).trans rfl
  have o1 : w4.cell? ⟨go, 1, none⟩ = some (.slice none 0 0) := (blk_cell HO.out 1).trans rfl
  have o2 : w4.cell? ⟨go, 2, none⟩ = some (.slice none 0 0) := (blk_cell HO.out 2).trans rfl
  have o3 : w4.cell? ⟨go, 3, none⟩ = some (.slice none 0 0) := (blk_cell HO.out 3).trans rfl
  have f0 := blk_frozen HO.out 0
  have f1 := blk_frozen HO.out 1
  have f2 := blk_frozen HO.out 2
  have f3 := blk_frozen HO.out 3
  go_wp2_with fail
  (try simp only [Exit.inBlock, Exit.then]); refine bodyPost_ret (results_ct rfl _ _ go 26 _ (0, 0) _ rfl (ret_all HO.out _ _ _ _) Try.underlying26 rfl (by kernel_rfl)) rfl ?_
  exact ⟨D1, d1, D2, d2, D3, d3, rfl, NR_seal (R_ret G1.out HO.out (by decide) _ _ _ _) (R_ret G2.out HO.out (by decide) _ _ _ _) (R_ret G3.out HO.out (by decide) _ _ _ _) HW.out, below_set (below_set (below_set (below_set HB.out HGO.out) HGO.out) HGO.out) HGO.out⟩
theorem ask_take2 (w : World) (pk : Addr) (key : ByteArray) (hpk : w.cell? pk = some (.string key)) : Asks w 56 #[.pointer (some pk)] (takeG key) := by
  intro W hB b A1 c1 cs A2 c2 ks A3 c3 kids hc1 hc2 hc3 h1 h2 h3 hn hk
  show Calls Try.prog 56 #[.agg #[.bool b, .slice A1 cs.length c1, .slice A2 ks.length c2, .slice A3 kids.length c3], .pointer (some pk)] W _
  unfold takeG
  generalize hp : takeV b cs ks kids key = P
  obtain ⟨r1, r2, r3, r4, r5⟩ := P
  dsimp only
  generalize her : (if r5 = true then (0 : Int) else 9999) = er
  have HER := Aside0.mk her
  clear her
  have HP := Aside0.mk hp
  clear hp
  have hlw := hB.size
  have hb1 : Below W.heap.size W (W.alloc (.cells #[.bool b, .slice A1 cs.length c1, .slice A2 ks.length c2, .slice A3 kids.length c3] 26)) := (Below.refl _ _).alloc (Nat.le_refl _) _
  have hbx : (W.alloc (.cells #[.bool b, .slice A1 cs.length c1, .slice A2 ks.length c2, .slice A3 kids.length c3] 26)).heap[W.heap.size]? = some (.cells #[.bool b, .slice A1 cs.length c1, .slice A2 ks.length c2, .slice A3 kids.length c3] 26 (0, 0)) := blk_new W _
  have hs1 : (W.alloc (.cells #[.bool b, .slice A1 cs.length c1, .slice A2 ks.length c2, .slice A3 kids.length c3] 26)).heap.size = W.heap.size + 1 := by show (W.heap.push _).size = _; rw [Array.size_push]
  have hb2 : Below W.heap.size W ((W.alloc (.cells #[.bool b, .slice A1 cs.length c1, .slice A2 ks.length c2, .slice A3 kids.length c3] 26)).alloc (.cells #[.bool false, .slice none 0 0, .slice none 0 0, .slice none 0 0] 26)) := hb1.alloc (by omega) _
  have hbo : ((W.alloc (.cells #[.bool b, .slice A1 cs.length c1, .slice A2 ks.length c2, .slice A3 kids.length c3] 26)).alloc (.cells #[.bool false, .slice none 0 0, .slice none 0 0, .slice none 0 0] 26)).heap[W.heap.size + 1]? = some (.cells #[.bool false, .slice none 0 0, .slice none 0 0, .slice none 0 0] 26 (0, 0)) := by
    rw [← hs1]
    exact blk_new _ _
  have hbx2 : ((W.alloc (.cells #[.bool b, .slice A1 cs.length c1, .slice A2 ks.length c2, .slice A3 kids.length c3] 26)).alloc (.cells #[.bool false, .slice none 0 0, .slice none 0 0, .slice none 0 0] 26)).heap[W.heap.size]? = some (.cells #[.bool b, .slice A1 cs.length c1, .slice A2 ks.length c2, .slice A3 kids.length c3] 26 (0, 0)) := blk_below hbx ((Below.refl _ _).alloc (Nat.le_refl _) _)
  have kk := (hb2.cell (Nat.lt_of_lt_of_le (World.block_lt_of_cell? w _ hpk) hlw)).trans ((hB.cell (World.block_lt_of_cell? w _ hpk)).trans hpk)
  have x0 := (blk_cell hbx2 0).trans rfl
  have x1 := (blk_cell hbx2 1).trans rfl
  have x2 := (blk_cell hbx2 2).trans rfl
  have x3 := (blk_cell hbx2 3).trans rfl
  have HB := Aside0.mk hb2
  have HO := Aside0.mk hbo
  have HW := Aside0.mk hlw
  clear hb1 hbx hs1 hbo hbx2 hlw hB hpk
  go_enter Try.func56, Try.ntmps56
  go_wp2_with fail
  generalize (W.alloc (.cells #[.bool b, .slice A1 cs.length c1, .slice A2 ks.length c2, .slice A3 kids.length c3] 26)).alloc (.cells #[.bool false, .slice none 0 0, .slice none 0 0, .slice none 0 0] 26) = w2 at *
  clear x0 x1 x2 x3 kk
  obtain ⟨go, hgo⟩ : ∃ g, g = W.heap.size + 1 := ⟨_, rfl⟩
  rw [← hgo] at HO ⊢
  have HGO : Aside0 (W.heap.size ≤ go) := ⟨by omega⟩
  clear hgo
  refine (concordref08_Take.calls (2 * (cs.length + ks.length) + kids.length + 60) b A1 c1 cs A2 c2 ks A3 c3 kids key r1 r2 r3 r4 r5 w2 (Kd.C_below h1 HB.out) hc1 (Kd.C_below h2 HB.out) hc2 (Kd.C_below h3 HB.out) hc3 ((rtake_f b cs ks kids key hn _ (Nat.le_refl _)).trans (congrArg some HP.out))).mono ?_
  rintro e_ w3 ⟨v1, v2, v3, rfl, g1, g2, g3, hb3⟩
  replace HO := Aside0.mk (blk_below HO.out hb3)
  have hw2 := HB.out.size
  replace HB := Aside0.mk (below_then HB.out (below_size HB.out) hb3)
  obtain ⟨D1, d1, rfl⟩ := Kd.R_slice g1
  obtain ⟨D2, d2, rfl⟩ := Kd.R_slice g2
  obtain ⟨D3, d3, rfl⟩ := Kd.R_slice g3
  have G1 := Aside0.mk (Kd.R_lower g1 hw2)
  have G2 := Aside0.mk (Kd.R_lower g2 hw2)
  have G3 := Aside0.mk (Kd.R_lower g3 hw2)
  clear g1 g2 g3 hb3 hw2
  go_wp2_with fail
  have X := taken_calls w3 r1 D1 r2.length d1 D2 r3.length d2 D3 r4.length d3 r5
  rw [HER.out] at X
  refine X.mono ?_
  rintro e_ w4 ⟨rfl, hb4⟩
  clear X
  replace HO := Aside0.mk (blk_below HO.out hb4)
  replace HB := Aside0.mk (below_then HB.out (below_size HB.out) hb4)
  replace G1 := Aside0.mk (Kd.R_below (Kd.R_mono (ok' := fun _ => True) G1.out (fun _ _ => trivial)) hb4)
  replace G2 := Aside0.mk (Kd.R_below (Kd.R_mono (ok' := fun _ => True) G2.out (fun _ _ => trivial)) hb4)
  replace G3 := Aside0.mk (Kd.R_below (Kd.R_mono (ok' := fun _ => True) G3.out (fun _ _ => trivial)) hb4)
  clear hb4
  have o0 : w4.cell? ⟨go, 0, none⟩ = some (.bool false) := (blk_cell HO.out 0).trans rfl
  have o1 : w4.cell? ⟨go, 1, none⟩ = some (.slice none 0 0) := (blk_cell HO.out 1).trans rfl
  have o2 : w4.cell? ⟨go, 2, none⟩ = some (.slice none 0 0) := (blk_cell HO.out 2).trans rfl
  have o3 : w4.cell? ⟨go, 3, none⟩ = some (.slice none 0 0) := (blk_cell HO.out 3).trans rfl
  have f0 := blk_frozen HO.out 0
  have f1 := blk_frozen HO.out 1
  have f2 := blk_frozen HO.out 2
  have f3 := blk_frozen HO.out 3
  go_wp2_with fail
  (try simp only [Exit.inBlock, Exit.then]); refine bodyPost_ret (results_ct rfl _ _ go 26 _ (0, 0) _ rfl (ret_all HO.out _ _ _ _) Try.underlying26 rfl (by kernel_rfl)) rfl ?_
  exact ⟨D1, d1, D2, d2, D3, d3, rfl, NR_seal (R_ret G1.out HO.out (by decide) _ _ _ _) (R_ret G2.out HO.out (by decide) _ _ _ _) (R_ret G3.out HO.out (by decide) _ _ _ _) HW.out, below_set (below_set (below_set (below_set HB.out HGO.out) HGO.out) HGO.out) HGO.out⟩
end Go.Proofs.Ytdjjpgdhnoibkaa.My
namespace Go.Proofs.Ytdjjpgdhnoibkaa.My
open Go.RowKit Go.Proofs.YtdjjpgdhnoibkaaW.PrintWords Go.Proofs.YtdjjpgdhnoibkaaW.PrintLast Go.Proofs.YtdjjpgdhnoibkaaW.PrintMore Go.Proofs.Ytdjjpgdhnoibkaa Go.Proofs.Ytdjjpgdhnoibkaa.PZ Go.Proofs.Ytdjjpgdhnoibkaa.PD
set_option linter.unusedSimpArgs false
set_option linter.unusedVariables false
set_option maxRecDepth 100000
set_option maxHeartbeats 3200000
attribute [local go_sem high] conv_rune str_leq str_gtr
theorem ins_len (cs : List Ce) (key value : ByteArray) (h : cs.length ≤ 2000) : (insV cs key value).length ≤ 4001 := by
  unfold insV
  rw [List.length_append, List.length_cons, List.length_take, List.length_drop]
  omega
theorem putG_len (key value : ByteArray) (b : Bool) (cs : List Ce) (ks : List ByteArray) (kids : List Int) : (putG key value b cs ks kids).1.2.1.length ≤ 1000000 ∧ (putG key value b cs ks kids).1.2.2.1.length ≤ 1000000 ∧ (putG key value b cs ks kids).1.2.2.2.length ≤ 1000000 := by
  unfold putG putV
  dsimp only
  by_cases hc : chkV b cs ks kids = 0
  · rw [if_pos hc]
    cases b with
    | false => rw [if_neg (by decide)]; simp
    | true =>
      have hl := ins_len cs key value (cs_le_of hc)
      rw [if_pos rfl]
      split
      · simp
      · split
        · simp
        · split
          · simp
          · simp; omega
  · rw [if_neg hc]; simp
theorem takeG_len (key : ByteArray) (b : Bool) (cs : List Ce) (ks : List ByteArray) (kids : List Int) : (takeG key b cs ks kids).1.2.1.length ≤ 1000000 ∧ (takeG key b cs ks kids).1.2.2.1.length ≤ 1000000 ∧ (takeG key b cs ks kids).1.2.2.2.length ≤ 1000000 := by
  unfold takeG takeV
  dsimp only
  by_cases h : (findA b cs ks kids key).2 = true
  · obtain ⟨rfl, hc, _⟩ := findA_there h
    have hl := cs_le_of hc
    rw [if_pos h]
    refine ⟨?_, by simp, by simp⟩
    dsimp only
    rw [List.length_append, List.length_take, List.length_drop]
    omega
  · rw [if_neg h]; simp
theorem agains (NA NW : Nat) (ca cw : Array Value) (hea : ∀ (args : Array Value) (W : World), (callFunc NA args).run Try.prog W = .ok (.enter NA args) W) (hew : ∀ (args : Array Value) (W : World), (callFunc NW args).run Try.prog W = .ok (.enter NW args) W) (G : Bool → List Ce → List ByteArray → List Int → NdV) (hG : ∀ b cs ks kids, (G b cs ks kids).1.2.1.length ≤ 1000000 ∧ (G b cs ks kids).1.2.2.1.length ≤ 1000000 ∧ (G b cs ks kids).1.2.2.2.length ≤ 1000000) (w : World) (b : Bool) (A1 : Option Addr) (c1 : Nat) (cs : List S66) (A2 : Option Addr) (c2 : Nat) (ks : List ByteArray) (A3 : Option Addr) (c3 : Nat) (kids : List Int) (hc1 : cs.length ≤ c1) (hc2 : ks.length ≤ c2) (hc3 : kids.length ≤ c3) (h1 : Kd.C k66 w A1 cs.length cs) (h2 : Kd.C Kd.string w A2 ks.length ks) (h3 : Kd.C (Kd.int .u32) w A3 kids.length kids) (hk : ∀ x ∈ kids, 0 ≤ x ∧ x < 4294967296) (hn : NdOk cs ks kids ∧ NdRoom cs ks kids) (hA : Asks w NA ca G) (hW : Asks w NW cw G) :
    Calls Try.prog 36 #[.agg #[.bool b, .slice A1 cs.length c1, .slice A2 ks.length c2, .slice A3 kids.length c3], .func (.func NA) #[] ca, .func (.func NW) #[] cw] w fun e w' => e = .returned (.bool true) ∧ Below w.heap.size w w' := by
  obtain ⟨t1, t2, t3, hl, e1, e2, e3⟩ := lent2_f b cs ks kids hn.1 hn.2
  obtain ⟨r1, r2, r3, ho, l1, l2, l3, hn', hk'⟩ := over_f b cs ks kids hn.1 hk _ (Nat.le_refl _)
  exact again_go NA NW ca cw hea hew G w hA hW b A1 c1 cs A2 c2 ks A3 c3 kids hc1 hc2 hc3 h1 h2 h3 hk hn.1 t1 t2 t3 hl e1 e2 e3 r1 r2 r3 _ ho l1 l2 l3 hn' hk' _ _ _ _ _ rfl _ _ _ _ _ rfl (hG b cs ks kids) (hG b r1 r2 r3)
theorem NodePuts_walk (w : World) (b : Bool) (A1 : Option Addr) (c1 : Nat) (cs : List S66) (A2 : Option Addr) (c2 : Nat) (ks : List ByteArray) (A3 : Option Addr) (c3 : Nat) (kids : List Int) (hc1 : cs.length ≤ c1) (hc2 : ks.length ≤ c2) (hc3 : kids.length ≤ c3) (h1 : Kd.C k66 w A1 cs.length cs) (h2 : Kd.C Kd.string w A2 ks.length ks) (h3 : Kd.C (Kd.int .u32) w A3 kids.length kids) (hk : ∀ x ∈ kids, 0 ≤ x ∧ x < 4294967296) (hn : NdOk cs ks kids ∧ NdRoom cs ks kids) (key : ByteArray) (hks : key.size ≤ 140737488351232) (value : ByteArray) (hvs : value.size ≤ 140737488351232) :
    Calls Try.prog 9 #[.agg #[.bool b, .slice A1 cs.length c1, .slice A2 ks.length c2, .slice A3 kids.length c3], .string key, .string value] w fun e w' => e = .returned (.bool true) ∧ Below w.heap.size w w' := by
  have s1 : (w.alloc (.cells #[.bool b, .slice A1 cs.length c1, .slice A2 ks.length c2, .slice A3 kids.length c3] 26)).heap.size = w.heap.size + 1 := by show (w.heap.push _).size = _; rw [Array.size_push]
  have s2 : ((w.alloc (.cells #[.bool b, .slice A1 cs.length c1, .slice A2 ks.length c2, .slice A3 kids.length c3] 26)).alloc (.cells #[.string key] 9)).heap.size = w.heap.size + 1 + 1 := by show ((w.alloc (.cells #[.bool b, .slice A1 cs.length c1, .slice A2 ks.length c2, .slice A3 kids.length c3] 26)).heap.push _).size = _; rw [Array.size_push, s1]
  have hb1 : Below w.heap.size w (w.alloc (.cells #[.bool b, .slice A1 cs.length c1, .slice A2 ks.length c2, .slice A3 kids.length c3] 26)) := (Below.refl _ _).alloc (Nat.le_refl _) _
  have hb2 : Below w.heap.size w ((w.alloc (.cells #[.bool b, .slice A1 cs.length c1, .slice A2 ks.length c2, .slice A3 kids.length c3] 26)).alloc (.cells #[.string key] 9)) := hb1.alloc (by omega) _
  have hb3 : Below w.heap.size w (((w.alloc (.cells #[.bool b, .slice A1 cs.length c1, .slice A2 ks.length c2, .slice A3 kids.length c3] 26)).alloc (.cells #[.string key] 9)).alloc (.cells #[.string value] 9)) := hb2.alloc (by omega) _
  have hn1 : (((w.alloc (.cells #[.bool b, .slice A1 cs.length c1, .slice A2 ks.length c2, .slice A3 kids.length c3] 26)).alloc (.cells #[.string key] 9)).alloc (.cells #[.string value] 9)).heap[w.heap.size]? = some (.cells #[.bool b, .slice A1 cs.length c1, .slice A2 ks.length c2, .slice A3 kids.length c3] 26 (0, 0)) := blk_below (blk_below (blk_new w _) ((Below.refl _ _).alloc (Nat.le_refl _) _)) ((Below.refl _ _).alloc (Nat.le_refl _) _)
  have hk2 : ((w.alloc (.cells #[.bool b, .slice A1 cs.length c1, .slice A2 ks.length c2, .slice A3 kids.length c3] 26)).alloc (.cells #[.string key] 9)).heap[w.heap.size + 1]? = some (.cells #[.string key] 9 (0, 0)) := by
    rw [← s1]
    exact blk_new _ _
  have hk1 : (((w.alloc (.cells #[.bool b, .slice A1 cs.length c1, .slice A2 ks.length c2, .slice A3 kids.length c3] 26)).alloc (.cells #[.string key] 9)).alloc (.cells #[.string value] 9)).heap[w.heap.size + 1]? = some (.cells #[.string key] 9 (0, 0)) := blk_below hk2 ((Below.refl _ _).alloc (Nat.le_refl _) _)
  have hv1 : (((w.alloc (.cells #[.bool b, .slice A1 cs.length c1, .slice A2 ks.length c2, .slice A3 kids.length c3] 26)).alloc (.cells #[.string key] 9)).alloc (.cells #[.string value] 9)).heap[w.heap.size + 1 + 1]? = some (.cells #[.string value] 9 (0, 0)) := by
    rw [← s2]
    exact blk_new _ _
  have c0 : (((w.alloc (.cells #[.bool b, .slice A1 cs.length c1, .slice A2 ks.length c2, .slice A3 kids.length c3] 26)).alloc (.cells #[.string key] 9)).alloc (.cells #[.string value] 9)).cell? ⟨w.heap.size, 0, none⟩ = some (.bool b) := (blk_cell hn1 0).trans rfl
  have c1' : (((w.alloc (.cells #[.bool b, .slice A1 cs.length c1, .slice A2 ks.length c2, .slice A3 kids.length c3] 26)).alloc (.cells #[.string key] 9)).alloc (.cells #[.string value] 9)).cell? ⟨w.heap.size, 1, none⟩ = some (.slice A1 cs.length c1) := (blk_cell hn1 1).trans rfl
  have c2' : (((w.alloc (.cells #[.bool b, .slice A1 cs.length c1, .slice A2 ks.length c2, .slice A3 kids.length c3] 26)).alloc (.cells #[.string key] 9)).alloc (.cells #[.string value] 9)).cell? ⟨w.heap.size, 2, none⟩ = some (.slice A2 ks.length c2) := (blk_cell hn1 2).trans rfl
  have c3' : (((w.alloc (.cells #[.bool b, .slice A1 cs.length c1, .slice A2 ks.length c2, .slice A3 kids.length c3] 26)).alloc (.cells #[.string key] 9)).alloc (.cells #[.string value] 9)).cell? ⟨w.heap.size, 3, none⟩ = some (.slice A3 kids.length c3) := (blk_cell hn1 3).trans rfl
  have HB := Aside0.mk hb3
  have HN := Aside0.mk hn1
  have HK := Aside0.mk hk1
  have HV := Aside0.mk hv1
  have HNN := Aside0.mk hn
  clear hb1 hb2 hb3 s1 s2 hk2 hn1 hk1 hv1 hn
  go_enter Try.func9, Try.ntmps9
  go_wp2_with fail
  clear c0 c1' c2' c3'
  generalize ((w.alloc (.cells #[.bool b, .slice A1 cs.length c1, .slice A2 ks.length c2, .slice A3 kids.length c3] 26)).alloc (.cells #[.string key] 9)).alloc (.cells #[.string value] 9) = w3 at *
  obtain ⟨gn, hgn⟩ : ∃ g, g = w.heap.size := ⟨_, rfl⟩
  obtain ⟨gk, hgk⟩ : ∃ g, g = w.heap.size + 1 := ⟨_, rfl⟩
  obtain ⟨gv, hgv⟩ : ∃ g, g = w.heap.size + 1 + 1 := ⟨_, rfl⟩
  rw [← hgv] at HV ⊢
  rw [← hgk] at HK ⊢
  rw [← hgn] at HN ⊢
  clear hgn hgk hgv
  have kk : w3.cell? ⟨gk, 0, none⟩ = some (.string key) := (blk_cell HK.out 0).trans rfl
  have kv : w3.cell? ⟨gv, 0, none⟩ = some (.string value) := (blk_cell HV.out 0).trans rfl
  refine (agains 49 51 _ _ (enters_ Try.func49 (by kernel_rfl) rfl) (enters_ Try.func51 (by kernel_rfl) rfl) (putG key value) (putG_len key value) w3 b A1 c1 cs A2 c2 ks A3 c3 kids hc1 hc2 hc3 (Kd.C_below h1 HB.out) (Kd.C_below h2 HB.out) (Kd.C_below h3 HB.out) hk HNN.out (ask_put1 w3 _ _ key value kk kv hks hvs) (ask_put2 w3 _ _ key value kk kv hks hvs)).mono ?_
  rintro e_ w4 ⟨rfl, hb4⟩
  replace HN := Aside0.mk (blk_below HN.out hb4)
  replace HK := Aside0.mk (blk_below HK.out hb4)
  replace HB := Aside0.mk (below_then HB.out (below_size HB.out) hb4)
  clear kk kv hb4
  have c0 : w4.cell? ⟨gn, 0, none⟩ = some (.bool b) := (blk_cell HN.out 0).trans rfl
  have c1' : w4.cell? ⟨gn, 1, none⟩ = some (.slice A1 cs.length c1) := (blk_cell HN.out 1).trans rfl
  have c2' : w4.cell? ⟨gn, 2, none⟩ = some (.slice A2 ks.length c2) := (blk_cell HN.out 2).trans rfl
  have c3' : w4.cell? ⟨gn, 3, none⟩ = some (.slice A3 kids.length c3) := (blk_cell HN.out 3).trans rfl
  go_wp2_with fail
  clear c0 c1' c2' c3'
  have kk : w4.cell? ⟨gk, 0, none⟩ = some (.string key) := (blk_cell HK.out 0).trans rfl
  refine (agains 53 56 _ _ (enters_ Try.func53 (by kernel_rfl) rfl) (enters_ Try.func56 (by kernel_rfl) rfl) (takeG key) (takeG_len key) w4 b A1 c1 cs A2 c2 ks A3 c3 kids hc1 hc2 hc3 (Kd.C_below h1 HB.out) (Kd.C_below h2 HB.out) (Kd.C_below h3 HB.out) hk HNN.out (ask_take1 w4 _ key kk) (ask_take2 w4 _ key kk)).mono ?_
  rintro e_ w5 ⟨rfl, hb5⟩
  replace HB := Aside0.mk (below_then HB.out (below_size HB.out) hb5)
  clear kk hb5
  go_wp2_with fail
  go_ret
  exact ⟨rfl, HB.out⟩
end Go.Proofs.Ytdjjpgdhnoibkaa.My
