/- NodeChecks. -/
import Derived.Test.YtdjjpgdhnoibkaaRows
import Derived.Test.YtdjjpgdhnoibkaaWWords
import Derived.Deep.Slices
import Derived.Deep.Fields
import Derived.ChangeSame
import Derived.SizedLaws
import Derived.Lib.SmallJoins
import Derived.Test.YtdjjpgdhnoibkaaNdFindP
import Derived.Test.YtdjjpgdhnoibkaaNdEnc
import Derived.Test.YtdjjpgdhnoibkaaPCy2
import Derived.Test.YtdjjpgdhnoibkaaNdMem
namespace Go.Proofs.Ytdjjpgdhnoibkaa.My
open Go.ChangeShapes Go.WideShapes Go.Deep Go.RowKit Go.Proofs.YtdjjpgdhnoibkaaW.PrintWords
set_option linter.unusedSimpArgs false
set_option linter.unusedVariables false
section
variable {H : Type} {enc : TypeId × Value → H} {P : Program} {w : World} {base : Nat} {spare : Nat → Bool} {held : Bool}
theorem open_rows {α : Type} [Inhabited α] {t e : TypeId} (ht : P.underlying t = some (.slice e)) (sz : Nat) (hsz : P.cellsOf e = sz) (cells : α → List Value) (hcl : ∀ x, (cells x).length = sz) (Good : DataW H → α → Prop)
    (hdec : ∀ n cs d pl, DataW.trod enc P w base spare held n e cs = some (d, pl) → cs.length = sz → ∃ x, cs = cells x ∧ Good d x)
    {a : Option Addr} {len cap : Nat} {d : DataW H} {ps : List MemPlace} (h : DataW.Trod enc P w base spare held t (.slice a len cap) d ps) :
    ∃ xs : List α, xs.length = len ∧ len ≤ cap ∧ cap ≤ maxLen ∧ ReadsRow (fun x cs => cs = cells x) sz w a len xs ∧
      ((d = .nil ∧ xs = []) ∨ ∃ elems sp, d = .slice elems sp ∧ elems.length = len ∧ ∀ (i : Nat) (x : α), xs[i]? = some x → ∃ y, elems[i]? = some y ∧ Good y x) := by
  obtain ⟨fuel, hf⟩ := h
  rcases open_slice ht hf with ⟨h0, hx⟩ | ⟨ad, ln, cp, m, n, D, Pl, hcs, hb, hl, hm, hmm, hx, hi⟩
  · simp [Value.cells] at h0
    obtain ⟨rfl, rfl, rfl⟩ := h0
    exact ⟨[], rfl, Nat.le_refl _, Nat.zero_le _, ⟨rfl, by omega, fun h => absurd h (Nat.lt_irrefl 0)⟩, .inl ⟨(Prod.mk.inj hx).1, rfl⟩⟩
  · simp [Value.cells] at hcs
    obtain ⟨rfl, rfl, rfl⟩ := hcs
    have hlm : len ≤ m := by rw [hmm]; split <;> omega
    have hex : ∀ i, ∃ x : α, i < len → (∀ j u, (cells x)[j]? = some u → w.cell? (ad.add (i * sz + j)) = some u) ∧ Good (D i) x := by
      intro i
      by_cases hil : i < len
      · obtain ⟨cs', hc, ht'⟩ := hi i (by omega)
        rw [hsz] at hc
        obtain ⟨_, hcl', hat⟩ := World.cells?_some hc
        obtain ⟨x, rfl, hg⟩ := hdec n cs' (D i) (Pl i) ht' hcl'
        refine ⟨x, fun _ => ⟨fun j u hu => ?_, hg⟩⟩
        have hj : j < sz := by rw [← hcl']; exact (List.getElem?_eq_some_iff.1 hu).1
        rw [← Go.Deep.add_add, hat j hj, hu]
      · exact ⟨default, fun h => absurd h hil⟩
    obtain ⟨f, hf⟩ := Classical.axiomOfChoice hex
    refine ⟨(List.range len).map f, by simp, hl, hm, ⟨by simp, by unfold maxLen at hm; omega, fun _ => ⟨ad, rfl, fun j p hj => ?_⟩⟩, .inr ⟨_, _, (Prod.mk.inj hx).1, by simp, fun i x hx => ?_⟩⟩
    · obtain ⟨hj1, hj2⟩ := List.getElem?_eq_some_iff.1 hj
      have hjl : j < len := by simpa using hj1
      have hp : f j = p := by simpa using hj2
      subst hp
      exact ⟨cells (f j), hcl _, rfl, (hf j hjl).1⟩
    · obtain ⟨hj1, hj2⟩ := List.getElem?_eq_some_iff.1 hx
      have hjl : i < len := by simpa using hj1
      have hp : f i = x := by simpa using hj2
      subst hp
      exact ⟨D i, by simp [hjl], (hf i hjl).2⟩
end
theorem weights_all {H : Type} {P : Program} {e : TypeId} : ∀ {l : List (DataW H)} {d : DataW H}, d ∈ l → ∀ n ∈ d.weights P e, n ∈ DataW.weightsAll P e l
  | [], _, h, _, _ => by cases h
  | x :: r, d, h, n, hn => by
    simp only [DataW.weightsAll, List.mem_append]
    rcases List.mem_cons.1 h with rfl | h
    · exact .inl hn
    · exact .inr (weights_all h n hn)
end Go.Proofs.Ytdjjpgdhnoibkaa.My
namespace Go.Proofs.Ytdjjpgdhnoibkaa.My
open Go.ChangeShapes Go.WideShapes Go.Deep Go.RowKit Go.Joins Go.Proofs.YtdjjpgdhnoibkaaW.PrintWords Go.Proofs.Ytdjjpgdhnoibkaa.PZ
set_option linter.unusedSimpArgs false
set_option linter.unusedVariables false
set_option maxRecDepth 100000
instance : Inhabited S66 := ⟨z66⟩
def cellCells (x : S66) : List Value := [.string x.f0, .string x.f1]
def CellGood {H : Type} (y : DataW H) (x : S66) : Prop := y = .agg [.lit (.string x.f0.data.toList), .lit (.string x.f1.data.toList)]
def StrGood {H : Type} (y : DataW H) (x : ByteArray) : Prop := y = .lit (.string x.data.toList)
def IntGood {H : Type} (y : DataW H) (x : Int) : Prop := (Lit.int .u32 x).wf = true
theorem slice_shape {H : Type} {enc : TypeId × Value → H} {P : Program} {w : World} {base : Nat} {spare : Nat → Bool} {held : Bool} {n : Nat} {t e : TypeId} {v : Value} {y : DataW H × List MemPlace} (ht : P.underlying t = some (.slice e)) (h : DataW.trod enc P w base spare held n t [v] = some y) : ∃ a len cap, v = .slice a len cap ∧ DataW.Trod enc P w base spare held t (.slice a len cap) y.1 y.2 := by
  rcases open_slice ht h with ⟨h0, _⟩ | ⟨a, len, cap, _, _, _, _, h0, _⟩
  · obtain rfl := List.singleton_inj.1 h0
    exact ⟨none, 0, 0, rfl, n, by simpa [Value.cells] using h⟩
  · obtain rfl := List.singleton_inj.1 h0
    exact ⟨some a, len, cap, rfl, n, by simpa [Value.cells] using h⟩
section
variable {H : Type} {enc : TypeId × Value → H} {w : World} {base : Nat} {spare : Nat → Bool} {held : Bool}
theorem dec_cell (n : Nat) (cs : List Value) (d : DataW H) (pl : List MemPlace) (h : DataW.trod enc Try.prog w base spare held n 66 cs = some (d, pl)) (hl : cs.length = 2) : ∃ x : S66, cs = cellCells x ∧ CellGood d x := by
  match cs, hl with
  | [c0, c1], _ =>
    obtain ⟨ys, n', _, hy, _, hyl, hf⟩ := DataW.trod_struct Try.underlying66 h
    have k1 : Try.prog.cellsOf 9 = 1 := by kernel_rfl
    match ys, hyl with
    | [y0, y1], _ =>
      have x0 : DataW.trod enc Try.prog w base spare held n' 9 (([c0, c1].drop 0).take (Try.prog.cellsOf 9)) = some y0 := hf 0 _ rfl
      have x1 : DataW.trod enc Try.prog w base spare held n' 9 (([c0, c1].drop 1).take (Try.prog.cellsOf 9)) = some y1 := hf 1 _ rfl
      simp only [k1, List.drop_zero, List.drop_succ_cons, List.take_succ_cons, List.take_zero] at x0 x1
      obtain ⟨s, e0, rfl, w0⟩ := DataW.trod_string Try.underlying9 x0
      obtain ⟨m, e1, rfl, w1⟩ := DataW.trod_string Try.underlying9 x1
      obtain rfl := List.singleton_inj.1 e0
      obtain rfl := List.singleton_inj.1 e1
      exact ⟨⟨s, m⟩, rfl, (Prod.mk.inj hy).1⟩
theorem dec_str (n : Nat) (cs : List Value) (d : DataW H) (pl : List MemPlace) (h : DataW.trod enc Try.prog w base spare held n 9 cs = some (d, pl)) (hl : cs.length = 1) : ∃ x : ByteArray, cs = [.string x] ∧ StrGood d x := by
  obtain ⟨s, e0, e1, _⟩ := DataW.trod_string Try.underlying9 h
  exact ⟨s, e0, (Prod.mk.inj e1).1⟩
theorem dec_u32 (n : Nat) (cs : List Value) (d : DataW H) (pl : List MemPlace) (h : DataW.trod enc Try.prog w base spare held n 45 cs = some (d, pl)) (hl : cs.length = 1) : ∃ x : Int, cs = [.int .u32 x] ∧ IntGood d x := by
  obtain ⟨s, e0, e1, hw⟩ := DataW.trod_int Try.underlying45 h
  exact ⟨s, e0, hw⟩
theorem weight_len {P : Program} {t e : TypeId} {elems sp : List (DataW H)} (hu : P.underlying t = some (.slice e)) (B : Nat) (hB : P.bytesOf e = B) (hw : ∀ n ∈ DataW.weights P t (.slice elems sp : DataW H), n ≤ 140737488351232) : elems.length * B ≤ 140737488351232 := by
  have h := hw ((elems.length + sp.length) * B) (by
    simp only [DataW.weights, hu, hB]
    exact List.mem_cons_self)
  exact Nat.le_trans (Nat.mul_le_mul_right _ (Nat.le_add_right _ _)) h
theorem weight_mem {P : Program} {t e : TypeId} {elems sp : List (DataW H)} (hu : P.underlying t = some (.slice e)) (hw : ∀ n ∈ DataW.weights P t (.slice elems sp : DataW H), n ≤ 140737488351232) {y : DataW H} (hy : y ∈ elems) : ∀ n ∈ y.weights P e, n ≤ 140737488351232 := by
  intro n hn
  refine hw n ?_
  simp only [DataW.weights, hu]
  exact List.mem_cons_of_mem _ (List.mem_append_left _ (weights_all hy n hn))
/-- A node. -/
theorem open_node {r : Reach} {b0 : Nat} {v : Value} {D : DataW H} {p : List MemPlace} (hv : Value.okWide Try.prog w r b0 26 v) (h : DataW.Trod enc Try.prog w base spare held 26 v D p) :
    ∃ (b : Bool) (A1 : Option Addr) (c1 : Nat) (cs : List S66) (A2 : Option Addr) (c2 : Nat) (ks : List ByteArray) (A3 : Option Addr) (c3 : Nat) (kids : List Int), v = .agg #[.bool b, .slice A1 cs.length c1, .slice A2 ks.length c2, .slice A3 kids.length c3] ∧
      cs.length ≤ c1 ∧ ks.length ≤ c2 ∧ kids.length ≤ c3 ∧ Kd.C k66 w A1 cs.length cs ∧ Kd.C Kd.string w A2 ks.length ks ∧ Kd.C (Kd.int .u32) w A3 kids.length kids ∧ (∀ x ∈ kids, 0 ≤ x ∧ x < 4294967296) ∧
      ((∀ n ∈ D.weights Try.prog 26, n ≤ 140737488351232) → NdOk cs ks kids ∧ NdRoom cs ks kids) := by
  obtain ⟨v0, v1, v2, v3, y0, y1, y2, y3, n, rfl, hD, _, x0, x1, x2, x3⟩ := open_agg4 Try.underlying26 (by kernel_rfl) (by kernel_rfl) hv h
  obtain ⟨b, e0, _⟩ := DataW.trod_bool Try.underlying4 x0
  obtain rfl := List.singleton_inj.1 e0
  obtain ⟨A1, l1, c1, rfl, t1⟩ := slice_shape Try.underlying22 x1
  obtain ⟨A2, l2, c2, rfl, t2⟩ := slice_shape Try.underlying23 x2
  obtain ⟨A3, l3, c3, rfl, t3⟩ := slice_shape Try.underlying24 x3
  obtain ⟨cs, hl1, hc1, _, hr1, hd1⟩ := open_rows Try.underlying22 2 (by kernel_rfl) cellCells (fun _ => rfl) CellGood dec_cell t1
  obtain ⟨ks, hl2, hc2, _, hr2, hd2⟩ := open_rows (α := ByteArray) Try.underlying23 1 (by kernel_rfl) (fun x => [.string x]) (fun _ => rfl) StrGood dec_str t2
  obtain ⟨kids, hl3, hc3, _, hr3, hd3⟩ := open_rows (α := Int) Try.underlying24 1 (by kernel_rfl) (fun x => [.int .u32 x]) (fun _ => rfl) IntGood dec_u32 t3
  subst hl1 hl2 hl3
  have hk : ∀ x ∈ kids, 0 ≤ x ∧ x < 4294967296 := by
    intro x hx
    obtain ⟨i, hi, hix⟩ := List.getElem_of_mem hx
    have hx2 : kids[i]? = some x := by rw [List.getElem?_eq_getElem hi, hix]
    rcases hd3 with ⟨_, rfl⟩ | ⟨elems, sp, _, hel, hg⟩
    · cases hx
    · obtain ⟨y, hy, h1⟩ := hg i x hx2
      unfold IntGood at h1
      simp [Lit.wf, IntKind.min, IntKind.max, IntKind.signed, IntKind.bits] at h1
      omega
  refine ⟨b, A1, c1, cs, A2, c2, ks, A3, c3, kids, rfl, hc1, hc2, hc3, ReadsRow.imp_ hr1 (Below.refl _ _) (fun x cs hp => by rw [hp]; exact k66_mk w x), ReadsRow.imp_ hr2 (Below.refl _ _) (fun x cs hp => hp), ReadsRow.imp_ hr3 (Below.refl _ _) (fun x cs hp => hp), hk, fun hw => ?_⟩
  have hwj : ∀ (j : Nat) (t : TypeId) (d : DataW H), ([4, 22, 23, 24] : List TypeId)[j]? = some t → [y0.1, y1.1, y2.1, y3.1][j]? = some d → ∀ n ∈ d.weights Try.prog t, n ≤ 140737488351232 := by
    intro j t d ht hd n hn
    refine hw n ?_
    rw [hD]
    simp only [DataW.weights, Try.underlying26]
    exact DataW.weights_mem_each ht hd n hn
  have w1 := hwj 1 _ _ rfl rfl
  have w2 := hwj 2 _ _ rfl rfl
  have w3 := hwj 3 _ _ rfl rfl
  clear hwj hw hD x0 x1 x2 x3 t1 t2 t3 h
  have q1 : cs.length * 32 ≤ 140737488351232 ∧ ∀ c ∈ cs, c.f0.size ≤ 140737488351232 ∧ c.f1.size ≤ 140737488351232 := by
    rcases hd1 with ⟨_, rfl⟩ | ⟨elems, sp, he, hel, hg⟩
    · exact ⟨by decide, fun c hc => by cases hc⟩
    · rw [he] at w1
      refine ⟨hel ▸ weight_len Try.underlying22 32 (by kernel_rfl) w1, fun c hc => ?_⟩
      obtain ⟨i, hi, hix⟩ := List.getElem_of_mem hc
      obtain ⟨y, hy, h1⟩ := hg i c (by rw [List.getElem?_eq_getElem hi, hix])
      have h2 := weight_mem Try.underlying22 w1 (List.mem_of_getElem? hy)
      unfold CellGood at h1
      rw [h1] at h2
      simp only [DataW.weights, Try.underlying66, DataW.weightsEach] at h2
      exact ⟨by have := h2 c.f0.data.toList.length (by simp [DataW.weightsEach, DataW.weights]); rwa [data_length] at this, by have := h2 c.f1.data.toList.length (by simp [DataW.weightsEach, DataW.weights]); rwa [data_length] at this⟩
  have q2 : ks.length * 16 ≤ 140737488351232 ∧ ∀ k ∈ ks, k.size ≤ 140737488351232 := by
    rcases hd2 with ⟨_, rfl⟩ | ⟨elems, sp, he, hel, hg⟩
    · exact ⟨by decide, fun c hc => by cases hc⟩
    · rw [he] at w2
      refine ⟨hel ▸ weight_len Try.underlying23 16 (by kernel_rfl) w2, fun c hc => ?_⟩
      obtain ⟨i, hi, hix⟩ := List.getElem_of_mem hc
      obtain ⟨y, hy, h1⟩ := hg i c (by rw [List.getElem?_eq_getElem hi, hix])
      have h2 := weight_mem Try.underlying23 w2 (List.mem_of_getElem? hy)
      unfold StrGood at h1
      rw [h1] at h2
      have := h2 c.data.toList.length (by simp [DataW.weights])
      rwa [data_length] at this
  have q3 : kids.length * 4 ≤ 140737488351232 := by
    rcases hd3 with ⟨_, rfl⟩ | ⟨elems, sp, he, hel, hg⟩
    · decide
    · rw [he] at w3
      exact hel ▸ weight_len Try.underlying24 4 (by kernel_rfl) w3
  exact ⟨⟨⟨by omega, by omega, by omega⟩, q1.2, q2.2⟩, by unfold NdRoom; omega⟩
end
end Go.Proofs.Ytdjjpgdhnoibkaa.My
namespace Go.Proofs.Ytdjjpgdhnoibkaa.My
open Go.RowKit Go.Proofs.YtdjjpgdhnoibkaaW.PrintWords Go.Proofs.YtdjjpgdhnoibkaaW.PrintLast Go.Proofs.YtdjjpgdhnoibkaaW.PrintMore Go.Proofs.Ytdjjpgdhnoibkaa Go.Proofs.Ytdjjpgdhnoibkaa.PZ Go.Proofs.Ytdjjpgdhnoibkaa.PC
set_option linter.unusedSimpArgs false
set_option linter.unusedVariables false
set_option maxRecDepth 100000
set_option maxHeartbeats 1600000
theorem fixed_l0 : ∀ (m v k : Nat) (tail : List Int), v < 18446744073709551616 → m + tail.length ≤ 100 → m + 1 ≤ k → concordref01_Fixed.l0 k (v : Int) (List.replicate m 0 ++ tail) ((m : Int) - 1) = some (strOfNums (be m v ++ tail))
  | 0, v, k, tail, hv, hl, hk => by
    obtain ⟨k, rfl⟩ : ∃ j, k = j + 1 := ⟨k - 1, by omega⟩
    rw [concordref01_Fixed.l0, if_neg (by omega)]
    rfl
  | m + 1, v, k, tail, hv, hl, hk => by
    obtain ⟨k, rfl⟩ : ∃ j, k = j + 1 := ⟨k - 1, by omega⟩
    have e1 : IntKind.u64.wrap (Int.tdiv (v : Int) 256) = ((v / 256 : Nat) : Int) := by
      rw [IntKind.wrap_u64, Int.tdiv_eq_ediv_of_nonneg (by omega)]; omega
    have e2 : Int.tmod (v : Int) 256 % 256 = ((v % 256 : Nat) : Int) := by
      rw [Int.tmod_eq_emod_of_nonneg (by omega)]; omega
    have e3 : wrap64 ((((m + 1 : Nat) : Int) - 1) - 1) = (m : Int) - 1 := by unfold wrap64; omega
    have e4 : ((((m + 1 : Nat) : Int) - 1) : Int).toNat = m := by omega
    have e5 : (List.replicate (m + 1) (0 : Int) ++ tail).set m ((v % 256 : Nat) : Int) = List.replicate m 0 ++ ((v % 256 : Nat) : Int) :: tail := by
      rw [List.replicate_succ', List.append_assoc, List.set_append_right _ _ (by simp)]
      simp
    rw [concordref01_Fixed.l0, if_pos (by omega), if_pos (by omega), if_pos (by simp; omega), e1, e2, e3, e4, e5, fixed_l0 m (v / 256) k _ (by omega) (by simp; omega) (by omega), be_succ]
    simp
theorem fixed_f (n v k : Nat) (hv : v < 18446744073709551616) (hn : n ≤ 8) (hk : 10 ≤ k) : concordref01_Fixed.f k (v : Int) (n : Int) = some (strOfNums (be n v)) := by
  have hw : wrap64 ((n : Int) - 1) = (n : Int) - 1 := by unfold wrap64; omega
  have h := fixed_l0 n v k [] hv (by simp; omega) (by omega)
  rw [List.append_nil, List.append_nil] at h
  rw [concordref01_Fixed.f, if_pos (by omega), if_pos (by omega), hw, Int.toNat_natCast, h]
theorem uint_l0 : ∀ (m v k : Nat) (B : List Int), v < 18446744073709551616 → v < 128 * 128 ^ m → B.length + m ≤ 100 → m + 2 ≤ k → concordref01_Uint.l0 k (v : Int) B = some (strOfNums (B ++ uv m v))
  | 0, v, k, B, hv, hm, hl, hk => by
    obtain ⟨k, rfl⟩ : ∃ j, k = j + 1 := ⟨k - 1, by omega⟩
    rw [concordref01_Uint.l0, if_neg (by omega), if_pos (by omega), uv, show (v : Int) % 256 = v by omega]
  | m + 1, v, k, B, hv, hm, hl, hk => by
    obtain ⟨k, rfl⟩ : ∃ j, k = j + 1 := ⟨k - 1, by omega⟩
    rw [concordref01_Uint.l0, uv]
    by_cases h : v < 128
    · rw [if_neg (by omega), if_pos (by omega), if_pos h, show (v : Int) % 256 = v by omega]
    · have e1 : IntKind.u64.wrap (Int.tdiv (v : Int) 128) = ((v / 128 : Nat) : Int) := by
        rw [IntKind.wrap_u64, Int.tdiv_eq_ediv_of_nonneg (by omega)]; omega
      have e2 : IntKind.u64.wrap (Int.tmod (v : Int) 128 + 128) % 256 = ((v % 128 + 128 : Nat) : Int) := by
        rw [IntKind.wrap_u64, Int.tmod_eq_emod_of_nonneg (by omega)]; omega
      rw [if_pos (by omega), if_pos (by omega), if_neg h, e1, e2, uint_l0 m (v / 128) k _ (by omega) (by rw [Nat.pow_succ] at hm; omega) (by simp; omega) (by omega), List.append_assoc, List.singleton_append]
theorem uint_f (v k : Nat) (hv : v < 18446744073709551616) (hk : 12 ≤ k) : concordref01_Uint.f k (v : Int) = some (strOfNums (uv 10 v)) := by
  have h := uint_l0 10 v k [] hv (by rw [show (128 : Nat) ^ 10 = 1180591620717411303424 by decide]; omega) (by simp) (by omega)
  rw [List.nil_append] at h
  exact h
theorem strOf_append (l m : List Int) : strOfNums (l ++ m) = strOfNums l ++ strOfNums m := by
  apply ByteArray.ext
  rw [ByteArray.data_append]
  unfold strOfNums
  simp
theorem strOf_bytes (s : ByteArray) : strOfNums (bytesOf s) = s := by
  apply ByteArray.ext
  apply Array.toList_inj.1
  rw [strOfNums_data]
  unfold bytesOf
  simp [List.map_map, Function.comp_def]
theorem u64_nat (v : Nat) (h : v < 18446744073709551616) : IntKind.u64.wrap (v : Int) = (v : Int) := by rw [IntKind.wrap_u64]; omega
theorem rtext_f (s : ByteArray) (hs : s.size ≤ 140737488351232) (k : Nat) (hk : 12 ≤ k) : concordref01_Text.f k s = some (strOfNums (txL s)) := by
  unfold concordref01_Text.f
  rw [u64_nat _ (by omega), uint_f _ k (by omega) hk, Option.bind_some, if_pos (by rw [strOfNums_size]; have := uv_len 10 s.size; omega)]
  unfold txL
  rw [strOf_append, strOf_bytes]
theorem body_l0 (b : Bool) (cs : List Ce) (ks : List ByteArray) (kids : List Int) (hl : cs.length < 4398046511104) (hc : cs.all okC = true) : ∀ (n i k : Nat) (acc : ByteArray), i + n = cs.length → n + 13 ≤ k → acc.size + n * 1000 ≤ 9000000000000000000 → concordref08_Body.l0 k acc (i : Int) b cs ks kids = some (acc ++ strOfNums (encCs (cs.drop i)))
  | 0, i, k, acc, hi, hk, ha => by
    obtain ⟨k, rfl⟩ : ∃ j, k = j + 1 := ⟨k - 1, by omega⟩
    rw [concordref08_Body.l0, if_neg (by omega), List.drop_eq_nil_of_le (by omega)]
    show some acc = some (acc ++ ByteArray.empty)
    rw [ByteArray.append_empty]
  | n + 1, i, k, acc, hi, hk, ha => by
    obtain ⟨k, rfl⟩ : ∃ j, k = j + 1 := ⟨k - 1, by omega⟩
    have hil : i < cs.length := by omega
    have hsz := okC_sz (List.all_eq_true.1 hc cs[i] (List.getElem_mem hil))
    have l1 := txL_len cs[i].f0
    have l2 := txL_len cs[i].f1
    rw [concordref08_Body.l0, if_pos (by omega), if_pos (by omega), rdC_at cs i hil, rtext_f _ (by omega) k (by omega), Option.bind_some, if_pos (by rw [strOfNums_size]; omega), rtext_f _ (by omega) k (by omega), Option.bind_some, if_pos (by rw [ByteArray.size_append, strOfNums_size, strOfNums_size]; omega), w64S i (by omega), body_l0 b cs ks kids hl hc n (i + 1) k _ (by omega) (by omega) (by rw [ByteArray.size_append, ByteArray.size_append, strOfNums_size, strOfNums_size]; omega), List.drop_eq_getElem_cons hil, encCs, strOf_append, strOf_append, ByteArray.append_assoc, ByteArray.append_assoc]
theorem body_l1 (b : Bool) (cs : List Ce) (ks : List ByteArray) (kids : List Int) (hl : ks.length < 8796093022208) (hc : ks.all okK = true) (hkl : kids.length = ks.length + 1) (hr : ∀ x ∈ kids, 0 ≤ x ∧ x < 4294967296) : ∀ (n i k : Nat) (acc : ByteArray), i + n = ks.length → n + 13 ≤ k → acc.size + n * 1000 ≤ 9000000000000000000 → concordref08_Body.l1 k acc (i : Int) b cs ks kids = some (acc ++ strOfNums (encKs (ks.drop i) (kids.drop (i + 1))))
  | 0, i, k, acc, hi, hk, ha => by
    obtain ⟨k, rfl⟩ : ∃ j, k = j + 1 := ⟨k - 1, by omega⟩
    rw [concordref08_Body.l1, if_neg (by omega), List.drop_eq_nil_of_le (by omega)]
    show some acc = some (acc ++ ByteArray.empty)
    rw [ByteArray.append_empty]
  | n + 1, i, k, acc, hi, hk, ha => by
    obtain ⟨k, rfl⟩ : ∃ j, k = j + 1 := ⟨k - 1, by omega⟩
    have hil : i < ks.length := by omega
    have hik : i + 1 < kids.length := by omega
    have hsz := okK_sz (List.all_eq_true.1 hc ks[i] (List.getElem_mem hil))
    have l1 := txL_len ks[i]
    obtain ⟨x0, x1⟩ := hr kids[i + 1] (List.getElem_mem hik)
    obtain ⟨v, hv⟩ : ∃ v : Nat, kids[i + 1] = (v : Int) := ⟨kids[i + 1].toNat, by omega⟩
    have hf : concordref01_Fixed.f k (v : Int) 4 = some (strOfNums (be 4 v)) := fixed_f 4 v k (by omega) (by decide) (by omega)
    have l4 := be_len 4 v
    rw [concordref08_Body.l1, if_pos (by omega), if_pos (by omega), rdS_at ks i hil, rtext_f _ (by omega) k (by omega), Option.bind_some, if_pos (by rw [strOfNums_size]; omega), w64S i (by omega), if_pos (by omega), if_pos (by omega), rdI_at kids (i + 1) hik, hv, u64_nat v (by omega), hf, Option.bind_some, if_pos (by rw [ByteArray.size_append, strOfNums_size, strOfNums_size]; omega), body_l1 b cs ks kids hl hc hkl hr n (i + 1) k _ (by omega) (by omega) (by rw [ByteArray.size_append, ByteArray.size_append, strOfNums_size, strOfNums_size]; omega), List.drop_eq_getElem_cons hil, List.drop_eq_getElem_cons hik, encKs, strOf_append, strOf_append, hv, Int.toNat_natCast, ByteArray.append_assoc, ByteArray.append_assoc]
theorem body_f (b : Bool) (cs : List Ce) (ks : List ByteArray) (kids : List Int) (hr : ∀ x ∈ kids, 0 ≤ x ∧ x < 4294967296) (hn : NdOk cs ks kids) (h : chkV b cs ks kids = 0) (k : Nat) (hk : cs.length + ks.length + 20 ≤ k) : concordref08_Body.f k b cs ks kids = some (strOfNums (bodyV b cs ks kids)) := by
  obtain ⟨f1, f2, f3, f4, f5⟩ := chk_facts h
  have n1 := hn.1.1
  have n2 := hn.1.2.1
  unfold concordref08_Body.f bodyV
  cases b with
  | true =>
    have hf : concordref01_Fixed.f k (cs.length : Int) 2 = some (strOfNums (be 2 cs.length)) := fixed_f 2 cs.length k (by omega) (by decide) (by omega)
    have l2 := be_len 2 cs.length
    have e1 : (⟨#[1]⟩ : ByteArray) ++ strOfNums (be 2 cs.length) = strOfNums ([1] ++ be 2 cs.length) := by rw [strOf_append]; rfl
    have s1 : ((⟨#[1]⟩ : ByteArray) ++ strOfNums (be 2 cs.length)).size = 3 := by rw [e1, strOfNums_size, List.length_append, l2]; rfl
    have hb := body_l0 true cs ks kids n1 f2 cs.length 0 k ((⟨#[1]⟩ : ByteArray) ++ strOfNums (be 2 cs.length)) (by omega) (by omega) (by rw [s1]; omega)
    rw [if_pos rfl, if_pos rfl, u64_nat _ (by omega), hf, Option.bind_some, if_pos (by rw [strOfNums_size]; omega)]
    refine hb.trans ?_
    rw [List.drop_zero, e1, ← strOf_append]
  | false =>
    unfold shpV at f1
    rw [if_neg (by decide), Bool.and_eq_true, Bool.and_eq_true, decide_eq_true_eq] at f1
    have hkl := f1.2.2
    have hf : concordref01_Fixed.f k (ks.length : Int) 2 = some (strOfNums (be 2 ks.length)) := fixed_f 2 ks.length k (by omega) (by decide) (by omega)
    have h0 : 0 < kids.length := by omega
    obtain ⟨x0, x1⟩ := hr kids[0] (List.getElem_mem h0)
    obtain ⟨v, hv⟩ : ∃ v : Nat, kids[0] = (v : Int) := ⟨kids[0].toNat, by omega⟩
    have hf4 : concordref01_Fixed.f k (v : Int) 4 = some (strOfNums (be 4 v)) := fixed_f 4 v k (by omega) (by decide) (by omega)
    have l2 := be_len 2 ks.length
    have l4 := be_len 4 v
    have hrd : rd kids 0 = (v : Int) := (rdI_at kids 0 h0).trans hv
    have hgd : (kids.getD 0 0).toNat = v := by
      rw [List.getD_eq_getElem?_getD, List.getElem?_eq_getElem h0, hv]
      rfl
    have e1 : ((⟨#[2]⟩ : ByteArray) ++ strOfNums (be 2 ks.length)) ++ strOfNums (be 4 v) = strOfNums ([2] ++ be 2 ks.length ++ be 4 v) := by rw [strOf_append, strOf_append]; rfl
    have s1 : (((⟨#[2]⟩ : ByteArray) ++ strOfNums (be 2 ks.length)) ++ strOfNums (be 4 v)).size = 7 := by rw [e1, strOfNums_size, List.length_append, List.length_append, l2, l4]; rfl
    have s2 : ((⟨#[2]⟩ : ByteArray) ++ strOfNums (be 2 ks.length)).size = 3 := by rw [ByteArray.size_append, strOfNums_size, l2]; rfl
    have hb := body_l1 false cs ks kids n2 f3 hkl hr ks.length 0 k (((⟨#[2]⟩ : ByteArray) ++ strOfNums (be 2 ks.length)) ++ strOfNums (be 4 v)) (by omega) (by omega) (by rw [s1]; omega)
    rw [if_neg (by decide), if_neg (by decide), u64_nat _ (by omega), hf, Option.bind_some, if_pos (by rw [strOfNums_size]; omega), if_pos (by omega), hrd, u64_nat v (by omega), hf4, Option.bind_some, if_pos (by rw [s2, strOfNums_size]; omega), hgd]
    refine hb.trans ?_
    rw [List.drop_zero, e1, ← strOf_append]
theorem renc_f (b : Bool) (cs : List Ce) (ks : List ByteArray) (kids : List Int) (hr : ∀ x ∈ kids, 0 ≤ x ∧ x < 4294967296) (hn : NdOk cs ks kids) (k : Nat) (hk : 2 * (cs.length + ks.length) + kids.length + 60 ≤ k) : concordref08_Encode.f k b cs ks kids = some (encV b cs ks kids) := by
  unfold concordref08_Encode.f encV
  rw [rchk_f b cs ks kids hn k hk, Option.bind_some]
  by_cases hc : chkV b cs ks kids = 0
  · obtain ⟨f1, f2, f3, f4, f5⟩ := chk_facts hc
    rw [if_pos hc, if_pos hc, long_f b cs ks kids hn f2 f3 k (by omega), Option.bind_some]
    by_cases hl : 996 < lngV b cs ks
    · rw [if_pos (by omega), if_pos hl]
    · rw [if_neg (by omega), if_neg hl, body_f b cs ks kids hr hn hc k (by omega), Option.bind_some]
  · rw [if_neg hc, if_neg hc]
def sizeV (b : Bool) (cs : List Ce) (ks : List ByteArray) (kids : List Int) : Int := if chkV b cs ks kids = 0 then (lngV b cs ks : Nat) else 0
theorem rsize_f (b : Bool) (cs : List Ce) (ks : List ByteArray) (kids : List Int) (hn : NdOk cs ks kids) (k : Nat) (hk : 2 * (cs.length + ks.length) + kids.length + 60 ≤ k) : concordref08_Size.f k b cs ks kids = some (sizeV b cs ks kids) := by
  unfold concordref08_Size.f sizeV
  rw [rchk_f b cs ks kids hn k hk, Option.bind_some]
  by_cases hc : chkV b cs ks kids = 0
  · obtain ⟨f1, f2, f3, f4, f5⟩ := chk_facts hc
    rw [if_pos hc, if_pos hc, long_f b cs ks kids hn f2 f3 k (by omega)]
    rfl
  · rw [if_neg hc, if_neg hc]
theorem osize_f (b : Bool) (cs : List Ce) (ks : List ByteArray) (kids : List Int) (hn : NdOk cs ks kids) (k : Nat) (hk : 2 * (cs.length + ks.length) + kids.length + 60 ≤ k) : node_Size.f k b cs ks kids = some (sizeV b cs ks kids) := by
  unfold node_Size.f sizeV
  rw [ochk_f b cs ks kids hn k hk, Option.bind_some]
  by_cases hc : chkV b cs ks kids = 0
  · obtain ⟨f1, f2, f3, f4, f5⟩ := chk_facts hc
    have hor : b = true ∨ cs = [] := by
      cases b with
      | true => exact .inl rfl
      | false =>
        unfold shpV at f1
        rw [if_neg (by decide), Bool.and_eq_true, Bool.and_eq_true] at f1
        exact .inr (List.isEmpty_iff.1 f1.2.1)
    rw [if_pos hc, if_pos hc, size_f b cs ks kids hn f2 f3 k (by omega), Option.bind_some, lng_eq b cs ks hor]
  · rw [if_neg hc, if_neg hc]
theorem oenc_f {b : Bool} {cs : List Ce} {ks : List ByteArray} {kids : List Int} (h : ndB cs ks kids = true) : node_Encode.f b cs ks kids = some (encV b cs ks kids) := by
  unfold node_Encode.f
  rw [if_pos h]
end Go.Proofs.Ytdjjpgdhnoibkaa.My
namespace Go.Proofs.Ytdjjpgdhnoibkaa.My
open Go.RowKit Go.Proofs.YtdjjpgdhnoibkaaW.PrintWords Go.Proofs.YtdjjpgdhnoibkaaW.PrintLast Go.Proofs.YtdjjpgdhnoibkaaW.PrintMore Go.Proofs.Ytdjjpgdhnoibkaa Go.Proofs.Ytdjjpgdhnoibkaa.PZ Go.Proofs.Ytdjjpgdhnoibkaa.PC
set_option linter.unusedSimpArgs false
set_option linter.unusedVariables false
set_option maxRecDepth 100000
set_option maxHeartbeats 3200000
attribute [local go_sem high] conv_rune str_leq str_gtr
theorem checks_go (w : World) (b : Bool) (B1 : Option Addr) (c1 : Nat) (cs : List Ce) (B2 : Option Addr) (c2 : Nat) (ks : List ByteArray) (B3 : Option Addr) (c3 : Nat) (kids : List Int) (hc1 : cs.length ≤ c1) (hc2 : ks.length ≤ c2) (hc3 : kids.length ≤ c3) (h1 : Kd.C k66 w B1 cs.length cs) (h2 : Kd.C Kd.string w B2 ks.length ks) (h3 : Kd.C (Kd.int .u32) w B3 kids.length kids) (hk : ∀ x ∈ kids, 0 ≤ x ∧ x < 4294967296) (hn : NdOk cs ks kids) (t1 : List Ce) (t2 : List ByteArray) (t3 : List Int) (hl : lent2.f 50 b cs ks kids = some (b, cs ++ t1, ks ++ t2, kids ++ t3)) (e1 : t1.length = 40) (e2 : t2.length = 40) (e3 : t3.length = 40) (r1 : List Ce) (r2 : List ByteArray) (r3 : List Int) (K : Nat) (ho : concordlaw08_over.f K b cs ks kids = some (r1, r2, r3)) (l1 : r1.length = cs.length) (l2 : r2.length = ks.length) (l3 : r3.length = kids.length) (hn' : NdOk r1 r2 r3) (hk' : ∀ x ∈ r3, 0 ≤ x ∧ x < 4294967296) (E : ByteArray × Int) (hEE : E = encV b cs ks kids) (C : Int) (hCC : C = chkV b cs ks kids) (Z : Int) (hZZ : Z = sizeV b cs ks kids) (E' : ByteArray × Int) (hEE' : E' = encV b r1 r2 r3) (C' : Int) (hCC' : C' = chkV b r1 r2 r3) (Z' : Int) (hZZ' : Z' = sizeV b r1 r2 r3) :
    Calls Try.prog 7 #[.agg #[.bool b, .slice B1 cs.length c1, .slice B2 ks.length c2, .slice B3 kids.length c3]] w fun e w' => e = .returned (.bool true) ∧ Below w.heap.size w w' := by
  have HB : Below w.heap.size w w := Below.refl _ _
  obtain ⟨s, i⟩ := E
  obtain ⟨s', i'⟩ := E'
  go_enter Try.func7, Try.ntmps7
  have hb1 : Below w.heap.size w (w.alloc (.cells #[.bool b, .slice B1 cs.length c1, .slice B2 ks.length c2, .slice B3 kids.length c3] 26)) := (Below.refl _ _).alloc (Nat.le_refl _) _
  have hs1 : w.heap.size ≤ (w.alloc (.cells #[.bool b, .slice B1 cs.length c1, .slice B2 ks.length c2, .slice B3 kids.length c3] 26)).heap.size := hb1.size
  replace HB := below_then HB (below_size HB) hb1
  clear hb1
  have hxn : (w.alloc (.cells #[.bool b, .slice B1 cs.length c1, .slice B2 ks.length c2, .slice B3 kids.length c3] 26)).heap[w.heap.size]? = some (.cells #[.bool b, .slice B1 cs.length c1, .slice B2 ks.length c2, .slice B3 kids.length c3] 26 (0, 0)) := blk_new w _
  have cn0 : (w.alloc (.cells #[.bool b, .slice B1 cs.length c1, .slice B2 ks.length c2, .slice B3 kids.length c3] 26)).cell? ⟨w.heap.size, 0, none⟩ = some (.bool b) := (blk_cell hxn 0).trans rfl
  have cn1 : (w.alloc (.cells #[.bool b, .slice B1 cs.length c1, .slice B2 ks.length c2, .slice B3 kids.length c3] 26)).cell? ⟨w.heap.size, 1, none⟩ = some (.slice B1 cs.length c1) := (blk_cell hxn 1).trans rfl
  have cn2 : (w.alloc (.cells #[.bool b, .slice B1 cs.length c1, .slice B2 ks.length c2, .slice B3 kids.length c3] 26)).cell? ⟨w.heap.size, 2, none⟩ = some (.slice B2 ks.length c2) := (blk_cell hxn 2).trans rfl
  have cn3 : (w.alloc (.cells #[.bool b, .slice B1 cs.length c1, .slice B2 ks.length c2, .slice B3 kids.length c3] 26)).cell? ⟨w.heap.size, 3, none⟩ = some (.slice B3 kids.length c3) := (blk_cell hxn 3).trans rfl
  go_wp2_with fail
  clear cn0 cn1 cn2 cn3
  have hln := blk_lt hxn
  generalize (w.alloc (.cells #[.bool b, .slice B1 cs.length c1, .slice B2 ks.length c2, .slice B3 kids.length c3] 26)) = w1 at *
  obtain ⟨gn, hen⟩ : ∃ g, g = w.heap.size := ⟨_, rfl⟩
  rw [← hen] at hxn hln ⊢
  have hgen : w.heap.size ≤ gn := Nat.le_of_eq hen.symm
  clear hen
  refine (lentN _ b B1 c1 cs B2 c2 ks B3 c3 kids hc1 hc2 hc3 (Kd.C_below h1 HB) (Kd.C_below h2 HB) (Kd.C_below h3 HB) t1 t2 t3 hl w.heap.size (below_size HB)).mono ?_
  rintro e_ w2 ⟨A1, q1, A2, q2, A3, q3, rfl, hF, hb2⟩
  have hs2 : w1.heap.size ≤ w2.heap.size := hb2.size
  replace hxn := blk_below hxn hb2
  replace HB := below_then HB (below_size HB) hb2
  clear hb2
  have hV := NR_front hF
  have hb3 : Below w2.heap.size w2 (w2.alloc (.cells #[.bool b, .slice A1 cs.length q1, .slice A2 ks.length q2, .slice A3 kids.length q3] 26)) := (Below.refl _ _).alloc (Nat.le_refl _) _
  have hs3 : w2.heap.size ≤ (w2.alloc (.cells #[.bool b, .slice A1 cs.length q1, .slice A2 ks.length q2, .slice A3 kids.length q3] 26)).heap.size := hb3.size
  replace hF := NR_below hF hb3
  replace hV := NR_below hV hb3
  replace hxn := blk_below hxn hb3
  replace HB := below_then HB (below_size HB) hb3
  clear hb3
  have hxi : (w2.alloc (.cells #[.bool b, .slice A1 cs.length q1, .slice A2 ks.length q2, .slice A3 kids.length q3] 26)).heap[w2.heap.size]? = some (.cells #[.bool b, .slice A1 cs.length q1, .slice A2 ks.length q2, .slice A3 kids.length q3] 26 (0, 0)) := blk_new w2 _
  have cn0 : (w2.alloc (.cells #[.bool b, .slice A1 cs.length q1, .slice A2 ks.length q2, .slice A3 kids.length q3] 26)).cell? ⟨gn, 0, none⟩ = some (.bool b) := (blk_cell hxn 0).trans rfl
  have cn1 : (w2.alloc (.cells #[.bool b, .slice A1 cs.length q1, .slice A2 ks.length q2, .slice A3 kids.length q3] 26)).cell? ⟨gn, 1, none⟩ = some (.slice B1 cs.length c1) := (blk_cell hxn 1).trans rfl
  have cn2 : (w2.alloc (.cells #[.bool b, .slice A1 cs.length q1, .slice A2 ks.length q2, .slice A3 kids.length q3] 26)).cell? ⟨gn, 2, none⟩ = some (.slice B2 ks.length c2) := (blk_cell hxn 2).trans rfl
  have cn3 : (w2.alloc (.cells #[.bool b, .slice A1 cs.length q1, .slice A2 ks.length q2, .slice A3 kids.length q3] 26)).cell? ⟨gn, 3, none⟩ = some (.slice B3 kids.length c3) := (blk_cell hxn 3).trans rfl
  have ci0 : (w2.alloc (.cells #[.bool b, .slice A1 cs.length q1, .slice A2 ks.length q2, .slice A3 kids.length q3] 26)).cell? ⟨w2.heap.size, 0, none⟩ = some (.bool b) := (blk_cell hxi 0).trans rfl
  have ci1 : (w2.alloc (.cells #[.bool b, .slice A1 cs.length q1, .slice A2 ks.length q2, .slice A3 kids.length q3] 26)).cell? ⟨w2.heap.size, 1, none⟩ = some (.slice A1 cs.length q1) := (blk_cell hxi 1).trans rfl
  have ci2 : (w2.alloc (.cells #[.bool b, .slice A1 cs.length q1, .slice A2 ks.length q2, .slice A3 kids.length q3] 26)).cell? ⟨w2.heap.size, 2, none⟩ = some (.slice A2 ks.length q2) := (blk_cell hxi 2).trans rfl
  have ci3 : (w2.alloc (.cells #[.bool b, .slice A1 cs.length q1, .slice A2 ks.length q2, .slice A3 kids.length q3] 26)).cell? ⟨w2.heap.size, 3, none⟩ = some (.slice A3 kids.length q3) := (blk_cell hxi 3).trans rfl
  go_wp2_with fail
  clear cn0 cn1 cn2 cn3 ci0 ci1 ci2 ci3
  have hli := blk_lt hxi
  generalize (w2.alloc (.cells #[.bool b, .slice A1 cs.length q1, .slice A2 ks.length q2, .slice A3 kids.length q3] 26)) = w3 at *
  obtain ⟨gi, hei⟩ : ∃ g, g = w2.heap.size := ⟨_, rfl⟩
  rw [← hei] at hxi hli ⊢
  have hgei : w2.heap.size ≤ gi := Nat.le_of_eq hei.symm
  clear hei
  refine (concordref08_Encode.calls (2 * (cs.length + ks.length) + kids.length + 60) b B1 c1 cs B2 c2 ks B3 c3 kids s i _ (Kd.C_below h1 HB) hc1 (Kd.C_below h2 HB) hc2 (Kd.C_below h3 HB) hc3 (hEE.symm ▸ renc_f b cs ks kids hk hn _ (Nat.le_refl _))).mono ?_
  rintro e_ w4 ⟨rfl, hb4⟩
  have hs4 : w3.heap.size ≤ w4.heap.size := hb4.size
  replace hF := NR_below hF hb4
  replace hV := NR_below hV hb4
  replace hxn := blk_below hxn hb4
  replace hxi := blk_below hxi hb4
  replace HB := below_then HB (below_size HB) hb4
  clear hb4
  have cn0 : w4.cell? ⟨gn, 0, none⟩ = some (.bool b) := (blk_cell hxn 0).trans rfl
  have cn1 : w4.cell? ⟨gn, 1, none⟩ = some (.slice B1 cs.length c1) := (blk_cell hxn 1).trans rfl
  have cn2 : w4.cell? ⟨gn, 2, none⟩ = some (.slice B2 ks.length c2) := (blk_cell hxn 2).trans rfl
  have cn3 : w4.cell? ⟨gn, 3, none⟩ = some (.slice B3 kids.length c3) := (blk_cell hxn 3).trans rfl
  have ci0 : w4.cell? ⟨gi, 0, none⟩ = some (.bool b) := (blk_cell hxi 0).trans rfl
  have ci1 : w4.cell? ⟨gi, 1, none⟩ = some (.slice A1 cs.length q1) := (blk_cell hxi 1).trans rfl
  have ci2 : w4.cell? ⟨gi, 2, none⟩ = some (.slice A2 ks.length q2) := (blk_cell hxi 2).trans rfl
  have ci3 : w4.cell? ⟨gi, 3, none⟩ = some (.slice A3 kids.length q3) := (blk_cell hxi 3).trans rfl
  go_wp2_with fail
  obtain ⟨gC, gL, -, -, -⟩ := NR_C hV
  refine (node_Encode.calls  b A1 q1 cs A2 q2 ks A3 q3 kids s i _ gC.1 gL.1 gC.2.1 gL.2.1 gC.2.2 gL.2.2 (hEE.symm ▸ oenc_f (ndB_of' hn hk))).mono ?_
  rintro e_ w5 ⟨rfl, hb5⟩
  clear cn0 cn1 cn2 cn3 ci0 ci1 ci2 ci3
  have hs5 : w4.heap.size ≤ w5.heap.size := hb5.size
  replace hF := NR_below hF hb5
  replace hV := NR_below hV hb5
  replace hxn := blk_below hxn hb5
  replace hxi := blk_below hxi hb5
  replace HB := below_then HB (below_size HB) hb5
  clear hb5
  clear gC gL
  have cn0 : w5.cell? ⟨gn, 0, none⟩ = some (.bool b) := (blk_cell hxn 0).trans rfl
  have cn1 : w5.cell? ⟨gn, 1, none⟩ = some (.slice B1 cs.length c1) := (blk_cell hxn 1).trans rfl
  have cn2 : w5.cell? ⟨gn, 2, none⟩ = some (.slice B2 ks.length c2) := (blk_cell hxn 2).trans rfl
  have cn3 : w5.cell? ⟨gn, 3, none⟩ = some (.slice B3 kids.length c3) := (blk_cell hxn 3).trans rfl
  have ci0 : w5.cell? ⟨gi, 0, none⟩ = some (.bool b) := (blk_cell hxi 0).trans rfl
  have ci1 : w5.cell? ⟨gi, 1, none⟩ = some (.slice A1 cs.length q1) := (blk_cell hxi 1).trans rfl
  have ci2 : w5.cell? ⟨gi, 2, none⟩ = some (.slice A2 ks.length q2) := (blk_cell hxi 2).trans rfl
  have ci3 : w5.cell? ⟨gi, 3, none⟩ = some (.slice A3 kids.length q3) := (blk_cell hxi 3).trans rfl
  go_wp2_with fail
  clear cn0 cn1 cn2 cn3 ci0 ci1 ci2 ci3
  have cn0 : w5.cell? ⟨gn, 0, none⟩ = some (.bool b) := (blk_cell hxn 0).trans rfl
  have cn1 : w5.cell? ⟨gn, 1, none⟩ = some (.slice B1 cs.length c1) := (blk_cell hxn 1).trans rfl
  have cn2 : w5.cell? ⟨gn, 2, none⟩ = some (.slice B2 ks.length c2) := (blk_cell hxn 2).trans rfl
  have cn3 : w5.cell? ⟨gn, 3, none⟩ = some (.slice B3 kids.length c3) := (blk_cell hxn 3).trans rfl
  have ci0 : w5.cell? ⟨gi, 0, none⟩ = some (.bool b) := (blk_cell hxi 0).trans rfl
  have ci1 : w5.cell? ⟨gi, 1, none⟩ = some (.slice A1 cs.length q1) := (blk_cell hxi 1).trans rfl
  have ci2 : w5.cell? ⟨gi, 2, none⟩ = some (.slice A2 ks.length q2) := (blk_cell hxi 2).trans rfl
  have ci3 : w5.cell? ⟨gi, 3, none⟩ = some (.slice A3 kids.length q3) := (blk_cell hxi 3).trans rfl
  refine start_ (n := 28) (S := fun w' => w'.cell? ⟨gn, 0, none⟩ = some (.bool b) ∧ w'.cell? ⟨gn, 1, none⟩ = some (.slice B1 cs.length c1) ∧ w'.cell? ⟨gn, 2, none⟩ = some (.slice B2 ks.length c2) ∧ w'.cell? ⟨gn, 3, none⟩ = some (.slice B3 kids.length c3) ∧ w'.cell? ⟨gi, 0, none⟩ = some (.bool b) ∧ w'.cell? ⟨gi, 1, none⟩ = some (.slice A1 cs.length q1) ∧ w'.cell? ⟨gi, 2, none⟩ = some (.slice A2 ks.length q2) ∧ w'.cell? ⟨gi, 3, none⟩ = some (.slice A3 kids.length q3)) (ds := []) #[false, false, false, false, false, false, false, false, false, false, false, false, false, false, false, false, false, false, false, false, false, false, false, false, false, false, false, false] (by kernel_rfl) rfl rfl (⟨cn0, cn1, cn2, cn3, ci0, ci1, ci2, ci3⟩) (fun hHeld => ?_)
  clear cn0 cn1 cn2 cn3 ci0 ci1 ci2 ci3
  have hb6 : Below w5.heap.size w5 w5.drew := below_drew (Below.refl _ _)
  have hs6 : w5.heap.size ≤ w5.drew.heap.size := hb6.size
  replace hF := NR_below hF hb6
  replace hV := NR_below hV hb6
  replace hxn := blk_below hxn hb6
  replace hxi := blk_below hxi hb6
  replace HB := below_then HB (below_size HB) hb6
  clear hb6
  generalize w5.drew = w6 at *
  refine take_ (i := 0) (N := some 21) (v := ?_) (a' := ?_) #[true, false, false, false, false, false, false, false, false, false, false, false, false, false, false, false, false, false, false, false, false, false, false, false, false, false, false, false] rfl rfl (by kernel_rfl) (fun _ _ _ h => h) (Or.inl ⟨by rfl, ?_⟩) hHeld ?_ ?_
  rotate_left
  · intro w' hS
    go_simp
    with_reducible rfl
  rotate_left
  · simp only [Act.put, List.setIfInBounds_toArray, List.set_cons_zero, List.set_cons_succ, i64_w, i32_w]
    rfl
  refine take_ (i := 2) (N := some 23) (v := ?_) (a' := ?_) #[true, false, true, false, false, false, false, false, false, false, false, false, false, false, false, false, false, false, false, false, false, false, false, false, false, false, false, false] rfl rfl (by kernel_rfl) (fun _ _ _ h => h) (Or.inl ⟨by rfl, ?_⟩) hHeld ?_ ?_
  rotate_left
  · intro w' hS
    go_simp
    with_reducible rfl
  rotate_left
  · simp only [Act.put, List.setIfInBounds_toArray, List.set_cons_zero, List.set_cons_succ, i64_w, i32_w]
    rfl
  refine one_ (i := 1) (N := some 22) #[true, true, true, false, false, false, false, false, false, false, false, false, false, false, false, false, false, false, false, false, false, false, false, false, false, false, false, false] rfl rfl (by kernel_rfl) (by decide) (fun K hK => ?_)
  obtain ⟨gC, gL, -, -, -⟩ := NR_C hV
  refine goes_ Try.func32 (by kernel_rfl) rfl #[.agg #[.bool b, .slice A1 cs.length q1, .slice A2 ks.length q2, .slice A3 kids.length q3]] (by rfl) rfl rfl (by (try simp only [List.map_toArray, List.map_cons, List.map_nil]); first | done | rfl) ?_
  refine (node_Check.calls (2 * (cs.length + ks.length) + kids.length + 60) b A1 q1 cs A2 q2 ks A3 q3 kids C _ gC.1 gL.1 gC.2.1 gL.2.1 gC.2.2 gL.2.2 (hCC.symm ▸ ochk_f b cs ks kids hn _ (Nat.le_refl _))).mono ?_
  rintro e_ w7 ⟨rfl, hb7⟩
  refine ⟨_, rfl, ?_⟩
  clear hHeld
  have hs7 : w6.heap.size ≤ w7.heap.size := hb7.size
  replace hF := NR_below hF hb7
  replace hV := NR_below hV hb7
  replace hxn := blk_below hxn hb7
  replace hxi := blk_below hxi hb7
  replace HB := below_then HB (below_size HB) hb7
  clear hb7
  clear gC gL
  have cn0 : w7.cell? ⟨gn, 0, none⟩ = some (.bool b) := (blk_cell hxn 0).trans rfl
  have cn1 : w7.cell? ⟨gn, 1, none⟩ = some (.slice B1 cs.length c1) := (blk_cell hxn 1).trans rfl
  have cn2 : w7.cell? ⟨gn, 2, none⟩ = some (.slice B2 ks.length c2) := (blk_cell hxn 2).trans rfl
  have cn3 : w7.cell? ⟨gn, 3, none⟩ = some (.slice B3 kids.length c3) := (blk_cell hxn 3).trans rfl
  have ci0 : w7.cell? ⟨gi, 0, none⟩ = some (.bool b) := (blk_cell hxi 0).trans rfl
  have ci1 : w7.cell? ⟨gi, 1, none⟩ = some (.slice A1 cs.length q1) := (blk_cell hxi 1).trans rfl
  have ci2 : w7.cell? ⟨gi, 2, none⟩ = some (.slice A2 ks.length q2) := (blk_cell hxi 2).trans rfl
  have ci3 : w7.cell? ⟨gi, 3, none⟩ = some (.slice A3 kids.length q3) := (blk_cell hxi 3).trans rfl
  refine hK.out _ _ (⟨cn0, cn1, cn2, cn3, ci0, ci1, ci2, ci3⟩) (fun hHeld => ?_)
  clear hK K
  refine norm_ (a' := ?_) ?_ ?_
  rotate_left
  · show Act.put _ (some 22) _ = _
    simp only [Act.put, List.setIfInBounds_toArray, List.set_cons_zero, List.set_cons_succ, i64_w, i32_w]
    rfl
  clear cn0 cn1 cn2 cn3 ci0 ci1 ci2 ci3
  refine one_ (i := 3) (N := some 24) #[true, true, true, true, false, false, false, false, false, false, false, false, false, false, false, false, false, false, false, false, false, false, false, false, false, false, false, false] rfl rfl (by kernel_rfl) (by decide) (fun K hK => ?_)
  refine goes_ Try.func33 (by kernel_rfl) rfl #[.agg #[.bool b, .slice B1 cs.length c1, .slice B2 ks.length c2, .slice B3 kids.length c3]] (by rfl) rfl rfl (by (try simp only [List.map_toArray, List.map_cons, List.map_nil]); first | done | rfl) ?_
  refine (concordref08_Check.calls (2 * (cs.length + ks.length) + kids.length + 60) b B1 c1 cs B2 c2 ks B3 c3 kids C _ (Kd.C_below h1 HB) hc1 (Kd.C_below h2 HB) hc2 (Kd.C_below h3 HB) hc3 (hCC.symm ▸ rchk_f b cs ks kids hn _ (Nat.le_refl _))).mono ?_
  rintro e_ w8 ⟨rfl, hb8⟩
  refine ⟨_, rfl, ?_⟩
  clear hHeld
  have hs8 : w7.heap.size ≤ w8.heap.size := hb8.size
  replace hF := NR_below hF hb8
  replace hV := NR_below hV hb8
  replace hxn := blk_below hxn hb8
  replace hxi := blk_below hxi hb8
  replace HB := below_then HB (below_size HB) hb8
  clear hb8
  have cn0 : w8.cell? ⟨gn, 0, none⟩ = some (.bool b) := (blk_cell hxn 0).trans rfl
  have cn1 : w8.cell? ⟨gn, 1, none⟩ = some (.slice B1 cs.length c1) := (blk_cell hxn 1).trans rfl
  have cn2 : w8.cell? ⟨gn, 2, none⟩ = some (.slice B2 ks.length c2) := (blk_cell hxn 2).trans rfl
  have cn3 : w8.cell? ⟨gn, 3, none⟩ = some (.slice B3 kids.length c3) := (blk_cell hxn 3).trans rfl
  have ci0 : w8.cell? ⟨gi, 0, none⟩ = some (.bool b) := (blk_cell hxi 0).trans rfl
  have ci1 : w8.cell? ⟨gi, 1, none⟩ = some (.slice A1 cs.length q1) := (blk_cell hxi 1).trans rfl
  have ci2 : w8.cell? ⟨gi, 2, none⟩ = some (.slice A2 ks.length q2) := (blk_cell hxi 2).trans rfl
  have ci3 : w8.cell? ⟨gi, 3, none⟩ = some (.slice A3 kids.length q3) := (blk_cell hxi 3).trans rfl
  refine hK.out _ _ (⟨cn0, cn1, cn2, cn3, ci0, ci1, ci2, ci3⟩) (fun hHeld => ?_)
  clear hK K
  refine norm_ (a' := ?_) ?_ ?_
  rotate_left
  · show Act.put _ (some 24) _ = _
    simp only [Act.put, List.setIfInBounds_toArray, List.set_cons_zero, List.set_cons_succ, i64_w, i32_w]
    rfl
  clear cn0 cn1 cn2 cn3 ci0 ci1 ci2 ci3
  refine pure_ (i := 4) (N := some 25) (v := ?_) (a' := ?_) #[true, true, true, true, true, false, false, false, false, false, false, false, false, false, false, false, false, false, false, false, false, false, false, false, false, false, false, false] rfl rfl (by kernel_rfl) (fun _ _ _ h => h) (Or.inl ⟨by rfl, ?_⟩) ?_ ?_
  rotate_left
  · intro w'
    go_simp
    with_reducible rfl
  rotate_left
  · simp only [Act.put, List.setIfInBounds_toArray, List.set_cons_zero, List.set_cons_succ, i64_w, i32_w]
    rfl
  refine pure_ (i := 5) (N := some 26) (v := ?_) (a' := ?_) #[true, true, true, true, true, true, false, false, false, false, false, false, false, false, false, false, false, false, false, false, false, false, false, false, false, false, false, false] rfl rfl (by kernel_rfl) (fun _ _ _ h => h) (Or.inl ⟨by rfl, ?_⟩) ?_ ?_
  rotate_left
  · intro w'
    go_simp
    with_reducible rfl
  rotate_left
  · simp only [Act.put, List.setIfInBounds_toArray, List.set_cons_zero, List.set_cons_succ, i64_w, i32_w]
    rfl
  refine take_ (i := 6) (N := some 27) (v := ?_) (a' := ?_) #[true, true, true, true, true, true, true, false, false, false, false, false, false, false, false, false, false, false, false, false, false, false, false, false, false, false, false, false] rfl rfl (by kernel_rfl) (fun _ _ _ h => h) (Or.inl ⟨by rfl, ?_⟩) hHeld ?_ ?_
  rotate_left
  · intro w' hS
    go_simp
    with_reducible rfl
  rotate_left
  · simp only [Act.put, List.setIfInBounds_toArray, List.set_cons_zero, List.set_cons_succ, i64_w, i32_w]
    rfl
  refine take_ (i := 8) (N := some 29) (v := ?_) (a' := ?_) #[true, true, true, true, true, true, true, false, true, false, false, false, false, false, false, false, false, false, false, false, false, false, false, false, false, false, false, false] rfl rfl (by kernel_rfl) (fun _ _ _ h => h) (Or.inl ⟨by rfl, ?_⟩) hHeld ?_ ?_
  rotate_left
  · intro w' hS
    go_simp
    with_reducible rfl
  rotate_left
  · simp only [Act.put, List.setIfInBounds_toArray, List.set_cons_zero, List.set_cons_succ, i64_w, i32_w]
    rfl
  refine one_ (i := 7) (N := some 28) #[true, true, true, true, true, true, true, true, true, false, false, false, false, false, false, false, false, false, false, false, false, false, false, false, false, false, false, false] rfl rfl (by kernel_rfl) (by decide) (fun K hK => ?_)
  obtain ⟨gC, gL, -, -, -⟩ := NR_C hV
  refine goes_ Try.func34 (by kernel_rfl) rfl #[.agg #[.bool b, .slice A1 cs.length q1, .slice A2 ks.length q2, .slice A3 kids.length q3]] (by rfl) rfl rfl (by (try simp only [List.map_toArray, List.map_cons, List.map_nil]); first | done | rfl) ?_
  refine (node_Size.calls (2 * (cs.length + ks.length) + kids.length + 60) b A1 q1 cs A2 q2 ks A3 q3 kids Z _ gC.1 gL.1 gC.2.1 gL.2.1 gC.2.2 gL.2.2 (hZZ.symm ▸ osize_f b cs ks kids hn _ (Nat.le_refl _))).mono ?_
  rintro e_ w9 ⟨rfl, hb9⟩
  refine ⟨_, rfl, ?_⟩
  clear hHeld
  have hs9 : w8.heap.size ≤ w9.heap.size := hb9.size
  replace hF := NR_below hF hb9
  replace hV := NR_below hV hb9
  replace hxn := blk_below hxn hb9
  replace hxi := blk_below hxi hb9
  replace HB := below_then HB (below_size HB) hb9
  clear hb9
  clear gC gL
  have cn0 : w9.cell? ⟨gn, 0, none⟩ = some (.bool b) := (blk_cell hxn 0).trans rfl
  have cn1 : w9.cell? ⟨gn, 1, none⟩ = some (.slice B1 cs.length c1) := (blk_cell hxn 1).trans rfl
  have cn2 : w9.cell? ⟨gn, 2, none⟩ = some (.slice B2 ks.length c2) := (blk_cell hxn 2).trans rfl
  have cn3 : w9.cell? ⟨gn, 3, none⟩ = some (.slice B3 kids.length c3) := (blk_cell hxn 3).trans rfl
  have ci0 : w9.cell? ⟨gi, 0, none⟩ = some (.bool b) := (blk_cell hxi 0).trans rfl
  have ci1 : w9.cell? ⟨gi, 1, none⟩ = some (.slice A1 cs.length q1) := (blk_cell hxi 1).trans rfl
  have ci2 : w9.cell? ⟨gi, 2, none⟩ = some (.slice A2 ks.length q2) := (blk_cell hxi 2).trans rfl
  have ci3 : w9.cell? ⟨gi, 3, none⟩ = some (.slice A3 kids.length q3) := (blk_cell hxi 3).trans rfl
  refine hK.out _ _ (⟨cn0, cn1, cn2, cn3, ci0, ci1, ci2, ci3⟩) (fun hHeld => ?_)
  clear hK K
  refine norm_ (a' := ?_) ?_ ?_
  rotate_left
  · show Act.put _ (some 28) _ = _
    simp only [Act.put, List.setIfInBounds_toArray, List.set_cons_zero, List.set_cons_succ, i64_w, i32_w]
    rfl
  clear cn0 cn1 cn2 cn3 ci0 ci1 ci2 ci3
  refine one_ (i := 9) (N := some 30) #[true, true, true, true, true, true, true, true, true, true, false, false, false, false, false, false, false, false, false, false, false, false, false, false, false, false, false, false] rfl rfl (by kernel_rfl) (by decide) (fun K hK => ?_)
  refine goes_ Try.func35 (by kernel_rfl) rfl #[.agg #[.bool b, .slice B1 cs.length c1, .slice B2 ks.length c2, .slice B3 kids.length c3]] (by rfl) rfl rfl (by (try simp only [List.map_toArray, List.map_cons, List.map_nil]); first | done | rfl) ?_
  refine (concordref08_Size.calls (2 * (cs.length + ks.length) + kids.length + 60) b B1 c1 cs B2 c2 ks B3 c3 kids Z _ (Kd.C_below h1 HB) hc1 (Kd.C_below h2 HB) hc2 (Kd.C_below h3 HB) hc3 (hZZ.symm ▸ rsize_f b cs ks kids hn _ (Nat.le_refl _))).mono ?_
  rintro e_ w10 ⟨rfl, hb10⟩
  refine ⟨_, rfl, ?_⟩
  clear hHeld
  have hs10 : w9.heap.size ≤ w10.heap.size := hb10.size
  replace hF := NR_below hF hb10
  replace hV := NR_below hV hb10
  replace hxn := blk_below hxn hb10
  replace hxi := blk_below hxi hb10
  replace HB := below_then HB (below_size HB) hb10
  clear hb10
  have cn0 : w10.cell? ⟨gn, 0, none⟩ = some (.bool b) := (blk_cell hxn 0).trans rfl
  have cn1 : w10.cell? ⟨gn, 1, none⟩ = some (.slice B1 cs.length c1) := (blk_cell hxn 1).trans rfl
  have cn2 : w10.cell? ⟨gn, 2, none⟩ = some (.slice B2 ks.length c2) := (blk_cell hxn 2).trans rfl
  have cn3 : w10.cell? ⟨gn, 3, none⟩ = some (.slice B3 kids.length c3) := (blk_cell hxn 3).trans rfl
  have ci0 : w10.cell? ⟨gi, 0, none⟩ = some (.bool b) := (blk_cell hxi 0).trans rfl
  have ci1 : w10.cell? ⟨gi, 1, none⟩ = some (.slice A1 cs.length q1) := (blk_cell hxi 1).trans rfl
  have ci2 : w10.cell? ⟨gi, 2, none⟩ = some (.slice A2 ks.length q2) := (blk_cell hxi 2).trans rfl
  have ci3 : w10.cell? ⟨gi, 3, none⟩ = some (.slice A3 kids.length q3) := (blk_cell hxi 3).trans rfl
  refine hK.out _ _ (⟨cn0, cn1, cn2, cn3, ci0, ci1, ci2, ci3⟩) (fun hHeld => ?_)
  clear hK K
  refine norm_ (a' := ?_) ?_ ?_
  rotate_left
  · show Act.put _ (some 30) _ = _
    simp only [Act.put, List.setIfInBounds_toArray, List.set_cons_zero, List.set_cons_succ, i64_w, i32_w]
    rfl
  clear cn0 cn1 cn2 cn3 ci0 ci1 ci2 ci3
  refine pure_ (i := 10) (N := some 31) (v := ?_) (a' := ?_) #[true, true, true, true, true, true, true, true, true, true, true, false, false, false, false, false, false, false, false, false, false, false, false, false, false, false, false, false] rfl rfl (by kernel_rfl) (fun _ _ _ h => h) (Or.inl ⟨by rfl, ?_⟩) ?_ ?_
  rotate_left
  · intro w'
    go_simp
    with_reducible rfl
  rotate_left
  · simp only [Act.put, List.setIfInBounds_toArray, List.set_cons_zero, List.set_cons_succ, i64_w, i32_w]
    rfl
  refine pure_ (i := 11) (N := some 32) (v := ?_) (a' := ?_) #[true, true, true, true, true, true, true, true, true, true, true, true, false, false, false, false, false, false, false, false, false, false, false, false, false, false, false, false] rfl rfl (by kernel_rfl) (fun _ _ _ h => h) (Or.inl ⟨by rfl, ?_⟩) ?_ ?_
  rotate_left
  · intro w'
    go_simp
    with_reducible rfl
  rotate_left
  · simp only [Act.put, List.setIfInBounds_toArray, List.set_cons_zero, List.set_cons_succ, i64_w, i32_w]
    rfl
  refine pure_ (i := 12) (N := some 33) (v := ?_) (a' := ?_) #[true, true, true, true, true, true, true, true, true, true, true, true, true, false, false, false, false, false, false, false, false, false, false, false, false, false, false, false] rfl rfl (by kernel_rfl) (fun _ _ _ h => h) (Or.inl ⟨by rfl, ?_⟩) ?_ ?_
  rotate_left
  · intro w'
    go_simp
    with_reducible rfl
  rotate_left
  · simp only [Act.put, List.setIfInBounds_toArray, List.set_cons_zero, List.set_cons_succ, i64_w, i32_w]
    rfl
  refine pure_ (i := 13) (N := some 34) (v := ?_) (a' := ?_) #[true, true, true, true, true, true, true, true, true, true, true, true, true, true, false, false, false, false, false, false, false, false, false, false, false, false, false, false] rfl rfl (by kernel_rfl) (fun _ _ _ h => h) (Or.inl ⟨by rfl, ?_⟩) ?_ ?_
  rotate_left
  · intro w'
    go_simp
    with_reducible rfl
  rotate_left
  · simp only [Act.put, List.setIfInBounds_toArray, List.set_cons_zero, List.set_cons_succ, i64_w, i32_w]
    rfl
  refine pure_ (i := 14) (N := some 35) (v := ?_) (a' := ?_) #[true, true, true, true, true, true, true, true, true, true, true, true, true, true, true, false, false, false, false, false, false, false, false, false, false, false, false, false] rfl rfl (by kernel_rfl) (fun _ _ _ h => h) (Or.inl ⟨by rfl, ?_⟩) ?_ ?_
  rotate_left
  · intro w'
    go_simp
    with_reducible rfl
  rotate_left
  · simp only [Act.put, List.setIfInBounds_toArray, List.set_cons_zero, List.set_cons_succ, i64_w, i32_w]
    rfl
  refine pure_ (i := 15) (N := some 36) (v := ?_) (a' := ?_) #[true, true, true, true, true, true, true, true, true, true, true, true, true, true, true, true, false, false, false, false, false, false, false, false, false, false, false, false] rfl rfl (by kernel_rfl) (fun _ _ _ h => h) (Or.inl ⟨by rfl, ?_⟩) ?_ ?_
  rotate_left
  · intro w'
    go_simp
    with_reducible rfl
  rotate_left
  · simp only [Act.put, List.setIfInBounds_toArray, List.set_cons_zero, List.set_cons_succ, i64_w, i32_w]
    rfl
  refine pure_ (i := 16) (N := some 37) (v := ?_) (a' := ?_) #[true, true, true, true, true, true, true, true, true, true, true, true, true, true, true, true, true, false, false, false, false, false, false, false, false, false, false, false] rfl rfl (by kernel_rfl) (fun _ _ _ h => h) (Or.inl ⟨by rfl, ?_⟩) ?_ ?_
  rotate_left
  · intro w'
    go_simp
    with_reducible rfl
  rotate_left
  · simp only [Act.put, List.setIfInBounds_toArray, List.set_cons_zero, List.set_cons_succ, i64_w, i32_w]
    rfl
  refine pure_ (i := 17) (N := some 38) (v := ?_) (a' := ?_) #[true, true, true, true, true, true, true, true, true, true, true, true, true, true, true, true, true, true, false, false, false, false, false, false, false, false, false, false] rfl rfl (by kernel_rfl) (fun _ _ _ h => h) (Or.inl ⟨by rfl, ?_⟩) ?_ ?_
  rotate_left
  · intro w'
    go_simp
    with_reducible rfl
  rotate_left
  · simp only [Act.put, List.setIfInBounds_toArray, List.set_cons_zero, List.set_cons_succ, i64_w, i32_w]
    rfl
  refine pure_ (i := 18) (N := some 39) (v := ?_) (a' := ?_) #[true, true, true, true, true, true, true, true, true, true, true, true, true, true, true, true, true, true, true, false, false, false, false, false, false, false, false, false] rfl rfl (by kernel_rfl) (fun _ _ _ h => h) (Or.inl ⟨by rfl, ?_⟩) ?_ ?_
  rotate_left
  · intro w'
    go_simp
    with_reducible rfl
  rotate_left
  · simp only [Act.put, List.setIfInBounds_toArray, List.set_cons_zero, List.set_cons_succ, i64_w, i32_w]
    rfl
  refine pure_ (i := 19) (N := some 40) (v := ?_) (a' := ?_) #[true, true, true, true, true, true, true, true, true, true, true, true, true, true, true, true, true, true, true, true, false, false, false, false, false, false, false, false] rfl rfl (by kernel_rfl) (fun _ _ _ h => h) (Or.inl ⟨by rfl, ?_⟩) ?_ ?_
  rotate_left
  · intro w'
    go_simp
    with_reducible rfl
  rotate_left
  · simp only [Act.put, List.setIfInBounds_toArray, List.set_cons_zero, List.set_cons_succ, i64_w, i32_w]
    rfl
  refine pure_ (i := 20) (N := some 41) (v := ?_) (a' := ?_) #[true, true, true, true, true, true, true, true, true, true, true, true, true, true, true, true, true, true, true, true, true, false, false, false, false, false, false, false] rfl rfl (by kernel_rfl) (fun _ _ _ h => h) (Or.inl ⟨by rfl, ?_⟩) ?_ ?_
  rotate_left
  · intro w'
    go_simp
    with_reducible rfl
  rotate_left
  · simp only [Act.put, List.setIfInBounds_toArray, List.set_cons_zero, List.set_cons_succ, i64_w, i32_w]
    rfl
  refine pure_ (i := 21) (N := some 42) (v := ?_) (a' := ?_) #[true, true, true, true, true, true, true, true, true, true, true, true, true, true, true, true, true, true, true, true, true, true, false, false, false, false, false, false] rfl rfl (by kernel_rfl) (fun _ _ _ h => h) (Or.inl ⟨by rfl, ?_⟩) ?_ ?_
  rotate_left
  · intro w'
    go_simp
    with_reducible rfl
  rotate_left
  · simp only [Act.put, List.setIfInBounds_toArray, List.set_cons_zero, List.set_cons_succ, i64_w, i32_w]
    rfl
  refine pure_ (i := 22) (N := some 43) (v := ?_) (a' := ?_) #[true, true, true, true, true, true, true, true, true, true, true, true, true, true, true, true, true, true, true, true, true, true, true, false, false, false, false, false] rfl rfl (by kernel_rfl) (fun _ _ _ h => h) (Or.inl ⟨by rfl, ?_⟩) ?_ ?_
  rotate_left
  · intro w'
    go_simp
    with_reducible rfl
  rotate_left
  · simp only [Act.put, List.setIfInBounds_toArray, List.set_cons_zero, List.set_cons_succ, i64_w, i32_w]
    rfl
  refine take_ (i := 23) (N := some 44) (v := ?_) (a' := ?_) #[true, true, true, true, true, true, true, true, true, true, true, true, true, true, true, true, true, true, true, true, true, true, true, true, false, false, false, false] rfl rfl (by kernel_rfl) (fun _ _ _ h => h) (Or.inl ⟨by rfl, ?_⟩) hHeld ?_ ?_
  rotate_left
  · intro w' hS
    go_simp
    with_reducible rfl
  rotate_left
  · simp only [Act.put, List.setIfInBounds_toArray, List.set_cons_zero, List.set_cons_succ, i64_w, i32_w]
    rfl
  refine take_ (i := 24) (N := some 45) (v := ?_) (a' := ?_) #[true, true, true, true, true, true, true, true, true, true, true, true, true, true, true, true, true, true, true, true, true, true, true, true, true, false, false, false] rfl rfl (by kernel_rfl) (fun _ _ _ h => h) (Or.inl ⟨by rfl, ?_⟩) hHeld ?_ ?_
  rotate_left
  · intro w' hS
    go_simp
    with_reducible rfl
  rotate_left
  · simp only [Act.put, List.setIfInBounds_toArray, List.set_cons_zero, List.set_cons_succ, i64_w, i32_w]
    rfl
  refine one_ (i := 25) (N := some 46) #[true, true, true, true, true, true, true, true, true, true, true, true, true, true, true, true, true, true, true, true, true, true, true, true, true, true, false, false] rfl rfl (by kernel_rfl) (by decide) (fun K hK => ?_)
  refine goes_ Try.func20 (by kernel_rfl) rfl #[.agg #[.bool b, .slice A1 cs.length q1, .slice A2 ks.length q2, .slice A3 kids.length q3], .agg #[.bool b, .slice B1 cs.length c1, .slice B2 ks.length c2, .slice B3 kids.length c3]] (by rfl) rfl rfl (by (try simp only [List.map_toArray, List.map_cons, List.map_nil]); first | done | rfl) ?_
  refine (keptN _ b A1 q1 t1 A2 q2 t2 A3 q3 t3 B1 c1 cs B2 c2 ks B3 c3 kids hF hc1 hc2 hc3 (Kd.C_below h1 HB) (Kd.C_below h2 HB) (Kd.C_below h3 HB) hn hl e1 e2 e3).mono ?_
  rintro e_ w11 ⟨rfl, hb11⟩
  refine ⟨_, rfl, ?_⟩
  clear hHeld
  have hs11 : w10.heap.size ≤ w11.heap.size := hb11.size
  replace hF := NR_below hF hb11
  replace hV := NR_below hV hb11
  replace hxn := blk_below hxn hb11
  replace hxi := blk_below hxi hb11
  replace HB := below_then HB (below_size HB) hb11
  clear hb11
  have cn0 : w11.cell? ⟨gn, 0, none⟩ = some (.bool b) := (blk_cell hxn 0).trans rfl
  have cn1 : w11.cell? ⟨gn, 1, none⟩ = some (.slice B1 cs.length c1) := (blk_cell hxn 1).trans rfl
  have cn2 : w11.cell? ⟨gn, 2, none⟩ = some (.slice B2 ks.length c2) := (blk_cell hxn 2).trans rfl
  have cn3 : w11.cell? ⟨gn, 3, none⟩ = some (.slice B3 kids.length c3) := (blk_cell hxn 3).trans rfl
  have ci0 : w11.cell? ⟨gi, 0, none⟩ = some (.bool b) := (blk_cell hxi 0).trans rfl
  have ci1 : w11.cell? ⟨gi, 1, none⟩ = some (.slice A1 cs.length q1) := (blk_cell hxi 1).trans rfl
  have ci2 : w11.cell? ⟨gi, 2, none⟩ = some (.slice A2 ks.length q2) := (blk_cell hxi 2).trans rfl
  have ci3 : w11.cell? ⟨gi, 3, none⟩ = some (.slice A3 kids.length q3) := (blk_cell hxi 3).trans rfl
  refine hK.out _ _ (⟨cn0, cn1, cn2, cn3, ci0, ci1, ci2, ci3⟩) (fun hHeld => ?_)
  clear hK K
  refine norm_ (a' := ?_) ?_ ?_
  rotate_left
  · show Act.put _ (some 46) _ = _
    simp only [Act.put, List.setIfInBounds_toArray, List.set_cons_zero, List.set_cons_succ, i64_w, i32_w]
    rfl
  clear cn0 cn1 cn2 cn3 ci0 ci1 ci2 ci3
  refine pure_ (i := 26) (N := some 47) (v := ?_) (a' := ?_) #[true, true, true, true, true, true, true, true, true, true, true, true, true, true, true, true, true, true, true, true, true, true, true, true, true, true, true, false] rfl rfl (by kernel_rfl) (fun _ _ _ h => h) (Or.inl ⟨by rfl, ?_⟩) ?_ ?_
  rotate_left
  · intro w'
    go_simp
    with_reducible rfl
  rotate_left
  · simp only [Act.put, List.setIfInBounds_toArray, List.set_cons_zero, List.set_cons_succ, i64_w, i32_w]
    rfl
  refine pure_ (i := 27) (N := some 48) (v := ?_) (a' := ?_) #[true, true, true, true, true, true, true, true, true, true, true, true, true, true, true, true, true, true, true, true, true, true, true, true, true, true, true, true] rfl rfl (by kernel_rfl) (fun _ _ _ h => h) (Or.inl ⟨by rfl, ?_⟩) ?_ ?_
  rotate_left
  · intro w'
    go_simp
    with_reducible rfl
  rotate_left
  · simp only [Act.put, List.setIfInBounds_toArray, List.set_cons_zero, List.set_cons_succ, i64_w, i32_w]
    rfl
  refine done_ (by kernel_rfl) ?_
  clear hHeld
  have cn0 : w11.cell? ⟨gn, 0, none⟩ = some (.bool b) := (blk_cell hxn 0).trans rfl
  have cn1 : w11.cell? ⟨gn, 1, none⟩ = some (.slice B1 cs.length c1) := (blk_cell hxn 1).trans rfl
  have cn2 : w11.cell? ⟨gn, 2, none⟩ = some (.slice B2 ks.length c2) := (blk_cell hxn 2).trans rfl
  have cn3 : w11.cell? ⟨gn, 3, none⟩ = some (.slice B3 kids.length c3) := (blk_cell hxn 3).trans rfl
  have ci0 : w11.cell? ⟨gi, 0, none⟩ = some (.bool b) := (blk_cell hxi 0).trans rfl
  have ci1 : w11.cell? ⟨gi, 1, none⟩ = some (.slice A1 cs.length q1) := (blk_cell hxi 1).trans rfl
  have ci2 : w11.cell? ⟨gi, 2, none⟩ = some (.slice A2 ks.length q2) := (blk_cell hxi 2).trans rfl
  have ci3 : w11.cell? ⟨gi, 3, none⟩ = some (.slice A3 kids.length q3) := (blk_cell hxi 3).trans rfl
  go_wp2_with fail
  refine (overN w _ K b _ _ A1 q1 cs A2 q2 ks A3 q3 kids hV HB r1 r2 r3 ho).mono ?_
  rintro e_ w12 ⟨rfl, hV2, hW2, hk12⟩
  clear cn0 cn1 cn2 cn3 ci0 ci1 ci2 ci3
  have hs12 : w11.heap.size ≤ w12.heap.size := hk12.1
  replace hxn := (hk12.2 gn (blk_lt hxn) (fun q1 => by omega)).trans hxn
  replace hxi := (hk12.2 gi (blk_lt hxi) (fun q1 => by omega)).trans hxi
  replace HB := hW2
  clear hW2
  clear hk12
  clear hV hF
  have hV := hV2
  clear hV2
  have cn0 : w12.cell? ⟨gn, 0, none⟩ = some (.bool b) := (blk_cell hxn 0).trans rfl
  have cn1 : w12.cell? ⟨gn, 1, none⟩ = some (.slice B1 cs.length c1) := (blk_cell hxn 1).trans rfl
  have cn2 : w12.cell? ⟨gn, 2, none⟩ = some (.slice B2 ks.length c2) := (blk_cell hxn 2).trans rfl
  have cn3 : w12.cell? ⟨gn, 3, none⟩ = some (.slice B3 kids.length c3) := (blk_cell hxn 3).trans rfl
  have ci0 : w12.cell? ⟨gi, 0, none⟩ = some (.bool b) := (blk_cell hxi 0).trans rfl
  have ci1 : w12.cell? ⟨gi, 1, none⟩ = some (.slice A1 cs.length q1) := (blk_cell hxi 1).trans rfl
  have ci2 : w12.cell? ⟨gi, 2, none⟩ = some (.slice A2 ks.length q2) := (blk_cell hxi 2).trans rfl
  have ci3 : w12.cell? ⟨gi, 3, none⟩ = some (.slice A3 kids.length q3) := (blk_cell hxi 3).trans rfl
  go_wp2_with fail
  obtain ⟨gC, gL, -, -, -⟩ := NR_C hV
  have X := twinN _ b A1 q1 r1 A2 q2 r2 A3 q3 r3 gL.1 gL.2.1 gL.2.2 gC.1 gC.2.1 gC.2.2 hn' w.heap.size (below_size HB)
  rw [l1, l2, l3] at X
  refine (X).mono ?_
  rintro e_ w13 ⟨D1, d1, D2, d2, D3, d3, rfl, hT, hb13⟩
  clear cn0 cn1 cn2 cn3 ci0 ci1 ci2 ci3
  have hs13 : w12.heap.size ≤ w13.heap.size := hb13.size
  replace hV := NR_below hV hb13
  replace hxn := blk_below hxn hb13
  replace hxi := blk_below hxi hb13
  replace HB := below_then HB (below_size HB) hb13
  clear hb13
  clear X gC gL
  have hb14 : Below w13.heap.size w13 (w13.alloc (.cells #[.bool b, .slice D1 cs.length d1, .slice D2 ks.length d2, .slice D3 kids.length d3] 26)) := (Below.refl _ _).alloc (Nat.le_refl _) _
  have hs14 : w13.heap.size ≤ (w13.alloc (.cells #[.bool b, .slice D1 cs.length d1, .slice D2 ks.length d2, .slice D3 kids.length d3] 26)).heap.size := hb14.size
  replace hV := NR_below hV hb14
  replace hT := NR_below hT hb14
  replace hxn := blk_below hxn hb14
  replace hxi := blk_below hxi hb14
  replace HB := below_then HB (below_size HB) hb14
  clear hb14
  have hxt : (w13.alloc (.cells #[.bool b, .slice D1 cs.length d1, .slice D2 ks.length d2, .slice D3 kids.length d3] 26)).heap[w13.heap.size]? = some (.cells #[.bool b, .slice D1 cs.length d1, .slice D2 ks.length d2, .slice D3 kids.length d3] 26 (0, 0)) := blk_new w13 _
  have cn0 : (w13.alloc (.cells #[.bool b, .slice D1 cs.length d1, .slice D2 ks.length d2, .slice D3 kids.length d3] 26)).cell? ⟨gn, 0, none⟩ = some (.bool b) := (blk_cell hxn 0).trans rfl
  have cn1 : (w13.alloc (.cells #[.bool b, .slice D1 cs.length d1, .slice D2 ks.length d2, .slice D3 kids.length d3] 26)).cell? ⟨gn, 1, none⟩ = some (.slice B1 cs.length c1) := (blk_cell hxn 1).trans rfl
  have cn2 : (w13.alloc (.cells #[.bool b, .slice D1 cs.length d1, .slice D2 ks.length d2, .slice D3 kids.length d3] 26)).cell? ⟨gn, 2, none⟩ = some (.slice B2 ks.length c2) := (blk_cell hxn 2).trans rfl
  have cn3 : (w13.alloc (.cells #[.bool b, .slice D1 cs.length d1, .slice D2 ks.length d2, .slice D3 kids.length d3] 26)).cell? ⟨gn, 3, none⟩ = some (.slice B3 kids.length c3) := (blk_cell hxn 3).trans rfl
  have ci0 : (w13.alloc (.cells #[.bool b, .slice D1 cs.length d1, .slice D2 ks.length d2, .slice D3 kids.length d3] 26)).cell? ⟨gi, 0, none⟩ = some (.bool b) := (blk_cell hxi 0).trans rfl
  have ci1 : (w13.alloc (.cells #[.bool b, .slice D1 cs.length d1, .slice D2 ks.length d2, .slice D3 kids.length d3] 26)).cell? ⟨gi, 1, none⟩ = some (.slice A1 cs.length q1) := (blk_cell hxi 1).trans rfl
  have ci2 : (w13.alloc (.cells #[.bool b, .slice D1 cs.length d1, .slice D2 ks.length d2, .slice D3 kids.length d3] 26)).cell? ⟨gi, 2, none⟩ = some (.slice A2 ks.length q2) := (blk_cell hxi 2).trans rfl
  have ci3 : (w13.alloc (.cells #[.bool b, .slice D1 cs.length d1, .slice D2 ks.length d2, .slice D3 kids.length d3] 26)).cell? ⟨gi, 3, none⟩ = some (.slice A3 kids.length q3) := (blk_cell hxi 3).trans rfl
  have ct0 : (w13.alloc (.cells #[.bool b, .slice D1 cs.length d1, .slice D2 ks.length d2, .slice D3 kids.length d3] 26)).cell? ⟨w13.heap.size, 0, none⟩ = some (.bool b) := (blk_cell hxt 0).trans rfl
  have ct1 : (w13.alloc (.cells #[.bool b, .slice D1 cs.length d1, .slice D2 ks.length d2, .slice D3 kids.length d3] 26)).cell? ⟨w13.heap.size, 1, none⟩ = some (.slice D1 cs.length d1) := (blk_cell hxt 1).trans rfl
  have ct2 : (w13.alloc (.cells #[.bool b, .slice D1 cs.length d1, .slice D2 ks.length d2, .slice D3 kids.length d3] 26)).cell? ⟨w13.heap.size, 2, none⟩ = some (.slice D2 ks.length d2) := (blk_cell hxt 2).trans rfl
  have ct3 : (w13.alloc (.cells #[.bool b, .slice D1 cs.length d1, .slice D2 ks.length d2, .slice D3 kids.length d3] 26)).cell? ⟨w13.heap.size, 3, none⟩ = some (.slice D3 kids.length d3) := (blk_cell hxt 3).trans rfl
  go_wp2_with fail
  clear cn0 cn1 cn2 cn3 ci0 ci1 ci2 ci3 ct0 ct1 ct2 ct3
  have hlt := blk_lt hxt
  generalize (w13.alloc (.cells #[.bool b, .slice D1 cs.length d1, .slice D2 ks.length d2, .slice D3 kids.length d3] 26)) = w14 at *
  obtain ⟨gt, het⟩ : ∃ g, g = w13.heap.size := ⟨_, rfl⟩
  rw [← het] at hxt hlt ⊢
  have hget : w13.heap.size ≤ gt := Nat.le_of_eq het.symm
  clear het
  obtain ⟨gC, gL, -, -, -⟩ := NR_C hT
  have X := concordref08_Encode.calls (2 * (r1.length + r2.length) + r3.length + 60) b D1 d1 r1 D2 d2 r2 D3 d3 r3 s' i' _ gC.1 gL.1 gC.2.1 gL.2.1 gC.2.2 gL.2.2 (hEE'.symm ▸ renc_f b r1 r2 r3 hk' hn' _ (Nat.le_refl _))
  rw [l1, l2, l3] at X
  refine (X).mono ?_
  rintro e_ w15 ⟨rfl, hb15⟩
  have hs15 : w14.heap.size ≤ w15.heap.size := hb15.size
  replace hV := NR_below hV hb15
  replace hT := NR_below hT hb15
  replace hxn := blk_below hxn hb15
  replace hxi := blk_below hxi hb15
  replace hxt := blk_below hxt hb15
  replace HB := below_then HB (below_size HB) hb15
  clear hb15
  clear X gC gL
  have cn0 : w15.cell? ⟨gn, 0, none⟩ = some (.bool b) := (blk_cell hxn 0).trans rfl
  have cn1 : w15.cell? ⟨gn, 1, none⟩ = some (.slice B1 cs.length c1) := (blk_cell hxn 1).trans rfl
  have cn2 : w15.cell? ⟨gn, 2, none⟩ = some (.slice B2 ks.length c2) := (blk_cell hxn 2).trans rfl
  have cn3 : w15.cell? ⟨gn, 3, none⟩ = some (.slice B3 kids.length c3) := (blk_cell hxn 3).trans rfl
  have ci0 : w15.cell? ⟨gi, 0, none⟩ = some (.bool b) := (blk_cell hxi 0).trans rfl
  have ci1 : w15.cell? ⟨gi, 1, none⟩ = some (.slice A1 cs.length q1) := (blk_cell hxi 1).trans rfl
  have ci2 : w15.cell? ⟨gi, 2, none⟩ = some (.slice A2 ks.length q2) := (blk_cell hxi 2).trans rfl
  have ci3 : w15.cell? ⟨gi, 3, none⟩ = some (.slice A3 kids.length q3) := (blk_cell hxi 3).trans rfl
  have ct0 : w15.cell? ⟨gt, 0, none⟩ = some (.bool b) := (blk_cell hxt 0).trans rfl
  have ct1 : w15.cell? ⟨gt, 1, none⟩ = some (.slice D1 cs.length d1) := (blk_cell hxt 1).trans rfl
  have ct2 : w15.cell? ⟨gt, 2, none⟩ = some (.slice D2 ks.length d2) := (blk_cell hxt 2).trans rfl
  have ct3 : w15.cell? ⟨gt, 3, none⟩ = some (.slice D3 kids.length d3) := (blk_cell hxt 3).trans rfl
  go_wp2_with fail
  obtain ⟨gC, gL, -, -, -⟩ := NR_C hV
  have X := node_Encode.calls  b A1 q1 r1 A2 q2 r2 A3 q3 r3 s' i' _ gC.1 gL.1 gC.2.1 gL.2.1 gC.2.2 gL.2.2 (hEE'.symm ▸ oenc_f (ndB_of' hn' hk'))
  rw [l1, l2, l3] at X
  refine (X).mono ?_
  rintro e_ w16 ⟨rfl, hb16⟩
  clear cn0 cn1 cn2 cn3 ci0 ci1 ci2 ci3 ct0 ct1 ct2 ct3
  have hs16 : w15.heap.size ≤ w16.heap.size := hb16.size
  replace hV := NR_below hV hb16
  replace hT := NR_below hT hb16
  replace hxn := blk_below hxn hb16
  replace hxi := blk_below hxi hb16
  replace hxt := blk_below hxt hb16
  replace HB := below_then HB (below_size HB) hb16
  clear hb16
  clear X gC gL
  have cn0 : w16.cell? ⟨gn, 0, none⟩ = some (.bool b) := (blk_cell hxn 0).trans rfl
  have cn1 : w16.cell? ⟨gn, 1, none⟩ = some (.slice B1 cs.length c1) := (blk_cell hxn 1).trans rfl
  have cn2 : w16.cell? ⟨gn, 2, none⟩ = some (.slice B2 ks.length c2) := (blk_cell hxn 2).trans rfl
  have cn3 : w16.cell? ⟨gn, 3, none⟩ = some (.slice B3 kids.length c3) := (blk_cell hxn 3).trans rfl
  have ci0 : w16.cell? ⟨gi, 0, none⟩ = some (.bool b) := (blk_cell hxi 0).trans rfl
  have ci1 : w16.cell? ⟨gi, 1, none⟩ = some (.slice A1 cs.length q1) := (blk_cell hxi 1).trans rfl
  have ci2 : w16.cell? ⟨gi, 2, none⟩ = some (.slice A2 ks.length q2) := (blk_cell hxi 2).trans rfl
  have ci3 : w16.cell? ⟨gi, 3, none⟩ = some (.slice A3 kids.length q3) := (blk_cell hxi 3).trans rfl
  have ct0 : w16.cell? ⟨gt, 0, none⟩ = some (.bool b) := (blk_cell hxt 0).trans rfl
  have ct1 : w16.cell? ⟨gt, 1, none⟩ = some (.slice D1 cs.length d1) := (blk_cell hxt 1).trans rfl
  have ct2 : w16.cell? ⟨gt, 2, none⟩ = some (.slice D2 ks.length d2) := (blk_cell hxt 2).trans rfl
  have ct3 : w16.cell? ⟨gt, 3, none⟩ = some (.slice D3 kids.length d3) := (blk_cell hxt 3).trans rfl
  go_wp2_with fail
  clear cn0 cn1 cn2 cn3 ci0 ci1 ci2 ci3 ct0 ct1 ct2 ct3
  have cn0 : w16.cell? ⟨gn, 0, none⟩ = some (.bool b) := (blk_cell hxn 0).trans rfl
  have cn1 : w16.cell? ⟨gn, 1, none⟩ = some (.slice B1 cs.length c1) := (blk_cell hxn 1).trans rfl
  have cn2 : w16.cell? ⟨gn, 2, none⟩ = some (.slice B2 ks.length c2) := (blk_cell hxn 2).trans rfl
  have cn3 : w16.cell? ⟨gn, 3, none⟩ = some (.slice B3 kids.length c3) := (blk_cell hxn 3).trans rfl
  have ci0 : w16.cell? ⟨gi, 0, none⟩ = some (.bool b) := (blk_cell hxi 0).trans rfl
  have ci1 : w16.cell? ⟨gi, 1, none⟩ = some (.slice A1 cs.length q1) := (blk_cell hxi 1).trans rfl
  have ci2 : w16.cell? ⟨gi, 2, none⟩ = some (.slice A2 ks.length q2) := (blk_cell hxi 2).trans rfl
  have ci3 : w16.cell? ⟨gi, 3, none⟩ = some (.slice A3 kids.length q3) := (blk_cell hxi 3).trans rfl
  have ct0 : w16.cell? ⟨gt, 0, none⟩ = some (.bool b) := (blk_cell hxt 0).trans rfl
  have ct1 : w16.cell? ⟨gt, 1, none⟩ = some (.slice D1 cs.length d1) := (blk_cell hxt 1).trans rfl
  have ct2 : w16.cell? ⟨gt, 2, none⟩ = some (.slice D2 ks.length d2) := (blk_cell hxt 2).trans rfl
  have ct3 : w16.cell? ⟨gt, 3, none⟩ = some (.slice D3 kids.length d3) := (blk_cell hxt 3).trans rfl
  refine start_ (n := 23) (S := fun w' => w'.cell? ⟨gn, 0, none⟩ = some (.bool b) ∧ w'.cell? ⟨gn, 1, none⟩ = some (.slice B1 cs.length c1) ∧ w'.cell? ⟨gn, 2, none⟩ = some (.slice B2 ks.length c2) ∧ w'.cell? ⟨gn, 3, none⟩ = some (.slice B3 kids.length c3) ∧ w'.cell? ⟨gi, 0, none⟩ = some (.bool b) ∧ w'.cell? ⟨gi, 1, none⟩ = some (.slice A1 cs.length q1) ∧ w'.cell? ⟨gi, 2, none⟩ = some (.slice A2 ks.length q2) ∧ w'.cell? ⟨gi, 3, none⟩ = some (.slice A3 kids.length q3) ∧ w'.cell? ⟨gt, 0, none⟩ = some (.bool b) ∧ w'.cell? ⟨gt, 1, none⟩ = some (.slice D1 cs.length d1) ∧ w'.cell? ⟨gt, 2, none⟩ = some (.slice D2 ks.length d2) ∧ w'.cell? ⟨gt, 3, none⟩ = some (.slice D3 kids.length d3)) (ds := []) #[false, false, false, false, false, false, false, false, false, false, false, false, false, false, false, false, false, false, false, false, false, false, false] (by kernel_rfl) rfl rfl (⟨cn0, cn1, cn2, cn3, ci0, ci1, ci2, ci3, ct0, ct1, ct2, ct3⟩) (fun hHeld => ?_)
  clear cn0 cn1 cn2 cn3 ci0 ci1 ci2 ci3 ct0 ct1 ct2 ct3
  have hb17 : Below w16.heap.size w16 w16.drew := below_drew (Below.refl _ _)
  have hs17 : w16.heap.size ≤ w16.drew.heap.size := hb17.size
  replace hV := NR_below hV hb17
  replace hT := NR_below hT hb17
  replace hxn := blk_below hxn hb17
  replace hxi := blk_below hxi hb17
  replace hxt := blk_below hxt hb17
  replace HB := below_then HB (below_size HB) hb17
  clear hb17
  generalize w16.drew = w17 at *
  refine take_ (i := 0) (N := some 63) (v := ?_) (a' := ?_) #[true, false, false, false, false, false, false, false, false, false, false, false, false, false, false, false, false, false, false, false, false, false, false] rfl rfl (by kernel_rfl) (fun _ _ _ h => h) (Or.inl ⟨by rfl, ?_⟩) hHeld ?_ ?_
  rotate_left
  · intro w' hS
    go_simp
    with_reducible rfl
  rotate_left
  · simp only [Act.put, List.setIfInBounds_toArray, List.set_cons_zero, List.set_cons_succ, i64_w, i32_w]
    rfl
  refine take_ (i := 2) (N := some 65) (v := ?_) (a' := ?_) #[true, false, true, false, false, false, false, false, false, false, false, false, false, false, false, false, false, false, false, false, false, false, false] rfl rfl (by kernel_rfl) (fun _ _ _ h => h) (Or.inl ⟨by rfl, ?_⟩) hHeld ?_ ?_
  rotate_left
  · intro w' hS
    go_simp
    with_reducible rfl
  rotate_left
  · simp only [Act.put, List.setIfInBounds_toArray, List.set_cons_zero, List.set_cons_succ, i64_w, i32_w]
    rfl
  refine one_ (i := 1) (N := some 64) #[true, true, true, false, false, false, false, false, false, false, false, false, false, false, false, false, false, false, false, false, false, false, false] rfl rfl (by kernel_rfl) (by decide) (fun K hK => ?_)
  obtain ⟨gC, gL, -, -, -⟩ := NR_C hV
  have X := node_Check.calls (2 * (r1.length + r2.length) + r3.length + 60) b A1 q1 r1 A2 q2 r2 A3 q3 r3 C' _ gC.1 gL.1 gC.2.1 gL.2.1 gC.2.2 gL.2.2 (hCC'.symm ▸ ochk_f b r1 r2 r3 hn' _ (Nat.le_refl _))
  rw [l1, l2, l3] at X
  refine goes_ Try.func32 (by kernel_rfl) rfl #[.agg #[.bool b, .slice A1 cs.length q1, .slice A2 ks.length q2, .slice A3 kids.length q3]] (by rfl) rfl rfl (by (try simp only [List.map_toArray, List.map_cons, List.map_nil]); first | done | rfl) ?_
  refine (X).mono ?_
  rintro e_ w18 ⟨rfl, hb18⟩
  refine ⟨_, rfl, ?_⟩
  clear hHeld
  have hs18 : w17.heap.size ≤ w18.heap.size := hb18.size
  replace hV := NR_below hV hb18
  replace hT := NR_below hT hb18
  replace hxn := blk_below hxn hb18
  replace hxi := blk_below hxi hb18
  replace hxt := blk_below hxt hb18
  replace HB := below_then HB (below_size HB) hb18
  clear hb18
  clear X gC gL
  have cn0 : w18.cell? ⟨gn, 0, none⟩ = some (.bool b) := (blk_cell hxn 0).trans rfl
  have cn1 : w18.cell? ⟨gn, 1, none⟩ = some (.slice B1 cs.length c1) := (blk_cell hxn 1).trans rfl
  have cn2 : w18.cell? ⟨gn, 2, none⟩ = some (.slice B2 ks.length c2) := (blk_cell hxn 2).trans rfl
  have cn3 : w18.cell? ⟨gn, 3, none⟩ = some (.slice B3 kids.length c3) := (blk_cell hxn 3).trans rfl
  have ci0 : w18.cell? ⟨gi, 0, none⟩ = some (.bool b) := (blk_cell hxi 0).trans rfl
  have ci1 : w18.cell? ⟨gi, 1, none⟩ = some (.slice A1 cs.length q1) := (blk_cell hxi 1).trans rfl
  have ci2 : w18.cell? ⟨gi, 2, none⟩ = some (.slice A2 ks.length q2) := (blk_cell hxi 2).trans rfl
  have ci3 : w18.cell? ⟨gi, 3, none⟩ = some (.slice A3 kids.length q3) := (blk_cell hxi 3).trans rfl
  have ct0 : w18.cell? ⟨gt, 0, none⟩ = some (.bool b) := (blk_cell hxt 0).trans rfl
  have ct1 : w18.cell? ⟨gt, 1, none⟩ = some (.slice D1 cs.length d1) := (blk_cell hxt 1).trans rfl
  have ct2 : w18.cell? ⟨gt, 2, none⟩ = some (.slice D2 ks.length d2) := (blk_cell hxt 2).trans rfl
  have ct3 : w18.cell? ⟨gt, 3, none⟩ = some (.slice D3 kids.length d3) := (blk_cell hxt 3).trans rfl
  refine hK.out _ _ (⟨cn0, cn1, cn2, cn3, ci0, ci1, ci2, ci3, ct0, ct1, ct2, ct3⟩) (fun hHeld => ?_)
  clear hK K
  refine norm_ (a' := ?_) ?_ ?_
  rotate_left
  · show Act.put _ (some 64) _ = _
    simp only [Act.put, List.setIfInBounds_toArray, List.set_cons_zero, List.set_cons_succ, i64_w, i32_w]
    rfl
  clear cn0 cn1 cn2 cn3 ci0 ci1 ci2 ci3 ct0 ct1 ct2 ct3
  refine one_ (i := 3) (N := some 66) #[true, true, true, true, false, false, false, false, false, false, false, false, false, false, false, false, false, false, false, false, false, false, false] rfl rfl (by kernel_rfl) (by decide) (fun K hK => ?_)
  obtain ⟨gC, gL, -, -, -⟩ := NR_C hT
  have X := concordref08_Check.calls (2 * (r1.length + r2.length) + r3.length + 60) b D1 d1 r1 D2 d2 r2 D3 d3 r3 C' _ gC.1 gL.1 gC.2.1 gL.2.1 gC.2.2 gL.2.2 (hCC'.symm ▸ rchk_f b r1 r2 r3 hn' _ (Nat.le_refl _))
  rw [l1, l2, l3] at X
  refine goes_ Try.func33 (by kernel_rfl) rfl #[.agg #[.bool b, .slice D1 cs.length d1, .slice D2 ks.length d2, .slice D3 kids.length d3]] (by rfl) rfl rfl (by (try simp only [List.map_toArray, List.map_cons, List.map_nil]); first | done | rfl) ?_
  refine (X).mono ?_
  rintro e_ w19 ⟨rfl, hb19⟩
  refine ⟨_, rfl, ?_⟩
  clear hHeld
  have hs19 : w18.heap.size ≤ w19.heap.size := hb19.size
  replace hV := NR_below hV hb19
  replace hT := NR_below hT hb19
  replace hxn := blk_below hxn hb19
  replace hxi := blk_below hxi hb19
  replace hxt := blk_below hxt hb19
  replace HB := below_then HB (below_size HB) hb19
  clear hb19
  clear X gC gL
  have cn0 : w19.cell? ⟨gn, 0, none⟩ = some (.bool b) := (blk_cell hxn 0).trans rfl
  have cn1 : w19.cell? ⟨gn, 1, none⟩ = some (.slice B1 cs.length c1) := (blk_cell hxn 1).trans rfl
  have cn2 : w19.cell? ⟨gn, 2, none⟩ = some (.slice B2 ks.length c2) := (blk_cell hxn 2).trans rfl
  have cn3 : w19.cell? ⟨gn, 3, none⟩ = some (.slice B3 kids.length c3) := (blk_cell hxn 3).trans rfl
  have ci0 : w19.cell? ⟨gi, 0, none⟩ = some (.bool b) := (blk_cell hxi 0).trans rfl
  have ci1 : w19.cell? ⟨gi, 1, none⟩ = some (.slice A1 cs.length q1) := (blk_cell hxi 1).trans rfl
  have ci2 : w19.cell? ⟨gi, 2, none⟩ = some (.slice A2 ks.length q2) := (blk_cell hxi 2).trans rfl
  have ci3 : w19.cell? ⟨gi, 3, none⟩ = some (.slice A3 kids.length q3) := (blk_cell hxi 3).trans rfl
  have ct0 : w19.cell? ⟨gt, 0, none⟩ = some (.bool b) := (blk_cell hxt 0).trans rfl
  have ct1 : w19.cell? ⟨gt, 1, none⟩ = some (.slice D1 cs.length d1) := (blk_cell hxt 1).trans rfl
  have ct2 : w19.cell? ⟨gt, 2, none⟩ = some (.slice D2 ks.length d2) := (blk_cell hxt 2).trans rfl
  have ct3 : w19.cell? ⟨gt, 3, none⟩ = some (.slice D3 kids.length d3) := (blk_cell hxt 3).trans rfl
  refine hK.out _ _ (⟨cn0, cn1, cn2, cn3, ci0, ci1, ci2, ci3, ct0, ct1, ct2, ct3⟩) (fun hHeld => ?_)
  clear hK K
  refine norm_ (a' := ?_) ?_ ?_
  rotate_left
  · show Act.put _ (some 66) _ = _
    simp only [Act.put, List.setIfInBounds_toArray, List.set_cons_zero, List.set_cons_succ, i64_w, i32_w]
    rfl
  clear cn0 cn1 cn2 cn3 ci0 ci1 ci2 ci3 ct0 ct1 ct2 ct3
  refine pure_ (i := 4) (N := some 67) (v := ?_) (a' := ?_) #[true, true, true, true, true, false, false, false, false, false, false, false, false, false, false, false, false, false, false, false, false, false, false] rfl rfl (by kernel_rfl) (fun _ _ _ h => h) (Or.inl ⟨by rfl, ?_⟩) ?_ ?_
  rotate_left
  · intro w'
    go_simp
    with_reducible rfl
  rotate_left
  · simp only [Act.put, List.setIfInBounds_toArray, List.set_cons_zero, List.set_cons_succ, i64_w, i32_w]
    rfl
  refine pure_ (i := 5) (N := some 68) (v := ?_) (a' := ?_) #[true, true, true, true, true, true, false, false, false, false, false, false, false, false, false, false, false, false, false, false, false, false, false] rfl rfl (by kernel_rfl) (fun _ _ _ h => h) (Or.inl ⟨by rfl, ?_⟩) ?_ ?_
  rotate_left
  · intro w'
    go_simp
    with_reducible rfl
  rotate_left
  · simp only [Act.put, List.setIfInBounds_toArray, List.set_cons_zero, List.set_cons_succ, i64_w, i32_w]
    rfl
  refine take_ (i := 6) (N := some 69) (v := ?_) (a' := ?_) #[true, true, true, true, true, true, true, false, false, false, false, false, false, false, false, false, false, false, false, false, false, false, false] rfl rfl (by kernel_rfl) (fun _ _ _ h => h) (Or.inl ⟨by rfl, ?_⟩) hHeld ?_ ?_
  rotate_left
  · intro w' hS
    go_simp
    with_reducible rfl
  rotate_left
  · simp only [Act.put, List.setIfInBounds_toArray, List.set_cons_zero, List.set_cons_succ, i64_w, i32_w]
    rfl
  refine take_ (i := 8) (N := some 71) (v := ?_) (a' := ?_) #[true, true, true, true, true, true, true, false, true, false, false, false, false, false, false, false, false, false, false, false, false, false, false] rfl rfl (by kernel_rfl) (fun _ _ _ h => h) (Or.inl ⟨by rfl, ?_⟩) hHeld ?_ ?_
  rotate_left
  · intro w' hS
    go_simp
    with_reducible rfl
  rotate_left
  · simp only [Act.put, List.setIfInBounds_toArray, List.set_cons_zero, List.set_cons_succ, i64_w, i32_w]
    rfl
  refine one_ (i := 7) (N := some 70) #[true, true, true, true, true, true, true, true, true, false, false, false, false, false, false, false, false, false, false, false, false, false, false] rfl rfl (by kernel_rfl) (by decide) (fun K hK => ?_)
  obtain ⟨gC, gL, -, -, -⟩ := NR_C hV
  have X := node_Size.calls (2 * (r1.length + r2.length) + r3.length + 60) b A1 q1 r1 A2 q2 r2 A3 q3 r3 Z' _ gC.1 gL.1 gC.2.1 gL.2.1 gC.2.2 gL.2.2 (hZZ'.symm ▸ osize_f b r1 r2 r3 hn' _ (Nat.le_refl _))
  rw [l1, l2, l3] at X
  refine goes_ Try.func34 (by kernel_rfl) rfl #[.agg #[.bool b, .slice A1 cs.length q1, .slice A2 ks.length q2, .slice A3 kids.length q3]] (by rfl) rfl rfl (by (try simp only [List.map_toArray, List.map_cons, List.map_nil]); first | done | rfl) ?_
  refine (X).mono ?_
  rintro e_ w20 ⟨rfl, hb20⟩
  refine ⟨_, rfl, ?_⟩
  clear hHeld
  have hs20 : w19.heap.size ≤ w20.heap.size := hb20.size
  replace hV := NR_below hV hb20
  replace hT := NR_below hT hb20
  replace hxn := blk_below hxn hb20
  replace hxi := blk_below hxi hb20
  replace hxt := blk_below hxt hb20
  replace HB := below_then HB (below_size HB) hb20
  clear hb20
  clear X gC gL
  have cn0 : w20.cell? ⟨gn, 0, none⟩ = some (.bool b) := (blk_cell hxn 0).trans rfl
  have cn1 : w20.cell? ⟨gn, 1, none⟩ = some (.slice B1 cs.length c1) := (blk_cell hxn 1).trans rfl
  have cn2 : w20.cell? ⟨gn, 2, none⟩ = some (.slice B2 ks.length c2) := (blk_cell hxn 2).trans rfl
  have cn3 : w20.cell? ⟨gn, 3, none⟩ = some (.slice B3 kids.length c3) := (blk_cell hxn 3).trans rfl
  have ci0 : w20.cell? ⟨gi, 0, none⟩ = some (.bool b) := (blk_cell hxi 0).trans rfl
  have ci1 : w20.cell? ⟨gi, 1, none⟩ = some (.slice A1 cs.length q1) := (blk_cell hxi 1).trans rfl
  have ci2 : w20.cell? ⟨gi, 2, none⟩ = some (.slice A2 ks.length q2) := (blk_cell hxi 2).trans rfl
  have ci3 : w20.cell? ⟨gi, 3, none⟩ = some (.slice A3 kids.length q3) := (blk_cell hxi 3).trans rfl
  have ct0 : w20.cell? ⟨gt, 0, none⟩ = some (.bool b) := (blk_cell hxt 0).trans rfl
  have ct1 : w20.cell? ⟨gt, 1, none⟩ = some (.slice D1 cs.length d1) := (blk_cell hxt 1).trans rfl
  have ct2 : w20.cell? ⟨gt, 2, none⟩ = some (.slice D2 ks.length d2) := (blk_cell hxt 2).trans rfl
  have ct3 : w20.cell? ⟨gt, 3, none⟩ = some (.slice D3 kids.length d3) := (blk_cell hxt 3).trans rfl
  refine hK.out _ _ (⟨cn0, cn1, cn2, cn3, ci0, ci1, ci2, ci3, ct0, ct1, ct2, ct3⟩) (fun hHeld => ?_)
  clear hK K
  refine norm_ (a' := ?_) ?_ ?_
  rotate_left
  · show Act.put _ (some 70) _ = _
    simp only [Act.put, List.setIfInBounds_toArray, List.set_cons_zero, List.set_cons_succ, i64_w, i32_w]
    rfl
  clear cn0 cn1 cn2 cn3 ci0 ci1 ci2 ci3 ct0 ct1 ct2 ct3
  refine one_ (i := 9) (N := some 72) #[true, true, true, true, true, true, true, true, true, true, false, false, false, false, false, false, false, false, false, false, false, false, false] rfl rfl (by kernel_rfl) (by decide) (fun K hK => ?_)
  obtain ⟨gC, gL, -, -, -⟩ := NR_C hT
  have X := concordref08_Size.calls (2 * (r1.length + r2.length) + r3.length + 60) b D1 d1 r1 D2 d2 r2 D3 d3 r3 Z' _ gC.1 gL.1 gC.2.1 gL.2.1 gC.2.2 gL.2.2 (hZZ'.symm ▸ rsize_f b r1 r2 r3 hn' _ (Nat.le_refl _))
  rw [l1, l2, l3] at X
  refine goes_ Try.func35 (by kernel_rfl) rfl #[.agg #[.bool b, .slice D1 cs.length d1, .slice D2 ks.length d2, .slice D3 kids.length d3]] (by rfl) rfl rfl (by (try simp only [List.map_toArray, List.map_cons, List.map_nil]); first | done | rfl) ?_
  refine (X).mono ?_
  rintro e_ w21 ⟨rfl, hb21⟩
  refine ⟨_, rfl, ?_⟩
  clear hHeld
  have hs21 : w20.heap.size ≤ w21.heap.size := hb21.size
  replace hV := NR_below hV hb21
  replace hT := NR_below hT hb21
  replace hxn := blk_below hxn hb21
  replace hxi := blk_below hxi hb21
  replace hxt := blk_below hxt hb21
  replace HB := below_then HB (below_size HB) hb21
  clear hb21
  clear X gC gL
  have cn0 : w21.cell? ⟨gn, 0, none⟩ = some (.bool b) := (blk_cell hxn 0).trans rfl
  have cn1 : w21.cell? ⟨gn, 1, none⟩ = some (.slice B1 cs.length c1) := (blk_cell hxn 1).trans rfl
  have cn2 : w21.cell? ⟨gn, 2, none⟩ = some (.slice B2 ks.length c2) := (blk_cell hxn 2).trans rfl
  have cn3 : w21.cell? ⟨gn, 3, none⟩ = some (.slice B3 kids.length c3) := (blk_cell hxn 3).trans rfl
  have ci0 : w21.cell? ⟨gi, 0, none⟩ = some (.bool b) := (blk_cell hxi 0).trans rfl
  have ci1 : w21.cell? ⟨gi, 1, none⟩ = some (.slice A1 cs.length q1) := (blk_cell hxi 1).trans rfl
  have ci2 : w21.cell? ⟨gi, 2, none⟩ = some (.slice A2 ks.length q2) := (blk_cell hxi 2).trans rfl
  have ci3 : w21.cell? ⟨gi, 3, none⟩ = some (.slice A3 kids.length q3) := (blk_cell hxi 3).trans rfl
  have ct0 : w21.cell? ⟨gt, 0, none⟩ = some (.bool b) := (blk_cell hxt 0).trans rfl
  have ct1 : w21.cell? ⟨gt, 1, none⟩ = some (.slice D1 cs.length d1) := (blk_cell hxt 1).trans rfl
  have ct2 : w21.cell? ⟨gt, 2, none⟩ = some (.slice D2 ks.length d2) := (blk_cell hxt 2).trans rfl
  have ct3 : w21.cell? ⟨gt, 3, none⟩ = some (.slice D3 kids.length d3) := (blk_cell hxt 3).trans rfl
  refine hK.out _ _ (⟨cn0, cn1, cn2, cn3, ci0, ci1, ci2, ci3, ct0, ct1, ct2, ct3⟩) (fun hHeld => ?_)
  clear hK K
  refine norm_ (a' := ?_) ?_ ?_
  rotate_left
  · show Act.put _ (some 72) _ = _
    simp only [Act.put, List.setIfInBounds_toArray, List.set_cons_zero, List.set_cons_succ, i64_w, i32_w]
    rfl
  clear cn0 cn1 cn2 cn3 ci0 ci1 ci2 ci3 ct0 ct1 ct2 ct3
  refine pure_ (i := 10) (N := some 73) (v := ?_) (a' := ?_) #[true, true, true, true, true, true, true, true, true, true, true, false, false, false, false, false, false, false, false, false, false, false, false] rfl rfl (by kernel_rfl) (fun _ _ _ h => h) (Or.inl ⟨by rfl, ?_⟩) ?_ ?_
  rotate_left
  · intro w'
    go_simp
    with_reducible rfl
  rotate_left
  · simp only [Act.put, List.setIfInBounds_toArray, List.set_cons_zero, List.set_cons_succ, i64_w, i32_w]
    rfl
  refine pure_ (i := 11) (N := some 74) (v := ?_) (a' := ?_) #[true, true, true, true, true, true, true, true, true, true, true, true, false, false, false, false, false, false, false, false, false, false, false] rfl rfl (by kernel_rfl) (fun _ _ _ h => h) (Or.inl ⟨by rfl, ?_⟩) ?_ ?_
  rotate_left
  · intro w'
    go_simp
    with_reducible rfl
  rotate_left
  · simp only [Act.put, List.setIfInBounds_toArray, List.set_cons_zero, List.set_cons_succ, i64_w, i32_w]
    rfl
  refine pure_ (i := 12) (N := some 75) (v := ?_) (a' := ?_) #[true, true, true, true, true, true, true, true, true, true, true, true, true, false, false, false, false, false, false, false, false, false, false] rfl rfl (by kernel_rfl) (fun _ _ _ h => h) (Or.inl ⟨by rfl, ?_⟩) ?_ ?_
  rotate_left
  · intro w'
    go_simp
    with_reducible rfl
  rotate_left
  · simp only [Act.put, List.setIfInBounds_toArray, List.set_cons_zero, List.set_cons_succ, i64_w, i32_w]
    rfl
  refine pure_ (i := 13) (N := some 76) (v := ?_) (a' := ?_) #[true, true, true, true, true, true, true, true, true, true, true, true, true, true, false, false, false, false, false, false, false, false, false] rfl rfl (by kernel_rfl) (fun _ _ _ h => h) (Or.inl ⟨by rfl, ?_⟩) ?_ ?_
  rotate_left
  · intro w'
    go_simp
    with_reducible rfl
  rotate_left
  · simp only [Act.put, List.setIfInBounds_toArray, List.set_cons_zero, List.set_cons_succ, i64_w, i32_w]
    rfl
  refine pure_ (i := 14) (N := some 77) (v := ?_) (a' := ?_) #[true, true, true, true, true, true, true, true, true, true, true, true, true, true, true, false, false, false, false, false, false, false, false] rfl rfl (by kernel_rfl) (fun _ _ _ h => h) (Or.inl ⟨by rfl, ?_⟩) ?_ ?_
  rotate_left
  · intro w'
    go_simp
    with_reducible rfl
  rotate_left
  · simp only [Act.put, List.setIfInBounds_toArray, List.set_cons_zero, List.set_cons_succ, i64_w, i32_w]
    rfl
  refine pure_ (i := 15) (N := some 78) (v := ?_) (a' := ?_) #[true, true, true, true, true, true, true, true, true, true, true, true, true, true, true, true, false, false, false, false, false, false, false] rfl rfl (by kernel_rfl) (fun _ _ _ h => h) (Or.inl ⟨by rfl, ?_⟩) ?_ ?_
  rotate_left
  · intro w'
    go_simp
    with_reducible rfl
  rotate_left
  · simp only [Act.put, List.setIfInBounds_toArray, List.set_cons_zero, List.set_cons_succ, i64_w, i32_w]
    rfl
  refine pure_ (i := 16) (N := some 79) (v := ?_) (a' := ?_) #[true, true, true, true, true, true, true, true, true, true, true, true, true, true, true, true, true, false, false, false, false, false, false] rfl rfl (by kernel_rfl) (fun _ _ _ h => h) (Or.inl ⟨by rfl, ?_⟩) ?_ ?_
  rotate_left
  · intro w'
    go_simp
    with_reducible rfl
  rotate_left
  · simp only [Act.put, List.setIfInBounds_toArray, List.set_cons_zero, List.set_cons_succ, i64_w, i32_w]
    rfl
  refine pure_ (i := 17) (N := some 80) (v := ?_) (a' := ?_) #[true, true, true, true, true, true, true, true, true, true, true, true, true, true, true, true, true, true, false, false, false, false, false] rfl rfl (by kernel_rfl) (fun _ _ _ h => h) (Or.inl ⟨by rfl, ?_⟩) ?_ ?_
  rotate_left
  · intro w'
    go_simp
    with_reducible rfl
  rotate_left
  · simp only [Act.put, List.setIfInBounds_toArray, List.set_cons_zero, List.set_cons_succ, i64_w, i32_w]
    rfl
  refine pure_ (i := 18) (N := some 81) (v := ?_) (a' := ?_) #[true, true, true, true, true, true, true, true, true, true, true, true, true, true, true, true, true, true, true, false, false, false, false] rfl rfl (by kernel_rfl) (fun _ _ _ h => h) (Or.inl ⟨by rfl, ?_⟩) ?_ ?_
  rotate_left
  · intro w'
    go_simp
    with_reducible rfl
  rotate_left
  · simp only [Act.put, List.setIfInBounds_toArray, List.set_cons_zero, List.set_cons_succ, i64_w, i32_w]
    rfl
  refine pure_ (i := 19) (N := some 82) (v := ?_) (a' := ?_) #[true, true, true, true, true, true, true, true, true, true, true, true, true, true, true, true, true, true, true, true, false, false, false] rfl rfl (by kernel_rfl) (fun _ _ _ h => h) (Or.inl ⟨by rfl, ?_⟩) ?_ ?_
  rotate_left
  · intro w'
    go_simp
    with_reducible rfl
  rotate_left
  · simp only [Act.put, List.setIfInBounds_toArray, List.set_cons_zero, List.set_cons_succ, i64_w, i32_w]
    rfl
  refine pure_ (i := 20) (N := some 83) (v := ?_) (a' := ?_) #[true, true, true, true, true, true, true, true, true, true, true, true, true, true, true, true, true, true, true, true, true, false, false] rfl rfl (by kernel_rfl) (fun _ _ _ h => h) (Or.inl ⟨by rfl, ?_⟩) ?_ ?_
  rotate_left
  · intro w'
    go_simp
    with_reducible rfl
  rotate_left
  · simp only [Act.put, List.setIfInBounds_toArray, List.set_cons_zero, List.set_cons_succ, i64_w, i32_w]
    rfl
  refine pure_ (i := 21) (N := some 84) (v := ?_) (a' := ?_) #[true, true, true, true, true, true, true, true, true, true, true, true, true, true, true, true, true, true, true, true, true, true, false] rfl rfl (by kernel_rfl) (fun _ _ _ h => h) (Or.inl ⟨by rfl, ?_⟩) ?_ ?_
  rotate_left
  · intro w'
    go_simp
    with_reducible rfl
  rotate_left
  · simp only [Act.put, List.setIfInBounds_toArray, List.set_cons_zero, List.set_cons_succ, i64_w, i32_w]
    rfl
  refine pure_ (i := 22) (N := some 2) (v := ?_) (a' := ?_) #[true, true, true, true, true, true, true, true, true, true, true, true, true, true, true, true, true, true, true, true, true, true, true] rfl rfl (by kernel_rfl) (fun _ _ _ h => h) (Or.inl ⟨by rfl, ?_⟩) ?_ ?_
  rotate_left
  · intro w'
    go_simp
    with_reducible rfl
  rotate_left
  · simp only [Act.put, List.setIfInBounds_toArray, List.set_cons_zero, List.set_cons_succ, i64_w, i32_w]
    rfl
  refine done_ (by kernel_rfl) ?_
  clear hHeld
  have cn0 : w21.cell? ⟨gn, 0, none⟩ = some (.bool b) := (blk_cell hxn 0).trans rfl
  have cn1 : w21.cell? ⟨gn, 1, none⟩ = some (.slice B1 cs.length c1) := (blk_cell hxn 1).trans rfl
  have cn2 : w21.cell? ⟨gn, 2, none⟩ = some (.slice B2 ks.length c2) := (blk_cell hxn 2).trans rfl
  have cn3 : w21.cell? ⟨gn, 3, none⟩ = some (.slice B3 kids.length c3) := (blk_cell hxn 3).trans rfl
  have ci0 : w21.cell? ⟨gi, 0, none⟩ = some (.bool b) := (blk_cell hxi 0).trans rfl
  have ci1 : w21.cell? ⟨gi, 1, none⟩ = some (.slice A1 cs.length q1) := (blk_cell hxi 1).trans rfl
  have ci2 : w21.cell? ⟨gi, 2, none⟩ = some (.slice A2 ks.length q2) := (blk_cell hxi 2).trans rfl
  have ci3 : w21.cell? ⟨gi, 3, none⟩ = some (.slice A3 kids.length q3) := (blk_cell hxi 3).trans rfl
  have ct0 : w21.cell? ⟨gt, 0, none⟩ = some (.bool b) := (blk_cell hxt 0).trans rfl
  have ct1 : w21.cell? ⟨gt, 1, none⟩ = some (.slice D1 cs.length d1) := (blk_cell hxt 1).trans rfl
  have ct2 : w21.cell? ⟨gt, 2, none⟩ = some (.slice D2 ks.length d2) := (blk_cell hxt 2).trans rfl
  have ct3 : w21.cell? ⟨gt, 3, none⟩ = some (.slice D3 kids.length d3) := (blk_cell hxt 3).trans rfl
  go_wp2_with fail
  go_ret
  exact ⟨rfl, HB⟩
theorem NodeChecks_walk (w : World) (b : Bool) (A1 : Option Addr) (c1 : Nat) (cs : List S66) (A2 : Option Addr) (c2 : Nat) (ks : List ByteArray) (A3 : Option Addr) (c3 : Nat) (kids : List Int) (hc1 : cs.length ≤ c1) (hc2 : ks.length ≤ c2) (hc3 : kids.length ≤ c3) (h1 : Kd.C k66 w A1 cs.length cs) (h2 : Kd.C Kd.string w A2 ks.length ks) (h3 : Kd.C (Kd.int .u32) w A3 kids.length kids) (hk : ∀ x ∈ kids, 0 ≤ x ∧ x < 4294967296) (hn : NdOk cs ks kids ∧ NdRoom cs ks kids) :
    Calls Try.prog 7 #[.agg #[.bool b, .slice A1 cs.length c1, .slice A2 ks.length c2, .slice A3 kids.length c3]] w fun e w' => e = .returned (.bool true) ∧ Below w.heap.size w w' := by
  obtain ⟨t1, t2, t3, hl, e1, e2, e3⟩ := lent2_f b cs ks kids hn.1 hn.2
  obtain ⟨r1, r2, r3, ho, l1, l2, l3, hn', hk'⟩ := over_f b cs ks kids hn.1 hk _ (Nat.le_refl _)
  exact checks_go w b A1 c1 cs A2 c2 ks A3 c3 kids hc1 hc2 hc3 h1 h2 h3 hk hn.1 t1 t2 t3 hl e1 e2 e3 r1 r2 r3 _ ho l1 l2 l3 hn' hk' _ rfl _ rfl _ rfl _ rfl _ rfl _ rfl
end Go.Proofs.Ytdjjpgdhnoibkaa.My
