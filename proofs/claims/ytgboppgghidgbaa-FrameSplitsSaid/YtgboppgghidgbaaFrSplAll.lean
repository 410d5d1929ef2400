/- The example is alive. A slice that came in, opened: its elements as a list; what they weigh. A list of pieces that came in. FrameSplits. -/
import Derived.Test.YtgboppgghidgbaaFrRefAll
import Derived.Test.YtgboppgghidgbaaPGx8
import Derived.Test.YtgboppgghidgbaaRows
import Derived.Test.YtgboppgghidgbaaWWords
import Derived.Deep.Slices
import Derived.Deep.Fields
import Derived.ChangeSame
import Derived.SizedLaws
import Derived.Lib.SmallJoins
import Derived.Test.YtgboppgghidgbaaFrDoc
namespace Go.Proofs.Ytgboppgghidgbaa.My
open Go.RowKit Go.Proofs.YtgboppgghidgbaaW.PrintWords Go.Proofs.YtgboppgghidgbaaW.PrintLast Go.Proofs.YtgboppgghidgbaaW.PrintMore Go.Proofs.Ytgboppgghidgbaa Go.Proofs.Ytgboppgghidgbaa.PG
set_option linter.unusedSimpArgs false
set_option linter.unusedVariables false
set_option maxRecDepth 100000
theorem alive_f : concordlaw21_alive.f = some true := by
  have hM : May 1 2 1 1 1 1 false (⟨#[104, 105]⟩ : ByteArray).size := by decide
  have hR : Fr 1 2 1 1 1 0 1 := by decide
  have hE : frame_Encode.f 1 2 1 1 1 0 1 false (⟨#[104, 105]⟩ : ByteArray) = some (strOfNums (encF 1 2 1 1 1 0 1 false ⟨#[104, 105]⟩), 0) := by
    rw [frame_Encode.f, if_pos hR]
    show some (encR 1 2 1 1 1 0 1 false ⟨#[104, 105]⟩) = _
    rw [encR, if_pos hM]
  have hn := encF_nats 1 2 1 1 1 0 1 false ⟨#[104, 105]⟩ (by omega) (by omega) (by omega)
  have hd := dec_enc 1 2 1 1 1 0 1 false ⟨#[104, 105]⟩ (by omega) (by omega) (by omega) (by omega) (by omega) (by omega) (by omega) hM
  generalize strOfNums (encF 1 2 1 1 1 0 1 false ⟨#[104, 105]⟩) = s at hE hn hd
  have hsz : s.size = 36 := by rw [← natsOf_len, hn, encN_len]; rfl
  have hx : s.extract 0 4 = ⟨#[157, 227, 0, 36]⟩ := by
    apply natsOf_inj
    rw [natsOf_extract, hn]
    have h1 : (((encN 1 2 1 1 1 0 1 false ⟨#[104, 105]⟩).drop 0).take (4 - 0)) = [157, 227] ++ beN 2 36 := by
      unfold encN preN
      rw [List.drop_zero]
      simp only [List.append_assoc]
      rw [← List.append_assoc [157, 227]]
      exact List.take_left' (by simp [beN_len])
    rw [h1]
    decide
  have hD : frame_Decode.f s = some (1, 2, 1, 1, 1, 0, 1, false, ⟨#[104, 105]⟩, 0) := by
    rw [frame_Decode.f, if_pos (by omega), hd]; rfl
  rw [concordlaw21_alive.f, concordlaw21_one.f, Option.bind_some]
  dsimp only
  rw [hE, Option.bind_some]
  dsimp only
  rw [hD, Option.bind_some]
  dsimp only
  rw [if_pos rfl, if_pos rfl, Option.bind_some]
  dsimp only
  rw [if_pos (by decide +kernel), if_pos (by omega), if_pos (by omega), if_pos (by omega), hx]
  decide +kernel
theorem alive_calls (w : World) : Calls Try.prog 13 #[] w fun r w' => r = .returned (.bool true) ∧ Below w.heap.size w w' := concordlaw21_alive.calls true w alive_f rfl
end Go.Proofs.Ytgboppgghidgbaa.My
namespace Go.Proofs.Ytgboppgghidgbaa.My
open Go.ChangeShapes Go.WideShapes Go.Deep Go.RowKit Go.Proofs.YtgboppgghidgbaaW.PrintWords
set_option linter.unusedSimpArgs false
set_option linter.unusedVariables false
/-- A kind of a fixed row of cells. -/
def kflat {α : Type} (sz : Nat) (cells : α → List Value) (hl : ∀ x, (cells x).length = sz) (h1 : ∀ x, ∀ u ∈ cells x, u.oneCell' = true) : Kd α where
  sz := sz
  E := []
  K := fun _ x cs => cs = cells x
  M := fun _ _ _ x cs => cs = cells x
  K_len := fun h => by rw [h]; exact hl _
  K_one := fun h u hu => by rw [h] at hu; exact h1 _ u hu
  K_below := fun _ h => h
  K_of_M := fun h => h
  M_mono := fun _ h => h
  M_bound := fun h => h
  M_move := fun _ h => h
  M_lower := fun _ h => h
section
variable {H : Type} {enc : TypeId × Value → H} {P : Program} {w : World} {base : Nat} {spare : Nat → Bool} {held : Bool}
theorem open_rows {α : Type} [Inhabited α] {t e : TypeId} (ht : P.underlying t = some (.slice e)) (sz : Nat) (hsz : P.cellsOf e = sz) (cells : α → List Value) (hcl : ∀ x, (cells x).length = sz) (Good : DataW H → α → Prop)
    (hdec : ∀ n cs d pl, DataW.trod enc P w base spare held n e cs = some (d, pl) → cs.length = sz → ∃ x, cs = cells x ∧ Good d x)
    {a : Option Addr} {len cap : Nat} {d : DataW H} {ps : List MemPlace} (h : DataW.Trod enc P w base spare held t (.slice a len cap) d ps) :
    ∃ xs : List α, xs.length = len ∧ len ≤ cap ∧ cap ≤ maxLen ∧ ReadsRow (fun x cs => cs = cells x) sz w a len xs ∧
      ((d = .nil ∧ xs = []) ∨ ∃ elems sp, d = .slice elems sp ∧ elems.length = len ∧ ∀ (i : Nat) (x : α), xs[i]? = some x → ∃ y, elems[i]? = some y ∧ Good y x) := by
  obtain ⟨fuel, hf⟩ := h
  rcases open_slice ht hf with ⟨h0, hx⟩ | ⟨ad, ln, cp, m, n, D, Pl, hcs, hb, hl, hm, hmm, hx, hi⟩
  · simp [Value.cells] at h0
    obtain ⟨rfl, rfl, rfl⟩ := h0
    exact ⟨[], rfl, Nat.le_refl _, Nat.zero_le _, ⟨rfl, by omega, fun h => absurd h (Nat.lt_irrefl 0)⟩, .inl ⟨(Prod.mk.inj hx).1, rfl⟩⟩
  · simp [Value.cells] at hcs
    obtain ⟨rfl, rfl, rfl⟩ := hcs
    have hlm : len ≤ m := by rw [hmm]; split <;> omega
    have hex : ∀ i, ∃ x : α, i < len → (∀ j u, (cells x)[j]? = some u → w.cell? (ad.add (i * sz + j)) = some u) ∧ Good (D i) x := by
      intro i
      by_cases hil : i < len
      · obtain ⟨cs', hc, ht'⟩ := hi i (by omega)
        rw [hsz] at hc
        obtain ⟨_, hcl', hat⟩ := World.cells?_some hc
        obtain ⟨x, rfl, hg⟩ := hdec n cs' (D i) (Pl i) ht' hcl'
        refine ⟨x, fun _ => ⟨fun j u hu => ?_, hg⟩⟩
        have hj : j < sz := by rw [← hcl']; exact (List.getElem?_eq_some_iff.1 hu).1
        rw [← Go.Deep.add_add, hat j hj, hu]
      · exact ⟨default, fun h => absurd h hil⟩
    obtain ⟨f, hf⟩ := Classical.axiomOfChoice hex
    refine ⟨(List.range len).map f, by simp, hl, hm, ⟨by simp, by unfold maxLen at hm; omega, fun _ => ⟨ad, rfl, fun j p hj => ?_⟩⟩, .inr ⟨_, _, (Prod.mk.inj hx).1, by simp, fun i x hx => ?_⟩⟩
    · obtain ⟨hj1, hj2⟩ := List.getElem?_eq_some_iff.1 hj
      have hjl : j < len := by simpa using hj1
      have hp : f j = p := by simpa using hj2
      subst hp
      exact ⟨cells (f j), hcl _, rfl, (hf j hjl).1⟩
    · obtain ⟨hj1, hj2⟩ := List.getElem?_eq_some_iff.1 hx
      have hjl : i < len := by simpa using hj1
      have hp : f i = x := by simpa using hj2
      subst hp
      exact ⟨D i, by simp [hjl], (hf i hjl).2⟩
end
theorem bulk_one {H : Type} (d : DataW H) : 1 ≤ Rows.uptoBulk d := by
  cases d with
  | lit l => cases l <;> simp [Rows.uptoBulk]
  | nil => simp [Rows.uptoBulk]
  | ptr d => simp [Rows.uptoBulk]
  | slice elems spare => simp [Rows.uptoBulk]
  | agg parts => simp [Rows.uptoBulk]
  | iface t d => simp [Rows.uptoBulk]
  | map entries => simp [Rows.uptoBulk]
  | held h => simp [Rows.uptoBulk]
theorem bulk_mem {H : Type} {d : DataW H} {l : List (DataW H)} (h : d ∈ l) : Rows.uptoBulk d ≤ Rows.uptoBulkAll l := by
  induction l with
  | nil => cases h
  | cons x r ih =>
    simp only [Rows.uptoBulkAll]
    cases List.mem_cons.1 h with
    | inl e => subst e; omega
    | inr e => have := ih e; omega
theorem bulk_sum {H α : Type} (f : α → Nat) : ∀ (elems : List (DataW H)) (xs : List α), elems.length = xs.length → (∀ (i : Nat) (x : α), xs[i]? = some x → ∃ y, elems[i]? = some y ∧ f x ≤ Rows.uptoBulk y) → (xs.map f).sum ≤ Rows.uptoBulkAll elems
  | [], [], _, _ => by simp
  | [], _ :: _, h, _ => by cases h
  | _ :: _, [], h, _ => by cases h
  | y :: ys, x :: xs, h, hp => by
    obtain ⟨y', hy, h0⟩ := hp 0 x rfl
    obtain rfl : y = y' := by simpa using hy
    have := bulk_sum f ys xs (by simpa using h) (fun i x hx => by
      obtain ⟨y', hy, h1⟩ := hp (i + 1) x (by simpa using hx)
      exact ⟨y', by simpa using hy, h1⟩)
    simp only [List.map_cons, List.sum_cons, Rows.uptoBulkAll]
    omega
theorem weights_all {H : Type} {P : Program} {e : TypeId} : ∀ {l : List (DataW H)} {d : DataW H}, d ∈ l → ∀ n ∈ d.weights P e, n ∈ DataW.weightsAll P e l
  | [], _, h, _, _ => by cases h
  | x :: r, d, h, n, hn => by
    simp only [DataW.weightsAll, List.mem_append]
    rcases List.mem_cons.1 h with rfl | h
    · exact .inl hn
    · exact .inr (weights_all h n hn)
end Go.Proofs.Ytgboppgghidgbaa.My
namespace Go.Proofs.Ytgboppgghidgbaa.My
open Go.ChangeShapes Go.WideShapes Go.Deep Go.RowKit Go.Proofs.YtgboppgghidgbaaW.PrintWords
set_option linter.unusedSimpArgs false
set_option linter.unusedVariables false
set_option maxRecDepth 100000
/-- What is fed, whether twice, how often Next is asked. -/
structure Pc where
  s : ByteArray
  tw : Bool
  n : Int
instance : Inhabited Pc := ⟨⟨⟨#[]⟩, false, 0⟩⟩
def Pc.cells (x : Pc) : List Value := [.string x.s, .bool x.tw, .int .i64 x.n]
def kPc : Kd Pc := kflat 3 Pc.cells (fun _ => rfl) (fun x u hu => by
  simp only [Pc.cells, List.mem_cons, List.not_mem_nil, or_false] at hu
  rcases hu with rfl | rfl | rfl <;> rfl)
def PcGood {H : Type} (y : DataW H) (x : Pc) : Prop := y = .agg [.lit (.string x.s.data.toList), .lit (.bool x.tw), .lit (.int .i64 x.n)] ∧ (Lit.int .i64 x.n).wf = true
section
variable {H : Type} {enc : TypeId × Value → H} {w : World} {base : Nat} {spare : Nat → Bool} {held : Bool}
theorem dec_pc (n : Nat) (cs : List Value) (d : DataW H) (pl : List MemPlace) (h : DataW.trod enc Try.prog w base spare held n 48 cs = some (d, pl)) (hl : cs.length = 3) : ∃ x : Pc, cs = x.cells ∧ PcGood d x := by
  match cs, hl with
  | [c0, c1, c2], _ =>
    obtain ⟨ys, n', _, hy, _, hyl, hf⟩ := DataW.trod_struct Try.underlying48 h
    have k1 : Try.prog.cellsOf 3 = 1 := by kernel_rfl
    have k2 : Try.prog.cellsOf 4 = 1 := by kernel_rfl
    have k3 : Try.prog.cellsOf 9 = 1 := by kernel_rfl
    match ys, hyl with
    | [y0, y1, y2], _ =>
      have x0 : DataW.trod enc Try.prog w base spare held n' 9 (([c0, c1, c2].drop 0).take (Try.prog.cellsOf 9)) = some y0 := hf 0 _ rfl
      have x1 : DataW.trod enc Try.prog w base spare held n' 4 (([c0, c1, c2].drop 1).take (Try.prog.cellsOf 4)) = some y1 := hf 1 _ rfl
      have x2 : DataW.trod enc Try.prog w base spare held n' 3 (([c0, c1, c2].drop 2).take (Try.prog.cellsOf 3)) = some y2 := hf 2 _ rfl
      simp only [k1, k2, k3, List.drop_zero, List.drop_succ_cons, List.take_succ_cons, List.take_zero] at x0 x1 x2
      obtain ⟨s, e0, rfl, w0⟩ := DataW.trod_string Try.underlying9 x0
      obtain ⟨b, e1, rfl⟩ := DataW.trod_bool Try.underlying4 x1
      obtain ⟨m, e2, rfl, w2⟩ := DataW.trod_int Try.underlying3 x2
      obtain rfl := List.singleton_inj.1 e0
      obtain rfl := List.singleton_inj.1 e1
      obtain rfl := List.singleton_inj.1 e2
      exact ⟨⟨s, b, m⟩, rfl, (Prod.mk.inj hy).1, w2⟩
theorem open_pcs {a : Option Addr} {len cap : Nat} {d : DataW H} {ps : List MemPlace} (h : DataW.Trod enc Try.prog w base spare held 41 (.slice a len cap) d ps) :
    ∃ xs : List Pc, xs.length = len ∧ len ≤ cap ∧ cap ≤ maxLen ∧ kPc.C w a len xs ∧ ∀ x ∈ xs, (Lit.int .i64 x.n).wf = true ∧ x.s.size ∈ d.weights Try.prog 41 := by
  obtain ⟨xs, hlen, hlc, hcm, hrow, hd⟩ := open_rows Try.underlying41 3 (by kernel_rfl) Pc.cells (fun _ => rfl) PcGood dec_pc h
  refine ⟨xs, hlen, hlc, hcm, hrow, ?_⟩
  intro x hx
  obtain ⟨i, hi, hix⟩ := List.getElem_of_mem hx
  have hx2 : xs[i]? = some x := by rw [List.getElem?_eq_getElem hi, hix]
  rcases hd with ⟨rfl, rfl⟩ | ⟨elems, sp, rfl, hel, hg⟩
  · cases hx
  · obtain ⟨y, hy, rfl, h1⟩ := hg i x hx2
    refine ⟨h1, ?_⟩
    have hm := List.mem_of_getElem? hy
    have hw := weights_all (P := Try.prog) (e := 48) hm x.s.size (by
      simp [DataW.weights, Try.underlying48, DataW.weightsEach])
    simp only [DataW.weights, Try.underlying41, List.mem_cons, List.mem_append]
    exact .inr (.inl hw)
end
end Go.Proofs.Ytgboppgghidgbaa.My
namespace Go.Proofs.Ytgboppgghidgbaa.My
open Go.RowKit Go.Proofs.YtgboppgghidgbaaW.PrintWords Go.Proofs.YtgboppgghidgbaaW.PrintLast Go.Proofs.YtgboppgghidgbaaW.PrintMore Go.Proofs.Ytgboppgghidgbaa
set_option linter.unusedSimpArgs false
set_option linter.unusedVariables false
set_option maxRecDepth 100000
set_option maxHeartbeats 4000000
theorem pc_addr {w : World} {a : Option Addr} {n : Nat} {xs : List Pc} (h : kPc.C w a n xs) (k : Nat) (hk : k < xs.length) : ∃ b o, a = some ⟨b, o, none⟩ := by
  obtain ⟨hn, _, h2⟩ := h
  obtain ⟨ad, rfl, hc⟩ := h2 (by omega)
  obtain ⟨x, hx⟩ : ∃ x, xs[0]? = some x := ⟨_, List.getElem?_eq_getElem (by omega)⟩
  obtain ⟨c, _, hc2, hc3⟩ := hc 0 x hx
  have hc4 : c = x.cells := hc2
  subst hc4
  have h0 : w.cell? (ad.add (0 * 3 + 0)) = some _ := hc3 0 _ rfl
  have hs := World.cell?_spot h0
  obtain ⟨b, o, sp⟩ := ad
  obtain rfl : sp = none := hs
  exact ⟨b, o, rfl⟩
theorem add_lt (b o n : Nat) : (⟨b, o, none⟩ : Addr).add n = ⟨b, o + n, none⟩ := by
  unfold Addr.add
  by_cases h : n = 0
  · subst h; rfl
  · rw [if_neg h]
theorem pc_at {w : World} {b o n : Nat} {xs : List Pc} (h : kPc.C w (some ⟨b, o, none⟩) n xs) (k : Nat) (x : Pc) (hk : xs[k]? = some x) : w.cell? ⟨b, o + k * 3, none⟩ = some (.string x.s) ∧ w.cell? ⟨b, o + k * 3 + 1, none⟩ = some (.bool x.tw) ∧ w.cell? ⟨b, o + k * 3 + 2, none⟩ = some (.int .i64 x.n) := by
  obtain ⟨hn, _, h2⟩ := h
  have hl := (List.getElem?_eq_some_iff.1 hk).1
  obtain ⟨ad, e, hc⟩ := h2 (by omega)
  obtain rfl := Option.some.inj e
  obtain ⟨c, _, hc2, hc3⟩ := hc k x hk
  have hc4 : c = x.cells := hc2
  subst hc4
  have g0 := hc3 0 _ rfl
  have g1 := hc3 1 _ rfl
  have g2 := hc3 2 _ rfl
  rw [add_lt] at g0 g1 g2
  exact ⟨g0, g1, g2⟩
/-- Behind k pieces. -/
def SplJ (w wr : World) (gs gr k : Nat) : Prop := ∃ (s : ByteArray) (p : Nat), s.size ≤ 65536 ∧ p + s.size ≤ 131072 * k ∧ Pr w wr gs gr s p s p
theorem FrameSplits_walk (w : World) (a : Option Addr) (cap : Nat) (xs : List Pc) (hcap : xs.length ≤ cap) (hC : kPc.C w a xs.length xs) (hok : ∀ x ∈ xs, x.s.size ≤ 140737488351232) : Calls Try.prog 7 #[.slice a xs.length cap] w fun r w' => r = .returned (.bool true) ∧ Below w.heap.size w w' := by
  have hxl : xs.length ≤ 9223372036854775807 := hC.2.1
  have HC := Aside0.mk hC
  have HO := Aside0.mk hok
  clear hC hok
  go_enter Try.func7, Try.ntmps7
  go_wp2_with fail
  refine (spNew _).mono ?_
  rintro e w1 ⟨rfl, hS1, hb1⟩
  go_wp2_with fail
  have hB2 := (Below.refl w1.heap.size w1).alloc (Nat.le_refl _) (.cells #[.string ⟨#[]⟩, .int .i64 0] 46)
  have hne : w.heap.size ≠ w1.heap.size := Nat.ne_of_lt (blk_lt hS1)
  have hle : w.heap.size ≤ w1.heap.size := hb1.size
  have HI : Aside0 (SplJ w (w1.alloc (.cells #[.string ⟨#[]⟩, .int .i64 0] 46)) w.heap.size w1.heap.size 0) := ⟨⟨⟨#[]⟩, 0, by decide, by decide, hS1.below hB2, W_push w1 _ _ _, hne, (Two.low hb1).trans (Two.low hB2)⟩⟩
  have hgs : w.heap.size ≤ w.heap.size := Nat.le_refl _
  clear hS1 hb1 hB2 hne
  generalize w1.alloc (.cells #[.string ⟨#[]⟩, .int .i64 0] 46) = w2 at *
  generalize w1.heap.size = gr at *
  generalize hg : w.heap.size = gs at HI ⊢
  replace hgs : w.heap.size ≤ gs := Nat.le_of_eq hg
  clear hg
  go_loopw [5] (fun i wr => ∃ k : Nat, k ≤ xs.length ∧ k ≤ 40 ∧ i = .int .i64 k ∧ Aside0 (SplJ w wr gs gr k)) (fun i _ => 40 - (intOf i).toNat)
  case atStart => exact ⟨0, Nat.zero_le _, by omega, rfl, HI⟩
  case round =>
    clear HI
    obtain ⟨k, hk, hk2, rfl, HI⟩ := hrel
    by_cases hlt : k < xs.length ∧ k < 40
    · obtain ⟨hlt, h40⟩ := hlt
      have hxk : xs[k]? = some xs[k] := List.getElem?_eq_getElem hlt
      have hj := HO.out _ (List.getElem_mem hlt)
      obtain ⟨b, o, rfl⟩ := pc_addr HC.out k hlt
      generalize xs[k] = x at *
      have HX := Aside0.mk hxk
      clear hxk
      obtain ⟨⟨s, p, hs, hp, HP⟩⟩ := HI
      have HP0 := Aside0.mk HP
      clear HP
      have hbe : Below w.heap.size w wr := HP0.out.2.2.2.keep _ (Nat.le_refl _) hgs hle
      obtain ⟨c0, c1, c2⟩ := pc_at (Kd.C_below HC.out hbe) k x HX.out
      clear hbe
      have i0 : (0 : Int) ≤ (k : Int) := by omega
      have i1 : (k : Int) < (xs.length : Int) := by omega
      have i2 : (k : Int) < 40 := by omega
      have i3 : decide ((k : Int) < 40) = true := decide_eq_true i2
      have i4 : decide ((k : Int) < (xs.length : Int)) = true := decide_eq_true i1
      go_wp2_with fail
      clear c0 c1 c2 i0 i1 i2 i3 i4
      have hF := W_push wr #[.string x.s, .bool x.tw, .int .i64 x.n] 48 (0, 0)
      have HP1 := Aside0.mk (HP0.out.below ((Below.refl _ _).alloc (Nat.le_refl _) (.cells #[.string x.s, .bool x.tw, .int .i64 x.n] 48)))
      have hn1 : wr.heap.size ≠ gs ∧ wr.heap.size ≠ gr := ⟨Ne.symm (Nat.ne_of_lt (blk_lt HP0.out.1)), Ne.symm (Nat.ne_of_lt (blk_lt HP0.out.2.1))⟩
      clear HP0
      generalize wr.alloc (.cells #[.string x.s, .bool x.tw, .int .i64 x.n] 48) = w3 at *
      generalize wr.heap.size = gb at *
      have HF := Aside0.mk hF
      clear hF
      refine (feeds_calls HP1.out.at hs x.s hj).mono ?_
      rintro e_ w4 ⟨rfl, s1, hs1, hs1b, hP4⟩
      have HF4 := Aside0.mk ((hP4.2.2.2.2 gb (blk_lt HF.out) hn1.1 hn1.2).trans HF.out)
      have HP4 := Aside0.mk (hP4.two HP1.out.2.2.2)
      clear HP1 hP4 HF
      obtain ⟨kt, hkt, hT⟩ : ∃ kt : Nat, kt ≤ 20 ∧ ∀ w : World, Calls Try.prog 20 #[.int .i64 x.n] w fun r w' => r = .returned (.int .i64 (kt : Int)) ∧ Drawn0 w w' := times_calls x.n
      have HT := Aside0.mk hT
      clear hT
      cases htw : x.tw with
      | true =>
        have c0 : w4.cell? ⟨gb, 0, none⟩ = some (.string x.s) := (blk_cell HF4.out 0).trans rfl
        have c1 : w4.cell? ⟨gb, 1, none⟩ = some (.bool true) := (blk_cell HF4.out 1).trans (by rw [← htw]; rfl)
        go_wp2_with fail
        refine (feeds_calls HP4.out.at hs1 x.s hj).mono ?_
        rintro e_ w5 ⟨rfl, s2, hs2, hs2b, hP5⟩
        have HF5 := Aside0.mk ((hP5.2.2.2.2 gb (blk_lt HF4.out) hn1.1 hn1.2).trans HF4.out)
        have HP5 := Aside0.mk (hP5.two HP4.out.2.2.2)
        clear HP4 hP5 HF4 c0 c1
        have c2 : w5.cell? ⟨gb, 2, none⟩ = some (.int .i64 x.n) := (blk_cell HF5.out 2).trans rfl
        go_wp2_with fail
        refine (HT.out _).mono ?_
        rintro e_ w6 ⟨rfl, m6, rfl⟩
        have HP6 := Aside0.mk (HP5.out.below (pw_below_drewN (Below.refl _ _) m6))
        clear HP5 c2
        go_wp2_with fail
        refine (asks_calls HP6.out.at hs2 (131072 * (k + 1)) (by omega) (by omega) kt hkt).mono ?_
        rintro e_ w7 ⟨rfl, s3, p3, hs3, hp3, hP7⟩
        have HP7 := Aside0.mk (hP7.two HP6.out.2.2.2)
        clear HP6 hP7
        go_wp2_with fail
        go_roundw
        case rel => exact ⟨k + 1, by omega, by omega, by go_num, ⟨s3, p3, hs3, hp3, HP7.out⟩⟩
        case measure => simp [intOf]; omega
      | false =>
        have c1 : w4.cell? ⟨gb, 1, none⟩ = some (.bool false) := (blk_cell HF4.out 1).trans (by rw [← htw]; rfl)
        have c2 : w4.cell? ⟨gb, 2, none⟩ = some (.int .i64 x.n) := (blk_cell HF4.out 2).trans rfl
        go_wp2_with fail
        refine (HT.out _).mono ?_
        rintro e_ w6 ⟨rfl, m6, rfl⟩
        have HP6 := Aside0.mk (HP4.out.below (pw_below_drewN (Below.refl _ _) m6))
        clear HP4 c1 c2
        go_wp2_with fail
        refine (asks_calls HP6.out.at hs1 (131072 * (k + 1)) (by omega) (by omega) kt hkt).mono ?_
        rintro e_ w7 ⟨rfl, s3, p3, hs3, hp3, hP7⟩
        have HP7 := Aside0.mk (hP7.two HP6.out.2.2.2)
        clear HP6 hP7
        go_wp2_with fail
        go_roundw
        case rel => exact ⟨k + 1, by omega, by omega, by go_num, ⟨s3, p3, hs3, hp3, HP7.out⟩⟩
        case measure => simp [intOf]; omega
    · by_cases hkl : k = xs.length
      · subst hkl
        clear hlt
        obtain ⟨⟨s, p, hs, hp, HP⟩⟩ := HI
        have HP0 := Aside0.mk HP
        clear HP
        go_wp2_with fail
        refine (alive_calls _).mono ?_
        rintro e_ w6 ⟨rfl, hb6⟩
        have HP6 := Aside0.mk (HP0.out.below hb6)
        clear HP0 hb6
        go_wp2_with fail
        refine (asks_calls HP6.out.at hs 5242880 (by omega) (by omega) 3 (by omega)).mono ?_
        rintro e_ w7 ⟨rfl, s3, p3, hs3, hp3, hP7⟩
        have hbe : Below w.heap.size w w7 := (hP7.two HP6.out.2.2.2).2.2.2.keep _ (Nat.le_refl _) hgs hle
        clear HP6 hP7
        go_wp2_with fail
        go_ret
        exact ⟨rfl, hbe⟩
      · obtain rfl : k = 40 := by omega
        have hm0 : 40 < xs.length := by omega
        have hm1 : (40 : Int) < (xs.length : Int) := by omega
        clear hlt
        obtain ⟨⟨s, p, hs, hp, HP⟩⟩ := HI
        have HP0 := Aside0.mk HP
        clear HP
        go_wp2_with fail
        refine (alive_calls _).mono ?_
        rintro e_ w6 ⟨rfl, hb6⟩
        have HP6 := Aside0.mk (HP0.out.below hb6)
        clear HP0 hb6
        go_wp2_with fail
        refine (asks_calls HP6.out.at hs 5242880 (by omega) (by omega) 3 (by omega)).mono ?_
        rintro e_ w7 ⟨rfl, s3, p3, hs3, hp3, hP7⟩
        have hbe : Below w.heap.size w w7 := (hP7.two HP6.out.2.2.2).2.2.2.keep _ (Nat.le_refl _) hgs hle
        clear HP6 hP7
        go_wp2_with fail
        go_ret
        exact ⟨rfl, hbe⟩
end Go.Proofs.Ytgboppgghidgbaa.My
