/- FrameCut. -/
import Derived.Test.YtgboppgghidgbaaFrSame
import Derived.Test.YtgboppgghidgbaaFrAlive
namespace Go.Proofs.Ytgboppgghidgbaa.My
open Go.RowKit Go.Proofs.YtgboppgghidgbaaW.PrintWords Go.Proofs.YtgboppgghidgbaaW.PrintLast Go.Proofs.YtgboppgghidgbaaW.PrintMore Go.Proofs.Ytgboppgghidgbaa
set_option linter.unusedSimpArgs false
set_option linter.unusedVariables false
set_option maxRecDepth 100000
set_option maxHeartbeats 2000000
attribute [local go_sem] max2_int min2_int max_two min_two
def IsRow (k : IntKind) (w : World) (a : Option Addr) (len cap : Nat) (z : List Int) : Prop :=
  (a = none ∧ len = 0 ∧ cap = 0 ∧ z = []) ∨ ∃ x, a = some x ∧ len ≤ cap ∧ cap ≤ maxLen ∧ z.length = cap ∧ (∀ i, i < z.length → w.cell? (x.add i) = some (.int k (z.getD i 0))) ∧ ∀ n ∈ z, (Lit.int k n).wf = true
theorem int_addr {w : World} {a : Option Addr} {n : Nat} {es : List Int} (h : (Kd.int .i64).C w a n es) (k : Nat) (hk : k < es.length) : ∃ b o, a = some ⟨b, o, none⟩ := by
  obtain ⟨hn, _, h2⟩ := h
  obtain ⟨ad, rfl, hc⟩ := h2 (by omega)
  obtain ⟨x, hx⟩ : ∃ x, es[0]? = some x := ⟨_, List.getElem?_eq_getElem (by omega)⟩
  obtain ⟨c, _, hc2, hc3⟩ := hc 0 x hx
  have hc4 : c = [.int .i64 x] := hc2
  subst hc4
  have h0 := hc3 0 _ rfl
  have hs := World.cell?_spot h0
  obtain ⟨b, o, sp⟩ := ad
  obtain rfl : sp = none := hs
  exact ⟨b, o, rfl⟩
theorem str_nil (s : ByteArray) : (⟨#[]⟩ : ByteArray) ++ s = s := ByteArray.empty_append
-- What is heard of a front.
noncomputable def cutF (T : ByteArray) (at_ : Nat) : List Ht := runF (T.extract 0 at_) 0
noncomputable def cutQ (T : ByteArray) (at_ : Nat) : List Int := runP (T.extract 0 at_) 0
noncomputable def cutS (T : ByteArray) (at_ : Nat) : ByteArray := (run (T.extract 0 at_) 0).2.1
noncomputable def cutP (T : ByteArray) (at_ : Nat) : Nat := (run (T.extract 0 at_) 0).2.2
theorem ext_join (T : ByteArray) (i n : Nat) (h : i + n ≤ T.size) : T.extract 0 (i + n) = T.extract 0 i ++ T.extract i (i + n) := by
  apply ByteArray.ext
  apply Array.toList_inj.1
  simp only [ByteArray.data_extract, ByteArray.data_append, Array.toList_extract, Array.toList_append, List.extract_eq_take_drop, List.drop_zero, Nat.sub_zero]
  rw [Nat.add_sub_cancel_left, ← List.take_add]
theorem cut_step (T : ByteArray) (i n : Nat) (h : i + n ≤ T.size) : cutF T (i + n) = cutF T i ++ runF (cutS T i ++ T.extract i (i + n)) (cutP T i) ∧ cutQ T (i + n) = cutQ T i ++ runP (cutS T i ++ T.extract i (i + n)) (cutP T i) ∧ cutS T (i + n) = (run (cutS T i ++ T.extract i (i + n)) (cutP T i)).2.1 ∧ cutP T (i + n) = (run (cutS T i ++ T.extract i (i + n)) (cutP T i)).2.2 := by
  have h1 := run_app ((T.extract 0 i).size + 1) (T.extract 0 i) (T.extract i (i + n)) 0 (by omega)
  rw [← ext_join T i n h] at h1
  unfold cutF cutQ cutS cutP runF runP
  generalize run (T.extract 0 i) 0 = A at h1 ⊢
  generalize run (T.extract 0 (i + n)) 0 = B at h1 ⊢
  generalize run (A.2.1 ++ T.extract i (i + n)) A.2.2 = D at h1 ⊢
  subst h1
  exact ⟨List.map_append, List.map_append, rfl, rfl⟩
theorem cut_bound (T : ByteArray) (i : Nat) (h : i ≤ T.size) : (cutF T i).length * 34 + (cutS T i).size ≤ i ∧ (cutQ T i).length ≤ (cutF T i).length ∧ cutP T i + (cutS T i).size ≤ i ∧ (cutS T i).size ≤ 8192 := by
  have h1 := run_bound ((T.extract 0 i).size + 1) (T.extract 0 i) 0 (by omega)
  have h2 : (T.extract 0 i).size = i := by rw [ByteArray.size_extract]; omega
  unfold cutF cutQ cutS cutP runF runP
  generalize run (T.extract 0 i) 0 = A at h1 ⊢
  rw [List.length_map, List.length_map]
  exact ⟨by omega, Nat.le_refl _, by omega, h1.2.2⟩
theorem cut_all (T : ByteArray) : cutF T T.size = runF T 0 ∧ cutQ T T.size = runP T 0 ∧ cutS T T.size = (run T 0).2.1 ∧ cutP T T.size = (run T 0).2.2 := by
  have e : T.extract 0 T.size = T := by simp
  unfold cutF cutQ cutS cutP
  rw [e]
  exact ⟨rfl, rfl, rfl, rfl⟩
theorem cut_zero (T : ByteArray) : cutF T 0 = [] ∧ cutQ T 0 = [] ∧ cutS T 0 = ⟨#[]⟩ ∧ cutP T 0 = 0 := by
  have e : T.extract 0 0 = ⟨#[]⟩ := by
    apply ByteArray.ext
    simp
  unfold cutF cutQ cutS cutP runF runP
  rw [e, run_nil]
  exact ⟨rfl, rfl, rfl, rfl⟩
/-- Of the world behind the first hearing, the blocks g and h alone have changed. -/
def CtK (w wr : World) (g h : Nat) : Prop := Below 0 w wr ∧ ∀ k, k < w.heap.size → k ≠ g → k ≠ h → wr.heap[k]? = w.heap[k]?
theorem CtK.amid {w wr w' : World} {g h : Nat} (t : CtK w wr g h) (ha : Amid wr w' g) : CtK w w' g h :=
  ⟨t.1.trans ha.1, fun k hk h1 h2 => (ha.2 k (Nat.lt_of_lt_of_le hk t.1.size) h1).trans (t.2 k hk h1 h2)⟩
theorem CtK.keeps {w wr w' : World} {g h : Nat} (t : CtK w wr g h) (ha : Keeps wr w' w.heap.size g) : CtK w w' g h :=
  ⟨t.1.trans ha.1, fun k hk h1 h2 => (ha.2 k hk (Nat.lt_of_lt_of_le hk t.1.size) h1).trans (t.2 k hk h1 h2)⟩
theorem CtK.set {w wr : World} {g h : Nat} (t : CtK w wr g h) (j : Nat) (u : Value) : CtK w (wr.setCell ⟨h, j, none⟩ u) g h :=
  ⟨t.1.trans (Alone_set wr 0 h j u).1, fun k hk h1 h2 => ((Alone_set wr 0 h j u).2.2 k h2).trans (t.2 k hk h1 h2)⟩
theorem CtK.below {w wr w' : World} {g h : Nat} (t : CtK w wr g h) (hb : Below wr.heap.size wr w') : CtK w w' g h := t.amid ((Amid.refl wr g).below hb)
/-- The pieces' splitter, behind i bytes; the box of what was heard. -/
def CtJ (w6 wr : World) (gs g8 : Nat) (T : ByteArray) (i : Nat) (uF uP : Value) : Prop :=
  SP wr gs (cutS T i) (cutP T i) ∧ wr.heap[g8]? = some (.cells #[uF, uP] 57 (0, 0)) ∧ HrL wr w6.heap.size uF uP (cutF T i) (cutQ T i) ∧ CtK w6 wr gs g8
/-- What stays: the whole's splitter, and what it told. -/
def CtW (w w6 : World) (gs1 g7 : Nat) (T : ByteArray) (vF vP : Value) : Prop :=
  SP w6 gs1 (run T 0).2.1 (run T 0).2.2 ∧ w6.heap[g7]? = some (.cells #[vF, vP] 57 (0, 0)) ∧ HrL w6 0 vF vP (runF T 0) (runP T 0) ∧ Below w.heap.size w w6
theorem HrL.low {w : World} {lo : Nat} {vF vP : Value} {fs : List Ht} {ps : List Int} (h : HrL w lo vF vP fs ps) : HrL w 0 vF vP fs ps := ⟨Kd.R_mono h.1 (fun k _ => Nat.zero_le k), Kd.R_mono h.2 (fun k _ => Nat.zero_le k)⟩
theorem CtK.all {n : Nat} {w w6 wr : World} {g h : Nat} (t : CtK w6 wr g h) (hb : Below n w w6) (hn : n ≤ w6.heap.size) (hg : n ≤ g) (hh : n ≤ h) : Below n w wr :=
  ⟨t.1.os.trans hb.os, t.1.tape.trans hb.tape, t.1.output.trans hb.output, Nat.le_trans hb.size t.1.size, fun k hk => (t.2 k (by omega) (by omega) (by omega)).trans (hb.block k hk)⟩
theorem CtK.list {w wr : World} {g h : Nat} (t : CtK w wr g h) {vF vP : Value} {fs : List Ht} {ps : List Int} (hl : HrL w 0 vF vP fs ps) {s : ByteArray} {p : Nat} (hs : SP w g s p) {uF uP : Value} (hh : w.heap[h]? = some (.cells #[uF, uP] 57 (0, 0))) : HrL wr 0 vF vP fs ps :=
  hl.step (fun k _ hk hq => t.2 k hk (typ_ne hs (by decide) (by decide) hq) (typ_ne hh (by decide) (by decide) hq))
theorem run_lens (T : ByteArray) (p : Nat) : (runP T p).length = (runF T p).length := by
  unfold runP runF
  rw [List.length_map, List.length_map]
theorem FrameCut_go (w : World) (S : ByteArray) (hS : S.size ≤ 140737488351232) (a : Option Addr) (cap : Nat) (es : List Int) (hcap : es.length ≤ cap) (hC : (Kd.int .i64).C w a es.length es) : Calls Try.prog 8 #[.string S, .slice a es.length cap] w fun r w' => r = .returned (.bool true) ∧ Below w.heap.size w w' := by
  have hxl : es.length ≤ 9223372036854775807 := hC.2.1
  have HC := Aside0.mk hC
  clear hC
  by_cases hS5 : 50000 < S.size
  · have hs5 : (50000 : Int) < (S.size : Int) := by omega
    have hs6 : (50000 : Int) ≤ (S.size : Int) := by omega
    go_enter Try.func8, Try.ntmps8
    go_wp2_with fail
    have hT : (S.extract 0 50000).size ≤ 50000 := by rw [ByteArray.size_extract]; omega
    generalize S.extract 0 50000 = T at *
    clear hS hS5 hs5 hs6
    refine (spNew _).mono ?_
    rintro e w1 ⟨rfl, hS1, hb1⟩
    go_wp2_with fail
    refine (spNew _).mono ?_
    rintro e w2 ⟨rfl, hS2, hb2⟩
    have hA2 := hS1.below hb2
    have n12 : w.heap.size ≠ w1.heap.size := Nat.ne_of_lt (blk_lt hS1)
    have hl1 : w.heap.size ≤ w1.heap.size := hb1.size
    have hl2 := blk_lt hS2
    have hbw : Below w.heap.size w w2 := below_then hb1 (below_size hb1) hb2
    clear hb1 hb2 hS1
    have hg1 : w.heap.size ≤ w.heap.size := Nat.le_refl _
    generalize hgs : w.heap.size = gs1 at hA2 n12 ⊢
    replace hg1 : w.heap.size ≤ gs1 := Nat.le_of_eq hgs
    clear hgs
    generalize w1.heap.size = gs2 at *
    go_wp2_with fail
    refine (spFeed hA2 T (by show 0 + _ ≤ 65536; omega)).mono ?_
    rw [str_nil]
    rintro e w3 ⟨rfl, hS3, ha3⟩
    have hP3 := (ha3.2.2 gs2 (Ne.symm n12)).trans hS2
    have hb3 : Below w.heap.size w w3 := below_alone hbw ha3 hg1
    have hl3 : gs2 < w3.heap.size := blk_lt hP3
    clear ha3 hS2 hA2 hbw
    go_wp2_with fail
    refine (hears_calls (lo := w3.heap.size) hS3 ⟨Kd.R_nil _ _ _ _ _, Kd.R_nil _ _ _ _ _⟩ (Nat.le_refl _) (by show 0 * 34 + _ ≤ 50000; omega) (by show 0 * 34 + _ ≤ 50000; omega) (by omega)).mono ?_
    rw [List.nil_append, List.nil_append]
    rintro e w4 ⟨vF, vP, rfl, hS4, hL4, hK4⟩
    obtain ⟨AF, cF, eF⟩ := Kd.R_slice hL4.1
    obtain ⟨AP, cP, eP⟩ := Kd.R_slice hL4.2
    subst eF eP
    have hP4 : SP w4 gs2 ⟨#[]⟩ 0 := (hK4.2 gs2 hl3 hl3 (Ne.symm n12)).trans hP3
    have hb4 : Below w.heap.size w w4 := ⟨hK4.1.os.trans hb3.os, hK4.1.tape.trans hb3.tape, hK4.1.output.trans hb3.output, Nat.le_trans hb3.size hK4.1.size, fun k hk => (hK4.2 k (Nat.lt_of_lt_of_le hk hb3.size) (Nat.lt_of_lt_of_le hk hb3.size) (by omega)).trans (hb3.block k hk)⟩
    clear hK4 hS3 hP3 hb3 hl3
    go_wp2_with fail
    generalize hFT : runF T 0 = FT at *
    generalize hPT : runP T 0 = PT at *
    have HFT := Aside0.mk hFT
    have HPT := Aside0.mk hPT
    clear hFT hPT
    have hsz : (w4.alloc (.cells #[(.slice AF FT.length cF), (.slice AP PT.length cP)] 57)).heap.size = w4.heap.size + 1 := Array.size_push _
    have hA := (Below.refl w4.heap.size w4).alloc (Nat.le_refl _) (.cells #[(.slice AF FT.length cF), (.slice AP PT.length cP)] 57)
    have hB := (Below.refl (w4.alloc (.cells #[(.slice AF FT.length cF), (.slice AP PT.length cP)] 57)).heap.size (w4.alloc (.cells #[(.slice AF FT.length cF), (.slice AP PT.length cP)] 57))).alloc (Nat.le_refl _) (.cells #[.slice none 0 0, .slice none 0 0] 57)
    have HW : Aside0 (CtW w ((w4.alloc (.cells #[(.slice AF FT.length cF), (.slice AP PT.length cP)] 57)).alloc (.cells #[.slice none 0 0, .slice none 0 0] 57)) gs1 w4.heap.size T (.slice AF FT.length cF) (.slice AP PT.length cP)) := ⟨⟨(hS4.below hA).below hB, blk_alloc (W_push w4 _ _ _) _, by rw [HFT.out, HPT.out]; exact ((hL4.below hA).below hB).low, below_then (below_then hb4 (below_size hb4) hA) (Nat.le_trans (below_size hb4) hA.size) hB⟩⟩
    have HJ0 : Aside0 (CtJ ((w4.alloc (.cells #[(.slice AF FT.length cF), (.slice AP PT.length cP)] 57)).alloc (.cells #[.slice none 0 0, .slice none 0 0] 57)) ((w4.alloc (.cells #[(.slice AF FT.length cF), (.slice AP PT.length cP)] 57)).alloc (.cells #[.slice none 0 0, .slice none 0 0] 57)) gs2 (w4.heap.size + 1) T 0 (.slice none 0 0) (.slice none 0 0)) := ⟨by
      obtain ⟨z1, z2, z3, z4⟩ := cut_zero T
      refine ⟨?_, by rw [← hsz]; exact W_push _ _ _ _, ?_, ⟨Below.refl _ _, fun _ _ _ _ => rfl⟩⟩
      · rw [z3, z4]
        exact (hP4.below hA).below hB
      · rw [z1, z2]
        exact ⟨Kd.R_nil _ _ _ _ _, Kd.R_nil _ _ _ _ _⟩⟩
    have m18 : gs1 < w4.heap.size := blk_lt hS4
    have m27 : gs2 < w4.heap.size := blk_lt hP4
    have m28 : gs2 ≠ w4.heap.size + 1 := by omega
    have hw8 : w.heap.size ≤ w4.heap.size := hb4.size
    have h86 : w4.heap.size + 1 < ((w4.alloc (.cells #[(.slice AF FT.length cF), (.slice AP PT.length cP)] 57)).alloc (.cells #[.slice none 0 0, .slice none 0 0] 57)).heap.size := by rw [← hsz]; exact blk_lt (W_push _ _ _ _)
    have HP6 : Aside0 (SP ((w4.alloc (.cells #[(.slice AF FT.length cF), (.slice AP PT.length cP)] 57)).alloc (.cells #[.slice none 0 0, .slice none 0 0] 57)) gs2 ⟨#[]⟩ 0) := ⟨(hP4.below hA).below hB⟩
    have HB6 : Aside0 (((w4.alloc (.cells #[(.slice AF FT.length cF), (.slice AP PT.length cP)] 57)).alloc (.cells #[.slice none 0 0, .slice none 0 0] 57)).heap[w4.heap.size + 1]? = some (.cells #[.slice none 0 0, .slice none 0 0] 57 (0, 0))) := ⟨by rw [← hsz]; exact W_push _ _ _ _⟩
    clear hA hB hsz hb4 hS4 hP4 hL4
    generalize (w4.alloc (.cells #[(.slice AF FT.length cF), (.slice AP PT.length cP)] 57)).alloc (.cells #[.slice none 0 0, .slice none 0 0] 57) = w6 at *
    generalize w4.heap.size = g7 at *
    go_loopw [9, 10] (fun av iv wr => ∃ (k i : Nat) (uF uP : Value), k ≤ es.length ∧ i ≤ T.size ∧ av = .int .i64 i ∧ iv = .int .i64 k ∧ Aside0 (CtJ w6 wr gs2 (g7 + 1) T i uF uP)) (fun _ iv _ => es.length - (intOf iv).toNat)
    case atStart => exact ⟨0, 0, _, _, Nat.zero_le _, Nat.zero_le _, rfl, rfl, HJ0⟩
    case round =>
      obtain ⟨k, i, uF, uP, hk, hi, rfl, rfl, HJ⟩ := hrel
      obtain ⟨DF, eF, gF⟩ := Kd.R_slice HJ.out.2.2.1.1
      obtain ⟨DP, eP, gP⟩ := Kd.R_slice HJ.out.2.2.1.2
      subst gF gP
      have hcb := cut_bound T i hi
      by_cases hlt : k < es.length
      · have hbe : Below w.heap.size w wr := HJ.out.2.2.2.all HW.out.2.2.2 (by omega) hl1 (by omega)
        obtain ⟨b, o, rfl⟩ := int_addr HC.out k hlt
        have hek : es[k]? = some es[k] := List.getElem?_eq_getElem hlt
        generalize es[k] = z at hek
        have c0 := int_aq (Kd.C_below HC.out hbe) k z hek
        clear hbe hek
        obtain ⟨d, hda, hdb⟩ : ∃ d, i + d ≤ T.size ∧ T.size ≤ i + d := ⟨T.size - i, by omega, by omega⟩
        have hd2 : (T.size : Int) - (i : Int) = (d : Int) := by omega
        obtain ⟨m, hm, hcut⟩ := cut_calls z d (by omega)
        have HCUT := Aside0.mk hcut
        clear hcut
        have him : i + m ≤ T.size := by omega
        have i0 : (0 : Int) ≤ (k : Int) := by omega
        have i1 : (k : Int) < (es.length : Int) := by omega
        clear HJ0
        go_wp2_with fail
        refine (HCUT.out _).mono ?_
        rintro e_ w5 ⟨rfl, rfl⟩
        clear c0 HCUT hd2 i0
        have j0 : (i : Int) + (m : Int) ≤ (T.size : Int) := by omega
        have j1 : (0 : Int) ≤ (i : Int) := by omega
        have j2 : (i : Int) ≤ (i : Int) + (m : Int) := by omega
        have j3 : ((i : Int) + (m : Int)).toNat = i + m := by omega
        have j4 : (0 : Int) ≤ (i : Int) + (m : Int) := by omega
        go_wp2_with fail
        refine (spFeed HJ.out.1 (T.extract i (i + m)) (by rw [ByteArray.size_extract]; omega)).mono ?_
        rintro e_ w5 ⟨rfl, hS5, ha5⟩
        have hB5 := (ha5.2.2 (g7 + 1) (Ne.symm m28)).trans HJ.out.2.1
        have hA5 := (Amid.refl _ _).alone ha5
        have hL5 := HJ.out.2.2.1.amid HJ.out.1 (by decide) (by decide) hA5
        have hK5 := HJ.out.2.2.2.amid hA5
        have q0 := blk_cell hB5 0
        have q1 := blk_cell hB5 1
        replace q0 : w5.cell? ⟨g7 + 1, 0, none⟩ = some (.slice DF (cutF T i).length eF) := q0.trans rfl
        replace q1 : w5.cell? ⟨g7 + 1, 1, none⟩ = some (.slice DP (cutQ T i).length eP) := q1.trans rfl
        have hsm : (cutS T i ++ T.extract i (i + m)).size ≤ (cutS T i).size + m := by rw [ByteArray.size_append, ByteArray.size_extract]; omega
        have HS5 := Aside0.mk hS5
        have HL5 := Aside0.mk hL5
        have HK5 := Aside0.mk hK5
        have HB5 := Aside0.mk hB5
        have h65 : w6.heap.size ≤ w5.heap.size := hK5.1.size
        have h85 : g7 + 1 < w5.heap.size := blk_lt hB5
        clear HJ hS5 ha5 hA5 hL5 hK5 hB5
        go_wp2_with fail
        refine (hears_calls (lo := w6.heap.size) HS5.out HL5.out h65 (by omega) (by omega) (by omega)).mono ?_
        rintro e_ w7 ⟨xF, xP, rfl, hS7, hL7, hK7⟩
        rw [← (cut_step T i m him).1, ← (cut_step T i m him).2.1] at hL7
        rw [← (cut_step T i m him).2.2.1, ← (cut_step T i m him).2.2.2] at hS7
        have hB7 := (hK7.2 (g7 + 1) h86 h85 (Ne.symm m28)).trans HB5.out
        have hC7 := HK5.out.keeps hK7
        clear HS5 HL5 HK5 HB5 h65 h85 hK7 q0 q1 hsm
        obtain ⟨XF, yF, zF⟩ := Kd.R_slice hL7.1
        obtain ⟨XP, yP, zP⟩ := Kd.R_slice hL7.2
        subst zF zP
        have r0 : w7.cell? ⟨g7 + 1, 0, none⟩ = some (.slice DF (cutF T i).length eF) := (blk_cell hB7 0).trans rfl
        have r1 : w7.cell? ⟨g7 + 1, 1, none⟩ = some (.slice DP (cutQ T i).length eP) := (blk_cell hB7 1).trans rfl
        have y0 := blk_frozen hB7 0
        have y1 := blk_frozen hB7 1
        have HJ7 : Aside0 (CtJ w6 ((w7.setCell ⟨g7 + 1, 0, none⟩ (.slice XF (cutF T (i + m)).length yF)).setCell ⟨g7 + 1, 1, none⟩ (.slice XP (cutQ T (i + m)).length yP)) gs2 (g7 + 1) T (i + m) (.slice XF (cutF T (i + m)).length yF) (.slice XP (cutQ T (i + m)).length yP)) := ⟨⟨SP.far (SP.far hS7 m28 (.slice XF (cutF T (i + m)).length yF)) m28 (.slice XP (cutQ T (i + m)).length yP), blk_set (blk_set hB7 0 (.slice XF (cutF T (i + m)).length yF)) 1 (.slice XP (cutQ T (i + m)).length yP), (hL7.set hB7 (by decide) (by decide) 0 (.slice XF (cutF T (i + m)).length yF)).set (blk_set hB7 0 (.slice XF (cutF T (i + m)).length yF)) (by decide) (by decide) 1 (.slice XP (cutQ T (i + m)).length yP), (hC7.set 0 (.slice XF (cutF T (i + m)).length yF)).set 1 (.slice XP (cutQ T (i + m)).length yP)⟩⟩
        clear hS7 hL7 hB7 hC7
        go_wp2_with fail
        go_roundw
        case rel => exact ⟨k + 1, i + m, _, _, by omega, him, by go_num, by go_num, HJ7⟩
        case measure => simp [intOf]; omega
      · obtain rfl : k = es.length := by omega
        obtain ⟨m, him, hmb⟩ : ∃ m, i + m ≤ T.size ∧ T.size ≤ i + m := ⟨T.size - i, by omega, by omega⟩
        have HTm : Aside0 (T.extract i T.size = T.extract i (i + m)) := ⟨by rw [show i + m = T.size by omega]⟩
        have HTE : Aside0 (i + m = T.size) := ⟨by omega⟩
        have j0 : (i : Int) ≤ (T.size : Int) := by omega
        have j1 : (0 : Int) ≤ (i : Int) := by omega
        clear HJ0 hlt hk
        go_wp2_with fail
        refine (spFeed HJ.out.1 (T.extract i T.size) (by rw [ByteArray.size_extract]; omega)).mono ?_
        rintro e_ w5 ⟨rfl, hS5, ha5⟩
        rw [HTm.out] at hS5
        have hB5 := (ha5.2.2 (g7 + 1) (Ne.symm m28)).trans HJ.out.2.1
        have hA5 := (Amid.refl _ _).alone ha5
        have hL5 := HJ.out.2.2.1.amid HJ.out.1 (by decide) (by decide) hA5
        have hK5 := HJ.out.2.2.2.amid hA5
        have q0 := blk_cell hB5 0
        have q1 := blk_cell hB5 1
        replace q0 : w5.cell? ⟨g7 + 1, 0, none⟩ = some (.slice DF (cutF T i).length eF) := q0.trans rfl
        replace q1 : w5.cell? ⟨g7 + 1, 1, none⟩ = some (.slice DP (cutQ T i).length eP) := q1.trans rfl
        have hsm : (cutS T i ++ T.extract i (i + m)).size ≤ (cutS T i).size + m := by rw [ByteArray.size_append, ByteArray.size_extract]; omega
        have HS5 := Aside0.mk hS5
        have HL5 := Aside0.mk hL5
        have HK5 := Aside0.mk hK5
        have HB5 := Aside0.mk hB5
        have h65 : w6.heap.size ≤ w5.heap.size := hK5.1.size
        have h85 : g7 + 1 < w5.heap.size := blk_lt hB5
        clear HJ hS5 ha5 hA5 hL5 hK5 hB5
        go_wp2_with fail
        refine (hears_calls (lo := w6.heap.size) HS5.out HL5.out h65 (by omega) (by omega) (by omega)).mono ?_
        rintro e_ w7 ⟨xF, xP, rfl, hS7, hL7, hK7⟩
        rw [← (cut_step T i m him).1, ← (cut_step T i m him).2.1] at hL7
        rw [← (cut_step T i m him).2.2.1, ← (cut_step T i m him).2.2.2] at hS7
        have hB7 := (hK7.2 (g7 + 1) h86 h85 (Ne.symm m28)).trans HB5.out
        have hC7 := HK5.out.keeps hK7
        clear HS5 HL5 HK5 HB5 h65 h85 hK7 q0 q1 hsm
        obtain ⟨XF, yF, zF⟩ := Kd.R_slice hL7.1
        obtain ⟨XP, yP, zP⟩ := Kd.R_slice hL7.2
        subst zF zP
        have r0 : w7.cell? ⟨g7 + 1, 0, none⟩ = some (.slice DF (cutF T i).length eF) := (blk_cell hB7 0).trans rfl
        have r1 : w7.cell? ⟨g7 + 1, 1, none⟩ = some (.slice DP (cutQ T i).length eP) := (blk_cell hB7 1).trans rfl
        have y0 := blk_frozen hB7 0
        have y1 := blk_frozen hB7 1
        have HJ7 : Aside0 (CtJ w6 ((w7.setCell ⟨g7 + 1, 0, none⟩ (.slice XF (cutF T (i + m)).length yF)).setCell ⟨g7 + 1, 1, none⟩ (.slice XP (cutQ T (i + m)).length yP)) gs2 (g7 + 1) T (i + m) (.slice XF (cutF T (i + m)).length yF) (.slice XP (cutQ T (i + m)).length yP)) := ⟨⟨SP.far (SP.far hS7 m28 (.slice XF (cutF T (i + m)).length yF)) m28 (.slice XP (cutQ T (i + m)).length yP), blk_set (blk_set hB7 0 (.slice XF (cutF T (i + m)).length yF)) 1 (.slice XP (cutQ T (i + m)).length yP), (hL7.set hB7 (by decide) (by decide) 0 (.slice XF (cutF T (i + m)).length yF)).set (blk_set hB7 0 (.slice XF (cutF T (i + m)).length yF)) (by decide) (by decide) 1 (.slice XP (cutQ T (i + m)).length yP), (hC7.set 0 (.slice XF (cutF T (i + m)).length yF)).set 1 (.slice XP (cutQ T (i + m)).length yP)⟩⟩
        clear hS7 hL7 hB7 hC7
        go_wp2_with fail
        generalize (w7.setCell ⟨g7 + 1, 0, none⟩ (.slice XF (cutF T (i + m)).length yF)).setCell ⟨g7 + 1, 1, none⟩ (.slice XP (cutQ T (i + m)).length yP) = w8 at HJ7 ⊢
        obtain ⟨hS8, hB8, hL8, hC8⟩ := HJ7.out
        clear HJ7 r0 r1 y0 y1
        have ca := cut_all T
        have cbb := cut_bound T T.size (Nat.le_refl _)
        rw [ca.1, ca.2.1, ca.2.2.1, ca.2.2.2, HFT.out, HPT.out] at cbb
        rw [HTE.out, ca.1, ca.2.1, HFT.out, HPT.out] at hB8 hL8
        rw [HTE.out, ca.2.2.1, ca.2.2.2] at hS8
        have hlen : PT.length = FT.length := by rw [← HPT.out, ← HFT.out]; exact run_lens T 0
        have hW := HW.out
        obtain ⟨hW1, hW2, hW3, hW4⟩ := hW
        rw [HFT.out, HPT.out] at hW3
        have hF50 : FT.length ≤ 50000 := by omega
        have hR8 : (run T 0).2.1.size ≤ 8192 := cbb.2.2.2
        clear ca cbb
        generalize (run T 0).2.1 = R1 at *
        generalize (run T 0).2.2 = R2 at *
        have hR9 : (R1.size : Int) ≤ 8192 := by omega
        have HLEN := Aside0.mk hlen
        clear hlen
        refine (alive_calls _).mono ?_
        rintro e_ w9 ⟨rfl, hb9⟩
        have hS9 := hS8.below hb9
        have hB9 := blk_below hB8 hb9
        have hL9 := hL8.below hb9
        have hC9 := hC8.below hb9
        have hg7 : g7 ≠ g7 + 1 := by omega
        have hV9 := (hC9.2 g7 (by omega) (Nat.ne_of_gt m27) hg7).trans hW2
        have hU9 : SP w9 gs1 R1 R2 := (hC9.2 gs1 (by omega) n12 (by omega)).trans hW1
        have hbe := hC9.all hW4 (by omega) hl1 (by omega)
        have s0 : w9.cell? ⟨g7 + 1, 0, none⟩ = some (.slice XF FT.length yF) := (blk_cell hB9 0).trans rfl
        have s1 : w9.cell? ⟨g7 + 1, 1, none⟩ = some (.slice XP PT.length yP) := (blk_cell hB9 1).trans rfl
        have t0 : w9.cell? ⟨g7, 0, none⟩ = some (.slice AF FT.length cF) := (blk_cell hV9 0).trans rfl
        have t1 : w9.cell? ⟨g7, 1, none⟩ = some (.slice AP PT.length cP) := (blk_cell hV9 1).trans rfl
        have HWANT : Aside0 (HrL w9 0 (.slice AF FT.length cF) (.slice AP PT.length cP) FT PT) := ⟨hC9.list hW3 HP6.out HB6.out⟩
        have HGOT := Aside0.mk hL9
        have HU := Aside0.mk hU9
        have HS9 := Aside0.mk hS9
        have HBE := Aside0.mk hbe
        clear hS8 hB8 hL8 hC8 hb9 hS9 hB9 hL9 hC9 hV9 hU9 hbe hW1 hW2 hW3 hW4 HW
        go_wp2_with fail
        refine (same_calls HGOT.out HWANT.out HLEN.out hF50).mono ?_
        rintro e_ w10 ⟨rfl, hb10⟩
        have HU10 := Aside0.mk (HU.out.below hb10)
        have HS10 := Aside0.mk (HS9.out.below hb10)
        have HBE10 := Aside0.mk (below_then HBE.out (below_size HBE.out) hb10)
        clear HU HS9 HBE hb10 s0 s1 t0 t1 HGOT HWANT
        go_wp2_with fail
        refine (spLeft HU10.out).mono ?_
        rintro e_ w11 ⟨rfl, rfl⟩
        go_wp2_with fail
        refine (spLeft HS10.out).mono ?_
        rintro e_ w11 ⟨rfl, rfl⟩
        go_wp2_with fail
        refine (spLeft HU10.out).mono ?_
        rintro e_ w11 ⟨rfl, rfl⟩
        go_wp2_with fail
        go_ret
        exact ⟨rfl, HBE10.out⟩
  · go_enter Try.func8, Try.ntmps8
    go_wp2_with fail
    have hT : S.size ≤ 50000 := by omega
    generalize S = T at *
    clear hS hS5
    refine (spNew _).mono ?_
    rintro e w1 ⟨rfl, hS1, hb1⟩
    go_wp2_with fail
    refine (spNew _).mono ?_
    rintro e w2 ⟨rfl, hS2, hb2⟩
    have hA2 := hS1.below hb2
    have n12 : w.heap.size ≠ w1.heap.size := Nat.ne_of_lt (blk_lt hS1)
    have hl1 : w.heap.size ≤ w1.heap.size := hb1.size
    have hl2 := blk_lt hS2
    have hbw : Below w.heap.size w w2 := below_then hb1 (below_size hb1) hb2
    clear hb1 hb2 hS1
    have hg1 : w.heap.size ≤ w.heap.size := Nat.le_refl _
    generalize hgs : w.heap.size = gs1 at hA2 n12 ⊢
    replace hg1 : w.heap.size ≤ gs1 := Nat.le_of_eq hgs
    clear hgs
    generalize w1.heap.size = gs2 at *
    go_wp2_with fail
    refine (spFeed hA2 T (by show 0 + _ ≤ 65536; omega)).mono ?_
    rw [str_nil]
    rintro e w3 ⟨rfl, hS3, ha3⟩
    have hP3 := (ha3.2.2 gs2 (Ne.symm n12)).trans hS2
    have hb3 : Below w.heap.size w w3 := below_alone hbw ha3 hg1
    have hl3 : gs2 < w3.heap.size := blk_lt hP3
    clear ha3 hS2 hA2 hbw
    go_wp2_with fail
    refine (hears_calls (lo := w3.heap.size) hS3 ⟨Kd.R_nil _ _ _ _ _, Kd.R_nil _ _ _ _ _⟩ (Nat.le_refl _) (by show 0 * 34 + _ ≤ 50000; omega) (by show 0 * 34 + _ ≤ 50000; omega) (by omega)).mono ?_
    rw [List.nil_append, List.nil_append]
    rintro e w4 ⟨vF, vP, rfl, hS4, hL4, hK4⟩
    obtain ⟨AF, cF, eF⟩ := Kd.R_slice hL4.1
    obtain ⟨AP, cP, eP⟩ := Kd.R_slice hL4.2
    subst eF eP
    have hP4 : SP w4 gs2 ⟨#[]⟩ 0 := (hK4.2 gs2 hl3 hl3 (Ne.symm n12)).trans hP3
    have hb4 : Below w.heap.size w w4 := ⟨hK4.1.os.trans hb3.os, hK4.1.tape.trans hb3.tape, hK4.1.output.trans hb3.output, Nat.le_trans hb3.size hK4.1.size, fun k hk => (hK4.2 k (Nat.lt_of_lt_of_le hk hb3.size) (Nat.lt_of_lt_of_le hk hb3.size) (by omega)).trans (hb3.block k hk)⟩
    clear hK4 hS3 hP3 hb3 hl3
    go_wp2_with fail
    generalize hFT : runF T 0 = FT at *
    generalize hPT : runP T 0 = PT at *
    have HFT := Aside0.mk hFT
    have HPT := Aside0.mk hPT
    clear hFT hPT
    have hsz : (w4.alloc (.cells #[(.slice AF FT.length cF), (.slice AP PT.length cP)] 57)).heap.size = w4.heap.size + 1 := Array.size_push _
    have hA := (Below.refl w4.heap.size w4).alloc (Nat.le_refl _) (.cells #[(.slice AF FT.length cF), (.slice AP PT.length cP)] 57)
    have hB := (Below.refl (w4.alloc (.cells #[(.slice AF FT.length cF), (.slice AP PT.length cP)] 57)).heap.size (w4.alloc (.cells #[(.slice AF FT.length cF), (.slice AP PT.length cP)] 57))).alloc (Nat.le_refl _) (.cells #[.slice none 0 0, .slice none 0 0] 57)
    have HW : Aside0 (CtW w ((w4.alloc (.cells #[(.slice AF FT.length cF), (.slice AP PT.length cP)] 57)).alloc (.cells #[.slice none 0 0, .slice none 0 0] 57)) gs1 w4.heap.size T (.slice AF FT.length cF) (.slice AP PT.length cP)) := ⟨⟨(hS4.below hA).below hB, blk_alloc (W_push w4 _ _ _) _, by rw [HFT.out, HPT.out]; exact ((hL4.below hA).below hB).low, below_then (below_then hb4 (below_size hb4) hA) (Nat.le_trans (below_size hb4) hA.size) hB⟩⟩
    have HJ0 : Aside0 (CtJ ((w4.alloc (.cells #[(.slice AF FT.length cF), (.slice AP PT.length cP)] 57)).alloc (.cells #[.slice none 0 0, .slice none 0 0] 57)) ((w4.alloc (.cells #[(.slice AF FT.length cF), (.slice AP PT.length cP)] 57)).alloc (.cells #[.slice none 0 0, .slice none 0 0] 57)) gs2 (w4.heap.size + 1) T 0 (.slice none 0 0) (.slice none 0 0)) := ⟨by
      obtain ⟨z1, z2, z3, z4⟩ := cut_zero T
      refine ⟨?_, by rw [← hsz]; exact W_push _ _ _ _, ?_, ⟨Below.refl _ _, fun _ _ _ _ => rfl⟩⟩
      · rw [z3, z4]
        exact (hP4.below hA).below hB
      · rw [z1, z2]
        exact ⟨Kd.R_nil _ _ _ _ _, Kd.R_nil _ _ _ _ _⟩⟩
    have m18 : gs1 < w4.heap.size := blk_lt hS4
    have m27 : gs2 < w4.heap.size := blk_lt hP4
    have m28 : gs2 ≠ w4.heap.size + 1 := by omega
    have hw8 : w.heap.size ≤ w4.heap.size := hb4.size
    have h86 : w4.heap.size + 1 < ((w4.alloc (.cells #[(.slice AF FT.length cF), (.slice AP PT.length cP)] 57)).alloc (.cells #[.slice none 0 0, .slice none 0 0] 57)).heap.size := by rw [← hsz]; exact blk_lt (W_push _ _ _ _)
    have HP6 : Aside0 (SP ((w4.alloc (.cells #[(.slice AF FT.length cF), (.slice AP PT.length cP)] 57)).alloc (.cells #[.slice none 0 0, .slice none 0 0] 57)) gs2 ⟨#[]⟩ 0) := ⟨(hP4.below hA).below hB⟩
    have HB6 : Aside0 (((w4.alloc (.cells #[(.slice AF FT.length cF), (.slice AP PT.length cP)] 57)).alloc (.cells #[.slice none 0 0, .slice none 0 0] 57)).heap[w4.heap.size + 1]? = some (.cells #[.slice none 0 0, .slice none 0 0] 57 (0, 0))) := ⟨by rw [← hsz]; exact W_push _ _ _ _⟩
    clear hA hB hsz hb4 hS4 hP4 hL4
    generalize (w4.alloc (.cells #[(.slice AF FT.length cF), (.slice AP PT.length cP)] 57)).alloc (.cells #[.slice none 0 0, .slice none 0 0] 57) = w6 at *
    generalize w4.heap.size = g7 at *
    go_loopw [9, 10] (fun av iv wr => ∃ (k i : Nat) (uF uP : Value), k ≤ es.length ∧ i ≤ T.size ∧ av = .int .i64 i ∧ iv = .int .i64 k ∧ Aside0 (CtJ w6 wr gs2 (g7 + 1) T i uF uP)) (fun _ iv _ => es.length - (intOf iv).toNat)
    case atStart => exact ⟨0, 0, _, _, Nat.zero_le _, Nat.zero_le _, rfl, rfl, HJ0⟩
    case round =>
      obtain ⟨k, i, uF, uP, hk, hi, rfl, rfl, HJ⟩ := hrel
      obtain ⟨DF, eF, gF⟩ := Kd.R_slice HJ.out.2.2.1.1
      obtain ⟨DP, eP, gP⟩ := Kd.R_slice HJ.out.2.2.1.2
      subst gF gP
      have hcb := cut_bound T i hi
      by_cases hlt : k < es.length
      · have hbe : Below w.heap.size w wr := HJ.out.2.2.2.all HW.out.2.2.2 (by omega) hl1 (by omega)
        obtain ⟨b, o, rfl⟩ := int_addr HC.out k hlt
        have hek : es[k]? = some es[k] := List.getElem?_eq_getElem hlt
        generalize es[k] = z at hek
        have c0 := int_aq (Kd.C_below HC.out hbe) k z hek
        clear hbe hek
        obtain ⟨d, hda, hdb⟩ : ∃ d, i + d ≤ T.size ∧ T.size ≤ i + d := ⟨T.size - i, by omega, by omega⟩
        have hd2 : (T.size : Int) - (i : Int) = (d : Int) := by omega
        obtain ⟨m, hm, hcut⟩ := cut_calls z d (by omega)
        have HCUT := Aside0.mk hcut
        clear hcut
        have him : i + m ≤ T.size := by omega
        have i0 : (0 : Int) ≤ (k : Int) := by omega
        have i1 : (k : Int) < (es.length : Int) := by omega
        clear HJ0
        go_wp2_with fail
        refine (HCUT.out _).mono ?_
        rintro e_ w5 ⟨rfl, rfl⟩
        clear c0 HCUT hd2 i0
        have j0 : (i : Int) + (m : Int) ≤ (T.size : Int) := by omega
        have j1 : (0 : Int) ≤ (i : Int) := by omega
        have j2 : (i : Int) ≤ (i : Int) + (m : Int) := by omega
        have j3 : ((i : Int) + (m : Int)).toNat = i + m := by omega
        have j4 : (0 : Int) ≤ (i : Int) + (m : Int) := by omega
        go_wp2_with fail
        refine (spFeed HJ.out.1 (T.extract i (i + m)) (by rw [ByteArray.size_extract]; omega)).mono ?_
        rintro e_ w5 ⟨rfl, hS5, ha5⟩
        have hB5 := (ha5.2.2 (g7 + 1) (Ne.symm m28)).trans HJ.out.2.1
        have hA5 := (Amid.refl _ _).alone ha5
        have hL5 := HJ.out.2.2.1.amid HJ.out.1 (by decide) (by decide) hA5
        have hK5 := HJ.out.2.2.2.amid hA5
        have q0 := blk_cell hB5 0
        have q1 := blk_cell hB5 1
        replace q0 : w5.cell? ⟨g7 + 1, 0, none⟩ = some (.slice DF (cutF T i).length eF) := q0.trans rfl
        replace q1 : w5.cell? ⟨g7 + 1, 1, none⟩ = some (.slice DP (cutQ T i).length eP) := q1.trans rfl
        have hsm : (cutS T i ++ T.extract i (i + m)).size ≤ (cutS T i).size + m := by rw [ByteArray.size_append, ByteArray.size_extract]; omega
        have HS5 := Aside0.mk hS5
        have HL5 := Aside0.mk hL5
        have HK5 := Aside0.mk hK5
        have HB5 := Aside0.mk hB5
        have h65 : w6.heap.size ≤ w5.heap.size := hK5.1.size
        have h85 : g7 + 1 < w5.heap.size := blk_lt hB5
        clear HJ hS5 ha5 hA5 hL5 hK5 hB5
        go_wp2_with fail
        refine (hears_calls (lo := w6.heap.size) HS5.out HL5.out h65 (by omega) (by omega) (by omega)).mono ?_
        rintro e_ w7 ⟨xF, xP, rfl, hS7, hL7, hK7⟩
        rw [← (cut_step T i m him).1, ← (cut_step T i m him).2.1] at hL7
        rw [← (cut_step T i m him).2.2.1, ← (cut_step T i m him).2.2.2] at hS7
        have hB7 := (hK7.2 (g7 + 1) h86 h85 (Ne.symm m28)).trans HB5.out
        have hC7 := HK5.out.keeps hK7
        clear HS5 HL5 HK5 HB5 h65 h85 hK7 q0 q1 hsm
        obtain ⟨XF, yF, zF⟩ := Kd.R_slice hL7.1
        obtain ⟨XP, yP, zP⟩ := Kd.R_slice hL7.2
        subst zF zP
        have r0 : w7.cell? ⟨g7 + 1, 0, none⟩ = some (.slice DF (cutF T i).length eF) := (blk_cell hB7 0).trans rfl
        have r1 : w7.cell? ⟨g7 + 1, 1, none⟩ = some (.slice DP (cutQ T i).length eP) := (blk_cell hB7 1).trans rfl
        have y0 := blk_frozen hB7 0
        have y1 := blk_frozen hB7 1
        have HJ7 : Aside0 (CtJ w6 ((w7.setCell ⟨g7 + 1, 0, none⟩ (.slice XF (cutF T (i + m)).length yF)).setCell ⟨g7 + 1, 1, none⟩ (.slice XP (cutQ T (i + m)).length yP)) gs2 (g7 + 1) T (i + m) (.slice XF (cutF T (i + m)).length yF) (.slice XP (cutQ T (i + m)).length yP)) := ⟨⟨SP.far (SP.far hS7 m28 (.slice XF (cutF T (i + m)).length yF)) m28 (.slice XP (cutQ T (i + m)).length yP), blk_set (blk_set hB7 0 (.slice XF (cutF T (i + m)).length yF)) 1 (.slice XP (cutQ T (i + m)).length yP), (hL7.set hB7 (by decide) (by decide) 0 (.slice XF (cutF T (i + m)).length yF)).set (blk_set hB7 0 (.slice XF (cutF T (i + m)).length yF)) (by decide) (by decide) 1 (.slice XP (cutQ T (i + m)).length yP), (hC7.set 0 (.slice XF (cutF T (i + m)).length yF)).set 1 (.slice XP (cutQ T (i + m)).length yP)⟩⟩
        clear hS7 hL7 hB7 hC7
        go_wp2_with fail
        go_roundw
        case rel => exact ⟨k + 1, i + m, _, _, by omega, him, by go_num, by go_num, HJ7⟩
        case measure => simp [intOf]; omega
      · obtain rfl : k = es.length := by omega
        obtain ⟨m, him, hmb⟩ : ∃ m, i + m ≤ T.size ∧ T.size ≤ i + m := ⟨T.size - i, by omega, by omega⟩
        have HTm : Aside0 (T.extract i T.size = T.extract i (i + m)) := ⟨by rw [show i + m = T.size by omega]⟩
        have HTE : Aside0 (i + m = T.size) := ⟨by omega⟩
        have j0 : (i : Int) ≤ (T.size : Int) := by omega
        have j1 : (0 : Int) ≤ (i : Int) := by omega
        clear HJ0 hlt hk
        go_wp2_with fail
        refine (spFeed HJ.out.1 (T.extract i T.size) (by rw [ByteArray.size_extract]; omega)).mono ?_
        rintro e_ w5 ⟨rfl, hS5, ha5⟩
        rw [HTm.out] at hS5
        have hB5 := (ha5.2.2 (g7 + 1) (Ne.symm m28)).trans HJ.out.2.1
        have hA5 := (Amid.refl _ _).alone ha5
        have hL5 := HJ.out.2.2.1.amid HJ.out.1 (by decide) (by decide) hA5
        have hK5 := HJ.out.2.2.2.amid hA5
        have q0 := blk_cell hB5 0
        have q1 := blk_cell hB5 1
        replace q0 : w5.cell? ⟨g7 + 1, 0, none⟩ = some (.slice DF (cutF T i).length eF) := q0.trans rfl
        replace q1 : w5.cell? ⟨g7 + 1, 1, none⟩ = some (.slice DP (cutQ T i).length eP) := q1.trans rfl
        have hsm : (cutS T i ++ T.extract i (i + m)).size ≤ (cutS T i).size + m := by rw [ByteArray.size_append, ByteArray.size_extract]; omega
        have HS5 := Aside0.mk hS5
        have HL5 := Aside0.mk hL5
        have HK5 := Aside0.mk hK5
        have HB5 := Aside0.mk hB5
        have h65 : w6.heap.size ≤ w5.heap.size := hK5.1.size
        have h85 : g7 + 1 < w5.heap.size := blk_lt hB5
        clear HJ hS5 ha5 hA5 hL5 hK5 hB5
        go_wp2_with fail
        refine (hears_calls (lo := w6.heap.size) HS5.out HL5.out h65 (by omega) (by omega) (by omega)).mono ?_
        rintro e_ w7 ⟨xF, xP, rfl, hS7, hL7, hK7⟩
        rw [← (cut_step T i m him).1, ← (cut_step T i m him).2.1] at hL7
        rw [← (cut_step T i m him).2.2.1, ← (cut_step T i m him).2.2.2] at hS7
        have hB7 := (hK7.2 (g7 + 1) h86 h85 (Ne.symm m28)).trans HB5.out
        have hC7 := HK5.out.keeps hK7
        clear HS5 HL5 HK5 HB5 h65 h85 hK7 q0 q1 hsm
        obtain ⟨XF, yF, zF⟩ := Kd.R_slice hL7.1
        obtain ⟨XP, yP, zP⟩ := Kd.R_slice hL7.2
        subst zF zP
        have r0 : w7.cell? ⟨g7 + 1, 0, none⟩ = some (.slice DF (cutF T i).length eF) := (blk_cell hB7 0).trans rfl
        have r1 : w7.cell? ⟨g7 + 1, 1, none⟩ = some (.slice DP (cutQ T i).length eP) := (blk_cell hB7 1).trans rfl
        have y0 := blk_frozen hB7 0
        have y1 := blk_frozen hB7 1
        have HJ7 : Aside0 (CtJ w6 ((w7.setCell ⟨g7 + 1, 0, none⟩ (.slice XF (cutF T (i + m)).length yF)).setCell ⟨g7 + 1, 1, none⟩ (.slice XP (cutQ T (i + m)).length yP)) gs2 (g7 + 1) T (i + m) (.slice XF (cutF T (i + m)).length yF) (.slice XP (cutQ T (i + m)).length yP)) := ⟨⟨SP.far (SP.far hS7 m28 (.slice XF (cutF T (i + m)).length yF)) m28 (.slice XP (cutQ T (i + m)).length yP), blk_set (blk_set hB7 0 (.slice XF (cutF T (i + m)).length yF)) 1 (.slice XP (cutQ T (i + m)).length yP), (hL7.set hB7 (by decide) (by decide) 0 (.slice XF (cutF T (i + m)).length yF)).set (blk_set hB7 0 (.slice XF (cutF T (i + m)).length yF)) (by decide) (by decide) 1 (.slice XP (cutQ T (i + m)).length yP), (hC7.set 0 (.slice XF (cutF T (i + m)).length yF)).set 1 (.slice XP (cutQ T (i + m)).length yP)⟩⟩
        clear hS7 hL7 hB7 hC7
        go_wp2_with fail
        generalize (w7.setCell ⟨g7 + 1, 0, none⟩ (.slice XF (cutF T (i + m)).length yF)).setCell ⟨g7 + 1, 1, none⟩ (.slice XP (cutQ T (i + m)).length yP) = w8 at HJ7 ⊢
        obtain ⟨hS8, hB8, hL8, hC8⟩ := HJ7.out
        clear HJ7 r0 r1 y0 y1
        have ca := cut_all T
        have cbb := cut_bound T T.size (Nat.le_refl _)
        rw [ca.1, ca.2.1, ca.2.2.1, ca.2.2.2, HFT.out, HPT.out] at cbb
        rw [HTE.out, ca.1, ca.2.1, HFT.out, HPT.out] at hB8 hL8
        rw [HTE.out, ca.2.2.1, ca.2.2.2] at hS8
        have hlen : PT.length = FT.length := by rw [← HPT.out, ← HFT.out]; exact run_lens T 0
        have hW := HW.out
        obtain ⟨hW1, hW2, hW3, hW4⟩ := hW
        rw [HFT.out, HPT.out] at hW3
        have hF50 : FT.length ≤ 50000 := by omega
        have hR8 : (run T 0).2.1.size ≤ 8192 := cbb.2.2.2
        clear ca cbb
        generalize (run T 0).2.1 = R1 at *
        generalize (run T 0).2.2 = R2 at *
        have hR9 : (R1.size : Int) ≤ 8192 := by omega
        have HLEN := Aside0.mk hlen
        clear hlen
        refine (alive_calls _).mono ?_
        rintro e_ w9 ⟨rfl, hb9⟩
        have hS9 := hS8.below hb9
        have hB9 := blk_below hB8 hb9
        have hL9 := hL8.below hb9
        have hC9 := hC8.below hb9
        have hg7 : g7 ≠ g7 + 1 := by omega
        have hV9 := (hC9.2 g7 (by omega) (Nat.ne_of_gt m27) hg7).trans hW2
        have hU9 : SP w9 gs1 R1 R2 := (hC9.2 gs1 (by omega) n12 (by omega)).trans hW1
        have hbe := hC9.all hW4 (by omega) hl1 (by omega)
        have s0 : w9.cell? ⟨g7 + 1, 0, none⟩ = some (.slice XF FT.length yF) := (blk_cell hB9 0).trans rfl
        have s1 : w9.cell? ⟨g7 + 1, 1, none⟩ = some (.slice XP PT.length yP) := (blk_cell hB9 1).trans rfl
        have t0 : w9.cell? ⟨g7, 0, none⟩ = some (.slice AF FT.length cF) := (blk_cell hV9 0).trans rfl
        have t1 : w9.cell? ⟨g7, 1, none⟩ = some (.slice AP PT.length cP) := (blk_cell hV9 1).trans rfl
        have HWANT : Aside0 (HrL w9 0 (.slice AF FT.length cF) (.slice AP PT.length cP) FT PT) := ⟨hC9.list hW3 HP6.out HB6.out⟩
        have HGOT := Aside0.mk hL9
        have HU := Aside0.mk hU9
        have HS9 := Aside0.mk hS9
        have HBE := Aside0.mk hbe
        clear hS8 hB8 hL8 hC8 hb9 hS9 hB9 hL9 hC9 hV9 hU9 hbe hW1 hW2 hW3 hW4 HW
        go_wp2_with fail
        refine (same_calls HGOT.out HWANT.out HLEN.out hF50).mono ?_
        rintro e_ w10 ⟨rfl, hb10⟩
        have HU10 := Aside0.mk (HU.out.below hb10)
        have HS10 := Aside0.mk (HS9.out.below hb10)
        have HBE10 := Aside0.mk (below_then HBE.out (below_size HBE.out) hb10)
        clear HU HS9 HBE hb10 s0 s1 t0 t1 HGOT HWANT
        go_wp2_with fail
        refine (spLeft HU10.out).mono ?_
        rintro e_ w11 ⟨rfl, rfl⟩
        go_wp2_with fail
        refine (spLeft HS10.out).mono ?_
        rintro e_ w11 ⟨rfl, rfl⟩
        go_wp2_with fail
        refine (spLeft HU10.out).mono ?_
        rintro e_ w11 ⟨rfl, rfl⟩
        go_wp2_with fail
        go_ret
        exact ⟨rfl, HBE10.out⟩
theorem FrameCut_walk (w : World) (S : ByteArray) (hS : S.size ≤ 140737488351232) (a : Option Addr) (len cap : Nat) (z : List Int) (hr : IsRow .i64 w a len cap z) (y : len * 8 ≤ 140737488351232) :
    Calls Try.prog 8 #[.string S, .slice a len cap] w fun e w' => e = .returned (.bool true) ∧ Below w.heap.size w w' := by
  obtain ⟨l, rfl, hrd, _, hwf, hc⟩ := ReadsInt.ofRowC hr
  exact FrameCut_go w S hS a cap l hc (Kd.C_of_reads (d := (0 : Int)) (h1 := fun _ => rfl) hrd)
end Go.Proofs.Ytgboppgghidgbaa.My
