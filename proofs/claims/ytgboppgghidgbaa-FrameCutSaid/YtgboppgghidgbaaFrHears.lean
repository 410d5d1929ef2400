/- hears: all that a splitter tells now is gathered in two lists. -/
import Derived.Test.YtgboppgghidgbaaFrCutP
import Derived.Test.YtgboppgghidgbaaOpenRows
namespace Go.Proofs.Ytgboppgghidgbaa.My
open Go.RowKit Go.Proofs.YtgboppgghidgbaaW.PrintWords Go.Proofs.YtgboppgghidgbaaW.PrintLast Go.Proofs.YtgboppgghidgbaaW.PrintMore Go.Proofs.Ytgboppgghidgbaa
set_option linter.unusedSimpArgs false
set_option linter.unusedVariables false
set_option maxRecDepth 100000
set_option maxHeartbeats 4000000
def kHt : Kd Ht := kflat 9 Ht.cells (fun _ => rfl) (fun x u hu => by
  simp only [Ht.cells, List.mem_cons, List.not_mem_nil, or_false] at hu
  rcases hu with rfl | rfl | rfl | rfl | rfl | rfl | rfl | rfl | rfl <;> rfl)
theorem infoFr : (Try.prog.info? 28).map (fun i => (i.zero, i.size, i.bytes)) = some (some (.agg #[.int .u8 0, .int .u8 0, .int .u8 0, .int .u16 0, .int .u32 0, .int .u64 0, .int .u32 0, .bool false, .string ⟨#[]⟩]), 9, 48) := by kernel_rfl
theorem infoI : (Try.prog.info? 3).map (fun i => (i.zero, i.size, i.bytes)) = some (some (.int .i64 0), 1, 8) := by kernel_rfl
/-- Two lists in blocks from lo on: the frames, and what was passed over. -/
def HrL (w : World) (lo : Nat) (vF vP : Value) (fs : List Ht) (ps : List Int) : Prop := kHt.R 28 w 0 (fun k => lo ≤ k) vF fs ∧ (Kd.int .i64).R 3 w 0 (fun k => lo ≤ k) vP ps
theorem HrL.step {w w' : World} {lo : Nat} {vF vP : Value} {fs : List Ht} {ps : List Int} (h : HrL w lo vF vP fs ps) (hm : ∀ k, lo ≤ k → k < w.heap.size → (∃ q, (q = 28 ∨ q = 3) ∧ ∃ cells, w.heap[k]? = some (.cells cells q (0, 0))) → w'.heap[k]? = w.heap[k]?) : HrL w' lo vF vP fs ps := by
  refine ⟨Kd.R_mono (Kd.R_move (Kd.R_bound h.1) (fun k hk => hm k hk.1 hk.2.2.1 ?_)) (fun _ hk => hk.1), Kd.R_mono (Kd.R_move (Kd.R_bound h.2) (fun k hk => hm k hk.1 hk.2.2.1 ?_)) (fun _ hk => hk.1)⟩
  · obtain ⟨q, hq, hc⟩ := hk.2.2.2
    exact ⟨q, .inl (by simpa [kHt, kflat] using hq), hc⟩
  · obtain ⟨q, hq, hc⟩ := hk.2.2.2
    exact ⟨q, .inr (by simpa [Kd.int, Kd.scalar] using hq), hc⟩
theorem typ_ne {w : World} {k g t : Nat} {cs : Array Value} (h : w.heap[g]? = some (.cells cs t (0, 0))) (h1 : t ≠ 28) (h2 : t ≠ 3) (hk : ∃ q, (q = 28 ∨ q = 3) ∧ ∃ cells, w.heap[k]? = some (.cells cells q (0, 0))) : k ≠ g := by
  obtain ⟨q, hq, cells, hc⟩ := hk
  rintro rfl
  rw [hc] at h
  injection h with h
  injection h with _ h
  rcases hq with rfl | rfl
  · exact h1 h.symm
  · exact h2 h.symm
theorem HrL.below {w w' : World} {lo : Nat} {vF vP : Value} {fs : List Ht} {ps : List Int} (h : HrL w lo vF vP fs ps) (hb : Below w.heap.size w w') : HrL w' lo vF vP fs ps := h.step (fun k _ hk _ => hb.block k hk)
theorem HrL.set {w : World} {lo : Nat} {vF vP : Value} {fs : List Ht} {ps : List Int} (h : HrL w lo vF vP fs ps) {g t : Nat} {cs : Array Value} (hb : w.heap[g]? = some (.cells cs t (0, 0))) (h1 : t ≠ 28) (h2 : t ≠ 3) (j : Nat) (u : Value) : HrL (w.setCell ⟨g, j, none⟩ u) lo vF vP fs ps :=
  h.step (fun k _ hk hq => (Alone_set w 0 g j u).2.2 k (typ_ne hb h1 h2 hq))
theorem HrL.amid {w w' : World} {lo : Nat} {vF vP : Value} {fs : List Ht} {ps : List Int} (h : HrL w lo vF vP fs ps) {g t : Nat} {cs : Array Value} (hb : w.heap[g]? = some (.cells cs t (0, 0))) (h1 : t ≠ 28) (h2 : t ≠ 3) (ha : Amid w w' g) : HrL w' lo vF vP fs ps :=
  h.step (fun k _ hk hq => ha.2 k hk (typ_ne hb h1 h2 hq))
/-- Of the blocks below lo, g alone has changed. -/
def Keeps (w w' : World) (lo g : Nat) : Prop := Below 0 w w' ∧ ∀ k, k < lo → k < w.heap.size → k ≠ g → w'.heap[k]? = w.heap[k]?
theorem Keeps.refl (w : World) (lo g : Nat) : Keeps w w lo g := ⟨Below.refl _ _, fun _ _ _ _ => rfl⟩
theorem Keeps.amid {w W V : World} {lo g : Nat} (h : Keeps w W lo g) (ha : Amid W V g) : Keeps w V lo g :=
  ⟨h.1.trans ha.1, fun k hk hw hg => (ha.2 k (Nat.lt_of_lt_of_le hw h.1.size) hg).trans (h.2 k hk hw hg)⟩
theorem Keeps.below {w W V : World} {lo g : Nat} (h : Keeps w W lo g) (hb : Below W.heap.size W V) : Keeps w V lo g := h.amid ((Amid.refl W g).below hb)
theorem Keeps.set {w W : World} {lo g : Nat} (h : Keeps w W lo g) {k : Nat} (hk : lo ≤ k) (j : Nat) (u : Value) : Keeps w (W.setCell ⟨k, j, none⟩ u) lo g :=
  ⟨h.1.trans (Alone_set W 0 k j u).1, fun i hi hw hg => ((Alone_set W 0 k j u).2.2 i (by omega)).trans (h.2 i hi hw hg)⟩
theorem Keeps.grown {w W V : World} {lo g : Nat} {row : Option Nat} (h : Keeps w W lo g) (hb : Below 0 w V) (hg : W.grownBy V row) (hr : ∀ k, row = some k → lo ≤ k) : Keeps w V lo g :=
  ⟨hb, fun k hk hw hgk => (hg.block k (Nat.lt_of_lt_of_le hw h.1.size) (fun e => by have := hr k e.symm; omega)).trans (h.2 k hk hw hgk)⟩
/-- At the head of hears's loop. -/
def HrI (w wr : World) (lo gs gh g4 : Nat) (s : ByteArray) (p : Nat) (vF vP : Value) (fs : List Ht) (ps : List Int) : Prop :=
  SP wr gs s p ∧ wr.heap[gh]? = some (.cells #[vF, vP] 57 (0, 0)) ∧ wr.heap[g4]? = some (.cells #[.slice none 0 0, .slice none 0 0] 57 (0, 0)) ∧ HrL wr lo vF vP fs ps ∧ Keeps w wr lo gs
theorem HrI.below {w wr w' : World} {lo gs gh g4 : Nat} {s : ByteArray} {p : Nat} {vF vP : Value} {fs : List Ht} {ps : List Int} (h : HrI w wr lo gs gh g4 s p vF vP fs ps) (hb : Below wr.heap.size wr w') : HrI w w' lo gs gh g4 s p vF vP fs ps :=
  ⟨h.1.below hb, blk_below h.2.1 hb, blk_below h.2.2.1 hb, h.2.2.2.1.below hb, h.2.2.2.2.below hb⟩
noncomputable def runF (s : ByteArray) (p : Nat) : List Ht := (run s p).1.map Prod.fst
noncomputable def runP (s : ByteArray) (p : Nat) : List Int := (run s p).1.map fun y => (y.2 : Int)
theorem hears_calls {w : World} {lo gs : Nat} {s : ByteArray} {p : Nat} {vF vP : Value} {fs : List Ht} {ps : List Int} (hS : SP w gs s p) (hL : HrL w lo vF vP fs ps) (hlo : lo ≤ w.heap.size) (hb : fs.length * 34 + s.size ≤ 50000) (hb2 : ps.length * 34 + s.size ≤ 50000) (hp : p + s.size ≤ 50000) :
    Calls Try.prog 22 #[.pointer (some ⟨gs, 0, none⟩), .agg #[vF, vP]] w fun r w' => ∃ vF' vP', r = .returned (.agg #[vF', vP']) ∧ SP w' gs (run s p).2.1 (run s p).2.2 ∧ HrL w' lo vF' vP' (fs ++ runF s p) (ps ++ runP s p) ∧ Keeps w w' lo gs := by
  have hgl := hS.lt
  go_enter Try.func22, Try.ntmps22
  go_wp2_with fail
  have hF0 := W_push w #[vF, vP] 57 (0, 0)
  have hS1 := hS.below ((Below.refl _ _).alloc (Nat.le_refl _) (.cells #[vF, vP] 57))
  have hL1 := hL.below ((Below.refl _ _).alloc (Nat.le_refl _) (.cells #[vF, vP] 57))
  have hK1 := (Keeps.refl w lo gs).below ((Below.refl _ _).alloc (Nat.le_refl _) (.cells #[vF, vP] 57))
  have hsz : (w.alloc (.cells #[vF, vP] 57)).heap.size = w.heap.size + 1 := Array.size_push _
  have hl1 := blk_lt hF0
  generalize w.alloc (.cells #[vF, vP] 57) = w1 at *
  have hgh : lo ≤ w.heap.size := hlo
  have hgn : gs ≠ w.heap.size := Nat.ne_of_lt hgl
  generalize hgh0 : w.heap.size = gh at hF0 hgh hgn hl1 hsz ⊢
  clear hgh0
  have HI0 : Aside0 (HrI w (w1.alloc (.cells #[.slice none 0 0, .slice none 0 0] 57)) lo gs gh (gh + 1) s p vF vP fs ps) := ⟨⟨hS1.below ((Below.refl _ _).alloc (Nat.le_refl _) _), blk_alloc hF0 _, by rw [← hsz]; exact W_push w1 _ _ _, hL1.below ((Below.refl _ _).alloc (Nat.le_refl _) _), hK1.below ((Below.refl _ _).alloc (Nat.le_refl _) _)⟩⟩
  have hg4 : lo ≤ gh + 1 := by omega
  have hn4 : gs ≠ gh + 1 := by rw [← hsz]; exact Nat.ne_of_lt (blk_lt hS1)
  have hn5 : gh ≠ gh + 1 := by omega
  clear hF0 hS1 hL1 hK1 hS hL hsz hl1
  generalize w1.alloc (.cells #[.slice none 0 0, .slice none 0 0] 57) = w2 at *
  go_loopw [6] (fun _ wr => ∃ (s1 : ByteArray) (p1 : Nat) (uF uP : Value) (fz : List Ht) (pz : List Int), Aside0 (HrI w wr lo gs gh (gh + 1) s1 p1 uF uP fz pz) ∧ Aside0 (fs ++ runF s p = fz ++ runF s1 p1 ∧ ps ++ runP s p = pz ++ runP s1 p1 ∧ (run s p).2 = (run s1 p1).2) ∧ fz.length * 34 + s1.size ≤ 50000 ∧ pz.length * 34 + s1.size ≤ 50000 ∧ p1 + s1.size ≤ 50000) (fun _ wr => nxM gs wr)
  case atStart => exact ⟨s, p, vF, vP, fs, ps, HI0, ⟨rfl, rfl, rfl⟩, hb, hb2, hp⟩
  case round =>
    clear HI0 hb hb2 hp
    obtain ⟨s1, p1, uF, uP, fz, pz, HI, HQ, hb, hb2, hp⟩ := hrel
    obtain ⟨AF, cF, eF⟩ := Kd.R_slice HI.out.2.2.2.1.1
    obtain ⟨AP, cP, eP⟩ := Kd.R_slice HI.out.2.2.2.1.2
    subst eF eP
    have k0 : wr.cell? ⟨gh, 0, none⟩ = some (.slice AF fz.length cF) := (blk_cell HI.out.2.1 0).trans rfl
    have hz0 : (fz.length : Int) < 2000 := by omega
    go_wp2_with fail
    have HN := spNext_any HI.out.1 (by omega) (by omega)
    by_cases hK : nxK s1 = 2
    · have hrun := run_yes s1 p1 hK
      have hless := nxS_less s1 hK
      rw [nxA_yes s1 p1 hK, nxP_yes s1 p1 hK] at HN
      have hm0 : nxM gs wr = s1.size := nxM_of (SP.cells HI.out.1).1
      have hbx := nx_len s1 hK
      generalize nxF s1 = x at *
      generalize p1 + nxI s1 = q at *
      generalize nxS s1 = s2 at *
      have HRUN := Aside0.mk hrun
      clear hrun hbx
      refine HN.mono ?_
      clear HN k0
      rintro e_ w3 ⟨rfl, hS3, ha3⟩
      obtain ⟨hS, hB, hB4, hL, hKp⟩ := HI.out
      have hne : gs ≠ gh := hgn
      have H3 : Aside0 (HrI w w3 lo gs gh (gh + 1) s2 0 (.slice AF fz.length cF) (.slice AP pz.length cP) fz pz) := ⟨⟨hS3, (ha3.2 gh (blk_lt hB) (Ne.symm hgn)).trans hB, (ha3.2 (gh + 1) (blk_lt hB4) (Ne.symm hn4)).trans hB4, hL.amid hS (by decide) (by decide) ha3, hKp.amid ha3⟩⟩
      clear hS3 ha3 hS hB hB4 hL hKp HI
      have H4 := Aside0.mk (H3.out.below ((Below.refl w3.heap.size w3).alloc (Nat.le_refl _) (.cells #[.int .u8 x.a, .int .u8 x.b, .int .u8 x.c, .int .u16 x.d, .int .u32 x.e, .int .u64 x.t, .int .u32 x.g, .bool x.h, .string x.s] 28)))
      have hX := W_push w3 #[.int .u8 x.a, .int .u8 x.b, .int .u8 x.c, .int .u16 x.d, .int .u32 x.e, .int .u64 x.t, .int .u32 x.g, .bool x.h, .string x.s] 28 (0, 0)
      clear H3
      go_upto_region 5 with (fail)
      generalize w3.alloc (.cells #[.int .u8 x.a, .int .u8 x.b, .int .u8 x.c, .int .u16 x.d, .int .u32 x.e, .int .u64 x.t, .int .u32 x.g, .bool x.h, .string x.s] 28) = w4 at H4 hX ⊢
      generalize w3.heap.size = gb at hX ⊢
      have qk0 : w4.cell? ⟨gb, 0, none⟩ = some (.int .u8 x.a) := (blk_cell hX 0).trans rfl
      have qk1 : w4.cell? ⟨gb, 1, none⟩ = some (.int .u8 x.b) := (blk_cell hX 1).trans rfl
      have qk2 : w4.cell? ⟨gb, 2, none⟩ = some (.int .u8 x.c) := (blk_cell hX 2).trans rfl
      have qk3 : w4.cell? ⟨gb, 3, none⟩ = some (.int .u16 x.d) := (blk_cell hX 3).trans rfl
      have qk4 : w4.cell? ⟨gb, 4, none⟩ = some (.int .u32 x.e) := (blk_cell hX 4).trans rfl
      have qk5 : w4.cell? ⟨gb, 5, none⟩ = some (.int .u64 x.t) := (blk_cell hX 5).trans rfl
      have qk6 : w4.cell? ⟨gb, 6, none⟩ = some (.int .u32 x.g) := (blk_cell hX 6).trans rfl
      have qk7 : w4.cell? ⟨gb, 7, none⟩ = some (.bool x.h) := (blk_cell hX 7).trans rfl
      have qk8 : w4.cell? ⟨gb, 8, none⟩ = some (.string x.s) := (blk_cell hX 8).trans rfl
      have k0 : w4.cell? ⟨gh, 0, none⟩ = some (.slice AF fz.length cF) := (blk_cell H4.out.2.1 0).trans rfl
      have k1 : w4.cell? ⟨gh, 1, none⟩ = some (.slice AP pz.length cP) := (blk_cell H4.out.2.1 1).trans rfl
      have j0 := blk_frozen H4.out.2.1 0
      have j1 := blk_frozen H4.out.2.1 1
      have hlw : lo ≤ w4.heap.size := Nat.le_trans hgh (Nat.le_of_lt (blk_lt H4.out.2.1))
      have HFr : Aside0 (∀ k, w4.heap.size ≤ k → lo ≤ k) := ⟨fun k hk => Nat.le_trans hlw hk⟩
      have B4 : Aside0 (Below 0 w w4) := ⟨H4.out.2.2.2.2.1⟩
      have L4 := Aside0.mk H4.out.2.2.2.1.1
      obtain ⟨f5, hf5⟩ : ∃ f5, f5 = fz ++ [x] := ⟨_, rfl⟩
      have HL5 := Aside0.mk hf5
      clear hf5
      go_upto_region 6 with (first | ((with_reducible refine gate_builtin (b := .append) (xs := #[.tmp 22, .tmp 24]) rfl ?_); (try (refine gate_guard (by rfl) ?_; dsimp only)); at_builtin; refine Kd.R_append kHt (w0 := w) 0 rfl (.tmp 22) (.tmp 24) 55 28 (.agg #[.int .u8 0, .int .u8 0, .int .u8 0, .int .u16 0, .int .u32 0, .int .u64 0, .int .u32 0, .bool false, .string ⟨#[]⟩]) 48 rfl Try.underlying55 infoFr rfl (by decide) (by omega) (.slice AF fz.length cF) fz x x.cells (fun k => lo ≤ k) (fun _ => False) rfl rfl ?aP (fun _ hk => hk.elim) ?aF ?aO ?aB ?aS ?aL ?_; (case aP => exact rfl); (case aB => exact B4.out); (case aF => exact HFr.out); (case aO => exact L4.out); (case aS => exact Nat.zero_le _); (case aL => omega); intro v5 w5 ho5 hb5 hg5 hat5; rw [← HL5.out] at ho5; obtain ⟨A5, c5, e5⟩ := Kd.R_slice ho5; subst e5; have fr5 : w5.frozen? ⟨gh, 0, none⟩ = false := blk_frozen (blk_grown H4.out.2.1 hg5 (Kd.R_ne L4.out H4.out.2.1 (by decide))) 0; have cl5 : w5.cell? ⟨gh, 0, none⟩ = some (.slice AF fz.length cF) := (blk_cell (blk_grown H4.out.2.1 hg5 (Kd.R_ne L4.out H4.out.2.1 (by decide))) 0).trans rfl))
      obtain ⟨hS4, hB4, hC4, hL4, hK4⟩ := H4.out
      have hS5 : SP w5 gs s2 0 := blk_grown hS4 hg5 (Kd.R_ne hL4.1 hS4 (by decide))
      have hB5 := blk_grown hB4 hg5 (Kd.R_ne hL4.1 hB4 (by decide))
      have hC5 := blk_grown hC4 hg5 (Kd.R_ne hL4.1 hC4 (by decide))
      have hP5 := Kd.R_over hL4.2 hL4.1 (fun q hq => by
        have : q = 3 := by simpa [Kd.int, Kd.scalar] using hq
        rw [this]; decide) hg5
      have hK5 := hK4.grown hb5 hg5 hL4.1.1
      have HR5 : HrL (w5.setCell ⟨gh, 0, none⟩ (.slice A5 f5.length c5)) lo (.slice A5 f5.length c5) (.slice AP pz.length cP) f5 pz := HrL.set ⟨ho5, hP5⟩ hB5 (by decide) (by decide) 0 (.slice A5 f5.length c5)
      have S5 : Aside0 (SP (w5.setCell ⟨gh, 0, none⟩ (.slice A5 f5.length c5)) gs s2 0) := ⟨SP.far hS5 hgn (.slice A5 f5.length c5)⟩
      have B5p : Aside0 ((w5.setCell ⟨gh, 0, none⟩ (.slice A5 f5.length c5)).heap[gh]? = _) := ⟨blk_set hB5 0 (.slice A5 f5.length c5)⟩
      have C5 : Aside0 ((w5.setCell ⟨gh, 0, none⟩ (.slice A5 f5.length c5)).heap[gh + 1]? = _) := ⟨blk_far hC5 (p := ⟨gh, 0, none⟩) (Ne.symm hn5) (.slice A5 f5.length c5)⟩
      have K5 : Aside0 (Keeps w (w5.setCell ⟨gh, 0, none⟩ (.slice A5 f5.length c5)) lo gs) := ⟨hK5.set hgh 0 (.slice A5 f5.length c5)⟩
      have B5 : Aside0 (Below 0 w (w5.setCell ⟨gh, 0, none⟩ (.slice A5 f5.length c5))) := ⟨K5.out.1⟩
      have M5 := Aside0.mk HR5.1
      have L5 := Aside0.mk HR5.2
      clear ho5 hb5 hg5 hat5 hP5 hS5 hB5 hC5 hK5 HR5 hS4 hB4 hC4 hL4 hK4 H4 hX L4 B4 k0 k1 j0 j1 hlw qk0 qk1 qk2 qk3 qk4 qk5 qk6 qk7 qk8
      generalize (w5.setCell ⟨gh, 0, none⟩ (.slice A5 f5.length c5)) = w7 at S5 B5p C5 K5 B5 M5 L5 ⊢
      have hlw5 : lo ≤ w7.heap.size := Nat.le_trans hgh (Nat.le_of_lt (blk_lt B5p.out))
      replace HFr : Aside0 (∀ k, w7.heap.size ≤ k → lo ≤ k) := ⟨fun k hk => Nat.le_trans hlw5 hk⟩
      have m1 : w7.cell? ⟨gh, 1, none⟩ = some (.slice AP pz.length cP) := (blk_cell B5p.out 1).trans rfl
      obtain ⟨p6, hp6⟩ : ∃ p6, p6 = pz ++ [(q : Int)] := ⟨_, rfl⟩
      have HL6 := Aside0.mk hp6
      clear hp6
      go_wp2_with (first | ((with_reducible refine gate_builtin (b := .append) (xs := #[.tmp 28, .tmp 30]) rfl ?_); (try (refine gate_guard (by rfl) ?_; dsimp only)); at_builtin; refine Kd.R_append (Kd.int .i64) (w0 := w) 0 rfl (.tmp 28) (.tmp 30) 53 3 (.int .i64 0) 8 rfl Try.underlying53 infoI rfl (by decide) (by omega) (.slice AP pz.length cP) pz (q : Int) [.int .i64 (q : Int)] (fun k => lo ≤ k) (fun _ => False) rfl rfl ?aP (fun _ hk => hk.elim) ?aF ?aO ?aB ?aS ?aL ?_; (case aP => exact rfl); (case aB => exact B5.out); (case aF => exact HFr.out); (case aO => exact L5.out); (case aS => exact Nat.zero_le _); (case aL => omega); intro v6 w6 ho6 hb6 hg6 hat6; rw [← HL6.out] at ho6; obtain ⟨A6, c6, e6⟩ := Kd.R_slice ho6; subst e6; have n1 : w6.frozen? ⟨gh, 1, none⟩ = false := blk_frozen (blk_grown B5p.out hg6 (Kd.R_ne L5.out B5p.out (by decide))) 1; have cl6 : w6.cell? ⟨gh, 1, none⟩ = some (.slice AP pz.length cP) := (blk_cell (blk_grown B5p.out hg6 (Kd.R_ne L5.out B5p.out (by decide))) 1).trans rfl))
      have hS6 := blk_grown S5.out hg6 (Kd.R_ne L5.out S5.out (by decide))
      have hB6 := blk_grown B5p.out hg6 (Kd.R_ne L5.out B5p.out (by decide))
      have hC6 := blk_grown C5.out hg6 (Kd.R_ne L5.out C5.out (by decide))
      have hF6 := Kd.R_over M5.out L5.out (fun q hq => by
        have : q = 28 := by simpa [kHt, kflat] using hq
        rw [this]; decide) hg6
      have hK6 := K5.out.grown hb6 hg6 L5.out.1
      have HI7 : Aside0 (HrI w (w6.setCell ⟨gh, 1, none⟩ (.slice A6 p6.length c6)) lo gs gh (gh + 1) s2 0 (.slice A5 f5.length c5) (.slice A6 p6.length c6) f5 p6) := ⟨⟨SP.far hS6 hgn (.slice A6 p6.length c6), blk_set hB6 1 (.slice A6 p6.length c6), blk_far hC6 (p := ⟨gh, 1, none⟩) (Ne.symm hn5) (.slice A6 p6.length c6), HrL.set ⟨hF6, ho6⟩ hB6 (by decide) (by decide) 1 (.slice A6 p6.length c6), hK6.set hgh 1 (.slice A6 p6.length c6)⟩⟩
      clear ho6 hb6 hg6 hat6 hS6 hB6 hC6 hF6 hK6 S5 B5p C5 K5 B5 M5 L5
      go_wp2_with fail
      go_roundw
      case rel => exact ⟨s2, 0, (.slice A5 f5.length c5), (.slice A6 p6.length c6), f5, p6, HI7, ⟨by
        rw [HQ.out.1, HL5.out, List.append_assoc]
        unfold runF
        rw [HRUN.out]
        rfl, by
        rw [HQ.out.2.1, HL6.out, List.append_assoc]
        unfold runP
        rw [HRUN.out]
        rfl, by rw [HQ.out.2.2, HRUN.out]⟩, by rw [HL5.out, List.length_append]; show (fz.length + 1) * 34 + s2.size ≤ 50000; omega, by rw [HL6.out, List.length_append]; show (pz.length + 1) * 34 + s2.size ≤ 50000; omega, by omega⟩
      case measure => rw [nxM_of (SP.cells HI7.out.1).1, hm0]; omega
    · have hrun := run_no s1 p1 hK
      rw [nxA_no s1 p1 hK] at HN
      have HRUN := Aside0.mk hrun
      clear hrun
      generalize nxS s1 = s2 at *
      generalize nxP s1 p1 = p2 at *
      refine HN.mono ?_
      clear HN k0
      unfold zeroF
      rintro e_ w3 ⟨rfl, hS3, ha3⟩
      obtain ⟨hS, hB, hB4, hL, hKp⟩ := HI.out
      have H3 : Aside0 (HrI w w3 lo gs gh (gh + 1) s2 p2 (.slice AF fz.length cF) (.slice AP pz.length cP) fz pz) := ⟨⟨hS3, (ha3.2 gh (blk_lt hB) (Ne.symm hgn)).trans hB, (ha3.2 (gh + 1) (blk_lt hB4) (Ne.symm hn4)).trans hB4, hL.amid hS (by decide) (by decide) ha3, hKp.amid ha3⟩⟩
      clear hS3 ha3 hS hB hB4 hL hKp HI
      have H4 := Aside0.mk (H3.out.below ((Below.refl w3.heap.size w3).alloc (Nat.le_refl _) (.cells #[.int .u8 0, .int .u8 0, .int .u8 0, .int .u16 0, .int .u32 0, .int .u64 0, .int .u32 0, .bool false, .string ⟨#[]⟩] 28)))
      clear H3
      have k0 : (w3.alloc (.cells #[.int .u8 0, .int .u8 0, .int .u8 0, .int .u16 0, .int .u32 0, .int .u64 0, .int .u32 0, .bool false, .string ⟨#[]⟩] 28)).cell? ⟨gh, 0, none⟩ = some (.slice AF fz.length cF) := (blk_cell H4.out.2.1 0).trans rfl
      have k1 : (w3.alloc (.cells #[.int .u8 0, .int .u8 0, .int .u8 0, .int .u16 0, .int .u32 0, .int .u64 0, .int .u32 0, .bool false, .string ⟨#[]⟩] 28)).cell? ⟨gh, 1, none⟩ = some (.slice AP pz.length cP) := (blk_cell H4.out.2.1 1).trans rfl
      have z0 : (w3.alloc (.cells #[.int .u8 0, .int .u8 0, .int .u8 0, .int .u16 0, .int .u32 0, .int .u64 0, .int .u32 0, .bool false, .string ⟨#[]⟩] 28)).cell? ⟨gh + 1, 0, none⟩ = some (.slice none 0 0) := (blk_cell H4.out.2.2.1 0).trans rfl
      have z1 : (w3.alloc (.cells #[.int .u8 0, .int .u8 0, .int .u8 0, .int .u16 0, .int .u32 0, .int .u64 0, .int .u32 0, .bool false, .string ⟨#[]⟩] 28)).cell? ⟨gh + 1, 1, none⟩ = some (.slice none 0 0) := (blk_cell H4.out.2.2.1 1).trans rfl
      have y0 := blk_frozen H4.out.2.2.1 0
      have y1 := blk_frozen H4.out.2.2.1 1
      go_wp2_with fail
      try simp only [Exit.jump]
      clear k0 k1 z0 z1 y0 y1
      generalize w3.alloc (.cells #[.int .u8 0, .int .u8 0, .int .u8 0, .int .u16 0, .int .u32 0, .int .u64 0, .int .u32 0, .bool false, .string ⟨#[]⟩] 28) = w4 at H4 ⊢
      have hC9 : ((w4.setCell ⟨gh + 1, 0, none⟩ (.slice AF fz.length cF)).setCell ⟨gh + 1, 1, none⟩ (.slice AP pz.length cP)).heap[gh + 1]? = _ := blk_set (blk_set H4.out.2.2.1 0 (.slice AF fz.length cF)) 1 (.slice AP pz.length cP)
      have hS9 : SP ((w4.setCell ⟨gh + 1, 0, none⟩ (.slice AF fz.length cF)).setCell ⟨gh + 1, 1, none⟩ (.slice AP pz.length cP)) gs s2 p2 := SP.far (SP.far H4.out.1 hn4 (.slice AF fz.length cF)) hn4 (.slice AP pz.length cP)
      have hL9 : HrL ((w4.setCell ⟨gh + 1, 0, none⟩ (.slice AF fz.length cF)).setCell ⟨gh + 1, 1, none⟩ (.slice AP pz.length cP)) lo (.slice AF fz.length cF) (.slice AP pz.length cP) fz pz := (H4.out.2.2.2.1.set H4.out.2.2.1 (by decide) (by decide) 0 (.slice AF fz.length cF)).set (blk_set H4.out.2.2.1 0 (.slice AF fz.length cF)) (by decide) (by decide) 1 (.slice AP pz.length cP)
      have hK9 : Keeps w ((w4.setCell ⟨gh + 1, 0, none⟩ (.slice AF fz.length cF)).setCell ⟨gh + 1, 1, none⟩ (.slice AP pz.length cP)) lo gs := (H4.out.2.2.2.2.set hg4 0 (.slice AF fz.length cF)).set hg4 1 (.slice AP pz.length cP)
      generalize ((w4.setCell ⟨gh + 1, 0, none⟩ (.slice AF fz.length cF)).setCell ⟨gh + 1, 1, none⟩ (.slice AP pz.length cP)) = w9 at hC9 hS9 hL9 hK9 ⊢
      have q0 : w9.cell? ⟨gh + 1, 0, none⟩ = some (.slice AF fz.length cF) := (blk_cell hC9 0).trans rfl
      have q1 : w9.cell? ⟨gh + 1, 1, none⟩ = some (.slice AP pz.length cP) := (blk_cell hC9 1).trans rfl
      refine bodyPost_ret (v := .agg #[(.slice AF fz.length cF), (.slice AP pz.length cP)]) (by simp [results, Try.results22, go_sem, q0, q1]) rfl ⟨_, _, rfl, ?_, ?_, hK9⟩
      · rw [HQ.out.2.2, HRUN.out]
        exact hS9
      · have e1 : runF s1 p1 = [] := by unfold runF; rw [HRUN.out]; rfl
        have e2 : runP s1 p1 = [] := by unfold runP; rw [HRUN.out]; rfl
        rw [HQ.out.1, HQ.out.2.1, e1, e2, List.append_nil, List.append_nil]
        exact hL9
end Go.Proofs.Ytgboppgghidgbaa.My
