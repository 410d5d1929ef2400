/- Crash. -/
import Derived.Test.YtjaalegkmldaeaaDkY
namespace Go.Proofs.Ytjaalegkmldaeaa.My
open Go.RowKit Go.Proofs.YtjaalegkmldaeaaW.PrintWords Go.Proofs.YtjaalegkmldaeaaW.PrintLast Go.Proofs.YtjaalegkmldaeaaW.PrintMore Go.Proofs.Ytjaalegkmldaeaa Go.Maps
set_option linter.unusedSimpArgs false
set_option linter.unusedVariables false
set_option maxRecDepth 100000
set_option maxHeartbeats 1600000
theorem over_size (n : Nat) (s t : ByteArray) (hs : s.size = 1024) (ht : t.size = 1024) (hn : n ≤ 1024) : (over n s t).size = 1024 := (pg_over n s t hs ht hn).1
theorem pgs_over (l : List ByteArray) (h : PgOk l) (i : Nat) (hi : i < l.length) (s : ByteArray) (hs : s.size = 1024) (n : Nat) (hn : n ≤ 1024) :
    (pgs l).take (1024 * i) ++ (pg s).take n ++ (pgs l).drop (1024 * i + n) = pgs (l.set i (over n s (l.getD i ⟨#[]⟩))) := by
  have hx : l.getD i ⟨#[]⟩ = l[i] := by rw [List.getD_eq_getElem?_getD, List.getElem?_eq_getElem hi]; rfl
  have hxs : l[i].size = 1024 := h _ (List.getElem_mem hi)
  obtain ⟨e1, e2, e3⟩ := pgs_cut l h i hi
  have lt : (pgs (l.take i)).length = 1024 * i := by
    rw [pgs_len _ (fun x hx => h x (List.mem_of_mem_take hx)), List.length_take]
    omega
  have e4 : (pgs l).drop (1024 * i + n) = (pg l[i]).drop n ++ pgs (l.drop (i + 1)) := by
    rw [e3, List.append_assoc, ← List.drop_drop, List.drop_left' lt, List.drop_append_of_le_length (by rw [pg_len, hxs]; exact hn)]
  rw [hx, ← pgs_set l h i hi, (pg_over n s l[i] hs hxs hn).2, e4, e2]
  simp only [List.append_assoc]
theorem crashL_len (keep : List Bool) (torn cut : Int) : ∀ (p : List (Nat × ByteArray)) (i : Nat) (l : List ByteArray), (crashL keep torn cut i l p).length = l.length
  | [], _, _ => rfl
  | x :: t, i, l => by
    show (crashL keep torn cut (i + 1) (l.set x.1 _) t).length = _
    rw [crashL_len keep torn cut t, List.length_set]
theorem fateV_le (keep : List Bool) (torn cut : Int) (i : Nat) : fateV keep torn cut i ≤ 1024 := by
  unfold fateV
  split
  · omega
  · split <;> omega
theorem pgOk_set {l : List ByteArray} (h : PgOk l) (i : Nat) (s : ByteArray) (hs : s.size = 1024) : PgOk (l.set i s) := by
  intro x hx
  rcases List.mem_or_eq_of_mem_set hx with hx | rfl
  · exact h x hx
  · exact hs
theorem add0 (b k : Nat) : (⟨b, 0, none⟩ : Addr).add k = ⟨b, k, none⟩ := by
  unfold Addr.add
  split
  · rename_i h; rw [h]
  · rw [Nat.zero_add]
theorem Lies.pv_at {w : World} {own : Nat → Prop} {g L M : Nat} {A : Option Addr} {n c : Nat} {ps : List Nat} {lf : Int} {D : DataW Unit} {d : Dk} (h : Lies w own g L M (.slice A n c) ps lf D d) (hp : 0 < d.pend.length) : ∃ gp, A = some ⟨gp, 0, none⟩ := by
  obtain ⟨_, inner, ⟨_, ho⟩, _⟩ := h.hr
  rw [List.length_zip, List.length_map, h.len, Nat.min_self] at ho
  rcases ho with ⟨_, e⟩ | ⟨gp, cap, cur, e, _⟩
  · omega
  · injection e with e
    exact ⟨gp, e⟩
/-- In the midst of a round: what page L holds, where the write at hand lies. -/
def Mid (w0 W : World) (L : Nat) (l : List ByteArray) (gw n P : Nat) : Prop :=
  W.heap[L]? = some (.cells (pgs l).toArray 74 (0, 0)) ∧ (∀ k, k < w0.heap.size → k ≠ L → W.heap[k]? = w0.heap[k]?) ∧ W.heap[gw]? = some (.cells #[.int .i64 (n : Int), .pointer (some ⟨P, 0, none⟩)] 76 (0, 0)) ∧ w0.heap.size ≤ gw ∧ w0.heap.size ≤ W.heap.size ∧ Below 0 w0 W
theorem copy_over (W : World) (L P n nn : Nat) (l : List ByteArray) (s : ByteArray) (hPS : PgOk l) (hn : n < l.length) (hs : s.size = 1024) (hnn : nn ≤ 1024) (hL : W.heap[L]? = some (.cells (pgs l).toArray 74 (0, 0))) (hP : W.heap[P]? = some (.cells (pg s).toArray 74 (0, 0))) (ty : TypeId) :
    (Builtin.copy_ #[34, 34] ty #[.slice (some ⟨L, n * 1024, none⟩) 1024 1024, .slice (some ⟨P, 0, none⟩) nn 1024]).run Try.prog W = .ok (.int .i64 (nn : Int)) (W.setRow L (pgs (l.set n (over nn s (l.getD n ⟨#[]⟩)))).toArray) := by
  have hl : ((pg s).take nn).length = nn := by rw [List.length_take, pg_len, hs]; omega
  have h := run_copy_row (P := Try.prog) W 34 34 ty 5 L (n * 1024) 1024 1024 ⟨P, 0, none⟩ nn 1024 (pgs l).toArray 74 ((pg s).take nn) Try.underlying34 infoU8' hL (by rw [hl]; exact (Nat.min_eq_left hnn).symm) (fun j v hj => by
    have hj' : (pg s)[j]? = some v := by
      rw [List.getElem?_take] at hj
      split at hj
      · exact hj
      · cases hj
    rw [add0]
    have := rangeAt_pg hP j v hj'
    rw [Nat.zero_add] at this
    exact this) (by rw [hl]; show n * 1024 + nn ≤ (pgs l).length; rw [pgs_len l hPS]; omega) (fun v hv => pg_one s v (List.mem_of_mem_take hv))
  rw [hl] at h
  have e : ((pgs l).toArray.toList.take (n * 1024) ++ (pg s).take nn ++ (pgs l).toArray.toList.drop (n * 1024 + nn)).toArray = (pgs (l.set n (over nn s (l.getD n ⟨#[]⟩)))).toArray := by
    rw [← pgs_over l hPS n hn s hs nn hnn, Nat.mul_comm n 1024]
  rw [e] at h
  exact h
theorem Mid.drew {w0 W : World} {L : Nat} {l : List ByteArray} {gw n P : Nat} (h : Mid w0 W L l gw n P) : Mid w0 W.drew L l gw n P := ⟨h.1, h.2.1, h.2.2.1, h.2.2.2.1, h.2.2.2.2.1, h.2.2.2.2.2.drew⟩
theorem Mid.copied {w0 W : World} {L : Nat} {l l' : List ByteArray} {gw n P : Nat} (h : Mid w0 W L l gw n P) (hL0 : L < w0.heap.size) : Mid w0 (W.setRow L (pgs l').toArray) L l' gw n P := by
  obtain ⟨h1, h2, h3, h4, h5, h6⟩ := h
  refine ⟨setRow_heap _ _ _ _ _ _ h1, fun k hk hkL => (setRow_other W L k _ hkL).trans (h2 k hk hkL), (setRow_other W L gw _ (by omega)).trans h3, h4, by rw [setRow_size]; exact h5, ⟨h6.os, h6.tape, h6.output, by rw [setRow_size]; exact h6.size, fun k hk => absurd hk (Nat.not_lt_zero k)⟩⟩
/-- A write of which nothing lands. -/
theorem same_pages (l : List ByteArray) (h : PgOk l) (n : Nat) (hn : n < l.length) (s : ByteArray) (hs : s.size = 1024) (nn : Nat) (h0 : nn = 0) {w0 W : World} {L gw m P : Nat} : Mid w0 W L l gw m P = Mid w0 W L (l.set n (over nn s (l.getD n ⟨#[]⟩))) gw m P := by
  subst h0
  have e := pgs_over l h n hn s hs 0 (Nat.zero_le _)
  rw [List.take_zero, List.append_nil, Nat.add_zero, List.take_append_drop] at e
  unfold Mid
  rw [← e]
def mzD (n : Nat) (v : Value) : Nat := match v with
  | .int .i64 i => n - i.toNat
  | _ => 0
theorem mzD_step {n i : Nat} (h : i < n) : mzD n (.int .i64 ((i + 1 : Nat) : Int)) < mzD n (.int .i64 (i : Int)) := by
  unfold mzD
  simp only [Int.toNat_natCast]
  omega
theorem run_slice_to {P : Program} (w : World) (t e : TypeId) (b : Nat) (n c : Nat) (hu : P.underlying t = some (.array c e)) (hs : ((P.info? e).map (·.size)).isSome = true) (hn : n ≤ c) :
    (Instr.sliceAt t (.pointer (some ⟨b, 0, none⟩)) none (some (.int .i64 (n : Int))) none).run P w = .ok (.slice (some ⟨b, 0, none⟩) n c) w := by
  cases hq : P.info? e with
  | none => simp [hq] at hs
  | some i =>
    have h1 : (0 : Int) ≤ (n : Int) ∧ (n : Int) ≤ (c : Int) := by omega
    simp [Instr.sliceAt, Instr.sliceBounds, Instr.sliceBound, Sem.run_bind, run_underlying hu, asAddr, asIntOf, sizeOf, typeInfo, hq, h1, Addr.add, Instr.sureAddr, hn]
theorem crash_calls (w : World) (own : Nat → Prop) (g : Nat) (d : Dk) (hd : DiskAt w own g d) (K : Option Addr) (kc : Nat) (keep : List Bool) (torn cut : Int) (hK : ∀ w', Kept w w' own → Kd.C Kd.bool w' K keep.length keep) (hkc : keep.length ≤ kc) :
    Calls Try.prog 15 #[.pointer (some ⟨g, 0, none⟩), .agg #[.slice K keep.length kc, .int .i64 torn, .int .i64 cut]] w fun e w' => e = .returned (.tuple #[]) ∧ Turned own w w' g (crashV d keep torn cut) := by
  obtain ⟨L, M, pv, ps, lf, D, h⟩ := hd
  obtain ⟨A, c, rfl⟩ := h.pv_slice
  obtain ⟨w0, hw0⟩ : ∃ W, W = w.alloc (.cells #[.slice K keep.length kc, .int .i64 torn, .int .i64 cut] 30) := ⟨_, rfl⟩
  have hb0 : Below w.heap.size w w0 := by rw [hw0]; exact (Below.refl _ _).alloc (Nat.le_refl _) _
  have hf0 : w0.heap[w.heap.size]? = some (.cells #[.slice K keep.length kc, .int .i64 torn, .int .i64 cut] 30 (0, 0)) := by rw [hw0]; exact blk_new _ _
  have hs0 : w0.heap.size = w.heap.size + 1 := by rw [hw0]; show (w.heap.push _).size = _; rw [Array.size_push]
  have h1 := h.keep (Kept.of_below hb0 (fun _ => False)) (fun _ _ hk => hk)
  have c1 : w0.cell? ⟨g, 1, none⟩ = some (.slice A d.pend.length c) := (blk_cell h1.hg 1).trans rfl
  rw [hw0] at c1
  have HOW := Aside0.mk h.lt
  have H := Aside0.mk h1
  have HK := Aside0.mk hK
  have HF := Aside0.mk hf0
  have HB0 := Aside0.mk hb0
  have HS0 := Aside0.mk hs0
  clear h h1 hK hf0 hb0 hs0
  go_enter Try.func15, Try.ntmps15
  go_wp2_with fail
  rw [← hw0]
  clear hw0 c1
  obtain ⟨gf, hgf⟩ : ∃ k, k = w.heap.size := ⟨_, rfl⟩
  rw [← hgf] at HF HOW HS0 ⊢
  have HGF := Aside0.mk hgf
  clear hgf

  go_loopw [4, 5, 6, 14] (fun _ _ _ v14 wr => ∃ (i : Nat) (l : List ByteArray), v14 = .int .i64 (i : Int) ∧ i ≤ d.pend.length ∧ crashL keep torn cut i l (d.pend.drop i) = crashL keep torn cut 0 d.lies d.pend ∧ PgOk l ∧ l.length = d.lies.length ∧ wr.heap[L]? = some (.cells (pgs l).toArray 74 (0, 0)) ∧ (∀ k, k < w0.heap.size → k ≠ L → wr.heap[k]? = w0.heap[k]?) ∧ w0.heap.size ≤ wr.heap.size ∧ Below 0 w0 wr)
    (fun _ _ _ v14 wr => mzD d.pend.length v14)
  case atStart => exact ⟨0, d.lies, rfl, Nat.zero_le _, rfl, H.out.ok.size, rfl, H.out.hL, fun _ _ _ => rfl, Nat.le_refl _, Below.refl _ _⟩
  case round =>
    obtain ⟨i, l, rfl, hil, hT, hPS, hlen, hLr, hkr, hsz, hb⟩ := hrel
    have HT := Aside0.mk hT
    have HPS := Aside0.mk hPS
    have HLEN := Aside0.mk hlen
    have HLR := Aside0.mk hLr
    have HKR := Aside0.mk hkr
    have HSZ := Aside0.mk hsz
    have HBR := Aside0.mk hb
    clear hT hPS hlen hLr hkr hsz hb
    have hgL : g ≠ L := fun e => by
      have h1 := H.out.hg
      rw [e, H.out.hL] at h1
      injection h1 with h1
      injection h1 with _ h1 _
      exact absurd h1 (by decide)
    have HGL := Aside0.mk hgL
    clear hgL
    by_cases hi : i < d.pend.length
    · have d1 : ((i : Nat) : Int) < (d.pend.length : Int) := by omega
      have d2 : decide (((i : Nat) : Int) < (d.pend.length : Int)) = true := decide_eq_true d1
      have hkp : i < ps.length := by rw [H.out.len]; exact hi
      have hrow : Kd.C kW wr A d.pend.length (List.zip (d.pend.map (·.1)) ps) := by
        have h1 := Kd.R_step (w1 := wr) (Kd.R_types H.out.hr H.out.hL (by simp [kW])) (fun k hk hlt => HKR.out k hlt hk.2)
        have h2 := (Kd.R_reads' h1).2.2
        rw [List.length_zip, List.length_map, H.out.len, Nat.min_self] at h2
        exact h2
      obtain ⟨gp, hgp⟩ := H.out.pv_at (by omega)
      subst hgp
      obtain ⟨ad, cs, hA, _, hcs, hx⟩ := Kd.C_get hrow (0, 0) (i : Int) (by omega) d1
      obtain rfl := Option.some.inj hA
      rw [Int.toNat_natCast] at hcs hx
      have hz : (List.zip (d.pend.map (·.1)) ps).getD i (0, 0) = (d.pend[i].1, ps[i]) := by
        rw [List.getD_eq_getElem?_getD, List.getElem?_eq_getElem (by rw [List.length_zip, List.length_map]; omega)]
        simp
      rw [hz] at hcs
      obtain ⟨P, hPe⟩ : ∃ P, P = ps[i] := ⟨_, rfl⟩
      obtain ⟨n, hne⟩ : ∃ n, n = d.pend[i].1 := ⟨_, rfl⟩
      obtain ⟨s, hse⟩ : ∃ s, s = d.pend[i].2 := ⟨_, rfl⟩
      rw [← hPe, ← hne] at hcs
      have hcs' : cs = [.int .i64 (n : Int), .pointer (some ⟨P, 0, none⟩)] := hcs
      subst hcs'
      have x0 : wr.cell? ⟨gp, i * 2, none⟩ = some (.int .i64 (n : Int)) := (congrArg wr.cell? (add0 gp (i * 2)).symm).trans (hx 0 _ rfl)
      have x1 : wr.cell? ⟨gp, i * 2 + 1, none⟩ = some (.pointer (some ⟨P, 0, none⟩)) := (congrArg wr.cell? (add0 gp (i * 2 + 1)).symm).trans (hx 1 _ rfl)
      clear hA hrow hx hz hcs
      have hok := H.out.ok
      have hp := hok.pend _ (List.getElem_mem hi)
      have HN := Aside0.mk (show n < d.lies.length ∧ s.size = 1024 by rw [hne, hse]; exact hp)
      have HP : Aside0 (w0.heap[P]? = some (.cells (pg s).toArray 74 (0, 0)) ∧ P ≠ L ∧ P < w0.heap.size) := ⟨by
        rw [hPe, hse]
        exact ⟨H.out.hP i hkp hi, (H.out.oP _ (List.getElem_mem hkp)).2, H.out.lt _ (H.out.oP _ (List.getElem_mem hkp)).1⟩⟩
      have HI := Aside0.mk (And.intro hi (And.intro hne hse))
      clear hp hok hPe hne hse hkp
      go_wp2_with fail
      obtain ⟨gw, hgw⟩ : ∃ k, k = wr.heap.size := ⟨_, rfl⟩
      have HM : Aside0 (Mid w0 (wr.alloc (.cells #[.int .i64 (n : Int), .pointer (some ⟨P, 0, none⟩)] 76)) L l gw n P) := ⟨by
        rw [hgw]
        refine ⟨blk_alloc HLR.out _, fun k hk hkL => (Below.heap_alloc wr _ k (Nat.lt_of_lt_of_le hk HSZ.out)).trans (HKR.out k hk hkL), blk_new _ _, HSZ.out, ?_, HBR.out.trans (below0 ((Below.refl wr.heap.size wr).alloc (Nat.le_refl _) _))⟩
        exact Nat.le_trans HSZ.out ((Below.refl wr.heap.size wr).alloc (Nat.le_refl _) _).size⟩
      rw [← hgw]
      clear hgw x0 x1
      generalize wr.alloc (.cells #[.int .i64 (n : Int), .pointer (some ⟨P, 0, none⟩)] 76) = w2 at *
      have HL0 := Aside0.mk (H.out.lt L H.out.oL)
      have HG0 := Aside0.mk (H.out.lt g H.out.og)
      have HGF0 : Aside0 (gf < w0.heap.size) := ⟨by rw [HS0.out]; exact Nat.lt_succ_self _⟩
      have HGFL : Aside0 (gf ≠ L) := ⟨fun e => by have := HOW.out L H.out.oL; omega⟩
      have HGWL : Aside0 (gw ≠ L) := ⟨fun e => by have := HM.out.2.2.2.1; have := HL0.out; omega⟩
      obtain ⟨nn, hnn⟩ : ∃ k, k = fateV keep torn cut i := ⟨_, rfl⟩
      have HNN : Aside0 (nn ≤ 1024) := ⟨by rw [hnn]; exact fateV_le _ _ _ _⟩
      have HNE := Aside0.mk hnn
      clear hnn
      have HOV : Aside0 ((over nn s (l.getD n ⟨#[]⟩)).size = 1024) := ⟨over_size nn s _ HN.out.2 (by
        have hl : n < l.length := by rw [HLEN.out]; exact HN.out.1
        rw [List.getD_eq_getElem?_getD, List.getElem?_eq_getElem hl]
        exact HPS.out _ (List.getElem_mem hl)) HNN.out⟩
      have HT2 : Aside0 (crashL keep torn cut (i + 1) (l.set n (over nn s (l.getD n ⟨#[]⟩))) (d.pend.drop (i + 1)) = crashL keep torn cut 0 d.lies d.pend) := ⟨by
        have h1 := HT.out
        rw [List.drop_eq_getElem_cons HI.out.1] at h1
        rw [HNE.out, HI.out.2.1, HI.out.2.2]
        exact h1⟩
      have hw1 : wrap64 ((i : Int) + 1) = ((i + 1 : Nat) : Int) := by unfold wrap64; have := HI.out.1; have := H.out.ok.many; omega
      have hi0 : (0 : Int) ≤ (n : Int) := Int.natCast_nonneg n
      have hi1 : ((n : Nat) : Int) < (d.lies.length : Int) := by have := HN.out.1; omega
      have c0 : w2.cell? ⟨g, 0, none⟩ = some (.slice (some ⟨L, 0, none⟩) d.lies.length d.lies.length) := (blk_cell ((HM.out.2.1 g HG0.out HGL.out).trans H.out.hg) 0).trans rfl
      have cw0 : w2.cell? ⟨gw, 0, none⟩ = some (.int .i64 (n : Int)) := (blk_cell HM.out.2.2.1 0).trans rfl
      refine start_ (n := 9) (S := fun w' => w'.cell? ⟨g, 0, none⟩ = some (.slice (some ⟨L, 0, none⟩) d.lies.length d.lies.length) ∧ w'.cell? ⟨gw, 0, none⟩ = some (.int .i64 (n : Int))) (ds := []) #[false, false, false, false, false, false, false, false, false] (by kernel_rfl) rfl rfl (⟨c0, cw0⟩) (fun hHeld => ?_)
      refine pure_ (i := 0) (N := some 19) (v := ?_) (a' := ?_) #[true, false, false, false, false, false, false, false, false] rfl rfl (by kernel_rfl) (fun _ _ _ h => h) (Or.inl ⟨by rfl, ?_⟩) ?_ ?_
      rotate_left
      · intro w'
        go_simp
        with_reducible rfl
      rotate_left
      · simp only [Act.put, List.setIfInBounds_toArray, List.set_cons_zero, List.set_cons_succ, i64_w, i32_w]
        rfl
      refine pure_ (i := 1) (N := some 20) (v := ?_) (a' := ?_) #[true, true, false, false, false, false, false, false, false] rfl rfl (by kernel_rfl) (fun _ _ _ h => h) (Or.inl ⟨by rfl, ?_⟩) ?_ ?_
      rotate_left
      · intro w'
        go_simp
        with_reducible rfl
      rotate_left
      · simp only [Act.put, List.setIfInBounds_toArray, List.set_cons_zero, List.set_cons_succ, i64_w, i32_w]
        rfl
      refine pure_ (i := 2) (N := some 21) (v := ?_) (a' := ?_) #[true, true, true, false, false, false, false, false, false] rfl rfl (by kernel_rfl) (fun _ _ _ h => h) (Or.inl ⟨by rfl, ?_⟩) ?_ ?_
      rotate_left
      · intro w'
        go_simp
        with_reducible rfl
      rotate_left
      · simp only [Act.put, List.setIfInBounds_toArray, List.set_cons_zero, List.set_cons_succ, i64_w, i32_w]
        rfl
      refine take_ (i := 3) (N := some 22) (v := ?_) (a' := ?_) #[true, true, true, true, false, false, false, false, false] rfl rfl (by kernel_rfl) (fun _ _ _ h => h) (Or.inl ⟨by rfl, ?_⟩) hHeld ?_ ?_
      rotate_left
      · intro w' hS
        go_simp
        with_reducible rfl
      rotate_left
      · simp only [Act.put, List.setIfInBounds_toArray, List.set_cons_zero, List.set_cons_succ, i64_w, i32_w]
        rfl
      refine pure_ (i := 4) (N := some 23) (v := ?_) (a' := ?_) #[true, true, true, true, true, false, false, false, false] rfl rfl (by kernel_rfl) (fun _ _ _ h => h) (Or.inl ⟨by rfl, ?_⟩) ?_ ?_
      rotate_left
      · intro w'
        go_simp
        with_reducible rfl
      rotate_left
      · simp only [Act.put, List.setIfInBounds_toArray, List.set_cons_zero, List.set_cons_succ, i64_w, i32_w]
        rfl
      refine take_ (i := 5) (N := some 24) (v := ?_) (a' := ?_) #[true, true, true, true, true, true, false, false, false] rfl rfl (by kernel_rfl) (fun _ _ _ h => h) (Or.inl ⟨by rfl, ?_⟩) hHeld ?_ ?_
      rotate_left
      · intro w' hS
        go_simp
        with_reducible rfl
      rotate_left
      · simp only [Act.put, List.setIfInBounds_toArray, List.set_cons_zero, List.set_cons_succ, i64_w, i32_w]
        rfl
      refine pure_ (i := 6) (N := some 25) (v := ?_) (a' := ?_) #[true, true, true, true, true, true, true, false, false] rfl rfl (by kernel_rfl) (fun _ _ _ h => h) (Or.inl ⟨by rfl, ?_⟩) ?_ ?_
      rotate_left
      · intro w'
        go_simp
        with_reducible rfl
      rotate_left
      · simp only [Act.put, List.setIfInBounds_toArray, List.set_cons_zero, List.set_cons_succ, i64_w, i32_w]
        rfl
      refine pure_ (i := 7) (N := some 26) (v := ?_) (a' := ?_) #[true, true, true, true, true, true, true, true, false] rfl rfl (by kernel_rfl) (fun _ _ _ h => h) (Or.inl ⟨by rfl, ?_⟩) ?_ ?_
      rotate_left
      · intro w'
        go_simp
        with_reducible rfl
      rotate_left
      · simp only [Act.put, List.setIfInBounds_toArray, List.set_cons_zero, List.set_cons_succ, i64_w, i32_w]
        rfl
      refine pure_ (i := 8) (N := some 6) (v := ?_) (a' := ?_) #[true, true, true, true, true, true, true, true, true] rfl rfl (by kernel_rfl) (fun _ _ _ h => h) (Or.inl ⟨by rfl, ?_⟩) ?_ ?_
      rotate_left
      · intro w'
        go_simp
        with_reducible rfl
      rotate_left
      · simp only [Act.put, List.setIfInBounds_toArray, List.set_cons_zero, List.set_cons_succ, i64_w, i32_w]
        rfl
      refine done_ (by kernel_rfl) ?_
      clear hHeld
      replace HM := Aside0.mk HM.out.drew
      clear c0 cw0
      generalize w2.drew = w3 at *
      have cf1 : w3.cell? ⟨gf, 1, none⟩ = some (.int .i64 torn) := (blk_cell ((HM.out.2.1 gf HGF0.out HGFL.out).trans HF.out) 1).trans rfl
      have cf0 : w3.cell? ⟨gf, 0, none⟩ = some (.slice K keep.length kc) := (blk_cell ((HM.out.2.1 gf HGF0.out HGFL.out).trans HF.out) 0).trans rfl
      have cf2 : w3.cell? ⟨gf, 2, none⟩ = some (.int .i64 cut) := (blk_cell ((HM.out.2.1 gf HGF0.out HGFL.out).trans HF.out) 2).trans rfl
      have cw1 : w3.cell? ⟨gw, 1, none⟩ = some (.pointer (some ⟨P, 0, none⟩)) := (blk_cell HM.out.2.2.1 1).trans rfl
      clear hi0 hi1
      by_cases ht : (i : Int) = torn
      · have d3 : ((i : Int) == torn) = true := beq_iff_eq.2 ht
        obtain ⟨mc, hmc⟩ : ∃ z, z = max cut 0 := ⟨_, rfl⟩
        obtain ⟨mm, hmm⟩ : ∃ z, z = min mc 128 := ⟨_, rfl⟩
        have hn8 : (nn : Int) = 8 * mm := by
          rw [HNE.out]
          unfold fateV
          rw [if_pos ht, ← hmc, ← hmm]
          omega
        have hmax : ∀ ats ty, Builtin.max_ ats ty #[.int .i64 cut, .int .i64 0] = pure (.int .i64 mc) := fun ats ty => by
          rw [max_two, max2_int]
          simp only [pure_bind]
          congr 2
          split <;> omega
        have hmin : ∀ ats ty, Builtin.min_ ats ty #[.int .i64 mc, .int .i64 128] = pure (.int .i64 mm) := fun ats ty => by
          rw [min_two, min2_int]
          simp only [pure_bind]
          congr 2
          split <;> omega
        have hmul : wrap64 (8 * mm) = (nn : Int) := by rw [hn8]; unfold wrap64; omega
        have hsl := fun W => run_slice_to (P := Try.prog) W 74 5 P nn 1024 Try.underlying74 (by kernel_rfl) HNN.out
        clear hn8 hmc hmm ht
        go_wp2_with fail
        refine start_ (n := 11) (S := fun w' => w'.cell? ⟨gw, 1, none⟩ = some (.pointer (some ⟨P, 0, none⟩)) ∧ w'.cell? ⟨gf, 2, none⟩ = some (.int .i64 cut)) (ds := []) #[false, false, false, false, false, false, false, false, false, false, false] (by kernel_rfl) rfl rfl (⟨cw1, cf2⟩) (fun hHeld => ?_)
        have HM5 := Aside0.mk HM.out.drew
        clear HM
        generalize w3.drew = w4 at *
        refine pure_ (i := 0) (N := some 32) (v := ?_) (a' := ?_) #[true, false, false, false, false, false, false, false, false, false, false] rfl rfl (by kernel_rfl) (fun _ _ _ h => h) (Or.inl ⟨by rfl, ?_⟩) ?_ ?_
        rotate_left
        · intro w'
          go_simp
          with_reducible rfl
        rotate_left
        · simp only [Act.put, List.setIfInBounds_toArray, List.set_cons_zero, List.set_cons_succ, i64_w, i32_w]
          rfl
        refine pure_ (i := 1) (N := some 33) (v := ?_) (a' := ?_) #[true, true, false, false, false, false, false, false, false, false, false] rfl rfl (by kernel_rfl) (fun _ _ _ h => h) (Or.inl ⟨by rfl, ?_⟩) ?_ ?_
        rotate_left
        · intro w'
          go_simp
          with_reducible rfl
        rotate_left
        · simp only [Act.put, List.setIfInBounds_toArray, List.set_cons_zero, List.set_cons_succ, i64_w, i32_w]
          rfl
        refine take_ (i := 2) (N := some 34) (v := ?_) (a' := ?_) #[true, true, true, false, false, false, false, false, false, false, false] rfl rfl (by kernel_rfl) (fun _ _ _ h => h) (Or.inl ⟨by rfl, ?_⟩) hHeld ?_ ?_
        rotate_left
        · intro w' hS
          go_simp
          with_reducible rfl
        rotate_left
        · simp only [Act.put, List.setIfInBounds_toArray, List.set_cons_zero, List.set_cons_succ, i64_w, i32_w]
          rfl
        refine pure_ (i := 3) (N := some 35) (v := ?_) (a' := ?_) #[true, true, true, true, false, false, false, false, false, false, false] rfl rfl (by kernel_rfl) (fun _ _ _ h => h) (Or.inl ⟨by rfl, ?_⟩) ?_ ?_
        rotate_left
        · intro w'
          go_simp
          with_reducible rfl
        rotate_left
        · simp only [Act.put, List.setIfInBounds_toArray, List.set_cons_zero, List.set_cons_succ, i64_w, i32_w]
          rfl
        refine pure_ (i := 4) (N := some 36) (v := ?_) (a' := ?_) #[true, true, true, true, true, false, false, false, false, false, false] rfl rfl (by kernel_rfl) (fun _ _ _ h => h) (Or.inl ⟨by rfl, ?_⟩) ?_ ?_
        rotate_left
        · intro w'
          go_simp
          with_reducible rfl
        rotate_left
        · simp only [Act.put, List.setIfInBounds_toArray, List.set_cons_zero, List.set_cons_succ, i64_w, i32_w]
          rfl
        refine take_ (i := 5) (N := some 37) (v := ?_) (a' := ?_) #[true, true, true, true, true, true, false, false, false, false, false] rfl rfl (by kernel_rfl) (fun _ _ _ h => h) (Or.inl ⟨by rfl, ?_⟩) hHeld ?_ ?_
        rotate_left
        · intro w' hS
          go_simp
          with_reducible rfl
        rotate_left
        · simp only [Act.put, List.setIfInBounds_toArray, List.set_cons_zero, List.set_cons_succ, i64_w, i32_w]
          rfl
        refine pure_ (i := 6) (N := some 38) (v := ?_) (a' := ?_) #[true, true, true, true, true, true, true, false, false, false, false] rfl rfl (by kernel_rfl) (fun _ _ _ h => h) (Or.inl ⟨by rfl, ?_⟩) ?_ ?_
        rotate_left
        · intro w'
          go_simp
          with_reducible rfl
        rotate_left
        · simp only [Act.put, List.setIfInBounds_toArray, List.set_cons_zero, List.set_cons_succ, i64_w, i32_w]
          rfl
        refine pure_ (i := 7) (N := some 39) (v := ?_) (a' := ?_) #[true, true, true, true, true, true, true, true, false, false, false] rfl rfl (by kernel_rfl) (fun _ _ _ h => h) (Or.inl ⟨by rfl, ?_⟩) ?_ ?_
        rotate_left
        · intro w'
          go_simp
          with_reducible rfl
        rotate_left
        · simp only [Act.put, List.setIfInBounds_toArray, List.set_cons_zero, List.set_cons_succ, i64_w, i32_w]
          rfl
        refine pure_ (i := 8) (N := some 40) (v := ?_) (a' := ?_) #[true, true, true, true, true, true, true, true, true, false, false] rfl rfl (by kernel_rfl) (fun _ _ _ h => h) (Or.inl ⟨by rfl, ?_⟩) ?_ ?_
        rotate_left
        · intro w'
          go_simp
          with_reducible rfl
        rotate_left
        · simp only [Act.put, List.setIfInBounds_toArray, List.set_cons_zero, List.set_cons_succ, i64_w, i32_w]
          rfl
        refine pure_ (i := 9) (N := some 41) (v := ?_) (a' := ?_) #[true, true, true, true, true, true, true, true, true, true, false] rfl rfl (by kernel_rfl) (fun _ _ _ h => h) (Or.inl ⟨by rfl, ?_⟩) ?_ ?_
        rotate_left
        · intro w'
          go_simp
          with_reducible rfl
        rotate_left
        · simp only [Act.put, List.setIfInBounds_toArray, List.set_cons_zero, List.set_cons_succ, i64_w, i32_w]
          rfl
        refine one_ (i := 10) (N := some 42) #[true, true, true, true, true, true, true, true, true, true, true] rfl rfl (by kernel_rfl) (by decide) (fun K hK => ?_)
        have hcp := copy_over w4 L P n nn l s HPS.out (by rw [HLEN.out]; exact HN.out.1) HN.out.2 HNN.out HM5.out.1 ((HM5.out.2.1 P HP.out.2.2 HP.out.2.1).trans HP.out.1)
        refine value_ (w1 := w4.setRow L (pgs (l.set n (over nn s (l.getD n ⟨#[]⟩)))).toArray) (v := .int .i64 (nn : Int)) (by rfl) rfl ?_ ?_
        · go_simp
        clear hcp
        refine hK.out _ _ (⟨(cell_of_blk (setRow_other w4 L gw _ HGWL.out)).trans ((blk_cell HM5.out.2.2.1 1).trans rfl), (cell_of_blk (setRow_other w4 L gf _ HGFL.out)).trans ((blk_cell ((HM5.out.2.1 gf HGF0.out HGFL.out).trans HF.out) 2).trans rfl)⟩) (fun hHeld => ?_)
        clear hK K
        refine norm_ (a' := ?_) ?_ ?_
        rotate_left
        · show Act.put _ (some 42) _ = _
          simp only [Act.put, List.setIfInBounds_toArray, List.set_cons_zero, List.set_cons_succ, i64_w, i32_w]
          rfl
        refine done_ (by kernel_rfl) ?_
        clear hHeld
        have HM := Aside0.mk (HM5.out.copied (l' := l.set n (over nn s (l.getD n ⟨#[]⟩))) HL0.out)
        clear HM5
        generalize w4.setRow L (pgs (l.set n (over nn s (l.getD n ⟨#[]⟩)))).toArray = w5 at *
        go_wp2_with fail
        go_roundw
        case measure => first | exact mzD_step HI.out.1 | (rw [hw1]; exact mzD_step HI.out.1)
        case rel => exact ⟨i + 1, l.set n (over nn s (l.getD n ⟨#[]⟩)), by first | rfl | rw [hw1], Nat.succ_le_of_lt HI.out.1, HT2.out, pgOk_set HPS.out n _ HOV.out, by rw [List.length_set]; exact HLEN.out, HM.out.1, HM.out.2.1, HM.out.2.2.2.2.1, HM.out.2.2.2.2.2⟩
      · have d3 : ((i : Int) == torn) = false := beq_eq_false_iff_ne.2 ht
        have hfv : nn = if keep.getD i false = true then 1024 else 0 := by
          rw [HNE.out]
          unfold fateV
          rw [if_neg ht]
        have HKC : Aside0 (Kd.C Kd.bool w3 K keep.length keep) := ⟨HK.out w3 ⟨by have h1 := HM.out.2.2.2.2.1; rw [HS0.out, HGF.out] at h1; exact Nat.le_trans (Nat.le_succ _) h1, fun k hk hn => by
          have hkL : k ≠ L := fun e => hn (e ▸ H.out.oL)
          exact (HM.out.2.1 k (by rw [HS0.out, HGF.out]; exact Nat.lt_succ_of_lt hk) hkL).trans (HB0.out.block k hk)⟩⟩
        clear ht cf2
        by_cases hkl : i < keep.length
        · have d4 : decide (((i : Nat) : Int) < (keep.length : Int)) = true := decide_eq_true (by omega)
          have d4' : ((i : Nat) : Int) < (keep.length : Int) := by omega
          have d4'' : (0 : Int) ≤ (i : Int) := Int.natCast_nonneg i
          obtain ⟨ak, hak, hkx⟩ := Kd.at_bool HKC.out (i : Int) (Int.natCast_nonneg i) d4'
          rw [Int.toNat_natCast] at hkx
          have hrd : rdOf false keep (i : Int) = keep.getD i false := rfl
          rw [hrd] at hkx
          subst hak
          cases hkv : keep.getD i false with
          | true =>
            rw [hkv] at hkx hfv
            rw [if_pos rfl] at hfv
            subst hfv
            have hcp := copy_over w3 L P n 1024 l s HPS.out (by rw [HLEN.out]; exact HN.out.1) HN.out.2 (Nat.le_refl _) HM.out.1 ((HM.out.2.1 P HP.out.2.2 HP.out.2.1).trans HP.out.1)
            have HM6 := Aside0.mk (HM.out.copied (l' := l.set n (over 1024 s (l.getD n ⟨#[]⟩))) HL0.out)
            have hcp' : ∀ ty, (Builtin.copy_ #[34, 34] ty #[.slice (some ⟨L, n * 1024, none⟩) 1024 1024, .slice (some ⟨P, 0, none⟩) 1024 1024]).run Try.prog w3 = .ok (.int .i64 1024) (w3.setRow L (pgs (l.set n (over 1024 s (l.getD n ⟨#[]⟩)))).toArray) := hcp
            clear hcp HM
            have HM := HM6
            clear HM6 hkv hrd
            generalize w3.setRow L (pgs (l.set n (over 1024 s (l.getD n ⟨#[]⟩)))).toArray = w5 at *
            go_wp2_with fail
            go_roundw
            case measure => first | exact mzD_step HI.out.1 | (rw [hw1]; exact mzD_step HI.out.1)
            case rel => exact ⟨i + 1, l.set n (over 1024 s (l.getD n ⟨#[]⟩)), by first | rfl | rw [hw1], Nat.succ_le_of_lt HI.out.1, HT2.out, pgOk_set HPS.out n _ HOV.out, by rw [List.length_set]; exact HLEN.out, HM.out.1, HM.out.2.1, HM.out.2.2.2.2.1, HM.out.2.2.2.2.2⟩
          | false =>
            rw [hkv] at hkx hfv
            rw [if_neg (by decide)] at hfv
            have HM := HM.out
            rw [same_pages l HPS.out n (by rw [HLEN.out]; exact HN.out.1) s HN.out.2 nn hfv] at HM
            replace HM := Aside0.mk HM
            clear hkv hfv hrd
            go_wp2_with fail
            go_roundw
            case measure => first | exact mzD_step HI.out.1 | (rw [hw1]; exact mzD_step HI.out.1)
            case rel => exact ⟨i + 1, l.set n (over nn s (l.getD n ⟨#[]⟩)), by first | rfl | rw [hw1], Nat.succ_le_of_lt HI.out.1, HT2.out, pgOk_set HPS.out n _ HOV.out, by rw [List.length_set]; exact HLEN.out, HM.out.1, HM.out.2.1, HM.out.2.2.2.2.1, HM.out.2.2.2.2.2⟩
        · have d4 : decide (((i : Nat) : Int) < (keep.length : Int)) = false := decide_eq_false (by omega)
          have d4' : ¬ ((i : Nat) : Int) < (keep.length : Int) := by omega
          have hkv : keep.getD i false = false := by rw [List.getD_eq_getElem?_getD, List.getElem?_eq_none (by omega)]; rfl
          rw [hkv, if_neg (by decide)] at hfv
          have HM := HM.out
          rw [same_pages l HPS.out n (by rw [HLEN.out]; exact HN.out.1) s HN.out.2 nn hfv] at HM
          replace HM := Aside0.mk HM
          clear hkv hfv hkl
          go_wp2_with fail
          go_roundw
          case measure => first | exact mzD_step HI.out.1 | (rw [hw1]; exact mzD_step HI.out.1)
          case rel => exact ⟨i + 1, l.set n (over nn s (l.getD n ⟨#[]⟩)), by first | rfl | rw [hw1], Nat.succ_le_of_lt HI.out.1, HT2.out, pgOk_set HPS.out n _ HOV.out, by rw [List.length_set]; exact HLEN.out, HM.out.1, HM.out.2.1, HM.out.2.2.2.2.1, HM.out.2.2.2.2.2⟩
    · have hie : i = d.pend.length := by omega
      have d1 : ¬ ((i : Nat) : Int) < (d.pend.length : Int) := by omega
      have d2 : decide (((i : Nat) : Int) < (d.pend.length : Int)) = false := decide_eq_false d1
      have hll : l = crashL keep torn cut 0 d.lies d.pend := by
        have h1 := HT.out
        rw [hie, List.drop_length] at h1
        exact h1
      have HLL := Aside0.mk hll
      clear hll hi hil hie
      go_wp2_with fail
      obtain ⟨es, cl, hM1⟩ := H.out.map_at
      have hML : M ≠ L := fun e => by rw [e, H.out.hL] at hM1; cases hM1
      have hgc := (HKR.out g (H.out.lt g H.out.og) HGL.out).trans H.out.hg
      have hMr := (HKR.out M (H.out.lt M H.out.oM) hML).trans hM1
      refine (calm_calls wr g M _ _ _ _ _ es cl hgc hMr).mono ?_
      rintro e_ w3 ⟨rfl, hg3, hM3, hk3, hz3, hb3⟩
      have c3 : w3.cell? ⟨g, 3, none⟩ = some (.bool d.off) := (blk_cell hg3 3).trans rfl
      have f3 := blk_frozen hg3 3
      have hg4 : (w3.setCell ⟨g, 3, none⟩ (.bool false)).heap[g]? = some (.cells #[.slice (some ⟨L, 0, none⟩) d.lies.length d.lies.length, .slice none 0 0, .map (some M), .bool false, .bool (decide (0 ≤ d.fuse)), .int .i64 lf] 70 (0, 0)) := blk_put hg3 3 _ rfl
      have c4 : (w3.setCell ⟨g, 3, none⟩ (.bool false)).cell? ⟨g, 4, none⟩ = some (.bool (decide (0 ≤ d.fuse))) := (blk_cell hg4 4).trans rfl
      have f4 := blk_frozen hg4 4
      have HE := Aside0.mk (And.intro hg3 (And.intro hM3 (And.intro hk3 (And.intro hz3 hb3))))
      have HML := Aside0.mk hML
      clear hg3 hM3 hk3 hz3 hb3 hg4 hML hM1 hgc hMr
      go_wp2_with fail
      go_end0
      have hg5 : ((w3.setCell ⟨g, 3, none⟩ (.bool false)).setCell ⟨g, 4, none⟩ (.bool false)).heap[g]? = some (.cells #[.slice (some ⟨L, 0, none⟩) d.lies.length d.lies.length, .slice none 0 0, .map (some M), .bool false, .bool false, .int .i64 lf] 70 (0, 0)) := blk_put (blk_put HE.out.1 3 _ rfl) 4 _ rfl
      have far : ∀ k, k ≠ g → ((w3.setCell ⟨g, 3, none⟩ (.bool false)).setCell ⟨g, 4, none⟩ (.bool false)).heap[k]? = w3.heap[k]? := fun k hk => (Below.heap_setCell _ ⟨g, 4, none⟩ _ k hk).trans (Below.heap_setCell _ ⟨g, 3, none⟩ _ k hk)
      have hz5 : ((w3.setCell ⟨g, 3, none⟩ (.bool false)).setCell ⟨g, 4, none⟩ (.bool false)).heap.size = w3.heap.size := by simp
      have hb5 : Below 0 w3 ((w3.setCell ⟨g, 3, none⟩ (.bool false)).setCell ⟨g, 4, none⟩ (.bool false)) := ((Below.refl 0 w3).setCell (Nat.zero_le _) _).setCell (Nat.zero_le _) _
      generalize (w3.setCell ⟨g, 3, none⟩ (.bool false)).setCell ⟨g, 4, none⟩ (.bool false) = w5 at *
      have z0 := HSZ.out
      have z1 := HE.out.2.2.2.1
      have z2 := HS0.out
      have z3 := HGF.out
      have hMg : M ≠ g := fun e => by
        have h1 := HE.out.2.1
        rw [e, HE.out.1] at h1
        cases h1
      have hgM : g ≠ M := fun e => hMg e.symm
      refine ⟨rfl, own, fun _ hk => .inl hk, ?_, ?_⟩
      · refine lies_calm (w := w5) (L := L) (M := M) (lf := lf) ⟨H.out.og, H.out.oL, H.out.oM⟩ (fun k hk => ?_) ?_ (fun h => absurd h (by show ¬ (0 : Int) ≤ -1; decide)) H.out.hw ?_ ((far M hMg).trans HE.out.2.1) rfl ?_
        · have := HOW.out k hk
          omega
        · show w5.heap[g]? = some (Obj.cells #[.slice _ (crashL keep torn cut 0 d.lies d.pend).length (crashL keep torn cut 0 d.lies d.pend).length, _, _, _, _, _] _ _)
          rw [crashL_len]
          exact hg5
        · show w5.heap[L]? = some (Obj.cells (pgs (crashL keep torn cut 0 d.lies d.pend)).toArray _ _)
          rw [← HLL.out]
          exact (far L (fun e => HGL.out e.symm)).trans ((HE.out.2.2.1 L (fun e => HGL.out e.symm) (fun e => HML.out e.symm)).trans HLR.out)
        · have ho := H.out.ok
          refine ⟨?_, ?_, ?_, (by intro p hp; cases hp), Nat.zero_le _, (by show (-1 : Int) ≤ -1; decide), (by show (-1 : Int) ≤ _; decide)⟩
          · show 1 ≤ (crashL keep torn cut 0 d.lies d.pend).length
            rw [crashL_len]; exact ho.some
          · show (crashL keep torn cut 0 d.lies d.pend).length ≤ 4096
            rw [crashL_len]; exact ho.few
          · show PgOk (crashL keep torn cut 0 d.lies d.pend)
            rw [← HLL.out]; exact HPS.out
      · refine ⟨(((below0 HB0.out).trans HBR.out).trans HE.out.2.2.2.2).trans hb5, ?_, fun k hk hn => ?_⟩
        · rw [hz5, z1]
          exact Nat.le_trans (Nat.le_trans (by rw [z2, z3]; exact Nat.le_succ _) z0) (Nat.le_refl _)
        · have hkL : k ≠ L := fun e => hn (e ▸ H.out.oL)
          have hkg : k ≠ g := fun e => hn (e ▸ H.out.og)
          have hkM : k ≠ M := fun e => hn (e ▸ H.out.oM)
          exact (far k hkg).trans ((HE.out.2.2.1 k hkg hkM).trans ((HKR.out k (by rw [z2, z3]; exact Nat.lt_succ_of_lt hk) hkL).trans (HB0.out.block k hk)))
end Go.Proofs.Ytjaalegkmldaeaa.My
