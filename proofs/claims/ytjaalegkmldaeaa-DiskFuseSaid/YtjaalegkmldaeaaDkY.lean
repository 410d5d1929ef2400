/- calm and Sync: walks. -/
import Derived.Test.YtjaalegkmldaeaaDkS
namespace Go.Proofs.Ytjaalegkmldaeaa.My
open Go.RowKit Go.Proofs.YtjaalegkmldaeaaW.PrintWords Go.Proofs.YtjaalegkmldaeaaW.PrintLast Go.Proofs.YtjaalegkmldaeaaW.PrintMore Go.Proofs.Ytjaalegkmldaeaa Go.Maps
set_option linter.unusedSimpArgs false
set_option linter.unusedVariables false
set_option maxRecDepth 100000
set_option maxHeartbeats 1600000
theorem calm_calls (w : World) (g M : Nat) (a0 pv a3 a4 a5 : Value) (es : Array MapEntry) (cl : Nat) (hg : w.heap[g]? = some (.cells #[a0, pv, .map (some M), a3, a4, a5] 70 (0, 0))) (hM : w.heap[M]? = some (.map es cl)) :
    Calls Try.prog 36 #[.pointer (some ⟨g, 0, none⟩)] w fun e w' => e = .returned (.tuple #[]) ∧ w'.heap[g]? = some (.cells #[a0, .slice none 0 0, .map (some M), a3, a4, a5] 70 (0, 0)) ∧ w'.heap[M]? = some (.map #[] cl) ∧ (∀ k, k ≠ g → k ≠ M → w'.heap[k]? = w.heap[k]?) ∧ w'.heap.size = w.heap.size ∧ Below 0 w w' := by
  have hgM : g ≠ M := fun e => by rw [e, hM] at hg; cases hg
  have c1 : w.cell? ⟨g, 1, none⟩ = some pv := (blk_cell hg 1).trans rfl
  have f1 := blk_frozen hg 1
  have hg1 : (w.setCell ⟨g, 1, none⟩ (.slice none 0 0)).heap[g]? = some (.cells #[a0, .slice none 0 0, .map (some M), a3, a4, a5] 70 (0, 0)) := blk_put hg 1 _ rfl
  have c2 : (w.setCell ⟨g, 1, none⟩ (.slice none 0 0)).cell? ⟨g, 2, none⟩ = some (.map (some M)) := (blk_cell hg1 2).trans rfl
  have hM1 : (w.setCell ⟨g, 1, none⟩ (.slice none 0 0)).heap[M]? = some (.map es cl) := (Below.heap_setCell w ⟨g, 1, none⟩ _ M (fun e => hgM e.symm)).trans hM
  have hcl := fun ty => run_clear (P := Try.prog) (w.setCell ⟨g, 1, none⟩ (.slice none 0 0)) 67 ty M es cl _ _ Try.underlying67 hM1
  have HR : Aside0 ((Go.ChangeMaps.setBlock (w.setCell ⟨g, 1, none⟩ (.slice none 0 0)) M (.map #[] cl)).heap[g]? = some (.cells #[a0, .slice none 0 0, .map (some M), a3, a4, a5] 70 (0, 0)) ∧ (Go.ChangeMaps.setBlock (w.setCell ⟨g, 1, none⟩ (.slice none 0 0)) M (.map #[] cl)).heap[M]? = some (.map #[] cl) ∧ (∀ k, k ≠ g → k ≠ M → (Go.ChangeMaps.setBlock (w.setCell ⟨g, 1, none⟩ (.slice none 0 0)) M (.map #[] cl)).heap[k]? = w.heap[k]?) ∧ (Go.ChangeMaps.setBlock (w.setCell ⟨g, 1, none⟩ (.slice none 0 0)) M (.map #[] cl)).heap.size = w.heap.size ∧ Below 0 w (Go.ChangeMaps.setBlock (w.setCell ⟨g, 1, none⟩ (.slice none 0 0)) M (.map #[] cl))) := by
    refine ⟨(Go.ChangeMaps.heap_setBlock_other hM1 _ hgM).trans hg1, Go.ChangeMaps.heap_setBlock_same hM1 _, fun k h1 h2 => (Go.ChangeMaps.heap_setBlock_other hM1 _ h2).trans (Below.heap_setCell w ⟨g, 1, none⟩ _ k h1), by simp [Go.ChangeMaps.setBlock], rfl, rfl, rfl, by simp [Go.ChangeMaps.setBlock], fun k hk => absurd hk (Nat.not_lt_zero k)⟩
  clear hg hM hg1 hM1
  go_enter Try.func36, Try.ntmps36
  go_wp2_with fail
  go_end0
  exact ⟨rfl, HR.out⟩
theorem landV_len : ∀ (pend : List (Nat × ByteArray)) (l : List ByteArray), (landV l pend).length = l.length
  | [], l => rfl
  | (p, s) :: t, l => by
    show (landV (l.set p s) t).length = _
    rw [landV_len t, List.length_set]
def valAt (lies : List ByteArray) (pend : List (Nat × ByteArray)) (i : Nat) : ByteArray := match lastAt pend i with
  | some k => (pend.getD k (0, ⟨#[]⟩)).2
  | none => lies.getD i ⟨#[]⟩
theorem landV_at : ∀ (pend : List (Nat × ByteArray)) (l : List ByteArray) (i : Nat), i < l.length → (landV l pend).getD i ⟨#[]⟩ = valAt l pend i
  | [], l, i, h => rfl
  | (p, s) :: t, l, i, h => by
    show (landV (l.set p s) t).getD i ⟨#[]⟩ = _
    rw [landV_at t (l.set p s) i (by rw [List.length_set]; exact h)]
    unfold valAt
    rw [lastAt]
    cases lastAt t i with
    | some k => rfl
    | none =>
      dsimp only
      by_cases hp : p = i
      · subst hp
        rw [if_pos rfl, List.getD_eq_getElem?_getD, List.getElem?_set_self h]
        rfl
      · rw [if_neg hp, List.getD_eq_getElem?_getD, List.getElem?_set_ne hp, ← List.getD_eq_getElem?_getD]
def SyncR (lies : List ByteArray) (pend : List (Nat × ByteArray)) (left : Lit → Bool) (l : List ByteArray) : Prop :=
  l.length = lies.length ∧ PgOk l ∧ ∀ i, i < lies.length → l.getD i ⟨#[]⟩ = if left (.int .i64 (i : Int)) = true then lies.getD i ⟨#[]⟩ else valAt lies pend i
theorem lastAt_at : ∀ (l : List (Nat × ByteArray)) (n k : Nat), lastAt l n = some k → (l.getD k (0, ⟨#[]⟩)).1 = n
  | [], _, _, h => by cases h
  | (p, s) :: t, n, k, h => by
    rw [lastAt] at h
    cases ht : lastAt t n with
    | some j =>
      rw [ht] at h
      obtain rfl := Option.some.inj h
      exact lastAt_at t n j ht
    | none =>
      rw [ht] at h
      dsimp only at h
      split at h
      · obtain rfl := Option.some.inj h
        rename_i hp
        exact hp
      · cases h
/-- The entry that has come. -/
theorem entry_is {D : DataW Unit} {pend : List (Nat × ByteArray)} {ps : List Nat} (ht : Tells D pend ps) {x : Int} {c : Option Addr} {kl : Lit} {y : DataW Unit × List MemPlace} (hkey : keyOf Try.prog 3 (.int .i64 x) = some kl) (hv : ptrR (.pointer c) = some y) (hat : ∀ zd, D.atKey kl zd = y.1) :
    ∃ n k : Nat, x = (n : Int) ∧ kl = .int .i64 (n : Int) ∧ lastAt pend n = some k ∧ c = some ⟨ps.getD k 0, 0, none⟩ := by
  obtain ⟨x', ex, rfl, hwx⟩ := Maps.keyOf_int_inv Try.underlying3 hkey
  cases ex
  have hh := Maps.has_true_of_atKey hat
  obtain ⟨t1, t2⟩ := ht x hwx
  rw [hh] at t1
  have t1 := t1.symm
  rw [Bool.and_eq_true, decide_eq_true_eq] at t1
  obtain ⟨t3, t4⟩ := t1
  obtain ⟨k, hk⟩ := Option.isSome_iff_exists.1 t4
  refine ⟨x.toNat, k, (Int.toNat_of_nonneg t3).symm, by rw [Int.toNat_of_nonneg t3], hk, ?_⟩
  have e := (t2 k t3 hk .nil).symm.trans (hat .nil)
  rcases ptrR_inv hv with ⟨b, eb, rfl⟩ | ⟨eb, rfl⟩
  · injection eb with eb
    rw [eb]
    injection e with e
    injection e with _ e
    have e' : ps.getD k 0 = b := Int.ofNat.inj e
    rw [e']
  · cases e
theorem rangeAt_pg {w : World} {P : Nat} {s : ByteArray} {t : TypeId} (hb : w.heap[P]? = some (.cells (pg s).toArray t (0, 0))) : w.rangeAt P 0 (pg s) := by
  intro j v hj
  have := blk_cell hb j
  rw [List.getElem?_toArray, hj] at this
  rw [Nat.zero_add]
  exact this
theorem cell_of_blk {w w' : World} {g i : Nat} (h : w'.heap[g]? = w.heap[g]?) : w'.cell? ⟨g, i, none⟩ = w.cell? ⟨g, i, none⟩ := World.cell?_of_block (w := w) h
theorem wfN {n : Nat} (h : n ≤ 4096) : (Lit.int .i64 (n : Int)).wf = true := wf64 (by omega)
theorem sync_start {d : Dk} {D : DataW Unit} {ps : List Nat} (ho : DkOk d) (ht : Tells D d.pend ps) : SyncR d.lies d.pend (Maps.has D) d.lies := by
  refine ⟨rfl, ho.size, fun i hi => ?_⟩
  split
  · rfl
  · rename_i h
    have := (ht (i : Int) (wfN (by have := ho.few; omega))).1
    rw [Int.toNat_natCast, decide_eq_true (show (0 : Int) ≤ (i : Int) by omega), Bool.true_and] at this
    rw [this] at h
    unfold valAt
    cases hl : lastAt d.pend i with
    | none => rfl
    | some k => rw [hl] at h; exact absurd rfl h
theorem sync_step {d : Dk} {left : Lit → Bool} {l : List ByteArray} (ho : DkOk d) (h : SyncR d.lies d.pend left l) (n : Nat) (hn : n < d.lies.length) (k : Nat) (hk : lastAt d.pend n = some k) : SyncR d.lies d.pend (fun z => left z && !z.sameKey (.int .i64 (n : Int))) (l.set n (d.pend.getD k (0, ⟨#[]⟩)).2) := by
  obtain ⟨h1, h2, h3⟩ := h
  have hkl := lastAt_lt _ _ _ hk
  have hsz : (d.pend.getD k (0, ⟨#[]⟩)).2.size = 1024 := by
    rw [List.getD_eq_getElem?_getD, List.getElem?_eq_getElem hkl]
    exact (ho.pend _ (List.getElem_mem hkl)).2
  refine ⟨by rw [List.length_set]; exact h1, ?_, fun i hi => ?_⟩
  · intro s hs
    rcases List.mem_or_eq_of_mem_set hs with hs | rfl
    · exact h2 s hs
    · exact hsz
  · by_cases hin : n = i
    · subst hin
      rw [List.getD_eq_getElem?_getD, List.getElem?_set_self (by omega)]
      rw [if_neg (by simp [Lit.sameKey])]
      unfold valAt
      rw [hk]
      rfl
    · show _ = if (left (.int .i64 (i : Int)) && !(Lit.int .i64 (i : Int)).sameKey (.int .i64 (n : Int))) = true then _ else _
      rw [List.getD_eq_getElem?_getD, List.getElem?_set_ne hin, ← List.getD_eq_getElem?_getD, h3 i hi, Maps.sameKey_ne (show (Lit.int .i64 (i : Int)) ≠ .int .i64 (n : Int) from fun e => by injection e with _ e; omega), Bool.not_false, Bool.and_true]
theorem sync_end {d : Dk} {left : Lit → Bool} {l : List ByteArray} (h : SyncR d.lies d.pend left l) (hl : ∀ kl, left kl = false) : l = landV d.lies d.pend := by
  obtain ⟨h1, h2, h3⟩ := h
  refine List.ext_getElem? (fun i => ?_)
  by_cases hi : i < d.lies.length
  · have := h3 i hi
    rw [hl, if_neg (by decide), ← landV_at _ _ _ hi, List.getD_eq_getElem?_getD, List.getD_eq_getElem?_getD, List.getElem?_eq_getElem (by omega), List.getElem?_eq_getElem (by rw [landV_len]; exact hi)] at this
    rw [List.getElem?_eq_getElem (by omega), List.getElem?_eq_getElem (by rw [landV_len]; exact hi)]
    exact congrArg some this
  · rw [List.getElem?_eq_none (by omega), List.getElem?_eq_none (by rw [landV_len]; omega)]
theorem sync_full (w : World) (own : Nat → Prop) (g : Nat) (d : Dk) (hd : DiskAt w own g d) (h0 : readyV d 0 = 0) (d1 : Dk) (ha : actV d = (d1, 0)) :
    Calls Try.prog 14 #[.pointer (some ⟨g, 0, none⟩)] w fun e w' => e = .returned (.int .i64 0) ∧ Turned own w w' g { d1 with lies := landV d1.lies d1.pend, pend := [] } := by
  go_enter Try.func14, Try.ntmps14
  go_wp2_with fail
  refine (ready_calls w own g d hd 0).mono ?_
  rintro e_ w' ⟨rfl, rfl⟩
  rw [h0]
  go_wp2_with fail
  refine (act_calls _ own g d hd).mono ?_
  rintro e_ w1 ⟨rfl, hd1, hm1⟩
  rw [ha] at hd1 ⊢
  obtain ⟨L, M, pv, ps, lf, D, h⟩ := hd1
  have HM1 := Aside0.mk hm1
  have c2 : w1.cell? ⟨g, 2, none⟩ = some (.map (some M)) := (blk_cell h.hg 2).trans rfl
  have H := Aside0.mk h
  clear h hm1 hd ha h0
  go_wp2_with (first | (at_range; refine wpList_range_own _ rfl _ 67 rfl 3 72 (int_keyed Try.underlying3) Try.underlying67 ptrR M d1.pend.length D rfl H.out.hm ?_; intro w2 hrg2 hg2 hs2) | go_in)
  go_frame
  clear c2
  go_loopw [4, 5] (fun _ _ wr => ∃ left cnt l, wr.ranges Try.prog 3 ptrR M w1.heap.size d1.pend.length D left cnt ∧ SyncR d1.lies d1.pend left l ∧ wr.heap[g]? = w1.heap[g]? ∧ wr.heap[L]? = some (.cells (pgs l).toArray 74 (0, 0)) ∧ (∀ k, k < w1.heap.size → k ≠ L → wr.heap[k]? = w1.heap[k]?) ∧ w1.heap.size < wr.heap.size ∧ Below 0 w1 wr)
    (fun _ _ wr => wr.rangeLeft M w1.heap.size)
  case atStart =>
    have hL2 : w2.heap[L]? = w1.heap[L]? := hg2.block L (H.out.lt L H.out.oL) (by simp)
    exact ⟨_, _, d1.lies, hrg2, sync_start H.out.ok H.out.tells, hg2.block g (H.out.lt g H.out.og) (by simp), hL2.trans H.out.hL, fun k hk _ => hg2.block k hk (by simp), by rw [hs2]; omega, (Below.refl 0 w1).grown hg2 (Nat.zero_le _) (fun _ h => by cases h)⟩
  case round =>
    obtain ⟨left, cnt, l, hrg, hS, hgr, hLr, hkr, hsz, hb⟩ := hrel
    have c0 : wr.cell? ⟨g, 0, none⟩ = some (.slice (some ⟨L, 0, none⟩) d1.lies.length d1.lies.length) := (blk_cell (hgr.trans H.out.hg) 0).trans rfl
    have HRG := Aside0.mk hrg
    have HS := Aside0.mk hS
    have HGR := Aside0.mk hgr
    have HLR := Aside0.mk hLr
    have HKR := Aside0.mk hkr
    have HSZ := Aside0.mk hsz
    have HBR := Aside0.mk hb
    clear hrg hS hgr hLr hkr hsz hb
    go_wp2_with (first | (at_next; refine wpList_next_ranges _ rfl _ rfl 3 (int_keyed Try.underlying3) ptrR (Value.int .i64) Value.pointer (fun key kl h => by obtain ⟨x, e, _⟩ := Maps.keyOf_int_inv Try.underlying3 h; exact ⟨x, e⟩) (fun v y h => by rcases ptrR_inv h with ⟨b, e, _⟩ | ⟨e, _⟩ <;> exact ⟨_, e⟩) M w1.heap.size d1.pend.length _ _ _ rfl HRG.out ?_ ?_) | go_in)
    · intro hc0 hl0
      go_wp2_with fail
      have hll := sync_end HS.out hl0
      have hgc := HGR.out.trans H.out.hg
      obtain ⟨es, cl, hM1⟩ := H.out.map_at
      have hML : M ≠ L := fun e => by rw [e, H.out.hL] at hM1; cases hM1
      have hMr := (HKR.out M (H.out.lt M H.out.oM) hML).trans hM1
      have hgL : g ≠ L := fun e => absurd (e ▸ H.out.hg) (by rw [H.out.hL]; intro h; injection h with h; injection h with _ h _; exact absurd h (by decide))
      refine (calm_calls wr g M _ _ _ _ _ es cl hgc hMr).mono ?_
      rintro e_ w3 ⟨rfl, hg3, hM3, hk3, hz3, hb3⟩
      go_wp2_with fail
      go_ret
      refine ⟨rfl, own, fun _ hk => .inl hk, ?_, ?_⟩
      · refine lies_calm (w := w3) (L := L) (M := M) (lf := lf) ⟨H.out.og, H.out.oL, H.out.oM⟩ (fun k hk => ?_) ?_ H.out.hf H.out.hw ?_ hM3 rfl ?_
        · have := H.out.lt k hk
          have := HSZ.out
          omega
        · show w3.heap[g]? = some (Obj.cells #[.slice _ (landV d1.lies d1.pend).length (landV d1.lies d1.pend).length, _, _, _, _, _] _ _)
          rw [landV_len]
          exact hg3
        · show w3.heap[L]? = some (Obj.cells (pgs (landV d1.lies d1.pend)).toArray _ _)
          rw [← hll]
          exact (hk3 L (fun e => hgL e.symm) (fun e => hML e.symm)).trans HLR.out
        · have ho := H.out.ok
          refine ⟨?_, ?_, ?_, by simp, by simp, ho.lo, ho.hi⟩
          · show 1 ≤ (landV d1.lies d1.pend).length
            rw [landV_len]; exact ho.some
          · show (landV d1.lies d1.pend).length ≤ 4096
            rw [landV_len]; exact ho.few
          · show PgOk (landV d1.lies d1.pend)
            rw [← hll]; exact HS.out.2.1
      · refine HM1.out.trans (own' := own) ⟨(HBR.out).trans hb3, ?_, fun k hk hn => ?_⟩ (fun _ hk => .inl hk)
        · have := HSZ.out
          omega
        · have hkL : k ≠ L := fun e => hn (e ▸ H.out.oL)
          have hkg : k ≠ g := fun e => hn (e ▸ H.out.og)
          have hkM : k ≠ M := fun e => hn (e ▸ H.out.oM)
          exact (hk3 k hkg hkM).trans (HKR.out k hk hkL)
    · intro x c kl yd yp w3 cnt1 hkey hlk hv hat hrg3 hlt hg3 hs3 hen
      obtain ⟨n, k, rfl, rfl, hlast, rfl⟩ := entry_is H.out.tells hkey hv hat
      have hkl := lastAt_lt _ _ _ hlast
      have hkp : k < ps.length := by rw [H.out.len]; exact hkl
      obtain ⟨P, hPe⟩ : ∃ P, P = ps.getD k 0 := ⟨_, rfl⟩
      obtain ⟨s, hse⟩ : ∃ s, s = (d1.pend.getD k (0, ⟨#[]⟩)).2 := ⟨_, rfl⟩
      have hPk : P = ps[k] := by rw [hPe, List.getD_eq_getElem?_getD, List.getElem?_eq_getElem hkp]; rfl
      have hsk : s = d1.pend[k].2 := by rw [hse, List.getD_eq_getElem?_getD, List.getElem?_eq_getElem hkl]; rfl
      have hnl : n < d1.lies.length := by
        have e := lastAt_at _ _ _ hlast
        rw [List.getD_eq_getElem?_getD, List.getElem?_eq_getElem hkl] at e
        rw [← e]
        exact (H.out.ok.pend _ (List.getElem_mem hkl)).1
      have hss : s.size = 1024 := by rw [hsk]; exact (H.out.ok.pend _ (List.getElem_mem hkl)).2
      have hPL : P ≠ L ∧ P < w1.heap.size := by
        rw [hPk]
        exact ⟨(H.out.oP _ (List.getElem_mem hkp)).2, H.out.lt _ (H.out.oP _ (List.getElem_mem hkp)).1⟩
      rw [← hPe] at hen ⊢
      have hP3 : w3.heap[P]? = some (.cells (pg s).toArray 74 (0, 0)) := by
        have e1 := hg3.block P (Nat.lt_trans hPL.2 HSZ.out) (fun e => absurd (Option.some.inj e) (by omega))
        rw [e1, HKR.out P hPL.2 hPL.1, hPk, hsk]
        exact H.out.hP k hkp hkl
      have hLl := H.out.lt L H.out.oL
      have hgl := H.out.lt g H.out.og
      have hL3 : w3.heap[L]? = some (.cells (pgs l).toArray 74 (0, 0)) := (hg3.block L (Nat.lt_trans hLl HSZ.out) (fun e => absurd (Option.some.inj e) (by omega))).trans HLR.out
      have hg3' : w3.heap[g]? = w1.heap[g]? := (hg3.block g (Nat.lt_trans hgl HSZ.out) (fun e => absurd (Option.some.inj e) (by omega))).trans HGR.out
      have c0 : w3.cell? ⟨g, 0, none⟩ = some (.slice (some ⟨L, 0, none⟩) d1.lies.length d1.lies.length) := (blk_cell (hg3'.trans H.out.hg) 0).trans rfl
      have hi0 : (0 : Int) ≤ (n : Int) := Int.natCast_nonneg n
      have hi1 : ((n : Nat) : Int) < (d1.lies.length : Int) := by omega
      have HRA : Aside0 (∀ w' : World, w'.heap[P]? = some (.cells (pg s).toArray 74 (0, 0)) → w'.rangeAt P 0 (pg s)) := ⟨fun w' hb' => rangeAt_pg hb'⟩
      have HIN : Aside0 ((Try.prog.info? 74).map (·.size) = some (pg s).length) := ⟨by rw [pg_len, hss]; kernel_rfl⟩
      have HH := Aside0.mk (And.intro hrg3 (And.intro hlt (And.intro hg3 (And.intro hs3 (And.intro hL3 (And.intro hg3' (And.intro hP3 (And.intro hPL (And.intro hss hse)))))))))
      have HN := Aside0.mk (And.intro hnl hlast)
      clear hP3 hrg3 hlt hg3 hs3 hL3 hg3' hPL hlk hat hkey hv hss hse hPe hPk hsk hkl hkp hLl hgl hnl hlast
      go_wp2_with fail
      have HGL : Aside0 (g ≠ L) := ⟨fun e => by have h1 := H.out.hg; rw [e, H.out.hL] at h1; injection h1 with h1; injection h1 with _ h1 _; exact absurd h1 (by decide)⟩
      have hP3 := HH.out.2.2.2.2.2.2.1
      refine start_ (n := 10) (S := fun w' => w'.cell? ⟨g, 0, none⟩ = some (.slice (some ⟨L, 0, none⟩) d1.lies.length d1.lies.length) ∧ w'.heap[P]? = some (.cells (pg s).toArray 74 (0, 0))) (ds := []) #[false, false, false, false, false, false, false, false, false, false] (by kernel_rfl) rfl rfl (⟨c0, hP3⟩) (fun hHeld => ?_)
      refine pure_ (i := 0) (N := some 25) (v := ?_) (a' := ?_) #[true, false, false, false, false, false, false, false, false, false] rfl rfl (by kernel_rfl) (fun _ _ _ h => h) (Or.inl ⟨by rfl, ?_⟩) ?_ ?_
      rotate_left
      · intro w'
        go_simp
        with_reducible rfl
      rotate_left
      · simp only [Act.put, List.setIfInBounds_toArray, List.set_cons_zero, List.set_cons_succ, i64_w, i32_w]
        rfl
      refine pure_ (i := 1) (N := some 26) (v := ?_) (a' := ?_) #[true, true, false, false, false, false, false, false, false, false] rfl rfl (by kernel_rfl) (fun _ _ _ h => h) (Or.inl ⟨by rfl, ?_⟩) ?_ ?_
      rotate_left
      · intro w'
        go_simp
        with_reducible rfl
      rotate_left
      · simp only [Act.put, List.setIfInBounds_toArray, List.set_cons_zero, List.set_cons_succ, i64_w, i32_w]
        rfl
      refine pure_ (i := 2) (N := some 27) (v := ?_) (a' := ?_) #[true, true, true, false, false, false, false, false, false, false] rfl rfl (by kernel_rfl) (fun _ _ _ h => h) (Or.inl ⟨by rfl, ?_⟩) ?_ ?_
      rotate_left
      · intro w'
        go_simp
        with_reducible rfl
      rotate_left
      · simp only [Act.put, List.setIfInBounds_toArray, List.set_cons_zero, List.set_cons_succ, i64_w, i32_w]
        rfl
      refine take_ (i := 3) (N := some 28) (v := ?_) (a' := ?_) #[true, true, true, true, false, false, false, false, false, false] rfl rfl (by kernel_rfl) (fun _ _ _ h => h) (Or.inl ⟨by rfl, ?_⟩) hHeld ?_ ?_
      rotate_left
      · intro w' hS
        go_simp
        with_reducible rfl
      rotate_left
      · simp only [Act.put, List.setIfInBounds_toArray, List.set_cons_zero, List.set_cons_succ, i64_w, i32_w]
        rfl
      refine pure_ (i := 4) (N := some 29) (v := ?_) (a' := ?_) #[true, true, true, true, true, false, false, false, false, false] rfl rfl (by kernel_rfl) (fun _ _ _ h => h) (Or.inl ⟨by rfl, ?_⟩) ?_ ?_
      rotate_left
      · intro w'
        go_simp
        with_reducible rfl
      rotate_left
      · simp only [Act.put, List.setIfInBounds_toArray, List.set_cons_zero, List.set_cons_succ, i64_w, i32_w]
        rfl
      refine pure_ (i := 5) (N := some 30) (v := ?_) (a' := ?_) #[true, true, true, true, true, true, false, false, false, false] rfl rfl (by kernel_rfl) (fun _ _ _ h => h) (Or.inl ⟨by rfl, ?_⟩) ?_ ?_
      rotate_left
      · intro w'
        go_simp
        with_reducible rfl
      rotate_left
      · simp only [Act.put, List.setIfInBounds_toArray, List.set_cons_zero, List.set_cons_succ, i64_w, i32_w]
        rfl
      refine pure_ (i := 6) (N := some 31) (v := ?_) (a' := ?_) #[true, true, true, true, true, true, true, false, false, false] rfl rfl (by kernel_rfl) (fun _ _ _ h => h) (Or.inl ⟨by rfl, ?_⟩) ?_ ?_
      rotate_left
      · intro w'
        go_simp
        with_reducible rfl
      rotate_left
      · simp only [Act.put, List.setIfInBounds_toArray, List.set_cons_zero, List.set_cons_succ, i64_w, i32_w]
        rfl
      refine take_ (i := 7) (N := some 32) (v := .agg (pg s).toArray) (a' := ?_) #[true, true, true, true, true, true, true, true, false, false] rfl rfl (by kernel_rfl) (fun _ _ _ h => h) (yieldsIf_load_mid (by rfl) 74 (.tmp 31) rfl P 0 rfl (pg s) _ (fun w' hS => HRA.out w' hS.2) Try.underlying74 rfl HIN.out) hHeld ?_ ?_
      rotate_left
      · simp only [Act.put, List.setIfInBounds_toArray, List.set_cons_zero, List.set_cons_succ, i64_w, i32_w]
        rfl
      refine pure_ (i := 8) (N := some 33) (v := ?_) (a' := ?_) #[true, true, true, true, true, true, true, true, true, false] rfl rfl (by kernel_rfl) (fun _ _ _ h => h) (Or.inl ⟨by rfl, ?_⟩) ?_ ?_
      rotate_left
      · intro w'
        go_simp
        with_reducible rfl
      rotate_left
      · simp only [Act.put, List.setIfInBounds_toArray, List.set_cons_zero, List.set_cons_succ, i64_w, i32_w]
        rfl
      refine one_ (i := 9) (N := none) #[true, true, true, true, true, true, true, true, true, true] rfl rfl (by kernel_rfl) (by decide) (fun K hK => ?_)
      have hl4 : w3.drew.heap[L]? = some (.cells (pgs l).toArray 74 (0, 0)) := HH.out.2.2.2.2.1
      have hPS := HS.out.2.1
      have hlen := HS.out.1
      have hss := HH.out.2.2.2.2.2.2.2.2.1
      have hn := HN.out.1
      have hst := run_storeCells_at Try.prog L (n * 1024) 74 (pg s) 0 (pgs l).toArray w3.drew hl4 (by show n * 1024 + 0 + (pg s).length ≤ (pgs l).length; rw [pg_len, hss, pgs_len l hPS, hlen]; omega) (pg_one s)
      have ecut : ((pgs l).toArray.toList.take (n * 1024 + 0) ++ pg s ++ (pgs l).toArray.toList.drop (n * 1024 + 0 + (pg s).length)).toArray = (pgs (l.set n s)).toArray := by
        have := pgs_set l hPS n (by omega) s
        rw [← this, pg_len, hss, Nat.add_zero, Nat.mul_comm n 1024]
      rw [ecut] at hst
      have hpl : (pg s).length = 1024 := by rw [pg_len, hss]
      have hl5 : (w3.drew.setRow L (pgs (l.set n s)).toArray).heap[L]? = some (.cells (pgs (l.set n s)).toArray 74 (0, 0)) := setRow_heap _ _ _ _ _ _ hl4
      have hk5 : ∀ k, k ≠ L → (w3.drew.setRow L (pgs (l.set n s)).toArray).heap[k]? = w3.heap[k]? := fun k hk => setRow_other w3.drew L k _ hk
      have hz5 : (w3.drew.setRow L (pgs (l.set n s)).toArray).heap.size = w3.heap.size := setRow_size w3.drew L _
      have hb5 : Below 0 w3 (w3.drew.setRow L (pgs (l.set n s)).toArray) := ⟨rfl, rfl, rfl, by rw [hz5]; exact Nat.le_refl _, fun k hk => absurd hk (Nat.not_lt_zero k)⟩
      clear hl4 hPS hlen hss hn ecut
      generalize w3.drew.setRow L (pgs (l.set n s)).toArray = w5 at *
      refine skip_ (w1 := w5) (by rfl) rfl ?_ ?_
      · go_simp
      refine hK.out _ _ ⟨(cell_of_blk (hk5 g HGL.out)).trans c0, (hk5 P HH.out.2.2.2.2.2.2.2.1.1).trans hP3⟩ (fun hHeld => ?_)
      clear hK K
      refine done_ (by kernel_rfl) ?_
      clear hHeld
      try go_wp2
      have hML : M ≠ L := fun e => by
        obtain ⟨es, cl, hM1⟩ := H.out.map_at
        rw [e, H.out.hL] at hM1
        cases hM1
      have hrL : w1.heap.size ≠ L := fun e => by have := H.out.lt L H.out.oL; omega
      have hg5 : w3.grownBy w5 (some L) := ⟨hb5.os, hb5.tape, hb5.output, hb5.size, fun i _ hi => hk5 i (fun e => hi (by rw [e]))⟩
      have hrg5 := HH.out.1.kept hg5 (fun e => hML (Option.some.inj e)) (fun e => hrL (Option.some.inj e))
      refine ⟨⟨_, cnt1, l.set n s, hrg5, ?_, (hk5 g HGL.out).trans HH.out.2.2.2.2.2.1, hl5, fun k hk hkL => ?_, ?_, ?_⟩, ?_⟩
      · have h1 := sync_step H.out.ok HS.out n HN.out.1 _ HN.out.2
        rw [← HH.out.2.2.2.2.2.2.2.2.2] at h1
        exact h1
      · exact (hk5 k hkL).trans ((HH.out.2.2.1.block k (Nat.lt_trans hk HSZ.out) (fun e => absurd (Option.some.inj e) (by omega))).trans (HKR.out k hk hkL))
      · have h1 := HH.out.2.2.2.1
        have h2 := HSZ.out
        omega
      · exact (HBR.out.trans ((Below.refl 0 wr).grown HH.out.2.2.1 (Nat.zero_le _) (fun _ _ => Nat.zero_le _))).trans hb5
      · rw [hrg5.left_eq, HRG.out.left_eq]
        exact HH.out.2.1

theorem sync_calls (w : World) (own : Nat → Prop) (g : Nat) (d : Dk) (hd : DiskAt w own g d) :
    Calls Try.prog 14 #[.pointer (some ⟨g, 0, none⟩)] w fun e w' => e = .returned (.int .i64 (syncV d).2) ∧ Turned own w w' g (syncV d).1 := by
  have hok := hd.ok
  rcases readyV_cases d 0 with ⟨e0, e1⟩ | ⟨_, e0, _⟩ | ⟨_, _, _, e1⟩
  · have hv : syncV d = (d, 40) := by
      unfold syncV
      rw [if_pos (by rw [e1]; decide), e1]
    rw [hv]
    clear e0
    go_enter Try.func14, Try.ntmps14
    go_wp2_with fail
    refine (ready_calls w own g d hd 0).mono ?_
    rintro e_ w' ⟨rfl, rfl⟩
    rw [e1]
    go_wp2_with fail
    go_ret
    exact ⟨rfl, Turned.same hd (Moved.refl _ _)⟩
  · have := hok.some
    omega
  · rcases actV_cases d hok with ⟨a1, a2⟩ | ⟨a1, a2⟩ | ⟨a1, a2⟩
    · have hv : syncV d = ({ d with lies := landV d.lies d.pend, pend := [] }, 0) := by
        unfold syncV
        rw [if_neg (by rw [e1]; decide), a2]
        rfl
      rw [hv]
      exact sync_full w own g d hd e1 d a2
    · have hv : syncV d = ({ d with off := true }, 40) := by
        unfold syncV
        rw [if_neg (by rw [e1]; decide), a2]
        rfl
      rw [hv]
      go_enter Try.func14, Try.ntmps14
      go_wp2_with fail
      refine (ready_calls w own g d hd 0).mono ?_
      rintro e_ w' ⟨rfl, rfl⟩
      rw [e1]
      go_wp2_with fail
      refine (act_calls _ own g d hd).mono ?_
      rintro e_ w1 ⟨rfl, hd1, hm1⟩
      rw [a2] at hd1 ⊢
      go_wp2_with fail
      go_ret
      exact ⟨rfl, Turned.same hd1 hm1⟩
    · have hv : syncV d = ({ ({ d with fuse := d.fuse - 1 } : Dk) with lies := landV d.lies d.pend, pend := [] }, 0) := by
        unfold syncV
        rw [if_neg (by rw [e1]; decide), a2]
        rfl
      rw [hv]
      exact sync_full w own g d hd e1 _ a2
end Go.Proofs.Ytjaalegkmldaeaa.My
