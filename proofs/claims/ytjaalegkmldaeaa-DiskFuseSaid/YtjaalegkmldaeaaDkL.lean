/- Load. -/
import Derived.Test.YtjaalegkmldaeaaDkT
import Derived.Lib.BufferWrite
namespace Go.Proofs.Ytjaalegkmldaeaa.My
open Go.RowKit Go.Lib Go.Proofs.YtjaalegkmldaeaaW.PrintWords Go.Proofs.YtjaalegkmldaeaaW.PrintLast Go.Proofs.YtjaalegkmldaeaaW.PrintMore Go.Proofs.Ytjaalegkmldaeaa Go.Maps Go.Proofs.Ytjaalegkmldaeaa.PA
set_option linter.unusedSimpArgs false
set_option linter.unusedVariables false
set_option maxRecDepth 100000
set_option maxHeartbeats 1600000
theorem new_raw (w : World) (m : Nat) (h : 1 ≤ m ∧ m ≤ 4096) :
    Calls Try.prog 11 #[.int .i64 (m : Int)] w fun e w' => e = .returned (.tuple #[.pointer (some ⟨w.heap.size + 2, 0, none⟩), .int .i64 0]) ∧ w'.heap.size = w.heap.size + 3 ∧ w'.heap[w.heap.size + 2]? = some (.cells #[.slice (some ⟨w.heap.size, 0, none⟩) m m, .slice none 0 0, .map (some (w.heap.size + 1)), .bool false, .bool false, .int .i64 0] 70 (0, 0)) ∧ w'.heap[w.heap.size]? = some (.cells (pgs (List.replicate m blank)).toArray 74 (0, 0)) ∧ w'.heap[w.heap.size + 1]? = some (.map #[] 0) ∧ Below w.heap.size w w' := by
  have hmk : (Instr.makeSlice 66 (.int .i64 (m : Int)) (.int .i64 (m : Int))).run Try.prog w = .ok (.slice (some ⟨w.heap.size, 0, none⟩) m m) (w.alloc (.cells (pgs (List.replicate m blank)).toArray 74)) := by
    obtain ⟨i0, hi, hzz⟩ := Option.map_eq_some_iff.1 infoPg
    simp only [Prod.mk.injEq] at hzz
    have h1 := run_make (P := Try.prog) w 66 74 i0 _ Try.underlying66 hi hzz.1 .i64 .i64 (m : Int) (m : Int) (by omega) (by omega) (by rw [hzz.2.2]; omega) (by omega)
    rw [h1, hzz.2.1, Int.toNat_natCast, ← made_pages]
    rfl
  have hmm := @run_makeMap Try.prog
  have d1 : decide ((m : Int) < 1) = false := decide_eq_false (by omega)
  have d2 : decide ((m : Int) > 4096) = false := decide_eq_false (by omega)
  obtain ⟨w3, hw3⟩ : ∃ W, W = ((w.alloc (.cells (pgs (List.replicate m blank)).toArray 74)).alloc (.map #[] 0)).alloc (.cells #[.slice (some ⟨w.heap.size, 0, none⟩) m m, .slice none 0 0, .map (some (w.heap.size + 1)), .bool false, .bool false, .int .i64 0] 70) := ⟨_, rfl⟩
  have s1 : (w.alloc (.cells (pgs (List.replicate m blank)).toArray 74)).heap.size = w.heap.size + 1 := by show (w.heap.push _).size = _; rw [Array.size_push]
  have s2 : ((w.alloc (.cells (pgs (List.replicate m blank)).toArray 74)).alloc (.map #[] 0)).heap.size = w.heap.size + 2 := by show ((w.alloc _).heap.push _).size = _; rw [Array.size_push, s1]
  have s3 : w3.heap.size = w.heap.size + 3 := by rw [hw3]; show (((w.alloc _).alloc _).heap.push _).size = _; rw [Array.size_push, s2]
  have hb : Below w.heap.size w w3 := by rw [hw3]; exact (((Below.refl _ _).alloc (Nat.le_refl _) _).alloc (by rw [s1]; omega) _).alloc (by rw [s2]; omega) _
  have HL := Aside0.mk (show w3.heap[w.heap.size]? = some (.cells (pgs (List.replicate m blank)).toArray 74 (0, 0)) by rw [hw3]; exact blk_alloc (blk_alloc (blk_new w _) _) _)
  have HG := Aside0.mk (show w3.heap[w.heap.size + 2]? = some (.cells #[.slice (some ⟨w.heap.size, 0, none⟩) m m, .slice none 0 0, .map (some (w.heap.size + 1)), .bool false, .bool false, .int .i64 0] 70 (0, 0)) by
    rw [hw3]
    have := blk_new ((w.alloc (.cells (pgs (List.replicate m blank)).toArray 74)).alloc (.map #[] 0)) (.cells #[.slice (some ⟨w.heap.size, 0, none⟩) m m, .slice none 0 0, .map (some (w.heap.size + 1)), .bool false, .bool false, .int .i64 0] 70)
    rw [s2] at this
    exact this)
  have HM := Aside0.mk (show w3.heap[w.heap.size + 1]? = some (.map #[] 0) by
    rw [hw3]
    have := blk_new (w.alloc (.cells (pgs (List.replicate m blank)).toArray 74)) (.map #[] 0)
    rw [s1] at this
    exact blk_alloc this _)
  have HH := Aside0.mk (And.intro s3 hb)
  clear hb s3
  go_enter Try.func11, Try.ntmps11
  go_wp2_with fail
  go_ret2
  rw [← hw3]
  exact ⟨rfl, HH.out.1, HG.out, HL.out, HM.out, HH.out.2⟩
/-- The pages of which a disk may be made. -/
def LoadOk (l : List ByteArray) : Prop := 1 ≤ l.length ∧ l.length ≤ 4096 ∧ PgOk l
theorem byteCells_pg (s : ByteArray) : byteCells s.data.toList = pg s := by
  unfold byteCells pg bytesOf
  rw [List.map_map]
  rfl
theorem mixed (l : List ByteArray) (i : Nat) (hi : i < l.length) (hP : ∀ s ∈ l.take i, s.size = 1024) : PgOk (l.take i ++ List.replicate (l.length - i) blank) ∧ (l.take i ++ List.replicate (l.length - i) blank).length = l.length ∧ (l.take i ++ List.replicate (l.length - i) blank).set i l[i] = l.take (i + 1) ++ List.replicate (l.length - (i + 1)) blank := by
  have ht : (l.take i).length = i := by rw [List.length_take]; omega
  refine ⟨fun s hs => ?_, ?_, ?_⟩
  · rcases List.mem_append.1 hs with h | h
    · exact hP s h
    · rw [(List.mem_replicate.1 h).2]
      exact blank_size
  · rw [List.length_append, ht, List.length_replicate]
    omega
  · obtain ⟨k, hk⟩ : ∃ k, l.length - i = k + 1 := ⟨l.length - i - 1, by omega⟩
    have e := List.take_succ_eq_append_getElem hi
    rw [hk, show l.length - (i + 1) = k by omega, e, List.set_append_right _ _ (by rw [ht]; exact Nat.le_refl _), ht, Nat.sub_self, List.replicate_succ, List.set_cons_zero, List.append_assoc]
    rfl
theorem copy_str (W : World) (L i : Nat) (l : List ByteArray) (hPS : PgOk l) (hi : i < l.length) (s : ByteArray) (hs : s.size = 1024) (hl : W.heap[L]? = some (.cells (pgs l).toArray 74 (0, 0))) (ty : TypeId) :
    (Builtin.copy_ #[34, 9] ty #[.slice (some ⟨L, i * 1024, none⟩) 1024 1024, .string s]).run Try.prog W = .ok (.int .i64 1024) (W.setRow L (pgs (l.set i s)).toArray) := by
  have hfit : i * 1024 + s.size ≤ (pgs l).toArray.size := by
    show _ ≤ (pgs l).length
    rw [pgs_len l hPS, hs]
    omega
  have h := run_copy_row_string (P := Try.prog) W 34 9 ty 5 L (i * 1024) 1024 1024 s (pgs l).toArray 74 Try.underlying34 (by kernel_rfl) hl (by rw [hs]; decide) hfit
  rw [byteCells_pg, hs] at h
  have e : ((pgs l).toArray.toList.take (i * 1024) ++ pg s ++ (pgs l).toArray.toList.drop (i * 1024 + 1024)).toArray = (pgs (l.set i s)).toArray := by
    rw [← pgs_set l hPS i hi s, Nat.mul_comm i 1024]
  rw [e] at h
  exact h
theorem load_calls (w : World) (A : Option Addr) (c : Nat) (l : List ByteArray) (hC : Kd.C Kd.string w A l.length l) (hsz : ∀ s ∈ l, s.size ≤ 9223372036854775807) (hll : l.length ≤ 9223372036854775807) :
    Calls Try.prog 26 #[.slice A l.length c] w fun e w' => Below w.heap.size w w' ∧ ((LoadOk l ∧ ∃ own g, e = .returned (.tuple #[.pointer (some ⟨g, 0, none⟩), .int .i64 0]) ∧ DiskAt w' own g (newD l) ∧ ∀ k, own k → w.heap.size ≤ k) ∨ (¬ LoadOk l ∧ e = .returned (.tuple #[.pointer none, .int .i64 1]))) := by
  have HC := Aside0.mk hC
  have HSZ := Aside0.mk hsz
  clear hC hsz
  go_enter Try.func26, Try.ntmps26
  by_cases hm : 1 ≤ l.length ∧ l.length ≤ 4096
  · have HMM := Aside0.mk hm
    clear hm hll
    go_wp2_with fail
    refine (new_raw w l.length HMM.out).mono ?_
    rintro e_ w1 ⟨rfl, hs, hg, hL, hM, hb⟩
    have HG := Aside0.mk hg
    have HL := Aside0.mk hL
    have HM := Aside0.mk hM
    have HS := Aside0.mk hs
    have HB := Aside0.mk hb
    clear hs hg hL hM hb
    obtain ⟨L, hLe⟩ : ∃ L, L = w.heap.size := ⟨_, rfl⟩
    have HLe := Aside0.mk hLe
    have c1 : w1.cell? ⟨w.heap.size + 2, 0, none⟩ = some (.slice (some ⟨L, 0, none⟩) l.length l.length) := by rw [hLe]; exact (blk_cell HG.out 0).trans rfl
    clear hLe
    go_wp2_with fail
    clear c1
    go_loopw [6, 7, 19] (fun _ _ v19 wr => ∃ i : Nat, v19 = .int .i64 (i : Int) ∧ i ≤ l.length ∧ (∀ s ∈ l.take i, s.size = 1024) ∧ wr.heap[L]? = some (.cells (pgs (l.take i ++ List.replicate (l.length - i) blank)).toArray 74 (0, 0)) ∧ (∀ k, k ≠ L → wr.heap[k]? = w1.heap[k]?) ∧ wr.heap.size = w1.heap.size ∧ Below w.heap.size w wr)
      (fun _ _ v19 wr => mzD l.length v19)
    case atStart => exact ⟨0, rfl, Nat.zero_le _, (by intro s hs; cases hs), (by rw [HLe.out]; exact HL.out), fun _ _ => rfl, rfl, HB.out⟩
    case round =>
      obtain ⟨i, rfl, hil, hpre, hL1, hk1, hs1, hb1⟩ := hrel
      have HP := Aside0.mk hpre
      have HLr := Aside0.mk hL1
      have HK := Aside0.mk hk1
      have HSr := Aside0.mk hs1
      have HBr := Aside0.mk hb1
      have hgr : wr.cell? ⟨w.heap.size + 2, 0, none⟩ = some (.slice (some ⟨L, 0, none⟩) l.length l.length) := by
        have e : wr.heap[w.heap.size + 2]? = _ := (hk1 _ (by rw [HLe.out]; omega)).trans HG.out
        rw [HLe.out]
        exact (blk_cell e 0).trans rfl
      clear hpre hL1 hk1 hs1 hb1
      by_cases hi : i < l.length
      · have d1 : ((i : Nat) : Int) < (l.length : Int) := by omega
        have d0 : (0 : Int) ≤ (i : Int) := Int.natCast_nonneg i
        have d2 : decide (((i : Nat) : Int) < (l.length : Int)) = true := decide_eq_true d1
        obtain ⟨ad, had, hx⟩ := Kd.at_string (Kd.C_below HC.out HBr.out) (i : Int) d0 d1
        have hgd : rdOf ByteArray.empty l (i : Int) = l[i] := by
          unfold rdOf
          rw [Int.toNat_natCast, List.getD_eq_getElem?_getD, List.getElem?_eq_getElem hi]
          rfl
        rw [hgd, Int.toNat_natCast] at hx
        subst had
        have HSS := Aside0.mk (HSZ.out _ (List.getElem_mem hi))
        have HI := Aside0.mk hi
        have hw1 : wrap64 ((i : Int) + 1) = ((i + 1 : Nat) : Int) := by unfold wrap64; have := HMM.out; omega
        obtain ⟨s, hs⟩ : ∃ s, s = l[i] := ⟨_, rfl⟩
        rw [← hs] at hx HSS
        have HSE := Aside0.mk hs
        clear hgd hs hil
        by_cases h24 : s.size = 1024
        · have d3 : decide (((s.size : Nat) : Int) ≠ 1024) = false := by rw [h24]; rfl
          have hcp := copy_str wr L i _ (mixed l i HI.out HP.out).1 (by rw [(mixed l i HI.out HP.out).2.1]; exact HI.out) s h24 HLr.out
          have HX := Aside0.mk (show (l.take i ++ List.replicate (l.length - i) blank).set i s = l.take (i + 1) ++ List.replicate (l.length - (i + 1)) blank by rw [HSE.out]; exact (mixed l i HI.out HP.out).2.2)
          rw [HX.out] at hcp
          have H24 := Aside0.mk h24
          go_wp2_with fail
          go_roundw
          case measure => first | exact mzD_step HI.out | (rw [hw1]; exact mzD_step HI.out)
          case rel =>
            refine ⟨i + 1, by first | rfl | rw [hw1], Nat.succ_le_of_lt HI.out, fun t ht => ?_, setRow_heap _ _ _ _ _ _ HLr.out, fun k hk => (setRow_other wr L k _ hk).trans (HK.out k hk), by rw [setRow_size]; exact HSr.out, below_setRow HBr.out (by rw [HLe.out]; exact Nat.le_refl _) _⟩
            rw [List.take_succ_eq_append_getElem HI.out] at ht
            rcases List.mem_append.1 ht with h | h
            · exact HP.out t h
            · rw [List.mem_singleton.1 h, ← HSE.out]
              exact H24.out
        · have H24 := Aside0.mk h24
          have d3 : (((s.size : Nat) : Int) != 1024) = true := bne_iff_ne.mpr (by omega)
          clear h24
          go_wp2_with fail
          go_ret2
          refine ⟨HBr.out, .inr ⟨fun hh => H24.out ?_, rfl⟩⟩
          rw [HSE.out]
          exact hh.2.2 _ (List.getElem_mem HI.out)
      · have hie : i = l.length := by omega
        have d1 : ¬ ((i : Nat) : Int) < (l.length : Int) := by omega
        have d2 : decide (((i : Nat) : Int) < (l.length : Int)) = false := decide_eq_false d1
        have HE := Aside0.mk hie
        clear hie hi hil
        go_wp2_with fail
        go_ret2
        have hLr := HLr.out
        have hp := HP.out
        rw [HE.out, Nat.sub_self, List.replicate_zero, List.append_nil, List.take_length] at hLr
        rw [HE.out, List.take_length] at hp
        have hL := HLe.out
        refine ⟨HBr.out, .inl ⟨⟨HMM.out.1, HMM.out.2, hp⟩, (fun k => w.heap.size ≤ k ∧ k < w.heap.size + 3), _, rfl, ?_, fun k hk => hk.1⟩⟩
        refine lies_calm (w := w) (L := w.heap.size) (M := w.heap.size + 1) (lf := 0) (cl := 0) ⟨by omega, by omega, by omega⟩ (fun k hk => by rw [HSr.out, HS.out]; exact hk.2) ((HK.out _ (by omega)).trans HG.out) (fun h => absurd h (by show ¬ (0 : Int) ≤ -1; decide)) (by decide) (by rw [← hL]; exact hLr) ((HK.out _ (by omega)).trans HM.out) rfl ?_
        exact ⟨HMM.out.1, HMM.out.2, hp, (by intro p hp; cases hp), Nat.zero_le _, (by show (-1 : Int) ≤ -1; decide), (by show (-1 : Int) ≤ _; decide)⟩
  · go_wp2_with fail
    refine (new_no w (l.length : Int) (by omega)).mono ?_
    rintro e_ w1 ⟨rfl, rfl⟩
    have HM := Aside0.mk hm
    clear hm hll
    go_wp2_with fail
    go_ret2
    exact ⟨Below.refl _ _, .inr ⟨fun hh => HM.out ⟨hh.1, hh.2.1⟩, rfl⟩⟩
theorem stands_load {w0 w : World} (hl : Below w0.heap.size w0 w) (A : Option Addr) (c : Nat) (l : List ByteArray) (hC : Kd.C Kd.string w A l.length l) (hsz : ∀ s ∈ l, s.size ≤ 9223372036854775807) (hll : l.length ≤ 9223372036854775807) :
    Calls Try.prog 26 #[.slice A l.length c] w fun e w' => Below w0.heap.size w0 w' ∧ ((LoadOk l ∧ ∃ g, e = .returned (.tuple #[.pointer (some ⟨g, 0, none⟩), .int .i64 0]) ∧ Stands w0 w' g (newD l)) ∨ (¬ LoadOk l ∧ e = .returned (.tuple #[.pointer none, .int .i64 1]))) := by
  refine (load_calls w A c l hC hsz hll).mono ?_
  rintro e w' ⟨hb, h⟩
  refine ⟨below_then hl (below_size hl) hb, ?_⟩
  rcases h with ⟨h1, own, g, h2, h3, h4⟩ | h
  · exact .inl ⟨h1, g, h2, own, h3, fun k hk => Nat.le_trans hl.size (h4 k hk), below_then hl (below_size hl) hb⟩
  · exact .inr h
end Go.Proofs.Ytjaalegkmldaeaa.My
