/- New, Read. -/
import Derived.Test.YtjaalegkmldaeaaDkC
namespace Go.Proofs.Ytjaalegkmldaeaa.My
open Go.RowKit Go.Proofs.YtjaalegkmldaeaaW.PrintWords Go.Proofs.YtjaalegkmldaeaaW.PrintLast Go.Proofs.YtjaalegkmldaeaaW.PrintMore Go.Proofs.Ytjaalegkmldaeaa Go.Maps
set_option linter.unusedSimpArgs false
set_option linter.unusedVariables false
set_option maxRecDepth 100000
set_option maxHeartbeats 1600000
theorem infoPg : (Try.prog.info? 74).map (fun i => (i.zero, i.size, i.bytes)) = some (some (.agg zpage.toArray), 1024, 1024) := by kernel_rfl
theorem infoU8z : (Try.prog.info? 5).map (fun i => (i.zero, i.size, i.bytes)) = some (some (.int .u8 0), 1, 1) := by kernel_rfl
theorem pgs_blank : ∀ n : Nat, pgs (List.replicate n blank) = List.replicate (n * 1024) (Value.int .u8 0)
  | 0 => rfl
  | n + 1 => by
    rw [List.replicate_succ, pgs_cons, pgs_blank n, pg_blank, Nat.succ_mul, Nat.add_comm, List.replicate_append_replicate]
theorem made_pages (n : Nat) : madeCells zpage.toArray (n * 1024) = (pgs (List.replicate n blank)).toArray := by
  rw [pgs_blank]
  refine Array.ext (by simp [madeCells]) (fun i h1 h2 => ?_)
  have hz : zpage.toArray[i % zpage.toArray.size]! = Value.int .u8 0 := by
    have hs : zpage.toArray.size = 1024 := zpage_len
    have hlt : i % 1024 < 1024 := Nat.mod_lt _ (by decide)
    rw [hs, getElem!_pos zpage.toArray (i % 1024) (by rw [hs]; exact hlt)]
    show zpage[i % 1024]'_ = _
    unfold zpage
    rw [List.getElem_replicate]
  have e1 : (madeCells zpage.toArray (n * 1024))[i]? = some (Value.int .u8 0) := by
    simp only [madeCells, Array.getElem?_map, Array.getElem?_range]
    rw [if_pos (by simpa [madeCells] using h1)]
    exact congrArg some hz
  have e2 : (List.replicate (n * 1024) (Value.int .u8 0)).toArray[i]? = some (Value.int .u8 0) := by
    rw [List.getElem?_toArray, List.getElem?_replicate, if_pos (by simpa using h2)]
  rw [Array.getElem?_eq_getElem h1] at e1
  rw [Array.getElem?_eq_getElem h2] at e2
  exact (Option.some.inj e1).trans (Option.some.inj e2).symm
def newD (l : List ByteArray) : Dk := ⟨l, [], false, -1⟩
theorem new_ok (w : World) (m : Nat) (h : 1 ≤ m ∧ m ≤ 4096) :
    Calls Try.prog 11 #[.int .i64 (m : Int)] w fun e w' => e = .returned (.tuple #[.pointer (some ⟨w.heap.size + 2, 0, none⟩), .int .i64 0]) ∧ w'.heap.size = w.heap.size + 3 ∧ DiskAt w' (fun k => w.heap.size ≤ k ∧ k < w.heap.size + 3) (w.heap.size + 2) (newD (List.replicate m blank)) ∧ Below w.heap.size w w' := by
  have hmk : (Instr.makeSlice 66 (.int .i64 (m : Int)) (.int .i64 (m : Int))).run Try.prog w = .ok (.slice (some ⟨w.heap.size, 0, none⟩) m m) (w.alloc (.cells (pgs (List.replicate m blank)).toArray 74)) := by
    obtain ⟨i0, hi, hzz⟩ := Option.map_eq_some_iff.1 infoPg
    simp only [Prod.mk.injEq] at hzz
    have h1 := run_make (P := Try.prog) w 66 74 i0 _ Try.underlying66 hi hzz.1 .i64 .i64 (m : Int) (m : Int) (by omega) (by omega) (by rw [hzz.2.2]; omega) (by omega)
    rw [h1, hzz.2.1, Int.toNat_natCast, ← made_pages]
    rfl
  have hmm := @run_makeMap Try.prog
  have d1 : decide ((m : Int) < 1) = false := decide_eq_false (by omega)
  have d2 : decide ((m : Int) > 4096) = false := decide_eq_false (by omega)
  obtain ⟨w3, hw3⟩ : ∃ W, W = ((w.alloc (.cells (pgs (List.replicate m blank)).toArray 74)).alloc (.map #[] 0)).alloc (.cells #[.slice (some ⟨w.heap.size, 0, none⟩) m m, .slice none 0 0, .map (some (w.heap.size + 1)), .bool false, .bool false, .int .i64 0] 70) := ⟨_, rfl⟩
  have s1 : (w.alloc (.cells (pgs (List.replicate m blank)).toArray 74)).heap.size = w.heap.size + 1 := by show (w.heap.push _).size = _; rw [Array.size_push]
  have s2 : ((w.alloc (.cells (pgs (List.replicate m blank)).toArray 74)).alloc (.map #[] 0)).heap.size = w.heap.size + 2 := by show ((w.alloc _).heap.push _).size = _; rw [Array.size_push, s1]
  have s3 : w3.heap.size = w.heap.size + 3 := by rw [hw3]; show (((w.alloc _).alloc _).heap.push _).size = _; rw [Array.size_push, s2]
  have hb : Below w.heap.size w w3 := by rw [hw3]; exact (((Below.refl _ _).alloc (Nat.le_refl _) _).alloc (by rw [s1]; omega) _).alloc (by rw [s2]; omega) _
  have hD : DiskAt w3 (fun k => w.heap.size ≤ k ∧ k < w.heap.size + 3) (w.heap.size + 2) (newD (List.replicate m blank)) := by
    have hl : (newD (List.replicate m blank)).lies.length = m := List.length_replicate
    refine lies_calm (w := w) (L := w.heap.size) (M := w.heap.size + 1) (lf := 0) (cl := 0) ⟨by omega, by omega, by omega⟩ (fun k hk => by rw [s3]; exact hk.2) ?_ (fun h => absurd h (by show ¬ (0 : Int) ≤ -1; decide)) (by decide) ?_ ?_ rfl ?_
    · rw [hl, hw3]
      have := blk_new ((w.alloc (.cells (pgs (List.replicate m blank)).toArray 74)).alloc (.map #[] 0)) (.cells #[.slice (some ⟨w.heap.size, 0, none⟩) m m, .slice none 0 0, .map (some (w.heap.size + 1)), .bool false, .bool false, .int .i64 0] 70)
      rw [s2] at this
      exact this
    · rw [hw3]
      exact blk_alloc (blk_alloc (blk_new w _) _) _
    · rw [hw3]
      have := blk_new (w.alloc (.cells (pgs (List.replicate m blank)).toArray 74)) (.map #[] 0)
      rw [s1] at this
      exact blk_alloc this _
    · refine ⟨by rw [hl]; omega, by rw [hl]; omega, ?_, (by intro p hp; cases hp), Nat.zero_le _, (by show (-1 : Int) ≤ -1; decide), (by show (-1 : Int) ≤ _; decide)⟩
      intro s hs
      rw [(List.mem_replicate.1 hs).2]
      exact blank_size
  have HH := Aside0.mk (And.intro s3 (And.intro hb hD))
  clear hb hD s3
  go_enter Try.func11, Try.ntmps11
  go_wp2_with fail
  go_ret2
  rw [← hw3]
  exact ⟨rfl, HH.out.1, HH.out.2.2, HH.out.2.1⟩
theorem new_no (w : World) (n : Int) (h : ¬ (1 ≤ n ∧ n ≤ 4096)) :
    Calls Try.prog 11 #[.int .i64 n] w fun e w' => e = .returned (.tuple #[.pointer none, .int .i64 1]) ∧ w' = w := by
  go_enter Try.func11, Try.ntmps11
  by_cases h1 : n < 1
  · have d1 : decide (n < 1) = true := decide_eq_true h1
    clear h
    go_wp2_with fail
    go_ret2
    exact ⟨rfl, rfl⟩
  · have d1 : decide (n < 1) = false := decide_eq_false h1
    have d2 : decide (n > 4096) = true := decide_eq_true (by omega)
    clear h
    go_wp2_with fail
    go_ret2
    exact ⟨rfl, rfl⟩
end Go.Proofs.Ytjaalegkmldaeaa.My
