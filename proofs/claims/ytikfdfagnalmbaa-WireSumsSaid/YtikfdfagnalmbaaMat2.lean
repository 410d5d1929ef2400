/- The reference's Matrix: twice. -/
import Derived.Test.YtikfdfagnalmbaaMat
import Derived.Test.YtikfdfagnalmbaaMyArr
namespace Go.Proofs.Ytikfdfagnalmbaa.My
open Go.RowKit Go.Proofs.YtikfdfagnalmbaaW.PrintWords Go.Proofs.YtikfdfagnalmbaaW.PrintLast Go.Proofs.YtikfdfagnalmbaaW.PrintMore Go.Proofs.Ytikfdfagnalmbaa
set_option linter.unusedSimpArgs false
set_option linter.unusedVariables false
set_option maxRecDepth 100000
set_option maxHeartbeats 3200000
def zero32 : List Nat := List.replicate 32 0
theorem zero_row : rowA zero32 = #[.int .u32 0, .int .u32 0, .int .u32 0, .int .u32 0, .int .u32 0, .int .u32 0, .int .u32 0, .int .u32 0, .int .u32 0, .int .u32 0, .int .u32 0, .int .u32 0, .int .u32 0, .int .u32 0, .int .u32 0, .int .u32 0, .int .u32 0, .int .u32 0, .int .u32 0, .int .u32 0, .int .u32 0, .int .u32 0, .int .u32 0, .int .u32 0, .int .u32 0, .int .u32 0, .int .u32 0, .int .u32 0, .int .u32 0, .int .u32 0, .int .u32 0, .int .u32 0] := rfl
def twiceN (l : List Nat) : List Nat := l.map fun x => putU l x 32
theorem exec_run {P : Program} {S : World → Prop} {ρ : Operand → Value} {op : Oper} (s : Sem Value) {v : Value} (ho : execOp ρ op = (do pure (.value (← s)))) (hs : ∀ w, S w → s.run P w = .ok v w) : ∀ w, S w → (execOp ρ op).run P w = .ok (.value v) w := fun w h => by
  rw [ho]
  simp only [Sem.run_bind, hs w h, Result.andThen_ok, Sem.run_pure]
theorem twiceN_len (l : List Nat) : (twiceN l).length = l.length := by simp [twiceN]
theorem mix_len (A Z : List Nat) (n : Nat) (hz : Z.length = A.length) : (A.take n ++ Z.drop n).length = A.length := by
  rw [List.length_append, List.length_take, List.length_drop]; omega
theorem mix_at (A Z : List Nat) (n : Nat) (h : n < A.length) (hz : Z.length = A.length) : (A.take n ++ Z.drop n)[n]'(by rw [mix_len A Z n hz]; exact h) = Z[n]'(by omega) := by
  rw [List.getElem_append_right (by rw [List.length_take]; omega), List.getElem_drop]
  congr 1
  rw [List.length_take]; omega
theorem mix_set (A Z : List Nat) (n : Nat) (h : n < A.length) (hz : Z.length = A.length) : (A.take n ++ Z.drop n).set n A[n] = A.take (n + 1) ++ Z.drop (n + 1) := by
  rw [List.set_append_right _ _ (by rw [List.length_take]; omega), show n - (A.take n).length = 0 by rw [List.length_take]; omega, List.drop_eq_getElem_cons (by omega), List.set_cons_zero, List.take_succ_eq_append_getElem h, List.append_assoc]
  rfl
theorem zero_at (n : Nat) (h : n < zero32.length) : zero32[n] = 0 := List.getElem_replicate h
theorem below_setRow {w W : World} {g : Nat} (h : Below w.heap.size w W) (hg : w.heap.size ≤ g) (cs : Array Value) : Below w.heap.size w (W.setRow g cs) :=
  ⟨h.os, h.tape, h.output, by rw [size_setRow]; exact h.size, fun k hk => (setRow_other W g k cs (by omega)).trans (h.block k hk)⟩
section
variable {P : Program} {ops : Array Oper} {rest : List Oper} {o : Oper} {a : Act} {Q : Exit → Act → World → Prop} {W W' : World}
/-- An operation that stores, whose run is known. -/
theorem wpList_runU (s : Sem Unit) (hw : Region.wanted o (yielded ops a.tmps) = true) (ho : execOp a.eval o = (do s; pure .skip)) (hs : s.run P W = .ok () W')
    (h : wpList P ops Q rest (a.put o.dst undef) W') : wpList P ops Q (o :: rest) a W := by
  refine wpList_step fun K hK => ?_
  simp only [hw, if_true]
  unfold Oper.wp
  rw [ho]
  simp only [Sem.run_bind, hs, Result.andThen_ok, Sem.run_pure, Oper.upon_skip]
  exact hK _ _ h
end
theorem twice_calls (l : List Nat) (w : World) (hl : l.length = 32) (hlt : ∀ x ∈ l, x < 4294967296) : Calls Try.prog 50 #[.agg (rowA l)] w fun r w' => r = .returned (.agg (rowA (twiceN l))) ∧ Below w.heap.size w w' := by
  go_enter Try.func50, Try.ntmps50
  go_wp2_with fail
  rw [← zero_row]
  generalize hW : ((w.alloc (.cells (rowA l) 82)).alloc (.cells (rowA zero32) 82)).alloc (.cells (rowA zero32) 82) = W
  have e1 : (w.alloc (.cells (rowA l) 82)).heap.size = w.heap.size + 1 := by show (w.heap.push _).size = _; rw [Array.size_push]
  have e2 : ((w.alloc (.cells (rowA l) 82)).alloc (.cells (rowA zero32) 82)).heap.size = w.heap.size + 1 + 1 := by show ((w.alloc _).heap.push _).size = _; rw [Array.size_push, e1]
  have hM : MB W w.heap.size l := by rw [← hW]; exact blk_alloc (blk_alloc (mW_push _ _ _ _) _) _
  have hR : MB W (w.heap.size + 1) zero32 := by rw [← hW]; unfold MB; rw [← e1]; exact blk_alloc (mW_push _ _ _ _) _
  have hT : MB W (w.heap.size + 1 + 1) zero32 := by rw [← hW]; unfold MB; rw [← e2]; exact mW_push _ _ _ _
  have hB : Below w.heap.size w W := by rw [← hW]; exact (((Below.refl _ _).alloc (Nat.le_refl _) _).alloc (by rw [e1]; omega) _).alloc (by rw [e2]; omega) _
  clear e1 e2 hW
  have HLD : Aside0 (∀ w' : World, MB w' w.heap.size l → (Instr.loadAt 82 (.pointer (some ⟨w.heap.size, 0, none⟩))).run Try.prog w' = .ok (.agg (rowA l)) w') := ⟨fun w' h => by
    simp only [Instr.loadAt, Instr.sureAddr, Sem.run_bind, Sem.run_pure, Result.andThen_ok]
    exact run_loadVar_row w' w.heap.size _ _ (rowA l) (0, 0) _ h Try.underlying82 rfl ((show _ = some 32 by kernel_rfl).trans (by rw [rowA]; simp [hl]))⟩
  generalize hq : w.heap.size = q at *
  go_loopw [4] (fun iv wr => ∃ n : Nat, n ≤ 32 ∧ iv = .int .i64 (n : Int) ∧ Aside0 (MB wr q l) ∧ Aside0 (MB wr (q + 1) zero32) ∧ Aside0 (MB wr (q + 1 + 1) ((twiceN l).take n ++ zero32.drop n)) ∧ Aside0 (Below w.heap.size w wr)) (fun iv _ => (32 - intOf iv).toNat)
  case atStart => exact ⟨0, by omega, rfl, ⟨hM⟩, ⟨hR⟩, ⟨hT⟩, ⟨by rw [hq]; exact hB⟩⟩
  case round =>
    clear hM hR hT hB
    obtain ⟨n, hn, rfl, hMq, hRq, hT, hB⟩ := hrel
    by_cases h32 : n < 32
    · obtain ⟨x, hxe⟩ : ∃ x, x = l[n]'(by omega) := ⟨_, rfl⟩
      have hx : x < 4294967296 := by rw [hxe]; exact hlt _ (List.getElem_mem _)
      have hcell : wr.cell? ⟨q, n, none⟩ = some (.int .u32 (x : Int)) := by rw [hxe]; exact hMq.out.cell n (by omega)
      have hi1 : (n : Int) < 32 := by omega
      have hi0 : (0 : Int) ≤ (n : Int) := by omega
      have hfz : wr.frozen? ⟨q + 1 + 1, n, none⟩ = false := blk_frozen hT.out n
      go_wp2_with fail
      have hld := HLD.out wr.drew hMq.out
      have HXE := Aside0.mk hxe
      clear hxe
      refine start_ (n := 8) (S := fun w' => (Instr.loadAt 82 (.pointer (some ⟨q, 0, none⟩))).run Try.prog w' = .ok (.agg (rowA l)) w' ∧ w'.cell? ⟨q, n, none⟩ = some (.int .u32 (x : Int))) (ds := [7]) #[false, false, false, false, false, false, false, false] (by kernel_rfl) rfl rfl (⟨hld, hcell⟩) (fun hHeld => ?_)
      have hTd := Aside0.mk (show MB wr.drew (q + 1 + 1) _ from hT.out)
      have hRd := Aside0.mk (show MB wr.drew (q + 1) _ from hRq.out)
      have hMd := Aside0.mk (show MB wr.drew q _ from hMq.out)
      have hBd := Aside0.mk (below_drew1 hB.out)
      have hfz2 : wr.drew.frozen? ⟨q + 1 + 1, n, none⟩ = false := hfz
      clear hT hRq hMq hB hfz
      generalize wr.drew = w2 at hTd hRd hMd hBd hfz2 hHeld ⊢
      refine pure_ (i := 0) (N := some 9) (v := ?_) (a' := ?_) #[true, false, false, false, false, false, false, false] rfl rfl (by kernel_rfl) (fun _ _ _ h => h) (Or.inl ⟨by rfl, ?_⟩) ?_ ?_
      rotate_left
      · intro w'
        go_simp
        with_reducible rfl
      rotate_left
      · simp only [Act.put, List.setIfInBounds_toArray, List.set_cons_zero, List.set_cons_succ, i64_w, i32_w]
        rfl
      refine take_ (i := 1) (N := some 10) (v := (.agg (rowA l))) (a' := ?_) #[true, true, false, false, false, false, false, false] rfl rfl (by kernel_rfl) (fun _ _ _ h => h) (Or.inl ⟨by rfl, ?_⟩) hHeld ?_ ?_
      · exact exec_run (Instr.loadAt 82 (.pointer (some ⟨q, 0, none⟩))) rfl (fun w' h => h.1)
      rotate_left
      · simp only [Act.put, List.setIfInBounds_toArray, List.set_cons_zero, List.set_cons_succ, i64_w, i32_w]
        rfl
      refine pure_ (i := 2) (N := some 11) (v := ?_) (a' := ?_) #[true, true, true, false, false, false, false, false] rfl rfl (by kernel_rfl) (fun _ _ _ h => h) (Or.inl ⟨by rfl, ?_⟩) ?_ ?_
      rotate_left
      · intro w'
        go_simp
        with_reducible rfl
      rotate_left
      · simp only [Act.put, List.setIfInBounds_toArray, List.set_cons_zero, List.set_cons_succ, i64_w, i32_w]
        rfl
      refine pure_ (i := 3) (N := some 12) (v := ?_) (a' := ?_) #[true, true, true, true, false, false, false, false] rfl rfl (by kernel_rfl) (fun _ _ _ h => h) (Or.inl ⟨by rfl, ?_⟩) ?_ ?_
      rotate_left
      · intro w'
        go_simp
        with_reducible rfl
      rotate_left
      · simp only [Act.put, List.setIfInBounds_toArray, List.set_cons_zero, List.set_cons_succ, i64_w, i32_w]
        rfl
      refine take_ (i := 4) (N := some 13) (v := ?_) (a' := ?_) #[true, true, true, true, true, false, false, false] rfl rfl (by kernel_rfl) (fun _ _ _ h => h) (Or.inl ⟨by rfl, ?_⟩) hHeld ?_ ?_
      rotate_left
      · intro w' hS
        go_simp
        with_reducible rfl
      rotate_left
      · simp only [Act.put, List.setIfInBounds_toArray, List.set_cons_zero, List.set_cons_succ, i64_w, i32_w]
        rfl
      refine one_ (i := 5) (N := some 14) #[true, true, true, true, true, true, false, false] rfl rfl (by kernel_rfl) (by decide) (fun K hK => ?_)
      refine goes_ Try.func49 (by kernel_rfl) rfl #[.agg (rowA l), .int .u32 (x : Int)] (by rfl) rfl rfl (by simp only [List.map_toArray, List.map_cons, List.map_nil]; rfl) ?_
      refine (put_calls l x _ hl hlt hx).mono ?_
      rintro e w3 ⟨rfl, hb3⟩
      refine ⟨_, rfl, ?_⟩
      have hMq3 := (hb3.block _ (blk_lt hMd.out)).trans hMd.out
      have hT3 := (hb3.block _ (blk_lt hTd.out)).trans hTd.out
      have hR3 := (hb3.block _ (blk_lt hRd.out)).trans hRd.out
      have hB3 := below_then hBd.out (below_size hBd.out) hb3
      have hfz3 : w3.frozen? ⟨q + 1 + 1, n, none⟩ = false := blk_frozen hT3 n
      have hc3 : w3.cell? ⟨q + 1 + 1, n, none⟩ = some (.int .u32 0) := by have h9 := MB.cell hT3 n (by rw [mix_len _ _ n (by rw [twiceN_len, hl]; rfl), twiceN_len, hl]; exact h32); rw [h9, mix_at _ _ n (by rw [twiceN_len, hl]; exact h32) (by rw [twiceN_len, hl]; rfl), zero_at]; rfl
      refine hK.out _ _ (⟨HLD.out _ hMq3, by rw [HXE.out]; exact MB.cell hMq3 n (by omega)⟩) (fun hHeld => ?_)
      clear hK K
      refine norm_ (a' := ?_) ?_ ?_
      rotate_left
      · show Act.put _ (some 14) _ = _
        simp only [Act.put, List.setIfInBounds_toArray, List.set_cons_zero, List.set_cons_succ, i64_w, i32_w]
        rfl
      refine pure_ (i := 6) (N := some 15) (v := ?_) (a' := ?_) #[true, true, true, true, true, true, true, false] rfl rfl (by kernel_rfl) (fun _ _ _ h => h) (Or.inl ⟨by rfl, ?_⟩) ?_ ?_
      rotate_left
      · intro w'
        go_simp
        with_reducible rfl
      rotate_left
      · simp only [Act.put, List.setIfInBounds_toArray, List.set_cons_zero, List.set_cons_succ, i64_w, i32_w]
        rfl
      refine last_ (i := 7) (N := none) #[true, true, true, true, true, true, true, true] rfl rfl (by kernel_rfl) (by decide) (fun K hK => ?_)
      refine skip_ (w1 := ?_) (by rfl) rfl ?_ ?_
      rotate_left
      · go_simp
        rfl
      refine hK.out _ _ ?_
      clear hK K
      refine done_ (by kernel_rfl) ?_
      try go_wp2
      have hMf := (blk_far hMq3 (p := ⟨q + 1 + 1, n, none⟩) (by show q ≠ q + 1 + 1; omega) (.int .u32 ((putU l x 32 : Nat) : Int)))
      have hRf := (blk_far hR3 (p := ⟨q + 1 + 1, n, none⟩) (by show q + 1 ≠ q + 1 + 1; omega) (.int .u32 ((putU l x 32 : Nat) : Int)))
      have hTf := MB.set hT3 n (putU l x 32)
      have hAx : (twiceN l)[n]'(by rw [twiceN_len, hl]; exact h32) = putU l x 32 := by simp only [twiceN, List.getElem_map]; rw [HXE.out]
      rw [← hAx, mix_set _ _ n (by rw [twiceN_len, hl]; exact h32) (by rw [twiceN_len, hl]; rfl), hAx] at hTf
      refine ⟨⟨n + 1, by omega, rfl, ⟨hMf⟩, ⟨hRf⟩, ⟨hTf⟩, ⟨below_set (g := q + 1 + 1) hB3 (by omega)⟩⟩, ?_⟩
      simp [intOf]
      omega
    · obtain rfl : n = 32 := by omega
      have hTl : (twiceN l).take 32 ++ zero32.drop 32 = twiceN l := by
        rw [List.take_of_length_le (by simp [twiceN, hl]), show zero32.drop 32 = [] from rfl, List.append_nil]
      rw [hTl] at hT
      have hl2 : (twiceN l).length = 32 := by simp [twiceN, hl]
      have hld2 := Aside0.mk (show (Instr.loadAt 82 (.pointer (some ⟨q + 1 + 1, 0, none⟩))).run Try.prog wr = .ok (.agg (rowA (twiceN l))) wr by
        simp only [Instr.loadAt, Instr.sureAddr, Sem.run_bind, Sem.run_pure, Result.andThen_ok]
        exact run_loadVar_row wr (q + 1 + 1) _ _ (rowA (twiceN l)) (0, 0) _ hT.out Try.underlying82 rfl ((show _ = some 32 by kernel_rfl).trans (by rw [rowA]; simp [hl2])))
      have hst2 := Aside0.mk (show (Instr.storeAt 82 (.pointer (some ⟨q + 1, 0, none⟩)) (.agg (rowA (twiceN l)))).run Try.prog wr = .ok () (wr.setRow (q + 1) (rowA (twiceN l))) by
        simp only [Instr.storeAt, Instr.sureAddr, Sem.run_bind, Sem.run_pure, Result.andThen_ok]
        exact run_storeVar_row wr (q + 1) _ _ (rowA zero32) (rowA (twiceN l)) hRq.out ((show _ = some 32 by kernel_rfl).trans (by rw [rowA]; simp [hl2])) (by simp [rowA, hl2, zero32]) (by simp [rowA, Value.oneCell']))
      go_wp2_with (first | (refine wpList_run (Instr.loadAt 82 (.pointer (some ⟨q + 1 + 1, 0, none⟩))) rfl rfl hld2.out ?_) | (refine wpList_runU (Instr.storeAt 82 (.pointer (some ⟨q + 1, 0, none⟩)) (.agg (rowA (twiceN l)))) rfl rfl hst2.out ?_))
      refine bodyPost_ret (results_cell_row rfl _ _ (q + 1) 82 (rowA (twiceN l)) (0, 0) _ rfl (setRow_heap wr (q + 1) _ _ _ _ hRq.out) Try.underlying82 rfl ((show _ = some 32 by kernel_rfl).trans (by rw [rowA]; simp [hl2]))) rfl ⟨rfl, below_setRow hB.out (by omega) _⟩
end Go.Proofs.Ytikfdfagnalmbaa.My
