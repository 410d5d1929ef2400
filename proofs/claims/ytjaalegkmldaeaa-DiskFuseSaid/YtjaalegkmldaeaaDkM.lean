/- The small methods of a disk. -/
import Derived.Test.YtjaalegkmldaeaaDkB
namespace Go.Proofs.Ytjaalegkmldaeaa.My
open Go.RowKit Go.Proofs.YtjaalegkmldaeaaW.PrintWords Go.Proofs.YtjaalegkmldaeaaW.PrintLast Go.Proofs.YtjaalegkmldaeaaW.PrintMore Go.Proofs.Ytjaalegkmldaeaa Go.Maps
set_option linter.unusedSimpArgs false
set_option linter.unusedVariables false
set_option maxRecDepth 100000
theorem wf64 {n : Int} (h : -9223372036854775808 ≤ n ∧ n ≤ 9223372036854775807) : (Lit.int .i64 n).wf = true := by
  simp [Lit.wf, IntKind.min, IntKind.max, IntKind.signed, IntKind.bits]
  omega
theorem readyV_cases (d : Dk) (n : Int) : (d.off = true ∧ readyV d n = 40) ∨ (d.off = false ∧ (n < 0 ∨ (d.lies.length : Int) ≤ n) ∧ readyV d n = 1) ∨ (d.off = false ∧ 0 ≤ n ∧ n < (d.lies.length : Int) ∧ readyV d n = 0) := by
  unfold readyV
  cases d.off with
  | true => exact .inl ⟨rfl, if_pos rfl⟩
  | false =>
    rw [if_neg (by decide)]
    by_cases h : n < 0 ∨ (d.lies.length : Int) ≤ n
    · rw [if_pos h]; exact .inr (.inl ⟨rfl, h, rfl⟩)
    · rw [if_neg h]; exact .inr (.inr ⟨rfl, by omega, by omega, rfl⟩)
theorem ready_calls (w : World) (own : Nat → Prop) (g : Nat) (d : Dk) (hd : DiskAt w own g d) (n : Int) :
    Calls Try.prog 34 #[.pointer (some ⟨g, 0, none⟩), .int .i64 n] w fun e w' => e = .returned (.int .i64 (readyV d n)) ∧ w' = w := by
  obtain ⟨L, M, pv, ps, lf, D, h⟩ := hd
  have c0 : w.cell? ⟨g, 0, none⟩ = some (.slice (some ⟨L, 0, none⟩) d.lies.length d.lies.length) := (blk_cell h.hg 0).trans rfl
  have c3 : w.cell? ⟨g, 3, none⟩ = some (.bool d.off) := (blk_cell h.hg 3).trans rfl
  rcases readyV_cases d n with ⟨e1, e2⟩ | ⟨e1, hn, e2⟩ | ⟨e1, h0, h1, e2⟩
  · rw [e2]
    rw [e1] at c3
    clear h e1 e2
    go_enter Try.func34, Try.ntmps34
    go_wp2_with fail
    go_ret
    exact ⟨rfl, rfl⟩
  · rw [e2]
    rw [e1] at c3
    clear h e1 e2
    go_enter Try.func34, Try.ntmps34
    by_cases hn0 : n < 0
    · have d1 : decide (n < 0) = true := decide_eq_true hn0
      clear hn
      go_wp2_with fail
      go_ret
      exact ⟨rfl, rfl⟩
    · have d1 : decide (n < 0) = false := decide_eq_false hn0
      have d2 : decide (n ≥ (d.lies.length : Int)) = true := decide_eq_true (by omega)
      clear hn
      go_wp2_with fail
      go_ret
      exact ⟨rfl, rfl⟩
  · rw [e2]
    rw [e1] at c3
    have d1 : decide (n < 0) = false := decide_eq_false (by omega)
    have d2 : decide (n ≥ (d.lies.length : Int)) = false := decide_eq_false (by omega)
    clear h e1 e2 h0 h1
    go_enter Try.func34, Try.ntmps34
    go_wp2_with fail
    go_ret
    exact ⟨rfl, rfl⟩
/-- The disk's cells anew. -/
theorem Lies.poke {w : World} {own : Nat → Prop} {g L M : Nat} {pv : Value} {ps : List Nat} {lf : Int} {D : DataW Unit} {d d' : Dk} (h : Lies w own g L M pv ps lf D d) (i : Nat) (v : Value) (lf' : Int)
    (hl : d'.lies = d.lies) (hp : d'.pend = d.pend) (hok : DkOk d') (hf : 0 ≤ d'.fuse → lf' = d'.fuse) (hw : (Lit.int .i64 lf').wf = true)
    (hc : (#[.slice (some ⟨L, 0, none⟩) d.lies.length d.lies.length, pv, .map (some M), .bool d.off, .bool (decide (0 ≤ d.fuse)), .int .i64 lf] : Array Value).setIfInBounds i v = #[.slice (some ⟨L, 0, none⟩) d.lies.length d.lies.length, pv, .map (some M), .bool d'.off, .bool (decide (0 ≤ d'.fuse)), .int .i64 lf']) :
    Lies (w.setCell ⟨g, i, none⟩ v) own g L M pv ps lf' D d' ∧ Moved own w (w.setCell ⟨g, i, none⟩ v) := by
  have hsz : (w.setCell ⟨g, i, none⟩ v).heap.size = w.heap.size := by
    have := (Below.refl 0 w).setCell (p := ⟨g, i, none⟩) (Nat.zero_le _) v
    exact Nat.le_antisymm (by simp) this.size
  have far : ∀ k, k ≠ g → (w.setCell ⟨g, i, none⟩ v).heap[k]? = w.heap[k]? := fun k hk => Below.heap_setCell w ⟨g, i, none⟩ v k hk
  have hLg : L ≠ g := blk_ne h.hL h.hg (by decide)
  have hMg : M ≠ g := fun e => by
    obtain ⟨es, clock, hb, _⟩ := h.hm
    rw [e, h.hg] at hb
    cases hb
  have hPg : ∀ k (h1 : k < ps.length), ps[k] ≠ g := fun k h1 => blk_ne (h.hP k h1 (by rw [← h.len]; exact h1)) h.hg (by decide)
  refine ⟨{ og := h.og, oL := h.oL, oM := h.oM, oP := h.oP, lt := fun k ho => by rw [hsz]; exact h.lt k ho, hg := ?_, hf := hf, hw := hw, hL := ?_, len := by rw [hp]; exact h.len, hP := ?_, hr := ?_, hm := ?_, tells := by rw [hp]; exact h.tells, ok := hok }, ?_⟩
  · rw [hl]; exact blk_put h.hg i v hc
  · rw [hl]; exact (far L hLg).trans h.hL
  · intro k h1 h2
    have h2' : k < d.pend.length := by rw [← hp]; exact h2
    have e : d'.pend[k] = d.pend[k] := by simp only [hp]
    rw [e]
    exact (far _ (hPg k h1)).trans (h.hP k h1 h2')
  · rw [hp]
    exact Kd.R_mono (Kd.R_far (p := ⟨g, i, none⟩) (Kd.R_types h.hr h.hg (by simp [kW])) (fun _ hk => hk.2) v) (fun _ hk => hk.1)
  · rw [hp]; exact ownsMap_step h.hm (far M hMg)
  · exact ⟨(Below.refl 0 w).setCell (Nat.zero_le _) v, ⟨by rw [hsz]; exact Nat.le_refl _, fun k hk hn => far k (fun e => hn (e ▸ h.og))⟩⟩
theorem actV_cases (d : Dk) (ho : DkOk d) : (d.fuse < 0 ∧ actV d = (d, 0)) ∨ (d.fuse = 0 ∧ actV d = ({ d with off := true }, 40)) ∨ (0 < d.fuse ∧ actV d = ({ d with fuse := d.fuse - 1 }, 0)) := by
  unfold actV
  by_cases h : d.fuse < 0
  · exact .inl ⟨h, if_pos h⟩
  · rw [if_neg h]
    by_cases h0 : d.fuse = 0
    · exact .inr (.inl ⟨h0, if_pos h0⟩)
    · exact .inr (.inr ⟨by omega, if_neg h0⟩)
theorem act_calls (w : World) (own : Nat → Prop) (g : Nat) (d : Dk) (hd : DiskAt w own g d) :
    Calls Try.prog 35 #[.pointer (some ⟨g, 0, none⟩)] w fun e w' => e = .returned (.int .i64 (actV d).2) ∧ DiskAt w' own g (actV d).1 ∧ Moved own w w' := by
  obtain ⟨L, M, pv, ps, lf, D, h⟩ := hd
  have c3 : w.cell? ⟨g, 3, none⟩ = some (.bool d.off) := (blk_cell h.hg 3).trans rfl
  have c4 : w.cell? ⟨g, 4, none⟩ = some (.bool (decide (0 ≤ d.fuse))) := (blk_cell h.hg 4).trans rfl
  have c5 : w.cell? ⟨g, 5, none⟩ = some (.int .i64 lf) := (blk_cell h.hg 5).trans rfl
  have f3 := blk_frozen h.hg 3
  have f5 := blk_frozen h.hg 5
  have ho := h.ok
  rcases actV_cases d ho with ⟨e1, e2⟩ | ⟨e1, e2⟩ | ⟨e1, e2⟩
  · rw [e2]
    rw [decide_eq_false (by omega)] at c4
    have HH := Aside0.mk h
    clear h e1 e2 ho
    go_enter Try.func35, Try.ntmps35
    go_wp2_with fail
    go_ret
    exact ⟨rfl, ⟨L, M, pv, ps, lf, D, HH.out⟩, Moved.refl _ _⟩
  · rw [e2]
    rw [decide_eq_true (by omega)] at c4
    have hl0 : lf = 0 := by rw [h.hf (by omega)]; exact e1
    subst hl0
    have HP := Aside0.mk (h.poke (d' := { d with off := true }) 3 (.bool true) 0 rfl rfl ⟨ho.some, ho.few, ho.size, ho.pend, ho.many, ho.lo, ho.hi⟩ (fun _ => e1.symm) (by decide) rfl)
    clear h e1 e2 ho
    go_enter Try.func35, Try.ntmps35
    go_wp2_with fail
    go_ret
    exact ⟨rfl, ⟨L, M, pv, ps, 0, D, HP.out.1⟩, HP.out.2⟩
  · rw [e2]
    rw [decide_eq_true (by omega)] at c4
    have hl0 : lf = d.fuse := h.hf (by omega)
    subst hl0
    have hh := ho.hi
    have w1 : wrap64 (d.fuse - 1) = d.fuse - 1 := by unfold wrap64; omega
    have z1 : (d.fuse == 0) = false := by rw [beq_eq_false_iff_ne]; omega
    have HP := Aside0.mk (h.poke (d' := { d with fuse := d.fuse - 1 }) 5 (.int .i64 (d.fuse - 1)) (d.fuse - 1) rfl rfl ⟨ho.some, ho.few, ho.size, ho.pend, ho.many, by show -1 ≤ d.fuse - 1; omega, by show d.fuse - 1 ≤ _; omega⟩ (fun _ => rfl) (wf64 (by omega)) (by rw [decide_eq_true (show 0 ≤ d.fuse by omega), show decide (0 ≤ ({ d with fuse := d.fuse - 1 } : Dk).fuse) = true from decide_eq_true (show 0 ≤ d.fuse - 1 by omega)]; rfl))
    clear h e1 e2 ho hh
    go_enter Try.func35, Try.ntmps35
    go_wp2_with fail
    go_ret
    exact ⟨rfl, ⟨L, M, pv, ps, _, D, HP.out.1⟩, HP.out.2⟩
end Go.Proofs.Ytjaalegkmldaeaa.My
