/- Write, whatever is asked; Fuse, Lit, Pending, Pages. -/
import Derived.Test.YtjaalegkmldaeaaDkW
namespace Go.Proofs.Ytjaalegkmldaeaa.My
open Go.RowKit Go.Proofs.YtjaalegkmldaeaaW.PrintWords Go.Proofs.YtjaalegkmldaeaaW.PrintLast Go.Proofs.YtjaalegkmldaeaaW.PrintMore Go.Proofs.Ytjaalegkmldaeaa Go.Maps
set_option linter.unusedSimpArgs false
set_option linter.unusedVariables false
set_option maxRecDepth 100000
set_option maxHeartbeats 1600000
/-- What a call leaves of a disk. -/
def Turned (own : Nat → Prop) (w w' : World) (g : Nat) (d : Dk) : Prop := ∃ own', (∀ k, own' k → own k ∨ w.heap.size ≤ k) ∧ DiskAt w' own' g d ∧ Moved own w w'
theorem Turned.same {own : Nat → Prop} {w w' : World} {g : Nat} {d : Dk} (h : DiskAt w' own g d) (hm : Moved own w w') : Turned own w w' g d := ⟨own, fun _ hk => .inl hk, h, hm⟩
theorem write_calls (w : World) (own : Nat → Prop) (g : Nat) (d : Dk) (hd : DiskAt w own g d) (n : Int) (A : Option Addr) (c : Nat) (s : ByteArray) (hA : ∀ w', Kept w w' own → Kd.C (Kd.int .u8) w' A s.size (bytesOf s)) (hroom : d.pend.length < 2199023255552) :
    Calls Try.prog 13 #[.pointer (some ⟨g, 0, none⟩), .int .i64 n, .slice A s.size c] w fun e w' => e = .returned (.int .i64 (writeV d n s).2) ∧ Turned own w w' g (writeV d n s).1 := by
  by_cases h0 : readyV d n = 0
  · by_cases hs : s.size = 1024
    · rcases actV_cases d hd.ok with ⟨e1, e2⟩ | ⟨e1, e2⟩ | ⟨e1, e2⟩
      · have hwv : writeV d n s = ({ d with pend := d.pend ++ [(n.toNat, s)] }, 0) := by
          unfold writeV
          rw [if_neg (by rw [h0]; decide), if_neg (by rw [hs]; decide), e2]
          rfl
        obtain ⟨m, rfl⟩ : ∃ m : Nat, n = (m : Int) := ⟨n.toNat, by rcases readyV_cases d n with ⟨_, e⟩ | ⟨_, _, e⟩ | ⟨_, e, _, _⟩ <;> omega⟩
        rw [hwv, Int.toNat_natCast]
        obtain ⟨ad, rfl, _⟩ := (hA w (Kept.refl _ _)).2.2 (by rw [hs]; decide)
        refine (write_full w own g d hd m ad c s hs hA hroom h0 d e2).mono ?_
        rintro e w' ⟨rfl, own', ho, hd', hm⟩
        exact ⟨rfl, own', ho, hd', hm⟩
      · have hwv : writeV d n s = ({ d with off := true }, 40) := by
          unfold writeV
          rw [if_neg (by rw [h0]; decide), if_neg (by rw [hs]; decide), e2]
          rfl
        rw [hwv]
        rw [hs]
        clear hA
        go_enter Try.func13, Try.ntmps13
        go_wp2_with fail
        refine (ready_calls w own g d hd n).mono ?_
        rintro e_ w' ⟨rfl, rfl⟩
        rw [h0]
        go_wp2_with fail
        refine (act_calls _ own g d hd).mono ?_
        rintro e_ w1 ⟨rfl, hd1, hm1⟩
        rw [e2] at hd1 ⊢
        go_wp2_with fail
        go_ret
        exact ⟨rfl, Turned.same hd1 hm1⟩
      · have hwv : writeV d n s = ({ ({ d with fuse := d.fuse - 1 } : Dk) with pend := d.pend ++ [(n.toNat, s)] }, 0) := by
          unfold writeV
          rw [if_neg (by rw [h0]; decide), if_neg (by rw [hs]; decide), e2]
          rfl
        obtain ⟨m, rfl⟩ : ∃ m : Nat, n = (m : Int) := ⟨n.toNat, by rcases readyV_cases d n with ⟨_, e⟩ | ⟨_, _, e⟩ | ⟨_, e, _, _⟩ <;> omega⟩
        rw [hwv, Int.toNat_natCast]
        obtain ⟨ad, rfl, _⟩ := (hA w (Kept.refl _ _)).2.2 (by rw [hs]; decide)
        refine (write_full w own g d hd m ad c s hs hA hroom h0 _ e2).mono ?_
        rintro e w' ⟨rfl, own', ho, hd', hm⟩
        exact ⟨rfl, own', ho, hd', hm⟩
    · have hwv : writeV d n s = (d, 1) := by
        unfold writeV
        rw [if_neg (by rw [h0]; decide), if_pos hs]
      rw [hwv]
      have hne : ((s.size : Int) != 1024) = true := by
        rw [bne_iff_ne]
        omega
      have hlen := (hA w (Kept.refl _ _)).2.1
      clear hA
      go_enter Try.func13, Try.ntmps13
      go_wp2_with fail
      refine (ready_calls w own g d hd n).mono ?_
      rintro e_ w' ⟨rfl, rfl⟩
      rw [h0]
      go_wp2_with fail
      go_ret
      exact ⟨rfl, Turned.same hd (Moved.refl _ _)⟩
  · have hwv : writeV d n s = (d, readyV d n) := by
      unfold writeV
      rw [if_pos h0]
    rw [hwv]
    have hr : readyV d n = 40 ∨ readyV d n = 1 := by
      rcases readyV_cases d n with ⟨_, e⟩ | ⟨_, _, e⟩ | ⟨_, _, _, e⟩
      · exact .inl e
      · exact .inr e
      · exact absurd e h0
    clear hA hwv h0
    rcases hr with hr | hr <;> rw [hr]
    · go_enter Try.func13, Try.ntmps13
      go_wp2_with fail
      refine (ready_calls w own g d hd n).mono ?_
      rintro e_ w' ⟨rfl, rfl⟩
      rw [hr]
      go_wp2_with fail
      go_ret
      exact ⟨rfl, Turned.same hd (Moved.refl _ _)⟩
    · go_enter Try.func13, Try.ntmps13
      go_wp2_with fail
      refine (ready_calls w own g d hd n).mono ?_
      rintro e_ w' ⟨rfl, rfl⟩
      rw [hr]
      go_wp2_with fail
      go_ret
      exact ⟨rfl, Turned.same hd (Moved.refl _ _)⟩
/-- The disk's cells anew, whatever has turned of them. -/
theorem Lies.turn {w w' : World} {own : Nat → Prop} {g L M : Nat} {pv : Value} {ps : List Nat} {lf : Int} {D : DataW Unit} {d d' : Dk} (h : Lies w own g L M pv ps lf D d) (lf' : Int)
    (hl : d'.lies = d.lies) (hp : d'.pend = d.pend) (hok : DkOk d') (hf : 0 ≤ d'.fuse → lf' = d'.fuse) (hw : (Lit.int .i64 lf').wf = true)
    (hc : w'.heap[g]? = some (.cells #[.slice (some ⟨L, 0, none⟩) d'.lies.length d'.lies.length, pv, .map (some M), .bool d'.off, .bool (decide (0 ≤ d'.fuse)), .int .i64 lf'] 70 (0, 0)))
    (hsz : w'.heap.size = w.heap.size) (far : ∀ k, k ≠ g → w'.heap[k]? = w.heap[k]?) (hb : Below 0 w w') : Lies w' own g L M pv ps lf' D d' ∧ Moved own w w' := by
  have hLg : L ≠ g := blk_ne h.hL h.hg (by decide)
  have hMg : M ≠ g := fun e => by
    obtain ⟨es, cl, hb⟩ := h.map_at
    rw [e, h.hg] at hb
    cases hb
  have hPg : ∀ k (h1 : k < ps.length), ps[k] ≠ g := fun k h1 => blk_ne (h.hP k h1 (by rw [← h.len]; exact h1)) h.hg (by decide)
  refine ⟨{ og := h.og, oL := h.oL, oM := h.oM, oP := h.oP, lt := fun k ho => by rw [hsz]; exact h.lt k ho, hg := hc, hf := hf, hw := hw, hL := ?_, len := by rw [hp]; exact h.len, hP := ?_, hr := ?_, hm := ?_, tells := by rw [hp]; exact h.tells, ok := hok }, hb, by rw [hsz]; exact Nat.le_refl _, fun k hk hn => far k (fun e => hn (e ▸ h.og))⟩
  · rw [hl]; exact (far L hLg).trans h.hL
  · intro k h1 h2
    have h2' : k < d.pend.length := by rw [← hp]; exact h2
    have e : d'.pend[k] = d.pend[k] := by simp only [hp]
    rw [e]
    exact (far _ (hPg k h1)).trans (h.hP k h1 h2')
  · rw [hp]
    exact Kd.R_mono (Kd.R_step (Kd.R_types h.hr h.hg (by simp [kW])) (fun k hk _ => far k hk.2)) (fun _ hk => hk.1)
  · rw [hp]; exact ownsMap_step h.hm (far M hMg)
theorem fuse_calls (w : World) (own : Nat → Prop) (g : Nat) (d : Dk) (hd : DiskAt w own g d) (n : Int) (hn : (Lit.int .i64 n).wf = true) :
    Calls Try.prog 17 #[.pointer (some ⟨g, 0, none⟩), .int .i64 n] w fun e w' => e = .returned (.tuple #[]) ∧ DiskAt w' own g (fuseV d n) ∧ Moved own w w' := by
  obtain ⟨L, M, pv, ps, lf, D, h⟩ := hd
  have hn' : -9223372036854775808 ≤ n ∧ n ≤ 9223372036854775807 := by
    simp [Lit.wf, IntKind.min, IntKind.max, IntKind.signed, IntKind.bits] at hn
    omega
  have c3 : w.cell? ⟨g, 3, none⟩ = some (.bool d.off) := (blk_cell h.hg 3).trans rfl
  have c4 : w.cell? ⟨g, 4, none⟩ = some (.bool (decide (0 ≤ d.fuse))) := (blk_cell h.hg 4).trans rfl
  have c5 : w.cell? ⟨g, 5, none⟩ = some (.int .i64 lf) := (blk_cell h.hg 5).trans rfl
  have f4 := blk_frozen h.hg 4
  have f5 := blk_frozen h.hg 5
  have ho := h.ok
  unfold fuseV
  cases hoff : d.off with
  | true =>
    rw [if_pos rfl]
    rw [hoff] at c3
    have HH := Aside0.mk h
    clear h hoff
    go_enter Try.func17, Try.ntmps17
    go_wp2_with fail
    go_end0
    exact ⟨rfl, ⟨L, M, pv, ps, lf, D, HH.out⟩, Moved.refl _ _⟩
  | false =>
    rw [if_neg (by decide)]
    rw [hoff] at c3
    have hg := h.hg
    rw [hoff] at hg
    have HP := Aside0.mk (h.turn (d' := ⟨d.lies, d.pend, false, max n (-1)⟩) (w' := (w.setCell ⟨g, 4, none⟩ (.bool (decide (0 ≤ n)))).setCell ⟨g, 5, none⟩ (.int .i64 n)) n rfl rfl ⟨ho.some, ho.few, ho.size, ho.pend, ho.many, by show -1 ≤ max n (-1); omega, by show max n (-1) ≤ _; omega⟩ (by show 0 ≤ max n (-1) → n = max n (-1); omega) hn
      (by
        have e : decide (0 ≤ max n (-1)) = decide (0 ≤ n) := decide_eq_decide.2 (by omega)
        show _ = some (Obj.cells #[_, _, _, _, .bool (decide (0 ≤ max n (-1))), _] _ _)
        rw [e]
        exact blk_put (blk_put hg 4 _ rfl) 5 _ rfl)
      (by simp) (fun k hk => (Below.heap_setCell _ ⟨g, 5, none⟩ _ k hk).trans (Below.heap_setCell _ ⟨g, 4, none⟩ _ k hk)) (((Below.refl 0 w).setCell (Nat.zero_le _) _).setCell (Nat.zero_le _) _))
    clear h hoff ho hn' hg
    go_enter Try.func17, Try.ntmps17
    go_wp2_with fail
    go_end0
    exact ⟨rfl, ⟨L, M, pv, ps, n, D, HP.out.1⟩, HP.out.2⟩
theorem lit_calls (w : World) (own : Nat → Prop) (g : Nat) (d : Dk) (hd : DiskAt w own g d) :
    Calls Try.prog 21 #[.pointer (some ⟨g, 0, none⟩)] w fun e w' => e = .returned (.bool (!d.off)) ∧ w' = w := by
  obtain ⟨L, M, pv, ps, lf, D, h⟩ := hd
  have c3 : w.cell? ⟨g, 3, none⟩ = some (.bool d.off) := (blk_cell h.hg 3).trans rfl
  clear h
  go_enter Try.func21, Try.ntmps21
  go_wp2_with fail
  go_ret
  exact ⟨rfl, rfl⟩
theorem Lies.pv_slice {w : World} {own : Nat → Prop} {g L M : Nat} {pv : Value} {ps : List Nat} {lf : Int} {D : DataW Unit} {d : Dk} (h : Lies w own g L M pv ps lf D d) : ∃ A c, pv = .slice A d.pend.length c := by
  obtain ⟨A, c, e⟩ := Kd.R_slice h.hr
  rw [List.length_zip, List.length_map, h.len, Nat.min_self] at e
  exact ⟨A, c, e⟩
theorem pending_calls (w : World) (own : Nat → Prop) (g : Nat) (d : Dk) (hd : DiskAt w own g d) :
    Calls Try.prog 20 #[.pointer (some ⟨g, 0, none⟩)] w fun e w' => e = .returned (.int .i64 (d.pend.length : Int)) ∧ w' = w := by
  obtain ⟨L, M, pv, ps, lf, D, h⟩ := hd
  obtain ⟨A, c, rfl⟩ := h.pv_slice
  have c1 : w.cell? ⟨g, 1, none⟩ = some (.slice A d.pend.length c) := (blk_cell h.hg 1).trans rfl
  clear h
  go_enter Try.func20, Try.ntmps20
  go_wp2_with fail
  go_ret
  exact ⟨rfl, rfl⟩
end Go.Proofs.Ytjaalegkmldaeaa.My
