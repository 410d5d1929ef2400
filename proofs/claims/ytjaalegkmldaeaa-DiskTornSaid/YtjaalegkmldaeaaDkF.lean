/- Write, whatever is asked; Fuse, Lit, Pending, Pages. -/
import Derived.Test.YtjaalegkmldaeaaDkW
namespace Go.Proofs.Ytjaalegkmldaeaa.My
open Go.RowKit Go.Proofs.YtjaalegkmldaeaaW.PrintWords Go.Proofs.YtjaalegkmldaeaaW.PrintLast Go.Proofs.YtjaalegkmldaeaaW.PrintMore Go.Proofs.Ytjaalegkmldaeaa Go.Maps
set_option linter.unusedSimpArgs false
set_option linter.unusedVariables false
set_option maxRecDepth 100000
set_option maxHeartbeats 1600000
/-- What a call leaves of a disk. -/
def Turned (own : Nat → Prop) (w w' : World) (g : Nat) (d : Dk) : Prop := ∃ own', (∀ k, own' k → own k ∨ w.heap.size ≤ k) ∧ DiskAt w' own' g d ∧ Moved own w w'
theorem Turned.same {own : Nat → Prop} {w w' : World} {g : Nat} {d : Dk} (h : DiskAt w' own g d) (hm : Moved own w w') : Turned own w w' g d := ⟨own, fun _ hk => .inl hk, h, hm⟩
theorem write_calls (w : World) (own : Nat → Prop) (g : Nat) (d : Dk) (hd : DiskAt w own g d) (n : Int) (A : Option Addr) (c : Nat) (s : ByteArray) (hA : ∀ w', Kept w w' own → Kd.C (Kd.int .u8) w' A s.size (bytesOf s)) (hroom : d.pend.length < 2199023255552) :
    Calls Try.prog 13 #[.pointer (some ⟨g, 0, none⟩), .int .i64 n, .slice A s.size c] w fun e w' => e = .returned (.int .i64 (writeV d n s).2) ∧ Turned own w w' g (writeV d n s).1 := by
  by_cases h0 : readyV d n = 0
  · by_cases hs : s.size = 1024
    · rcases actV_cases d hd.ok with ⟨e1, e2⟩ | ⟨e1, e2⟩ | ⟨e1, e2⟩
      · have hwv : writeV d n s = ({ d with pend := d.pend ++ [(n.toNat, s)] }, 0) := by
          unfold writeV
          rw [if_neg (by rw [h0]; decide), if_neg (by rw [hs]; decide), e2]
          rfl
        obtain ⟨m, rfl⟩ : ∃ m : Nat, n = (m : Int) := ⟨n.toNat, by rcases readyV_cases d n with ⟨_, e⟩ | ⟨_, _, e⟩ | ⟨_, e, _, _⟩ <;> omega⟩
        rw [hwv, Int.toNat_natCast]
        obtain ⟨ad, rfl, _⟩ := (hA w (Kept.refl _ _)).2.2 (by rw [hs]; decide)
        refine (write_full w own g d hd m ad c s hs hA hroom h0 d e2).mono ?_
        rintro e w' ⟨rfl, own', ho, hd', hm⟩
        exact ⟨rfl, own', ho, hd', hm⟩
      · have hwv : writeV d n s = ({ d with off := true }, 40) := by
          unfold writeV
          rw [if_neg (by rw [h0]; decide), if_neg (by rw [hs]; decide), e2]
          rfl
        rw [hwv]
        rw [hs]
        clear hA
        go_enter Try.func13, Try.ntmps13
        go_wp2_with fail
        refine (ready_calls w own g d hd n).mono ?_
        rintro e_ w' ⟨rfl, rfl⟩
        rw [h0]
        go_wp2_with fail
        refine (act_calls _ own g d hd).mono ?_
        rintro e_ w1 ⟨rfl, hd1, hm1⟩
        rw [e2] at hd1 ⊢
        go_wp2_with fail
        go_ret
        exact ⟨rfl, Turned.same hd1 hm1⟩
      · have hwv : writeV d n s = ({ ({ d with fuse := d.fuse - 1 } : Dk) with pend := d.pend ++ [(n.toNat, s)] }, 0) := by
          unfold writeV
          rw [if_neg (by rw [h0]; decide), if_neg (by rw [hs]; decide), e2]
          rfl
        obtain ⟨m, rfl⟩ : ∃ m : Nat, n = (m : Int) := ⟨n.toNat, by rcases readyV_cases d n with ⟨_, e⟩ | ⟨_, _, e⟩ | ⟨_, e, _, _⟩ <;> omega⟩
        rw [hwv, Int.toNat_natCast]
        obtain ⟨ad, rfl, _⟩ := (hA w (Kept.refl _ _)).2.2 (by rw [hs]; decide)
        refine (write_full w own g d hd m ad c s hs hA hroom h0 _ e2).mono ?_
        rintro e w' ⟨rfl, own', ho, hd', hm⟩
        exact ⟨rfl, own', ho, hd', hm⟩
    · have hwv : writeV d n s = (d, 1) := by
        unfold writeV
        rw [if_neg (by rw [h0]; decide), if_pos hs]
      rw [hwv]
      have hne : ((s.size : Int) != 1024) = true := by
        rw [bne_iff_ne]
        omega
      have hlen := (hA w (Kept.refl _ _)).2.1
      clear hA
      go_enter Try.func13, Try.ntmps13
      go_wp2_with fail
      refine (ready_calls w own g d hd n).mono ?_
      rintro e_ w' ⟨rfl, rfl⟩
      rw [h0]
      go_wp2_with fail
      go_ret
      exact ⟨rfl, Turned.same hd (Moved.refl _ _)⟩
  · have hwv : writeV d n s = (d, readyV d n) := by
      unfold writeV
      rw [if_pos h0]
    rw [hwv]
    have hr : readyV d n = 40 ∨ readyV d n = 1 := by
      rcases readyV_cases d n with ⟨_, e⟩ | ⟨_, _, e⟩ | ⟨_, _, _, e⟩
      · exact .inl e
      · exact .inr e
      · exact absurd e h0
    clear hA hwv h0
    rcases hr with hr | hr <;> rw [hr]
    · go_enter Try.func13, Try.ntmps13
      go_wp2_with fail
      refine (ready_calls w own g d hd n).mono ?_
      rintro e_ w' ⟨rfl, rfl⟩
      rw [hr]
      go_wp2_with fail
      go_ret
      exact ⟨rfl, Turned.same hd (Moved.refl _ _)⟩
    · go_enter Try.func13, Try.ntmps13
      go_wp2_with fail
      refine (ready_calls w own g d hd n).mono ?_
      rintro e_ w' ⟨rfl, rfl⟩
      rw [hr]
      go_wp2_with fail
      go_ret
      exact ⟨rfl, Turned.same hd (Moved.refl _ _)⟩
theorem Lies.pv_slice {w : World} {own : Nat → Prop} {g L M : Nat} {pv : Value} {ps : List Nat} {lf : Int} {D : DataW Unit} {d : Dk} (h : Lies w own g L M pv ps lf D d) : ∃ A c, pv = .slice A d.pend.length c := by
  obtain ⟨A, c, e⟩ := Kd.R_slice h.hr
  rw [List.length_zip, List.length_map, h.len, Nat.min_self] at e
  exact ⟨A, c, e⟩
theorem pending_calls (w : World) (own : Nat → Prop) (g : Nat) (d : Dk) (hd : DiskAt w own g d) :
    Calls Try.prog 20 #[.pointer (some ⟨g, 0, none⟩)] w fun e w' => e = .returned (.int .i64 (d.pend.length : Int)) ∧ w' = w := by
  obtain ⟨L, M, pv, ps, lf, D, h⟩ := hd
  obtain ⟨A, c, rfl⟩ := h.pv_slice
  have c1 : w.cell? ⟨g, 1, none⟩ = some (.slice A d.pend.length c) := (blk_cell h.hg 1).trans rfl
  clear h
  go_enter Try.func20, Try.ntmps20
  go_wp2_with fail
  go_ret
  exact ⟨rfl, rfl⟩
end Go.Proofs.Ytjaalegkmldaeaa.My
