/- WireForm. -/
import Derived.Test.YtikfdfagnalmbaaFormP
namespace Go.Proofs.Ytikfdfagnalmbaa.My
open Go.RowKit Go.Proofs.YtikfdfagnalmbaaW.PrintWords Go.Proofs.YtikfdfagnalmbaaW.PrintLast Go.Proofs.YtikfdfagnalmbaaW.PrintMore Go.Proofs.Ytikfdfagnalmbaa
set_option linter.unusedSimpArgs false
set_option linter.unusedVariables false
set_option maxRecDepth 100000
set_option maxHeartbeats 1600000
/-- The reader and the writer behind p bytes. -/
def FormI (w0 wr : World) (gr gw : Nat) (s : ByteArray) (v : Value) (B : List Int) (p : Nat) : Prop := RS wr gr s p 0 ∧ WS wr w0.heap.size gw v B ∧ p ≤ s.size ∧ (∀ z ∈ B, 0 ≤ z ∧ z < 256) ∧ B.map Int.toNat = (natsOf s).take p ∧ Below w0.heap.size w0 wr ∧ w0.heap.size ≤ gr
theorem form_str {s : ByteArray} {B : List Int} {p : Nat} (h : ∀ z ∈ B, 0 ≤ z ∧ z < 256) (hm : B.map Int.toNat = (natsOf s).take p) : strOfNums B = s.extract 0 p := by
  apply natsOf_inj
  rw [natsOf_str _ h, hm, natsOf_extract, List.drop_zero, Nat.sub_zero]
theorem RByte_err {w : World} {g : Nat} {s : ByteArray} {p : Nat} {e : Int} (h : RS w g s p e) (he : e ≠ 0) (hp : p ≤ s.size) (hs : s.size ≤ 140737488351232) : Calls Try.prog 34 #[.pointer (some ⟨g, 0, none⟩)] w fun r w' => r = .returned (.int .u8 0) ∧ RS w' g s p e ∧ Alone1 w w' g := by
  have h1 := RByte_any h hp hs
  rw [tk_err 1 he] at h1
  exact h1
theorem RInt_err {w : World} {g : Nat} {s : ByteArray} {p : Nat} {e : Int} (h : RS w g s p e) (he : e ≠ 0) (hp : p ≤ s.size) (hs : s.size ≤ 140737488351232) : Calls Try.prog 38 #[.pointer (some ⟨g, 0, none⟩)] w fun r w' => r = .returned (.int .i64 0) ∧ RS w' g s p e ∧ Alone1 w w' g := by
  have h1 := RInt_any h hp hs
  rw [rU_err s p _ he] at h1
  dsimp only at h1
  rw [show zag 0 = 0 by decide] at h1
  exact h1
theorem RRaw_err {w : World} {g : Nat} {s : ByteArray} {p : Nat} {e : Int} (h : RS w g s p e) (he : e ≠ 0) (hp : p ≤ s.size) (hs : s.size ≤ 140737488351232) : Calls Try.prog 42 #[.pointer (some ⟨g, 0, none⟩), .int .i64 0] w fun r w' => r = .returned (.string ⟨#[]⟩) ∧ RS w' g s p e ∧ Alone1 w w' g := by
  have h1 := RRaw_any h hp hs 0 (Int.le_refl _)
  rw [tk_err 0 he] at h1
  exact h1
theorem WireForm_walk (w : World) (s : ByteArray) (hs : s.size ≤ 140737488351232) (a : Option Addr) (cap : Nat) (xs : List Item) (hcap : xs.length ≤ cap) (hC : kItem.C w a xs.length xs) (hok : ∀ x ∈ xs, x.Ok) : Calls Try.prog 10 #[.string s, .slice a xs.length cap] w fun e w' => e = .returned (.bool true) ∧ Below w.heap.size w w' := by
  have hxl : xs.length ≤ 9223372036854775807 := by have := hC.2.1; exact this
  go_enter Try.func10, Try.ntmps10
  go_wp2_with fail
  refine (works_calls w).mono ?_
  rintro e w0 ⟨rfl, hb0⟩
  go_wp2_with fail
  refine (newReader s w0).mono ?_
  rintro e w1 ⟨rfl, hw1⟩
  have hr1 : RS w1 w0.heap.size s 0 0 := by rw [hw1]; exact W_push _ _ _ _
  have hb1 : Below w0.heap.size w0 w1 := by rw [hw1]; exact (Below.refl _ _).alloc (Nat.le_refl _) _
  clear hw1
  go_wp2_with fail
  refine (newWriterW _).mono ?_
  rintro e w2 ⟨rfl, hw2⟩
  have HI : Aside0 (FormI w0 w2 w0.heap.size w1.heap.size s (.slice none 0 0) [] 0) := by
    rw [hw2]
    exact ⟨⟨RS_alloc hr1 _, WS_new w1 _ (below_size hb1), Nat.zero_le _, by simp, rfl, hb1.alloc (below_size hb1) _, Nat.le_refl _⟩⟩
  clear hr1 hb1 hw2
  have HC := Aside0.mk hC
  have HO := Aside0.mk hok
  have HB0 := Aside0.mk hb0
  clear hC hok hb0
  generalize hgr : w0.heap.size = gr at HI ⊢
  generalize w1.heap.size = gw at HI ⊢
  clear hgr
  go_wp2_with fail
  go_loopw [7] (fun i wr => ∃ (k p : Nat) (v : Value) (B : List Int), k ≤ xs.length ∧ i = .int .i64 k ∧ Aside0 (FormI w0 wr gr gw s v B p)) (fun i _ => xs.length - (intOf i).toNat)
  case atStart => exact ⟨0, 0, .slice none 0 0, [], Nat.zero_le _, rfl, HI⟩
  case round =>
    clear HI
    obtain ⟨k, p, v, B, hk, rfl, HI⟩ := hrel
    by_cases hlt : k < xs.length
    · have hx : xs[k].Ok := HO.out _ (List.getElem_mem hlt)
      have hxk : xs[k]? = some xs[k] := List.getElem?_eq_getElem hlt
      obtain ⟨b, o, rfl⟩ := item_addr HC.out k hlt
      generalize xs[k] = x at *
      have HX := Aside0.mk hxk
      clear hxk
      obtain ⟨hr, hw, hp, hBb, hBm, hb, hg0⟩ := HI.out
      have hBl : B.length = p := by
        have := congrArg List.length hBm
        rw [List.length_map, List.length_take, natsOf_len] at this
        omega
      have HBS := Aside0.mk (form_str hBb hBm)
      have HAG := Aside0.mk (ag_ok x s p hp hs hx.1)
      have HCL := Aside0.mk (again_calls x hx gr gw v B s p w0 wr hb hw hr hg0 hp hs (by omega))
      have HR := Aside0.mk hr
      have HW := Aside0.mk hw
      have HB := Aside0.mk hb
      have HBM := Aside0.mk hBm
      have HBB := Aside0.mk hBb
      obtain ⟨c0, c1, c2, c3, c4⟩ := item_at (Kd.C_below HC.out (below_then HB0.out (below_size HB0.out) hb)) k x HX.out
      clear HI hr hw hb hBm hBb
      generalize x.ag s p = r at HAG HCL
      obtain ⟨B2, q, f⟩ := r
      dsimp only at HAG HCL
      by_cases hf : f = 0
      · subst hf
        obtain ⟨q1, q2, q3, q4⟩ := HAG.out.1 rfl
        dsimp only at q1 q2 q3 q4
        have hm2 : (B ++ B2).map Int.toNat = (natsOf s).take q := by
          rw [List.map_append, HBM.out, q4]
          unfold seg
          rw [show q = p + (q - p) by omega, List.take_add, show p + (q - p) - p = q - p by omega]
        have hbb2 : ∀ z ∈ B ++ B2, 0 ≤ z ∧ z < 256 := fun z hz => (List.mem_append.1 hz).elim (HBB.out z) (q3 z)
        have HS2 := Aside0.mk (form_str hbb2 hm2)
        have HM2 := Aside0.mk hm2
        have HBB2 := Aside0.mk hbb2
        clear q3 q4 hm2 hbb2
        go_wp2_with fail
        refine (At_calls HR.out).mono ?_
        rintro e_ w3 ⟨rfl, rfl⟩
        go_wp2_with fail
        refine (Told_calls _ _ _ _ _ HW.out).mono ?_
        rintro e_ w3 ⟨rfl, rfl⟩
        rw [HBS.out]
        go_wp2_with fail
        refine (Err_calls HR.out).mono ?_
        rintro e_ w3 ⟨rfl, rfl⟩
        go_wp2_with fail
        refine HCL.out.mono ?_
        rintro e_ w4 ⟨rfl, v4, hw4, hr4, hb4⟩
        clear HR HW HB HCL HBS HAG c0 c1 c2 c3 c4
        go_wp2_with fail
        refine (Err_calls hr4).mono ?_
        rintro e_ w5 ⟨rfl, rfl⟩
        go_wp2_with fail
        refine (At_calls hr4).mono ?_
        rintro e_ w5 ⟨rfl, rfl⟩
        go_wp2_with fail
        refine (At_calls hr4).mono ?_
        rintro e_ w5 ⟨rfl, rfl⟩
        go_wp2_with fail
        refine (Told_calls _ _ _ _ _ hw4).mono ?_
        rintro e_ w5 ⟨rfl, rfl⟩
        rw [HS2.out]
        go_wp2_with fail
        refine (At_calls hr4).mono ?_
        rintro e_ w5 ⟨rfl, rfl⟩
        have HI4 : Aside0 (FormI w0 w4 gr gw s v4 (B ++ B2) q) := ⟨⟨hr4, hw4, q2, HBB2.out, HM2.out, hb4, hg0⟩⟩
        clear hw4 hr4 hb4 HM2 HBB2 HS2 HBM HBB
        go_wp2_with fail
        go_roundw
        case rel => exact ⟨k + 1, q, v4, B ++ B2, by omega, by go_num, HI4⟩
        case measure => simp [intOf]; omega
      · obtain rfl : q = p := HAG.out.2 hf
        have hfe : (f == 0) = false := beq_eq_false_iff_ne.2 hf
        have hfn : (f != 0) = true := bne_iff_ne.2 hf
        have HF := Aside0.mk hf
        clear hf
        go_wp2_with fail
        refine (At_calls HR.out).mono ?_
        rintro e_ w3 ⟨rfl, rfl⟩
        go_wp2_with fail
        refine (Told_calls _ _ _ _ _ HW.out).mono ?_
        rintro e_ w3 ⟨rfl, rfl⟩
        rw [HBS.out]
        go_wp2_with fail
        refine (Err_calls HR.out).mono ?_
        rintro e_ w3 ⟨rfl, rfl⟩
        go_wp2_with fail
        refine HCL.out.mono ?_
        rintro e_ w4 ⟨rfl, v4, hw4, hr4, hb4⟩
        clear HR HW HB HCL HBS HAG c0 c1 c2 c3 c4 hw4
        go_wp2_with fail
        refine (Err_calls hr4).mono ?_
        rintro e_ w5 ⟨rfl, rfl⟩
        go_wp2_with fail
        refine (At_calls hr4).mono ?_
        rintro e_ w5 ⟨rfl, rfl⟩
        go_wp2_with fail
        refine (Err_calls hr4).mono ?_
        rintro e_ w5 ⟨rfl, rfl⟩
        go_wp2_with fail
        refine (RByte_err hr4 HF.out hp hs).mono ?_
        rintro e_ w5 ⟨rfl, hr5, ha5⟩
        go_wp2_with fail
        refine (RInt_err hr5 HF.out hp hs).mono ?_
        rintro e_ w6 ⟨rfl, hr6, ha6⟩
        go_wp2_with fail
        refine (RRaw_err hr6 HF.out hp hs).mono ?_
        rintro e_ w7 ⟨rfl, hr7, ha7⟩
        go_wp2_with fail
        refine (Err_calls hr7).mono ?_
        rintro e_ w8 ⟨rfl, rfl⟩
        go_wp2_with fail
        refine (End_err hr7 hfe).mono ?_
        rintro e_ w8 ⟨rfl, m8, rfl⟩
        go_wp2_with fail
        refine (At_calls (blk_drewN hr7 m8)).mono ?_
        rintro e_ w8 ⟨rfl, rfl⟩
        go_wp2_with fail
        go_ret
        exact ⟨rfl, below_then HB0.out (below_size HB0.out) (pw_below_drewN (below_alone1 hb4 (ha5.trans (ha6.trans ha7)) hg0 (below_size hb4)) m8)⟩
    · obtain rfl : k = xs.length := by omega
      obtain ⟨_, _, _, _, _, hb, _⟩ := HI.out
      clear HI
      go_wp2_with fail
      go_ret
      exact ⟨rfl, below_then HB0.out (below_size HB0.out) hb⟩
end Go.Proofs.Ytikfdfagnalmbaa.My
