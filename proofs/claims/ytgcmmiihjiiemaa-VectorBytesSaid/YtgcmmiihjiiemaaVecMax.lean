/- vector.Max: what it computes. -/
import Derived.Test.YtgcmmiihjiiemaaVecWalk
namespace Go.Proofs.Ytgcmmiihjiiemaa.My
open Go.RowKit Go.Proofs.YtgcmmiihjiiemaaW.PrintWords Go.Proofs.YtgcmmiihjiiemaaW.PrintLast Go.Proofs.YtgcmmiihjiiemaaW.PrintMore Go.Proofs.Ytgcmmiihjiiemaa Go.Proofs.Ytgcmmiihjiiemaa.PVectorMax
set_option linter.unusedSimpArgs false
set_option linter.unusedVariables false
set_option maxRecDepth 100000
set_option maxHeartbeats 3200000
def mxPick : Option Dt → Option Dt → Dt
  | some x, none => x
  | none, some y => y
  | some x, some y => if x.f1 < y.f1 then y else x
  | none, none => ⟨0, 0⟩
def mxS (xs : List Dt) (p q : Option Dt) : List Dt := xs ++ [mxPick p q]
/-- The list that is made out of two. -/
def maxL (a b : List Dt) : List Dt := walkL mxS [] a b
def MxI (w0 : World) (g : Nat) (W : World) (xs : List Dt) (n : Nat) : Prop := (∃ v, LS W w0.heap.size g v xs) ∧ Below w0.heap.size w0 W ∧ xs.length + n ≤ 1000000
theorem LS.below {W W' : World} {base g : Nat} {v : Value} {xs : List Dt} (h : LS W base g v xs) (hb : Below W.heap.size W W') : LS W' base g v xs := ⟨h.1, blk_below h.2.1 hb, Kd.R_below h.2.2 hb⟩
theorem MxI.below {w0 : World} {g : Nat} {W W' : World} {xs : List Dt} {n : Nat} (h : MxI w0 g W xs n) (hb : Below W.heap.size W W') : MxI w0 g W' xs n := by
  obtain ⟨⟨v, hv⟩, h2, h3⟩ := h
  exact ⟨⟨v, hv.below hb⟩, below_then h2 (below_size h2) hb, h3⟩
theorem walkmax (w0 w : World) (g : Nat) (A : Option Addr) (c : Nat) (a : List Dt) (hA : Kd.C kD w0 A a.length a) (hc : a.length ≤ c) (B : Option Addr) (d : Nat) (b : List Dt) (hB : Kd.C kD w0 B b.length b) (hd : b.length ≤ d) (hI : MxI w0 g w [] (a.length + b.length)) :
    Calls Try.prog 50 #[.slice A a.length c, .slice B b.length d, .func (.func 51) #[] #[], .func (.func 52) #[] #[.pointer (some ⟨g, 0, none⟩)]] w fun e w' => e = .returned (.tuple #[]) ∧ MxI w0 g w' (maxL a b) 0 := by
  refine walkmax_calls (MxI w0 g) mxS w0 (.pointer (some ⟨g, 0, none⟩)) (fun W st n h => h.2.1) (fun W W' st n h hb => h.below hb) (fun W st n h => ⟨h.1, h.2.1, by have := h.2.2; omega⟩) ?_ ?_ ?_ w [] A c a hA hc B d b hB hd hI
  · rintro W st n x bx ox ⟨⟨v, hv⟩, h2, h3⟩ hx hbx
    refine (mxA g v st h2 hv (by omega) bx ox x hx hbx).mono ?_
    rintro e W' ⟨rfl, hv', hb'⟩
    exact ⟨rfl, hv', hb', by unfold mxS; rw [List.length_append]; show st.length + 1 + n ≤ 1000000; omega⟩
  · rintro W st n y by_ oy ⟨⟨v, hv⟩, h2, h3⟩ hy hby
    refine (mxB g v st h2 hv (by omega) by_ oy y hy hby).mono ?_
    rintro e W' ⟨rfl, hv', hb'⟩
    exact ⟨rfl, hv', hb', by unfold mxS; rw [List.length_append]; show st.length + 1 + n ≤ 1000000; omega⟩
  · rintro W st n x bx ox y by_ oy ⟨⟨v, hv⟩, h2, h3⟩ hx hbx hy hby
    by_cases h : x.f1 < y.f1
    · refine (mxC g v st h2 hv (by omega) bx ox x hx hbx by_ oy y hy hby h).mono ?_
      rintro e W' ⟨rfl, hv', hb'⟩
      have e1 : mxS st (some x) (some y) = st ++ [y] := by show st ++ [if x.f1 < y.f1 then y else x] = _; rw [if_pos h]
      rw [e1]
      exact ⟨rfl, hv', hb', by rw [List.length_append]; show st.length + 1 + n ≤ 1000000; omega⟩
    · refine (mxD g v st h2 hv (by omega) bx ox x hx hbx by_ oy y hy hby h).mono ?_
      rintro e W' ⟨rfl, hv', hb'⟩
      have e1 : mxS st (some x) (some y) = st ++ [x] := by show st ++ [if x.f1 < y.f1 then y else x] = _; rw [if_neg h]
      rw [e1]
      exact ⟨rfl, hv', hb', by rw [List.length_append]; show st.length + 1 + n ≤ 1000000; omega⟩
/-- What the program's Max answers. -/
def ownMax (va vb : Bool) (a b : List Dt) : List Dt × Int := if (va && vb) = true then (if 64 < (maxL a b).length then ([], 82) else (maxL a b, 0)) else ([], 100)
theorem vmax_calls (w : World) (A : Option Addr) (c : Nat) (a : List Dt) (hA : Kd.C kD w A a.length a) (hc : a.length ≤ c) (B : Option Addr) (d : Nat) (b : List Dt) (hB : Kd.C kD w B b.length b) (hd : b.length ≤ d) (k : Nat) (va vb : Bool) (h1 : vector_Valid.f k a = some va) (h2 : vector_Valid.f k b = some vb) (hl : va = true → vb = true → a.length + b.length ≤ 1000000) :
    Calls Try.prog 13 #[.slice A a.length c, .slice B b.length d] w fun e w' => ∃ v0_ : Value, e = .returned (.tuple #[v0_, .int .i64 (ownMax va vb a b).2]) ∧ Kd.R kD 35 w' w.heap.size (fun _ => True) v0_ (ownMax va vb a b).1 ∧ Below w.heap.size w w' := by
  cases va with
  | false =>
    go_enter Try.func13, Try.ntmps13
    go_wp2_with fail
    refine (vector_Valid.calls k A c a false w hA hc h1).mono ?_
    rintro e w1 ⟨rfl, hb1⟩
    go_wp2_with fail
    go_ret2
    have e : ownMax false vb a b = ([], 100) := by unfold ownMax; simp
    rw [e]
    exact ⟨.slice none 0 0, rfl, Kd.R_nil _ _ _ _ _, hb1⟩
  | true =>
    cases vb with
    | false =>
      go_enter Try.func13, Try.ntmps13
      go_wp2_with fail
      refine (vector_Valid.calls k A c a true w hA hc h1).mono ?_
      rintro e w1 ⟨rfl, hb1⟩
      go_wp2_with fail
      refine (vector_Valid.calls k B d b false w1 (Kd.C_below hB hb1) hd h2).mono ?_
      rintro e w2 ⟨rfl, hb2⟩
      go_wp2_with fail
      go_ret2
      exact ⟨.slice none 0 0, rfl, Kd.R_nil _ _ _ _ _, below_then hb1 (below_size hb1) hb2⟩
    | true =>
      have hl := hl rfl rfl
      obtain ⟨M, hM⟩ : ∃ M, M = ownMax true true a b := ⟨_, rfl⟩
      rw [← hM]
      have HM := Aside0.mk hM
      clear hM
      have HA := Aside0.mk hA
      have HB := Aside0.mk hB
      go_enter Try.func13, Try.ntmps13
      go_wp2_with fail
      refine (vector_Valid.calls k A c a true w hA hc h1).mono ?_
      rintro e w1 ⟨rfl, hb1⟩
      go_wp2_with fail
      refine (vector_Valid.calls k B d b true w1 (Kd.C_below hB hb1) hd h2).mono ?_
      rintro e w2 ⟨rfl, hb2⟩
      have hb := below_then hb1 (below_size hb1) hb2
      clear hA hB hb1 hb2 h1 h2
      go_wp2_with fail
      have HI : Aside0 (MxI w w2.heap.size (w2.alloc (.cells #[.slice none 0 0] 22)) [] (a.length + b.length)) := ⟨⟨⟨_, below_size hb, by show (w2.heap.push _)[w2.heap.size]? = _; rw [Array.getElem?_push_size], Kd.R_nil _ _ _ _ _⟩, hb.alloc (below_size hb) _, by show 0 + (a.length + b.length) ≤ 1000000; omega⟩⟩
      clear hb
      generalize w2.alloc (.cells #[.slice none 0 0] 22) = w3 at HI ⊢
      generalize w2.heap.size = g at HI ⊢
      refine (walkmax w w3 g A c a HA.out hc B d b HB.out hd HI.out).mono ?_
      rintro e w4 ⟨rfl, ⟨v, hv⟩, hb4, _⟩
      obtain ⟨hg, hblk, hR⟩ := hv
      obtain ⟨A4, c4, e4⟩ := Kd.R_slice hR
      subst e4
      have c0 : w4.cell? ⟨g, 0, none⟩ = some (.slice A4 (maxL a b).length c4) := (blk_cell hblk 0).trans rfl
      have HR := Aside0.mk hR
      have HB4 := Aside0.mk hb4
      clear hR hb4 hblk HI
      by_cases h64 : 64 < (maxL a b).length
      · have e1 : ownMax true true a b = ([], 82) := by show (if 64 < (maxL a b).length then (([], 82) : List Dt × Int) else (maxL a b, 0)) = _; rw [if_pos h64]
        have h65 : (64 : Int) < ((maxL a b).length : Int) := by omega
        go_wp2_with fail
        go_ret2
        rw [HM.out, e1]
        exact ⟨_, rfl, Kd.R_nil _ _ _ _ _, HB4.out⟩
      · have e1 : ownMax true true a b = (maxL a b, 0) := by show (if 64 < (maxL a b).length then (([], 82) : List Dt × Int) else (maxL a b, 0)) = _; rw [if_neg h64]
        have h65 : ¬ (64 : Int) < ((maxL a b).length : Int) := by omega
        go_wp2_with fail
        go_ret2
        rw [HM.out, e1]
        exact ⟨_, rfl, HR.out, HB4.out⟩
end Go.Proofs.Ytgcmmiihjiiemaa.My
