/- vector.walk of two lists. -/
import Derived.Test.YtgcmmiihjiiemaaVecMx
namespace Go.Proofs.Ytgcmmiihjiiemaa.My
open Go.RowKit Go.Proofs.YtgcmmiihjiiemaaW.PrintWords Go.Proofs.YtgcmmiihjiiemaaW.PrintLast Go.Proofs.YtgcmmiihjiiemaaW.PrintMore Go.Proofs.Ytgcmmiihjiiemaa Go.Proofs.Ytgcmmiihjiiemaa.PVectorMax
set_option linter.unusedSimpArgs false
set_option linter.unusedVariables false
set_option maxRecDepth 100000
set_option maxHeartbeats 3200000
abbrev kD := k35
section
variable {σ : Type}
/-- What the walk does, pair by pair. -/
def walkF (stp : σ → Option Dt → Option Dt → σ) : Nat → σ → List Dt → List Dt → σ
  | 0, st, _, _ => st
  | _ + 1, st, [], [] => st
  | n + 1, st, x :: a, [] => walkF stp n (stp st (some x) none) a []
  | n + 1, st, [], y :: b => walkF stp n (stp st none (some y)) [] b
  | n + 1, st, x :: a, y :: b => if x.f0 < y.f0 then walkF stp n (stp st (some x) none) a (y :: b) else if y.f0 < x.f0 then walkF stp n (stp st none (some y)) (x :: a) b else walkF stp n (stp st (some x) (some y)) a b
theorem walkF_fuel (stp : σ → Option Dt → Option Dt → σ) : ∀ (n m : Nat) (st : σ) (a b : List Dt), a.length + b.length ≤ n → a.length + b.length ≤ m → walkF stp n st a b = walkF stp m st a b
  | 0, 0, _, _, _, _, _ => rfl
  | 0, m + 1, st, [], [], _, _ => rfl
  | n + 1, 0, st, [], [], _, _ => rfl
  | n + 1, m + 1, st, [], [], _, _ => rfl
  | n + 1, m + 1, st, x :: a, [], h1, h2 => by
    rw [walkF, walkF]
    exact walkF_fuel stp n m _ a [] (by simp at *; omega) (by simp at *; omega)
  | n + 1, m + 1, st, [], y :: b, h1, h2 => by
    rw [walkF, walkF]
    exact walkF_fuel stp n m _ [] b (by simp at *; omega) (by simp at *; omega)
  | n + 1, m + 1, st, x :: a, y :: b, h1, h2 => by
    rw [walkF, walkF]
    simp only [List.length_cons] at h1 h2
    split
    · exact walkF_fuel stp n m _ a (y :: b) (by simp only [List.length_cons]; omega) (by simp only [List.length_cons]; omega)
    · split
      · exact walkF_fuel stp n m _ (x :: a) b (by simp only [List.length_cons]; omega) (by simp only [List.length_cons]; omega)
      · exact walkF_fuel stp n m _ a b (by omega) (by omega)
  | 0, m + 1, st, x :: a, b, h1, _ => by simp at h1
  | 0, m + 1, st, [], y :: b, h1, _ => by simp at h1
  | n + 1, 0, st, x :: a, b, _, h1 => by simp at h1
  | n + 1, 0, st, [], y :: b, _, h1 => by simp at h1
def walkL (stp : σ → Option Dt → Option Dt → σ) (st : σ) (a b : List Dt) : σ := walkF stp (a.length + b.length) st a b
theorem walkL_nil (stp : σ → Option Dt → Option Dt → σ) (st : σ) : walkL stp st [] [] = st := rfl
theorem walkL_l (stp : σ → Option Dt → Option Dt → σ) (st : σ) (x : Dt) (a : List Dt) : walkL stp st (x :: a) [] = walkL stp (stp st (some x) none) a [] := rfl
theorem walkL_r (stp : σ → Option Dt → Option Dt → σ) (st : σ) (y : Dt) (b : List Dt) : walkL stp st [] (y :: b) = walkL stp (stp st none (some y)) [] b := by
  unfold walkL
  simp only [List.length_nil, Nat.zero_add, List.length_cons]
  rw [walkF]
theorem walkL_lt (stp : σ → Option Dt → Option Dt → σ) (st : σ) (x y : Dt) (a b : List Dt) (h : x.f0 < y.f0) : walkL stp st (x :: a) (y :: b) = walkL stp (stp st (some x) none) a (y :: b) := by
  unfold walkL
  rw [show (x :: a).length + (y :: b).length = (a.length + (y :: b).length) + 1 by simp only [List.length_cons]; omega, walkF, if_pos h]
theorem walkL_gt (stp : σ → Option Dt → Option Dt → σ) (st : σ) (x y : Dt) (a b : List Dt) (h : y.f0 < x.f0) : walkL stp st (x :: a) (y :: b) = walkL stp (stp st none (some y)) (x :: a) b := by
  unfold walkL
  rw [show (x :: a).length + (y :: b).length = ((x :: a).length + b.length) + 1 by simp only [List.length_cons]; omega, walkF, if_neg (by omega), if_pos h]
theorem walkL_eq (stp : σ → Option Dt → Option Dt → σ) (st : σ) (x y : Dt) (a b : List Dt) (h1 : ¬ x.f0 < y.f0) (h2 : ¬ y.f0 < x.f0) : walkL stp st (x :: a) (y :: b) = walkL stp (stp st (some x) (some y)) a b := by
  unfold walkL
  rw [show (x :: a).length + (y :: b).length = (a.length + b.length + 1) + 1 by simp only [List.length_cons]; omega, walkF, if_neg h1, if_neg h2]
  exact walkF_fuel stp _ _ _ a b (by omega) (by omega)
end
/-- The front of a list that is read. -/
theorem dot_front {w : World} {A : Option Addr} {x : Dt} {xs : List Dt} (h : Kd.C kD w A (x :: xs).length (x :: xs)) : ∃ b o, A = some ⟨b, o, none⟩ ∧ DA w b o x ∧ b < w.heap.size := by
  obtain ⟨hn, _, h2⟩ := h
  obtain ⟨ad, rfl, hc⟩ := h2 (by simp)
  obtain ⟨cs, _, hc2, hc3⟩ := hc 0 x rfl
  obtain rfl := k35_open hc2
  have h0 := hc3 0 _ rfl
  have h1 := hc3 1 _ rfl
  have hs := World.cell?_spot h0
  obtain ⟨b, o, sp⟩ := ad
  obtain rfl : sp = none := hs
  refine ⟨b, o, rfl, ⟨?_, ?_⟩, World.block_lt_of_cell? _ _ h0⟩
  · simpa [Addr.add] using h0
  · simpa [Addr.add] using h1
/-- A list without its front. -/
theorem dot_tail (A : Option Addr) (c : Nat) (x : Dt) (xs : List Dt) (hc : (x :: xs).length ≤ c) : ∃ A' : Option Addr, (∀ W : World, (Instr.slice 22 (.slice A (x :: xs).length c) (some (.int .i64 1)) none none).run Try.prog W = .ok (.slice A' xs.length (c - 1)) W) ∧ (∀ w : World, Kd.C kD w A (x :: xs).length (x :: xs) → Kd.C kD w A' xs.length xs) := by
  refine ⟨if c = 1 then A else A.map (·.add 2), fun W => ?_, fun w h => ?_⟩
  · have hel : Try.prog.elem 22 = 35 := by kernel_rfl
    have hu : Try.prog.underlying 22 = some (.slice (Try.prog.elem 22)) := by rw [hel]; exact Try.underlying22
    rw [run_slice_l W _ A _ c hu .i64 1 (by omega) (by simp only [List.length_cons]; omega), hel]
    have hi := infoDot
    cases hj : Try.prog.info? 35 with
    | none => rw [hj] at hi; simp at hi
    | some i =>
      rw [hj] at hi
      simp only [Option.map_some, Option.some.injEq, Prod.mk.injEq] at hi
      simp [sizeOf, typeInfo, hj, hi.2.1, sliced, Result.andThen]
  · obtain ⟨hn, hm, h2⟩ := h
    refine ⟨rfl, by simp only [List.length_cons] at hm; omega, fun hp => ?_⟩
    obtain ⟨ad, rfl, hcc⟩ := h2 (by simp)
    have hc1 : ¬ c = 1 := by
      intro h
      simp only [List.length_cons] at hc
      omega
    rw [if_neg hc1]
    refine ⟨ad.add 2, rfl, fun i y hi => ?_⟩
    obtain ⟨cs, hl, hk, hcell⟩ := hcc (i + 1) y (by simpa using hi)
    refine ⟨cs, hl, hk, fun j u hj => ?_⟩
    have h3 := hcell j u hj
    rw [show (ad.add 2).add (i * kD.sz + j) = ad.add ((i + 1) * kD.sz + j) from ?_]
    · exact h3
    · have hs : kD.sz = 2 := rfl
      rw [hs, Addr.add_add]
      congr 1
      omega
theorem goesV_ {P : Program} {ops : Array Oper} {Q : Exit → Act → World → Prop} {oi : Oper} {N : Option Tmp} {a : Act} {w : World} {K : Act → World → Prop} {f : FuncId} {fn : Func} {t : Tmp} {ar : Array Operand} {ts : Array TypeId} (hf : P.funcs[f]? = some fn) (hname : (fn.name == "runtime.NumGoroutine") = false) (hb : fn.body.isSome = true) (args : Array Value)
    (hw : Region.wanted oi (yielded ops a.tmps) = true) (hN : oi.dst = N) (hop : oi.op = .call { callee := .value (.tmp t), args := ar, argTypes := ts }) (hfv : a.eval (.tmp t) = .func (.func f) #[] #[]) (hargs : ar.map a.eval = args)
    (h : Calls P f args w fun e w' => ∃ v, e = .returned v ∧ K (a.put N v) w') : if Region.wanted oi (yielded ops a.tmps) = true then Oper.wp P oi a w K Q else K (a.put N undef) w := by
  refine call_ f args hw hN ?_ h
  have he := enters_ hf hname hb args w
  unfold execOp
  simp [hop, resolve, Deferred.ofValue, invoke, hfv, hargs, he]
def slen : Value → Nat
  | .slice _ n _ => n
  | _ => 0
/-- At the loop's head. -/
def WkJ {σ : Type} (I : World → σ → Nat → Prop) (stp : σ → Option Dt → Option Dt → σ) (fin : σ) (w0 wr : World) (A : Option Addr) (c : Nat) (a : List Dt) (B : Option Addr) (d : Nat) (b : List Dt) (st : σ) : Prop :=
  Kd.C kD w0 A a.length a ∧ a.length ≤ c ∧ Kd.C kD w0 B b.length b ∧ b.length ≤ d ∧ I wr st (a.length + b.length) ∧ walkL stp st a b = fin
theorem walkmax_calls {σ : Type} (I : World → σ → Nat → Prop) (stp : σ → Option Dt → Option Dt → σ) (w0 : World) (capt : Value)
    (hIB : ∀ W st n, I W st n → Below w0.heap.size w0 W) (hIb : ∀ W W' st n, I W st n → Below W.heap.size W W' → I W' st n) (hIm : ∀ W st n, I W st (n + 1) → I W st n)
    (hX : ∀ W st n x bx ox, I W st (n + 1) → DA w0 bx ox x → bx < w0.heap.size → Calls Try.prog 52 #[.pointer (some ⟨bx, ox, none⟩), .pointer none, capt] W fun e W' => e = .returned (.tuple #[]) ∧ I W' (stp st (some x) none) n)
    (hY : ∀ W st n y by_ oy, I W st (n + 1) → DA w0 by_ oy y → by_ < w0.heap.size → Calls Try.prog 52 #[.pointer none, .pointer (some ⟨by_, oy, none⟩), capt] W fun e W' => e = .returned (.tuple #[]) ∧ I W' (stp st none (some y)) n)
    (hXY : ∀ W st n x bx ox y by_ oy, I W st (n + 1) → DA w0 bx ox x → bx < w0.heap.size → DA w0 by_ oy y → by_ < w0.heap.size → Calls Try.prog 52 #[.pointer (some ⟨bx, ox, none⟩), .pointer (some ⟨by_, oy, none⟩), capt] W fun e W' => e = .returned (.tuple #[]) ∧ I W' (stp st (some x) (some y)) n)
    (w : World) (st : σ) (A : Option Addr) (c : Nat) (a : List Dt) (hA : Kd.C kD w0 A a.length a) (hc : a.length ≤ c) (B : Option Addr) (d : Nat) (b : List Dt) (hB : Kd.C kD w0 B b.length b) (hd : b.length ≤ d) (hI : I w st (a.length + b.length)) :
    Calls Try.prog 50 #[.slice A a.length c, .slice B b.length d, .func (.func 51) #[] #[], .func (.func 52) #[] #[capt]] w fun e w' => e = .returned (.tuple #[]) ∧ I w' (walkL stp st a b) 0 := by
  have HJ : Aside0 (WkJ I stp (walkL stp st a b) w0 w A c a B d b st) := ⟨⟨hA, hc, hB, hd, hI, rfl⟩⟩
  generalize hfin : walkL stp st a b = fin at HJ ⊢
  clear hfin hA hc hB hd hI
  have HIB := Aside0.mk hIB
  have HIb := Aside0.mk hIb
  have HIm := Aside0.mk hIm
  have HX := Aside0.mk hX
  have HY := Aside0.mk hY
  have HXY := Aside0.mk hXY
  clear hIB hIb hIm hX hY hXY
  go_enter Try.func50, Try.ntmps50
  go_wp2_with fail
  go_loopw [0, 1] (fun av bv wr => ∃ (A : Option Addr) (c : Nat) (a : List Dt) (B : Option Addr) (d : Nat) (b : List Dt) (st : σ), av = .slice A a.length c ∧ bv = .slice B b.length d ∧ Aside0 (WkJ I stp fin w0 wr A c a B d b st)) (fun av bv _ => slen av + slen bv)
  case atStart => exact ⟨A, c, a, B, d, b, st, rfl, rfl, HJ⟩
  case round =>
    clear HJ
    obtain ⟨A, c, a, B, d, b, st, rfl, rfl, HJ⟩ := hrel
    match a, b with
    | [], [] =>
      go_wp2_with fail
      go_end0
      obtain ⟨_, _, _, _, hI, hf⟩ := HJ.out
      rw [walkL_nil] at hf
      subst hf
      exact ⟨rfl, hI⟩
    | x :: a, [] =>
      obtain ⟨hA, hc, hB, hd, hI, hf⟩ := HJ.out
      obtain ⟨ab, ao, rfl, hda, hab⟩ := dot_front hA
      obtain ⟨A', hs, hC'⟩ := dot_tail _ c x a hc
      have HC' := Aside0.mk (hC' _ hA)
      have HB := Aside0.mk hB
      have HF := Aside0.mk hf
      simp only [List.length_cons] at hs
      have hl0 : (0 : Int) < (a.length : Int) + 1 := by omega
      have hl1 : (0 : Int) < ((a.length + 1 : Nat) : Int) := by omega
      have HI : Aside0 (I wr st (a.length + ([] : List Dt).length + 1)) := ⟨by
        have h := hI
        rw [show (x :: a).length + ([] : List Dt).length = a.length + ([] : List Dt).length + 1 by simp only [List.length_cons]; omega] at h
        exact h⟩
      have hc2 : a.length ≤ c - 1 := by simp only [List.length_cons] at hc; omega
      clear hA hB hI hf hC' HJ hc
      go_wp2_with fail
      go_quiet (fail)
      go_wp2_with fail
      refine (HX.out _ st _ x ab ao (HIb.out _ _ _ _ HI.out (pw_below_drewN (Below.refl _ _) nq)) hda hab).mono ?_
      rintro e_ w3 ⟨rfl, hI3⟩
      have HI3 := Aside0.mk hI3
      clear HI hI3
      go_wp2_with fail
      go_roundw
      case rel => exact ⟨A', c - 1, a, B, d, [], stp st (some x) none, rfl, rfl, ⟨HC'.out, hc2, HB.out, hd, HI3.out, by rw [← HF.out, walkL_l]⟩⟩
      case measure => simp [slen]
    | [], y :: b =>
      obtain ⟨hA, hc, hB, hd, hI, hf⟩ := HJ.out
      obtain ⟨bb, bo, rfl, hdb, hbb⟩ := dot_front hB
      obtain ⟨B', hs, hC'⟩ := dot_tail _ d y b hd
      have HC' := Aside0.mk (hC' _ hB)
      have HA := Aside0.mk hA
      have HF := Aside0.mk hf
      simp only [List.length_cons] at hs
      have hl0 : (0 : Int) < (b.length : Int) + 1 := by omega
      have hl1 : (0 : Int) < ((b.length + 1 : Nat) : Int) := by omega
      have hl2 : ¬ ((b.length : Int) + 1 = 0) := by omega
      have hl3 : ((b.length : Int) + 1 == 0) = false := by rw [beq_eq_false_iff_ne]; omega
      have HI : Aside0 (I wr st (([] : List Dt).length + b.length + 1)) := ⟨hI⟩
      have hd2 : b.length ≤ d - 1 := by simp only [List.length_cons] at hd; omega
      clear hA hB hI hf hC' HJ hd
      go_wp2_with fail
      go_quiet (fail)
      go_wp2_with fail
      go_quiet (fail)
      go_wp2_with fail
      refine (HY.out _ st _ y bb bo (HIb.out _ _ _ _ HI.out (pw_below_drewN (Below.refl _ _) _)) hdb hbb).mono ?_
      rintro e_ w3 ⟨rfl, hI3⟩
      have HI3 := Aside0.mk hI3
      clear HI hI3
      go_wp2_with fail
      go_roundw
      case rel => exact ⟨A, c, [], B', d - 1, b, stp st none (some y), rfl, rfl, ⟨HA.out, hc, HC'.out, hd2, HI3.out, by rw [← HF.out, walkL_r]⟩⟩
      case measure => simp [slen]
    | x :: a, y :: b =>
      obtain ⟨hA, hc, hB, hd, hI, hf⟩ := HJ.out
      obtain ⟨ab, ao, rfl, hda, hab⟩ := dot_front hA
      obtain ⟨bb, bo, rfl, hdb, hbb⟩ := dot_front hB
      obtain ⟨A', hsa, hCa⟩ := dot_tail _ c x a hc
      obtain ⟨B', hsb, hCb⟩ := dot_tail _ d y b hd
      have HCa := Aside0.mk (hCa _ hA)
      have HCb := Aside0.mk (hCb _ hB)
      have HA := Aside0.mk hA
      have HB := Aside0.mk hB
      have HF := Aside0.mk hf
      simp only [List.length_cons] at hsa hsb
      have ha0 : (0 : Int) < (a.length : Int) + 1 := by omega
      have ha1 : (0 : Int) < ((a.length + 1 : Nat) : Int) := by omega
      have ha2 : ¬ ((a.length : Int) + 1 = 0) := by omega
      have ha3 : ((a.length : Int) + 1 == 0) = false := by rw [beq_eq_false_iff_ne]; omega
      have hl0 : (0 : Int) < (b.length : Int) + 1 := by omega
      have hl1 : (0 : Int) < ((b.length + 1 : Nat) : Int) := by omega
      have hl2 : ¬ ((b.length : Int) + 1 = 0) := by omega
      have hl3 : ((b.length : Int) + 1 == 0) = false := by rw [beq_eq_false_iff_ne]; omega
      have HI : Aside0 (I wr st (a.length + b.length + 2)) := ⟨by
        have h := hI
        rw [show (x :: a).length + (y :: b).length = a.length + b.length + 2 by simp only [List.length_cons]; omega] at h
        exact h⟩
      have hc2 : a.length ≤ c - 1 := by simp only [List.length_cons] at hc; omega
      have hd2 : b.length ≤ d - 1 := by simp only [List.length_cons] at hd; omega
      have HDC := Aside0.mk hc
      have HDD := Aside0.mk hd
      have hbe := HIB.out _ _ _ HI.out
      have qa0 := (hbe.cell (p := ⟨ab, ao, none⟩) hab).trans hda.1
      have qa1 := (hbe.cell (p := ⟨ab, ao + 1, none⟩) hab).trans hda.2
      have qb0 := (hbe.cell (p := ⟨bb, bo, none⟩) hbb).trans hdb.1
      have qb1 := (hbe.cell (p := ⟨bb, bo + 1, none⟩) hbb).trans hdb.2
      have HDA := Aside0.mk hda
      have HDB := Aside0.mk hdb
      clear hA hB hI hf hCa hCb HJ hc hd hbe hda hdb
      by_cases hxy : x.f0 < y.f0
      · have hxyd : decide (x.f0 < y.f0) = true := decide_eq_true hxy
        go_wp2_with fail
        refine start_ (n := 22) (S := fun w' => w'.cell? ⟨ab, ao, none⟩ = some (.int .u32 x.f0) ∧ w'.cell? ⟨ab, ao + 1, none⟩ = some (.int .u64 x.f1) ∧ w'.cell? ⟨bb, bo, none⟩ = some (.int .u32 y.f0) ∧ w'.cell? ⟨bb, bo + 1, none⟩ = some (.int .u64 y.f1)) (ds := []) #[false, false, false, false, false, false, false, false, false, false, false, false, false, false, false, false, false, false, false, false, false, false] (by kernel_rfl) rfl rfl (⟨qa0, qa1, qb0, qb1⟩) (fun hHeld => ?_)
        have HI2 : Aside0 (I wr.drew st (a.length + b.length + 2)) := ⟨HIb.out _ _ _ _ HI.out (below_drew (Below.refl _ _))⟩
        clear HI
        generalize wr.drew = w2 at HI2 hHeld ⊢
        refine pure_ (i := 0) (N := some 27) (v := ?_) (a' := ?_) #[true, false, false, false, false, false, false, false, false, false, false, false, false, false, false, false, false, false, false, false, false, false] rfl rfl (by kernel_rfl) (fun _ _ _ h => h) (Or.inl ⟨by rfl, ?_⟩) ?_ ?_
        rotate_left
        · intro w'
          go_simp
          with_reducible rfl
        rotate_left
        · simp only [Act.put, List.setIfInBounds_toArray, List.set_cons_zero, List.set_cons_succ, i64_w, i32_w]
          rfl
        refine pure_ (i := 1) (N := some 28) (v := ?_) (a' := ?_) #[true, true, false, false, false, false, false, false, false, false, false, false, false, false, false, false, false, false, false, false, false, false] rfl rfl (by kernel_rfl) (fun _ _ _ h => h) (Or.inl ⟨by rfl, ?_⟩) ?_ ?_
        rotate_left
        · intro w'
          go_simp
          with_reducible rfl
        rotate_left
        · simp only [Act.put, List.setIfInBounds_toArray, List.set_cons_zero, List.set_cons_succ, i64_w, i32_w]
          rfl
        refine pure_ (i := 2) (N := some 29) (v := ?_) (a' := ?_) #[true, true, true, false, false, false, false, false, false, false, false, false, false, false, false, false, false, false, false, false, false, false] rfl rfl (by kernel_rfl) (fun _ _ _ h => h) (Or.inl ⟨by rfl, ?_⟩) ?_ ?_
        rotate_left
        · intro w'
          go_simp
          with_reducible rfl
        rotate_left
        · simp only [Act.put, List.setIfInBounds_toArray, List.set_cons_zero, List.set_cons_succ, i64_w, i32_w]
          rfl
        refine pure_ (i := 3) (N := some 30) (v := ?_) (a' := ?_) #[true, true, true, true, false, false, false, false, false, false, false, false, false, false, false, false, false, false, false, false, false, false] rfl rfl (by kernel_rfl) (fun _ _ _ h => h) (Or.inl ⟨by rfl, ?_⟩) ?_ ?_
        rotate_left
        · intro w'
          go_simp
          with_reducible rfl
        rotate_left
        · simp only [Act.put, List.setIfInBounds_toArray, List.set_cons_zero, List.set_cons_succ, i64_w, i32_w]
          rfl
        refine pure_ (i := 4) (N := some 31) (v := ?_) (a' := ?_) #[true, true, true, true, true, false, false, false, false, false, false, false, false, false, false, false, false, false, false, false, false, false] rfl rfl (by kernel_rfl) (fun _ _ _ h => h) (Or.inl ⟨by rfl, ?_⟩) ?_ ?_
        rotate_left
        · intro w'
          go_simp
          with_reducible rfl
        rotate_left
        · simp only [Act.put, List.setIfInBounds_toArray, List.set_cons_zero, List.set_cons_succ, i64_w, i32_w]
          rfl
        refine pure_ (i := 5) (N := some 32) (v := ?_) (a' := ?_) #[true, true, true, true, true, true, false, false, false, false, false, false, false, false, false, false, false, false, false, false, false, false] rfl rfl (by kernel_rfl) (fun _ _ _ h => h) (Or.inl ⟨by rfl, ?_⟩) ?_ ?_
        rotate_left
        · intro w'
          go_simp
          with_reducible rfl
        rotate_left
        · simp only [Act.put, List.setIfInBounds_toArray, List.set_cons_zero, List.set_cons_succ, i64_w, i32_w]
          rfl
        refine pure_ (i := 6) (N := some 33) (v := ?_) (a' := ?_) #[true, true, true, true, true, true, true, false, false, false, false, false, false, false, false, false, false, false, false, false, false, false] rfl rfl (by kernel_rfl) (fun _ _ _ h => h) (Or.inl ⟨by rfl, ?_⟩) ?_ ?_
        rotate_left
        · intro w'
          go_simp
          with_reducible rfl
        rotate_left
        · simp only [Act.put, List.setIfInBounds_toArray, List.set_cons_zero, List.set_cons_succ, i64_w, i32_w]
          rfl
        refine pure_ (i := 7) (N := some 34) (v := ?_) (a' := ?_) #[true, true, true, true, true, true, true, true, false, false, false, false, false, false, false, false, false, false, false, false, false, false] rfl rfl (by kernel_rfl) (fun _ _ _ h => h) (Or.inl ⟨by rfl, ?_⟩) ?_ ?_
        rotate_left
        · intro w'
          go_simp
          with_reducible rfl
        rotate_left
        · simp only [Act.put, List.setIfInBounds_toArray, List.set_cons_zero, List.set_cons_succ, i64_w, i32_w]
          rfl
        refine pure_ (i := 8) (N := some 35) (v := ?_) (a' := ?_) #[true, true, true, true, true, true, true, true, true, false, false, false, false, false, false, false, false, false, false, false, false, false] rfl rfl (by kernel_rfl) (fun _ _ _ h => h) (Or.inl ⟨by rfl, ?_⟩) ?_ ?_
        rotate_left
        · intro w'
          go_simp
          with_reducible rfl
        rotate_left
        · simp only [Act.put, List.setIfInBounds_toArray, List.set_cons_zero, List.set_cons_succ, i64_w, i32_w]
          rfl
        refine pure_ (i := 9) (N := some 36) (v := ?_) (a' := ?_) #[true, true, true, true, true, true, true, true, true, true, false, false, false, false, false, false, false, false, false, false, false, false] rfl rfl (by kernel_rfl) (fun _ _ _ h => h) (Or.inl ⟨by rfl, ?_⟩) ?_ ?_
        rotate_left
        · intro w'
          go_simp
          with_reducible rfl
        rotate_left
        · simp only [Act.put, List.setIfInBounds_toArray, List.set_cons_zero, List.set_cons_succ, i64_w, i32_w]
          rfl
        refine pure_ (i := 10) (N := some 37) (v := ?_) (a' := ?_) #[true, true, true, true, true, true, true, true, true, true, true, false, false, false, false, false, false, false, false, false, false, false] rfl rfl (by kernel_rfl) (fun _ _ _ h => h) (Or.inl ⟨by rfl, ?_⟩) ?_ ?_
        rotate_left
        · intro w'
          go_simp
          with_reducible rfl
        rotate_left
        · simp only [Act.put, List.setIfInBounds_toArray, List.set_cons_zero, List.set_cons_succ, i64_w, i32_w]
          rfl
        refine take_ (i := 11) (N := some 38) (v := ?_) (a' := ?_) #[true, true, true, true, true, true, true, true, true, true, true, true, false, false, false, false, false, false, false, false, false, false] rfl rfl (by kernel_rfl) (fun _ _ _ h => h) (Or.inl ⟨by rfl, ?_⟩) hHeld ?_ ?_
        rotate_left
        · intro w' hS
          go_simp
          with_reducible rfl
        rotate_left
        · simp only [Act.put, List.setIfInBounds_toArray, List.set_cons_zero, List.set_cons_succ, i64_w, i32_w]
          rfl
        refine pure_ (i := 13) (N := some 40) (v := ?_) (a' := ?_) #[true, true, true, true, true, true, true, true, true, true, true, true, false, true, false, false, false, false, false, false, false, false] rfl rfl (by kernel_rfl) (fun _ _ _ h => h) (Or.inl ⟨by rfl, ?_⟩) ?_ ?_
        rotate_left
        · intro w'
          go_simp
          with_reducible rfl
        rotate_left
        · simp only [Act.put, List.setIfInBounds_toArray, List.set_cons_zero, List.set_cons_succ, i64_w, i32_w]
          rfl
        refine pure_ (i := 14) (N := some 41) (v := ?_) (a' := ?_) #[true, true, true, true, true, true, true, true, true, true, true, true, false, true, true, false, false, false, false, false, false, false] rfl rfl (by kernel_rfl) (fun _ _ _ h => h) (Or.inl ⟨by rfl, ?_⟩) ?_ ?_
        rotate_left
        · intro w'
          go_simp
          with_reducible rfl
        rotate_left
        · simp only [Act.put, List.setIfInBounds_toArray, List.set_cons_zero, List.set_cons_succ, i64_w, i32_w]
          rfl
        refine pure_ (i := 15) (N := some 42) (v := ?_) (a' := ?_) #[true, true, true, true, true, true, true, true, true, true, true, true, false, true, true, true, false, false, false, false, false, false] rfl rfl (by kernel_rfl) (fun _ _ _ h => h) (Or.inl ⟨by rfl, ?_⟩) ?_ ?_
        rotate_left
        · intro w'
          go_simp
          with_reducible rfl
        rotate_left
        · simp only [Act.put, List.setIfInBounds_toArray, List.set_cons_zero, List.set_cons_succ, i64_w, i32_w]
          rfl
        refine take_ (i := 16) (N := some 43) (v := ?_) (a' := ?_) #[true, true, true, true, true, true, true, true, true, true, true, true, false, true, true, true, true, false, false, false, false, false] rfl rfl (by kernel_rfl) (fun _ _ _ h => h) (Or.inl ⟨by rfl, ?_⟩) hHeld ?_ ?_
        rotate_left
        · intro w' hS
          go_simp
          with_reducible rfl
        rotate_left
        · simp only [Act.put, List.setIfInBounds_toArray, List.set_cons_zero, List.set_cons_succ, i64_w, i32_w]
          rfl
        refine one_ (i := 12) (N := some 39) #[true, true, true, true, true, true, true, true, true, true, true, true, true, true, true, true, true, false, false, false, false, false] rfl rfl (by kernel_rfl) (by decide) (fun K hK => ?_)
        refine goesV_ Try.func51 (by kernel_rfl) rfl #[.agg #[.int .u32 x.f0, .int .u64 x.f1]] (by rfl) rfl rfl rfl (by (try simp only [List.map_toArray, List.map_cons, List.map_nil]); first | done | rfl) ?_
        refine (vector_actor.calls x.f0 x.f1 x.f0 _ rfl).mono ?_
        rintro e_ wz ⟨rfl, hbz⟩
        refine ⟨_, rfl, ?_⟩
        have HI3 := Aside0.mk (HIb.out _ _ _ _ HI2.out hbz)
        clear HI2 hbz
        refine hK.out _ _ (⟨((HIB.out _ _ _ HI3.out).cell (p := ⟨ab, ao, none⟩) hab).trans HDA.out.1, ((HIB.out _ _ _ HI3.out).cell (p := ⟨ab, ao + 1, none⟩) hab).trans HDA.out.2, ((HIB.out _ _ _ HI3.out).cell (p := ⟨bb, bo, none⟩) hbb).trans HDB.out.1, ((HIB.out _ _ _ HI3.out).cell (p := ⟨bb, bo + 1, none⟩) hbb).trans HDB.out.2⟩) (fun hHeld => ?_)
        clear hK K
        refine norm_ (a' := ?_) ?_ ?_
        rotate_left
        · show Act.put _ (some 39) _ = _
          simp only [Act.put, List.setIfInBounds_toArray, List.set_cons_zero, List.set_cons_succ, i64_w, i32_w]
          rfl
        refine one_ (i := 17) (N := some 44) #[true, true, true, true, true, true, true, true, true, true, true, true, true, true, true, true, true, true, false, false, false, false] rfl rfl (by kernel_rfl) (by decide) (fun K hK => ?_)
        refine goesV_ Try.func51 (by kernel_rfl) rfl #[.agg #[.int .u32 y.f0, .int .u64 y.f1]] (by rfl) rfl rfl rfl (by (try simp only [List.map_toArray, List.map_cons, List.map_nil]); first | done | rfl) ?_
        refine (vector_actor.calls y.f0 y.f1 y.f0 _ rfl).mono ?_
        rintro e_ wz ⟨rfl, hbz⟩
        refine ⟨_, rfl, ?_⟩
        have HI4 := Aside0.mk (HIb.out _ _ _ _ HI3.out hbz)
        clear HI3 hbz
        refine hK.out _ _ (⟨((HIB.out _ _ _ HI4.out).cell (p := ⟨ab, ao, none⟩) hab).trans HDA.out.1, ((HIB.out _ _ _ HI4.out).cell (p := ⟨ab, ao + 1, none⟩) hab).trans HDA.out.2, ((HIB.out _ _ _ HI4.out).cell (p := ⟨bb, bo, none⟩) hbb).trans HDB.out.1, ((HIB.out _ _ _ HI4.out).cell (p := ⟨bb, bo + 1, none⟩) hbb).trans HDB.out.2⟩) (fun hHeld => ?_)
        clear hK K
        refine norm_ (a' := ?_) ?_ ?_
        rotate_left
        · show Act.put _ (some 44) _ = _
          simp only [Act.put, List.setIfInBounds_toArray, List.set_cons_zero, List.set_cons_succ, i64_w, i32_w]
          rfl
        refine pure_ (i := 18) (N := some 45) (v := ?_) (a' := ?_) #[true, true, true, true, true, true, true, true, true, true, true, true, true, true, true, true, true, true, true, false, false, false] rfl rfl (by kernel_rfl) (fun _ _ _ h => h) (Or.inl ⟨by rfl, ?_⟩) ?_ ?_
        rotate_left
        · intro w'
          go_simp
          with_reducible rfl
        rotate_left
        · simp only [Act.put, List.setIfInBounds_toArray, List.set_cons_zero, List.set_cons_succ, i64_w, i32_w]
          rfl
        refine pure_ (i := 19) (N := some 46) (v := ?_) (a' := ?_) #[true, true, true, true, true, true, true, true, true, true, true, true, true, true, true, true, true, true, true, true, false, false] rfl rfl (by kernel_rfl) (fun _ _ _ h => h) (Or.inl ⟨by rfl, ?_⟩) ?_ ?_
        rotate_left
        · intro w'
          go_simp
          with_reducible rfl
        rotate_left
        · simp only [Act.put, List.setIfInBounds_toArray, List.set_cons_zero, List.set_cons_succ, i64_w, i32_w]
          rfl
        refine pure_ (i := 20) (N := some 47) (v := ?_) (a' := ?_) #[true, true, true, true, true, true, true, true, true, true, true, true, true, true, true, true, true, true, true, true, true, false] rfl rfl (by kernel_rfl) (fun _ _ _ h => h) (Or.inl ⟨by rfl, ?_⟩) ?_ ?_
        rotate_left
        · intro w'
          go_simp
          with_reducible rfl
        rotate_left
        · simp only [Act.put, List.setIfInBounds_toArray, List.set_cons_zero, List.set_cons_succ, i64_w, i32_w]
          rfl
        refine pure_ (i := 21) (N := some 26) (v := ?_) (a' := ?_) #[true, true, true, true, true, true, true, true, true, true, true, true, true, true, true, true, true, true, true, true, true, true] rfl rfl (by kernel_rfl) (fun _ _ _ h => h) (Or.inl ⟨by rfl, ?_⟩) ?_ ?_
        rotate_left
        · intro w'
          go_simp
          with_reducible rfl
        rotate_left
        · simp only [Act.put, List.setIfInBounds_toArray, List.set_cons_zero, List.set_cons_succ, i64_w, i32_w]
          rfl
        refine done_ (by kernel_rfl) ?_
        go_wp2_with fail
        refine (HX.out _ st (a.length + b.length + 1) x ab ao HI4.out HDA.out hab).mono ?_
        rintro e_ w3 ⟨rfl, hI3⟩
        have HI8 := Aside0.mk hI3
        clear HI4 hI3 qa0 qa1 qb0 qb1 hHeld
        go_wp2_with fail
        go_roundw
        case rel => exact ⟨A', c - 1, a, some ⟨bb, bo, none⟩, d, y :: b, stp st (some x) none, rfl, rfl, ⟨HCa.out, hc2, HB.out, HDD.out, HI8.out, by rw [← HF.out, walkL_lt _ _ x y a b (by omega)]⟩⟩
        case measure => simp [slen]
      · have hxyd : decide (x.f0 < y.f0) = false := decide_eq_false hxy
        go_wp2_with fail
        refine start_ (n := 22) (S := fun w' => w'.cell? ⟨ab, ao, none⟩ = some (.int .u32 x.f0) ∧ w'.cell? ⟨ab, ao + 1, none⟩ = some (.int .u64 x.f1) ∧ w'.cell? ⟨bb, bo, none⟩ = some (.int .u32 y.f0) ∧ w'.cell? ⟨bb, bo + 1, none⟩ = some (.int .u64 y.f1)) (ds := []) #[false, false, false, false, false, false, false, false, false, false, false, false, false, false, false, false, false, false, false, false, false, false] (by kernel_rfl) rfl rfl (⟨qa0, qa1, qb0, qb1⟩) (fun hHeld => ?_)
        have HI2 : Aside0 (I wr.drew st (a.length + b.length + 2)) := ⟨HIb.out _ _ _ _ HI.out (below_drew (Below.refl _ _))⟩
        clear HI
        generalize wr.drew = w2 at HI2 hHeld ⊢
        refine pure_ (i := 0) (N := some 27) (v := ?_) (a' := ?_) #[true, false, false, false, false, false, false, false, false, false, false, false, false, false, false, false, false, false, false, false, false, false] rfl rfl (by kernel_rfl) (fun _ _ _ h => h) (Or.inl ⟨by rfl, ?_⟩) ?_ ?_
        rotate_left
        · intro w'
          go_simp
          with_reducible rfl
        rotate_left
        · simp only [Act.put, List.setIfInBounds_toArray, List.set_cons_zero, List.set_cons_succ, i64_w, i32_w]
          rfl
        refine pure_ (i := 1) (N := some 28) (v := ?_) (a' := ?_) #[true, true, false, false, false, false, false, false, false, false, false, false, false, false, false, false, false, false, false, false, false, false] rfl rfl (by kernel_rfl) (fun _ _ _ h => h) (Or.inl ⟨by rfl, ?_⟩) ?_ ?_
        rotate_left
        · intro w'
          go_simp
          with_reducible rfl
        rotate_left
        · simp only [Act.put, List.setIfInBounds_toArray, List.set_cons_zero, List.set_cons_succ, i64_w, i32_w]
          rfl
        refine pure_ (i := 2) (N := some 29) (v := ?_) (a' := ?_) #[true, true, true, false, false, false, false, false, false, false, false, false, false, false, false, false, false, false, false, false, false, false] rfl rfl (by kernel_rfl) (fun _ _ _ h => h) (Or.inl ⟨by rfl, ?_⟩) ?_ ?_
        rotate_left
        · intro w'
          go_simp
          with_reducible rfl
        rotate_left
        · simp only [Act.put, List.setIfInBounds_toArray, List.set_cons_zero, List.set_cons_succ, i64_w, i32_w]
          rfl
        refine pure_ (i := 3) (N := some 30) (v := ?_) (a' := ?_) #[true, true, true, true, false, false, false, false, false, false, false, false, false, false, false, false, false, false, false, false, false, false] rfl rfl (by kernel_rfl) (fun _ _ _ h => h) (Or.inl ⟨by rfl, ?_⟩) ?_ ?_
        rotate_left
        · intro w'
          go_simp
          with_reducible rfl
        rotate_left
        · simp only [Act.put, List.setIfInBounds_toArray, List.set_cons_zero, List.set_cons_succ, i64_w, i32_w]
          rfl
        refine pure_ (i := 4) (N := some 31) (v := ?_) (a' := ?_) #[true, true, true, true, true, false, false, false, false, false, false, false, false, false, false, false, false, false, false, false, false, false] rfl rfl (by kernel_rfl) (fun _ _ _ h => h) (Or.inl ⟨by rfl, ?_⟩) ?_ ?_
        rotate_left
        · intro w'
          go_simp
          with_reducible rfl
        rotate_left
        · simp only [Act.put, List.setIfInBounds_toArray, List.set_cons_zero, List.set_cons_succ, i64_w, i32_w]
          rfl
        refine pure_ (i := 5) (N := some 32) (v := ?_) (a' := ?_) #[true, true, true, true, true, true, false, false, false, false, false, false, false, false, false, false, false, false, false, false, false, false] rfl rfl (by kernel_rfl) (fun _ _ _ h => h) (Or.inl ⟨by rfl, ?_⟩) ?_ ?_
        rotate_left
        · intro w'
          go_simp
          with_reducible rfl
        rotate_left
        · simp only [Act.put, List.setIfInBounds_toArray, List.set_cons_zero, List.set_cons_succ, i64_w, i32_w]
          rfl
        refine pure_ (i := 6) (N := some 33) (v := ?_) (a' := ?_) #[true, true, true, true, true, true, true, false, false, false, false, false, false, false, false, false, false, false, false, false, false, false] rfl rfl (by kernel_rfl) (fun _ _ _ h => h) (Or.inl ⟨by rfl, ?_⟩) ?_ ?_
        rotate_left
        · intro w'
          go_simp
          with_reducible rfl
        rotate_left
        · simp only [Act.put, List.setIfInBounds_toArray, List.set_cons_zero, List.set_cons_succ, i64_w, i32_w]
          rfl
        refine pure_ (i := 7) (N := some 34) (v := ?_) (a' := ?_) #[true, true, true, true, true, true, true, true, false, false, false, false, false, false, false, false, false, false, false, false, false, false] rfl rfl (by kernel_rfl) (fun _ _ _ h => h) (Or.inl ⟨by rfl, ?_⟩) ?_ ?_
        rotate_left
        · intro w'
          go_simp
          with_reducible rfl
        rotate_left
        · simp only [Act.put, List.setIfInBounds_toArray, List.set_cons_zero, List.set_cons_succ, i64_w, i32_w]
          rfl
        refine pure_ (i := 8) (N := some 35) (v := ?_) (a' := ?_) #[true, true, true, true, true, true, true, true, true, false, false, false, false, false, false, false, false, false, false, false, false, false] rfl rfl (by kernel_rfl) (fun _ _ _ h => h) (Or.inl ⟨by rfl, ?_⟩) ?_ ?_
        rotate_left
        · intro w'
          go_simp
          with_reducible rfl
        rotate_left
        · simp only [Act.put, List.setIfInBounds_toArray, List.set_cons_zero, List.set_cons_succ, i64_w, i32_w]
          rfl
        refine pure_ (i := 9) (N := some 36) (v := ?_) (a' := ?_) #[true, true, true, true, true, true, true, true, true, true, false, false, false, false, false, false, false, false, false, false, false, false] rfl rfl (by kernel_rfl) (fun _ _ _ h => h) (Or.inl ⟨by rfl, ?_⟩) ?_ ?_
        rotate_left
        · intro w'
          go_simp
          with_reducible rfl
        rotate_left
        · simp only [Act.put, List.setIfInBounds_toArray, List.set_cons_zero, List.set_cons_succ, i64_w, i32_w]
          rfl
        refine pure_ (i := 10) (N := some 37) (v := ?_) (a' := ?_) #[true, true, true, true, true, true, true, true, true, true, true, false, false, false, false, false, false, false, false, false, false, false] rfl rfl (by kernel_rfl) (fun _ _ _ h => h) (Or.inl ⟨by rfl, ?_⟩) ?_ ?_
        rotate_left
        · intro w'
          go_simp
          with_reducible rfl
        rotate_left
        · simp only [Act.put, List.setIfInBounds_toArray, List.set_cons_zero, List.set_cons_succ, i64_w, i32_w]
          rfl
        refine take_ (i := 11) (N := some 38) (v := ?_) (a' := ?_) #[true, true, true, true, true, true, true, true, true, true, true, true, false, false, false, false, false, false, false, false, false, false] rfl rfl (by kernel_rfl) (fun _ _ _ h => h) (Or.inl ⟨by rfl, ?_⟩) hHeld ?_ ?_
        rotate_left
        · intro w' hS
          go_simp
          with_reducible rfl
        rotate_left
        · simp only [Act.put, List.setIfInBounds_toArray, List.set_cons_zero, List.set_cons_succ, i64_w, i32_w]
          rfl
        refine pure_ (i := 13) (N := some 40) (v := ?_) (a' := ?_) #[true, true, true, true, true, true, true, true, true, true, true, true, false, true, false, false, false, false, false, false, false, false] rfl rfl (by kernel_rfl) (fun _ _ _ h => h) (Or.inl ⟨by rfl, ?_⟩) ?_ ?_
        rotate_left
        · intro w'
          go_simp
          with_reducible rfl
        rotate_left
        · simp only [Act.put, List.setIfInBounds_toArray, List.set_cons_zero, List.set_cons_succ, i64_w, i32_w]
          rfl
        refine pure_ (i := 14) (N := some 41) (v := ?_) (a' := ?_) #[true, true, true, true, true, true, true, true, true, true, true, true, false, true, true, false, false, false, false, false, false, false] rfl rfl (by kernel_rfl) (fun _ _ _ h => h) (Or.inl ⟨by rfl, ?_⟩) ?_ ?_
        rotate_left
        · intro w'
          go_simp
          with_reducible rfl
        rotate_left
        · simp only [Act.put, List.setIfInBounds_toArray, List.set_cons_zero, List.set_cons_succ, i64_w, i32_w]
          rfl
        refine pure_ (i := 15) (N := some 42) (v := ?_) (a' := ?_) #[true, true, true, true, true, true, true, true, true, true, true, true, false, true, true, true, false, false, false, false, false, false] rfl rfl (by kernel_rfl) (fun _ _ _ h => h) (Or.inl ⟨by rfl, ?_⟩) ?_ ?_
        rotate_left
        · intro w'
          go_simp
          with_reducible rfl
        rotate_left
        · simp only [Act.put, List.setIfInBounds_toArray, List.set_cons_zero, List.set_cons_succ, i64_w, i32_w]
          rfl
        refine take_ (i := 16) (N := some 43) (v := ?_) (a' := ?_) #[true, true, true, true, true, true, true, true, true, true, true, true, false, true, true, true, true, false, false, false, false, false] rfl rfl (by kernel_rfl) (fun _ _ _ h => h) (Or.inl ⟨by rfl, ?_⟩) hHeld ?_ ?_
        rotate_left
        · intro w' hS
          go_simp
          with_reducible rfl
        rotate_left
        · simp only [Act.put, List.setIfInBounds_toArray, List.set_cons_zero, List.set_cons_succ, i64_w, i32_w]
          rfl
        refine one_ (i := 12) (N := some 39) #[true, true, true, true, true, true, true, true, true, true, true, true, true, true, true, true, true, false, false, false, false, false] rfl rfl (by kernel_rfl) (by decide) (fun K hK => ?_)
        refine goesV_ Try.func51 (by kernel_rfl) rfl #[.agg #[.int .u32 x.f0, .int .u64 x.f1]] (by rfl) rfl rfl rfl (by (try simp only [List.map_toArray, List.map_cons, List.map_nil]); first | done | rfl) ?_
        refine (vector_actor.calls x.f0 x.f1 x.f0 _ rfl).mono ?_
        rintro e_ wz ⟨rfl, hbz⟩
        refine ⟨_, rfl, ?_⟩
        have HI3 := Aside0.mk (HIb.out _ _ _ _ HI2.out hbz)
        clear HI2 hbz
        refine hK.out _ _ (⟨((HIB.out _ _ _ HI3.out).cell (p := ⟨ab, ao, none⟩) hab).trans HDA.out.1, ((HIB.out _ _ _ HI3.out).cell (p := ⟨ab, ao + 1, none⟩) hab).trans HDA.out.2, ((HIB.out _ _ _ HI3.out).cell (p := ⟨bb, bo, none⟩) hbb).trans HDB.out.1, ((HIB.out _ _ _ HI3.out).cell (p := ⟨bb, bo + 1, none⟩) hbb).trans HDB.out.2⟩) (fun hHeld => ?_)
        clear hK K
        refine norm_ (a' := ?_) ?_ ?_
        rotate_left
        · show Act.put _ (some 39) _ = _
          simp only [Act.put, List.setIfInBounds_toArray, List.set_cons_zero, List.set_cons_succ, i64_w, i32_w]
          rfl
        refine one_ (i := 17) (N := some 44) #[true, true, true, true, true, true, true, true, true, true, true, true, true, true, true, true, true, true, false, false, false, false] rfl rfl (by kernel_rfl) (by decide) (fun K hK => ?_)
        refine goesV_ Try.func51 (by kernel_rfl) rfl #[.agg #[.int .u32 y.f0, .int .u64 y.f1]] (by rfl) rfl rfl rfl (by (try simp only [List.map_toArray, List.map_cons, List.map_nil]); first | done | rfl) ?_
        refine (vector_actor.calls y.f0 y.f1 y.f0 _ rfl).mono ?_
        rintro e_ wz ⟨rfl, hbz⟩
        refine ⟨_, rfl, ?_⟩
        have HI4 := Aside0.mk (HIb.out _ _ _ _ HI3.out hbz)
        clear HI3 hbz
        refine hK.out _ _ (⟨((HIB.out _ _ _ HI4.out).cell (p := ⟨ab, ao, none⟩) hab).trans HDA.out.1, ((HIB.out _ _ _ HI4.out).cell (p := ⟨ab, ao + 1, none⟩) hab).trans HDA.out.2, ((HIB.out _ _ _ HI4.out).cell (p := ⟨bb, bo, none⟩) hbb).trans HDB.out.1, ((HIB.out _ _ _ HI4.out).cell (p := ⟨bb, bo + 1, none⟩) hbb).trans HDB.out.2⟩) (fun hHeld => ?_)
        clear hK K
        refine norm_ (a' := ?_) ?_ ?_
        rotate_left
        · show Act.put _ (some 44) _ = _
          simp only [Act.put, List.setIfInBounds_toArray, List.set_cons_zero, List.set_cons_succ, i64_w, i32_w]
          rfl
        refine pure_ (i := 18) (N := some 45) (v := ?_) (a' := ?_) #[true, true, true, true, true, true, true, true, true, true, true, true, true, true, true, true, true, true, true, false, false, false] rfl rfl (by kernel_rfl) (fun _ _ _ h => h) (Or.inl ⟨by rfl, ?_⟩) ?_ ?_
        rotate_left
        · intro w'
          go_simp
          with_reducible rfl
        rotate_left
        · simp only [Act.put, List.setIfInBounds_toArray, List.set_cons_zero, List.set_cons_succ, i64_w, i32_w]
          rfl
        refine pure_ (i := 19) (N := some 46) (v := ?_) (a' := ?_) #[true, true, true, true, true, true, true, true, true, true, true, true, true, true, true, true, true, true, true, true, false, false] rfl rfl (by kernel_rfl) (fun _ _ _ h => h) (Or.inl ⟨by rfl, ?_⟩) ?_ ?_
        rotate_left
        · intro w'
          go_simp
          with_reducible rfl
        rotate_left
        · simp only [Act.put, List.setIfInBounds_toArray, List.set_cons_zero, List.set_cons_succ, i64_w, i32_w]
          rfl
        refine pure_ (i := 20) (N := some 47) (v := ?_) (a' := ?_) #[true, true, true, true, true, true, true, true, true, true, true, true, true, true, true, true, true, true, true, true, true, false] rfl rfl (by kernel_rfl) (fun _ _ _ h => h) (Or.inl ⟨by rfl, ?_⟩) ?_ ?_
        rotate_left
        · intro w'
          go_simp
          with_reducible rfl
        rotate_left
        · simp only [Act.put, List.setIfInBounds_toArray, List.set_cons_zero, List.set_cons_succ, i64_w, i32_w]
          rfl
        refine pure_ (i := 21) (N := some 26) (v := ?_) (a' := ?_) #[true, true, true, true, true, true, true, true, true, true, true, true, true, true, true, true, true, true, true, true, true, true] rfl rfl (by kernel_rfl) (fun _ _ _ h => h) (Or.inl ⟨by rfl, ?_⟩) ?_ ?_
        rotate_left
        · intro w'
          go_simp
          with_reducible rfl
        rotate_left
        · simp only [Act.put, List.setIfInBounds_toArray, List.set_cons_zero, List.set_cons_succ, i64_w, i32_w]
          rfl
        refine done_ (by kernel_rfl) ?_
        go_wp2_with fail
        by_cases hyx : y.f0 < x.f0
        · have hyxd : decide (y.f0 < x.f0) = true := decide_eq_true hyx
          refine start_ (n := 17) (S := fun w' => w'.cell? ⟨ab, ao, none⟩ = some (.int .u32 x.f0) ∧ w'.cell? ⟨ab, ao + 1, none⟩ = some (.int .u64 x.f1) ∧ w'.cell? ⟨bb, bo, none⟩ = some (.int .u32 y.f0) ∧ w'.cell? ⟨bb, bo + 1, none⟩ = some (.int .u64 y.f1)) (ds := []) #[false, false, false, false, false, false, false, false, false, false, false, false, false, false, false, false, false] (by kernel_rfl) rfl rfl (⟨((HIB.out _ _ _ HI4.out).cell (p := ⟨ab, ao, none⟩) hab).trans HDA.out.1, ((HIB.out _ _ _ HI4.out).cell (p := ⟨ab, ao + 1, none⟩) hab).trans HDA.out.2, ((HIB.out _ _ _ HI4.out).cell (p := ⟨bb, bo, none⟩) hbb).trans HDB.out.1, ((HIB.out _ _ _ HI4.out).cell (p := ⟨bb, bo + 1, none⟩) hbb).trans HDB.out.2⟩) (fun hHeld => ?_)
          have HI5 : Aside0 (I wz.drew st (a.length + b.length + 2)) := ⟨HIb.out _ _ _ _ HI4.out (below_drew (Below.refl _ _))⟩
          clear HI4
          generalize wz.drew = w5 at HI5 hHeld ⊢
          refine pure_ (i := 0) (N := some 55) (v := ?_) (a' := ?_) #[true, false, false, false, false, false, false, false, false, false, false, false, false, false, false, false, false] rfl rfl (by kernel_rfl) (fun _ _ _ h => h) (Or.inl ⟨by rfl, ?_⟩) ?_ ?_
          rotate_left
          · intro w'
            go_simp
            with_reducible rfl
          rotate_left
          · simp only [Act.put, List.setIfInBounds_toArray, List.set_cons_zero, List.set_cons_succ, i64_w, i32_w]
            rfl
          refine pure_ (i := 1) (N := some 56) (v := ?_) (a' := ?_) #[true, true, false, false, false, false, false, false, false, false, false, false, false, false, false, false, false] rfl rfl (by kernel_rfl) (fun _ _ _ h => h) (Or.inl ⟨by rfl, ?_⟩) ?_ ?_
          rotate_left
          · intro w'
            go_simp
            with_reducible rfl
          rotate_left
          · simp only [Act.put, List.setIfInBounds_toArray, List.set_cons_zero, List.set_cons_succ, i64_w, i32_w]
            rfl
          refine pure_ (i := 2) (N := some 57) (v := ?_) (a' := ?_) #[true, true, true, false, false, false, false, false, false, false, false, false, false, false, false, false, false] rfl rfl (by kernel_rfl) (fun _ _ _ h => h) (Or.inl ⟨by rfl, ?_⟩) ?_ ?_
          rotate_left
          · intro w'
            go_simp
            with_reducible rfl
          rotate_left
          · simp only [Act.put, List.setIfInBounds_toArray, List.set_cons_zero, List.set_cons_succ, i64_w, i32_w]
            rfl
          refine pure_ (i := 3) (N := some 58) (v := ?_) (a' := ?_) #[true, true, true, true, false, false, false, false, false, false, false, false, false, false, false, false, false] rfl rfl (by kernel_rfl) (fun _ _ _ h => h) (Or.inl ⟨by rfl, ?_⟩) ?_ ?_
          rotate_left
          · intro w'
            go_simp
            with_reducible rfl
          rotate_left
          · simp only [Act.put, List.setIfInBounds_toArray, List.set_cons_zero, List.set_cons_succ, i64_w, i32_w]
            rfl
          refine pure_ (i := 4) (N := some 59) (v := ?_) (a' := ?_) #[true, true, true, true, true, false, false, false, false, false, false, false, false, false, false, false, false] rfl rfl (by kernel_rfl) (fun _ _ _ h => h) (Or.inl ⟨by rfl, ?_⟩) ?_ ?_
          rotate_left
          · intro w'
            go_simp
            with_reducible rfl
          rotate_left
          · simp only [Act.put, List.setIfInBounds_toArray, List.set_cons_zero, List.set_cons_succ, i64_w, i32_w]
            rfl
          refine pure_ (i := 5) (N := some 60) (v := ?_) (a' := ?_) #[true, true, true, true, true, true, false, false, false, false, false, false, false, false, false, false, false] rfl rfl (by kernel_rfl) (fun _ _ _ h => h) (Or.inl ⟨by rfl, ?_⟩) ?_ ?_
          rotate_left
          · intro w'
            go_simp
            with_reducible rfl
          rotate_left
          · simp only [Act.put, List.setIfInBounds_toArray, List.set_cons_zero, List.set_cons_succ, i64_w, i32_w]
            rfl
          refine pure_ (i := 6) (N := some 61) (v := ?_) (a' := ?_) #[true, true, true, true, true, true, true, false, false, false, false, false, false, false, false, false, false] rfl rfl (by kernel_rfl) (fun _ _ _ h => h) (Or.inl ⟨by rfl, ?_⟩) ?_ ?_
          rotate_left
          · intro w'
            go_simp
            with_reducible rfl
          rotate_left
          · simp only [Act.put, List.setIfInBounds_toArray, List.set_cons_zero, List.set_cons_succ, i64_w, i32_w]
            rfl
          refine take_ (i := 7) (N := some 62) (v := ?_) (a' := ?_) #[true, true, true, true, true, true, true, true, false, false, false, false, false, false, false, false, false] rfl rfl (by kernel_rfl) (fun _ _ _ h => h) (Or.inl ⟨by rfl, ?_⟩) hHeld ?_ ?_
          rotate_left
          · intro w' hS
            go_simp
            with_reducible rfl
          rotate_left
          · simp only [Act.put, List.setIfInBounds_toArray, List.set_cons_zero, List.set_cons_succ, i64_w, i32_w]
            rfl
          refine pure_ (i := 9) (N := some 64) (v := ?_) (a' := ?_) #[true, true, true, true, true, true, true, true, false, true, false, false, false, false, false, false, false] rfl rfl (by kernel_rfl) (fun _ _ _ h => h) (Or.inl ⟨by rfl, ?_⟩) ?_ ?_
          rotate_left
          · intro w'
            go_simp
            with_reducible rfl
          rotate_left
          · simp only [Act.put, List.setIfInBounds_toArray, List.set_cons_zero, List.set_cons_succ, i64_w, i32_w]
            rfl
          refine pure_ (i := 10) (N := some 65) (v := ?_) (a' := ?_) #[true, true, true, true, true, true, true, true, false, true, true, false, false, false, false, false, false] rfl rfl (by kernel_rfl) (fun _ _ _ h => h) (Or.inl ⟨by rfl, ?_⟩) ?_ ?_
          rotate_left
          · intro w'
            go_simp
            with_reducible rfl
          rotate_left
          · simp only [Act.put, List.setIfInBounds_toArray, List.set_cons_zero, List.set_cons_succ, i64_w, i32_w]
            rfl
          refine pure_ (i := 11) (N := some 66) (v := ?_) (a' := ?_) #[true, true, true, true, true, true, true, true, false, true, true, true, false, false, false, false, false] rfl rfl (by kernel_rfl) (fun _ _ _ h => h) (Or.inl ⟨by rfl, ?_⟩) ?_ ?_
          rotate_left
          · intro w'
            go_simp
            with_reducible rfl
          rotate_left
          · simp only [Act.put, List.setIfInBounds_toArray, List.set_cons_zero, List.set_cons_succ, i64_w, i32_w]
            rfl
          refine take_ (i := 12) (N := some 67) (v := ?_) (a' := ?_) #[true, true, true, true, true, true, true, true, false, true, true, true, true, false, false, false, false] rfl rfl (by kernel_rfl) (fun _ _ _ h => h) (Or.inl ⟨by rfl, ?_⟩) hHeld ?_ ?_
          rotate_left
          · intro w' hS
            go_simp
            with_reducible rfl
          rotate_left
          · simp only [Act.put, List.setIfInBounds_toArray, List.set_cons_zero, List.set_cons_succ, i64_w, i32_w]
            rfl
          refine one_ (i := 8) (N := some 63) #[true, true, true, true, true, true, true, true, true, true, true, true, true, false, false, false, false] rfl rfl (by kernel_rfl) (by decide) (fun K hK => ?_)
          refine goesV_ Try.func51 (by kernel_rfl) rfl #[.agg #[.int .u32 y.f0, .int .u64 y.f1]] (by rfl) rfl rfl rfl (by (try simp only [List.map_toArray, List.map_cons, List.map_nil]); first | done | rfl) ?_
          refine (vector_actor.calls y.f0 y.f1 y.f0 _ rfl).mono ?_
          rintro e_ wz ⟨rfl, hbz⟩
          refine ⟨_, rfl, ?_⟩
          have HI6 := Aside0.mk (HIb.out _ _ _ _ HI5.out hbz)
          clear HI5 hbz
          refine hK.out _ _ (⟨((HIB.out _ _ _ HI6.out).cell (p := ⟨ab, ao, none⟩) hab).trans HDA.out.1, ((HIB.out _ _ _ HI6.out).cell (p := ⟨ab, ao + 1, none⟩) hab).trans HDA.out.2, ((HIB.out _ _ _ HI6.out).cell (p := ⟨bb, bo, none⟩) hbb).trans HDB.out.1, ((HIB.out _ _ _ HI6.out).cell (p := ⟨bb, bo + 1, none⟩) hbb).trans HDB.out.2⟩) (fun hHeld => ?_)
          clear hK K
          refine norm_ (a' := ?_) ?_ ?_
          rotate_left
          · show Act.put _ (some 63) _ = _
            simp only [Act.put, List.setIfInBounds_toArray, List.set_cons_zero, List.set_cons_succ, i64_w, i32_w]
            rfl
          refine one_ (i := 13) (N := some 68) #[true, true, true, true, true, true, true, true, true, true, true, true, true, true, false, false, false] rfl rfl (by kernel_rfl) (by decide) (fun K hK => ?_)
          refine goesV_ Try.func51 (by kernel_rfl) rfl #[.agg #[.int .u32 x.f0, .int .u64 x.f1]] (by rfl) rfl rfl rfl (by (try simp only [List.map_toArray, List.map_cons, List.map_nil]); first | done | rfl) ?_
          refine (vector_actor.calls x.f0 x.f1 x.f0 _ rfl).mono ?_
          rintro e_ wz ⟨rfl, hbz⟩
          refine ⟨_, rfl, ?_⟩
          have HI7 := Aside0.mk (HIb.out _ _ _ _ HI6.out hbz)
          clear HI6 hbz
          refine hK.out _ _ (⟨((HIB.out _ _ _ HI7.out).cell (p := ⟨ab, ao, none⟩) hab).trans HDA.out.1, ((HIB.out _ _ _ HI7.out).cell (p := ⟨ab, ao + 1, none⟩) hab).trans HDA.out.2, ((HIB.out _ _ _ HI7.out).cell (p := ⟨bb, bo, none⟩) hbb).trans HDB.out.1, ((HIB.out _ _ _ HI7.out).cell (p := ⟨bb, bo + 1, none⟩) hbb).trans HDB.out.2⟩) (fun hHeld => ?_)
          clear hK K
          refine norm_ (a' := ?_) ?_ ?_
          rotate_left
          · show Act.put _ (some 68) _ = _
            simp only [Act.put, List.setIfInBounds_toArray, List.set_cons_zero, List.set_cons_succ, i64_w, i32_w]
            rfl
          refine pure_ (i := 14) (N := some 69) (v := ?_) (a' := ?_) #[true, true, true, true, true, true, true, true, true, true, true, true, true, true, true, false, false] rfl rfl (by kernel_rfl) (fun _ _ _ h => h) (Or.inl ⟨by rfl, ?_⟩) ?_ ?_
          rotate_left
          · intro w'
            go_simp
            with_reducible rfl
          rotate_left
          · simp only [Act.put, List.setIfInBounds_toArray, List.set_cons_zero, List.set_cons_succ, i64_w, i32_w]
            rfl
          refine pure_ (i := 15) (N := some 70) (v := ?_) (a' := ?_) #[true, true, true, true, true, true, true, true, true, true, true, true, true, true, true, true, false] rfl rfl (by kernel_rfl) (fun _ _ _ h => h) (Or.inl ⟨by rfl, ?_⟩) ?_ ?_
          rotate_left
          · intro w'
            go_simp
            with_reducible rfl
          rotate_left
          · simp only [Act.put, List.setIfInBounds_toArray, List.set_cons_zero, List.set_cons_succ, i64_w, i32_w]
            rfl
          refine pure_ (i := 16) (N := some 54) (v := ?_) (a' := ?_) #[true, true, true, true, true, true, true, true, true, true, true, true, true, true, true, true, true] rfl rfl (by kernel_rfl) (fun _ _ _ h => h) (Or.inl ⟨by rfl, ?_⟩) ?_ ?_
          rotate_left
          · intro w'
            go_simp
            with_reducible rfl
          rotate_left
          · simp only [Act.put, List.setIfInBounds_toArray, List.set_cons_zero, List.set_cons_succ, i64_w, i32_w]
            rfl
          refine done_ (by kernel_rfl) ?_
          go_wp2_with fail
          refine (HY.out _ st (a.length + 1 + b.length) y bb bo (by have h := HI7.out; rw [show a.length + 1 + b.length + 1 = a.length + b.length + 2 by omega]; exact h) HDB.out hbb).mono ?_
          rintro e_ w3 ⟨rfl, hI3⟩
          have HI8 := Aside0.mk hI3
          clear HI7 hI3 qa0 qa1 qb0 qb1 hHeld
          go_wp2_with fail
          go_roundw
          case rel => exact ⟨some ⟨ab, ao, none⟩, c, x :: a, B', d - 1, b, stp st none (some y), rfl, rfl, ⟨HA.out, HDC.out, HCb.out, hd2, HI8.out, by rw [← HF.out, walkL_gt _ _ x y a b (by omega)]⟩⟩
          case measure => simp [slen]
        · have hyxd : decide (y.f0 < x.f0) = false := decide_eq_false hyx
          refine start_ (n := 17) (S := fun w' => w'.cell? ⟨ab, ao, none⟩ = some (.int .u32 x.f0) ∧ w'.cell? ⟨ab, ao + 1, none⟩ = some (.int .u64 x.f1) ∧ w'.cell? ⟨bb, bo, none⟩ = some (.int .u32 y.f0) ∧ w'.cell? ⟨bb, bo + 1, none⟩ = some (.int .u64 y.f1)) (ds := []) #[false, false, false, false, false, false, false, false, false, false, false, false, false, false, false, false, false] (by kernel_rfl) rfl rfl (⟨((HIB.out _ _ _ HI4.out).cell (p := ⟨ab, ao, none⟩) hab).trans HDA.out.1, ((HIB.out _ _ _ HI4.out).cell (p := ⟨ab, ao + 1, none⟩) hab).trans HDA.out.2, ((HIB.out _ _ _ HI4.out).cell (p := ⟨bb, bo, none⟩) hbb).trans HDB.out.1, ((HIB.out _ _ _ HI4.out).cell (p := ⟨bb, bo + 1, none⟩) hbb).trans HDB.out.2⟩) (fun hHeld => ?_)
          have HI5 : Aside0 (I wz.drew st (a.length + b.length + 2)) := ⟨HIb.out _ _ _ _ HI4.out (below_drew (Below.refl _ _))⟩
          clear HI4
          generalize wz.drew = w5 at HI5 hHeld ⊢
          refine pure_ (i := 0) (N := some 55) (v := ?_) (a' := ?_) #[true, false, false, false, false, false, false, false, false, false, false, false, false, false, false, false, false] rfl rfl (by kernel_rfl) (fun _ _ _ h => h) (Or.inl ⟨by rfl, ?_⟩) ?_ ?_
          rotate_left
          · intro w'
            go_simp
            with_reducible rfl
          rotate_left
          · simp only [Act.put, List.setIfInBounds_toArray, List.set_cons_zero, List.set_cons_succ, i64_w, i32_w]
            rfl
          refine pure_ (i := 1) (N := some 56) (v := ?_) (a' := ?_) #[true, true, false, false, false, false, false, false, false, false, false, false, false, false, false, false, false] rfl rfl (by kernel_rfl) (fun _ _ _ h => h) (Or.inl ⟨by rfl, ?_⟩) ?_ ?_
          rotate_left
          · intro w'
            go_simp
            with_reducible rfl
          rotate_left
          · simp only [Act.put, List.setIfInBounds_toArray, List.set_cons_zero, List.set_cons_succ, i64_w, i32_w]
            rfl
          refine pure_ (i := 2) (N := some 57) (v := ?_) (a' := ?_) #[true, true, true, false, false, false, false, false, false, false, false, false, false, false, false, false, false] rfl rfl (by kernel_rfl) (fun _ _ _ h => h) (Or.inl ⟨by rfl, ?_⟩) ?_ ?_
          rotate_left
          · intro w'
            go_simp
            with_reducible rfl
          rotate_left
          · simp only [Act.put, List.setIfInBounds_toArray, List.set_cons_zero, List.set_cons_succ, i64_w, i32_w]
            rfl
          refine pure_ (i := 3) (N := some 58) (v := ?_) (a' := ?_) #[true, true, true, true, false, false, false, false, false, false, false, false, false, false, false, false, false] rfl rfl (by kernel_rfl) (fun _ _ _ h => h) (Or.inl ⟨by rfl, ?_⟩) ?_ ?_
          rotate_left
          · intro w'
            go_simp
            with_reducible rfl
          rotate_left
          · simp only [Act.put, List.setIfInBounds_toArray, List.set_cons_zero, List.set_cons_succ, i64_w, i32_w]
            rfl
          refine pure_ (i := 4) (N := some 59) (v := ?_) (a' := ?_) #[true, true, true, true, true, false, false, false, false, false, false, false, false, false, false, false, false] rfl rfl (by kernel_rfl) (fun _ _ _ h => h) (Or.inl ⟨by rfl, ?_⟩) ?_ ?_
          rotate_left
          · intro w'
            go_simp
            with_reducible rfl
          rotate_left
          · simp only [Act.put, List.setIfInBounds_toArray, List.set_cons_zero, List.set_cons_succ, i64_w, i32_w]
            rfl
          refine pure_ (i := 5) (N := some 60) (v := ?_) (a' := ?_) #[true, true, true, true, true, true, false, false, false, false, false, false, false, false, false, false, false] rfl rfl (by kernel_rfl) (fun _ _ _ h => h) (Or.inl ⟨by rfl, ?_⟩) ?_ ?_
          rotate_left
          · intro w'
            go_simp
            with_reducible rfl
          rotate_left
          · simp only [Act.put, List.setIfInBounds_toArray, List.set_cons_zero, List.set_cons_succ, i64_w, i32_w]
            rfl
          refine pure_ (i := 6) (N := some 61) (v := ?_) (a' := ?_) #[true, true, true, true, true, true, true, false, false, false, false, false, false, false, false, false, false] rfl rfl (by kernel_rfl) (fun _ _ _ h => h) (Or.inl ⟨by rfl, ?_⟩) ?_ ?_
          rotate_left
          · intro w'
            go_simp
            with_reducible rfl
          rotate_left
          · simp only [Act.put, List.setIfInBounds_toArray, List.set_cons_zero, List.set_cons_succ, i64_w, i32_w]
            rfl
          refine take_ (i := 7) (N := some 62) (v := ?_) (a' := ?_) #[true, true, true, true, true, true, true, true, false, false, false, false, false, false, false, false, false] rfl rfl (by kernel_rfl) (fun _ _ _ h => h) (Or.inl ⟨by rfl, ?_⟩) hHeld ?_ ?_
          rotate_left
          · intro w' hS
            go_simp
            with_reducible rfl
          rotate_left
          · simp only [Act.put, List.setIfInBounds_toArray, List.set_cons_zero, List.set_cons_succ, i64_w, i32_w]
            rfl
          refine pure_ (i := 9) (N := some 64) (v := ?_) (a' := ?_) #[true, true, true, true, true, true, true, true, false, true, false, false, false, false, false, false, false] rfl rfl (by kernel_rfl) (fun _ _ _ h => h) (Or.inl ⟨by rfl, ?_⟩) ?_ ?_
          rotate_left
          · intro w'
            go_simp
            with_reducible rfl
          rotate_left
          · simp only [Act.put, List.setIfInBounds_toArray, List.set_cons_zero, List.set_cons_succ, i64_w, i32_w]
            rfl
          refine pure_ (i := 10) (N := some 65) (v := ?_) (a' := ?_) #[true, true, true, true, true, true, true, true, false, true, true, false, false, false, false, false, false] rfl rfl (by kernel_rfl) (fun _ _ _ h => h) (Or.inl ⟨by rfl, ?_⟩) ?_ ?_
          rotate_left
          · intro w'
            go_simp
            with_reducible rfl
          rotate_left
          · simp only [Act.put, List.setIfInBounds_toArray, List.set_cons_zero, List.set_cons_succ, i64_w, i32_w]
            rfl
          refine pure_ (i := 11) (N := some 66) (v := ?_) (a' := ?_) #[true, true, true, true, true, true, true, true, false, true, true, true, false, false, false, false, false] rfl rfl (by kernel_rfl) (fun _ _ _ h => h) (Or.inl ⟨by rfl, ?_⟩) ?_ ?_
          rotate_left
          · intro w'
            go_simp
            with_reducible rfl
          rotate_left
          · simp only [Act.put, List.setIfInBounds_toArray, List.set_cons_zero, List.set_cons_succ, i64_w, i32_w]
            rfl
          refine take_ (i := 12) (N := some 67) (v := ?_) (a' := ?_) #[true, true, true, true, true, true, true, true, false, true, true, true, true, false, false, false, false] rfl rfl (by kernel_rfl) (fun _ _ _ h => h) (Or.inl ⟨by rfl, ?_⟩) hHeld ?_ ?_
          rotate_left
          · intro w' hS
            go_simp
            with_reducible rfl
          rotate_left
          · simp only [Act.put, List.setIfInBounds_toArray, List.set_cons_zero, List.set_cons_succ, i64_w, i32_w]
            rfl
          refine one_ (i := 8) (N := some 63) #[true, true, true, true, true, true, true, true, true, true, true, true, true, false, false, false, false] rfl rfl (by kernel_rfl) (by decide) (fun K hK => ?_)
          refine goesV_ Try.func51 (by kernel_rfl) rfl #[.agg #[.int .u32 y.f0, .int .u64 y.f1]] (by rfl) rfl rfl rfl (by (try simp only [List.map_toArray, List.map_cons, List.map_nil]); first | done | rfl) ?_
          refine (vector_actor.calls y.f0 y.f1 y.f0 _ rfl).mono ?_
          rintro e_ wz ⟨rfl, hbz⟩
          refine ⟨_, rfl, ?_⟩
          have HI6 := Aside0.mk (HIb.out _ _ _ _ HI5.out hbz)
          clear HI5 hbz
          refine hK.out _ _ (⟨((HIB.out _ _ _ HI6.out).cell (p := ⟨ab, ao, none⟩) hab).trans HDA.out.1, ((HIB.out _ _ _ HI6.out).cell (p := ⟨ab, ao + 1, none⟩) hab).trans HDA.out.2, ((HIB.out _ _ _ HI6.out).cell (p := ⟨bb, bo, none⟩) hbb).trans HDB.out.1, ((HIB.out _ _ _ HI6.out).cell (p := ⟨bb, bo + 1, none⟩) hbb).trans HDB.out.2⟩) (fun hHeld => ?_)
          clear hK K
          refine norm_ (a' := ?_) ?_ ?_
          rotate_left
          · show Act.put _ (some 63) _ = _
            simp only [Act.put, List.setIfInBounds_toArray, List.set_cons_zero, List.set_cons_succ, i64_w, i32_w]
            rfl
          refine one_ (i := 13) (N := some 68) #[true, true, true, true, true, true, true, true, true, true, true, true, true, true, false, false, false] rfl rfl (by kernel_rfl) (by decide) (fun K hK => ?_)
          refine goesV_ Try.func51 (by kernel_rfl) rfl #[.agg #[.int .u32 x.f0, .int .u64 x.f1]] (by rfl) rfl rfl rfl (by (try simp only [List.map_toArray, List.map_cons, List.map_nil]); first | done | rfl) ?_
          refine (vector_actor.calls x.f0 x.f1 x.f0 _ rfl).mono ?_
          rintro e_ wz ⟨rfl, hbz⟩
          refine ⟨_, rfl, ?_⟩
          have HI7 := Aside0.mk (HIb.out _ _ _ _ HI6.out hbz)
          clear HI6 hbz
          refine hK.out _ _ (⟨((HIB.out _ _ _ HI7.out).cell (p := ⟨ab, ao, none⟩) hab).trans HDA.out.1, ((HIB.out _ _ _ HI7.out).cell (p := ⟨ab, ao + 1, none⟩) hab).trans HDA.out.2, ((HIB.out _ _ _ HI7.out).cell (p := ⟨bb, bo, none⟩) hbb).trans HDB.out.1, ((HIB.out _ _ _ HI7.out).cell (p := ⟨bb, bo + 1, none⟩) hbb).trans HDB.out.2⟩) (fun hHeld => ?_)
          clear hK K
          refine norm_ (a' := ?_) ?_ ?_
          rotate_left
          · show Act.put _ (some 68) _ = _
            simp only [Act.put, List.setIfInBounds_toArray, List.set_cons_zero, List.set_cons_succ, i64_w, i32_w]
            rfl
          refine pure_ (i := 14) (N := some 69) (v := ?_) (a' := ?_) #[true, true, true, true, true, true, true, true, true, true, true, true, true, true, true, false, false] rfl rfl (by kernel_rfl) (fun _ _ _ h => h) (Or.inl ⟨by rfl, ?_⟩) ?_ ?_
          rotate_left
          · intro w'
            go_simp
            with_reducible rfl
          rotate_left
          · simp only [Act.put, List.setIfInBounds_toArray, List.set_cons_zero, List.set_cons_succ, i64_w, i32_w]
            rfl
          refine pure_ (i := 15) (N := some 70) (v := ?_) (a' := ?_) #[true, true, true, true, true, true, true, true, true, true, true, true, true, true, true, true, false] rfl rfl (by kernel_rfl) (fun _ _ _ h => h) (Or.inl ⟨by rfl, ?_⟩) ?_ ?_
          rotate_left
          · intro w'
            go_simp
            with_reducible rfl
          rotate_left
          · simp only [Act.put, List.setIfInBounds_toArray, List.set_cons_zero, List.set_cons_succ, i64_w, i32_w]
            rfl
          refine pure_ (i := 16) (N := some 54) (v := ?_) (a' := ?_) #[true, true, true, true, true, true, true, true, true, true, true, true, true, true, true, true, true] rfl rfl (by kernel_rfl) (fun _ _ _ h => h) (Or.inl ⟨by rfl, ?_⟩) ?_ ?_
          rotate_left
          · intro w'
            go_simp
            with_reducible rfl
          rotate_left
          · simp only [Act.put, List.setIfInBounds_toArray, List.set_cons_zero, List.set_cons_succ, i64_w, i32_w]
            rfl
          refine done_ (by kernel_rfl) ?_
          go_wp2_with fail
          have HI8 : Aside0 (I wz.drew st (a.length + b.length + 1)) := ⟨HIm.out _ _ _ (HIb.out _ _ _ _ HI7.out (below_drew (Below.refl _ _)))⟩
          clear HI7 qa0 qa1 qb0 qb1 hHeld
          go_still_tail 5, (by kernel_rfl)
          change wpList _ _ _ _ _ wz.drew
          generalize wz.drew = w8 at HI8 ⊢
          go_wp2_with fail
          refine (HXY.out _ st (a.length + b.length) x ab ao y bb bo HI8.out HDA.out hab HDB.out hbb).mono ?_
          rintro e_ w3 ⟨rfl, hI3⟩
          have HI9 := Aside0.mk hI3
          clear HI8 hI3
          go_wp2_with fail
          go_quiet (fail)
          go_wp2_with fail
          go_roundw
          case rel => exact ⟨A', c - 1, a, B', d - 1, b, stp st (some x) (some y), rfl, rfl, ⟨HCa.out, hc2, HCb.out, hd2, HIb.out _ _ _ _ HI9.out (pw_below_drewN (Below.refl _ _) _), by rw [← HF.out, walkL_eq _ _ x y a b (by omega) (by omega)]⟩⟩
          case measure => simp [slen]; omega
end Go.Proofs.Ytgcmmiihjiiemaa.My
