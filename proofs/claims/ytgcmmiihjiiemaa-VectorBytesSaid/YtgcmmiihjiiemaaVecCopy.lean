/- copy onto a lent list of dots. -/
import Derived.Test.YtgcmmiihjiiemaaVecKept
import Derived.Laws.CopyOwn
namespace Go.Proofs.Ytgcmmiihjiiemaa.My
open Go.RowKit Go.Proofs.YtgcmmiihjiiemaaW.PrintWords Go.Proofs.YtgcmmiihjiiemaaW.PrintLast Go.Proofs.YtgcmmiihjiiemaaW.PrintMore Go.Proofs.Ytgcmmiihjiiemaa Go.Proofs.Ytgcmmiihjiiemaa.PVectorMax
set_option linter.unusedSimpArgs false
set_option linter.unusedVariables false
set_option maxRecDepth 100000
set_option maxHeartbeats 800000
def cD : List Dt → List Value
  | [] => []
  | x :: l => .int .u32 x.f0 :: .int .u64 x.f1 :: cD l
theorem cD_len : ∀ l : List Dt, (cD l).length = l.length * 2
  | [] => rfl
  | x :: l => by
    show (cD l).length + 1 + 1 = (l.length + 1) * 2
    rw [cD_len l]
    omega
theorem cD_app : ∀ p q : List Dt, cD (p ++ q) = cD p ++ cD q
  | [], q => rfl
  | x :: p, q => by
    show _ :: _ :: cD (p ++ q) = _
    rw [cD_app p q]
    rfl
theorem cD_one : ∀ (l : List Dt) (v : Value), v ∈ cD l → v.oneCell' = true
  | x :: l, v, h => by
    rcases List.mem_cons.1 h with rfl | h
    · rfl
    rcases List.mem_cons.1 h with rfl | h
    · rfl
    exact cD_one l v h
theorem cD_at : ∀ (l : List Dt) (j : Nat) (v : Value), (cD l)[j]? = some v → ∃ x, l[j / 2]? = some x ∧ [Value.int .u32 x.f0, .int .u64 x.f1][j % 2]? = some v
  | [], j, v, h => by simp [cD] at h
  | x :: l, 0, v, h => ⟨x, rfl, h⟩
  | x :: l, 1, v, h => ⟨x, rfl, h⟩
  | x :: l, j + 2, v, h => by
    obtain ⟨y, h1, h2⟩ := cD_at l j v h
    rw [show (j + 2) / 2 = j / 2 + 1 by omega, show (j + 2) % 2 = j % 2 by omega]
    exact ⟨y, h1, h2⟩
theorem reps_mk {R : Dt → List Value → Prop} (hR : ∀ x, R x [.int .u32 x.f0, .int .u64 x.f1]) : ∀ l : List Dt, ∀ j p, l[j]? = some p → R p (((cD l).drop (j * 2)).take 2)
  | [], j, p, h => by simp at h
  | x :: l, 0, p, h => by
    obtain rfl := Option.some.inj h
    exact hR x
  | x :: l, j + 1, p, h => by
    have := reps_mk hR l j p h
    rw [show (j + 1) * 2 = j * 2 + 1 + 1 by omega]
    exact this
theorem cD_reps {R : Dt → List Value → Prop} (hR : ∀ x, R x [.int .u32 x.f0, .int .u64 x.f1]) (l : List Dt) : Reps R 2 l (cD l) := ⟨cD_len l, reps_mk hR l⟩
theorem reps_cD {R : Dt → List Value → Prop} (hR : ∀ x cs, R x cs → cs = [.int .u32 x.f0, .int .u64 x.f1]) : ∀ (l : List Dt) (cs : List Value), Reps R 2 l cs → cs = cD l
  | [], cs, h => List.eq_nil_of_length_eq_zero (by have := h.1; simpa using this)
  | x :: l, cs, h => by
    obtain ⟨h1, h2⟩ := h
    match cs, h1, h2 with
    | [], h1, _ => simp at h1
    | [_], h1, _ => simp at h1; omega
    | u :: v :: r, h1, h2 =>
      have e := hR _ _ (h2 0 x rfl)
      have e2 : [u, v] = [.int .u32 x.f0, .int .u64 x.f1] := e
      injection e2 with e3 e4
      injection e4 with e4 _
      subst e3 e4
      have hr : Reps R 2 l r := ⟨by simp only [List.length_cons] at h1; omega, fun j p hj => by
        have := h2 (j + 1) p hj
        rw [show (j + 1) * 2 = j * 2 + 1 + 1 by omega] at this
        exact this⟩
      rw [reps_cD hR l r hr]
      rfl
theorem sizeDot : (Try.prog.info? 35).map (·.size) = some 2 := by kernel_rfl
theorem run_copy_row2 (w : World) (ty : TypeId) (g o dLen dCap : Nat) (a : Addr) (sLen sCap : Nat) (cur : Array Value) (t : TypeId) (cs : List Value)
    (hg : w.heap[g]? = some (.cells cur t (0, 0))) (hn : cs.length = Nat.min sLen dLen * 2)
    (hsrc : ∀ j v, cs[j]? = some v → w.cell? (a.add j) = some v) (hfit : o + cs.length ≤ cur.size) (h1 : ∀ v ∈ cs, v.oneCell' = true) :
    (Builtin.copy_ #[22, 22] ty #[.slice (some ⟨g, o, none⟩) dLen dCap, .slice (some a) sLen sCap]).run Try.prog w =
      .ok (goInt (Nat.min sLen dLen)) (w.setRow g (cur.toList.take o ++ cs ++ cur.toList.drop (o + cs.length)).toArray) := by
  have hl := run_loadCells_list (P := Try.prog) w a cs hsrc
  have hst := run_storeCells_at Try.prog g o t cs 0 cur w hg (by simpa using hfit) h1
  cases hq : Try.prog.info? 35 with
  | none => have h := sizeDot; rw [hq] at h; simp at h
  | some i =>
    have hi : i.size = 2 := by have h := sizeDot; rw [hq] at h; simpa using h
    simp [Builtin.copy_, run_underlying Try.underlying22, Builtin.lenOf, Builtin.firstCells, sizeOf, typeInfo, hq, hi, ← hn, hl, hst]
theorem run_copy_none2 (w : World) (ty : TypeId) (B : Option Addr) (dLen dCap : Nat) :
    (Builtin.copy_ #[22, 22] ty #[.slice B dLen dCap, .slice none 0 0]).run Try.prog w = .ok (goInt 0) w := by
  cases hq : Try.prog.info? 35 with
  | none => have h := sizeDot; rw [hq] at h; simp at h
  | some i => cases B <;> simp [Builtin.copy_, run_underlying Try.underlying22, Builtin.lenOf, Builtin.firstCells, sizeOf, typeInfo, hq, storeCells]
theorem setRow_kept (w : World) (g : Nat) (cs : Array Value) (S : Nat → Prop) (h : S g) : Kept w (w.setRow g cs) S := ⟨by simp [World.setRow], fun i _ hn => setRow_other w g i cs (fun e => hn (e ▸ h))⟩
theorem kD_M (w : World) (base : Nat) (ok : Nat → Prop) (x : Dt) : kD.M w base ok x [.int .u32 x.f0, .int .u64 x.f1] := k35_mkM w base ok x
theorem copy_dots (W : World) (base b1 : Nat) (ok ok1 : Nat → Prop) (B A : Option Addr) (d c : Nat) (xs ys : List Dt) (ty : TypeId) (hF : Kd.R kD 35 W base ok (.slice B (xs.length + 3) d) (xs ++ marks)) (hA : Kd.R kD 35 W b1 ok1 (.slice A ys.length c) ys) (hys : ys.length = xs.length) :
    ∃ W', (Builtin.copy_ #[22, 22] ty #[.slice B xs.length d, .slice A ys.length c]).run Try.prog W = .ok (goInt ys.length) W' ∧ Kd.R kD 35 W' base ok (.slice B (xs.length + 3) d) (ys ++ marks) ∧ Kept W W' ok ∧ ∀ B0 w0, Below B0 w0 W → B0 ≤ base → Below B0 w0 W' := by
  obtain ⟨h0, inner, ⟨hi, ho⟩, hr⟩ := hF
  have hsz : kD.sz = 2 := rfl
  rw [hsz] at hi ho hr
  obtain rfl := reps_cD (fun x cs h => k35_openM h) _ _ hr
  have hxl : (xs ++ marks).length = xs.length + 3 := by rw [List.length_append]; rfl
  have hyl : (ys ++ marks).length = ys.length + 3 := by rw [List.length_append]; rfl
  rw [hxl] at ho
  obtain ⟨ha0, inn2, ⟨hi2, ho2⟩, hr2⟩ := hA
  rw [hsz] at hi2 ho2 hr2
  obtain rfl := reps_cD (fun x cs h => k35_openM h) _ _ hr2
  rcases ho with ⟨_, ho⟩ | ⟨g, cap, cur, he, hg, hh, hle, hmax, hcs, htk⟩
  · omega
  injection he with hB _ hd
  subst hB hd
  have hok : ok g := h0 g rfl
  have mk : ∀ W' : World, (∃ cur', W'.heap[g]? = some (.cells cur' 35 (0, 0)) ∧ cur'.size = d * 2 ∧ cur'.toList.take ((ys.length + 3) * 2) = cD (ys ++ marks)) → Kd.R kD 35 W' base ok (.slice (some ⟨g, 0, none⟩) (xs.length + 3) d) (ys ++ marks) := by
    rintro W' ⟨cur', e1, e2, e3⟩
    refine ⟨fun k hk => h0 k hk, cD (ys ++ marks), ⟨cD_len _, Or.inr ⟨g, d, cur', ?_, hg, e1, ?_, hmax, e2, ?_⟩⟩, cD_reps (fun x => kD_M _ _ _ x) _⟩
    · rw [hyl, hys]
    · rw [hyl, hys]; exact hle
    · rw [hyl]; exact e3
  rcases ho2 with ⟨he2, hz⟩ | ⟨g2, cap2, cur2, he2, hg2, hh2, hle2, hmax2, hcs2, htk2⟩
  · obtain rfl : ys = [] := List.eq_nil_of_length_eq_zero hz
    obtain rfl : xs = [] := List.eq_nil_of_length_eq_zero (by rw [← hys]; rfl)
    injection he2 with e1 _ e2
    subst e1 e2
    exact ⟨W, run_copy_none2 W ty _ _ _, mk W ⟨cur, hh, hcs, htk⟩, Kept.refl W ok, fun B0 w0 h _ => h⟩
  · injection he2 with e1 _ e2
    subst e1 e2
    have hlen : (cD ys).length = Nat.min ys.length xs.length * 2 := by rw [cD_len, hys, show Nat.min xs.length xs.length = xs.length from Nat.min_self _]
    have hle3 : (xs.length + 3) * 2 ≤ d * 2 := Nat.mul_le_mul_right 2 hle
    have hrun := run_copy_row2 W ty g 0 xs.length d ⟨g2, 0, none⟩ ys.length c cur 35 (cD ys) hh hlen (fun j v hj => by
      have hjl : j < (cD ys).length := (List.getElem?_eq_some_iff.1 hj).1
      rw [addr0, blk_cell hh2 j]
      have h3 : (cur2.toList.take (ys.length * 2))[j]? = some v := by rw [htk2]; exact hj
      rw [cD_len] at hjl
      rw [List.getElem?_take_of_lt hjl] at h3
      simpa using h3) (by rw [cD_len]; omega) (cD_one ys)
    refine ⟨_, by rw [hrun, hys, show Nat.min xs.length xs.length = xs.length from Nat.min_self _], mk _ ⟨_, setRow_heap W g cur _ 35 _ hh, ?_, ?_⟩, setRow_kept W g _ ok hok, fun B0 w0 h hb => below_setRow h (by omega) _⟩
    · have hcl : cur.toList.length = d * 2 := by simpa using hcs
      simp only [List.take_zero, List.nil_append, List.size_toArray, List.length_append, List.length_drop, cD_len]
      omega
    · have e : (cD marks) = (cur.toList.drop (xs.length * 2)).take 6 := by
        have h4 := congrArg (List.drop (xs.length * 2)) htk
        rw [cD_app, List.drop_left' (by rw [cD_len]), List.drop_take] at h4
        rw [← h4]
        congr 1
        omega
      rw [cD_app, e]
      simp only [List.take_zero, List.nil_append, Nat.zero_add, cD_len, hys]
      rw [List.take_append, cD_len, List.take_of_length_le (by rw [cD_len]; omega)]
      congr 2
      omega
end Go.Proofs.Ytgcmmiihjiiemaa.My
