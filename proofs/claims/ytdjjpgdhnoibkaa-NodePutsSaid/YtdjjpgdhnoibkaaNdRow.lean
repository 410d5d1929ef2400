/- Rows of cells: make, copy, store. -/
import Derived.Test.YtdjjpgdhnoibkaaNdEnc
import Derived.Laws.CopyOwn
namespace Go.Proofs.Ytdjjpgdhnoibkaa.My
open Go.RowKit Go.Proofs.YtdjjpgdhnoibkaaW.PrintWords Go.Proofs.YtdjjpgdhnoibkaaW.PrintLast Go.Proofs.YtdjjpgdhnoibkaaW.PrintMore Go.Proofs.Ytdjjpgdhnoibkaa Go.Proofs.Ytdjjpgdhnoibkaa.PZ
set_option linter.unusedSimpArgs false
set_option linter.unusedVariables false
set_option maxRecDepth 100000
set_option maxHeartbeats 800000
def cC : List Ce → List Value
  | [] => []
  | x :: l => .string x.f0 :: .string x.f1 :: cC l
theorem cC_len : ∀ l : List Ce, (cC l).length = l.length * 2
  | [] => rfl
  | x :: l => by
    show (cC l).length + 1 + 1 = (l.length + 1) * 2
    rw [cC_len l]
    omega
theorem cC_app : ∀ p q : List Ce, cC (p ++ q) = cC p ++ cC q
  | [], q => rfl
  | x :: p, q => by
    show _ :: _ :: cC (p ++ q) = _
    rw [cC_app p q]
    rfl
theorem cC_one : ∀ (l : List Ce) (v : Value), v ∈ cC l → v.oneCell' = true
  | x :: l, v, h => by
    rcases List.mem_cons.1 h with rfl | h
    · rfl
    rcases List.mem_cons.1 h with rfl | h
    · rfl
    exact cC_one l v h
theorem cC_at : ∀ (l : List Ce) (j : Nat) (v : Value), (cC l)[j]? = some v → ∃ h : j / 2 < l.length, [Value.string l[j / 2].f0, .string l[j / 2].f1][j % 2]? = some v
  | [], j, v, h => by simp [cC] at h
  | x :: l, 0, v, h => ⟨Nat.succ_pos _, h⟩
  | x :: l, 1, v, h => ⟨Nat.succ_pos _, h⟩
  | x :: l, j + 2, v, h => by
    obtain ⟨h1, h2⟩ := cC_at l j v h
    have e1 : (j + 2) / 2 = j / 2 + 1 := by omega
    refine ⟨by rw [e1]; exact Nat.succ_lt_succ h1, ?_⟩
    rw [show (j + 2) % 2 = j % 2 by omega]
    simp only [e1, List.getElem_cons_succ]
    exact h2
theorem cC_take : ∀ (l : List Ce) (n : Nat), (cC l).take (n * 2) = cC (l.take n)
  | [], n => by simp [cC]
  | x :: l, 0 => by simp [cC]
  | x :: l, n + 1 => by
    rw [show (n + 1) * 2 = n * 2 + 1 + 1 by omega]
    show _ :: _ :: (cC l).take (n * 2) = _
    rw [cC_take l n]
    rfl
theorem cC_drop : ∀ (l : List Ce) (n : Nat), (cC l).drop (n * 2) = cC (l.drop n)
  | [], n => by simp [cC]
  | x :: l, 0 => by simp [cC]
  | x :: l, n + 1 => by
    rw [show (n + 1) * 2 = n * 2 + 1 + 1 by omega]
    show (cC l).drop (n * 2) = _
    rw [cC_drop l n]
    rfl
theorem repsC_mk {R : Ce → List Value → Prop} (hR : ∀ x, R x [.string x.f0, .string x.f1]) : ∀ l : List Ce, ∀ j p, l[j]? = some p → R p (((cC l).drop (j * 2)).take 2)
  | [], j, p, h => by simp at h
  | x :: l, 0, p, h => by
    obtain rfl := Option.some.inj h
    exact hR x
  | x :: l, j + 1, p, h => by
    have := repsC_mk hR l j p h
    rw [show (j + 1) * 2 = j * 2 + 1 + 1 by omega]
    exact this
theorem cC_reps {R : Ce → List Value → Prop} (hR : ∀ x, R x [.string x.f0, .string x.f1]) (l : List Ce) : Reps R 2 l (cC l) := ⟨cC_len l, repsC_mk hR l⟩
theorem reps_cC {R : Ce → List Value → Prop} (hR : ∀ x cs, R x cs → cs = [.string x.f0, .string x.f1]) : ∀ (l : List Ce) (cs : List Value), Reps R 2 l cs → cs = cC l
  | [], cs, h => List.eq_nil_of_length_eq_zero (by have := h.1; simpa using this)
  | x :: l, cs, h => by
    obtain ⟨h1, h2⟩ := h
    match cs, h1, h2 with
    | [], h1, _ => simp at h1
    | [_], h1, _ => simp at h1; omega
    | u :: v :: r, h1, h2 =>
      have e := hR _ _ (h2 0 x rfl)
      have e2 : [u, v] = [.string x.f0, .string x.f1] := e
      injection e2 with e3 e4
      injection e4 with e4 _
      subst e3 e4
      have hr : Reps R 2 l r := ⟨by simp only [List.length_cons] at h1; omega, fun j p hj => by
        have := h2 (j + 1) p hj
        rw [show (j + 1) * 2 = j * 2 + 1 + 1 by omega] at this
        exact this⟩
      rw [reps_cC hR l r hr]
      rfl
/-- Block g holds these cells. -/
def IsB (w : World) (g : Nat) (L : List Ce) : Prop := ∃ cur, w.heap[g]? = some (.cells cur 66 (0, 0)) ∧ cur.toList = cC L
theorem C_cells {w : World} {a : Addr} {xs : List Ce} (h : Kd.C k66 w (some a) xs.length xs) (j : Nat) (v : Value) (hj : (cC xs)[j]? = some v) : w.cell? (a.add j) = some v := by
  obtain ⟨h1, h2⟩ := cC_at xs j v hj
  obtain ⟨ad, e, hx0, hx1⟩ := at_T66 h ((j / 2 : Nat) : Int) (by omega) (by omega)
  obtain rfl := Option.some.inj e
  rw [rdC_at xs _ h1, Int.toNat_natCast] at hx0 hx1
  rcases (by omega : j % 2 = 0 ∨ j % 2 = 1) with h0 | h0
  · rw [h0] at h2
    obtain rfl := Option.some.inj h2
    have e5 : a.add j = a.add (j / 2 * 2) := congrArg a.add (by omega)
    rw [e5]
    exact hx0
  · rw [h0] at h2
    obtain rfl := Option.some.inj h2
    have e : a.add j = ⟨(a.add (j / 2 * 2)).block, (a.add (j / 2 * 2)).off + 1, none⟩ := by
      rw [← add_field _ _ 1 (by omega)]
      congr 1
      omega
    rw [e]
    exact hx1
theorem sizeCell : (Try.prog.info? 66).map (·.size) = some 2 := by kernel_rfl
theorem run_copy_ce (w : World) (ty : TypeId) (g o dLen dCap : Nat) (a : Addr) (sLen sCap : Nat) (cur : Array Value) (t : TypeId) (cs : List Value)
    (hg : w.heap[g]? = some (.cells cur t (0, 0))) (hn : cs.length = Nat.min sLen dLen * 2)
    (hsrc : ∀ j v, cs[j]? = some v → w.cell? (a.add j) = some v) (hfit : o + cs.length ≤ cur.size) (h1 : ∀ v ∈ cs, v.oneCell' = true) :
    (Builtin.copy_ #[22, 22] ty #[.slice (some ⟨g, o, none⟩) dLen dCap, .slice (some a) sLen sCap]).run Try.prog w =
      .ok (goInt (Nat.min sLen dLen)) (w.setRow g (cur.toList.take o ++ cs ++ cur.toList.drop (o + cs.length)).toArray) := by
  have hl := run_loadCells_list (P := Try.prog) w a cs hsrc
  have hst := run_storeCells_at Try.prog g o t cs 0 cur w hg (by simpa using hfit) h1
  cases hq : Try.prog.info? 66 with
  | none => have h := sizeCell; rw [hq] at h; simp at h
  | some i =>
    have hi : i.size = 2 := by have h := sizeCell; rw [hq] at h; simpa using h
    simp [Builtin.copy_, run_underlying Try.underlying22, Builtin.lenOf, Builtin.firstCells, sizeOf, typeInfo, hq, hi, ← hn, hl, hst]
theorem run_copy_none_ce (w : World) (ty : TypeId) (B : Option Addr) (dLen dCap sCap : Nat) :
    (Builtin.copy_ #[22, 22] ty #[.slice B dLen dCap, .slice none 0 sCap]).run Try.prog w = .ok (goInt 0) w := by
  cases hq : Try.prog.info? 66 with
  | none => have h := sizeCell; rw [hq] at h; simp at h
  | some i => cases B <;> simp [Builtin.copy_, run_underlying Try.underlying22, Builtin.lenOf, Builtin.firstCells, sizeOf, typeInfo, hq, storeCells]
theorem copy_ce (W : World) (g o dLen dCap : Nat) (L : List Ce) (A : Option Addr) (ys : List Ce) (c : Nat) (ty : TypeId) (hg : IsB W g L) (hA : Kd.C k66 W A ys.length ys) (hd : ys.length ≤ dLen) (hf : o + ys.length ≤ L.length) :
    ∃ W', (Builtin.copy_ #[22, 22] ty #[.slice (some ⟨g, o * 2, none⟩) dLen dCap, .slice A ys.length c]).run Try.prog W = .ok (goInt ys.length) W' ∧ IsB W' g (L.take o ++ ys ++ L.drop (o + ys.length)) ∧ Kept W W' (fun k => k = g) ∧ ∀ B0 w0, Below B0 w0 W → B0 ≤ g → Below B0 w0 W' := by
  cases A with
  | none =>
    have h0 : ys.length = 0 := by
      rcases Nat.eq_zero_or_pos ys.length with h | h
      · exact h
      · obtain ⟨ad, e, _⟩ := at_T66 hA 0 (by decide) (by omega)
        cases e
    obtain rfl := List.eq_nil_of_length_eq_zero h0
    exact ⟨W, run_copy_none_ce W ty _ _ _ _, by simpa using hg, Kept.refl W _, fun B0 w0 h _ => h⟩
  | some a =>
    obtain ⟨cur, h1, h2⟩ := hg
    have hcur : cur.size = L.length * 2 := by rw [← Array.length_toList, h2, cC_len]
    have hm : Nat.min ys.length dLen = ys.length := Nat.min_eq_left hd
    have hrun := run_copy_ce W ty g (o * 2) dLen dCap a ys.length c cur _ (cC ys) h1 (by rw [hm, cC_len]) (fun j v hj => C_cells hA j v hj) (by rw [cC_len, hcur]; omega) (cC_one ys)
    rw [hm] at hrun
    refine ⟨_, hrun, ⟨_, setRow_heap W g cur _ 66 _ h1, ?_⟩, ⟨by simp [World.setRow], fun i _ hn => setRow_other W g i _ hn⟩, fun B0 w0 h hb => below_setRow h hb _⟩
    rw [h2, cC_len, ← Nat.add_mul, cC_take, cC_drop, cC_app, cC_app]
theorem IsB_make (w : World) (m : Nat) : IsB (w.alloc (.cells (madeCells #[.string ⟨#[]⟩, .string ⟨#[]⟩] (m * 2)) 66)) w.heap.size (List.replicate m z66) := by
  refine ⟨_, blk_new w _, ?_⟩
  exact reps_cC (R := fun x cs => cs = [.string x.f0, .string x.f1]) (fun _ _ h => h) _ _ (Kd.reps_made (R := fun (x : Ce) cs => cs = [.string x.f0, .string x.f1]) (z0 := z66) (size := 2) (z := .agg #[.string ⟨#[]⟩, .string ⟨#[]⟩]) rfl (by decide) rfl m)
theorem run_make_ce (m : Nat) (hm : m * 32 ≤ 281474976710656) : ∀ W : World, (Instr.makeSlice 22 (.int .i64 (m : Int)) (.int .i64 (m : Int))).run Try.prog W = .ok (.slice (some ⟨W.heap.size, 0, none⟩) m m) (W.alloc (.cells (madeCells #[.string ⟨#[]⟩, .string ⟨#[]⟩] (m * 2)) 66)) := by
  intro W
  obtain ⟨i0, hi, hzz⟩ := Option.map_eq_some_iff.1 info66
  simp only [Prod.mk.injEq] at hzz
  obtain ⟨hz0, hz1, hz2⟩ := hzz
  have hr := run_make (P := Try.prog) W 22 66 i0 _ Try.underlying22 hi hz0 .i64 .i64 (m : Int) (m : Int) (by omega) (by omega) (by rw [hz2]; omega) (by omega)
  rw [hz1, Int.toNat_natCast] at hr
  exact hr
theorem IsB_set {w : World} {g : Nat} {L : List Ce} (h : IsB w g L) (i : Nat) (x y : ByteArray) (hi : i < L.length) : IsB ((w.setCell ⟨g, i * 2, none⟩ (.string x)).setCell ⟨g, i * 2 + 1, none⟩ (.string y)) g (L.take i ++ ⟨x, y⟩ :: L.drop (i + 1)) := by
  obtain ⟨cur, h1, h2⟩ := h
  refine ⟨_, blk_set (blk_set h1 _ _) _ _, ?_⟩
  rw [Array.toList_setIfInBounds, Array.toList_setIfInBounds, h2]
  clear h1 h2
  have e : cC L = cC (L.take i) ++ (.string L[i].f0 :: .string L[i].f1 :: cC (L.drop (i + 1))) := by
    have := cC_app (L.take i) (L.drop i)
    rw [List.take_append_drop] at this
    rw [this, List.drop_eq_getElem_cons hi]
    rfl
  have hl : (cC (L.take i)).length = i * 2 := by rw [cC_len, List.length_take]; omega
  rw [e, cC_app, List.set_append_right _ _ (by omega), List.set_append_right _ _ (by omega), hl, Nat.sub_self, show i * 2 + 1 - i * 2 = 1 by omega]
  rfl
theorem IsB_R {w : World} {g : Nat} {L : List Ce} (h : IsB w g L) (base : Nat) (hb : base ≤ g) (hl : L.length ≤ 4611686018427387903) : Kd.R k66 66 w base (fun _ => True) (.slice (some ⟨g, 0, none⟩) L.length L.length) L := by
  obtain ⟨cur, h1, h2⟩ := h
  refine ⟨fun k hk => trivial, cC L, ⟨cC_len L, Or.inr ⟨g, L.length, cur, rfl, hb, h1, Nat.le_refl _, by simp [maxLen]; omega, ?_, ?_⟩⟩, cC_reps (fun x => k66_mkM w base _ x) _⟩
  · rw [← Array.length_toList, h2, cC_len]; rfl
  · rw [h2, List.take_of_length_le (by rw [cC_len]; exact Nat.le_refl _)]
theorem IsB_below {w w' : World} {g : Nat} {L : List Ce} (h : IsB w g L) (hb : Below w.heap.size w w') : IsB w' g L := by
  obtain ⟨cur, h1, h2⟩ := h
  exact ⟨cur, blk_below h1 hb, h2⟩
theorem IsB_cell {w : World} {g : Nat} {L : List Ce} (h : IsB w g L) (i : Nat) (hi : i < L.length) : w.cell? ⟨g, i * 2, none⟩ = some (.string L[i].f0) ∧ w.cell? ⟨g, i * 2 + 1, none⟩ = some (.string L[i].f1) := by
  obtain ⟨cur, h1, h2⟩ := h
  have e : cC L = cC (L.take i) ++ (.string L[i].f0 :: .string L[i].f1 :: cC (L.drop (i + 1))) := by
    have := cC_app (L.take i) (L.drop i)
    rw [List.take_append_drop] at this
    rw [this, List.drop_eq_getElem_cons hi]
    rfl
  have hl : (cC (L.take i)).length = i * 2 := by rw [cC_len, List.length_take]; omega
  constructor
  · rw [blk_cell h1, ← Array.getElem?_toList, h2, e, List.getElem?_append_right (by omega), hl, Nat.sub_self]
    rfl
  · rw [blk_cell h1, ← Array.getElem?_toList, h2, e, List.getElem?_append_right (by omega), hl, show i * 2 + 1 - i * 2 = 1 by omega]
    rfl
theorem IsB_frozen {w : World} {g : Nat} {L : List Ce} (h : IsB w g L) (k : Nat) : w.frozen? ⟨g, k, none⟩ = false := by
  obtain ⟨cur, h1, h2⟩ := h
  exact blk_frozen h1 k
theorem put_row {α : Type} (z kv : α) (cs : List α) (m p q oo gap : Nat) (hp : p ≤ cs.length) (hm : m = cs.length + gap) (hq : q = p + gap) (hg : gap = 1 ∨ (gap = 0 ∧ p < cs.length)) (ho : oo = q ∨ (m = q ∧ oo = 0)) (L1 L2 : List α) (h1 : L1 = (List.replicate m z).take 0 ++ cs.take p ++ (List.replicate m z).drop (0 + p)) (h2 : L2 = L1.take oo ++ cs.drop p ++ L1.drop (oo + (cs.length - p))) :
    L2.length = m ∧ L2.take p ++ kv :: L2.drop (p + 1) = cs.take p ++ kv :: cs.drop (p + (1 - gap)) := by
  rw [List.take_zero, List.nil_append, Nat.zero_add, List.drop_replicate] at h1
  have ht : (cs.take p).length = p := by rw [List.length_take]; omega
  rcases hg with rfl | ⟨rfl, hpl⟩
  · rcases ho with rfl | ⟨hmq, rfl⟩
    · subst hq
      have e1 : L1.take (p + 1) = cs.take p ++ [z] := by
        rw [h1, List.take_append, ht, List.take_of_length_le (by omega), show p + 1 - p = 1 by omega, show m - p = (cs.length - p) + 1 by omega, List.replicate_succ]
        rfl
      have e2 : L1.drop (p + 1 + (cs.length - p)) = [] := List.drop_eq_nil_of_le (by rw [h1, List.length_append, ht, List.length_replicate]; omega)
      rw [e1, e2, List.append_nil, List.append_assoc] at h2
      subst h2
      refine ⟨by rw [List.length_append, List.length_append, ht, List.length_drop, List.length_singleton]; omega, ?_⟩
      rw [List.take_left' ht, ← List.append_assoc, List.drop_left' (by rw [List.length_append, ht]; rfl)]
      rfl
    · have e0 : p = cs.length := by omega
      rw [List.take_zero, List.nil_append, Nat.zero_add, List.drop_eq_nil_of_le (show cs.length ≤ p by omega), List.nil_append, show cs.length - p = 0 by omega, List.drop_zero] at h2
      subst h2
      refine ⟨by rw [h1, List.length_append, ht, List.length_replicate]; omega, ?_⟩
      rw [h1, List.take_left' ht, List.drop_eq_nil_of_le (by rw [List.length_append, ht, List.length_replicate]; omega), List.drop_eq_nil_of_le (by omega)]
  · rcases ho with rfl | ⟨hmq, rfl⟩
    · obtain rfl : p = oo := by omega
      have e1 : L1.take p = cs.take p := by rw [h1, List.take_left' ht]
      have e2 : L1.drop (p + (cs.length - p)) = [] := List.drop_eq_nil_of_le (by rw [h1, List.length_append, ht, List.length_replicate]; omega)
      rw [e1, e2, List.append_nil, List.take_append_drop] at h2
      subst h2
      exact ⟨by omega, rfl⟩
    · omega
end Go.Proofs.Ytdjjpgdhnoibkaa.My
