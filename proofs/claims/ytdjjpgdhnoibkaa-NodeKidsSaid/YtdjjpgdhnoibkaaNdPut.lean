/- node.Put as the print asks it. -/
import Derived.Test.YtdjjpgdhnoibkaaNdEnc
import Derived.Laws.CopyOwn
namespace Go.Proofs.Ytdjjpgdhnoibkaa.My
open Go.RowKit Go.Proofs.YtdjjpgdhnoibkaaW.PrintWords Go.Proofs.YtdjjpgdhnoibkaaW.PrintLast Go.Proofs.YtdjjpgdhnoibkaaW.PrintMore Go.Proofs.Ytdjjpgdhnoibkaa Go.Proofs.Ytdjjpgdhnoibkaa.PZ
set_option linter.unusedSimpArgs false
set_option linter.unusedVariables false
set_option maxRecDepth 100000
set_option maxHeartbeats 800000
def cC : List Ce → List Value
  | [] => []
  | x :: l => .string x.f0 :: .string x.f1 :: cC l
theorem cC_len : ∀ l : List Ce, (cC l).length = l.length * 2
  | [] => rfl
  | x :: l => by
    show (cC l).length + 1 + 1 = (l.length + 1) * 2
    rw [cC_len l]
    omega
theorem cC_app : ∀ p q : List Ce, cC (p ++ q) = cC p ++ cC q
  | [], q => rfl
  | x :: p, q => by
    show _ :: _ :: cC (p ++ q) = _
    rw [cC_app p q]
    rfl
theorem cC_one : ∀ (l : List Ce) (v : Value), v ∈ cC l → v.oneCell' = true
  | x :: l, v, h => by
    rcases List.mem_cons.1 h with rfl | h
    · rfl
    rcases List.mem_cons.1 h with rfl | h
    · rfl
    exact cC_one l v h
theorem cC_at : ∀ (l : List Ce) (j : Nat) (v : Value), (cC l)[j]? = some v → ∃ h : j / 2 < l.length, [Value.string l[j / 2].f0, .string l[j / 2].f1][j % 2]? = some v
  | [], j, v, h => by simp [cC] at h
  | x :: l, 0, v, h => ⟨Nat.succ_pos _, h⟩
  | x :: l, 1, v, h => ⟨Nat.succ_pos _, h⟩
  | x :: l, j + 2, v, h => by
    obtain ⟨h1, h2⟩ := cC_at l j v h
    have e1 : (j + 2) / 2 = j / 2 + 1 := by omega
    refine ⟨by rw [e1]; exact Nat.succ_lt_succ h1, ?_⟩
    rw [show (j + 2) % 2 = j % 2 by omega]
    simp only [e1, List.getElem_cons_succ]
    exact h2
theorem cC_take : ∀ (l : List Ce) (n : Nat), (cC l).take (n * 2) = cC (l.take n)
  | [], n => by simp [cC]
  | x :: l, 0 => by simp [cC]
  | x :: l, n + 1 => by
    rw [show (n + 1) * 2 = n * 2 + 1 + 1 by omega]
    show _ :: _ :: (cC l).take (n * 2) = _
    rw [cC_take l n]
    rfl
theorem cC_drop : ∀ (l : List Ce) (n : Nat), (cC l).drop (n * 2) = cC (l.drop n)
  | [], n => by simp [cC]
  | x :: l, 0 => by simp [cC]
  | x :: l, n + 1 => by
    rw [show (n + 1) * 2 = n * 2 + 1 + 1 by omega]
    show (cC l).drop (n * 2) = _
    rw [cC_drop l n]
    rfl
theorem repsC_mk {R : Ce → List Value → Prop} (hR : ∀ x, R x [.string x.f0, .string x.f1]) : ∀ l : List Ce, ∀ j p, l[j]? = some p → R p (((cC l).drop (j * 2)).take 2)
  | [], j, p, h => by simp at h
  | x :: l, 0, p, h => by
    obtain rfl := Option.some.inj h
    exact hR x
  | x :: l, j + 1, p, h => by
    have := repsC_mk hR l j p h
    rw [show (j + 1) * 2 = j * 2 + 1 + 1 by omega]
    exact this
theorem cC_reps {R : Ce → List Value → Prop} (hR : ∀ x, R x [.string x.f0, .string x.f1]) (l : List Ce) : Reps R 2 l (cC l) := ⟨cC_len l, repsC_mk hR l⟩
theorem reps_cC {R : Ce → List Value → Prop} (hR : ∀ x cs, R x cs → cs = [.string x.f0, .string x.f1]) : ∀ (l : List Ce) (cs : List Value), Reps R 2 l cs → cs = cC l
  | [], cs, h => List.eq_nil_of_length_eq_zero (by have := h.1; simpa using this)
  | x :: l, cs, h => by
    obtain ⟨h1, h2⟩ := h
    match cs, h1, h2 with
    | [], h1, _ => simp at h1
    | [_], h1, _ => simp at h1; omega
    | u :: v :: r, h1, h2 =>
      have e := hR _ _ (h2 0 x rfl)
      have e2 : [u, v] = [.string x.f0, .string x.f1] := e
      injection e2 with e3 e4
      injection e4 with e4 _
      subst e3 e4
      have hr : Reps R 2 l r := ⟨by simp only [List.length_cons] at h1; omega, fun j p hj => by
        have := h2 (j + 1) p hj
        rw [show (j + 1) * 2 = j * 2 + 1 + 1 by omega] at this
        exact this⟩
      rw [reps_cC hR l r hr]
      rfl
/-- Block g holds these cells. -/
def IsB (w : World) (g : Nat) (L : List Ce) : Prop := ∃ cur, w.heap[g]? = some (.cells cur 66 (0, 0)) ∧ cur.toList = cC L
theorem C_cells {w : World} {a : Addr} {xs : List Ce} (h : Kd.C k66 w (some a) xs.length xs) (j : Nat) (v : Value) (hj : (cC xs)[j]? = some v) : w.cell? (a.add j) = some v := by
  obtain ⟨h1, h2⟩ := cC_at xs j v hj
  obtain ⟨ad, e, hx0, hx1⟩ := at_T66 h ((j / 2 : Nat) : Int) (by omega) (by omega)
  obtain rfl := Option.some.inj e
  rw [rdC_at xs _ h1, Int.toNat_natCast] at hx0 hx1
  rcases (by omega : j % 2 = 0 ∨ j % 2 = 1) with h0 | h0
  · rw [h0] at h2
    obtain rfl := Option.some.inj h2
    have e5 : a.add j = a.add (j / 2 * 2) := congrArg a.add (by omega)
    rw [e5]
    exact hx0
  · rw [h0] at h2
    obtain rfl := Option.some.inj h2
    have e : a.add j = ⟨(a.add (j / 2 * 2)).block, (a.add (j / 2 * 2)).off + 1, none⟩ := by
      rw [← add_field _ _ 1 (by omega)]
      congr 1
      omega
    rw [e]
    exact hx1
theorem sizeCell : (Try.prog.info? 66).map (·.size) = some 2 := by kernel_rfl
theorem run_copy_ce (w : World) (ty : TypeId) (g o dLen dCap : Nat) (a : Addr) (sLen sCap : Nat) (cur : Array Value) (t : TypeId) (cs : List Value)
    (hg : w.heap[g]? = some (.cells cur t (0, 0))) (hn : cs.length = Nat.min sLen dLen * 2)
    (hsrc : ∀ j v, cs[j]? = some v → w.cell? (a.add j) = some v) (hfit : o + cs.length ≤ cur.size) (h1 : ∀ v ∈ cs, v.oneCell' = true) :
    (Builtin.copy_ #[22, 22] ty #[.slice (some ⟨g, o, none⟩) dLen dCap, .slice (some a) sLen sCap]).run Try.prog w =
      .ok (goInt (Nat.min sLen dLen)) (w.setRow g (cur.toList.take o ++ cs ++ cur.toList.drop (o + cs.length)).toArray) := by
  have hl := run_loadCells_list (P := Try.prog) w a cs hsrc
  have hst := run_storeCells_at Try.prog g o t cs 0 cur w hg (by simpa using hfit) h1
  cases hq : Try.prog.info? 66 with
  | none => have h := sizeCell; rw [hq] at h; simp at h
  | some i =>
    have hi : i.size = 2 := by have h := sizeCell; rw [hq] at h; simpa using h
    simp [Builtin.copy_, run_underlying Try.underlying22, Builtin.lenOf, Builtin.firstCells, sizeOf, typeInfo, hq, hi, ← hn, hl, hst]
theorem run_copy_none_ce (w : World) (ty : TypeId) (B : Option Addr) (dLen dCap sCap : Nat) :
    (Builtin.copy_ #[22, 22] ty #[.slice B dLen dCap, .slice none 0 sCap]).run Try.prog w = .ok (goInt 0) w := by
  cases hq : Try.prog.info? 66 with
  | none => have h := sizeCell; rw [hq] at h; simp at h
  | some i => cases B <;> simp [Builtin.copy_, run_underlying Try.underlying22, Builtin.lenOf, Builtin.firstCells, sizeOf, typeInfo, hq, storeCells]
theorem copy_ce (W : World) (g o dLen dCap : Nat) (L : List Ce) (A : Option Addr) (ys : List Ce) (c : Nat) (ty : TypeId) (hg : IsB W g L) (hA : Kd.C k66 W A ys.length ys) (hd : ys.length ≤ dLen) (hf : o + ys.length ≤ L.length) :
    ∃ W', (Builtin.copy_ #[22, 22] ty #[.slice (some ⟨g, o * 2, none⟩) dLen dCap, .slice A ys.length c]).run Try.prog W = .ok (goInt ys.length) W' ∧ IsB W' g (L.take o ++ ys ++ L.drop (o + ys.length)) ∧ Kept W W' (fun k => k = g) ∧ ∀ B0 w0, Below B0 w0 W → B0 ≤ g → Below B0 w0 W' := by
  cases A with
  | none =>
    have h0 : ys.length = 0 := by
      rcases Nat.eq_zero_or_pos ys.length with h | h
      · exact h
      · obtain ⟨ad, e, _⟩ := at_T66 hA 0 (by decide) (by omega)
        cases e
    obtain rfl := List.eq_nil_of_length_eq_zero h0
    exact ⟨W, run_copy_none_ce W ty _ _ _ _, by simpa using hg, Kept.refl W _, fun B0 w0 h _ => h⟩
  | some a =>
    obtain ⟨cur, h1, h2⟩ := hg
    have hcur : cur.size = L.length * 2 := by rw [← Array.length_toList, h2, cC_len]
    have hm : Nat.min ys.length dLen = ys.length := Nat.min_eq_left hd
    have hrun := run_copy_ce W ty g (o * 2) dLen dCap a ys.length c cur _ (cC ys) h1 (by rw [hm, cC_len]) (fun j v hj => C_cells hA j v hj) (by rw [cC_len, hcur]; omega) (cC_one ys)
    rw [hm] at hrun
    refine ⟨_, hrun, ⟨_, setRow_heap W g cur _ 66 _ h1, ?_⟩, ⟨by simp [World.setRow], fun i _ hn => setRow_other W g i _ hn⟩, fun B0 w0 h hb => below_setRow h hb _⟩
    rw [h2, cC_len, ← Nat.add_mul, cC_take, cC_drop, cC_app, cC_app]
theorem IsB_make (w : World) (m : Nat) : IsB (w.alloc (.cells (madeCells #[.string ⟨#[]⟩, .string ⟨#[]⟩] (m * 2)) 66)) w.heap.size (List.replicate m z66) := by
  refine ⟨_, blk_new w _, ?_⟩
  exact reps_cC (R := fun x cs => cs = [.string x.f0, .string x.f1]) (fun _ _ h => h) _ _ (Kd.reps_made (R := fun (x : Ce) cs => cs = [.string x.f0, .string x.f1]) (z0 := z66) (size := 2) (z := .agg #[.string ⟨#[]⟩, .string ⟨#[]⟩]) rfl (by decide) rfl m)
theorem run_make_ce (m : Nat) (hm : m * 32 ≤ 281474976710656) : ∀ W : World, (Instr.makeSlice 22 (.int .i64 (m : Int)) (.int .i64 (m : Int))).run Try.prog W = .ok (.slice (some ⟨W.heap.size, 0, none⟩) m m) (W.alloc (.cells (madeCells #[.string ⟨#[]⟩, .string ⟨#[]⟩] (m * 2)) 66)) := by
  intro W
  obtain ⟨i0, hi, hzz⟩ := Option.map_eq_some_iff.1 info66
  simp only [Prod.mk.injEq] at hzz
  obtain ⟨hz0, hz1, hz2⟩ := hzz
  have hr := run_make (P := Try.prog) W 22 66 i0 _ Try.underlying22 hi hz0 .i64 .i64 (m : Int) (m : Int) (by omega) (by omega) (by rw [hz2]; omega) (by omega)
  rw [hz1, Int.toNat_natCast] at hr
  exact hr
theorem IsB_set {w : World} {g : Nat} {L : List Ce} (h : IsB w g L) (i : Nat) (x y : ByteArray) (hi : i < L.length) : IsB ((w.setCell ⟨g, i * 2, none⟩ (.string x)).setCell ⟨g, i * 2 + 1, none⟩ (.string y)) g (L.take i ++ ⟨x, y⟩ :: L.drop (i + 1)) := by
  obtain ⟨cur, h1, h2⟩ := h
  refine ⟨_, blk_set (blk_set h1 _ _) _ _, ?_⟩
  rw [Array.toList_setIfInBounds, Array.toList_setIfInBounds, h2]
  clear h1 h2
  have e : cC L = cC (L.take i) ++ (.string L[i].f0 :: .string L[i].f1 :: cC (L.drop (i + 1))) := by
    have := cC_app (L.take i) (L.drop i)
    rw [List.take_append_drop] at this
    rw [this, List.drop_eq_getElem_cons hi]
    rfl
  have hl : (cC (L.take i)).length = i * 2 := by rw [cC_len, List.length_take]; omega
  rw [e, cC_app, List.set_append_right _ _ (by omega), List.set_append_right _ _ (by omega), hl, Nat.sub_self, show i * 2 + 1 - i * 2 = 1 by omega]
  rfl
theorem IsB_R {w : World} {g : Nat} {L : List Ce} (h : IsB w g L) (base : Nat) (hb : base ≤ g) (hl : L.length ≤ 4611686018427387903) : Kd.R k66 66 w base (fun _ => True) (.slice (some ⟨g, 0, none⟩) L.length L.length) L := by
  obtain ⟨cur, h1, h2⟩ := h
  refine ⟨fun k hk => trivial, cC L, ⟨cC_len L, Or.inr ⟨g, L.length, cur, rfl, hb, h1, Nat.le_refl _, by simp [maxLen]; omega, ?_, ?_⟩⟩, cC_reps (fun x => k66_mkM w base _ x) _⟩
  · rw [← Array.length_toList, h2, cC_len]; rfl
  · rw [h2, List.take_of_length_le (by rw [cC_len]; exact Nat.le_refl _)]
theorem IsB_below {w w' : World} {g : Nat} {L : List Ce} (h : IsB w g L) (hb : Below w.heap.size w w') : IsB w' g L := by
  obtain ⟨cur, h1, h2⟩ := h
  exact ⟨cur, blk_below h1 hb, h2⟩
theorem IsB_cell {w : World} {g : Nat} {L : List Ce} (h : IsB w g L) (i : Nat) (hi : i < L.length) : w.cell? ⟨g, i * 2, none⟩ = some (.string L[i].f0) ∧ w.cell? ⟨g, i * 2 + 1, none⟩ = some (.string L[i].f1) := by
  obtain ⟨cur, h1, h2⟩ := h
  have e : cC L = cC (L.take i) ++ (.string L[i].f0 :: .string L[i].f1 :: cC (L.drop (i + 1))) := by
    have := cC_app (L.take i) (L.drop i)
    rw [List.take_append_drop] at this
    rw [this, List.drop_eq_getElem_cons hi]
    rfl
  have hl : (cC (L.take i)).length = i * 2 := by rw [cC_len, List.length_take]; omega
  constructor
  · rw [blk_cell h1, ← Array.getElem?_toList, h2, e, List.getElem?_append_right (by omega), hl, Nat.sub_self]
    rfl
  · rw [blk_cell h1, ← Array.getElem?_toList, h2, e, List.getElem?_append_right (by omega), hl, show i * 2 + 1 - i * 2 = 1 by omega]
    rfl
theorem IsB_frozen {w : World} {g : Nat} {L : List Ce} (h : IsB w g L) (k : Nat) : w.frozen? ⟨g, k, none⟩ = false := by
  obtain ⟨cur, h1, h2⟩ := h
  exact blk_frozen h1 k
theorem put_row {α : Type} (z kv : α) (cs : List α) (m p q oo gap : Nat) (hp : p ≤ cs.length) (hm : m = cs.length + gap) (hq : q = p + gap) (hg : gap = 1 ∨ (gap = 0 ∧ p < cs.length)) (ho : oo = q ∨ (m = q ∧ oo = 0)) (L1 L2 : List α) (h1 : L1 = (List.replicate m z).take 0 ++ cs.take p ++ (List.replicate m z).drop (0 + p)) (h2 : L2 = L1.take oo ++ cs.drop p ++ L1.drop (oo + (cs.length - p))) :
    L2.length = m ∧ L2.take p ++ kv :: L2.drop (p + 1) = cs.take p ++ kv :: cs.drop (p + (1 - gap)) := by
  rw [List.take_zero, List.nil_append, Nat.zero_add, List.drop_replicate] at h1
  have ht : (cs.take p).length = p := by rw [List.length_take]; omega
  rcases hg with rfl | ⟨rfl, hpl⟩
  · rcases ho with rfl | ⟨hmq, rfl⟩
    · subst hq
      have e1 : L1.take (p + 1) = cs.take p ++ [z] := by
        rw [h1, List.take_append, ht, List.take_of_length_le (by omega), show p + 1 - p = 1 by omega, show m - p = (cs.length - p) + 1 by omega, List.replicate_succ]
        rfl
      have e2 : L1.drop (p + 1 + (cs.length - p)) = [] := List.drop_eq_nil_of_le (by rw [h1, List.length_append, ht, List.length_replicate]; omega)
      rw [e1, e2, List.append_nil, List.append_assoc] at h2
      subst h2
      refine ⟨by rw [List.length_append, List.length_append, ht, List.length_drop, List.length_singleton]; omega, ?_⟩
      rw [List.take_left' ht, ← List.append_assoc, List.drop_left' (by rw [List.length_append, ht]; rfl)]
      rfl
    · have e0 : p = cs.length := by omega
      rw [List.take_zero, List.nil_append, Nat.zero_add, List.drop_eq_nil_of_le (show cs.length ≤ p by omega), List.nil_append, show cs.length - p = 0 by omega, List.drop_zero] at h2
      subst h2
      refine ⟨by rw [h1, List.length_append, ht, List.length_replicate]; omega, ?_⟩
      rw [h1, List.take_left' ht, List.drop_eq_nil_of_le (by rw [List.length_append, ht, List.length_replicate]; omega), List.drop_eq_nil_of_le (by omega)]
  · rcases ho with rfl | ⟨hmq, rfl⟩
    · obtain rfl : p = oo := by omega
      have e1 : L1.take p = cs.take p := by rw [h1, List.take_left' ht]
      have e2 : L1.drop (p + (cs.length - p)) = [] := List.drop_eq_nil_of_le (by rw [h1, List.length_append, ht, List.length_replicate]; omega)
      rw [e1, e2, List.append_nil, List.take_append_drop] at h2
      subst h2
      exact ⟨by omega, rfl⟩
    · omega
end Go.Proofs.Ytdjjpgdhnoibkaa.My
namespace Go.Proofs.Ytdjjpgdhnoibkaa.My
open Go.RowKit Go.Proofs.YtdjjpgdhnoibkaaW.PrintWords Go.Proofs.YtdjjpgdhnoibkaaW.PrintLast Go.Proofs.YtdjjpgdhnoibkaaW.PrintMore Go.Proofs.Ytdjjpgdhnoibkaa Go.Proofs.Ytdjjpgdhnoibkaa.PZ
set_option linter.unusedSimpArgs false
set_option linter.unusedVariables false
set_option maxRecDepth 100000
set_option maxHeartbeats 3200000
attribute [local go_sem high] conv_rune str_leq str_gtr
/-- The cells with one more, or another. -/
def insV (cs : List Ce) (key value : ByteArray) : List Ce :=
  cs.take (findV cs key).1.toNat ++ (⟨key, value⟩ :: cs.drop ((findV cs key).1.toNat + (if (findV cs key).2 = true then 1 else 0)))
def putV (b : Bool) (cs : List Ce) (ks : List ByteArray) (kids : List Int) (key value : ByteArray) : Bool × List Ce × List ByteArray × List Int × Int :=
  if chkV b cs ks kids = 0 then
    (if b = true then
      (if key.size = 0 then (false, [], [], [], 1) else if 320 < key.size + value.size then (false, [], [], [], 82) else
       if 1992 < 3 + sumC (insV cs key value) then (false, [], [], [], 82) else (true, insV cs key value, [], [], 0))
     else (false, [], [], [], 80))
  else (false, [], [], [], chkV b cs ks kids)
def node_Put.f (b : Bool) (cs : List S66) (ks : List ByteArray) (kids : List Int) (key value : ByteArray) : Option (Bool × List S66 × List ByteArray × List Int × Int) := if ndB cs ks kids = true ∧ key.size ≤ 140737488351232 ∧ value.size ≤ 140737488351232 then some (putV b cs ks kids key value) else none
theorem srch_le (p : Nat → Bool) : ∀ (n i j : Nat), i ≤ j → srch p n i j ≤ j
  | 0, i, j, h => h
  | n + 1, i, j, h => by
    rw [srch]
    split
    · split
      · exact Nat.le_trans (srch_le p n i _ (by omega)) (by omega)
      · exact srch_le p n _ j (by omega)
    · exact h
theorem cinfo0 : (Try.prog.info? 66).isSome = true := by kernel_rfl
theorem cinfo : Try.prog.info? 66 = some ((Try.prog.info? 66).get cinfo0) := (Option.some_get cinfo0).symm
theorem csize : ((Try.prog.info? 66).get cinfo0).size = 2 := by kernel_rfl
theorem ret_v {w2 : World} {gn1 : Nat} (h : w2.heap[gn1]? = some (.cells #[.bool false, .slice none 0 0, .slice none 0 0, .slice none 0 0] 26 (0, 0))) (b : Bool) (gr n : Nat) :
    ((((w2.setCell ⟨gn1, 0, none⟩ (.bool b)).setCell ⟨gn1, 1, none⟩ (.slice (some ⟨gr, 0, none⟩) n n)).setCell ⟨gn1, 2, none⟩ (.slice none 0 0)).setCell ⟨gn1, 3, none⟩ (.slice none 0 0)).heap[gn1]? = some (.cells #[.bool b, .slice (some ⟨gr, 0, none⟩) n n, .slice none 0 0, .slice none 0 0] 26 (0, 0)) := by
  refine blk_put (cs := #[.bool b, .slice (some ⟨gr, 0, none⟩) n n, .slice none 0 0, .slice none 0 0]) ?_ 3 _ rfl
  refine blk_put (cs := #[.bool b, .slice (some ⟨gr, 0, none⟩) n n, .slice none 0 0, .slice none 0 0]) ?_ 2 _ rfl
  refine blk_put (cs := #[.bool b, .slice none 0 0, .slice none 0 0, .slice none 0 0]) ?_ 1 _ rfl
  exact blk_put (cs := #[.bool false, .slice none 0 0, .slice none 0 0, .slice none 0 0]) h 0 _ rfl
theorem IsB_far {w : World} {g gn1 : Nat} {L : List Ce} (h : IsB w g L) (hne : g ≠ gn1) (i : Nat) (v : Value) : IsB (w.setCell ⟨gn1, i, none⟩ v) g L := by
  obtain ⟨cur, h1, h2⟩ := h
  exact ⟨cur, blk_far h1 (p := ⟨gn1, i, none⟩) hne v, h2⟩
theorem isE (s : ByteArray) : s.toList.isEmpty = true ↔ s.size = 0 := by
  rw [Go.ByteArray.toList_eq, List.isEmpty_iff_length_eq_zero, data_length]
theorem ret_z {w2 : World} {gn1 : Nat} (h : w2.heap[gn1]? = some (.cells #[.bool false, .slice none 0 0, .slice none 0 0, .slice none 0 0] 26 (0, 0))) :
    ((((w2.setCell ⟨gn1, 0, none⟩ (.bool false)).setCell ⟨gn1, 1, none⟩ (.slice none 0 0)).setCell ⟨gn1, 2, none⟩ (.slice none 0 0)).setCell ⟨gn1, 3, none⟩ (.slice none 0 0)).heap[gn1]? = some (.cells #[.bool false, .slice none 0 0, .slice none 0 0, .slice none 0 0] 26 (0, 0)) := by
  refine blk_put (cs := #[.bool false, .slice none 0 0, .slice none 0 0, .slice none 0 0]) ?_ 3 _ rfl
  refine blk_put (cs := #[.bool false, .slice none 0 0, .slice none 0 0, .slice none 0 0]) ?_ 2 _ rfl
  refine blk_put (cs := #[.bool false, .slice none 0 0, .slice none 0 0, .slice none 0 0]) ?_ 1 _ rfl
  exact blk_put (cs := #[.bool false, .slice none 0 0, .slice none 0 0, .slice none 0 0]) h 0 _ rfl
theorem node_Put.calls (b : Bool) (A0_1 : Option Addr) (c0_1 : Nat) (cs : List S66) (A0_2 : Option Addr) (c0_2 : Nat) (ks : List ByteArray) (A0_3 : Option Addr) (c0_3 : Nat) (kids : List Int) (key value : ByteArray) (r1 : Bool) (r2 : List S66) (r3 : List ByteArray) (r4 : List Int) (r5 : Int) (w : World) (hr0_1 : Kd.C k66 w A0_1 cs.length cs) (hc0_1 : cs.length ≤ c0_1) (hr0_2 : Kd.C Kd.string w A0_2 ks.length ks) (hc0_2 : ks.length ≤ c0_2) (hr0_3 : Kd.C (Kd.int .u32) w A0_3 kids.length kids) (hc0_3 : kids.length ≤ c0_3) (h : node_Put.f b cs ks kids key value = some (r1, r2, r3, r4, r5)) :
    Calls Try.prog 50 #[.agg #[.bool b, .slice A0_1 cs.length c0_1, .slice A0_2 ks.length c0_2, .slice A0_3 kids.length c0_3], .string key, .string value] w fun e w' => ∃ v1_ v2_ v3_ : Value, e = .returned (.tuple #[.agg #[.bool r1, v1_, v2_, v3_], .int .i64 r5]) ∧ Kd.R k66 66 w' w.heap.size (fun _ => True) v1_ r2 ∧ Kd.R Kd.string 9 w' w.heap.size (fun _ => True) v2_ r3 ∧ Kd.R (Kd.int .u32) 45 w' w.heap.size (fun _ => True) v3_ r4 ∧ Below w.heap.size w w' := by
  unfold node_Put.f at h
  split at h
  case isFalse => cases h
  rename_i hok
  have h := Option.some.inj h
  obtain ⟨hnd, hks, hvs⟩ := hok
  obtain ⟨hn, hkid⟩ := ndB_ok hnd
  have hchk := ochk_f b cs ks kids hn (2 * (cs.length + ks.length) + kids.length + 60) (Nat.le_refl _)
  generalize hC : chkV b cs ks kids = C at hchk
  have H := Aside0.mk h
  have HN := Aside0.mk hn
  clear h hn hnd hkid
  go_enter Try.func50, Try.ntmps50
  go_wp2_with fail
  have hbx : (w.alloc (.cells #[.bool b, .slice A0_1 cs.length c0_1, .slice A0_2 ks.length c0_2, .slice A0_3 kids.length c0_3] 26)).heap[w.heap.size]? = some (.cells #[.bool b, .slice A0_1 cs.length c0_1, .slice A0_2 ks.length c0_2, .slice A0_3 kids.length c0_3] 26 (0, 0)) := blk_new w _
  have hb0 : Below w.heap.size w (w.alloc (.cells #[.bool b, .slice A0_1 cs.length c0_1, .slice A0_2 ks.length c0_2, .slice A0_3 kids.length c0_3] 26)) := (Below.refl _ _).alloc (Nat.le_refl _) _
  have hs1 : (w.alloc (.cells #[.bool b, .slice A0_1 cs.length c0_1, .slice A0_2 ks.length c0_2, .slice A0_3 kids.length c0_3] 26)).heap.size = w.heap.size + 1 := by show (w.heap.push _).size = _; rw [Array.size_push]
  generalize w.alloc (.cells #[.bool b, .slice A0_1 cs.length c0_1, .slice A0_2 ks.length c0_2, .slice A0_3 kids.length c0_3] 26) = wa at *
  have hbo : (wa.alloc (.cells #[.bool false, .slice none 0 0, .slice none 0 0, .slice none 0 0] 26)).heap[wa.heap.size]? = some (.cells #[.bool false, .slice none 0 0, .slice none 0 0, .slice none 0 0] 26 (0, 0)) := blk_new wa _
  have hb1 : Below wa.heap.size wa (wa.alloc (.cells #[.bool false, .slice none 0 0, .slice none 0 0, .slice none 0 0] 26)) := (Below.refl _ _).alloc (Nat.le_refl _) _
  rw [hs1] at hbo
  replace hbx := blk_below hbx hb1
  replace hb0 := below_then hb0 (below_size hb0) hb1
  clear hb1 hs1
  generalize wa.alloc (.cells #[.bool false, .slice none 0 0, .slice none 0 0, .slice none 0 0] 26) = w1 at *
  have hgo := blk_lt hbo
  generalize hgo' : w.heap.size + 1 = gn1 at hbo hgo ⊢
  generalize hgn : w.heap.size = gn at hbx ⊢
  have HG := Aside0.mk hgn
  have HG1 := Aside0.mk hgo'
  clear hgn hgo' hgo
  have HRW := Aside0.mk hr0_1
  have hR1 := Kd.C_below hr0_1 hb0
  have hR2 := Kd.C_below hr0_2 hb0
  have hR3 := Kd.C_below hr0_3 hb0
  clear hr0_1 hr0_2 hr0_3
  refine (node_Check.calls _ b A0_1 c0_1 cs A0_2 c0_2 ks A0_3 c0_3 kids C w1 hR1 hc0_1 hR2 hc0_2 hR3 hc0_3 hchk).mono ?_
  rintro e_ w2 ⟨rfl, hb2⟩
  replace hbx := blk_below hbx hb2
  replace hbo := blk_below hbo hb2
  replace hb0 := below_then hb0 (below_size hb0) hb2
  replace hR1 := Kd.C_below hR1 hb2
  replace hR2 := Kd.C_below hR2 hb2
  replace hR3 := Kd.C_below hR3 hb2
  clear hb2 hchk
  have c0 : w2.cell? ⟨gn, 0, none⟩ = some (.bool b) := (blk_cell hbx 0).trans rfl
  have c1 : w2.cell? ⟨gn, 1, none⟩ = some (.slice A0_1 cs.length c0_1) := (blk_cell hbx 1).trans rfl
  have c2 : w2.cell? ⟨gn, 2, none⟩ = some (.slice A0_2 ks.length c0_2) := (blk_cell hbx 2).trans rfl
  have c3 : w2.cell? ⟨gn, 3, none⟩ = some (.slice A0_3 kids.length c0_3) := (blk_cell hbx 3).trans rfl
  have o0 : w2.cell? ⟨gn1, 0, none⟩ = some (.bool false) := (blk_cell hbo 0).trans rfl
  have o1 : w2.cell? ⟨gn1, 1, none⟩ = some (.slice none 0 0) := (blk_cell hbo 1).trans rfl
  have o2 : w2.cell? ⟨gn1, 2, none⟩ = some (.slice none 0 0) := (blk_cell hbo 2).trans rfl
  have o3 : w2.cell? ⟨gn1, 3, none⟩ = some (.slice none 0 0) := (blk_cell hbo 3).trans rfl
  have f0 := blk_frozen hbo 0
  have f1 := blk_frozen hbo 1
  have f2 := blk_frozen hbo 2
  have f3 := blk_frozen hbo 3
  have HB := Aside0.mk hb0
  have HG2 := Aside0.mk (show w.heap.size ≤ gn1 by have := HG1.out; omega)
  clear hb0
  have bad : ∀ c, (∀ v, v = putV b cs ks kids key value → v = (false, [], [], [], c)) → (r1, r2, r3, r4, r5) = (false, [], [], [], c) := fun c hc => H.out.symm.trans (hc _ rfl)
  by_cases hC0 : C = 0
  · subst hC0
    have HC := Aside0.mk hC
    clear hC
    cases b with
    | true =>
      by_cases hk0 : key.size = 0
      · have e0 : key.toList.isEmpty = true := (isE key).2 hk0
        have hp := bad 1 (fun v hv => by rw [hv]; unfold putV; rw [HC.out, if_pos rfl, if_pos rfl, if_pos hk0])
        clear bad hk0
        injection hp with e1 hp
        injection hp with e2 hp
        injection hp with e3 hp
        injection hp with e4 e5
        subst e1 e2 e3 e4 e5
        go_wp2_with fail
        (try simp only [Exit.inBlock, Exit.then]); refine bodyPost_ret (results_ct rfl _ _ gn1 26 _ (0, 0) _ rfl (ret_z hbo) Try.underlying26 rfl (by kernel_rfl)) rfl ?_
        exact ⟨_, _, _, rfl, Kd.R_nil _ _ _ _ _, Kd.R_nil _ _ _ _ _, Kd.R_nil _ _ _ _ _, below_set (below_set (below_set (below_set HB.out HG2.out) HG2.out) HG2.out) HG2.out⟩
      · have e0 : key.toList.isEmpty = false := by
          rw [← Bool.not_eq_true, isE]; exact hk0
        by_cases hbig : 320 < key.size + value.size
        · have d1 : decide ((320 : Int) < (key.size : Int) + (value.size : Int)) = true := decide_eq_true (by omega)
          have hp := bad 82 (fun v hv => by rw [hv]; unfold putV; rw [HC.out, if_pos rfl, if_pos rfl, if_neg hk0, if_pos hbig])
          clear bad hk0 hbig
          injection hp with e1 hp
          injection hp with e2 hp
          injection hp with e3 hp
          injection hp with e4 e5
          subst e1 e2 e3 e4 e5
          go_wp2_with fail
          (try simp only [Exit.inBlock, Exit.then]); refine bodyPost_ret (results_ct rfl _ _ gn1 26 _ (0, 0) _ rfl (ret_z hbo) Try.underlying26 rfl (by kernel_rfl)) rfl ?_
          exact ⟨_, _, _, rfl, Kd.R_nil _ _ _ _ _, Kd.R_nil _ _ _ _ _, Kd.R_nil _ _ _ _ _, below_set (below_set (below_set (below_set HB.out HG2.out) HG2.out) HG2.out) HG2.out⟩
        · have d1 : decide ((320 : Int) < (key.size : Int) + (value.size : Int)) = false := decide_eq_false (by omega)
          clear bad
          go_wp2_with fail
          have hl : cs.length < 4398046511104 := HN.out.1.1
          have hfi : node_find.f true cs ks kids key = some (findV cs key) := by unfold node_find.f; rw [if_pos (by omega)]
          generalize hfv : findV cs key = FV at hfi
          obtain ⟨R, T⟩ := FV
          have hRle : ∃ p : Nat, R = (p : Int) ∧ p ≤ cs.length ∧ (T = true → p < cs.length) := by
            unfold findV at hfv
            obtain ⟨h1, h2⟩ := Prod.mk.inj hfv
            refine ⟨_, h1.symm, srch_le _ _ _ _ (Nat.zero_le _), fun ht => ?_⟩
            rw [ht, Bool.and_eq_true, decide_eq_true_eq] at h2
            exact h2.1
          obtain ⟨p, rfl, hple, hplt⟩ := hRle
          refine (node_find.calls true A0_1 c0_1 cs A0_2 c0_2 ks A0_3 c0_3 kids key (p : Int) T w2 hR1 hc0_1 hR2 hc0_2 hR3 hc0_3 hfi).mono ?_
          rintro e_ w3 ⟨rfl, hb3⟩
          clear c1 c2 c3 o0 o1 o2 o3 f0 f1 f2 f3
          replace hbx := blk_below hbx hb3
          replace hbo := blk_below hbo hb3
          have HB3 := Aside0.mk (below_then HB.out (below_size HB.out) hb3)
          replace hR1 := Kd.C_below hR1 hb3
          clear hb3 hfi hR2 hR3
          have HFV := Aside0.mk hfv
          have HP := Aside0.mk (And.intro hl (And.intro hple (And.intro hplt (And.intro hk0 hbig))))
          clear hfv hplt hk0 hbig hl hple
          have c1 : w3.cell? ⟨gn, 1, none⟩ = some (.slice A0_1 cs.length c0_1) := (blk_cell hbx 1).trans rfl
          cases T with
          | true =>
            obtain ⟨m, hm⟩ : ∃ m, m = cs.length + 0 := ⟨_, rfl⟩
            have e1 : wrap64 (cs.length : Int) = (m : Int) := by rw [hm]; exact w64N _ (by have := HP.out.1; omega)
            have hmk := run_make_ce m (by rw [hm]; have := HP.out.1; omega)
            have HM := Aside0.mk hm
            clear hm
            go_wp2_with fail
            clear hmk e1 c1
            have hg3 : w.heap.size ≤ w3.heap.size := HB3.out.size
            have hgx := blk_lt hbx
            have hgy := blk_lt hbo
            have hB4 := IsB_make w3 m
            have hb4 : Below w3.heap.size w3 (w3.alloc (.cells (madeCells #[.string ⟨#[]⟩, .string ⟨#[]⟩] (m * 2)) 66)) := (Below.refl _ _).alloc (Nat.le_refl _) _
            have hs4 : (w3.alloc (.cells (madeCells #[.string ⟨#[]⟩, .string ⟨#[]⟩] (m * 2)) 66)).heap.size = w3.heap.size + 1 := by show (w3.heap.push _).size = _; rw [Array.size_push]
            replace hbx := blk_below hbx hb4
            replace hbo := blk_below hbo hb4
            replace hR1 := Kd.C_below hR1 hb4
            replace HB3 := Aside0.mk (below_then HB3.out (below_size HB3.out) hb4)
            generalize w3.alloc (.cells (madeCells #[.string ⟨#[]⟩, .string ⟨#[]⟩] (m * 2)) 66) = w4 at *
            clear hb4
            have hB5 : Below w4.heap.size w4 (w4.alloc (.cells #[.bool true, .slice (some ⟨w3.heap.size, 0, none⟩) m m, .slice none 0 0, .slice none 0 0] 26)) := (Below.refl _ _).alloc (Nat.le_refl _) _
            have hbq : (w4.alloc (.cells #[.bool true, .slice (some ⟨w3.heap.size, 0, none⟩) m m, .slice none 0 0, .slice none 0 0] 26)).heap[w4.heap.size]? = some (.cells #[.bool true, .slice (some ⟨w3.heap.size, 0, none⟩) m m, .slice none 0 0, .slice none 0 0] 26 (0, 0)) := blk_new w4 _
            rw [hs4] at hbq
            replace hbx := blk_below hbx hB5
            replace hbo := blk_below hbo hB5
            replace hR1 := Kd.C_below hR1 hB5
            replace hB4 := IsB_below hB4 hB5
            replace HB3 := Aside0.mk (below_then HB3.out (below_size HB3.out) hB5)
            generalize w4.alloc (.cells #[.bool true, .slice (some ⟨w3.heap.size, 0, none⟩) m m, .slice none 0 0, .slice none 0 0] 26) = w5 at *
            clear hB5 hs4
            generalize w3.heap.size = gr at *
            generalize hgo : gr + 1 = go at hbq ⊢
            have HGS := Aside0.mk (And.intro hg3 (And.intro hgx (And.intro hgy hgo)))
            clear hg3 hgx hgy hgo
            have HBX := Aside0.mk hbx
            have HBO := Aside0.mk hbo
            have HBQ := Aside0.mk hbq
            have HRO := Aside0.mk hB4
            have HR1 := Aside0.mk hR1
            have hd5 : Below w5.heap.size w5 w5.drew := below_drew (Below.refl _ _)
            have hCt := Kd.C_below (Kd.C_take HR1.out HP.out.2.1) hd5
            obtain ⟨w6, run6, hB6, hk6, hbb6⟩ := copy_ce w5.drew gr 0 m m _ _ _ c0_1 3 (IsB_below HRO.out hd5) hCt (by rw [List.length_take]; have := HM.out; omega) (by rw [List.length_take, List.length_replicate]; have := HM.out; omega)
            rw [show (cs.take p).length = p by rw [List.length_take]; have := HP.out.2.1; omega] at run6 hB6
            have ct1 := cut_to (P := Try.prog) 22 66 .i64 Try.underlying22 cinfo A0_1 cs.length c0_1 (p : Int) (by omega) (by have := HP.out.2.1; omega) hc0_1
            rw [Int.toNat_natCast] at ct1
            have c1 : w5.cell? ⟨gn, 1, none⟩ = some (.slice A0_1 cs.length c0_1) := (blk_cell hbx 1).trans rfl
            have q1 : w5.cell? ⟨go, 1, none⟩ = some (.slice (some ⟨gr, 0, none⟩) m m) := (blk_cell hbq 1).trans rfl
            clear hbx hbo hbq hB4 hR1 hCt HR1
            refine start_ (n := 7) (S := fun w' => w'.cell? ⟨gn, 1, none⟩ = some (.slice A0_1 cs.length c0_1) ∧ w'.cell? ⟨go, 1, none⟩ = some (.slice (some ⟨gr, 0, none⟩) m m)) (ds := []) #[false, false, false, false, false, false, false] (by kernel_rfl) rfl rfl (⟨c1, q1⟩) (fun hHeld => ?_)
            refine pure_ (i := 0) (N := some 51) (v := ?_) (a' := ?_) #[true, false, false, false, false, false, false] rfl rfl (by kernel_rfl) (fun _ _ _ h => h) (Or.inl ⟨by rfl, ?_⟩) ?_ ?_
            rotate_left
            · intro w'
              go_simp
              with_reducible rfl
            rotate_left
            · simp only [Act.put, List.setIfInBounds_toArray, List.set_cons_zero, List.set_cons_succ, i64_w, i32_w]
              rfl
            refine take_ (i := 1) (N := some 52) (v := ?_) (a' := ?_) #[true, true, false, false, false, false, false] rfl rfl (by kernel_rfl) (fun _ _ _ h => h) (Or.inl ⟨by rfl, ?_⟩) hHeld ?_ ?_
            rotate_left
            · intro w' hS
              go_simp
              with_reducible rfl
            rotate_left
            · simp only [Act.put, List.setIfInBounds_toArray, List.set_cons_zero, List.set_cons_succ, i64_w, i32_w]
              rfl
            refine pure_ (i := 2) (N := some 53) (v := ?_) (a' := ?_) #[true, true, true, false, false, false, false] rfl rfl (by kernel_rfl) (fun _ _ _ h => h) (Or.inl ⟨by rfl, ?_⟩) ?_ ?_
            rotate_left
            · intro w'
              go_simp
              with_reducible rfl
            rotate_left
            · simp only [Act.put, List.setIfInBounds_toArray, List.set_cons_zero, List.set_cons_succ, i64_w, i32_w]
              rfl
            refine take_ (i := 3) (N := some 54) (v := ?_) (a' := ?_) #[true, true, true, true, false, false, false] rfl rfl (by kernel_rfl) (fun _ _ _ h => h) (Or.inl ⟨by rfl, ?_⟩) hHeld ?_ ?_
            rotate_left
            · intro w' hS
              go_simp
              with_reducible rfl
            rotate_left
            · simp only [Act.put, List.setIfInBounds_toArray, List.set_cons_zero, List.set_cons_succ, i64_w, i32_w]
              rfl
            refine pure_ (i := 4) (N := some 55) (v := ?_) (a' := ?_) #[true, true, true, true, true, false, false] rfl rfl (by kernel_rfl) (fun _ _ _ h => h) (Or.inl ⟨by rfl, ?_⟩) ?_ ?_
            rotate_left
            · intro w'
              go_simp
              with_reducible rfl
            rotate_left
            · simp only [Act.put, List.setIfInBounds_toArray, List.set_cons_zero, List.set_cons_succ, i64_w, i32_w]
              rfl
            refine pure_ (i := 5) (N := some 56) (v := ?_) (a' := ?_) #[true, true, true, true, true, true, false] rfl rfl (by kernel_rfl) (fun _ _ _ h => h) (Or.inl ⟨by rfl, ?_⟩) ?_ ?_
            rotate_left
            · intro w'
              go_simp
              with_reducible rfl
            rotate_left
            · simp only [Act.put, List.setIfInBounds_toArray, List.set_cons_zero, List.set_cons_succ, i64_w, i32_w]
              rfl
            refine one_ (i := 6) (N := some 57) #[true, true, true, true, true, true, true] rfl rfl (by kernel_rfl) (by decide) (fun K hK => ?_)
            refine value_ (w1 := ?_) (v := ?_) (by rfl) rfl ?_ ?_
            rotate_left 2
            · go_simp
              constructor
              · rfl
              · rfl
            clear hHeld
            have hx6 := (hk6.2 gn (by have := blk_lt (blk_below HBX.out hd5); exact this) (by have := HGS.out; omega)).trans (blk_below HBX.out hd5)
            have ho6 := (hk6.2 gn1 (by have := blk_lt (blk_below HBO.out hd5); exact this) (by have := HGS.out; omega)).trans (blk_below HBO.out hd5)
            have hq6 := (hk6.2 go (by have := blk_lt (blk_below HBQ.out hd5); exact this) (by have := HGS.out; omega)).trans (blk_below HBQ.out hd5)
            replace HB3 := Aside0.mk (hbb6 _ _ (below_then HB3.out (below_size HB3.out) hd5) HGS.out.1)
            replace HRO := Aside0.mk hB6
            clear hB6 hk6 hbb6 hd5 c1 q1
            have c1 : w6.cell? ⟨gn, 1, none⟩ = some (.slice A0_1 cs.length c0_1) := (blk_cell hx6 1).trans rfl
            have q1 : w6.cell? ⟨go, 1, none⟩ = some (.slice (some ⟨gr, 0, none⟩) m m) := (blk_cell hq6 1).trans rfl
            replace HBX := Aside0.mk hx6
            replace HBO := Aside0.mk ho6
            replace HBQ := Aside0.mk hq6
            clear hx6 ho6 hq6 run6
            refine hK.out _ _ (⟨c1, q1⟩) (fun hHeld => ?_)
            clear hK K
            refine norm_ (a' := ?_) ?_ ?_
            rotate_left
            · show Act.put _ (some 57) _ = _
              simp only [Act.put, List.setIfInBounds_toArray, List.set_cons_zero, List.set_cons_succ, i64_w, i32_w]
              rfl
            refine done_ (by kernel_rfl) ?_
            clear hHeld
            try go_wp2
            obtain ⟨q, hq⟩ : ∃ q, q = p + 0 := ⟨_, rfl⟩
            have e2 : wrap64 ((p : Int)) = (q : Int) := by rw [hq]; exact w64N _ (by have := HP.out.2.1; have := HP.out.1; omega)
            have HQ := Aside0.mk hq
            clear hq
            obtain ⟨oo, hoo, ct2⟩ : ∃ oo, (oo = q ∨ (m = q ∧ oo = 0)) ∧ ∀ W : World, (Instr.slice 22 (.slice (some ⟨gr, 0, none⟩) m m) (some (.int .i64 (q : Int))) none none).run Try.prog W = .ok (.slice (some ⟨gr, oo * 2, none⟩) (m - q) (m - q)) W := by
              have hqm : q ≤ m := by have h1 := HQ.out; have h2 := HM.out; have h3 := HP.out.2.1; omega
              have h := cut_from (P := Try.prog) 22 66 .i64 Try.underlying22 cinfo 2 csize (some ⟨gr, 0, none⟩) m m (q : Int) (by omega) (by omega)
              rw [Int.toNat_natCast] at h
              by_cases hmq : m = q
              · rw [if_pos hmq] at h
                exact ⟨0, .inr ⟨hmq, rfl⟩, h⟩
              · rw [if_neg hmq] at h
                exact ⟨q, .inl rfl, fun W => by rw [h W, Option.map_some]; unfold Addr.add; rw [Nat.zero_add]; split; (rename_i hz; rw [hz]); rfl⟩
            have hHO := Aside0.mk hoo
            clear hoo
            have ct3 := cut_from (P := Try.prog) 22 66 .i64 Try.underlying22 cinfo 2 csize A0_1 cs.length c0_1 (p : Int) (by omega) (by have := HP.out.2.1; omega)
            rw [Int.toNat_natCast] at ct3
            have hd6 : Below w6.heap.size w6 w6.drew := below_drew (Below.refl _ _)
            have hCd := Kd.C_below (Kd.C_below (Kd.C_drop HRW.out HP.out.2.1 hc0_1) HB3.out) hd6
            change Kd.C k66 w6.drew (if c0_1 = p then A0_1 else A0_1.map (·.add (p * 2))) _ _ at hCd
            generalize (if c0_1 = p then A0_1 else A0_1.map (·.add (p * 2))) = A2 at ct3 hCd
            obtain ⟨w7, run7, hB7, hk7, hbb7⟩ := copy_ce w6.drew gr oo (m - q) (m - q) _ A2 _ (c0_1 - p) 3 (IsB_below HRO.out hd6) hCd (by rw [List.length_drop]; have h1 := HQ.out; have h2 := HM.out; omega) (by rw [List.length_drop, List.length_append, List.length_append, List.length_take, List.length_take, List.length_drop, List.length_replicate]; have h1 := HQ.out; have h2 := HM.out; have h3 := hHO.out; have h4 := HP.out.2.1; omega)
            rw [show (cs.drop p).length = cs.length - p from List.length_drop] at run7 hB7
            clear hCd
            refine start_ (n := 11) (S := fun w' => w'.cell? ⟨gn, 1, none⟩ = some (.slice A0_1 cs.length c0_1) ∧ w'.cell? ⟨go, 1, none⟩ = some (.slice (some ⟨gr, 0, none⟩) m m)) (ds := []) #[false, false, false, false, false, false, false, false, false, false, false] (by kernel_rfl) rfl rfl (⟨c1, q1⟩) (fun hHeld => ?_)
            refine pure_ (i := 0) (N := some 58) (v := ?_) (a' := ?_) #[true, false, false, false, false, false, false, false, false, false, false] rfl rfl (by kernel_rfl) (fun _ _ _ h => h) (Or.inl ⟨by rfl, ?_⟩) ?_ ?_
            rotate_left
            · intro w'
              go_simp
              with_reducible rfl
            rotate_left
            · simp only [Act.put, List.setIfInBounds_toArray, List.set_cons_zero, List.set_cons_succ, i64_w, i32_w]
              rfl
            refine take_ (i := 1) (N := some 59) (v := ?_) (a' := ?_) #[true, true, false, false, false, false, false, false, false, false, false] rfl rfl (by kernel_rfl) (fun _ _ _ h => h) (Or.inl ⟨by rfl, ?_⟩) hHeld ?_ ?_
            rotate_left
            · intro w' hS
              go_simp
              with_reducible rfl
            rotate_left
            · simp only [Act.put, List.setIfInBounds_toArray, List.set_cons_zero, List.set_cons_succ, i64_w, i32_w]
              rfl
            refine pure_ (i := 2) (N := some 60) (v := ?_) (a' := ?_) #[true, true, true, false, false, false, false, false, false, false, false] rfl rfl (by kernel_rfl) (fun _ _ _ h => h) (Or.inl ⟨by rfl, ?_⟩) ?_ ?_
            rotate_left
            · intro w'
              go_simp
              with_reducible rfl
            rotate_left
            · simp only [Act.put, List.setIfInBounds_toArray, List.set_cons_zero, List.set_cons_succ, i64_w, i32_w]
              rfl
            refine pure_ (i := 3) (N := some 61) (v := ?_) (a' := ?_) #[true, true, true, true, false, false, false, false, false, false, false] rfl rfl (by kernel_rfl) (fun _ _ _ h => h) (Or.inl ⟨by rfl, ?_⟩) ?_ ?_
            rotate_left
            · intro w'
              go_simp
              with_reducible rfl
            rotate_left
            · simp only [Act.put, List.setIfInBounds_toArray, List.set_cons_zero, List.set_cons_succ, i64_w, i32_w]
              rfl
            refine pure_ (i := 4) (N := some 62) (v := ?_) (a' := ?_) #[true, true, true, true, true, false, false, false, false, false, false] rfl rfl (by kernel_rfl) (fun _ _ _ h => h) (Or.inl ⟨by rfl, ?_⟩) ?_ ?_
            rotate_left
            · intro w'
              go_simp
              with_reducible rfl
            rotate_left
            · simp only [Act.put, List.setIfInBounds_toArray, List.set_cons_zero, List.set_cons_succ, i64_w, i32_w]
              rfl
            refine pure_ (i := 5) (N := some 63) (v := ?_) (a' := ?_) #[true, true, true, true, true, true, false, false, false, false, false] rfl rfl (by kernel_rfl) (fun _ _ _ h => h) (Or.inl ⟨by rfl, ?_⟩) ?_ ?_
            rotate_left
            · intro w'
              go_simp
              with_reducible rfl
            rotate_left
            · simp only [Act.put, List.setIfInBounds_toArray, List.set_cons_zero, List.set_cons_succ, i64_w, i32_w]
              rfl
            refine pure_ (i := 6) (N := some 64) (v := ?_) (a' := ?_) #[true, true, true, true, true, true, true, false, false, false, false] rfl rfl (by kernel_rfl) (fun _ _ _ h => h) (Or.inl ⟨by rfl, ?_⟩) ?_ ?_
            rotate_left
            · intro w'
              go_simp
              with_reducible rfl
            rotate_left
            · simp only [Act.put, List.setIfInBounds_toArray, List.set_cons_zero, List.set_cons_succ, i64_w, i32_w]
              rfl
            refine take_ (i := 7) (N := some 65) (v := ?_) (a' := ?_) #[true, true, true, true, true, true, true, true, false, false, false] rfl rfl (by kernel_rfl) (fun _ _ _ h => h) (Or.inl ⟨by rfl, ?_⟩) hHeld ?_ ?_
            rotate_left
            · intro w' hS
              go_simp
              with_reducible rfl
            rotate_left
            · simp only [Act.put, List.setIfInBounds_toArray, List.set_cons_zero, List.set_cons_succ, i64_w, i32_w]
              rfl
            refine pure_ (i := 8) (N := some 66) (v := ?_) (a' := ?_) #[true, true, true, true, true, true, true, true, true, false, false] rfl rfl (by kernel_rfl) (fun _ _ _ h => h) (Or.inl ⟨by rfl, ?_⟩) ?_ ?_
            rotate_left
            · intro w'
              go_simp
              with_reducible rfl
            rotate_left
            · simp only [Act.put, List.setIfInBounds_toArray, List.set_cons_zero, List.set_cons_succ, i64_w, i32_w]
              rfl
            refine pure_ (i := 9) (N := some 67) (v := ?_) (a' := ?_) #[true, true, true, true, true, true, true, true, true, true, false] rfl rfl (by kernel_rfl) (fun _ _ _ h => h) (Or.inl ⟨by rfl, ?_⟩) ?_ ?_
            rotate_left
            · intro w'
              go_simp
              with_reducible rfl
            rotate_left
            · simp only [Act.put, List.setIfInBounds_toArray, List.set_cons_zero, List.set_cons_succ, i64_w, i32_w]
              rfl
            refine one_ (i := 10) (N := some 68) #[true, true, true, true, true, true, true, true, true, true, true] rfl rfl (by kernel_rfl) (by decide) (fun K hK => ?_)
            refine value_ (w1 := ?_) (v := ?_) (by rfl) rfl ?_ ?_
            rotate_left 2
            · go_simp
              constructor
              · rfl
              · rfl
            clear hHeld
            have hx7 := (hk7.2 gn (by have := blk_lt (blk_below HBX.out hd6); exact this) (by have := HGS.out; omega)).trans (blk_below HBX.out hd6)
            have ho7 := (hk7.2 gn1 (by have := blk_lt (blk_below HBO.out hd6); exact this) (by have := HGS.out; omega)).trans (blk_below HBO.out hd6)
            have hq7 := (hk7.2 go (by have := blk_lt (blk_below HBQ.out hd6); exact this) (by have := HGS.out; omega)).trans (blk_below HBQ.out hd6)
            replace HB3 := Aside0.mk (hbb7 _ _ (below_then HB3.out (below_size HB3.out) hd6) HGS.out.1)
            replace HRO := Aside0.mk hB7
            clear hB7 hk7 hbb7 hd6 c1 q1
            have c1 : w7.cell? ⟨gn, 1, none⟩ = some (.slice A0_1 cs.length c0_1) := (blk_cell hx7 1).trans rfl
            have q1 : w7.cell? ⟨go, 1, none⟩ = some (.slice (some ⟨gr, 0, none⟩) m m) := (blk_cell hq7 1).trans rfl
            replace HBX := Aside0.mk hx7
            replace HBO := Aside0.mk ho7
            replace HBQ := Aside0.mk hq7
            clear hx7 ho7 hq7 run7
            refine hK.out _ _ (⟨c1, q1⟩) (fun hHeld => ?_)
            clear hK K
            refine norm_ (a' := ?_) ?_ ?_
            rotate_left
            · show Act.put _ (some 68) _ = _
              simp only [Act.put, List.setIfInBounds_toArray, List.set_cons_zero, List.set_cons_succ, i64_w, i32_w]
              rfl
            refine done_ (by kernel_rfl) ?_
            clear hHeld
            obtain ⟨L2, hL2⟩ : ∃ L, L = ((((List.replicate m z66).take 0 ++ cs.take p ++ (List.replicate m z66).drop (0 + p)).take oo ++ cs.drop p) ++ ((List.replicate m z66).take 0 ++ cs.take p ++ (List.replicate m z66).drop (0 + p)).drop (oo + (cs.length - p))) := ⟨_, rfl⟩
            have hrow := put_row z66 (⟨key, value⟩ : Ce) cs m p q oo 0 HP.out.2.1 HM.out HQ.out (.inr ⟨rfl, HP.out.2.2.1 (by trivial)⟩) hHO.out _ L2 rfl hL2
            have hB7 := HRO.out
            rw [← hL2] at hB7
            clear hL2
            obtain ⟨hlen, hrow⟩ := hrow
            have hpm : p < L2.length := by rw [hlen, HM.out]; have := HP.out.2.1; have := HP.out.2.2.1 (by trivial); omega
            obtain ⟨s0, s1⟩ := IsB_cell hB7 p hpm
            have g0 := IsB_frozen hB7 (p * 2)
            have g1 := IsB_frozen hB7 (p * 2 + 1)
            have m0 : (0 : Int) ≤ (p : Int) := by omega
            have m1 : (p : Int) < (m : Int) := by rw [← hlen]; omega
            generalize L2[p] = cp at s0 s1
            have hb8 := IsB_set hB7 p key value hpm
            have k0 := (blk_cell (blk_far (blk_far HBQ.out (p := ⟨gr, p * 2, none⟩) (by show go ≠ gr; have := HGS.out; omega) (.string key)) (p := ⟨gr, p * 2 + 1, none⟩) (by show go ≠ gr; have := HGS.out; omega) (.string value)) 0).trans rfl
            have k1 := (blk_cell (blk_far (blk_far HBQ.out (p := ⟨gr, p * 2, none⟩) (by show go ≠ gr; have := HGS.out; omega) (.string key)) (p := ⟨gr, p * 2 + 1, none⟩) (by show go ≠ gr; have := HGS.out; omega) (.string value)) 1).trans rfl
            have k2 := (blk_cell (blk_far (blk_far HBQ.out (p := ⟨gr, p * 2, none⟩) (by show go ≠ gr; have := HGS.out; omega) (.string key)) (p := ⟨gr, p * 2 + 1, none⟩) (by show go ≠ gr; have := HGS.out; omega) (.string value)) 2).trans rfl
            have k3 := (blk_cell (blk_far (blk_far HBQ.out (p := ⟨gr, p * 2, none⟩) (by show go ≠ gr; have := HGS.out; omega) (.string key)) (p := ⟨gr, p * 2 + 1, none⟩) (by show go ≠ gr; have := HGS.out; omega) (.string value)) 3).trans rfl
            have HB8 := Aside0.mk hb8
            have HLN := Aside0.mk (And.intro hlen hrow)
            have HPM := Aside0.mk hpm
            clear hb8 hB7 hlen hpm hrow HRO
            go_wp2_with fail
            clear s0 s1 g0 g1 k0 k1 k2 k3 c1 q1 m0 m1
            have hbq8 := (blk_far (blk_far HBQ.out (p := ⟨gr, p * 2, none⟩) (by show go ≠ gr; have := HGS.out; omega) (.string key)) (p := ⟨gr, p * 2 + 1, none⟩) (by show go ≠ gr; have := HGS.out; omega) (.string value))
            have hbo8 := (blk_far (blk_far HBO.out (p := ⟨gr, p * 2, none⟩) (by show gn1 ≠ gr; have := HGS.out; omega) (.string key)) (p := ⟨gr, p * 2 + 1, none⟩) (by show gn1 ≠ gr; have := HGS.out; omega) (.string value))
            have hb8 := HB8.out
            have hbl8 : Below w.heap.size w ((w7.setCell ⟨gr, p * 2, none⟩ (.string key)).setCell ⟨gr, p * 2 + 1, none⟩ (.string value)) := below_set (below_set HB3.out HGS.out.1) HGS.out.1
            generalize (w7.setCell ⟨gr, p * 2, none⟩ (.string key)).setCell ⟨gr, p * 2 + 1, none⟩ (.string value) = w8 at *
            clear HB8 HB3 HBQ HBO
            obtain ⟨L3, hL3⟩ : ∃ L, L = L2.take p ++ ⟨key, value⟩ :: L2.drop (p + 1) := ⟨_, rfl⟩
            have hl3 : L3.length = m := by rw [hL3, List.length_append, List.length_cons, List.length_take, List.length_drop, ← HLN.out.1]; have := HPM.out; omega
            rw [← hL3] at hb8
            have hr3 := hL3.trans HLN.out.2
            clear hL3 HLN HPM
            subst hl3
            have HR3 := Aside0.mk hr3
            have HIB := Aside0.mk hb8
            have HBQ := Aside0.mk hbq8
            have HBO := Aside0.mk hbo8
            have HBL := Aside0.mk hbl8
            clear hr3 hb8 hbq8 hbo8 hbl8
            have hok3 : L3.all okC = true := by
              have hf := (chk_facts HC.out).2.1
              have hp := HP.out
              rw [HR3.out, List.all_append, List.all_cons, Bool.and_eq_true, Bool.and_eq_true]
              refine ⟨List.all_eq_true.2 fun x hx => List.all_eq_true.1 hf x (List.mem_of_mem_take hx), ?_, List.all_eq_true.2 fun x hx => List.all_eq_true.1 hf x (List.mem_of_mem_drop hx)⟩
              unfold okC
              rw [Bool.and_eq_true, decide_eq_true_eq, decide_eq_true_eq]
              dsimp only
              omega
            have hl3 : L3.length < 4398046511104 := by
              have h2 := (chk_facts HC.out).2.2.2.2
              have h3 := cs_len cs
              have h4 := HM.out
              unfold lngV at h2
              rw [if_pos rfl] at h2
              omega
            have hn3 : NdOk L3 [] [] := ⟨⟨hl3, by decide, by decide⟩, fun c hc => by have := okC_sz (List.all_eq_true.1 hok3 c hc); omega, fun k hk => by cases hk⟩
            have hsz3 := size_f true L3 [] [] hn3 hok3 rfl (L3.length + 5) (Nat.le_refl _)
            rw [if_pos rfl, Nat.add_zero] at hsz3
            clear hn3 hok3
            refine (node_size.calls _ true (some ⟨gr, 0, none⟩) L3.length L3 none 0 [] none 0 [] _ w8 (Kd.R_reads' (IsB_R HIB.out 0 (Nat.zero_le _) (by omega))).2.2 (Nat.le_refl _) (Kd.C_nil _ _) (Nat.le_refl _) (Kd.C_nil _ _) (Nat.le_refl _) hsz3).mono ?_
            rintro e_ w9 ⟨rfl, hb9⟩
            replace HBQ := Aside0.mk (blk_below HBQ.out hb9)
            replace HBO := Aside0.mk (blk_below HBO.out hb9)
            replace HIB := Aside0.mk (IsB_below HIB.out hb9)
            replace HBL := Aside0.mk (below_then HBL.out (below_size HBL.out) hb9)
            clear hb9 hsz3
            have HL3 := Aside0.mk hl3
            clear hl3
            have hins : insV cs key value = L3 := by
              unfold insV
              rw [HFV.out, HR3.out]
              rfl
            have o0 : w9.cell? ⟨gn1, 0, none⟩ = some (.bool false) := (blk_cell HBO.out 0).trans rfl
            have o1 : w9.cell? ⟨gn1, 1, none⟩ = some (.slice none 0 0) := (blk_cell HBO.out 1).trans rfl
            have o2 : w9.cell? ⟨gn1, 2, none⟩ = some (.slice none 0 0) := (blk_cell HBO.out 2).trans rfl
            have o3 : w9.cell? ⟨gn1, 3, none⟩ = some (.slice none 0 0) := (blk_cell HBO.out 3).trans rfl
            have f0 := blk_frozen HBO.out 0
            have f1 := blk_frozen HBO.out 1
            have f2 := blk_frozen HBO.out 2
            have f3 := blk_frozen HBO.out 3
            have k0 : w9.cell? ⟨go, 0, none⟩ = some (.bool true) := (blk_cell HBQ.out 0).trans rfl
            have k1 : w9.cell? ⟨go, 1, none⟩ = some (.slice (some ⟨gr, 0, none⟩) L3.length L3.length) := (blk_cell HBQ.out 1).trans rfl
            have k2 : w9.cell? ⟨go, 2, none⟩ = some (.slice none 0 0) := (blk_cell HBQ.out 2).trans rfl
            have k3 : w9.cell? ⟨go, 3, none⟩ = some (.slice none 0 0) := (blk_cell HBQ.out 3).trans rfl
            have h9 := H.out
            unfold putV at h9
            rw [HC.out, if_pos rfl, if_pos rfl, if_neg HP.out.2.2.2.1, if_neg HP.out.2.2.2.2, hins] at h9
            clear hins
            generalize 3 + sumC L3 = sz at h9 ⊢
            by_cases hsz : 1992 < sz
            · have d2 : decide ((sz : Int) > 1992) = true := decide_eq_true (by omega)
              rw [if_pos hsz] at h9
              clear hsz
              injection h9 with y1 h9
              injection h9 with y2 h9
              injection h9 with y3 h9
              injection h9 with y4 y5
              subst y1 y2 y3 y4 y5
              go_wp2_with fail
              (try simp only [Exit.inBlock, Exit.then]); refine bodyPost_ret (results_ct rfl _ _ gn1 26 _ (0, 0) _ rfl (ret_z HBO.out) Try.underlying26 rfl (by kernel_rfl)) rfl ?_
              exact ⟨_, _, _, rfl, Kd.R_nil _ _ _ _ _, Kd.R_nil _ _ _ _ _, Kd.R_nil _ _ _ _ _, below_set (below_set (below_set (below_set HBL.out HG2.out) HG2.out) HG2.out) HG2.out⟩
            · have d2 : decide ((sz : Int) > 1992) = false := decide_eq_false (by omega)
              rw [if_neg hsz] at h9
              clear hsz
              injection h9 with y1 h9
              injection h9 with y2 h9
              injection h9 with y3 h9
              injection h9 with y4 y5
              subst y1 y2 y3 y4 y5
              go_wp2_with fail
              (try simp only [Exit.inBlock, Exit.then]); refine bodyPost_ret (results_ct rfl _ _ gn1 26 _ (0, 0) _ rfl (ret_v HBO.out true gr L3.length) Try.underlying26 rfl (by kernel_rfl)) rfl ?_
              refine ⟨_, _, _, rfl, IsB_R (IsB_far (IsB_far (IsB_far (IsB_far HIB.out ?_ 0 _) ?_ 1 _) ?_ 2 _) ?_ 3 _) _ HGS.out.1 (by have := HL3.out; omega), Kd.R_nil _ _ _ _ _, Kd.R_nil _ _ _ _ _, below_set (below_set (below_set (below_set HBL.out HG2.out) HG2.out) HG2.out) HG2.out⟩
              all_goals (have := HGS.out; omega)
          | false =>
            obtain ⟨m, hm⟩ : ∃ m, m = cs.length + 1 := ⟨_, rfl⟩
            have e1 : wrap64 ((cs.length : Int) + 1) = (m : Int) := by rw [hm]; exact w64S _ (by have := HP.out.1; omega)
            have hmk := run_make_ce m (by rw [hm]; have := HP.out.1; omega)
            have HM := Aside0.mk hm
            clear hm
            go_wp2_with fail
            clear hmk e1 c1
            have hg3 : w.heap.size ≤ w3.heap.size := HB3.out.size
            have hgx := blk_lt hbx
            have hgy := blk_lt hbo
            have hB4 := IsB_make w3 m
            have hb4 : Below w3.heap.size w3 (w3.alloc (.cells (madeCells #[.string ⟨#[]⟩, .string ⟨#[]⟩] (m * 2)) 66)) := (Below.refl _ _).alloc (Nat.le_refl _) _
            have hs4 : (w3.alloc (.cells (madeCells #[.string ⟨#[]⟩, .string ⟨#[]⟩] (m * 2)) 66)).heap.size = w3.heap.size + 1 := by show (w3.heap.push _).size = _; rw [Array.size_push]
            replace hbx := blk_below hbx hb4
            replace hbo := blk_below hbo hb4
            replace hR1 := Kd.C_below hR1 hb4
            replace HB3 := Aside0.mk (below_then HB3.out (below_size HB3.out) hb4)
            generalize w3.alloc (.cells (madeCells #[.string ⟨#[]⟩, .string ⟨#[]⟩] (m * 2)) 66) = w4 at *
            clear hb4
            have hB5 : Below w4.heap.size w4 (w4.alloc (.cells #[.bool true, .slice (some ⟨w3.heap.size, 0, none⟩) m m, .slice none 0 0, .slice none 0 0] 26)) := (Below.refl _ _).alloc (Nat.le_refl _) _
            have hbq : (w4.alloc (.cells #[.bool true, .slice (some ⟨w3.heap.size, 0, none⟩) m m, .slice none 0 0, .slice none 0 0] 26)).heap[w4.heap.size]? = some (.cells #[.bool true, .slice (some ⟨w3.heap.size, 0, none⟩) m m, .slice none 0 0, .slice none 0 0] 26 (0, 0)) := blk_new w4 _
            rw [hs4] at hbq
            replace hbx := blk_below hbx hB5
            replace hbo := blk_below hbo hB5
            replace hR1 := Kd.C_below hR1 hB5
            replace hB4 := IsB_below hB4 hB5
            replace HB3 := Aside0.mk (below_then HB3.out (below_size HB3.out) hB5)
            generalize w4.alloc (.cells #[.bool true, .slice (some ⟨w3.heap.size, 0, none⟩) m m, .slice none 0 0, .slice none 0 0] 26) = w5 at *
            clear hB5 hs4
            generalize w3.heap.size = gr at *
            generalize hgo : gr + 1 = go at hbq ⊢
            have HGS := Aside0.mk (And.intro hg3 (And.intro hgx (And.intro hgy hgo)))
            clear hg3 hgx hgy hgo
            have HBX := Aside0.mk hbx
            have HBO := Aside0.mk hbo
            have HBQ := Aside0.mk hbq
            have HRO := Aside0.mk hB4
            have HR1 := Aside0.mk hR1
            have hd5 : Below w5.heap.size w5 w5.drew := below_drew (Below.refl _ _)
            have hCt := Kd.C_below (Kd.C_take HR1.out HP.out.2.1) hd5
            obtain ⟨w6, run6, hB6, hk6, hbb6⟩ := copy_ce w5.drew gr 0 m m _ _ _ c0_1 3 (IsB_below HRO.out hd5) hCt (by rw [List.length_take]; have := HM.out; omega) (by rw [List.length_take, List.length_replicate]; have := HM.out; omega)
            rw [show (cs.take p).length = p by rw [List.length_take]; have := HP.out.2.1; omega] at run6 hB6
            have ct1 := cut_to (P := Try.prog) 22 66 .i64 Try.underlying22 cinfo A0_1 cs.length c0_1 (p : Int) (by omega) (by have := HP.out.2.1; omega) hc0_1
            rw [Int.toNat_natCast] at ct1
            have c1 : w5.cell? ⟨gn, 1, none⟩ = some (.slice A0_1 cs.length c0_1) := (blk_cell hbx 1).trans rfl
            have q1 : w5.cell? ⟨go, 1, none⟩ = some (.slice (some ⟨gr, 0, none⟩) m m) := (blk_cell hbq 1).trans rfl
            clear hbx hbo hbq hB4 hR1 hCt HR1
            refine start_ (n := 7) (S := fun w' => w'.cell? ⟨gn, 1, none⟩ = some (.slice A0_1 cs.length c0_1) ∧ w'.cell? ⟨go, 1, none⟩ = some (.slice (some ⟨gr, 0, none⟩) m m)) (ds := []) #[false, false, false, false, false, false, false] (by kernel_rfl) rfl rfl (⟨c1, q1⟩) (fun hHeld => ?_)
            refine pure_ (i := 0) (N := some 51) (v := ?_) (a' := ?_) #[true, false, false, false, false, false, false] rfl rfl (by kernel_rfl) (fun _ _ _ h => h) (Or.inl ⟨by rfl, ?_⟩) ?_ ?_
            rotate_left
            · intro w'
              go_simp
              with_reducible rfl
            rotate_left
            · simp only [Act.put, List.setIfInBounds_toArray, List.set_cons_zero, List.set_cons_succ, i64_w, i32_w]
              rfl
            refine take_ (i := 1) (N := some 52) (v := ?_) (a' := ?_) #[true, true, false, false, false, false, false] rfl rfl (by kernel_rfl) (fun _ _ _ h => h) (Or.inl ⟨by rfl, ?_⟩) hHeld ?_ ?_
            rotate_left
            · intro w' hS
              go_simp
              with_reducible rfl
            rotate_left
            · simp only [Act.put, List.setIfInBounds_toArray, List.set_cons_zero, List.set_cons_succ, i64_w, i32_w]
              rfl
            refine pure_ (i := 2) (N := some 53) (v := ?_) (a' := ?_) #[true, true, true, false, false, false, false] rfl rfl (by kernel_rfl) (fun _ _ _ h => h) (Or.inl ⟨by rfl, ?_⟩) ?_ ?_
            rotate_left
            · intro w'
              go_simp
              with_reducible rfl
            rotate_left
            · simp only [Act.put, List.setIfInBounds_toArray, List.set_cons_zero, List.set_cons_succ, i64_w, i32_w]
              rfl
            refine take_ (i := 3) (N := some 54) (v := ?_) (a' := ?_) #[true, true, true, true, false, false, false] rfl rfl (by kernel_rfl) (fun _ _ _ h => h) (Or.inl ⟨by rfl, ?_⟩) hHeld ?_ ?_
            rotate_left
            · intro w' hS
              go_simp
              with_reducible rfl
            rotate_left
            · simp only [Act.put, List.setIfInBounds_toArray, List.set_cons_zero, List.set_cons_succ, i64_w, i32_w]
              rfl
            refine pure_ (i := 4) (N := some 55) (v := ?_) (a' := ?_) #[true, true, true, true, true, false, false] rfl rfl (by kernel_rfl) (fun _ _ _ h => h) (Or.inl ⟨by rfl, ?_⟩) ?_ ?_
            rotate_left
            · intro w'
              go_simp
              with_reducible rfl
            rotate_left
            · simp only [Act.put, List.setIfInBounds_toArray, List.set_cons_zero, List.set_cons_succ, i64_w, i32_w]
              rfl
            refine pure_ (i := 5) (N := some 56) (v := ?_) (a' := ?_) #[true, true, true, true, true, true, false] rfl rfl (by kernel_rfl) (fun _ _ _ h => h) (Or.inl ⟨by rfl, ?_⟩) ?_ ?_
            rotate_left
            · intro w'
              go_simp
              with_reducible rfl
            rotate_left
            · simp only [Act.put, List.setIfInBounds_toArray, List.set_cons_zero, List.set_cons_succ, i64_w, i32_w]
              rfl
            refine one_ (i := 6) (N := some 57) #[true, true, true, true, true, true, true] rfl rfl (by kernel_rfl) (by decide) (fun K hK => ?_)
            refine value_ (w1 := ?_) (v := ?_) (by rfl) rfl ?_ ?_
            rotate_left 2
            · go_simp
              constructor
              · rfl
              · rfl
            clear hHeld
            have hx6 := (hk6.2 gn (by have := blk_lt (blk_below HBX.out hd5); exact this) (by have := HGS.out; omega)).trans (blk_below HBX.out hd5)
            have ho6 := (hk6.2 gn1 (by have := blk_lt (blk_below HBO.out hd5); exact this) (by have := HGS.out; omega)).trans (blk_below HBO.out hd5)
            have hq6 := (hk6.2 go (by have := blk_lt (blk_below HBQ.out hd5); exact this) (by have := HGS.out; omega)).trans (blk_below HBQ.out hd5)
            replace HB3 := Aside0.mk (hbb6 _ _ (below_then HB3.out (below_size HB3.out) hd5) HGS.out.1)
            replace HRO := Aside0.mk hB6
            clear hB6 hk6 hbb6 hd5 c1 q1
            have c1 : w6.cell? ⟨gn, 1, none⟩ = some (.slice A0_1 cs.length c0_1) := (blk_cell hx6 1).trans rfl
            have q1 : w6.cell? ⟨go, 1, none⟩ = some (.slice (some ⟨gr, 0, none⟩) m m) := (blk_cell hq6 1).trans rfl
            replace HBX := Aside0.mk hx6
            replace HBO := Aside0.mk ho6
            replace HBQ := Aside0.mk hq6
            clear hx6 ho6 hq6 run6
            refine hK.out _ _ (⟨c1, q1⟩) (fun hHeld => ?_)
            clear hK K
            refine norm_ (a' := ?_) ?_ ?_
            rotate_left
            · show Act.put _ (some 57) _ = _
              simp only [Act.put, List.setIfInBounds_toArray, List.set_cons_zero, List.set_cons_succ, i64_w, i32_w]
              rfl
            refine done_ (by kernel_rfl) ?_
            clear hHeld
            try go_wp2
            obtain ⟨q, hq⟩ : ∃ q, q = p + 1 := ⟨_, rfl⟩
            have e2 : wrap64 ((p : Int) + 1) = (q : Int) := by rw [hq]; exact w64S _ (by have := HP.out.2.1; have := HP.out.1; omega)
            have HQ := Aside0.mk hq
            clear hq
            obtain ⟨oo, hoo, ct2⟩ : ∃ oo, (oo = q ∨ (m = q ∧ oo = 0)) ∧ ∀ W : World, (Instr.slice 22 (.slice (some ⟨gr, 0, none⟩) m m) (some (.int .i64 (q : Int))) none none).run Try.prog W = .ok (.slice (some ⟨gr, oo * 2, none⟩) (m - q) (m - q)) W := by
              have hqm : q ≤ m := by have h1 := HQ.out; have h2 := HM.out; have h3 := HP.out.2.1; omega
              have h := cut_from (P := Try.prog) 22 66 .i64 Try.underlying22 cinfo 2 csize (some ⟨gr, 0, none⟩) m m (q : Int) (by omega) (by omega)
              rw [Int.toNat_natCast] at h
              by_cases hmq : m = q
              · rw [if_pos hmq] at h
                exact ⟨0, .inr ⟨hmq, rfl⟩, h⟩
              · rw [if_neg hmq] at h
                exact ⟨q, .inl rfl, fun W => by rw [h W, Option.map_some]; unfold Addr.add; rw [Nat.zero_add]; split; (rename_i hz; rw [hz]); rfl⟩
            have hHO := Aside0.mk hoo
            clear hoo
            have ct3 := cut_from (P := Try.prog) 22 66 .i64 Try.underlying22 cinfo 2 csize A0_1 cs.length c0_1 (p : Int) (by omega) (by have := HP.out.2.1; omega)
            rw [Int.toNat_natCast] at ct3
            have hd6 : Below w6.heap.size w6 w6.drew := below_drew (Below.refl _ _)
            have hCd := Kd.C_below (Kd.C_below (Kd.C_drop HRW.out HP.out.2.1 hc0_1) HB3.out) hd6
            change Kd.C k66 w6.drew (if c0_1 = p then A0_1 else A0_1.map (·.add (p * 2))) _ _ at hCd
            generalize (if c0_1 = p then A0_1 else A0_1.map (·.add (p * 2))) = A2 at ct3 hCd
            obtain ⟨w7, run7, hB7, hk7, hbb7⟩ := copy_ce w6.drew gr oo (m - q) (m - q) _ A2 _ (c0_1 - p) 3 (IsB_below HRO.out hd6) hCd (by rw [List.length_drop]; have h1 := HQ.out; have h2 := HM.out; omega) (by rw [List.length_drop, List.length_append, List.length_append, List.length_take, List.length_take, List.length_drop, List.length_replicate]; have h1 := HQ.out; have h2 := HM.out; have h3 := hHO.out; have h4 := HP.out.2.1; omega)
            rw [show (cs.drop p).length = cs.length - p from List.length_drop] at run7 hB7
            clear hCd
            refine start_ (n := 11) (S := fun w' => w'.cell? ⟨gn, 1, none⟩ = some (.slice A0_1 cs.length c0_1) ∧ w'.cell? ⟨go, 1, none⟩ = some (.slice (some ⟨gr, 0, none⟩) m m)) (ds := []) #[false, false, false, false, false, false, false, false, false, false, false] (by kernel_rfl) rfl rfl (⟨c1, q1⟩) (fun hHeld => ?_)
            refine pure_ (i := 0) (N := some 58) (v := ?_) (a' := ?_) #[true, false, false, false, false, false, false, false, false, false, false] rfl rfl (by kernel_rfl) (fun _ _ _ h => h) (Or.inl ⟨by rfl, ?_⟩) ?_ ?_
            rotate_left
            · intro w'
              go_simp
              with_reducible rfl
            rotate_left
            · simp only [Act.put, List.setIfInBounds_toArray, List.set_cons_zero, List.set_cons_succ, i64_w, i32_w]
              rfl
            refine take_ (i := 1) (N := some 59) (v := ?_) (a' := ?_) #[true, true, false, false, false, false, false, false, false, false, false] rfl rfl (by kernel_rfl) (fun _ _ _ h => h) (Or.inl ⟨by rfl, ?_⟩) hHeld ?_ ?_
            rotate_left
            · intro w' hS
              go_simp
              with_reducible rfl
            rotate_left
            · simp only [Act.put, List.setIfInBounds_toArray, List.set_cons_zero, List.set_cons_succ, i64_w, i32_w]
              rfl
            refine pure_ (i := 2) (N := some 60) (v := ?_) (a' := ?_) #[true, true, true, false, false, false, false, false, false, false, false] rfl rfl (by kernel_rfl) (fun _ _ _ h => h) (Or.inl ⟨by rfl, ?_⟩) ?_ ?_
            rotate_left
            · intro w'
              go_simp
              with_reducible rfl
            rotate_left
            · simp only [Act.put, List.setIfInBounds_toArray, List.set_cons_zero, List.set_cons_succ, i64_w, i32_w]
              rfl
            refine pure_ (i := 3) (N := some 61) (v := ?_) (a' := ?_) #[true, true, true, true, false, false, false, false, false, false, false] rfl rfl (by kernel_rfl) (fun _ _ _ h => h) (Or.inl ⟨by rfl, ?_⟩) ?_ ?_
            rotate_left
            · intro w'
              go_simp
              with_reducible rfl
            rotate_left
            · simp only [Act.put, List.setIfInBounds_toArray, List.set_cons_zero, List.set_cons_succ, i64_w, i32_w]
              rfl
            refine pure_ (i := 4) (N := some 62) (v := ?_) (a' := ?_) #[true, true, true, true, true, false, false, false, false, false, false] rfl rfl (by kernel_rfl) (fun _ _ _ h => h) (Or.inl ⟨by rfl, ?_⟩) ?_ ?_
            rotate_left
            · intro w'
              go_simp
              with_reducible rfl
            rotate_left
            · simp only [Act.put, List.setIfInBounds_toArray, List.set_cons_zero, List.set_cons_succ, i64_w, i32_w]
              rfl
            refine pure_ (i := 5) (N := some 63) (v := ?_) (a' := ?_) #[true, true, true, true, true, true, false, false, false, false, false] rfl rfl (by kernel_rfl) (fun _ _ _ h => h) (Or.inl ⟨by rfl, ?_⟩) ?_ ?_
            rotate_left
            · intro w'
              go_simp
              with_reducible rfl
            rotate_left
            · simp only [Act.put, List.setIfInBounds_toArray, List.set_cons_zero, List.set_cons_succ, i64_w, i32_w]
              rfl
            refine pure_ (i := 6) (N := some 64) (v := ?_) (a' := ?_) #[true, true, true, true, true, true, true, false, false, false, false] rfl rfl (by kernel_rfl) (fun _ _ _ h => h) (Or.inl ⟨by rfl, ?_⟩) ?_ ?_
            rotate_left
            · intro w'
              go_simp
              with_reducible rfl
            rotate_left
            · simp only [Act.put, List.setIfInBounds_toArray, List.set_cons_zero, List.set_cons_succ, i64_w, i32_w]
              rfl
            refine take_ (i := 7) (N := some 65) (v := ?_) (a' := ?_) #[true, true, true, true, true, true, true, true, false, false, false] rfl rfl (by kernel_rfl) (fun _ _ _ h => h) (Or.inl ⟨by rfl, ?_⟩) hHeld ?_ ?_
            rotate_left
            · intro w' hS
              go_simp
              with_reducible rfl
            rotate_left
            · simp only [Act.put, List.setIfInBounds_toArray, List.set_cons_zero, List.set_cons_succ, i64_w, i32_w]
              rfl
            refine pure_ (i := 8) (N := some 66) (v := ?_) (a' := ?_) #[true, true, true, true, true, true, true, true, true, false, false] rfl rfl (by kernel_rfl) (fun _ _ _ h => h) (Or.inl ⟨by rfl, ?_⟩) ?_ ?_
            rotate_left
            · intro w'
              go_simp
              with_reducible rfl
            rotate_left
            · simp only [Act.put, List.setIfInBounds_toArray, List.set_cons_zero, List.set_cons_succ, i64_w, i32_w]
              rfl
            refine pure_ (i := 9) (N := some 67) (v := ?_) (a' := ?_) #[true, true, true, true, true, true, true, true, true, true, false] rfl rfl (by kernel_rfl) (fun _ _ _ h => h) (Or.inl ⟨by rfl, ?_⟩) ?_ ?_
            rotate_left
            · intro w'
              go_simp
              with_reducible rfl
            rotate_left
            · simp only [Act.put, List.setIfInBounds_toArray, List.set_cons_zero, List.set_cons_succ, i64_w, i32_w]
              rfl
            refine one_ (i := 10) (N := some 68) #[true, true, true, true, true, true, true, true, true, true, true] rfl rfl (by kernel_rfl) (by decide) (fun K hK => ?_)
            refine value_ (w1 := ?_) (v := ?_) (by rfl) rfl ?_ ?_
            rotate_left 2
            · go_simp
              constructor
              · rfl
              · rfl
            clear hHeld
            have hx7 := (hk7.2 gn (by have := blk_lt (blk_below HBX.out hd6); exact this) (by have := HGS.out; omega)).trans (blk_below HBX.out hd6)
            have ho7 := (hk7.2 gn1 (by have := blk_lt (blk_below HBO.out hd6); exact this) (by have := HGS.out; omega)).trans (blk_below HBO.out hd6)
            have hq7 := (hk7.2 go (by have := blk_lt (blk_below HBQ.out hd6); exact this) (by have := HGS.out; omega)).trans (blk_below HBQ.out hd6)
            replace HB3 := Aside0.mk (hbb7 _ _ (below_then HB3.out (below_size HB3.out) hd6) HGS.out.1)
            replace HRO := Aside0.mk hB7
            clear hB7 hk7 hbb7 hd6 c1 q1
            have c1 : w7.cell? ⟨gn, 1, none⟩ = some (.slice A0_1 cs.length c0_1) := (blk_cell hx7 1).trans rfl
            have q1 : w7.cell? ⟨go, 1, none⟩ = some (.slice (some ⟨gr, 0, none⟩) m m) := (blk_cell hq7 1).trans rfl
            replace HBX := Aside0.mk hx7
            replace HBO := Aside0.mk ho7
            replace HBQ := Aside0.mk hq7
            clear hx7 ho7 hq7 run7
            refine hK.out _ _ (⟨c1, q1⟩) (fun hHeld => ?_)
            clear hK K
            refine norm_ (a' := ?_) ?_ ?_
            rotate_left
            · show Act.put _ (some 68) _ = _
              simp only [Act.put, List.setIfInBounds_toArray, List.set_cons_zero, List.set_cons_succ, i64_w, i32_w]
              rfl
            refine done_ (by kernel_rfl) ?_
            clear hHeld
            obtain ⟨L2, hL2⟩ : ∃ L, L = ((((List.replicate m z66).take 0 ++ cs.take p ++ (List.replicate m z66).drop (0 + p)).take oo ++ cs.drop p) ++ ((List.replicate m z66).take 0 ++ cs.take p ++ (List.replicate m z66).drop (0 + p)).drop (oo + (cs.length - p))) := ⟨_, rfl⟩
            have hrow := put_row z66 (⟨key, value⟩ : Ce) cs m p q oo 1 HP.out.2.1 HM.out HQ.out (.inl rfl) hHO.out _ L2 rfl hL2
            have hB7 := HRO.out
            rw [← hL2] at hB7
            clear hL2
            obtain ⟨hlen, hrow⟩ := hrow
            have hpm : p < L2.length := by rw [hlen, HM.out]; have := HP.out.2.1; omega
            obtain ⟨s0, s1⟩ := IsB_cell hB7 p hpm
            have g0 := IsB_frozen hB7 (p * 2)
            have g1 := IsB_frozen hB7 (p * 2 + 1)
            have m0 : (0 : Int) ≤ (p : Int) := by omega
            have m1 : (p : Int) < (m : Int) := by rw [← hlen]; omega
            generalize L2[p] = cp at s0 s1
            have hb8 := IsB_set hB7 p key value hpm
            have k0 := (blk_cell (blk_far (blk_far HBQ.out (p := ⟨gr, p * 2, none⟩) (by show go ≠ gr; have := HGS.out; omega) (.string key)) (p := ⟨gr, p * 2 + 1, none⟩) (by show go ≠ gr; have := HGS.out; omega) (.string value)) 0).trans rfl
            have k1 := (blk_cell (blk_far (blk_far HBQ.out (p := ⟨gr, p * 2, none⟩) (by show go ≠ gr; have := HGS.out; omega) (.string key)) (p := ⟨gr, p * 2 + 1, none⟩) (by show go ≠ gr; have := HGS.out; omega) (.string value)) 1).trans rfl
            have k2 := (blk_cell (blk_far (blk_far HBQ.out (p := ⟨gr, p * 2, none⟩) (by show go ≠ gr; have := HGS.out; omega) (.string key)) (p := ⟨gr, p * 2 + 1, none⟩) (by show go ≠ gr; have := HGS.out; omega) (.string value)) 2).trans rfl
            have k3 := (blk_cell (blk_far (blk_far HBQ.out (p := ⟨gr, p * 2, none⟩) (by show go ≠ gr; have := HGS.out; omega) (.string key)) (p := ⟨gr, p * 2 + 1, none⟩) (by show go ≠ gr; have := HGS.out; omega) (.string value)) 3).trans rfl
            have HB8 := Aside0.mk hb8
            have HLN := Aside0.mk (And.intro hlen hrow)
            have HPM := Aside0.mk hpm
            clear hb8 hB7 hlen hpm hrow HRO
            go_wp2_with fail
            clear s0 s1 g0 g1 k0 k1 k2 k3 c1 q1 m0 m1
            have hbq8 := (blk_far (blk_far HBQ.out (p := ⟨gr, p * 2, none⟩) (by show go ≠ gr; have := HGS.out; omega) (.string key)) (p := ⟨gr, p * 2 + 1, none⟩) (by show go ≠ gr; have := HGS.out; omega) (.string value))
            have hbo8 := (blk_far (blk_far HBO.out (p := ⟨gr, p * 2, none⟩) (by show gn1 ≠ gr; have := HGS.out; omega) (.string key)) (p := ⟨gr, p * 2 + 1, none⟩) (by show gn1 ≠ gr; have := HGS.out; omega) (.string value))
            have hb8 := HB8.out
            have hbl8 : Below w.heap.size w ((w7.setCell ⟨gr, p * 2, none⟩ (.string key)).setCell ⟨gr, p * 2 + 1, none⟩ (.string value)) := below_set (below_set HB3.out HGS.out.1) HGS.out.1
            generalize (w7.setCell ⟨gr, p * 2, none⟩ (.string key)).setCell ⟨gr, p * 2 + 1, none⟩ (.string value) = w8 at *
            clear HB8 HB3 HBQ HBO
            obtain ⟨L3, hL3⟩ : ∃ L, L = L2.take p ++ ⟨key, value⟩ :: L2.drop (p + 1) := ⟨_, rfl⟩
            have hl3 : L3.length = m := by rw [hL3, List.length_append, List.length_cons, List.length_take, List.length_drop, ← HLN.out.1]; have := HPM.out; omega
            rw [← hL3] at hb8
            have hr3 := hL3.trans HLN.out.2
            clear hL3 HLN HPM
            subst hl3
            have HR3 := Aside0.mk hr3
            have HIB := Aside0.mk hb8
            have HBQ := Aside0.mk hbq8
            have HBO := Aside0.mk hbo8
            have HBL := Aside0.mk hbl8
            clear hr3 hb8 hbq8 hbo8 hbl8
            have hok3 : L3.all okC = true := by
              have hf := (chk_facts HC.out).2.1
              have hp := HP.out
              rw [HR3.out, List.all_append, List.all_cons, Bool.and_eq_true, Bool.and_eq_true]
              refine ⟨List.all_eq_true.2 fun x hx => List.all_eq_true.1 hf x (List.mem_of_mem_take hx), ?_, List.all_eq_true.2 fun x hx => List.all_eq_true.1 hf x (List.mem_of_mem_drop hx)⟩
              unfold okC
              rw [Bool.and_eq_true, decide_eq_true_eq, decide_eq_true_eq]
              dsimp only
              omega
            have hl3 : L3.length < 4398046511104 := by
              have h2 := (chk_facts HC.out).2.2.2.2
              have h3 := cs_len cs
              have h4 := HM.out
              unfold lngV at h2
              rw [if_pos rfl] at h2
              omega
            have hn3 : NdOk L3 [] [] := ⟨⟨hl3, by decide, by decide⟩, fun c hc => by have := okC_sz (List.all_eq_true.1 hok3 c hc); omega, fun k hk => by cases hk⟩
            have hsz3 := size_f true L3 [] [] hn3 hok3 rfl (L3.length + 5) (Nat.le_refl _)
            rw [if_pos rfl, Nat.add_zero] at hsz3
            clear hn3 hok3
            refine (node_size.calls _ true (some ⟨gr, 0, none⟩) L3.length L3 none 0 [] none 0 [] _ w8 (Kd.R_reads' (IsB_R HIB.out 0 (Nat.zero_le _) (by omega))).2.2 (Nat.le_refl _) (Kd.C_nil _ _) (Nat.le_refl _) (Kd.C_nil _ _) (Nat.le_refl _) hsz3).mono ?_
            rintro e_ w9 ⟨rfl, hb9⟩
            replace HBQ := Aside0.mk (blk_below HBQ.out hb9)
            replace HBO := Aside0.mk (blk_below HBO.out hb9)
            replace HIB := Aside0.mk (IsB_below HIB.out hb9)
            replace HBL := Aside0.mk (below_then HBL.out (below_size HBL.out) hb9)
            clear hb9 hsz3
            have HL3 := Aside0.mk hl3
            clear hl3
            have hins : insV cs key value = L3 := by
              unfold insV
              rw [HFV.out, HR3.out]
              rfl
            have o0 : w9.cell? ⟨gn1, 0, none⟩ = some (.bool false) := (blk_cell HBO.out 0).trans rfl
            have o1 : w9.cell? ⟨gn1, 1, none⟩ = some (.slice none 0 0) := (blk_cell HBO.out 1).trans rfl
            have o2 : w9.cell? ⟨gn1, 2, none⟩ = some (.slice none 0 0) := (blk_cell HBO.out 2).trans rfl
            have o3 : w9.cell? ⟨gn1, 3, none⟩ = some (.slice none 0 0) := (blk_cell HBO.out 3).trans rfl
            have f0 := blk_frozen HBO.out 0
            have f1 := blk_frozen HBO.out 1
            have f2 := blk_frozen HBO.out 2
            have f3 := blk_frozen HBO.out 3
            have k0 : w9.cell? ⟨go, 0, none⟩ = some (.bool true) := (blk_cell HBQ.out 0).trans rfl
            have k1 : w9.cell? ⟨go, 1, none⟩ = some (.slice (some ⟨gr, 0, none⟩) L3.length L3.length) := (blk_cell HBQ.out 1).trans rfl
            have k2 : w9.cell? ⟨go, 2, none⟩ = some (.slice none 0 0) := (blk_cell HBQ.out 2).trans rfl
            have k3 : w9.cell? ⟨go, 3, none⟩ = some (.slice none 0 0) := (blk_cell HBQ.out 3).trans rfl
            have h9 := H.out
            unfold putV at h9
            rw [HC.out, if_pos rfl, if_pos rfl, if_neg HP.out.2.2.2.1, if_neg HP.out.2.2.2.2, hins] at h9
            clear hins
            generalize 3 + sumC L3 = sz at h9 ⊢
            by_cases hsz : 1992 < sz
            · have d2 : decide ((sz : Int) > 1992) = true := decide_eq_true (by omega)
              rw [if_pos hsz] at h9
              clear hsz
              injection h9 with y1 h9
              injection h9 with y2 h9
              injection h9 with y3 h9
              injection h9 with y4 y5
              subst y1 y2 y3 y4 y5
              go_wp2_with fail
              (try simp only [Exit.inBlock, Exit.then]); refine bodyPost_ret (results_ct rfl _ _ gn1 26 _ (0, 0) _ rfl (ret_z HBO.out) Try.underlying26 rfl (by kernel_rfl)) rfl ?_
              exact ⟨_, _, _, rfl, Kd.R_nil _ _ _ _ _, Kd.R_nil _ _ _ _ _, Kd.R_nil _ _ _ _ _, below_set (below_set (below_set (below_set HBL.out HG2.out) HG2.out) HG2.out) HG2.out⟩
            · have d2 : decide ((sz : Int) > 1992) = false := decide_eq_false (by omega)
              rw [if_neg hsz] at h9
              clear hsz
              injection h9 with y1 h9
              injection h9 with y2 h9
              injection h9 with y3 h9
              injection h9 with y4 y5
              subst y1 y2 y3 y4 y5
              go_wp2_with fail
              (try simp only [Exit.inBlock, Exit.then]); refine bodyPost_ret (results_ct rfl _ _ gn1 26 _ (0, 0) _ rfl (ret_v HBO.out true gr L3.length) Try.underlying26 rfl (by kernel_rfl)) rfl ?_
              refine ⟨_, _, _, rfl, IsB_R (IsB_far (IsB_far (IsB_far (IsB_far HIB.out ?_ 0 _) ?_ 1 _) ?_ 2 _) ?_ 3 _) _ HGS.out.1 (by have := HL3.out; omega), Kd.R_nil _ _ _ _ _, Kd.R_nil _ _ _ _ _, below_set (below_set (below_set (below_set HBL.out HG2.out) HG2.out) HG2.out) HG2.out⟩
              all_goals (have := HGS.out; omega)
    | false =>
      have hp := bad 80 (fun v hv => by rw [hv]; unfold putV; rw [HC.out, if_pos rfl, if_neg (show ¬ (false = true) by decide)])
      clear bad
      injection hp with e1 hp
      injection hp with e2 hp
      injection hp with e3 hp
      injection hp with e4 e5
      subst e1 e2 e3 e4 e5
      go_wp2_with fail
      (try simp only [Exit.inBlock, Exit.then]); refine bodyPost_ret (results_ct rfl _ _ gn1 26 _ (0, 0) _ rfl (ret_z hbo) Try.underlying26 rfl (by kernel_rfl)) rfl ?_
      exact ⟨_, _, _, rfl, Kd.R_nil _ _ _ _ _, Kd.R_nil _ _ _ _ _, Kd.R_nil _ _ _ _ _, below_set (below_set (below_set (below_set HB.out HG2.out) HG2.out) HG2.out) HG2.out⟩
  · have d1 : (C != 0) = true := by simpa using hC0
    have hp := bad C (fun v hv => by rw [hv]; unfold putV; rw [if_neg (by rw [hC]; exact hC0), hC])
    have HC := Aside0.mk hC0
    clear bad hC0
    injection hp with e1 hp
    injection hp with e2 hp
    injection hp with e3 hp
    injection hp with e4 e5
    subst e1 e2 e3 e4 e5
    go_wp2_with fail
    (try simp only [Exit.inBlock, Exit.then]); refine bodyPost_ret (results_ct rfl _ _ gn1 26 _ (0, 0) _ rfl (ret_z hbo) Try.underlying26 rfl (by kernel_rfl)) rfl ?_
    exact ⟨_, _, _, rfl, Kd.R_nil _ _ _ _ _, Kd.R_nil _ _ _ _ _, Kd.R_nil _ _ _ _ _, below_set (below_set (below_set (below_set HB.out HG2.out) HG2.out) HG2.out) HG2.out⟩
end Go.Proofs.Ytdjjpgdhnoibkaa.My
