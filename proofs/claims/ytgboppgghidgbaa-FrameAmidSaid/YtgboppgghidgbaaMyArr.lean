/- Words on arrays of whole numbers as values: loads out of memory, comparison, slices turned to arrays. No program in sight. -/
import Derived.Test.YtgboppgghidgbaaProg
import Derived.Laws.Rows
import Derived.ChangeKeysEq
import Derived.WalkKit
import Derived.Deep.QuietTactic
import Derived.BigQuiet
namespace Go.Proofs.Ytgboppgghidgbaa.My
section
variable {P : Program}

theorem run_load_list (w : World) (a : Addr) (ty : TypeId) (cs : List Value) (d : TypeDesc) (hc : ∀ j v, cs[j]? = some v → w.cell? (a.add j) = some v)
    (hu : P.underlying ty = some d) (hd : (match d with | .struct _ | .array _ _ => true | _ => false) = true) (hi : (P.info? ty).map (·.size) = some cs.length) :
    (loadVar ty a).run P w = .ok (.agg cs.toArray) w := by
  have hl : (loadCells a cs.length).run P w = .ok cs.toArray w := run_loadCells_list (P := P) w a cs hc
  cases hq : P.info? ty with
  | none => simp [hq] at hi
  | some i =>
    have hs : i.size = cs.length := by simpa [hq] using hi
    have hagg : (isAgg ty).run P w = .ok true w := by
      unfold isAgg
      rw [Sem.run_bind, run_underlying hu w]
      cases d <;> simp_all
    simp [loadVar, Sem.run_bind, hagg, sizeOf, typeInfo, hq, hs, hl]

theorem run_loadAt_list (w : World) (a : Addr) (ty : TypeId) (cs : List Value) (d : TypeDesc) (hc : ∀ j v, cs[j]? = some v → w.cell? (a.add j) = some v)
    (hu : P.underlying ty = some d) (hd : (match d with | .struct _ | .array _ _ => true | _ => false) = true) (hi : (P.info? ty).map (·.size) = some cs.length) :
    (Instr.loadAt ty (.pointer (some a))).run P w = .ok (.agg cs.toArray) w := by
  simp only [Instr.loadAt, Instr.sureAddr, Sem.run_bind, Sem.run_pure, Result.andThen_ok]
  exact run_load_list w a ty cs d hc hu hd hi

theorem run_arrayAt (w : World) (t e : TypeId) (m : Nat) (hu : P.underlying t = some (.array m e)) (a : Option Addr) (n c : Nat) (hn : m ≤ n) :
    (Instr.arrayAt t (.slice a n c)).run P w = .ok (.pointer a) w := by
  simp [Instr.arrayAt, Sem.run_bind, run_underlying hu, Nat.not_lt.2 hn]

theorem run_eqItems_int (w : World) (d : Nat) (e : TypeId) (k : IntKind) (he : P.underlying e = some (.int k)) (hc : P.cellsOf e = 1) (xs ys : List Int) :
    ∀ (n b : Nat), b + n ≤ xs.length → b + n ≤ ys.length → (Op.eqItems (d + 1) e (P.cellsOf e) (xs.map (Value.int k)).toArray (ys.map (Value.int k)).toArray (List.range' b n)).run P w = .ok (decide ((xs.drop b).take n = (ys.drop b).take n)) w := by
  have hp : P.plainKey e = true := by simp [Program.plainKey, he]
  intro n
  induction n with
  | zero => intro b _ _; simp [Op.eqItems]
  | succ n ih =>
    intro b h1 h2
    have hx : ((xs.map (Value.int k)).toArray)[b * P.cellsOf e]? = some (.int k xs[b]) := by rw [hc]; simp [List.getElem?_eq_getElem (show b < xs.length by omega)]
    have hy : ((ys.map (Value.int k)).toArray)[b * P.cellsOf e]? = some (.int k ys[b]) := by rw [hc]; simp [List.getElem?_eq_getElem (show b < ys.length by omega)]
    rw [List.range'_succ]
    simp only [Op.eqItems, Sem.run_bind, run_part_plain w hp hx, run_part_plain w hp hy, Result.andThen_ok, run_equalIn_int w d e k k _ _ he]
    have e1 : (xs.drop b).take (n + 1) = xs[b] :: (xs.drop (b + 1)).take n := by rw [List.drop_eq_getElem_cons (by omega), List.take_succ_cons]
    have e2 : (ys.drop b).take (n + 1) = ys[b] :: (ys.drop (b + 1)).take n := by rw [List.drop_eq_getElem_cons (by omega), List.take_succ_cons]
    rw [e1, e2]
    by_cases hq : xs[b] = ys[b]
    · have := ih (b + 1) (by omega) (by omega)
      simp [hq, this]
    · simp [hq]

theorem run_equalIn_ints (w : World) (d : Nat) {t e : TypeId} {n : Nat} {i : TypeInfo} {k : IntKind} (xs ys : List Int) (hu : P.underlying t = some (.array n e)) (hi : P.info? e = some i) (he : P.underlying e = some (.int k))
    (hc : P.cellsOf e = 1) (hx : xs.length = n) (hy : ys.length = n) :
    (Op.equalIn (d + 2) t (.agg (xs.map (Value.int k)).toArray) (.agg (ys.map (Value.int k)).toArray)).run P w = .ok (decide (xs = ys)) w := by
  rw [run_equalIn_array w (d + 1) _ _ hu hi, List.range_eq_range', run_eqItems_int w d e k he hc xs ys n 0 (by omega) (by omega)]
  simp [List.take_of_length_le, hx, hy]

theorem run_eql_ints (w : World) {t e : TypeId} {n : Nat} {i : TypeInfo} {k : IntKind} (xs ys : List Int) (hu : P.underlying t = some (.array n e)) (hi : P.info? e = some i) (he : P.underlying e = some (.int k))
    (hc : P.cellsOf e = 1) (hx : xs.length = n) (hy : ys.length = n) :
    (binOp .eql t (.agg (xs.map (Value.int k)).toArray) (.agg (ys.map (Value.int k)).toArray)).run P w = .ok (.bool (decide (xs = ys))) w := by
  rw [run_eql_struct, run_equalIn_ints w 9998 xs ys hu hi he hc hx hy]; rfl
theorem run_neq_ints (w : World) {t e : TypeId} {n : Nat} {i : TypeInfo} {k : IntKind} (xs ys : List Int) (hu : P.underlying t = some (.array n e)) (hi : P.info? e = some i) (he : P.underlying e = some (.int k))
    (hc : P.cellsOf e = 1) (hx : xs.length = n) (hy : ys.length = n) :
    (binOp .neq t (.agg (xs.map (Value.int k)).toArray) (.agg (ys.map (Value.int k)).toArray)).run P w = .ok (.bool (!decide (xs = ys))) w := by
  rw [run_neq_struct, run_equalIn_ints w 9998 xs ys hu hi he hc hx hy]; rfl
variable {ops : Array Oper} {rest : List Oper} {o : Oper} {a : Act} {Q : Exit → Act → World → Prop} {W W' : World}
/-- An operation whose run is known. -/
theorem wpList_run (s : Sem Value) {v : Value} (hw : Region.wanted o (yielded ops a.tmps) = true) (ho : execOp a.eval o = (do pure (.value (← s)))) (hs : s.run P W = .ok v W')
    (h : wpList P ops Q rest (a.put o.dst v) W') : wpList P ops Q (o :: rest) a W := by
  refine wpList_step fun K hK => ?_
  simp only [hw, if_true]
  unfold Oper.wp
  rw [ho]
  simp only [Sem.run_bind, hs, Result.andThen_ok, Sem.run_pure, Oper.upon_value]
  exact hK _ _ h
theorem wpQuiet_run {C : World → Prop} {Qq : Act → Prop} (s : Sem Value) {v : Value} (hw : Region.wanted o (yielded ops a.tmps) = true) (ho : execOp a.eval o = (do pure (.value (← s)))) (hs : ∀ w, C w → s.run P w = .ok v w)
    (h : wpQuiet P ops C Qq rest (a.put o.dst v)) : wpQuiet P ops C Qq (o :: rest) a := by
  unfold wpQuiet
  rw [if_pos hw]
  refine ⟨v, fun w hc => ?_, h⟩
  unfold Oper.quietAt
  rw [ho]
  simp only [Sem.run_bind, hs w hc, Result.andThen_ok, Sem.run_pure]
  exact ⟨rfl, rfl⟩
end
end Go.Proofs.Ytgboppgghidgbaa.My
