/- A disk in memory: what it is, as a plain thing, and where it lies. -/
import Derived.Test.YtjaalegkmldaeaaProg
import Derived.Test.YtjaalegkmldaeaaWMore
import Derived.Maps.OwnSet
import Derived.Maps.RangeWalk
import Derived.Laws.CopyRow
import Derived.Lib.BufferWrite
namespace Go.Proofs.Ytjaalegkmldaeaa.My
open Go.RowKit Go.Proofs.YtjaalegkmldaeaaW.PrintWords Go.Proofs.YtjaalegkmldaeaaW.PrintLast Go.Proofs.YtjaalegkmldaeaaW.PrintMore Go.Proofs.Ytjaalegkmldaeaa Go.Maps
set_option linter.unusedSimpArgs false
set_option linter.unusedVariables false
/-! ### pages -/
def pg (s : ByteArray) : List Value := (bytesOf s).map (Value.int .u8)
def pgs (l : List ByteArray) : List Value := l.flatMap pg
theorem pg_len (s : ByteArray) : (pg s).length = s.size := by
  unfold pg bytesOf
  rw [List.length_map, List.length_map]
  rfl
theorem pg_one (s : ByteArray) : ∀ v ∈ pg s, v.oneCell' = true := by
  intro v hv
  obtain ⟨z, _, rfl⟩ := List.mem_map.1 hv
  rfl
def PgOk (l : List ByteArray) : Prop := ∀ s ∈ l, s.size = 1024
theorem pgs_len : ∀ (l : List ByteArray), PgOk l → (pgs l).length = 1024 * l.length
  | [], _ => rfl
  | s :: t, h => by
    have ih := pgs_len t (fun x hx => h x (List.mem_cons_of_mem _ hx))
    have h1 := h s (List.mem_cons_self)
    show (pg s ++ pgs t).length = _
    rw [List.length_append, pg_len, ih, h1, List.length_cons]
    omega
theorem pgs_cons (s : ByteArray) (t : List ByteArray) : pgs (s :: t) = pg s ++ pgs t := rfl
theorem pgs_append (a b : List ByteArray) : pgs (a ++ b) = pgs a ++ pgs b := by
  unfold pgs
  rw [List.flatMap_append]
theorem pgs_cut (l : List ByteArray) (h : PgOk l) (i : Nat) (hi : i < l.length) : (pgs l).take (1024 * i) = pgs (l.take i) ∧ (pgs l).drop (1024 * i + 1024) = pgs (l.drop (i + 1)) ∧ pgs l = pgs (l.take i) ++ pg l[i] ++ pgs (l.drop (i + 1)) := by
  have e : l = l.take i ++ l[i] :: l.drop (i + 1) := by rw [List.getElem_cons_drop, List.take_append_drop]
  have e1 : pgs l = pgs (l.take i) ++ (pg l[i] ++ pgs (l.drop (i + 1))) := by
    rw [← pgs_cons, ← pgs_append, ← e]
  have l1 : (pgs (l.take i)).length = 1024 * i := by
    rw [pgs_len _ (fun x hx => h x (List.mem_of_mem_take hx)), List.length_take]
    omega
  have l2 : (pg l[i]).length = 1024 := by rw [pg_len]; exact h _ (List.getElem_mem _)
  refine ⟨?_, ?_, by rw [e1, List.append_assoc]⟩
  · rw [e1, List.take_left' l1]
  · rw [e1, ← List.append_assoc, List.drop_left' (by rw [List.length_append, l1, l2])]
/-- A page laid over the i-th. -/
theorem pgs_set (l : List ByteArray) (h : PgOk l) (i : Nat) (hi : i < l.length) (s : ByteArray) : (pgs l).take (1024 * i) ++ pg s ++ (pgs l).drop (1024 * i + 1024) = pgs (l.set i s) := by
  obtain ⟨h1, h2, _⟩ := pgs_cut l h i hi
  rw [h1, h2, List.set_eq_take_append_cons_drop, if_pos hi, pgs_append, pgs_cons, List.append_assoc]
/-- The cells of the i-th page. -/
theorem pgs_at (l : List ByteArray) (h : PgOk l) (i : Nat) (hi : i < l.length) (j : Nat) (v : Value) (hj : (pg l[i])[j]? = some v) : (pgs l)[1024 * i + j]? = some v := by
  obtain ⟨_, _, e⟩ := pgs_cut l h i hi
  have l1 : (pgs (l.take i)).length = 1024 * i := by
    rw [pgs_len _ (fun x hx => h x (List.mem_of_mem_take hx)), List.length_take]
    omega
  rw [e, List.append_assoc, List.getElem?_append_right (by omega), l1, show 1024 * i + j - 1024 * i = j by omega]
  have hjl : j < (pg l[i]).length := by
    rcases Nat.lt_or_ge j (pg l[i]).length with h | h
    · exact h
    · rw [List.getElem?_eq_none h] at hj; cases hj
  rw [List.getElem?_append_left hjl]
  exact hj
/-- The front of a page over another one. -/
def over (n : Nat) (s t : ByteArray) : ByteArray := s.extract 0 n ++ t.extract n t.size
theorem pg_over (n : Nat) (s t : ByteArray) (hs : s.size = 1024) (ht : t.size = 1024) (hn : n ≤ 1024) : (over n s t).size = 1024 ∧ pg (over n s t) = (pg s).take n ++ (pg t).drop n := by
  have a : (s.extract 0 n).data.toList = s.data.toList.take n := by
    simp [ByteArray.data_extract]
  have b : (t.extract n t.size).data.toList = t.data.toList.drop n := by
    have e : t.size = t.data.toList.length := rfl
    simp [ByteArray.data_extract]
    rw [List.take_of_length_le]
    simp
  have ls : s.data.toList.length = 1024 := hs
  have lt : t.data.toList.length = 1024 := ht
  have c : (over n s t).data.toList = s.data.toList.take n ++ t.data.toList.drop n := by
    unfold over
    rw [ByteArray.data_append, Array.toList_append, a, b]
  constructor
  · show (over n s t).data.toList.length = 1024
    rw [c, List.length_append, List.length_take, List.length_drop]
    omega
  · unfold pg bytesOf
    rw [c, List.map_append, List.map_append, List.map_take, List.map_take, List.map_drop, List.map_drop]
/-! ### what a disk is -/
structure Dk where
  lies : List ByteArray
  pend : List (Nat × ByteArray)
  off : Bool
  fuse : Int
/-- The last write that waits, of page n (its place among them). -/
def lastAt : List (Nat × ByteArray) → Nat → Option Nat
  | [], _ => none
  | (p, _) :: t, n => match lastAt t n with
    | some k => some (k + 1)
    | none => if p = n then some 0 else none
def readyV (d : Dk) (n : Int) : Int := if d.off = true then 40 else if n < 0 ∨ (d.lies.length : Int) ≤ n then 1 else 0
def actV (d : Dk) : Dk × Int := if d.fuse < 0 then (d, 0) else if d.fuse = 0 then ({ d with off := true }, 40) else ({ d with fuse := d.fuse - 1 }, 0)
def writeV (d : Dk) (n : Int) (s : ByteArray) : Dk × Int :=
  if readyV d n ≠ 0 then (d, readyV d n) else if s.size ≠ 1024 then (d, 1) else if (actV d).2 ≠ 0 then actV d else ({ (actV d).1 with pend := d.pend ++ [(n.toNat, s)] }, 0)
def landV (l : List ByteArray) (pend : List (Nat × ByteArray)) : List ByteArray := pend.foldl (fun l p => l.set p.1 p.2) l
def syncV (d : Dk) : Dk × Int :=
  if readyV d 0 ≠ 0 then (d, readyV d 0) else if (actV d).2 ≠ 0 then actV d else ({ (actV d).1 with lies := landV d.lies d.pend, pend := [] }, 0)
def readV (d : Dk) (n : Int) : ByteArray × Int :=
  if readyV d n ≠ 0 then (⟨#[]⟩, readyV d n) else (match lastAt d.pend n.toNat with | some k => (d.pend.getD k (0, ⟨#[]⟩)).2 | none => d.lies.getD n.toNat ⟨#[]⟩, 0)
/-- How many bytes of the i-th write a fate lets land. -/
def fateV (keep : List Bool) (torn cut : Int) (i : Nat) : Nat := if (i : Int) = torn then (8 * min (max cut 0) 128).toNat else if keep.getD i false = true then 1024 else 0
def crashL (keep : List Bool) (torn cut : Int) : Nat → List ByteArray → List (Nat × ByteArray) → List ByteArray
  | _, l, [] => l
  | i, l, p :: t => crashL keep torn cut (i + 1) (l.set p.1 (over (fateV keep torn cut i) p.2 (l.getD p.1 ⟨#[]⟩))) t
def crashV (d : Dk) (keep : List Bool) (torn cut : Int) : Dk := { lies := crashL keep torn cut 0 d.lies d.pend, pend := [], off := false, fuse := -1 }
def fuseV (d : Dk) (n : Int) : Dk := if d.off = true then d else { d with fuse := max n (-1) }
structure DkOk (d : Dk) : Prop where
  some : 1 ≤ d.lies.length
  few : d.lies.length ≤ 4096
  size : PgOk d.lies
  pend : ∀ p ∈ d.pend, p.1 < d.lies.length ∧ p.2.size = 1024
  many : d.pend.length ≤ 2199023255552
  lo : -1 ≤ d.fuse
  hi : d.fuse ≤ 9223372036854775807
/-! ### where it lies -/
def kW : Kd (Nat × Nat) where
  sz := 2
  E := []
  K := fun _ x cs => cs = [.int .i64 x.1, .pointer (some ⟨x.2, 0, none⟩)]
  M := fun _ _ _ x cs => cs = [.int .i64 x.1, .pointer (some ⟨x.2, 0, none⟩)]
  K_len := fun h => by rw [h]; rfl
  K_one := fun h u hu => by
    rw [h] at hu
    rcases List.mem_cons.1 hu with rfl | hu
    · rfl
    · rw [List.mem_singleton.1 hu]; rfl
  K_below := fun _ h => h
  K_of_M := fun h => h
  M_mono := fun _ h => h
  M_bound := fun h => h
  M_move := fun _ h => h
  M_lower := fun _ h => h
/-- How an element of the map reads: a page's block. -/
def ptrR (v : Value) : Option (DataW Unit × List MemPlace) := match v with
  | .pointer (some ⟨b, 0, none⟩) => some (.lit (.int .i64 b), [])
  | .pointer none => some (.nil, [])
  | _ => none
theorem ptrR_inv {v : Value} {z : DataW Unit × List MemPlace} (h : ptrR v = some z) : (∃ b, v = .pointer (some ⟨b, 0, none⟩) ∧ z = (.lit (.int .i64 b), [])) ∨ (v = .pointer none ∧ z = (.nil, [])) := by
  unfold ptrR at h
  split at h
  · rename_i b
    injection h with h
    exact .inl ⟨b, rfl, h.symm⟩
  · injection h with h
    exact .inr ⟨rfl, h.symm⟩
  · cases h
/-- The map tells of each page the block of its last write that waits. -/
def Tells (D : DataW Unit) (pend : List (Nat × ByteArray)) (ps : List Nat) : Prop :=
  ∀ n : Int, (Lit.int .i64 n).wf = true → Maps.has D (.int .i64 n) = (0 ≤ n && (lastAt pend n.toNat).isSome) ∧
    ∀ k, 0 ≤ n → lastAt pend n.toNat = some k → ∀ z, D.atKey (.int .i64 n) z = .lit (.int .i64 (ps.getD k 0 : Nat))
structure Lies (w : World) (own : Nat → Prop) (g L M : Nat) (pv : Value) (ps : List Nat) (lf : Int) (D : DataW Unit) (d : Dk) : Prop where
  og : own g
  oL : own L
  oM : own M
  oP : ∀ p ∈ ps, own p ∧ p ≠ L
  lt : ∀ k, own k → k < w.heap.size
  hg : w.heap[g]? = some (.cells #[.slice (some ⟨L, 0, none⟩) d.lies.length d.lies.length, pv, .map (some M), .bool d.off, .bool (decide (0 ≤ d.fuse)), .int .i64 lf] 70 (0, 0))
  hf : 0 ≤ d.fuse → lf = d.fuse
  hw : (Lit.int .i64 lf).wf = true
  hL : w.heap[L]? = some (.cells (pgs d.lies).toArray 74 (0, 0))
  len : ps.length = d.pend.length
  hP : ∀ k (h : k < ps.length) (h' : k < d.pend.length), w.heap[ps[k]]? = some (.cells (pg d.pend[k].2).toArray 74 (0, 0))
  hr : kW.R 76 w 0 own pv (List.zip (d.pend.map (·.1)) ps)
  hm : w.ownsMap Try.prog 3 ptrR M d.pend.length D
  tells : Tells D d.pend ps
  ok : DkOk d
/-- A disk stands at g; its blocks are among own. -/
def DiskAt (w : World) (own : Nat → Prop) (g : Nat) (d : Dk) : Prop := ∃ L M pv ps lf D, Lies w own g L M pv ps lf D d
/-- Nothing but what is among own has turned. -/
structure Moved (own : Nat → Prop) (w w' : World) : Prop where
  low : Below 0 w w'
  kept : Kept w w' own
theorem Moved.refl (own : Nat → Prop) (w : World) : Moved own w w := ⟨Below.refl _ _, Kept.refl _ _⟩
theorem Moved.size {own : Nat → Prop} {w w' : World} (h : Moved own w w') : w.heap.size ≤ w'.heap.size := h.kept.1
theorem Moved.below {own : Nat → Prop} {w w' : World} {B : Nat} (h : Moved own w w') (hB : ∀ k, own k → B ≤ k) (hs : B ≤ w.heap.size) : Below B w w' :=
  ⟨h.low.os, h.low.tape, h.low.output, h.size, fun k hk => h.kept.2 k (Nat.lt_of_lt_of_le hk hs) (fun ho => absurd (hB k ho) (by omega))⟩
theorem Moved.trans {own own' : Nat → Prop} {w w' w'' : World} (h : Moved own w w') (k : Moved own' w' w'') (ho : ∀ k, own' k → own k ∨ w.heap.size ≤ k) : Moved own w w'' :=
  ⟨h.low.trans k.low, h.kept.then_ k.kept ho⟩
theorem below0 {B : Nat} {w w' : World} (h : Below B w w') : Below 0 w w' := h.mono (Nat.zero_le _)
theorem Moved.of_below {own : Nat → Prop} {w w' : World} (h : Below w.heap.size w w') : Moved own w w' := ⟨below0 h, Kept.of_below h own⟩
theorem ownsMap_step {w w' : World} {P : Program} {k : TypeId} {R : Value → Option (DataW Unit × List MemPlace)} {b n : Nat} {D : DataW Unit} (h : w.ownsMap P k R b n D) (e : w'.heap[b]? = w.heap[b]?) : w'.ownsMap P k R b n D := by
  obtain ⟨es, clock, hb, F, hs, hD⟩ := h
  exact ⟨es, clock, e.trans hb, F, hs, hD⟩
/-- A disk stays while nothing of its own turns. -/
theorem Lies.keep {w w' : World} {own S : Nat → Prop} {g L M : Nat} {pv : Value} {ps : List Nat} {lf : Int} {D : DataW Unit} {d : Dk} (h : Lies w own g L M pv ps lf D d) (hk : Kept w w' S) (hs : ∀ k, own k → ¬ S k) : Lies w' own g L M pv ps lf D d := by
  have st : ∀ k, own k → w'.heap[k]? = w.heap[k]? := fun k ho => hk.2 k (h.lt k ho) (hs k ho)
  exact { og := h.og, oL := h.oL, oM := h.oM, oP := h.oP, lt := fun k ho => Nat.lt_of_lt_of_le (h.lt k ho) hk.1, hg := (st g h.og).trans h.hg, hf := h.hf, hw := h.hw, hL := (st L h.oL).trans h.hL, len := h.len,
          hP := fun k h1 h2 => (st _ (h.oP _ (List.getElem_mem h1)).1).trans (h.hP k h1 h2), hr := Kd.R_kept h.hr hk hs, hm := ownsMap_step h.hm (st M h.oM), tells := h.tells, ok := h.ok }
theorem DiskAt.keep {w w' : World} {own S : Nat → Prop} {g : Nat} {d : Dk} (h : DiskAt w own g d) (hk : Kept w w' S) (hs : ∀ k, own k → ¬ S k) : DiskAt w' own g d := by
  obtain ⟨L, M, pv, ps, lf, D, h⟩ := h
  exact ⟨L, M, pv, ps, lf, D, h.keep hk hs⟩
theorem DiskAt.below {w w' : World} {own : Nat → Prop} {g : Nat} {d : Dk} (h : DiskAt w own g d) (hb : Below w.heap.size w w') : DiskAt w' own g d :=
  h.keep (Kept.of_below hb (fun _ => False)) (fun _ _ h => h)
theorem DiskAt.ok {w : World} {own : Nat → Prop} {g : Nat} {d : Dk} (h : DiskAt w own g d) : DkOk d := by
  obtain ⟨L, M, pv, ps, lf, D, h⟩ := h
  exact h.ok
theorem DiskAt.lt {w : World} {own : Nat → Prop} {g : Nat} {d : Dk} (h : DiskAt w own g d) : ∀ k, own k → k < w.heap.size := by
  obtain ⟨L, M, pv, ps, lf, D, h⟩ := h
  exact h.lt
end Go.Proofs.Ytjaalegkmldaeaa.My
