/- Write. -/
import Derived.Test.YtjaalegkmldaeaaDkM
import Derived.Laws.CopyOwn
namespace Go.Proofs.Ytjaalegkmldaeaa.My
open Go.RowKit Go.Proofs.YtjaalegkmldaeaaW.PrintWords Go.Proofs.YtjaalegkmldaeaaW.PrintLast Go.Proofs.YtjaalegkmldaeaaW.PrintMore Go.Proofs.Ytjaalegkmldaeaa Go.Maps
set_option linter.unusedSimpArgs false
set_option linter.unusedVariables false
set_option maxRecDepth 100000
set_option maxHeartbeats 1600000
def blank : ByteArray := ⟨Array.replicate 1024 0⟩
theorem blank_size : blank.size = 1024 := by
  show (Array.replicate 1024 (0 : UInt8)).size = 1024
  rw [Array.size_replicate]
theorem pg_blank : pg blank = List.replicate 1024 (Value.int .u8 0) := by
  unfold pg bytesOf blank
  rw [Array.toList_replicate, List.map_replicate, List.map_replicate]
  rfl
def zpage : List Value := List.replicate 1024 (Value.int .u8 0)
theorem zpage_len : zpage.length = 1024 := List.length_replicate
theorem zero_page (w : World) : (zeroValue 74).run Try.prog w = .ok (.agg zpage.toArray) w := by kernel_rfl
theorem infoU8' : (Try.prog.info? 5).map (·.size) = some 1 := by kernel_rfl
theorem infoW : (Try.prog.info? 76).map (fun i => (i.zero, i.size, i.bytes)) = some (some (.agg #[.int .i64 0, .pointer none]), 2, 16) := by kernel_rfl
theorem C_at {k : IntKind} {w : World} {A : Addr} {n : Nat} {xs : List Int} (h : Kd.C (Kd.int k) w (some A) n xs) (hp : 0 < n) : ∀ j v, (xs.map (Value.int k))[j]? = some v → w.cell? (A.add j) = some v := by
  obtain ⟨h1, h2, h3⟩ := h
  obtain ⟨ad, hA, h4⟩ := h3 hp
  obtain rfl := Option.some.inj hA
  intro j v hj
  rw [List.getElem?_map] at hj
  cases hx : xs[j]? with
  | none => rw [hx] at hj; cases hj
  | some x =>
    rw [hx] at hj
    obtain rfl := Option.some.inj hj
    obtain ⟨cs, hl, hK, hc⟩ := h4 j x hx
    have hK' : cs = [.int k x] := hK
    subst hK'
    have := hc 0 (.int k x) rfl
    simpa [Kd.int, Kd.scalar] using this
theorem lastAt_lt : ∀ (l : List (Nat × ByteArray)) (n k : Nat), lastAt l n = some k → k < l.length
  | [], _, _, h => by cases h
  | (p, s) :: t, n, k, h => by
    rw [lastAt] at h
    cases ht : lastAt t n with
    | some j =>
      rw [ht] at h
      obtain rfl := Option.some.inj h
      have := lastAt_lt t n j ht
      rw [List.length_cons]
      omega
    | none =>
      rw [ht] at h
      dsimp only at h
      split at h
      · obtain rfl := Option.some.inj h
        rw [List.length_cons]
        omega
      · cases h
theorem lastAt_snoc : ∀ (l : List (Nat × ByteArray)) (m : Nat) (s : ByteArray) (n : Nat), lastAt (l ++ [(m, s)]) n = if m = n then some l.length else lastAt l n
  | [], m, s, n => by
    show lastAt [(m, s)] n = _
    rw [lastAt, lastAt]
    rfl
  | (p, q) :: t, m, s, n => by
    show lastAt ((p, q) :: (t ++ [(m, s)])) n = _
    rw [lastAt, lastAt_snoc t m s n]
    by_cases h : m = n
    · rw [if_pos h, if_pos h]
      rfl
    · rw [if_neg h, if_neg h, lastAt]
theorem tells_snoc {D : DataW Unit} {pend : List (Nat × ByteArray)} {ps : List Nat} (h : Tells D pend ps) (hD : Maps.IsMap D) (hl : ps.length = pend.length) (m : Nat) (s : ByteArray) (P : Nat) : Tells (D.put (.int .i64 (m : Int)) (.lit (.int .i64 (P : Int)))) (pend ++ [(m, s)]) (ps ++ [P]) := by
  intro n hn
  obtain ⟨h1, h2⟩ := h n hn
  by_cases hnm : n = (m : Int)
  · subst hnm
    rw [Maps.has_put_same hD (show WideAt.IsKeyLit (.int .i64 (m : Int)) from trivial), Int.toNat_natCast]
    refine ⟨?_, ?_⟩
    · rw [lastAt_snoc, if_pos rfl, decide_eq_true (show (0 : Int) ≤ (m : Int) by omega)]
      rfl
    · intro k _ hk z
      rw [lastAt_snoc, if_pos rfl] at hk
      obtain rfl := Option.some.inj hk
      rw [Maps.atKey_put_same hD (show WideAt.IsKeyLit (.int .i64 (m : Int)) from trivial), List.getD_eq_getElem?_getD, List.getElem?_append_right (by omega), hl, Nat.sub_self]
      rfl
  · have hne : (Lit.int .i64 n) ≠ (Lit.int .i64 (m : Int)) := fun e => by injection e with _ e; exact hnm e
    rw [Maps.has_put_other hne, h1]
    have e : 0 ≤ n → lastAt (pend ++ [(m, s)]) n.toNat = lastAt pend n.toNat := fun h0 => by
      rw [lastAt_snoc, if_neg (by omega)]
    refine ⟨?_, ?_⟩
    · by_cases h0 : 0 ≤ n
      · rw [e h0]
      · rw [decide_eq_false h0, Bool.false_and, Bool.false_and]
    · intro k h0 hk z
      rw [e h0] at hk
      have := lastAt_lt _ _ _ hk
      rw [Maps.atKey_put_other hne, h2 k h0 hk z, List.getD_eq_getElem?_getD, List.getD_eq_getElem?_getD, List.getElem?_append_left (by omega)]
theorem own_cells {α : Type} {d : Kd α} {e base : Nat} {w : World} {ok : Nat → Prop} {v : Value} {xs : List α} (h : d.R e w base ok v xs) : ∀ k, v.ownBlock = some k → ok k ∧ k < w.heap.size ∧ ∃ q, q ∈ e :: d.E ∧ ∃ cells, w.heap[k]? = some (.cells cells q (0, 0)) :=
  fun k hk => ⟨h.1 k hk, ((Kd.R_bound h).1 k hk).2.2⟩
theorem zip_snoc (a : List Nat) (b : List Nat) (x y : Nat) (h : a.length = b.length) : List.zip (a ++ [x]) (b ++ [y]) = List.zip a b ++ [(x, y)] := by
  rw [List.zip_append h]
  rfl
theorem Lies.map_at {w : World} {own : Nat → Prop} {g L M : Nat} {pv : Value} {ps : List Nat} {lf : Int} {D : DataW Unit} {d : Dk} (h : Lies w own g L M pv ps lf D d) : ∃ es cl, w.heap[M]? = some (.map es cl) := by
  obtain ⟨es, cl, hb, _⟩ := h.hm
  exact ⟨es, cl, hb⟩
/-- The row of what waits lies in a block of its own. -/
theorem Lies.pv_ne {w : World} {own : Nat → Prop} {g L M : Nat} {pv : Value} {ps : List Nat} {lf : Int} {D : DataW Unit} {d : Dk} (h : Lies w own g L M pv ps lf D d) : (∀ k, pv.ownBlock = some k → own k) ∧ pv.ownBlock ≠ some g ∧ pv.ownBlock ≠ some L ∧ pv.ownBlock ≠ some M ∧ ∀ P cs, w.heap[P]? = some (.cells cs 74 (0, 0)) → pv.ownBlock ≠ some P := by
  have hc := own_cells h.hr
  have key : ∀ k cs t, w.heap[k]? = some (.cells cs t (0, 0)) → t ≠ 76 → pv.ownBlock ≠ some k := by
    intro k cs t hb ht he
    obtain ⟨_, _, q, hq, cells, hb'⟩ := hc k he
    rw [hb] at hb'
    injection hb' with hb'
    injection hb' with _ e _
    rcases List.mem_cons.1 hq with rfl | hq
    · exact ht e
    · cases hq
  refine ⟨fun k hk => (hc k hk).1, key _ _ _ h.hg (by decide), key _ _ _ h.hL (by decide), ?_, fun P cs hb => key P cs _ hb (by decide)⟩
  intro he
  obtain ⟨_, _, q, hq, cells, hb'⟩ := hc M he
  obtain ⟨es, cl, hb⟩ := h.map_at
  rw [hb] at hb'
  cases hb'
theorem lies_written {w2 w3 w5 : World} {own : Nat → Prop} {g L M : Nat} {pv : Value} {ps : List Nat} {lf : Int} {D : DataW Unit} {d1 : Dk} (h : Lies w2 own g L M pv ps lf D d1) (P : Nat) (s : ByteArray) (hsz : s.size = 1024) (m : Nat) (hml : m < d1.lies.length) (hroom : d1.pend.length < 2199023255552)
    (hP : w2.heap[P]? = some (.cells (pg s).toArray 74 (0, 0))) (hPn : ∀ k, own k → k < P) (hs2 : w2.heap.size = P + 1) (A3 : Option Addr) (zl c3 : Nat)
    (ho3 : kW.R 76 w3 0 (fun k => own k ∨ w2.heap.size ≤ k) (.slice A3 zl c3) (List.zip (d1.pend.map (·.1)) ps ++ [(m, P)])) (hb3 : Below 0 w2 w3) (hg3 : w2.grownBy w3 pv.ownBlock) :
    ((w3.setCell ⟨g, 1, none⟩ (.slice A3 zl c3)).ownsMap Try.prog 3 ptrR M d1.pend.length D) ∧
    (w5.ownsMap Try.prog 3 ptrR M (d1.pend.length + 1) (D.put (.int .i64 (m : Int)) (.lit (.int .i64 (P : Int)))) → (w3.setCell ⟨g, 1, none⟩ (.slice A3 zl c3)).grownBy w5 (some M) →
      Lies w5 (fun k => own k ∨ (P ≤ k ∧ k < w5.heap.size)) g L M (.slice A3 zl c3) (ps ++ [P]) lf (D.put (.int .i64 (m : Int)) (.lit (.int .i64 (P : Int)))) { d1 with pend := d1.pend ++ [(m, s)] } ∧ Moved own w2 w5) := by
  obtain ⟨n1, n2, n3, n4, n5⟩ := h.pv_ne
  have far : ∀ k, k ≠ g → (w3.setCell ⟨g, 1, none⟩ (.slice A3 zl c3)).heap[k]? = w3.heap[k]? := fun k hk => Below.heap_setCell w3 ⟨g, 1, none⟩ _ k hk
  have ssz : (w3.setCell ⟨g, 1, none⟩ (.slice A3 zl c3)).heap.size = w3.heap.size := by simp
  have st3 : ∀ k, k < w2.heap.size → pv.ownBlock ≠ some k → w3.heap[k]? = w2.heap[k]? := fun k hk hn => hg3.block k hk (fun e => hn e.symm)
  obtain ⟨es, cl, hM⟩ := h.map_at
  have hMg : M ≠ g := fun e => by rw [e, h.hg] at hM; cases hM
  have hM3 : w3.heap[M]? = w2.heap[M]? := st3 M (h.lt M h.oM) n4
  have hg3' : w3.heap[g]? = _ := (st3 g (h.lt g h.og) n2).trans h.hg
  refine ⟨ownsMap_step h.hm ((far M hMg).trans hM3), fun hm5 hg5 => ?_⟩
  have hsz3 := hg3.size
  have hsz5 := hg5.size
  rw [ssz] at hsz5
  have st5 : ∀ k, k < w3.heap.size → k ≠ g → k ≠ M → w5.heap[k]? = w3.heap[k]? := fun k hk h1 h2 => (hg5.block k (by rw [ssz]; exact hk) (fun e => h2 (Option.some.inj e))).trans (far k h1)
  have st25 : ∀ k, k < w2.heap.size → pv.ownBlock ≠ some k → k ≠ g → k ≠ M → w5.heap[k]? = w2.heap[k]? := fun k hk h0 h1 h2 => (st5 k (Nat.lt_of_lt_of_le hk hsz3) h1 h2).trans (st3 k hk h0)
  have hLg : L ≠ g := blk_ne h.hL h.hg (by decide)
  have hLM : L ≠ M := fun e => by rw [← e, h.hL] at hM; cases hM
  have hPg : P ≠ g := fun e => absurd (hPn g h.og) (by omega)
  have hPM : P ≠ M := fun e => absurd (hPn M h.oM) (by omega)
  have hgM : g ≠ M := fun e => hMg e.symm
  refine ⟨{ og := .inl h.og, oL := .inl h.oL, oM := .inl h.oM, oP := ?_, lt := ?_, hg := ?_, hf := h.hf, hw := h.hw, hL := ?_, len := by rw [List.length_append, List.length_append, h.len]; rfl, hP := ?_, hr := ?_, hm := ?_, tells := tells_snoc h.tells h.hm.isMap h.len m s P, ok := ?_ }, ?_, ?_⟩
  · intro p hp
    rcases List.mem_append.1 hp with hp | hp
    · exact ⟨.inl (h.oP p hp).1, (h.oP p hp).2⟩
    · obtain rfl := List.mem_singleton.1 hp
      exact ⟨.inr ⟨Nat.le_refl _, by omega⟩, fun e => absurd (hPn L h.oL) (by omega)⟩
  · rintro k (ho | ⟨_, hk⟩)
    · have := h.lt k ho
      omega
    · exact hk
  · refine (hg5.block g (by rw [ssz]; exact Nat.lt_of_lt_of_le (h.lt g h.og) hsz3) (fun e => hgM (Option.some.inj e))).trans ?_
    exact blk_put hg3' 1 _ rfl
  · exact (st25 L (h.lt L h.oL) n3 hLg hLM).trans h.hL
  · intro k h1 h2
    rw [List.length_append] at h1
    have hk1 : k < ps.length ∨ k = ps.length := by simp only [List.length_cons, List.length_nil] at h1; omega
    rcases hk1 with hk | rfl
    · have e1 : (ps ++ [P])[k] = ps[k] := List.getElem_append_left hk
      have hk' : k < d1.pend.length := by rw [← h.len]; exact hk
      have e2 : (d1.pend ++ [(m, s)])[k] = d1.pend[k] := List.getElem_append_left hk'
      have hb := h.hP k hk hk'
      show w5.heap[(ps ++ [P])[k]]? = some (.cells (pg (d1.pend ++ [(m, s)])[k].2).toArray _ (0, 0))
      rw [e1, e2]
      refine (st25 _ (blk_lt hb) (n5 _ _ hb) (blk_ne hb h.hg (by decide)) ?_).trans hb
      intro e
      rw [e, hM] at hb
      cases hb
    · have e1 : (ps ++ [P])[ps.length]'(by simp) = P := by simp
      have e2 : (d1.pend ++ [(m, s)])[ps.length]'(by rw [h.len]; simp) = (m, s) := by simp [h.len]
      show w5.heap[(ps ++ [P])[ps.length]]? = some (.cells (pg (d1.pend ++ [(m, s)])[ps.length].2).toArray _ (0, 0))
      rw [e1, e2]
      exact (st25 P (blk_lt hP) (n5 _ _ hP) hPg hPM).trans hP
  · show kW.R _ w5 0 _ _ (List.zip ((d1.pend ++ [(m, s)]).map (·.1)) (ps ++ [P]))
    rw [List.map_append, show ([(m, s)] : List (Nat × ByteArray)).map (·.1) = [m] from rfl, zip_snoc _ _ _ _ (by rw [List.length_map, h.len])]
    refine Kd.R_mono (Kd.R_step (Kd.R_bound ho3) (fun k hk hlt => ?_)) (fun k hk => ?_)
    · obtain ⟨_, _, _, q, hq, cells, hc⟩ := hk
      have hq' : q = 76 := by
        rcases List.mem_cons.1 hq with rfl | hq
        · rfl
        · cases hq
      subst hq'
      refine st5 k hlt (blk_ne hc hg3' (by decide)) ?_
      intro e
      rw [e, hM3, hM] at hc
      cases hc
    · obtain ⟨ho, _, hlt, _⟩ := hk
      rcases ho with ho | ho
      · exact .inl ho
      · exact .inr ⟨by omega, by omega⟩
  · show w5.ownsMap _ _ _ _ (d1.pend ++ [(m, s)]).length _
    rw [List.length_append]
    exact hm5
  · have hk := h.ok
    refine ⟨hk.some, hk.few, hk.size, ?_, ?_, hk.lo, hk.hi⟩
    · intro p hp
      rcases List.mem_append.1 hp with hp | hp
      · exact hk.pend p hp
      · obtain rfl := List.mem_singleton.1 hp
        exact ⟨hml, hsz⟩
    · show (d1.pend ++ [(m, s)]).length ≤ _
      rw [List.length_append]
      simp only [List.length_cons, List.length_nil]
      omega
  · exact (((hb3.setCell (p := ⟨g, 1, none⟩) (Nat.zero_le _) (.slice A3 zl c3)).grown hg5 (Nat.zero_le _) (fun _ _ => Nat.zero_le _)))
  · refine ⟨by omega, fun k hk hn => ?_⟩
    exact st25 k hk (fun e => hn (n1 k e)) (fun e => hn (e ▸ h.og)) (fun e => hn (e ▸ h.oM))
theorem write_full (w : World) (own : Nat → Prop) (g : Nat) (d : Dk) (hd : DiskAt w own g d) (m : Nat) (A : Addr) (c : Nat) (s : ByteArray) (hs : s.size = 1024) (hA : ∀ w', Kept w w' own → Kd.C (Kd.int .u8) w' (some A) s.size (bytesOf s)) (hroom : d.pend.length < 2199023255552) (h0 : readyV d m = 0) (d1 : Dk) (ha : actV d = (d1, 0)) :
    Calls Try.prog 13 #[.pointer (some ⟨g, 0, none⟩), .int .i64 (m : Int), .slice (some A) s.size c] w fun e w' => e = .returned (.int .i64 0) ∧ ∃ own', (∀ k, own' k → own k ∨ w.heap.size ≤ k) ∧ DiskAt w' own' g { d1 with pend := d.pend ++ [(m, s)] } ∧ Moved own w w' := by
  rw [hs]
  have hz := zero_page
  have hml : m < d.lies.length := by
    rcases readyV_cases d m with ⟨_, e⟩ | ⟨_, _, e⟩ | ⟨_, _, e, _⟩
    · rw [h0] at e; cases e
    · rw [h0] at e; cases e
    · omega
  have hlies : d1.lies = d.lies ∧ d1.pend = d.pend := by
    unfold actV at ha
    split at ha
    · cases ha; exact ⟨rfl, rfl⟩
    · split at ha <;> cases ha <;> exact ⟨rfl, rfl⟩
  have hdok := hd.ok
  have HA := Aside0.mk hA
  have HS := Aside0.mk hs
  have HML := Aside0.mk hml
  have HR := Aside0.mk hroom
  have HLI := Aside0.mk hlies
  clear hA hs hml hroom hlies
  go_enter Try.func13, Try.ntmps13
  go_wp2_with fail
  refine (ready_calls w own g d hd m).mono ?_
  rintro e_ w' ⟨rfl, rfl⟩
  rw [h0]
  go_wp2_with fail
  refine (act_calls _ own g d hd).mono ?_
  rintro e_ w1 ⟨rfl, hd1, hm1⟩
  rw [ha] at hd1 ⊢
  have HL' := HLI.out
  obtain ⟨L, M, pv, ps, lf, D, h⟩ := hd1
  have HM1 := Aside0.mk hm1
  have HLD := Aside0.mk (h.lt)
  have ha1 := C_at (HA.out w1 hm1.kept) (by rw [HS.out]; decide)
  have hcp := fun ty => run_copy_row (P := Try.prog) (w1.alloc (.cells zpage.toArray 74)) 34 34 ty 5 w1.heap.size 0 1024 1024 A 1024 c zpage.toArray 74 (pg s) Try.underlying34 infoU8' (blk_new _ _) (by rw [pg_len, HS.out]; rfl) (fun j v hj => (World.cell?_of_block (Below.heap_alloc w1 _ _ (World.block_lt_of_cell? _ _ (ha1 j v hj)))).trans (ha1 j v hj)) (by rw [pg_len, HS.out]; show 0 + 1024 ≤ zpage.length; rw [zpage_len]; decide) (pg_one s)
  have e0 : (zpage.toArray.toList.take 0 ++ pg s ++ zpage.toArray.toList.drop (0 + (pg s).length)).toArray = (pg s).toArray := by
    rw [pg_len, HS.out, List.take_zero, List.nil_append, List.drop_of_length_le (by show zpage.length ≤ 0 + 1024; rw [zpage_len]; decide), List.append_nil]
  rw [e0, pg_len, HS.out] at hcp
  have hcp' : ∀ ty, (Builtin.copy_ #[34, 34] ty #[.slice (some ⟨w1.heap.size, 0, none⟩) 1024 1024, .slice (some A) 1024 c]).run Try.prog (w1.alloc (.cells zpage.toArray 74)) = .ok (.int .i64 1024) ((w1.alloc (.cells zpage.toArray 74)).setRow w1.heap.size (pg s).toArray) := hcp
  clear hcp e0 ha1
  have hP2 : ((w1.alloc (.cells zpage.toArray 74)).setRow w1.heap.size (pg s).toArray).heap[w1.heap.size]? = some (.cells (pg s).toArray 74 (0, 0)) := setRow_heap _ _ _ _ _ _ (blk_new _ _)
  have hb2 : Below w1.heap.size w1 ((w1.alloc (.cells zpage.toArray 74)).setRow w1.heap.size (pg s).toArray) := below_setRow ((Below.refl _ _).alloc (Nat.le_refl _) _) (Nat.le_refl _) _
  have hs2 : ((w1.alloc (.cells zpage.toArray 74)).setRow w1.heap.size (pg s).toArray).heap.size = w1.heap.size + 1 := by rw [size_setRow]; show (w1.heap.push _).size = _; rw [Array.size_push]
  generalize (w1.alloc (.cells zpage.toArray 74)).setRow w1.heap.size (pg s).toArray = w2 at *
  have h2 := h.keep (Kept.of_below hb2 (fun _ => False)) (fun _ _ hk => hk)
  have HM2 := Aside0.mk (HM1.out.trans (Moved.of_below (own := fun _ => False) hb2) (fun _ hk => hk.elim))
  have HW1 := Aside0.mk (HM1.out.size)
  generalize hP : w1.heap.size = P at *
  have HP2 := Aside0.mk hP2
  have HSZ := Aside0.mk hs2
  have HPn := Aside0.mk (show ∀ k, own k → k < P from fun k ho => by rw [← hP]; exact h.lt k ho)
  clear hb2 h hm1 hP2 hs2
  have c1 : w2.cell? ⟨g, 1, none⟩ = some pv := (blk_cell h2.hg 1).trans rfl
  have hmany := Aside0.mk (show d1.pend.length < 2199023255552 by rw [HL'.2]; exact HR.out)
  have hzl : (List.zip (d1.pend.map (·.1)) ps).length = d1.pend.length := by rw [List.length_zip, List.length_map, h2.len, Nat.min_self]
  have HO := Aside0.mk (Kd.R_mono h2.hr (ok' := fun k => own k ∨ w2.heap.size ≤ k) (fun _ hk => .inl hk))
  have H2 := Aside0.mk h2
  have HZ := Aside0.mk hzl
  clear h2 hzl
  have hk3 : keyOf Try.prog 3 (.int .i64 (m : Int)) = some (.int .i64 (m : Int)) := keyOf_int_mk Try.underlying3 (wf64 (by have := HML.out; have := hdok.few; omega))
  have HK3 := Aside0.mk hk3
  clear hk3
  go_wp2_with (first | ((with_reducible refine gate_builtin (b := .append) (xs := #[.tmp 36, .tmp 40]) rfl ?_); (try (refine gate_guard (by rfl) ?_; dsimp only)); at_builtin; refine Kd.R_append kW (w0 := w2) 0 rfl (.tmp 36) (.tmp 40) 68 76 (.agg #[.int .i64 0, .pointer none]) 16 rfl Try.underlying68 infoW rfl (by decide) (by omega) pv (List.zip (d1.pend.map (·.1)) ps) (m, P) [.int .i64 (m : Int), .pointer (some ⟨P, 0, none⟩)] (fun k => own k ∨ w2.heap.size ≤ k) (fun _ => False) rfl rfl ?aP (fun _ hk => hk.elim) (fun _ hk => .inr hk) HO.out (Below.refl _ _) (Nat.zero_le _) (by rw [HZ.out]; have := hmany.out; omega) ?_; (case aP => exact rfl); intro v1 w3 ho3 hb3 hg3 hat3; obtain ⟨A3, c3, e3⟩ := Kd.R_slice ho3; subst e3; have BK3 := Aside0.mk (blk_grown H2.out.hg hg3 (Kd.R_ne HO.out H2.out.hg (by decide))); have hc31 : w3.cell? ⟨g, 1, none⟩ = some pv := (blk_cell BK3.out 1).trans rfl; have hc32 : w3.cell? ⟨g, 2, none⟩ = some (.map (some M)) := (blk_cell BK3.out 2).trans rfl; have hf31 := blk_frozen BK3.out 1; have HO3 := Aside0.mk ho3; have HB3 := Aside0.mk hb3; have HG3 := Aside0.mk hg3; have HAT := Aside0.mk hat3; clear ho3 hb3 hg3 hat3 c1; generalize (List.zip (d1.pend.map (·.1)) ps ++ [(m, P)]).length = zl at *) | (at_mapUpdate; refine wpList_mapUpdate_own _ rfl _ _ _ 67 rfl 3 72 (int_keyed Try.underlying3) Try.underlying67 ptrR M d1.pend.length D rfl ?om (by have := hmany.out; unfold maxLen; omega) _ _ (.int .i64 (m : Int)) rfl rfl HK3.out (.lit (.int .i64 (P : Int))) [] rfl ?_; (case om => exact (lies_written (w5 := w3) H2.out P s HS.out m (by rw [HL'.1]; exact HML.out) hmany.out HP2.out HPn.out HSZ.out A3 zl c3 HO3.out HB3.out HG3.out).1); intro w5 hm5 hg5) | go_in)
  go_ret
  have key := (lies_written (w5 := w5) H2.out P s HS.out m (by rw [HL'.1]; exact HML.out) hmany.out HP2.out HPn.out HSZ.out A3 zl c3 HO3.out HB3.out HG3.out).2 hm5 hg5
  rw [HL'.2] at key
  have hmw := HM2.out.trans key.2 (fun k hk => .inl hk)
  exact ⟨rfl, _, fun k hk => hk.imp id (fun x => Nat.le_trans HW1.out x.1), ⟨_, _, _, _, _, _, key.1⟩, hmw⟩
end Go.Proofs.Ytjaalegkmldaeaa.My
