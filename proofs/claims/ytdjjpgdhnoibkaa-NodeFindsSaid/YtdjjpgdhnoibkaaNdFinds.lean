/- NodeFinds. -/
import Derived.Test.YtdjjpgdhnoibkaaNdMem
import Derived.Test.YtdjjpgdhnoibkaaNdOpenR
namespace Go.Proofs.Ytdjjpgdhnoibkaa.My
open Go.RowKit Go.Proofs.YtdjjpgdhnoibkaaW.PrintWords Go.Proofs.YtdjjpgdhnoibkaaW.PrintLast Go.Proofs.YtdjjpgdhnoibkaaW.PrintMore Go.Proofs.Ytdjjpgdhnoibkaa Go.Proofs.Ytdjjpgdhnoibkaa.PZ Go.Proofs.Ytdjjpgdhnoibkaa.PD
set_option linter.unusedSimpArgs false
set_option linter.unusedVariables false
set_option maxRecDepth 100000
set_option maxHeartbeats 3200000
attribute [local go_sem high] conv_rune str_leq str_gtr
theorem finds_go (w : World) (b : Bool) (B1 : Option Addr) (c1 : Nat) (cs : List Ce) (B2 : Option Addr) (c2 : Nat) (ks : List ByteArray) (B3 : Option Addr) (c3 : Nat) (kids : List Int) (hc1 : cs.length ≤ c1) (hc2 : ks.length ≤ c2) (hc3 : kids.length ≤ c3) (h1 : Kd.C k66 w B1 cs.length cs) (h2 : Kd.C Kd.string w B2 ks.length ks) (h3 : Kd.C (Kd.int .u32) w B3 kids.length kids) (hk : ∀ x ∈ kids, 0 ≤ x ∧ x < 4294967296) (hn : NdOk cs ks kids) (key : ByteArray) (t1 : List Ce) (t2 : List ByteArray) (t3 : List Int) (hl : lent2.f 50 b cs ks kids = some (b, cs ++ t1, ks ++ t2, kids ++ t3)) (e1 : t1.length = 40) (e2 : t2.length = 40) (e3 : t3.length = 40) (r1 : List Ce) (r2 : List ByteArray) (r3 : List Int) (K : Nat) (ho : concordlaw08_over.f K b cs ks kids = some (r1, r2, r3)) (l1 : r1.length = cs.length) (l2 : r2.length = ks.length) (l3 : r3.length = kids.length) (hn' : NdOk r1 r2 r3) (hk' : ∀ x ∈ r3, 0 ≤ x ∧ x < 4294967296) (F : Int × Bool) (hFF : F = findA b cs ks kids key) (D : Int) (hDD : D = kidA b cs ks kids key) (F' : Int × Bool) (hFF' : F' = findA b r1 r2 r3 key) (D' : Int) (hDD' : D' = kidA b r1 r2 r3 key) :
    Calls Try.prog 3 #[.agg #[.bool b, .slice B1 cs.length c1, .slice B2 ks.length c2, .slice B3 kids.length c3], .string key] w fun e w' => e = .returned (.bool true) ∧ Below w.heap.size w w' := by
  have HB : Below w.heap.size w w := Below.refl _ _
  obtain ⟨i, t⟩ := F
  obtain ⟨i', t'⟩ := F'
  go_enter Try.func3, Try.ntmps3
  have hb1 : Below w.heap.size w (w.alloc (.cells #[.bool b, .slice B1 cs.length c1, .slice B2 ks.length c2, .slice B3 kids.length c3] 26)) := (Below.refl _ _).alloc (Nat.le_refl _) _
  have hs1 : w.heap.size ≤ (w.alloc (.cells #[.bool b, .slice B1 cs.length c1, .slice B2 ks.length c2, .slice B3 kids.length c3] 26)).heap.size := hb1.size
  replace HB := below_then HB (below_size HB) hb1
  clear hb1
  have hxn : (w.alloc (.cells #[.bool b, .slice B1 cs.length c1, .slice B2 ks.length c2, .slice B3 kids.length c3] 26)).heap[w.heap.size]? = some (.cells #[.bool b, .slice B1 cs.length c1, .slice B2 ks.length c2, .slice B3 kids.length c3] 26 (0, 0)) := blk_new w _
  have cn0 : (w.alloc (.cells #[.bool b, .slice B1 cs.length c1, .slice B2 ks.length c2, .slice B3 kids.length c3] 26)).cell? ⟨w.heap.size, 0, none⟩ = some (.bool b) := (blk_cell hxn 0).trans rfl
  have cn1 : (w.alloc (.cells #[.bool b, .slice B1 cs.length c1, .slice B2 ks.length c2, .slice B3 kids.length c3] 26)).cell? ⟨w.heap.size, 1, none⟩ = some (.slice B1 cs.length c1) := (blk_cell hxn 1).trans rfl
  have cn2 : (w.alloc (.cells #[.bool b, .slice B1 cs.length c1, .slice B2 ks.length c2, .slice B3 kids.length c3] 26)).cell? ⟨w.heap.size, 2, none⟩ = some (.slice B2 ks.length c2) := (blk_cell hxn 2).trans rfl
  have cn3 : (w.alloc (.cells #[.bool b, .slice B1 cs.length c1, .slice B2 ks.length c2, .slice B3 kids.length c3] 26)).cell? ⟨w.heap.size, 3, none⟩ = some (.slice B3 kids.length c3) := (blk_cell hxn 3).trans rfl
  go_wp2_with fail
  clear cn0 cn1 cn2 cn3
  have hln := blk_lt hxn
  generalize (w.alloc (.cells #[.bool b, .slice B1 cs.length c1, .slice B2 ks.length c2, .slice B3 kids.length c3] 26)) = w1 at *
  obtain ⟨gn, hen⟩ : ∃ g, g = w.heap.size := ⟨_, rfl⟩
  rw [← hen] at hxn hln ⊢
  have hgen : w.heap.size ≤ gn := Nat.le_of_eq hen.symm
  clear hen
  refine (lentN _ b B1 c1 cs B2 c2 ks B3 c3 kids hc1 hc2 hc3 (Kd.C_below h1 HB) (Kd.C_below h2 HB) (Kd.C_below h3 HB) t1 t2 t3 hl w.heap.size (below_size HB)).mono ?_
  rintro e_ w2 ⟨A1, q1, A2, q2, A3, q3, rfl, hF, hb2⟩
  have hs2 : w1.heap.size ≤ w2.heap.size := hb2.size
  replace hxn := blk_below hxn hb2
  replace HB := below_then HB (below_size HB) hb2
  clear hb2
  have hV := NR_front hF
  have hb3 : Below w2.heap.size w2 (w2.alloc (.cells #[.bool b, .slice A1 cs.length q1, .slice A2 ks.length q2, .slice A3 kids.length q3] 26)) := (Below.refl _ _).alloc (Nat.le_refl _) _
  have hs3 : w2.heap.size ≤ (w2.alloc (.cells #[.bool b, .slice A1 cs.length q1, .slice A2 ks.length q2, .slice A3 kids.length q3] 26)).heap.size := hb3.size
  replace hF := NR_below hF hb3
  replace hV := NR_below hV hb3
  replace hxn := blk_below hxn hb3
  replace HB := below_then HB (below_size HB) hb3
  clear hb3
  have hxi : (w2.alloc (.cells #[.bool b, .slice A1 cs.length q1, .slice A2 ks.length q2, .slice A3 kids.length q3] 26)).heap[w2.heap.size]? = some (.cells #[.bool b, .slice A1 cs.length q1, .slice A2 ks.length q2, .slice A3 kids.length q3] 26 (0, 0)) := blk_new w2 _
  have cn0 : (w2.alloc (.cells #[.bool b, .slice A1 cs.length q1, .slice A2 ks.length q2, .slice A3 kids.length q3] 26)).cell? ⟨gn, 0, none⟩ = some (.bool b) := (blk_cell hxn 0).trans rfl
  have cn1 : (w2.alloc (.cells #[.bool b, .slice A1 cs.length q1, .slice A2 ks.length q2, .slice A3 kids.length q3] 26)).cell? ⟨gn, 1, none⟩ = some (.slice B1 cs.length c1) := (blk_cell hxn 1).trans rfl
  have cn2 : (w2.alloc (.cells #[.bool b, .slice A1 cs.length q1, .slice A2 ks.length q2, .slice A3 kids.length q3] 26)).cell? ⟨gn, 2, none⟩ = some (.slice B2 ks.length c2) := (blk_cell hxn 2).trans rfl
  have cn3 : (w2.alloc (.cells #[.bool b, .slice A1 cs.length q1, .slice A2 ks.length q2, .slice A3 kids.length q3] 26)).cell? ⟨gn, 3, none⟩ = some (.slice B3 kids.length c3) := (blk_cell hxn 3).trans rfl
  have ci0 : (w2.alloc (.cells #[.bool b, .slice A1 cs.length q1, .slice A2 ks.length q2, .slice A3 kids.length q3] 26)).cell? ⟨w2.heap.size, 0, none⟩ = some (.bool b) := (blk_cell hxi 0).trans rfl
  have ci1 : (w2.alloc (.cells #[.bool b, .slice A1 cs.length q1, .slice A2 ks.length q2, .slice A3 kids.length q3] 26)).cell? ⟨w2.heap.size, 1, none⟩ = some (.slice A1 cs.length q1) := (blk_cell hxi 1).trans rfl
  have ci2 : (w2.alloc (.cells #[.bool b, .slice A1 cs.length q1, .slice A2 ks.length q2, .slice A3 kids.length q3] 26)).cell? ⟨w2.heap.size, 2, none⟩ = some (.slice A2 ks.length q2) := (blk_cell hxi 2).trans rfl
  have ci3 : (w2.alloc (.cells #[.bool b, .slice A1 cs.length q1, .slice A2 ks.length q2, .slice A3 kids.length q3] 26)).cell? ⟨w2.heap.size, 3, none⟩ = some (.slice A3 kids.length q3) := (blk_cell hxi 3).trans rfl
  go_wp2_with fail
  clear cn0 cn1 cn2 cn3 ci0 ci1 ci2 ci3
  have hli := blk_lt hxi
  generalize (w2.alloc (.cells #[.bool b, .slice A1 cs.length q1, .slice A2 ks.length q2, .slice A3 kids.length q3] 26)) = w3 at *
  obtain ⟨gi, hei⟩ : ∃ g, g = w2.heap.size := ⟨_, rfl⟩
  rw [← hei] at hxi hli ⊢
  have hgei : w2.heap.size ≤ gi := Nat.le_of_eq hei.symm
  clear hei
  refine (concordref08_Find.calls (2 * (cs.length + ks.length) + kids.length + 60) b B1 c1 cs B2 c2 ks B3 c3 kids key i t _ (Kd.C_below h1 HB) hc1 (Kd.C_below h2 HB) hc2 (Kd.C_below h3 HB) hc3 (hFF.symm ▸ rfind_f b cs ks kids key hn _ (Nat.le_refl _))).mono ?_
  rintro e_ w4 ⟨rfl, hb4⟩
  have hs4 : w3.heap.size ≤ w4.heap.size := hb4.size
  replace hF := NR_below hF hb4
  replace hV := NR_below hV hb4
  replace hxn := blk_below hxn hb4
  replace hxi := blk_below hxi hb4
  replace HB := below_then HB (below_size HB) hb4
  clear hb4
  have cn0 : w4.cell? ⟨gn, 0, none⟩ = some (.bool b) := (blk_cell hxn 0).trans rfl
  have cn1 : w4.cell? ⟨gn, 1, none⟩ = some (.slice B1 cs.length c1) := (blk_cell hxn 1).trans rfl
  have cn2 : w4.cell? ⟨gn, 2, none⟩ = some (.slice B2 ks.length c2) := (blk_cell hxn 2).trans rfl
  have cn3 : w4.cell? ⟨gn, 3, none⟩ = some (.slice B3 kids.length c3) := (blk_cell hxn 3).trans rfl
  have ci0 : w4.cell? ⟨gi, 0, none⟩ = some (.bool b) := (blk_cell hxi 0).trans rfl
  have ci1 : w4.cell? ⟨gi, 1, none⟩ = some (.slice A1 cs.length q1) := (blk_cell hxi 1).trans rfl
  have ci2 : w4.cell? ⟨gi, 2, none⟩ = some (.slice A2 ks.length q2) := (blk_cell hxi 2).trans rfl
  have ci3 : w4.cell? ⟨gi, 3, none⟩ = some (.slice A3 kids.length q3) := (blk_cell hxi 3).trans rfl
  go_wp2_with fail
  obtain ⟨gC, gL, -, -, -⟩ := NR_C hV
  refine (node_Find.calls (2 * (cs.length + ks.length) + kids.length + 60) b A1 q1 cs A2 q2 ks A3 q3 kids key i t _ gC.1 gL.1 gC.2.1 gL.2.1 gC.2.2 gL.2.2 (hFF.symm ▸ nfind_f b cs ks kids key hn _ (Nat.le_refl _))).mono ?_
  rintro e_ w5 ⟨rfl, hb5⟩
  clear cn0 cn1 cn2 cn3 ci0 ci1 ci2 ci3
  have hs5 : w4.heap.size ≤ w5.heap.size := hb5.size
  replace hF := NR_below hF hb5
  replace hV := NR_below hV hb5
  replace hxn := blk_below hxn hb5
  replace hxi := blk_below hxi hb5
  replace HB := below_then HB (below_size HB) hb5
  clear hb5
  clear gC gL
  have cn0 : w5.cell? ⟨gn, 0, none⟩ = some (.bool b) := (blk_cell hxn 0).trans rfl
  have cn1 : w5.cell? ⟨gn, 1, none⟩ = some (.slice B1 cs.length c1) := (blk_cell hxn 1).trans rfl
  have cn2 : w5.cell? ⟨gn, 2, none⟩ = some (.slice B2 ks.length c2) := (blk_cell hxn 2).trans rfl
  have cn3 : w5.cell? ⟨gn, 3, none⟩ = some (.slice B3 kids.length c3) := (blk_cell hxn 3).trans rfl
  have ci0 : w5.cell? ⟨gi, 0, none⟩ = some (.bool b) := (blk_cell hxi 0).trans rfl
  have ci1 : w5.cell? ⟨gi, 1, none⟩ = some (.slice A1 cs.length q1) := (blk_cell hxi 1).trans rfl
  have ci2 : w5.cell? ⟨gi, 2, none⟩ = some (.slice A2 ks.length q2) := (blk_cell hxi 2).trans rfl
  have ci3 : w5.cell? ⟨gi, 3, none⟩ = some (.slice A3 kids.length q3) := (blk_cell hxi 3).trans rfl
  go_wp2_with fail
  clear cn0 cn1 cn2 cn3 ci0 ci1 ci2 ci3
  have cn0 : w5.cell? ⟨gn, 0, none⟩ = some (.bool b) := (blk_cell hxn 0).trans rfl
  have cn1 : w5.cell? ⟨gn, 1, none⟩ = some (.slice B1 cs.length c1) := (blk_cell hxn 1).trans rfl
  have cn2 : w5.cell? ⟨gn, 2, none⟩ = some (.slice B2 ks.length c2) := (blk_cell hxn 2).trans rfl
  have cn3 : w5.cell? ⟨gn, 3, none⟩ = some (.slice B3 kids.length c3) := (blk_cell hxn 3).trans rfl
  have ci0 : w5.cell? ⟨gi, 0, none⟩ = some (.bool b) := (blk_cell hxi 0).trans rfl
  have ci1 : w5.cell? ⟨gi, 1, none⟩ = some (.slice A1 cs.length q1) := (blk_cell hxi 1).trans rfl
  have ci2 : w5.cell? ⟨gi, 2, none⟩ = some (.slice A2 ks.length q2) := (blk_cell hxi 2).trans rfl
  have ci3 : w5.cell? ⟨gi, 3, none⟩ = some (.slice A3 kids.length q3) := (blk_cell hxi 3).trans rfl
  refine start_ (n := 23) (S := fun w' => w'.cell? ⟨gn, 0, none⟩ = some (.bool b) ∧ w'.cell? ⟨gn, 1, none⟩ = some (.slice B1 cs.length c1) ∧ w'.cell? ⟨gn, 2, none⟩ = some (.slice B2 ks.length c2) ∧ w'.cell? ⟨gn, 3, none⟩ = some (.slice B3 kids.length c3) ∧ w'.cell? ⟨gi, 0, none⟩ = some (.bool b) ∧ w'.cell? ⟨gi, 1, none⟩ = some (.slice A1 cs.length q1) ∧ w'.cell? ⟨gi, 2, none⟩ = some (.slice A2 ks.length q2) ∧ w'.cell? ⟨gi, 3, none⟩ = some (.slice A3 kids.length q3)) (ds := []) #[false, false, false, false, false, false, false, false, false, false, false, false, false, false, false, false, false, false, false, false, false, false, false] (by kernel_rfl) rfl rfl (⟨cn0, cn1, cn2, cn3, ci0, ci1, ci2, ci3⟩) (fun hHeld => ?_)
  clear cn0 cn1 cn2 cn3 ci0 ci1 ci2 ci3
  have hb6 : Below w5.heap.size w5 w5.drew := below_drew (Below.refl _ _)
  have hs6 : w5.heap.size ≤ w5.drew.heap.size := hb6.size
  replace hF := NR_below hF hb6
  replace hV := NR_below hV hb6
  replace hxn := blk_below hxn hb6
  replace hxi := blk_below hxi hb6
  replace HB := below_then HB (below_size HB) hb6
  clear hb6
  generalize w5.drew = w6 at *
  refine pure_ (i := 0) (N := some 25) (v := ?_) (a' := ?_) #[true, false, false, false, false, false, false, false, false, false, false, false, false, false, false, false, false, false, false, false, false, false, false] rfl rfl (by kernel_rfl) (fun _ _ _ h => h) (Or.inl ⟨by rfl, ?_⟩) ?_ ?_
  rotate_left
  · intro w'
    go_simp
    with_reducible rfl
  rotate_left
  · simp only [Act.put, List.setIfInBounds_toArray, List.set_cons_zero, List.set_cons_succ, i64_w, i32_w]
    rfl
  refine pure_ (i := 1) (N := some 26) (v := ?_) (a' := ?_) #[true, true, false, false, false, false, false, false, false, false, false, false, false, false, false, false, false, false, false, false, false, false, false] rfl rfl (by kernel_rfl) (fun _ _ _ h => h) (Or.inl ⟨by rfl, ?_⟩) ?_ ?_
  rotate_left
  · intro w'
    go_simp
    with_reducible rfl
  rotate_left
  · simp only [Act.put, List.setIfInBounds_toArray, List.set_cons_zero, List.set_cons_succ, i64_w, i32_w]
    rfl
  refine pure_ (i := 2) (N := some 27) (v := ?_) (a' := ?_) #[true, true, true, false, false, false, false, false, false, false, false, false, false, false, false, false, false, false, false, false, false, false, false] rfl rfl (by kernel_rfl) (fun _ _ _ h => h) (Or.inl ⟨by rfl, ?_⟩) ?_ ?_
  rotate_left
  · intro w'
    go_simp
    with_reducible rfl
  rotate_left
  · simp only [Act.put, List.setIfInBounds_toArray, List.set_cons_zero, List.set_cons_succ, i64_w, i32_w]
    rfl
  refine pure_ (i := 3) (N := some 28) (v := ?_) (a' := ?_) #[true, true, true, true, false, false, false, false, false, false, false, false, false, false, false, false, false, false, false, false, false, false, false] rfl rfl (by kernel_rfl) (fun _ _ _ h => h) (Or.inl ⟨by rfl, ?_⟩) ?_ ?_
  rotate_left
  · intro w'
    go_simp
    with_reducible rfl
  rotate_left
  · simp only [Act.put, List.setIfInBounds_toArray, List.set_cons_zero, List.set_cons_succ, i64_w, i32_w]
    rfl
  refine pure_ (i := 4) (N := some 29) (v := ?_) (a' := ?_) #[true, true, true, true, true, false, false, false, false, false, false, false, false, false, false, false, false, false, false, false, false, false, false] rfl rfl (by kernel_rfl) (fun _ _ _ h => h) (Or.inl ⟨by rfl, ?_⟩) ?_ ?_
  rotate_left
  · intro w'
    go_simp
    with_reducible rfl
  rotate_left
  · simp only [Act.put, List.setIfInBounds_toArray, List.set_cons_zero, List.set_cons_succ, i64_w, i32_w]
    rfl
  refine pure_ (i := 5) (N := some 30) (v := ?_) (a' := ?_) #[true, true, true, true, true, true, false, false, false, false, false, false, false, false, false, false, false, false, false, false, false, false, false] rfl rfl (by kernel_rfl) (fun _ _ _ h => h) (Or.inl ⟨by rfl, ?_⟩) ?_ ?_
  rotate_left
  · intro w'
    go_simp
    with_reducible rfl
  rotate_left
  · simp only [Act.put, List.setIfInBounds_toArray, List.set_cons_zero, List.set_cons_succ, i64_w, i32_w]
    rfl
  refine pure_ (i := 6) (N := some 31) (v := ?_) (a' := ?_) #[true, true, true, true, true, true, true, false, false, false, false, false, false, false, false, false, false, false, false, false, false, false, false] rfl rfl (by kernel_rfl) (fun _ _ _ h => h) (Or.inl ⟨by rfl, ?_⟩) ?_ ?_
  rotate_left
  · intro w'
    go_simp
    with_reducible rfl
  rotate_left
  · simp only [Act.put, List.setIfInBounds_toArray, List.set_cons_zero, List.set_cons_succ, i64_w, i32_w]
    rfl
  refine pure_ (i := 7) (N := some 32) (v := ?_) (a' := ?_) #[true, true, true, true, true, true, true, true, false, false, false, false, false, false, false, false, false, false, false, false, false, false, false] rfl rfl (by kernel_rfl) (fun _ _ _ h => h) (Or.inl ⟨by rfl, ?_⟩) ?_ ?_
  rotate_left
  · intro w'
    go_simp
    with_reducible rfl
  rotate_left
  · simp only [Act.put, List.setIfInBounds_toArray, List.set_cons_zero, List.set_cons_succ, i64_w, i32_w]
    rfl
  refine pure_ (i := 8) (N := some 33) (v := ?_) (a' := ?_) #[true, true, true, true, true, true, true, true, true, false, false, false, false, false, false, false, false, false, false, false, false, false, false] rfl rfl (by kernel_rfl) (fun _ _ _ h => h) (Or.inl ⟨by rfl, ?_⟩) ?_ ?_
  rotate_left
  · intro w'
    go_simp
    with_reducible rfl
  rotate_left
  · simp only [Act.put, List.setIfInBounds_toArray, List.set_cons_zero, List.set_cons_succ, i64_w, i32_w]
    rfl
  refine take_ (i := 9) (N := some 34) (v := ?_) (a' := ?_) #[true, true, true, true, true, true, true, true, true, true, false, false, false, false, false, false, false, false, false, false, false, false, false] rfl rfl (by kernel_rfl) (fun _ _ _ h => h) (Or.inl ⟨by rfl, ?_⟩) hHeld ?_ ?_
  rotate_left
  · intro w' hS
    go_simp
    with_reducible rfl
  rotate_left
  · simp only [Act.put, List.setIfInBounds_toArray, List.set_cons_zero, List.set_cons_succ, i64_w, i32_w]
    rfl
  refine pure_ (i := 10) (N := some 35) (v := ?_) (a' := ?_) #[true, true, true, true, true, true, true, true, true, true, true, false, false, false, false, false, false, false, false, false, false, false, false] rfl rfl (by kernel_rfl) (fun _ _ _ h => h) (Or.inl ⟨by rfl, ?_⟩) ?_ ?_
  rotate_left
  · intro w'
    go_simp
    with_reducible rfl
  rotate_left
  · simp only [Act.put, List.setIfInBounds_toArray, List.set_cons_zero, List.set_cons_succ, i64_w, i32_w]
    rfl
  refine take_ (i := 12) (N := some 37) (v := ?_) (a' := ?_) #[true, true, true, true, true, true, true, true, true, true, true, false, true, false, false, false, false, false, false, false, false, false, false] rfl rfl (by kernel_rfl) (fun _ _ _ h => h) (Or.inl ⟨by rfl, ?_⟩) hHeld ?_ ?_
  rotate_left
  · intro w' hS
    go_simp
    with_reducible rfl
  rotate_left
  · simp only [Act.put, List.setIfInBounds_toArray, List.set_cons_zero, List.set_cons_succ, i64_w, i32_w]
    rfl
  refine pure_ (i := 13) (N := some 38) (v := ?_) (a' := ?_) #[true, true, true, true, true, true, true, true, true, true, true, false, true, true, false, false, false, false, false, false, false, false, false] rfl rfl (by kernel_rfl) (fun _ _ _ h => h) (Or.inl ⟨by rfl, ?_⟩) ?_ ?_
  rotate_left
  · intro w'
    go_simp
    with_reducible rfl
  rotate_left
  · simp only [Act.put, List.setIfInBounds_toArray, List.set_cons_zero, List.set_cons_succ, i64_w, i32_w]
    rfl
  refine one_ (i := 11) (N := some 36) #[true, true, true, true, true, true, true, true, true, true, true, true, true, true, false, false, false, false, false, false, false, false, false] rfl rfl (by kernel_rfl) (by decide) (fun K hK => ?_)
  obtain ⟨gC, gL, -, -, -⟩ := NR_C hV
  refine goes_ Try.func18 (by kernel_rfl) rfl #[.agg #[.bool b, .slice A1 cs.length q1, .slice A2 ks.length q2, .slice A3 kids.length q3], .string key] (by rfl) rfl rfl (by (try simp only [List.map_toArray, List.map_cons, List.map_nil]); first | done | rfl) ?_
  refine (node_Kid.calls  b A1 q1 cs A2 q2 ks A3 q3 kids key D _ gC.1 gL.1 gC.2.1 gL.2.1 gC.2.2 gL.2.2 (hDD.symm ▸ nkid_f b cs ks kids key (ndB_of' hn hk))).mono ?_
  rintro e_ w7 ⟨rfl, hb7⟩
  refine ⟨_, rfl, ?_⟩
  clear hHeld
  have hs7 : w6.heap.size ≤ w7.heap.size := hb7.size
  replace hF := NR_below hF hb7
  replace hV := NR_below hV hb7
  replace hxn := blk_below hxn hb7
  replace hxi := blk_below hxi hb7
  replace HB := below_then HB (below_size HB) hb7
  clear hb7
  clear gC gL
  have cn0 : w7.cell? ⟨gn, 0, none⟩ = some (.bool b) := (blk_cell hxn 0).trans rfl
  have cn1 : w7.cell? ⟨gn, 1, none⟩ = some (.slice B1 cs.length c1) := (blk_cell hxn 1).trans rfl
  have cn2 : w7.cell? ⟨gn, 2, none⟩ = some (.slice B2 ks.length c2) := (blk_cell hxn 2).trans rfl
  have cn3 : w7.cell? ⟨gn, 3, none⟩ = some (.slice B3 kids.length c3) := (blk_cell hxn 3).trans rfl
  have ci0 : w7.cell? ⟨gi, 0, none⟩ = some (.bool b) := (blk_cell hxi 0).trans rfl
  have ci1 : w7.cell? ⟨gi, 1, none⟩ = some (.slice A1 cs.length q1) := (blk_cell hxi 1).trans rfl
  have ci2 : w7.cell? ⟨gi, 2, none⟩ = some (.slice A2 ks.length q2) := (blk_cell hxi 2).trans rfl
  have ci3 : w7.cell? ⟨gi, 3, none⟩ = some (.slice A3 kids.length q3) := (blk_cell hxi 3).trans rfl
  refine hK.out _ _ (⟨cn0, cn1, cn2, cn3, ci0, ci1, ci2, ci3⟩) (fun hHeld => ?_)
  clear hK K
  refine norm_ (a' := ?_) ?_ ?_
  rotate_left
  · show Act.put _ (some 36) _ = _
    simp only [Act.put, List.setIfInBounds_toArray, List.set_cons_zero, List.set_cons_succ, i64_w, i32_w]
    rfl
  clear cn0 cn1 cn2 cn3 ci0 ci1 ci2 ci3
  refine one_ (i := 14) (N := some 39) #[true, true, true, true, true, true, true, true, true, true, true, true, true, true, true, false, false, false, false, false, false, false, false] rfl rfl (by kernel_rfl) (by decide) (fun K hK => ?_)
  refine goes_ Try.func19 (by kernel_rfl) rfl #[.agg #[.bool b, .slice B1 cs.length c1, .slice B2 ks.length c2, .slice B3 kids.length c3], .string key] (by rfl) rfl rfl (by (try simp only [List.map_toArray, List.map_cons, List.map_nil]); first | done | rfl) ?_
  refine (concordref08_Kid.calls (2 * (cs.length + ks.length) + kids.length + 60) b B1 c1 cs B2 c2 ks B3 c3 kids key D _ (Kd.C_below h1 HB) hc1 (Kd.C_below h2 HB) hc2 (Kd.C_below h3 HB) hc3 (hDD.symm ▸ rkid_f b cs ks kids key hn _ (Nat.le_refl _))).mono ?_
  rintro e_ w8 ⟨rfl, hb8⟩
  refine ⟨_, rfl, ?_⟩
  clear hHeld
  have hs8 : w7.heap.size ≤ w8.heap.size := hb8.size
  replace hF := NR_below hF hb8
  replace hV := NR_below hV hb8
  replace hxn := blk_below hxn hb8
  replace hxi := blk_below hxi hb8
  replace HB := below_then HB (below_size HB) hb8
  clear hb8
  have cn0 : w8.cell? ⟨gn, 0, none⟩ = some (.bool b) := (blk_cell hxn 0).trans rfl
  have cn1 : w8.cell? ⟨gn, 1, none⟩ = some (.slice B1 cs.length c1) := (blk_cell hxn 1).trans rfl
  have cn2 : w8.cell? ⟨gn, 2, none⟩ = some (.slice B2 ks.length c2) := (blk_cell hxn 2).trans rfl
  have cn3 : w8.cell? ⟨gn, 3, none⟩ = some (.slice B3 kids.length c3) := (blk_cell hxn 3).trans rfl
  have ci0 : w8.cell? ⟨gi, 0, none⟩ = some (.bool b) := (blk_cell hxi 0).trans rfl
  have ci1 : w8.cell? ⟨gi, 1, none⟩ = some (.slice A1 cs.length q1) := (blk_cell hxi 1).trans rfl
  have ci2 : w8.cell? ⟨gi, 2, none⟩ = some (.slice A2 ks.length q2) := (blk_cell hxi 2).trans rfl
  have ci3 : w8.cell? ⟨gi, 3, none⟩ = some (.slice A3 kids.length q3) := (blk_cell hxi 3).trans rfl
  refine hK.out _ _ (⟨cn0, cn1, cn2, cn3, ci0, ci1, ci2, ci3⟩) (fun hHeld => ?_)
  clear hK K
  refine norm_ (a' := ?_) ?_ ?_
  rotate_left
  · show Act.put _ (some 39) _ = _
    simp only [Act.put, List.setIfInBounds_toArray, List.set_cons_zero, List.set_cons_succ, i64_w, i32_w]
    rfl
  clear cn0 cn1 cn2 cn3 ci0 ci1 ci2 ci3
  refine pure_ (i := 15) (N := some 40) (v := ?_) (a' := ?_) #[true, true, true, true, true, true, true, true, true, true, true, true, true, true, true, true, false, false, false, false, false, false, false] rfl rfl (by kernel_rfl) (fun _ _ _ h => h) (Or.inl ⟨by rfl, ?_⟩) ?_ ?_
  rotate_left
  · intro w'
    go_simp
    with_reducible rfl
  rotate_left
  · simp only [Act.put, List.setIfInBounds_toArray, List.set_cons_zero, List.set_cons_succ, i64_w, i32_w]
    rfl
  refine pure_ (i := 16) (N := some 41) (v := ?_) (a' := ?_) #[true, true, true, true, true, true, true, true, true, true, true, true, true, true, true, true, true, false, false, false, false, false, false] rfl rfl (by kernel_rfl) (fun _ _ _ h => h) (Or.inl ⟨by rfl, ?_⟩) ?_ ?_
  rotate_left
  · intro w'
    go_simp
    with_reducible rfl
  rotate_left
  · simp only [Act.put, List.setIfInBounds_toArray, List.set_cons_zero, List.set_cons_succ, i64_w, i32_w]
    rfl
  refine pure_ (i := 17) (N := some 42) (v := ?_) (a' := ?_) #[true, true, true, true, true, true, true, true, true, true, true, true, true, true, true, true, true, true, false, false, false, false, false] rfl rfl (by kernel_rfl) (fun _ _ _ h => h) (Or.inl ⟨by rfl, ?_⟩) ?_ ?_
  rotate_left
  · intro w'
    go_simp
    with_reducible rfl
  rotate_left
  · simp only [Act.put, List.setIfInBounds_toArray, List.set_cons_zero, List.set_cons_succ, i64_w, i32_w]
    rfl
  refine take_ (i := 18) (N := some 43) (v := ?_) (a' := ?_) #[true, true, true, true, true, true, true, true, true, true, true, true, true, true, true, true, true, true, true, false, false, false, false] rfl rfl (by kernel_rfl) (fun _ _ _ h => h) (Or.inl ⟨by rfl, ?_⟩) hHeld ?_ ?_
  rotate_left
  · intro w' hS
    go_simp
    with_reducible rfl
  rotate_left
  · simp only [Act.put, List.setIfInBounds_toArray, List.set_cons_zero, List.set_cons_succ, i64_w, i32_w]
    rfl
  refine take_ (i := 19) (N := some 44) (v := ?_) (a' := ?_) #[true, true, true, true, true, true, true, true, true, true, true, true, true, true, true, true, true, true, true, true, false, false, false] rfl rfl (by kernel_rfl) (fun _ _ _ h => h) (Or.inl ⟨by rfl, ?_⟩) hHeld ?_ ?_
  rotate_left
  · intro w' hS
    go_simp
    with_reducible rfl
  rotate_left
  · simp only [Act.put, List.setIfInBounds_toArray, List.set_cons_zero, List.set_cons_succ, i64_w, i32_w]
    rfl
  refine one_ (i := 20) (N := some 45) #[true, true, true, true, true, true, true, true, true, true, true, true, true, true, true, true, true, true, true, true, true, false, false] rfl rfl (by kernel_rfl) (by decide) (fun K hK => ?_)
  refine goes_ Try.func20 (by kernel_rfl) rfl #[.agg #[.bool b, .slice A1 cs.length q1, .slice A2 ks.length q2, .slice A3 kids.length q3], .agg #[.bool b, .slice B1 cs.length c1, .slice B2 ks.length c2, .slice B3 kids.length c3]] (by rfl) rfl rfl (by (try simp only [List.map_toArray, List.map_cons, List.map_nil]); first | done | rfl) ?_
  refine (keptN _ b A1 q1 t1 A2 q2 t2 A3 q3 t3 B1 c1 cs B2 c2 ks B3 c3 kids hF hc1 hc2 hc3 (Kd.C_below h1 HB) (Kd.C_below h2 HB) (Kd.C_below h3 HB) hn hl e1 e2 e3).mono ?_
  rintro e_ w9 ⟨rfl, hb9⟩
  refine ⟨_, rfl, ?_⟩
  clear hHeld
  have hs9 : w8.heap.size ≤ w9.heap.size := hb9.size
  replace hF := NR_below hF hb9
  replace hV := NR_below hV hb9
  replace hxn := blk_below hxn hb9
  replace hxi := blk_below hxi hb9
  replace HB := below_then HB (below_size HB) hb9
  clear hb9
  have cn0 : w9.cell? ⟨gn, 0, none⟩ = some (.bool b) := (blk_cell hxn 0).trans rfl
  have cn1 : w9.cell? ⟨gn, 1, none⟩ = some (.slice B1 cs.length c1) := (blk_cell hxn 1).trans rfl
  have cn2 : w9.cell? ⟨gn, 2, none⟩ = some (.slice B2 ks.length c2) := (blk_cell hxn 2).trans rfl
  have cn3 : w9.cell? ⟨gn, 3, none⟩ = some (.slice B3 kids.length c3) := (blk_cell hxn 3).trans rfl
  have ci0 : w9.cell? ⟨gi, 0, none⟩ = some (.bool b) := (blk_cell hxi 0).trans rfl
  have ci1 : w9.cell? ⟨gi, 1, none⟩ = some (.slice A1 cs.length q1) := (blk_cell hxi 1).trans rfl
  have ci2 : w9.cell? ⟨gi, 2, none⟩ = some (.slice A2 ks.length q2) := (blk_cell hxi 2).trans rfl
  have ci3 : w9.cell? ⟨gi, 3, none⟩ = some (.slice A3 kids.length q3) := (blk_cell hxi 3).trans rfl
  refine hK.out _ _ (⟨cn0, cn1, cn2, cn3, ci0, ci1, ci2, ci3⟩) (fun hHeld => ?_)
  clear hK K
  refine norm_ (a' := ?_) ?_ ?_
  rotate_left
  · show Act.put _ (some 45) _ = _
    simp only [Act.put, List.setIfInBounds_toArray, List.set_cons_zero, List.set_cons_succ, i64_w, i32_w]
    rfl
  clear cn0 cn1 cn2 cn3 ci0 ci1 ci2 ci3
  refine pure_ (i := 21) (N := some 46) (v := ?_) (a' := ?_) #[true, true, true, true, true, true, true, true, true, true, true, true, true, true, true, true, true, true, true, true, true, true, false] rfl rfl (by kernel_rfl) (fun _ _ _ h => h) (Or.inl ⟨by rfl, ?_⟩) ?_ ?_
  rotate_left
  · intro w'
    go_simp
    with_reducible rfl
  rotate_left
  · simp only [Act.put, List.setIfInBounds_toArray, List.set_cons_zero, List.set_cons_succ, i64_w, i32_w]
    rfl
  refine pure_ (i := 22) (N := some 47) (v := ?_) (a' := ?_) #[true, true, true, true, true, true, true, true, true, true, true, true, true, true, true, true, true, true, true, true, true, true, true] rfl rfl (by kernel_rfl) (fun _ _ _ h => h) (Or.inl ⟨by rfl, ?_⟩) ?_ ?_
  rotate_left
  · intro w'
    go_simp
    with_reducible rfl
  rotate_left
  · simp only [Act.put, List.setIfInBounds_toArray, List.set_cons_zero, List.set_cons_succ, i64_w, i32_w]
    rfl
  refine done_ (by kernel_rfl) ?_
  clear hHeld
  have cn0 : w9.cell? ⟨gn, 0, none⟩ = some (.bool b) := (blk_cell hxn 0).trans rfl
  have cn1 : w9.cell? ⟨gn, 1, none⟩ = some (.slice B1 cs.length c1) := (blk_cell hxn 1).trans rfl
  have cn2 : w9.cell? ⟨gn, 2, none⟩ = some (.slice B2 ks.length c2) := (blk_cell hxn 2).trans rfl
  have cn3 : w9.cell? ⟨gn, 3, none⟩ = some (.slice B3 kids.length c3) := (blk_cell hxn 3).trans rfl
  have ci0 : w9.cell? ⟨gi, 0, none⟩ = some (.bool b) := (blk_cell hxi 0).trans rfl
  have ci1 : w9.cell? ⟨gi, 1, none⟩ = some (.slice A1 cs.length q1) := (blk_cell hxi 1).trans rfl
  have ci2 : w9.cell? ⟨gi, 2, none⟩ = some (.slice A2 ks.length q2) := (blk_cell hxi 2).trans rfl
  have ci3 : w9.cell? ⟨gi, 3, none⟩ = some (.slice A3 kids.length q3) := (blk_cell hxi 3).trans rfl
  go_wp2_with fail
  refine (overN w _ K b _ _ A1 q1 cs A2 q2 ks A3 q3 kids hV HB r1 r2 r3 ho).mono ?_
  rintro e_ w10 ⟨rfl, hV2, hW2, hk10⟩
  clear cn0 cn1 cn2 cn3 ci0 ci1 ci2 ci3
  have hs10 : w9.heap.size ≤ w10.heap.size := hk10.1
  replace hxn := (hk10.2 gn (blk_lt hxn) (fun q1 => by omega)).trans hxn
  replace hxi := (hk10.2 gi (blk_lt hxi) (fun q1 => by omega)).trans hxi
  replace HB := hW2
  clear hW2
  clear hk10
  clear hV hF
  have hV := hV2
  clear hV2
  have cn0 : w10.cell? ⟨gn, 0, none⟩ = some (.bool b) := (blk_cell hxn 0).trans rfl
  have cn1 : w10.cell? ⟨gn, 1, none⟩ = some (.slice B1 cs.length c1) := (blk_cell hxn 1).trans rfl
  have cn2 : w10.cell? ⟨gn, 2, none⟩ = some (.slice B2 ks.length c2) := (blk_cell hxn 2).trans rfl
  have cn3 : w10.cell? ⟨gn, 3, none⟩ = some (.slice B3 kids.length c3) := (blk_cell hxn 3).trans rfl
  have ci0 : w10.cell? ⟨gi, 0, none⟩ = some (.bool b) := (blk_cell hxi 0).trans rfl
  have ci1 : w10.cell? ⟨gi, 1, none⟩ = some (.slice A1 cs.length q1) := (blk_cell hxi 1).trans rfl
  have ci2 : w10.cell? ⟨gi, 2, none⟩ = some (.slice A2 ks.length q2) := (blk_cell hxi 2).trans rfl
  have ci3 : w10.cell? ⟨gi, 3, none⟩ = some (.slice A3 kids.length q3) := (blk_cell hxi 3).trans rfl
  go_wp2_with fail
  obtain ⟨gC, gL, -, -, -⟩ := NR_C hV
  have X := twinN _ b A1 q1 r1 A2 q2 r2 A3 q3 r3 gL.1 gL.2.1 gL.2.2 gC.1 gC.2.1 gC.2.2 hn' w.heap.size (below_size HB)
  rw [l1, l2, l3] at X
  refine (X).mono ?_
  rintro e_ w11 ⟨D1, d1, D2, d2, D3, d3, rfl, hT, hb11⟩
  clear cn0 cn1 cn2 cn3 ci0 ci1 ci2 ci3
  have hs11 : w10.heap.size ≤ w11.heap.size := hb11.size
  replace hV := NR_below hV hb11
  replace hxn := blk_below hxn hb11
  replace hxi := blk_below hxi hb11
  replace HB := below_then HB (below_size HB) hb11
  clear hb11
  clear X gC gL
  have hb12 : Below w11.heap.size w11 (w11.alloc (.cells #[.bool b, .slice D1 cs.length d1, .slice D2 ks.length d2, .slice D3 kids.length d3] 26)) := (Below.refl _ _).alloc (Nat.le_refl _) _
  have hs12 : w11.heap.size ≤ (w11.alloc (.cells #[.bool b, .slice D1 cs.length d1, .slice D2 ks.length d2, .slice D3 kids.length d3] 26)).heap.size := hb12.size
  replace hV := NR_below hV hb12
  replace hT := NR_below hT hb12
  replace hxn := blk_below hxn hb12
  replace hxi := blk_below hxi hb12
  replace HB := below_then HB (below_size HB) hb12
  clear hb12
  have hxt : (w11.alloc (.cells #[.bool b, .slice D1 cs.length d1, .slice D2 ks.length d2, .slice D3 kids.length d3] 26)).heap[w11.heap.size]? = some (.cells #[.bool b, .slice D1 cs.length d1, .slice D2 ks.length d2, .slice D3 kids.length d3] 26 (0, 0)) := blk_new w11 _
  have cn0 : (w11.alloc (.cells #[.bool b, .slice D1 cs.length d1, .slice D2 ks.length d2, .slice D3 kids.length d3] 26)).cell? ⟨gn, 0, none⟩ = some (.bool b) := (blk_cell hxn 0).trans rfl
  have cn1 : (w11.alloc (.cells #[.bool b, .slice D1 cs.length d1, .slice D2 ks.length d2, .slice D3 kids.length d3] 26)).cell? ⟨gn, 1, none⟩ = some (.slice B1 cs.length c1) := (blk_cell hxn 1).trans rfl
  have cn2 : (w11.alloc (.cells #[.bool b, .slice D1 cs.length d1, .slice D2 ks.length d2, .slice D3 kids.length d3] 26)).cell? ⟨gn, 2, none⟩ = some (.slice B2 ks.length c2) := (blk_cell hxn 2).trans rfl
  have cn3 : (w11.alloc (.cells #[.bool b, .slice D1 cs.length d1, .slice D2 ks.length d2, .slice D3 kids.length d3] 26)).cell? ⟨gn, 3, none⟩ = some (.slice B3 kids.length c3) := (blk_cell hxn 3).trans rfl
  have ci0 : (w11.alloc (.cells #[.bool b, .slice D1 cs.length d1, .slice D2 ks.length d2, .slice D3 kids.length d3] 26)).cell? ⟨gi, 0, none⟩ = some (.bool b) := (blk_cell hxi 0).trans rfl
  have ci1 : (w11.alloc (.cells #[.bool b, .slice D1 cs.length d1, .slice D2 ks.length d2, .slice D3 kids.length d3] 26)).cell? ⟨gi, 1, none⟩ = some (.slice A1 cs.length q1) := (blk_cell hxi 1).trans rfl
  have ci2 : (w11.alloc (.cells #[.bool b, .slice D1 cs.length d1, .slice D2 ks.length d2, .slice D3 kids.length d3] 26)).cell? ⟨gi, 2, none⟩ = some (.slice A2 ks.length q2) := (blk_cell hxi 2).trans rfl
  have ci3 : (w11.alloc (.cells #[.bool b, .slice D1 cs.length d1, .slice D2 ks.length d2, .slice D3 kids.length d3] 26)).cell? ⟨gi, 3, none⟩ = some (.slice A3 kids.length q3) := (blk_cell hxi 3).trans rfl
  have ct0 : (w11.alloc (.cells #[.bool b, .slice D1 cs.length d1, .slice D2 ks.length d2, .slice D3 kids.length d3] 26)).cell? ⟨w11.heap.size, 0, none⟩ = some (.bool b) := (blk_cell hxt 0).trans rfl
  have ct1 : (w11.alloc (.cells #[.bool b, .slice D1 cs.length d1, .slice D2 ks.length d2, .slice D3 kids.length d3] 26)).cell? ⟨w11.heap.size, 1, none⟩ = some (.slice D1 cs.length d1) := (blk_cell hxt 1).trans rfl
  have ct2 : (w11.alloc (.cells #[.bool b, .slice D1 cs.length d1, .slice D2 ks.length d2, .slice D3 kids.length d3] 26)).cell? ⟨w11.heap.size, 2, none⟩ = some (.slice D2 ks.length d2) := (blk_cell hxt 2).trans rfl
  have ct3 : (w11.alloc (.cells #[.bool b, .slice D1 cs.length d1, .slice D2 ks.length d2, .slice D3 kids.length d3] 26)).cell? ⟨w11.heap.size, 3, none⟩ = some (.slice D3 kids.length d3) := (blk_cell hxt 3).trans rfl
  go_wp2_with fail
  clear cn0 cn1 cn2 cn3 ci0 ci1 ci2 ci3 ct0 ct1 ct2 ct3
  have hlt := blk_lt hxt
  generalize (w11.alloc (.cells #[.bool b, .slice D1 cs.length d1, .slice D2 ks.length d2, .slice D3 kids.length d3] 26)) = w12 at *
  obtain ⟨gt, het⟩ : ∃ g, g = w11.heap.size := ⟨_, rfl⟩
  rw [← het] at hxt hlt ⊢
  have hget : w11.heap.size ≤ gt := Nat.le_of_eq het.symm
  clear het
  obtain ⟨gC, gL, -, -, -⟩ := NR_C hT
  have X := concordref08_Find.calls (2 * (r1.length + r2.length) + r3.length + 60) b D1 d1 r1 D2 d2 r2 D3 d3 r3 key i' t' _ gC.1 gL.1 gC.2.1 gL.2.1 gC.2.2 gL.2.2 (hFF'.symm ▸ rfind_f b r1 r2 r3 key hn' _ (Nat.le_refl _))
  rw [l1, l2, l3] at X
  refine (X).mono ?_
  rintro e_ w13 ⟨rfl, hb13⟩
  have hs13 : w12.heap.size ≤ w13.heap.size := hb13.size
  replace hV := NR_below hV hb13
  replace hT := NR_below hT hb13
  replace hxn := blk_below hxn hb13
  replace hxi := blk_below hxi hb13
  replace hxt := blk_below hxt hb13
  replace HB := below_then HB (below_size HB) hb13
  clear hb13
  clear X gC gL
  have cn0 : w13.cell? ⟨gn, 0, none⟩ = some (.bool b) := (blk_cell hxn 0).trans rfl
  have cn1 : w13.cell? ⟨gn, 1, none⟩ = some (.slice B1 cs.length c1) := (blk_cell hxn 1).trans rfl
  have cn2 : w13.cell? ⟨gn, 2, none⟩ = some (.slice B2 ks.length c2) := (blk_cell hxn 2).trans rfl
  have cn3 : w13.cell? ⟨gn, 3, none⟩ = some (.slice B3 kids.length c3) := (blk_cell hxn 3).trans rfl
  have ci0 : w13.cell? ⟨gi, 0, none⟩ = some (.bool b) := (blk_cell hxi 0).trans rfl
  have ci1 : w13.cell? ⟨gi, 1, none⟩ = some (.slice A1 cs.length q1) := (blk_cell hxi 1).trans rfl
  have ci2 : w13.cell? ⟨gi, 2, none⟩ = some (.slice A2 ks.length q2) := (blk_cell hxi 2).trans rfl
  have ci3 : w13.cell? ⟨gi, 3, none⟩ = some (.slice A3 kids.length q3) := (blk_cell hxi 3).trans rfl
  have ct0 : w13.cell? ⟨gt, 0, none⟩ = some (.bool b) := (blk_cell hxt 0).trans rfl
  have ct1 : w13.cell? ⟨gt, 1, none⟩ = some (.slice D1 cs.length d1) := (blk_cell hxt 1).trans rfl
  have ct2 : w13.cell? ⟨gt, 2, none⟩ = some (.slice D2 ks.length d2) := (blk_cell hxt 2).trans rfl
  have ct3 : w13.cell? ⟨gt, 3, none⟩ = some (.slice D3 kids.length d3) := (blk_cell hxt 3).trans rfl
  go_wp2_with fail
  obtain ⟨gC, gL, -, -, -⟩ := NR_C hV
  have X := node_Find.calls (2 * (r1.length + r2.length) + r3.length + 60) b A1 q1 r1 A2 q2 r2 A3 q3 r3 key i' t' _ gC.1 gL.1 gC.2.1 gL.2.1 gC.2.2 gL.2.2 (hFF'.symm ▸ nfind_f b r1 r2 r3 key hn' _ (Nat.le_refl _))
  rw [l1, l2, l3] at X
  refine (X).mono ?_
  rintro e_ w14 ⟨rfl, hb14⟩
  clear cn0 cn1 cn2 cn3 ci0 ci1 ci2 ci3 ct0 ct1 ct2 ct3
  have hs14 : w13.heap.size ≤ w14.heap.size := hb14.size
  replace hV := NR_below hV hb14
  replace hT := NR_below hT hb14
  replace hxn := blk_below hxn hb14
  replace hxi := blk_below hxi hb14
  replace hxt := blk_below hxt hb14
  replace HB := below_then HB (below_size HB) hb14
  clear hb14
  clear X gC gL
  have cn0 : w14.cell? ⟨gn, 0, none⟩ = some (.bool b) := (blk_cell hxn 0).trans rfl
  have cn1 : w14.cell? ⟨gn, 1, none⟩ = some (.slice B1 cs.length c1) := (blk_cell hxn 1).trans rfl
  have cn2 : w14.cell? ⟨gn, 2, none⟩ = some (.slice B2 ks.length c2) := (blk_cell hxn 2).trans rfl
  have cn3 : w14.cell? ⟨gn, 3, none⟩ = some (.slice B3 kids.length c3) := (blk_cell hxn 3).trans rfl
  have ci0 : w14.cell? ⟨gi, 0, none⟩ = some (.bool b) := (blk_cell hxi 0).trans rfl
  have ci1 : w14.cell? ⟨gi, 1, none⟩ = some (.slice A1 cs.length q1) := (blk_cell hxi 1).trans rfl
  have ci2 : w14.cell? ⟨gi, 2, none⟩ = some (.slice A2 ks.length q2) := (blk_cell hxi 2).trans rfl
  have ci3 : w14.cell? ⟨gi, 3, none⟩ = some (.slice A3 kids.length q3) := (blk_cell hxi 3).trans rfl
  have ct0 : w14.cell? ⟨gt, 0, none⟩ = some (.bool b) := (blk_cell hxt 0).trans rfl
  have ct1 : w14.cell? ⟨gt, 1, none⟩ = some (.slice D1 cs.length d1) := (blk_cell hxt 1).trans rfl
  have ct2 : w14.cell? ⟨gt, 2, none⟩ = some (.slice D2 ks.length d2) := (blk_cell hxt 2).trans rfl
  have ct3 : w14.cell? ⟨gt, 3, none⟩ = some (.slice D3 kids.length d3) := (blk_cell hxt 3).trans rfl
  go_wp2_with fail
  clear cn0 cn1 cn2 cn3 ci0 ci1 ci2 ci3 ct0 ct1 ct2 ct3
  have cn0 : w14.cell? ⟨gn, 0, none⟩ = some (.bool b) := (blk_cell hxn 0).trans rfl
  have cn1 : w14.cell? ⟨gn, 1, none⟩ = some (.slice B1 cs.length c1) := (blk_cell hxn 1).trans rfl
  have cn2 : w14.cell? ⟨gn, 2, none⟩ = some (.slice B2 ks.length c2) := (blk_cell hxn 2).trans rfl
  have cn3 : w14.cell? ⟨gn, 3, none⟩ = some (.slice B3 kids.length c3) := (blk_cell hxn 3).trans rfl
  have ci0 : w14.cell? ⟨gi, 0, none⟩ = some (.bool b) := (blk_cell hxi 0).trans rfl
  have ci1 : w14.cell? ⟨gi, 1, none⟩ = some (.slice A1 cs.length q1) := (blk_cell hxi 1).trans rfl
  have ci2 : w14.cell? ⟨gi, 2, none⟩ = some (.slice A2 ks.length q2) := (blk_cell hxi 2).trans rfl
  have ci3 : w14.cell? ⟨gi, 3, none⟩ = some (.slice A3 kids.length q3) := (blk_cell hxi 3).trans rfl
  have ct0 : w14.cell? ⟨gt, 0, none⟩ = some (.bool b) := (blk_cell hxt 0).trans rfl
  have ct1 : w14.cell? ⟨gt, 1, none⟩ = some (.slice D1 cs.length d1) := (blk_cell hxt 1).trans rfl
  have ct2 : w14.cell? ⟨gt, 2, none⟩ = some (.slice D2 ks.length d2) := (blk_cell hxt 2).trans rfl
  have ct3 : w14.cell? ⟨gt, 3, none⟩ = some (.slice D3 kids.length d3) := (blk_cell hxt 3).trans rfl
  refine start_ (n := 18) (S := fun w' => w'.cell? ⟨gn, 0, none⟩ = some (.bool b) ∧ w'.cell? ⟨gn, 1, none⟩ = some (.slice B1 cs.length c1) ∧ w'.cell? ⟨gn, 2, none⟩ = some (.slice B2 ks.length c2) ∧ w'.cell? ⟨gn, 3, none⟩ = some (.slice B3 kids.length c3) ∧ w'.cell? ⟨gi, 0, none⟩ = some (.bool b) ∧ w'.cell? ⟨gi, 1, none⟩ = some (.slice A1 cs.length q1) ∧ w'.cell? ⟨gi, 2, none⟩ = some (.slice A2 ks.length q2) ∧ w'.cell? ⟨gi, 3, none⟩ = some (.slice A3 kids.length q3) ∧ w'.cell? ⟨gt, 0, none⟩ = some (.bool b) ∧ w'.cell? ⟨gt, 1, none⟩ = some (.slice D1 cs.length d1) ∧ w'.cell? ⟨gt, 2, none⟩ = some (.slice D2 ks.length d2) ∧ w'.cell? ⟨gt, 3, none⟩ = some (.slice D3 kids.length d3)) (ds := []) #[false, false, false, false, false, false, false, false, false, false, false, false, false, false, false, false, false, false] (by kernel_rfl) rfl rfl (⟨cn0, cn1, cn2, cn3, ci0, ci1, ci2, ci3, ct0, ct1, ct2, ct3⟩) (fun hHeld => ?_)
  clear cn0 cn1 cn2 cn3 ci0 ci1 ci2 ci3 ct0 ct1 ct2 ct3
  have hb15 : Below w14.heap.size w14 w14.drew := below_drew (Below.refl _ _)
  have hs15 : w14.heap.size ≤ w14.drew.heap.size := hb15.size
  replace hV := NR_below hV hb15
  replace hT := NR_below hT hb15
  replace hxn := blk_below hxn hb15
  replace hxi := blk_below hxi hb15
  replace hxt := blk_below hxt hb15
  replace HB := below_then HB (below_size HB) hb15
  clear hb15
  generalize w14.drew = w15 at *
  refine pure_ (i := 0) (N := some 64) (v := ?_) (a' := ?_) #[true, false, false, false, false, false, false, false, false, false, false, false, false, false, false, false, false, false] rfl rfl (by kernel_rfl) (fun _ _ _ h => h) (Or.inl ⟨by rfl, ?_⟩) ?_ ?_
  rotate_left
  · intro w'
    go_simp
    with_reducible rfl
  rotate_left
  · simp only [Act.put, List.setIfInBounds_toArray, List.set_cons_zero, List.set_cons_succ, i64_w, i32_w]
    rfl
  refine pure_ (i := 1) (N := some 65) (v := ?_) (a' := ?_) #[true, true, false, false, false, false, false, false, false, false, false, false, false, false, false, false, false, false] rfl rfl (by kernel_rfl) (fun _ _ _ h => h) (Or.inl ⟨by rfl, ?_⟩) ?_ ?_
  rotate_left
  · intro w'
    go_simp
    with_reducible rfl
  rotate_left
  · simp only [Act.put, List.setIfInBounds_toArray, List.set_cons_zero, List.set_cons_succ, i64_w, i32_w]
    rfl
  refine pure_ (i := 2) (N := some 66) (v := ?_) (a' := ?_) #[true, true, true, false, false, false, false, false, false, false, false, false, false, false, false, false, false, false] rfl rfl (by kernel_rfl) (fun _ _ _ h => h) (Or.inl ⟨by rfl, ?_⟩) ?_ ?_
  rotate_left
  · intro w'
    go_simp
    with_reducible rfl
  rotate_left
  · simp only [Act.put, List.setIfInBounds_toArray, List.set_cons_zero, List.set_cons_succ, i64_w, i32_w]
    rfl
  refine pure_ (i := 3) (N := some 67) (v := ?_) (a' := ?_) #[true, true, true, true, false, false, false, false, false, false, false, false, false, false, false, false, false, false] rfl rfl (by kernel_rfl) (fun _ _ _ h => h) (Or.inl ⟨by rfl, ?_⟩) ?_ ?_
  rotate_left
  · intro w'
    go_simp
    with_reducible rfl
  rotate_left
  · simp only [Act.put, List.setIfInBounds_toArray, List.set_cons_zero, List.set_cons_succ, i64_w, i32_w]
    rfl
  refine pure_ (i := 4) (N := some 68) (v := ?_) (a' := ?_) #[true, true, true, true, true, false, false, false, false, false, false, false, false, false, false, false, false, false] rfl rfl (by kernel_rfl) (fun _ _ _ h => h) (Or.inl ⟨by rfl, ?_⟩) ?_ ?_
  rotate_left
  · intro w'
    go_simp
    with_reducible rfl
  rotate_left
  · simp only [Act.put, List.setIfInBounds_toArray, List.set_cons_zero, List.set_cons_succ, i64_w, i32_w]
    rfl
  refine pure_ (i := 5) (N := some 69) (v := ?_) (a' := ?_) #[true, true, true, true, true, true, false, false, false, false, false, false, false, false, false, false, false, false] rfl rfl (by kernel_rfl) (fun _ _ _ h => h) (Or.inl ⟨by rfl, ?_⟩) ?_ ?_
  rotate_left
  · intro w'
    go_simp
    with_reducible rfl
  rotate_left
  · simp only [Act.put, List.setIfInBounds_toArray, List.set_cons_zero, List.set_cons_succ, i64_w, i32_w]
    rfl
  refine pure_ (i := 6) (N := some 70) (v := ?_) (a' := ?_) #[true, true, true, true, true, true, true, false, false, false, false, false, false, false, false, false, false, false] rfl rfl (by kernel_rfl) (fun _ _ _ h => h) (Or.inl ⟨by rfl, ?_⟩) ?_ ?_
  rotate_left
  · intro w'
    go_simp
    with_reducible rfl
  rotate_left
  · simp only [Act.put, List.setIfInBounds_toArray, List.set_cons_zero, List.set_cons_succ, i64_w, i32_w]
    rfl
  refine pure_ (i := 7) (N := some 71) (v := ?_) (a' := ?_) #[true, true, true, true, true, true, true, true, false, false, false, false, false, false, false, false, false, false] rfl rfl (by kernel_rfl) (fun _ _ _ h => h) (Or.inl ⟨by rfl, ?_⟩) ?_ ?_
  rotate_left
  · intro w'
    go_simp
    with_reducible rfl
  rotate_left
  · simp only [Act.put, List.setIfInBounds_toArray, List.set_cons_zero, List.set_cons_succ, i64_w, i32_w]
    rfl
  refine pure_ (i := 8) (N := some 72) (v := ?_) (a' := ?_) #[true, true, true, true, true, true, true, true, true, false, false, false, false, false, false, false, false, false] rfl rfl (by kernel_rfl) (fun _ _ _ h => h) (Or.inl ⟨by rfl, ?_⟩) ?_ ?_
  rotate_left
  · intro w'
    go_simp
    with_reducible rfl
  rotate_left
  · simp only [Act.put, List.setIfInBounds_toArray, List.set_cons_zero, List.set_cons_succ, i64_w, i32_w]
    rfl
  refine take_ (i := 9) (N := some 73) (v := ?_) (a' := ?_) #[true, true, true, true, true, true, true, true, true, true, false, false, false, false, false, false, false, false] rfl rfl (by kernel_rfl) (fun _ _ _ h => h) (Or.inl ⟨by rfl, ?_⟩) hHeld ?_ ?_
  rotate_left
  · intro w' hS
    go_simp
    with_reducible rfl
  rotate_left
  · simp only [Act.put, List.setIfInBounds_toArray, List.set_cons_zero, List.set_cons_succ, i64_w, i32_w]
    rfl
  refine pure_ (i := 10) (N := some 74) (v := ?_) (a' := ?_) #[true, true, true, true, true, true, true, true, true, true, true, false, false, false, false, false, false, false] rfl rfl (by kernel_rfl) (fun _ _ _ h => h) (Or.inl ⟨by rfl, ?_⟩) ?_ ?_
  rotate_left
  · intro w'
    go_simp
    with_reducible rfl
  rotate_left
  · simp only [Act.put, List.setIfInBounds_toArray, List.set_cons_zero, List.set_cons_succ, i64_w, i32_w]
    rfl
  refine take_ (i := 12) (N := some 76) (v := ?_) (a' := ?_) #[true, true, true, true, true, true, true, true, true, true, true, false, true, false, false, false, false, false] rfl rfl (by kernel_rfl) (fun _ _ _ h => h) (Or.inl ⟨by rfl, ?_⟩) hHeld ?_ ?_
  rotate_left
  · intro w' hS
    go_simp
    with_reducible rfl
  rotate_left
  · simp only [Act.put, List.setIfInBounds_toArray, List.set_cons_zero, List.set_cons_succ, i64_w, i32_w]
    rfl
  refine pure_ (i := 13) (N := some 77) (v := ?_) (a' := ?_) #[true, true, true, true, true, true, true, true, true, true, true, false, true, true, false, false, false, false] rfl rfl (by kernel_rfl) (fun _ _ _ h => h) (Or.inl ⟨by rfl, ?_⟩) ?_ ?_
  rotate_left
  · intro w'
    go_simp
    with_reducible rfl
  rotate_left
  · simp only [Act.put, List.setIfInBounds_toArray, List.set_cons_zero, List.set_cons_succ, i64_w, i32_w]
    rfl
  refine one_ (i := 11) (N := some 75) #[true, true, true, true, true, true, true, true, true, true, true, true, true, true, false, false, false, false] rfl rfl (by kernel_rfl) (by decide) (fun K hK => ?_)
  obtain ⟨gC, gL, -, -, -⟩ := NR_C hV
  have X := node_Kid.calls  b A1 q1 r1 A2 q2 r2 A3 q3 r3 key D' _ gC.1 gL.1 gC.2.1 gL.2.1 gC.2.2 gL.2.2 (hDD'.symm ▸ nkid_f b r1 r2 r3 key (ndB_of' hn' hk'))
  rw [l1, l2, l3] at X
  refine goes_ Try.func18 (by kernel_rfl) rfl #[.agg #[.bool b, .slice A1 cs.length q1, .slice A2 ks.length q2, .slice A3 kids.length q3], .string key] (by rfl) rfl rfl (by (try simp only [List.map_toArray, List.map_cons, List.map_nil]); first | done | rfl) ?_
  refine (X).mono ?_
  rintro e_ w16 ⟨rfl, hb16⟩
  refine ⟨_, rfl, ?_⟩
  clear hHeld
  have hs16 : w15.heap.size ≤ w16.heap.size := hb16.size
  replace hV := NR_below hV hb16
  replace hT := NR_below hT hb16
  replace hxn := blk_below hxn hb16
  replace hxi := blk_below hxi hb16
  replace hxt := blk_below hxt hb16
  replace HB := below_then HB (below_size HB) hb16
  clear hb16
  clear X gC gL
  have cn0 : w16.cell? ⟨gn, 0, none⟩ = some (.bool b) := (blk_cell hxn 0).trans rfl
  have cn1 : w16.cell? ⟨gn, 1, none⟩ = some (.slice B1 cs.length c1) := (blk_cell hxn 1).trans rfl
  have cn2 : w16.cell? ⟨gn, 2, none⟩ = some (.slice B2 ks.length c2) := (blk_cell hxn 2).trans rfl
  have cn3 : w16.cell? ⟨gn, 3, none⟩ = some (.slice B3 kids.length c3) := (blk_cell hxn 3).trans rfl
  have ci0 : w16.cell? ⟨gi, 0, none⟩ = some (.bool b) := (blk_cell hxi 0).trans rfl
  have ci1 : w16.cell? ⟨gi, 1, none⟩ = some (.slice A1 cs.length q1) := (blk_cell hxi 1).trans rfl
  have ci2 : w16.cell? ⟨gi, 2, none⟩ = some (.slice A2 ks.length q2) := (blk_cell hxi 2).trans rfl
  have ci3 : w16.cell? ⟨gi, 3, none⟩ = some (.slice A3 kids.length q3) := (blk_cell hxi 3).trans rfl
  have ct0 : w16.cell? ⟨gt, 0, none⟩ = some (.bool b) := (blk_cell hxt 0).trans rfl
  have ct1 : w16.cell? ⟨gt, 1, none⟩ = some (.slice D1 cs.length d1) := (blk_cell hxt 1).trans rfl
  have ct2 : w16.cell? ⟨gt, 2, none⟩ = some (.slice D2 ks.length d2) := (blk_cell hxt 2).trans rfl
  have ct3 : w16.cell? ⟨gt, 3, none⟩ = some (.slice D3 kids.length d3) := (blk_cell hxt 3).trans rfl
  refine hK.out _ _ (⟨cn0, cn1, cn2, cn3, ci0, ci1, ci2, ci3, ct0, ct1, ct2, ct3⟩) (fun hHeld => ?_)
  clear hK K
  refine norm_ (a' := ?_) ?_ ?_
  rotate_left
  · show Act.put _ (some 75) _ = _
    simp only [Act.put, List.setIfInBounds_toArray, List.set_cons_zero, List.set_cons_succ, i64_w, i32_w]
    rfl
  clear cn0 cn1 cn2 cn3 ci0 ci1 ci2 ci3 ct0 ct1 ct2 ct3
  refine one_ (i := 14) (N := some 78) #[true, true, true, true, true, true, true, true, true, true, true, true, true, true, true, false, false, false] rfl rfl (by kernel_rfl) (by decide) (fun K hK => ?_)
  obtain ⟨gC, gL, -, -, -⟩ := NR_C hT
  have X := concordref08_Kid.calls (2 * (r1.length + r2.length) + r3.length + 60) b D1 d1 r1 D2 d2 r2 D3 d3 r3 key D' _ gC.1 gL.1 gC.2.1 gL.2.1 gC.2.2 gL.2.2 (hDD'.symm ▸ rkid_f b r1 r2 r3 key hn' _ (Nat.le_refl _))
  rw [l1, l2, l3] at X
  refine goes_ Try.func19 (by kernel_rfl) rfl #[.agg #[.bool b, .slice D1 cs.length d1, .slice D2 ks.length d2, .slice D3 kids.length d3], .string key] (by rfl) rfl rfl (by (try simp only [List.map_toArray, List.map_cons, List.map_nil]); first | done | rfl) ?_
  refine (X).mono ?_
  rintro e_ w17 ⟨rfl, hb17⟩
  refine ⟨_, rfl, ?_⟩
  clear hHeld
  have hs17 : w16.heap.size ≤ w17.heap.size := hb17.size
  replace hV := NR_below hV hb17
  replace hT := NR_below hT hb17
  replace hxn := blk_below hxn hb17
  replace hxi := blk_below hxi hb17
  replace hxt := blk_below hxt hb17
  replace HB := below_then HB (below_size HB) hb17
  clear hb17
  clear X gC gL
  have cn0 : w17.cell? ⟨gn, 0, none⟩ = some (.bool b) := (blk_cell hxn 0).trans rfl
  have cn1 : w17.cell? ⟨gn, 1, none⟩ = some (.slice B1 cs.length c1) := (blk_cell hxn 1).trans rfl
  have cn2 : w17.cell? ⟨gn, 2, none⟩ = some (.slice B2 ks.length c2) := (blk_cell hxn 2).trans rfl
  have cn3 : w17.cell? ⟨gn, 3, none⟩ = some (.slice B3 kids.length c3) := (blk_cell hxn 3).trans rfl
  have ci0 : w17.cell? ⟨gi, 0, none⟩ = some (.bool b) := (blk_cell hxi 0).trans rfl
  have ci1 : w17.cell? ⟨gi, 1, none⟩ = some (.slice A1 cs.length q1) := (blk_cell hxi 1).trans rfl
  have ci2 : w17.cell? ⟨gi, 2, none⟩ = some (.slice A2 ks.length q2) := (blk_cell hxi 2).trans rfl
  have ci3 : w17.cell? ⟨gi, 3, none⟩ = some (.slice A3 kids.length q3) := (blk_cell hxi 3).trans rfl
  have ct0 : w17.cell? ⟨gt, 0, none⟩ = some (.bool b) := (blk_cell hxt 0).trans rfl
  have ct1 : w17.cell? ⟨gt, 1, none⟩ = some (.slice D1 cs.length d1) := (blk_cell hxt 1).trans rfl
  have ct2 : w17.cell? ⟨gt, 2, none⟩ = some (.slice D2 ks.length d2) := (blk_cell hxt 2).trans rfl
  have ct3 : w17.cell? ⟨gt, 3, none⟩ = some (.slice D3 kids.length d3) := (blk_cell hxt 3).trans rfl
  refine hK.out _ _ (⟨cn0, cn1, cn2, cn3, ci0, ci1, ci2, ci3, ct0, ct1, ct2, ct3⟩) (fun hHeld => ?_)
  clear hK K
  refine norm_ (a' := ?_) ?_ ?_
  rotate_left
  · show Act.put _ (some 78) _ = _
    simp only [Act.put, List.setIfInBounds_toArray, List.set_cons_zero, List.set_cons_succ, i64_w, i32_w]
    rfl
  clear cn0 cn1 cn2 cn3 ci0 ci1 ci2 ci3 ct0 ct1 ct2 ct3
  refine pure_ (i := 15) (N := some 79) (v := ?_) (a' := ?_) #[true, true, true, true, true, true, true, true, true, true, true, true, true, true, true, true, false, false] rfl rfl (by kernel_rfl) (fun _ _ _ h => h) (Or.inl ⟨by rfl, ?_⟩) ?_ ?_
  rotate_left
  · intro w'
    go_simp
    with_reducible rfl
  rotate_left
  · simp only [Act.put, List.setIfInBounds_toArray, List.set_cons_zero, List.set_cons_succ, i64_w, i32_w]
    rfl
  refine pure_ (i := 16) (N := some 80) (v := ?_) (a' := ?_) #[true, true, true, true, true, true, true, true, true, true, true, true, true, true, true, true, true, false] rfl rfl (by kernel_rfl) (fun _ _ _ h => h) (Or.inl ⟨by rfl, ?_⟩) ?_ ?_
  rotate_left
  · intro w'
    go_simp
    with_reducible rfl
  rotate_left
  · simp only [Act.put, List.setIfInBounds_toArray, List.set_cons_zero, List.set_cons_succ, i64_w, i32_w]
    rfl
  refine pure_ (i := 17) (N := some 4) (v := ?_) (a' := ?_) #[true, true, true, true, true, true, true, true, true, true, true, true, true, true, true, true, true, true] rfl rfl (by kernel_rfl) (fun _ _ _ h => h) (Or.inl ⟨by rfl, ?_⟩) ?_ ?_
  rotate_left
  · intro w'
    go_simp
    with_reducible rfl
  rotate_left
  · simp only [Act.put, List.setIfInBounds_toArray, List.set_cons_zero, List.set_cons_succ, i64_w, i32_w]
    rfl
  refine done_ (by kernel_rfl) ?_
  clear hHeld
  have cn0 : w17.cell? ⟨gn, 0, none⟩ = some (.bool b) := (blk_cell hxn 0).trans rfl
  have cn1 : w17.cell? ⟨gn, 1, none⟩ = some (.slice B1 cs.length c1) := (blk_cell hxn 1).trans rfl
  have cn2 : w17.cell? ⟨gn, 2, none⟩ = some (.slice B2 ks.length c2) := (blk_cell hxn 2).trans rfl
  have cn3 : w17.cell? ⟨gn, 3, none⟩ = some (.slice B3 kids.length c3) := (blk_cell hxn 3).trans rfl
  have ci0 : w17.cell? ⟨gi, 0, none⟩ = some (.bool b) := (blk_cell hxi 0).trans rfl
  have ci1 : w17.cell? ⟨gi, 1, none⟩ = some (.slice A1 cs.length q1) := (blk_cell hxi 1).trans rfl
  have ci2 : w17.cell? ⟨gi, 2, none⟩ = some (.slice A2 ks.length q2) := (blk_cell hxi 2).trans rfl
  have ci3 : w17.cell? ⟨gi, 3, none⟩ = some (.slice A3 kids.length q3) := (blk_cell hxi 3).trans rfl
  have ct0 : w17.cell? ⟨gt, 0, none⟩ = some (.bool b) := (blk_cell hxt 0).trans rfl
  have ct1 : w17.cell? ⟨gt, 1, none⟩ = some (.slice D1 cs.length d1) := (blk_cell hxt 1).trans rfl
  have ct2 : w17.cell? ⟨gt, 2, none⟩ = some (.slice D2 ks.length d2) := (blk_cell hxt 2).trans rfl
  have ct3 : w17.cell? ⟨gt, 3, none⟩ = some (.slice D3 kids.length d3) := (blk_cell hxt 3).trans rfl
  go_wp2_with fail
  go_ret
  exact ⟨rfl, HB⟩
theorem NodeFinds_walk (w : World) (b : Bool) (A1 : Option Addr) (c1 : Nat) (cs : List S66) (A2 : Option Addr) (c2 : Nat) (ks : List ByteArray) (A3 : Option Addr) (c3 : Nat) (kids : List Int) (hc1 : cs.length ≤ c1) (hc2 : ks.length ≤ c2) (hc3 : kids.length ≤ c3) (h1 : Kd.C k66 w A1 cs.length cs) (h2 : Kd.C Kd.string w A2 ks.length ks) (h3 : Kd.C (Kd.int .u32) w A3 kids.length kids) (hk : ∀ x ∈ kids, 0 ≤ x ∧ x < 4294967296) (hn : NdOk cs ks kids ∧ NdRoom cs ks kids) (key : ByteArray) (hs : key.size ≤ 140737488351232) :
    Calls Try.prog 3 #[.agg #[.bool b, .slice A1 cs.length c1, .slice A2 ks.length c2, .slice A3 kids.length c3], .string key] w fun e w' => e = .returned (.bool true) ∧ Below w.heap.size w w' := by
  obtain ⟨t1, t2, t3, hl, e1, e2, e3⟩ := lent2_f b cs ks kids hn.1 hn.2
  obtain ⟨r1, r2, r3, ho, l1, l2, l3, hn', hk'⟩ := over_f b cs ks kids hn.1 hk _ (Nat.le_refl _)
  exact finds_go w b A1 c1 cs A2 c2 ks A3 c3 kids hc1 hc2 hc3 h1 h2 h3 hk hn.1 key t1 t2 t3 hl e1 e2 e3 r1 r2 r3 _ ho l1 l2 l3 hn' hk' _ rfl _ rfl _ rfl _ rfl
end Go.Proofs.Ytdjjpgdhnoibkaa.My
