/- DiskTorn. -/
import Derived.Test.YtjaalegkmldaeaaDkX
namespace Go.Proofs.Ytjaalegkmldaeaa.My
open Go.RowKit Go.Proofs.YtjaalegkmldaeaaW.PrintWords Go.Proofs.YtjaalegkmldaeaaW.PrintLast Go.Proofs.YtjaalegkmldaeaaW.PrintMore Go.Proofs.Ytjaalegkmldaeaa Go.Maps Go.Proofs.Ytjaalegkmldaeaa.PA
set_option linter.unusedSimpArgs false
set_option linter.unusedVariables false
set_option maxRecDepth 100000
set_option maxHeartbeats 1600000
def d1 (l : List ByteArray) (p : List (Nat × ByteArray)) : Dk := ⟨l, p, false, -1⟩
theorem t_1 (x a : ByteArray) (ha : a.size = 1024) : writeV (d1 [x] []) 0 a = (d1 [x] [(0, a)], 0) := by
  unfold writeV
  rw [if_neg (show ¬ (readyV (d1 [x] []) 0 ≠ 0) by unfold readyV d1; simp), if_neg (by rw [ha]; decide)]
  rfl
theorem t_2 (x a : ByteArray) : syncV (d1 [x] [(0, a)]) = (d1 [a] [], 0) := by
  unfold syncV
  rw [if_neg (show ¬ (readyV (d1 [x] [(0, a)]) 0 ≠ 0) by unfold readyV d1; simp)]
  rfl
theorem t_3 (a b : ByteArray) (keep : Bool) (cut : Int) : crashV (d1 [a] [(0, b)]) [keep] 0 cut = d1 [over (8 * min (max cut 0) 128).toNat b a] [] := rfl
theorem over_zero (b a : ByteArray) : over 0 b a = a := by
  unfold over; simp
theorem C_bool1 (w : World) (b : Bool) : Kd.C Kd.bool (w.alloc (.cells #[.bool b] 4)) (some ⟨w.heap.size, 0, none⟩) 1 [b] := by
  refine ⟨rfl, by decide, fun _ => ⟨_, rfl, fun j p hj => ?_⟩⟩
  cases j with
  | succ j => cases hj
  | zero =>
    obtain rfl := Option.some.inj hj
    refine ⟨[.bool b], rfl, rfl, fun i u hu => ?_⟩
    cases i with
    | succ i => cases hu
    | zero =>
      obtain rfl := Option.some.inj hu
      exact (blk_cell (blk_new w _) 0).trans rfl
theorem str_to {P : Program} (w : World) (t : TypeId) (s : ByteArray) (n : Nat) (hu : P.underlying t = some .string) (hn : n ≤ s.size) : (Instr.slice t (.string s) none (some (.int .i64 (n : Int))) none).run P w = .ok (.string (s.extract 0 n)) w := by
  simp [Instr.slice, Instr.sliceBounds, Instr.sliceBound, Sem.run_bind, run_underlying hu, asIntOf, hn]
theorem str_from {P : Program} (w : World) (t : TypeId) (s : ByteArray) (n : Nat) (hu : P.underlying t = some .string) (hn : n ≤ s.size) : (Instr.slice t (.string s) (some (.int .i64 (n : Int))) none none).run P w = .ok (.string (s.extract n s.size)) w := by
  simp [Instr.slice, Instr.sliceBounds, Instr.sliceBound, Sem.run_bind, run_underlying hu, asIntOf, hn]
theorem DiskTorn_walk (w : World) (old : ByteArray) (ho : old.size ≤ 140737488351232) (new : ByteArray) (hn : new.size ≤ 140737488351232) (cut : Int) (hc : (Lit.int .i64 cut).wf = true) (keep : Bool) :
    Calls Try.prog 3 #[.string old, .string new, .int .i64 cut, .bool keep] w fun e w' => e = .returned (.bool true) ∧ Below w.heap.size w w' := by
  obtain ⟨a1, a2, _⟩ := content_f 0 0 old (by omega) false [] 0 0
  obtain ⟨b1, b2, _⟩ := content_f 0 0 new (by omega) false [] 0 0
  have HA := Aside0.mk (And.intro a1 (a2 rfl))
  have HB' := Aside0.mk (And.intro b1 (b2 rfl))
  clear a1 a2 b1 b2
  go_enter Try.func3, Try.ntmps3
  go_wp2_with fail
  refine (wakes_calls w).mono ?_
  rintro e_ w1 ⟨rfl, hb⟩
  go_wp2_with fail
  refine (stands_new w w1 hb 1 (by decide)).mono ?_
  rintro e_ w2 ⟨g, rfl, hS⟩
  have H := Aside0.mk (show Stands w w2 g (d1 [blank] []) from hS)
  clear hS hb
  go_wp2_with fail
  refine (concordlaw04_content.calls 1100 0 0 old false none 0 [] 0 0 (contV old false) _ (Kd.C_nil _ _) (Nat.le_refl _) HA.out.1).mono ?_
  rintro e_ w3 ⟨rfl, hb⟩
  replace H := Aside0.mk (H.out.below hb)
  clear hb
  go_wp2_with fail
  refine (concordlaw04_content.calls 1100 0 0 new false none 0 [] 0 0 (contV new false) _ (Kd.C_nil _ _) (Nat.le_refl _) HB'.out.1).mono ?_
  rintro e_ w4 ⟨rfl, hb⟩
  replace H := Aside0.mk (H.out.below hb)
  replace HA := Aside0.mk HA.out.2
  replace HB' := Aside0.mk HB'.out.2
  clear hb
  generalize contV old false = a at *
  generalize contV new false = b at *
  obtain ⟨hcv, hC, hlt, hb⟩ := bytes_at w4 a (by rw [HA.out]; decide)
  have HC := Aside0.mk (And.intro hC (And.intro hlt hb))
  clear hC hlt hb
  go_wp2_with fail
  have hw := stands_write H.out HC.out.2.2 0 ⟨w4.heap.size, 0, none⟩ (grownCap w4 a.size 0 5) a (Nat.le_refl _) HC.out.2.1 HC.out.1 (by show 0 < 2199023255552; decide)
  rw [t_1 _ a HA.out] at hw
  refine hw.mono ?_
  rintro e_ w5 ⟨rfl, hS⟩
  replace H := Aside0.mk hS
  clear hS hw HC hcv
  go_wp2_with fail
  have hw := stands_sync H.out
  rw [t_2] at hw
  refine hw.mono ?_
  rintro e_ w6 ⟨rfl, hS⟩
  replace H := Aside0.mk hS
  clear hS hw
  obtain ⟨hcv, hC, hlt, hb⟩ := bytes_at w6 b (by rw [HB'.out]; decide)
  have HC := Aside0.mk (And.intro hC (And.intro hlt hb))
  clear hC hlt hb
  go_wp2_with fail
  have hw := stands_write H.out HC.out.2.2 0 ⟨w6.heap.size, 0, none⟩ (grownCap w6 b.size 0 5) b (Nat.le_refl _) HC.out.2.1 HC.out.1 (by show 0 < 2199023255552; decide)
  rw [t_1 _ b HB'.out] at hw
  refine hw.mono ?_
  rintro e_ w7 ⟨rfl, hS⟩
  replace H := Aside0.mk hS
  clear hS hw HC hcv
  go_wp2_with fail
  have hw := stands_crash (w2 := w7.alloc (.cells #[.bool keep] 4)) H.out ((Below.refl _ _).alloc (Nat.le_refl _) _) (some ⟨w7.heap.size, 0, none⟩) 1 [keep] 0 cut (C_bool1 w7 keep) (Nat.le_refl _) (fun ad had => by
    obtain rfl := Option.some.inj had
    exact ⟨blk_lt (blk_new w7 _), .inr (Nat.le_refl _)⟩)
  rw [t_3] at hw
  refine hw.mono ?_
  rintro e_ w8 ⟨rfl, hS⟩
  replace H := Aside0.mk hS
  clear hS hw
  have hcl : -9223372036854775808 ≤ cut ∧ cut ≤ 9223372036854775807 := by
    simp [Lit.wf, IntKind.min, IntKind.max, IntKind.signed, IntKind.bits] at hc
    omega
  obtain ⟨nn, hnn⟩ : ∃ k, k = (8 * min (max cut 0) 128).toNat := ⟨_, rfl⟩
  rw [← hnn] at H
  have HN := Aside0.mk (show nn ≤ 1024 by omega)
  have hs1 := fun W => str_to (P := Try.prog) W 9 b nn Try.underlying9 (by rw [HB'.out]; exact HN.out)
  have hs2 := fun W => str_from (P := Try.prog) W 9 a nn Try.underlying9 (by rw [HA.out]; exact HN.out)
  have HS1 := Aside0.mk hs1
  have HS2 := Aside0.mk hs2
  clear hs1 hs2
  by_cases h1 : cut > 0
  · have d1_ : decide (cut > 0) = true := decide_eq_true h1
    by_cases h2 : cut < 128
    · have d2_ : decide (cut < 128) = true := decide_eq_true h2
      have hm : wrap64 (8 * cut) = (nn : Int) := by unfold wrap64; omega
      clear h1 h2 hnn hcl hc
      go_wp2_with fail
      refine (stands_durable H.out).mono ?_
      rintro e_ w9 ⟨v, rfl, hr, hb⟩
      obtain ⟨Ad, cd, rfl⟩ := Kd.R_slice hr
      have hrr := (Kd.R_reads' hr).2.2
      have hl2 : (d1 [over nn b a] []).lies.length = 1 := rfl
      rw [hl2] at hrr ⊢
      obtain ⟨gl, rfl⟩ := R_base0 hr (by show 0 < 1; decide)
      obtain ⟨ad, hAd, hx0⟩ := Kd.at_string hrr 0 (by decide) (by decide)
      obtain rfl := Option.some.inj hAd
      have hx : w9.cell? ⟨gl, 0, none⟩ = some (.string (over nn b a)) := hx0
      have HB := Aside0.mk (below_then H.out.low (below_size H.out.low) hb)
      clear hr hb hrr hl2 hx0 hAd
      go_wp2_with fail
      have hs1 : ∀ W : World, (Instr.slice 9 (.string b) none (some (.int .i64 (nn : Int))) none).run Try.prog W = .ok (.string (b.extract 0 nn)) W := HS1.out
      have hs2 : ∀ W : World, (Instr.slice 9 (.string a) (some (.int .i64 (nn : Int))) none none).run Try.prog W = .ok (.string (a.extract nn a.size)) W := HS2.out
      have hcat_ : ¬ (9223372036854775807 < min nn b.size + (a.size - nn)) := by rw [HA.out, HB'.out]; have := HN.out; omega
      refine start_ (n := 17) (S := fun w' => w'.cell? ⟨gl, 0, none⟩ = some (.string (over nn b a))) (ds := []) #[false, false, false, false, false, false, false, false, false, false, false, false, false, false, false, false, false] (by kernel_rfl) rfl rfl (hx) (fun hHeld => ?_)
      refine pure_ (i := 0) (N := some 62) (v := ?_) (a' := ?_) #[true, false, false, false, false, false, false, false, false, false, false, false, false, false, false, false, false] rfl rfl (by kernel_rfl) (fun _ _ _ h => h) (Or.inl ⟨by rfl, ?_⟩) ?_ ?_
      rotate_left
      · intro w'
        go_simp
        with_reducible rfl
      rotate_left
      · simp only [Act.put, List.setIfInBounds_toArray, List.set_cons_zero, List.set_cons_succ, i64_w, i32_w]
        rfl
      refine pure_ (i := 1) (N := some 63) (v := ?_) (a' := ?_) #[true, true, false, false, false, false, false, false, false, false, false, false, false, false, false, false, false] rfl rfl (by kernel_rfl) (fun _ _ _ h => h) (Or.inl ⟨by rfl, ?_⟩) ?_ ?_
      rotate_left
      · intro w'
        go_simp
        with_reducible rfl
      rotate_left
      · simp only [Act.put, List.setIfInBounds_toArray, List.set_cons_zero, List.set_cons_succ, i64_w, i32_w]
        rfl
      refine pure_ (i := 2) (N := some 64) (v := ?_) (a' := ?_) #[true, true, true, false, false, false, false, false, false, false, false, false, false, false, false, false, false] rfl rfl (by kernel_rfl) (fun _ _ _ h => h) (Or.inl ⟨by rfl, ?_⟩) ?_ ?_
      rotate_left
      · intro w'
        go_simp
        with_reducible rfl
      rotate_left
      · simp only [Act.put, List.setIfInBounds_toArray, List.set_cons_zero, List.set_cons_succ, i64_w, i32_w]
        rfl
      refine pure_ (i := 3) (N := some 65) (v := ?_) (a' := ?_) #[true, true, true, true, false, false, false, false, false, false, false, false, false, false, false, false, false] rfl rfl (by kernel_rfl) (fun _ _ _ h => h) (Or.inl ⟨by rfl, ?_⟩) ?_ ?_
      rotate_left
      · intro w'
        go_simp
        with_reducible rfl
      rotate_left
      · simp only [Act.put, List.setIfInBounds_toArray, List.set_cons_zero, List.set_cons_succ, i64_w, i32_w]
        rfl
      refine pure_ (i := 4) (N := some 66) (v := ?_) (a' := ?_) #[true, true, true, true, true, false, false, false, false, false, false, false, false, false, false, false, false] rfl rfl (by kernel_rfl) (fun _ _ _ h => h) (Or.inl ⟨by rfl, ?_⟩) ?_ ?_
      rotate_left
      · intro w'
        go_simp
        with_reducible rfl
      rotate_left
      · simp only [Act.put, List.setIfInBounds_toArray, List.set_cons_zero, List.set_cons_succ, i64_w, i32_w]
        rfl
      refine pure_ (i := 5) (N := some 67) (v := ?_) (a' := ?_) #[true, true, true, true, true, true, false, false, false, false, false, false, false, false, false, false, false] rfl rfl (by kernel_rfl) (fun _ _ _ h => h) (Or.inl ⟨by rfl, ?_⟩) ?_ ?_
      rotate_left
      · intro w'
        go_simp
        with_reducible rfl
      rotate_left
      · simp only [Act.put, List.setIfInBounds_toArray, List.set_cons_zero, List.set_cons_succ, i64_w, i32_w]
        rfl
      refine take_ (i := 6) (N := some 68) (v := ?_) (a' := ?_) #[true, true, true, true, true, true, true, false, false, false, false, false, false, false, false, false, false] rfl rfl (by kernel_rfl) (fun _ _ _ h => h) (Or.inl ⟨by rfl, ?_⟩) hHeld ?_ ?_
      rotate_left
      · intro w' hS
        go_simp
        with_reducible rfl
      rotate_left
      · simp only [Act.put, List.setIfInBounds_toArray, List.set_cons_zero, List.set_cons_succ, i64_w, i32_w]
        rfl
      refine pure_ (i := 7) (N := some 69) (v := ?_) (a' := ?_) #[true, true, true, true, true, true, true, true, false, false, false, false, false, false, false, false, false] rfl rfl (by kernel_rfl) (fun _ _ _ h => h) (Or.inl ⟨by rfl, ?_⟩) ?_ ?_
      rotate_left
      · intro w'
        go_simp
        with_reducible rfl
      rotate_left
      · simp only [Act.put, List.setIfInBounds_toArray, List.set_cons_zero, List.set_cons_succ, i64_w, i32_w]
        rfl
      refine pure_ (i := 8) (N := some 70) (v := ?_) (a' := ?_) #[true, true, true, true, true, true, true, true, true, false, false, false, false, false, false, false, false] rfl rfl (by kernel_rfl) (fun _ _ _ h => h) (Or.inl ⟨by rfl, ?_⟩) ?_ ?_
      rotate_left
      · intro w'
        go_simp
        with_reducible rfl
      rotate_left
      · simp only [Act.put, List.setIfInBounds_toArray, List.set_cons_zero, List.set_cons_succ, i64_w, i32_w]
        rfl
      refine pure_ (i := 9) (N := some 71) (v := ?_) (a' := ?_) #[true, true, true, true, true, true, true, true, true, true, false, false, false, false, false, false, false] rfl rfl (by kernel_rfl) (fun _ _ _ h => h) (Or.inl ⟨by rfl, ?_⟩) ?_ ?_
      rotate_left
      · intro w'
        go_simp
        with_reducible rfl
      rotate_left
      · simp only [Act.put, List.setIfInBounds_toArray, List.set_cons_zero, List.set_cons_succ, i64_w, i32_w]
        rfl
      refine pure_ (i := 10) (N := some 72) (v := ?_) (a' := ?_) #[true, true, true, true, true, true, true, true, true, true, true, false, false, false, false, false, false] rfl rfl (by kernel_rfl) (fun _ _ _ h => h) (Or.inl ⟨by rfl, ?_⟩) ?_ ?_
      rotate_left
      · intro w'
        go_simp
        with_reducible rfl
      rotate_left
      · simp only [Act.put, List.setIfInBounds_toArray, List.set_cons_zero, List.set_cons_succ, i64_w, i32_w]
        rfl
      refine pure_ (i := 11) (N := some 73) (v := ?_) (a' := ?_) #[true, true, true, true, true, true, true, true, true, true, true, true, false, false, false, false, false] rfl rfl (by kernel_rfl) (fun _ _ _ h => h) (Or.inl ⟨by rfl, ?_⟩) ?_ ?_
      rotate_left
      · intro w'
        go_simp
        with_reducible rfl
      rotate_left
      · simp only [Act.put, List.setIfInBounds_toArray, List.set_cons_zero, List.set_cons_succ, i64_w, i32_w]
        rfl
      refine pure_ (i := 12) (N := some 74) (v := ?_) (a' := ?_) #[true, true, true, true, true, true, true, true, true, true, true, true, true, false, false, false, false] rfl rfl (by kernel_rfl) (fun _ _ _ h => h) (Or.inl ⟨by rfl, ?_⟩) ?_ ?_
      rotate_left
      · intro w'
        go_simp
        with_reducible rfl
      rotate_left
      · simp only [Act.put, List.setIfInBounds_toArray, List.set_cons_zero, List.set_cons_succ, i64_w, i32_w]
        rfl
      refine pure_ (i := 13) (N := some 75) (v := ?_) (a' := ?_) #[true, true, true, true, true, true, true, true, true, true, true, true, true, true, false, false, false] rfl rfl (by kernel_rfl) (fun _ _ _ h => h) (Or.inl ⟨by rfl, ?_⟩) ?_ ?_
      rotate_left
      · intro w'
        go_simp
        with_reducible rfl
      rotate_left
      · simp only [Act.put, List.setIfInBounds_toArray, List.set_cons_zero, List.set_cons_succ, i64_w, i32_w]
        rfl
      refine pure_ (i := 14) (N := some 76) (v := ?_) (a' := ?_) #[true, true, true, true, true, true, true, true, true, true, true, true, true, true, true, false, false] rfl rfl (by kernel_rfl) (fun _ _ _ h => h) (Or.inl ⟨by rfl, ?_⟩) ?_ ?_
      rotate_left
      · intro w'
        go_simp
        with_reducible rfl
      rotate_left
      · simp only [Act.put, List.setIfInBounds_toArray, List.set_cons_zero, List.set_cons_succ, i64_w, i32_w]
        rfl
      refine pure_ (i := 15) (N := some 77) (v := ?_) (a' := ?_) #[true, true, true, true, true, true, true, true, true, true, true, true, true, true, true, true, false] rfl rfl (by kernel_rfl) (fun _ _ _ h => h) (Or.inl ⟨by rfl, ?_⟩) ?_ ?_
      rotate_left
      · intro w'
        go_simp
        with_reducible rfl
      rotate_left
      · simp only [Act.put, List.setIfInBounds_toArray, List.set_cons_zero, List.set_cons_succ, i64_w, i32_w]
        rfl
      refine pure_ (i := 16) (N := some 8) (v := ?_) (a' := ?_) #[true, true, true, true, true, true, true, true, true, true, true, true, true, true, true, true, true] rfl rfl (by kernel_rfl) (fun _ _ _ h => h) (Or.inl ⟨by rfl, ?_⟩) ?_ ?_
      rotate_left
      · intro w'
        go_simp
        with_reducible rfl
      rotate_left
      · simp only [Act.put, List.setIfInBounds_toArray, List.set_cons_zero, List.set_cons_succ, i64_w, i32_w]
        rfl
      refine done_ (by kernel_rfl) ?_
      try clear hHeld
      try go_wp2
      go_ret
      refine ⟨?_, HB.out.drew⟩
      show Ending.returned (Value.bool (_ == _)) = _
      unfold over
      rw [beq_self_eq_true]
    · have d2_ : decide (cut < 128) = false := decide_eq_false h2
      obtain rfl : nn = 1024 := by omega
      clear h1 h2 hnn hcl hc
      go_wp2_with fail
      refine (stands_durable H.out).mono ?_
      rintro e_ w9 ⟨v, rfl, hr, hb⟩
      obtain ⟨Ad, cd, rfl⟩ := Kd.R_slice hr
      have hrr := (Kd.R_reads' hr).2.2
      have hl2 : (d1 [over 1024 b a] []).lies.length = 1 := rfl
      rw [hl2] at hrr ⊢
      obtain ⟨gl, rfl⟩ := R_base0 hr (by show 0 < 1; decide)
      obtain ⟨ad, hAd, hx0⟩ := Kd.at_string hrr 0 (by decide) (by decide)
      obtain rfl := Option.some.inj hAd
      have hx : w9.cell? ⟨gl, 0, none⟩ = some (.string (over 1024 b a)) := hx0
      have HB := Aside0.mk (below_then H.out.low (below_size H.out.low) hb)
      clear hr hb hrr hl2 hx0 hAd
      go_wp2_with fail
      have hs1 : ∀ W : World, (Instr.slice 9 (.string b) none (some (.int .i64 1024)) none).run Try.prog W = .ok (.string (b.extract 0 1024)) W := HS1.out
      have hs2 : ∀ W : World, (Instr.slice 9 (.string a) (some (.int .i64 1024)) none none).run Try.prog W = .ok (.string (a.extract 1024 a.size)) W := HS2.out
      have hcat_ : ¬ (9223372036854775807 < min 1024 b.size + (a.size - 1024)) := by rw [HA.out, HB'.out]; decide
      refine start_ (n := 17) (S := fun w' => w'.cell? ⟨gl, 0, none⟩ = some (.string (over 1024 b a))) (ds := []) #[false, false, false, false, false, false, false, false, false, false, false, false, false, false, false, false, false] (by kernel_rfl) rfl rfl (hx) (fun hHeld => ?_)
      refine pure_ (i := 0) (N := some 62) (v := ?_) (a' := ?_) #[true, false, false, false, false, false, false, false, false, false, false, false, false, false, false, false, false] rfl rfl (by kernel_rfl) (fun _ _ _ h => h) (Or.inl ⟨by rfl, ?_⟩) ?_ ?_
      rotate_left
      · intro w'
        go_simp
        with_reducible rfl
      rotate_left
      · simp only [Act.put, List.setIfInBounds_toArray, List.set_cons_zero, List.set_cons_succ, i64_w, i32_w]
        rfl
      refine pure_ (i := 1) (N := some 63) (v := ?_) (a' := ?_) #[true, true, false, false, false, false, false, false, false, false, false, false, false, false, false, false, false] rfl rfl (by kernel_rfl) (fun _ _ _ h => h) (Or.inl ⟨by rfl, ?_⟩) ?_ ?_
      rotate_left
      · intro w'
        go_simp
        with_reducible rfl
      rotate_left
      · simp only [Act.put, List.setIfInBounds_toArray, List.set_cons_zero, List.set_cons_succ, i64_w, i32_w]
        rfl
      refine pure_ (i := 2) (N := some 64) (v := ?_) (a' := ?_) #[true, true, true, false, false, false, false, false, false, false, false, false, false, false, false, false, false] rfl rfl (by kernel_rfl) (fun _ _ _ h => h) (Or.inl ⟨by rfl, ?_⟩) ?_ ?_
      rotate_left
      · intro w'
        go_simp
        with_reducible rfl
      rotate_left
      · simp only [Act.put, List.setIfInBounds_toArray, List.set_cons_zero, List.set_cons_succ, i64_w, i32_w]
        rfl
      refine pure_ (i := 3) (N := some 65) (v := ?_) (a' := ?_) #[true, true, true, true, false, false, false, false, false, false, false, false, false, false, false, false, false] rfl rfl (by kernel_rfl) (fun _ _ _ h => h) (Or.inl ⟨by rfl, ?_⟩) ?_ ?_
      rotate_left
      · intro w'
        go_simp
        with_reducible rfl
      rotate_left
      · simp only [Act.put, List.setIfInBounds_toArray, List.set_cons_zero, List.set_cons_succ, i64_w, i32_w]
        rfl
      refine pure_ (i := 4) (N := some 66) (v := ?_) (a' := ?_) #[true, true, true, true, true, false, false, false, false, false, false, false, false, false, false, false, false] rfl rfl (by kernel_rfl) (fun _ _ _ h => h) (Or.inl ⟨by rfl, ?_⟩) ?_ ?_
      rotate_left
      · intro w'
        go_simp
        with_reducible rfl
      rotate_left
      · simp only [Act.put, List.setIfInBounds_toArray, List.set_cons_zero, List.set_cons_succ, i64_w, i32_w]
        rfl
      refine pure_ (i := 5) (N := some 67) (v := ?_) (a' := ?_) #[true, true, true, true, true, true, false, false, false, false, false, false, false, false, false, false, false] rfl rfl (by kernel_rfl) (fun _ _ _ h => h) (Or.inl ⟨by rfl, ?_⟩) ?_ ?_
      rotate_left
      · intro w'
        go_simp
        with_reducible rfl
      rotate_left
      · simp only [Act.put, List.setIfInBounds_toArray, List.set_cons_zero, List.set_cons_succ, i64_w, i32_w]
        rfl
      refine take_ (i := 6) (N := some 68) (v := ?_) (a' := ?_) #[true, true, true, true, true, true, true, false, false, false, false, false, false, false, false, false, false] rfl rfl (by kernel_rfl) (fun _ _ _ h => h) (Or.inl ⟨by rfl, ?_⟩) hHeld ?_ ?_
      rotate_left
      · intro w' hS
        go_simp
        with_reducible rfl
      rotate_left
      · simp only [Act.put, List.setIfInBounds_toArray, List.set_cons_zero, List.set_cons_succ, i64_w, i32_w]
        rfl
      refine pure_ (i := 7) (N := some 69) (v := ?_) (a' := ?_) #[true, true, true, true, true, true, true, true, false, false, false, false, false, false, false, false, false] rfl rfl (by kernel_rfl) (fun _ _ _ h => h) (Or.inl ⟨by rfl, ?_⟩) ?_ ?_
      rotate_left
      · intro w'
        go_simp
        with_reducible rfl
      rotate_left
      · simp only [Act.put, List.setIfInBounds_toArray, List.set_cons_zero, List.set_cons_succ, i64_w, i32_w]
        rfl
      refine pure_ (i := 8) (N := some 70) (v := ?_) (a' := ?_) #[true, true, true, true, true, true, true, true, true, false, false, false, false, false, false, false, false] rfl rfl (by kernel_rfl) (fun _ _ _ h => h) (Or.inl ⟨by rfl, ?_⟩) ?_ ?_
      rotate_left
      · intro w'
        go_simp
        with_reducible rfl
      rotate_left
      · simp only [Act.put, List.setIfInBounds_toArray, List.set_cons_zero, List.set_cons_succ, i64_w, i32_w]
        rfl
      refine pure_ (i := 9) (N := some 71) (v := ?_) (a' := ?_) #[true, true, true, true, true, true, true, true, true, true, false, false, false, false, false, false, false] rfl rfl (by kernel_rfl) (fun _ _ _ h => h) (Or.inl ⟨by rfl, ?_⟩) ?_ ?_
      rotate_left
      · intro w'
        go_simp
        with_reducible rfl
      rotate_left
      · simp only [Act.put, List.setIfInBounds_toArray, List.set_cons_zero, List.set_cons_succ, i64_w, i32_w]
        rfl
      refine pure_ (i := 10) (N := some 72) (v := ?_) (a' := ?_) #[true, true, true, true, true, true, true, true, true, true, true, false, false, false, false, false, false] rfl rfl (by kernel_rfl) (fun _ _ _ h => h) (Or.inl ⟨by rfl, ?_⟩) ?_ ?_
      rotate_left
      · intro w'
        go_simp
        with_reducible rfl
      rotate_left
      · simp only [Act.put, List.setIfInBounds_toArray, List.set_cons_zero, List.set_cons_succ, i64_w, i32_w]
        rfl
      refine pure_ (i := 11) (N := some 73) (v := ?_) (a' := ?_) #[true, true, true, true, true, true, true, true, true, true, true, true, false, false, false, false, false] rfl rfl (by kernel_rfl) (fun _ _ _ h => h) (Or.inl ⟨by rfl, ?_⟩) ?_ ?_
      rotate_left
      · intro w'
        go_simp
        with_reducible rfl
      rotate_left
      · simp only [Act.put, List.setIfInBounds_toArray, List.set_cons_zero, List.set_cons_succ, i64_w, i32_w]
        rfl
      refine pure_ (i := 12) (N := some 74) (v := ?_) (a' := ?_) #[true, true, true, true, true, true, true, true, true, true, true, true, true, false, false, false, false] rfl rfl (by kernel_rfl) (fun _ _ _ h => h) (Or.inl ⟨by rfl, ?_⟩) ?_ ?_
      rotate_left
      · intro w'
        go_simp
        with_reducible rfl
      rotate_left
      · simp only [Act.put, List.setIfInBounds_toArray, List.set_cons_zero, List.set_cons_succ, i64_w, i32_w]
        rfl
      refine pure_ (i := 13) (N := some 75) (v := ?_) (a' := ?_) #[true, true, true, true, true, true, true, true, true, true, true, true, true, true, false, false, false] rfl rfl (by kernel_rfl) (fun _ _ _ h => h) (Or.inl ⟨by rfl, ?_⟩) ?_ ?_
      rotate_left
      · intro w'
        go_simp
        with_reducible rfl
      rotate_left
      · simp only [Act.put, List.setIfInBounds_toArray, List.set_cons_zero, List.set_cons_succ, i64_w, i32_w]
        rfl
      refine pure_ (i := 14) (N := some 76) (v := ?_) (a' := ?_) #[true, true, true, true, true, true, true, true, true, true, true, true, true, true, true, false, false] rfl rfl (by kernel_rfl) (fun _ _ _ h => h) (Or.inl ⟨by rfl, ?_⟩) ?_ ?_
      rotate_left
      · intro w'
        go_simp
        with_reducible rfl
      rotate_left
      · simp only [Act.put, List.setIfInBounds_toArray, List.set_cons_zero, List.set_cons_succ, i64_w, i32_w]
        rfl
      refine pure_ (i := 15) (N := some 77) (v := ?_) (a' := ?_) #[true, true, true, true, true, true, true, true, true, true, true, true, true, true, true, true, false] rfl rfl (by kernel_rfl) (fun _ _ _ h => h) (Or.inl ⟨by rfl, ?_⟩) ?_ ?_
      rotate_left
      · intro w'
        go_simp
        with_reducible rfl
      rotate_left
      · simp only [Act.put, List.setIfInBounds_toArray, List.set_cons_zero, List.set_cons_succ, i64_w, i32_w]
        rfl
      refine pure_ (i := 16) (N := some 8) (v := ?_) (a' := ?_) #[true, true, true, true, true, true, true, true, true, true, true, true, true, true, true, true, true] rfl rfl (by kernel_rfl) (fun _ _ _ h => h) (Or.inl ⟨by rfl, ?_⟩) ?_ ?_
      rotate_left
      · intro w'
        go_simp
        with_reducible rfl
      rotate_left
      · simp only [Act.put, List.setIfInBounds_toArray, List.set_cons_zero, List.set_cons_succ, i64_w, i32_w]
        rfl
      refine done_ (by kernel_rfl) ?_
      try clear hHeld
      try go_wp2
      go_ret
      refine ⟨?_, HB.out.drew⟩
      show Ending.returned (Value.bool (_ == _)) = _
      unfold over
      rw [beq_self_eq_true]
  · have d1_ : decide (cut > 0) = false := decide_eq_false h1
    obtain rfl : nn = 0 := by omega
    clear h1 hnn hcl hc
    go_wp2_with fail
    refine (stands_durable H.out).mono ?_
    rintro e_ w9 ⟨v, rfl, hr, hb⟩
    obtain ⟨Ad, cd, rfl⟩ := Kd.R_slice hr
    have hrr := (Kd.R_reads' hr).2.2
    have hl2 : (d1 [over 0 b a] []).lies.length = 1 := rfl
    rw [hl2] at hrr ⊢
    obtain ⟨gl, rfl⟩ := R_base0 hr (by show 0 < 1; decide)
    obtain ⟨ad, hAd, hx0⟩ := Kd.at_string hrr 0 (by decide) (by decide)
    obtain rfl := Option.some.inj hAd
    have hx : w9.cell? ⟨gl, 0, none⟩ = some (.string (over 0 b a)) := hx0
    have HB := Aside0.mk (below_then H.out.low (below_size H.out.low) hb)
    clear hr hb hrr hl2 hx0 hAd
    go_wp2_with fail
    have hs1 : ∀ W : World, (Instr.slice 9 (.string b) none (some (.int .i64 0)) none).run Try.prog W = .ok (.string (b.extract 0 0)) W := HS1.out
    have hs2 : ∀ W : World, (Instr.slice 9 (.string a) (some (.int .i64 0)) none none).run Try.prog W = .ok (.string (a.extract 0 a.size)) W := HS2.out
    have hcat_ : ¬ (9223372036854775807 < min 0 b.size + (a.size - 0)) := by rw [HA.out, HB'.out]; decide
    have hca2_ : ¬ (9223372036854775807 < a.size) := by rw [HA.out]; decide
    refine start_ (n := 17) (S := fun w' => w'.cell? ⟨gl, 0, none⟩ = some (.string (over 0 b a))) (ds := []) #[false, false, false, false, false, false, false, false, false, false, false, false, false, false, false, false, false] (by kernel_rfl) rfl rfl (hx) (fun hHeld => ?_)
    refine pure_ (i := 0) (N := some 62) (v := ?_) (a' := ?_) #[true, false, false, false, false, false, false, false, false, false, false, false, false, false, false, false, false] rfl rfl (by kernel_rfl) (fun _ _ _ h => h) (Or.inl ⟨by rfl, ?_⟩) ?_ ?_
    rotate_left
    · intro w'
      go_simp
      with_reducible rfl
    rotate_left
    · simp only [Act.put, List.setIfInBounds_toArray, List.set_cons_zero, List.set_cons_succ, i64_w, i32_w]
      rfl
    refine pure_ (i := 1) (N := some 63) (v := ?_) (a' := ?_) #[true, true, false, false, false, false, false, false, false, false, false, false, false, false, false, false, false] rfl rfl (by kernel_rfl) (fun _ _ _ h => h) (Or.inl ⟨by rfl, ?_⟩) ?_ ?_
    rotate_left
    · intro w'
      go_simp
      with_reducible rfl
    rotate_left
    · simp only [Act.put, List.setIfInBounds_toArray, List.set_cons_zero, List.set_cons_succ, i64_w, i32_w]
      rfl
    refine pure_ (i := 2) (N := some 64) (v := ?_) (a' := ?_) #[true, true, true, false, false, false, false, false, false, false, false, false, false, false, false, false, false] rfl rfl (by kernel_rfl) (fun _ _ _ h => h) (Or.inl ⟨by rfl, ?_⟩) ?_ ?_
    rotate_left
    · intro w'
      go_simp
      with_reducible rfl
    rotate_left
    · simp only [Act.put, List.setIfInBounds_toArray, List.set_cons_zero, List.set_cons_succ, i64_w, i32_w]
      rfl
    refine pure_ (i := 3) (N := some 65) (v := ?_) (a' := ?_) #[true, true, true, true, false, false, false, false, false, false, false, false, false, false, false, false, false] rfl rfl (by kernel_rfl) (fun _ _ _ h => h) (Or.inl ⟨by rfl, ?_⟩) ?_ ?_
    rotate_left
    · intro w'
      go_simp
      with_reducible rfl
    rotate_left
    · simp only [Act.put, List.setIfInBounds_toArray, List.set_cons_zero, List.set_cons_succ, i64_w, i32_w]
      rfl
    refine pure_ (i := 4) (N := some 66) (v := ?_) (a' := ?_) #[true, true, true, true, true, false, false, false, false, false, false, false, false, false, false, false, false] rfl rfl (by kernel_rfl) (fun _ _ _ h => h) (Or.inl ⟨by rfl, ?_⟩) ?_ ?_
    rotate_left
    · intro w'
      go_simp
      with_reducible rfl
    rotate_left
    · simp only [Act.put, List.setIfInBounds_toArray, List.set_cons_zero, List.set_cons_succ, i64_w, i32_w]
      rfl
    refine pure_ (i := 5) (N := some 67) (v := ?_) (a' := ?_) #[true, true, true, true, true, true, false, false, false, false, false, false, false, false, false, false, false] rfl rfl (by kernel_rfl) (fun _ _ _ h => h) (Or.inl ⟨by rfl, ?_⟩) ?_ ?_
    rotate_left
    · intro w'
      go_simp
      with_reducible rfl
    rotate_left
    · simp only [Act.put, List.setIfInBounds_toArray, List.set_cons_zero, List.set_cons_succ, i64_w, i32_w]
      rfl
    refine take_ (i := 6) (N := some 68) (v := ?_) (a' := ?_) #[true, true, true, true, true, true, true, false, false, false, false, false, false, false, false, false, false] rfl rfl (by kernel_rfl) (fun _ _ _ h => h) (Or.inl ⟨by rfl, ?_⟩) hHeld ?_ ?_
    rotate_left
    · intro w' hS
      go_simp
      with_reducible rfl
    rotate_left
    · simp only [Act.put, List.setIfInBounds_toArray, List.set_cons_zero, List.set_cons_succ, i64_w, i32_w]
      rfl
    refine pure_ (i := 7) (N := some 69) (v := ?_) (a' := ?_) #[true, true, true, true, true, true, true, true, false, false, false, false, false, false, false, false, false] rfl rfl (by kernel_rfl) (fun _ _ _ h => h) (Or.inl ⟨by rfl, ?_⟩) ?_ ?_
    rotate_left
    · intro w'
      go_simp
      with_reducible rfl
    rotate_left
    · simp only [Act.put, List.setIfInBounds_toArray, List.set_cons_zero, List.set_cons_succ, i64_w, i32_w]
      rfl
    refine pure_ (i := 8) (N := some 70) (v := ?_) (a' := ?_) #[true, true, true, true, true, true, true, true, true, false, false, false, false, false, false, false, false] rfl rfl (by kernel_rfl) (fun _ _ _ h => h) (Or.inl ⟨by rfl, ?_⟩) ?_ ?_
    rotate_left
    · intro w'
      go_simp
      with_reducible rfl
    rotate_left
    · simp only [Act.put, List.setIfInBounds_toArray, List.set_cons_zero, List.set_cons_succ, i64_w, i32_w]
      rfl
    refine pure_ (i := 9) (N := some 71) (v := ?_) (a' := ?_) #[true, true, true, true, true, true, true, true, true, true, false, false, false, false, false, false, false] rfl rfl (by kernel_rfl) (fun _ _ _ h => h) (Or.inl ⟨by rfl, ?_⟩) ?_ ?_
    rotate_left
    · intro w'
      go_simp
      with_reducible rfl
    rotate_left
    · simp only [Act.put, List.setIfInBounds_toArray, List.set_cons_zero, List.set_cons_succ, i64_w, i32_w]
      rfl
    refine pure_ (i := 10) (N := some 72) (v := ?_) (a' := ?_) #[true, true, true, true, true, true, true, true, true, true, true, false, false, false, false, false, false] rfl rfl (by kernel_rfl) (fun _ _ _ h => h) (Or.inl ⟨by rfl, ?_⟩) ?_ ?_
    rotate_left
    · intro w'
      go_simp
      with_reducible rfl
    rotate_left
    · simp only [Act.put, List.setIfInBounds_toArray, List.set_cons_zero, List.set_cons_succ, i64_w, i32_w]
      rfl
    refine pure_ (i := 11) (N := some 73) (v := ?_) (a' := ?_) #[true, true, true, true, true, true, true, true, true, true, true, true, false, false, false, false, false] rfl rfl (by kernel_rfl) (fun _ _ _ h => h) (Or.inl ⟨by rfl, ?_⟩) ?_ ?_
    rotate_left
    · intro w'
      go_simp
      with_reducible rfl
    rotate_left
    · simp only [Act.put, List.setIfInBounds_toArray, List.set_cons_zero, List.set_cons_succ, i64_w, i32_w]
      rfl
    refine pure_ (i := 12) (N := some 74) (v := ?_) (a' := ?_) #[true, true, true, true, true, true, true, true, true, true, true, true, true, false, false, false, false] rfl rfl (by kernel_rfl) (fun _ _ _ h => h) (Or.inl ⟨by rfl, ?_⟩) ?_ ?_
    rotate_left
    · intro w'
      go_simp
      with_reducible rfl
    rotate_left
    · simp only [Act.put, List.setIfInBounds_toArray, List.set_cons_zero, List.set_cons_succ, i64_w, i32_w]
      rfl
    refine pure_ (i := 13) (N := some 75) (v := ?_) (a' := ?_) #[true, true, true, true, true, true, true, true, true, true, true, true, true, true, false, false, false] rfl rfl (by kernel_rfl) (fun _ _ _ h => h) (Or.inl ⟨by rfl, ?_⟩) ?_ ?_
    rotate_left
    · intro w'
      go_simp
      with_reducible rfl
    rotate_left
    · simp only [Act.put, List.setIfInBounds_toArray, List.set_cons_zero, List.set_cons_succ, i64_w, i32_w]
      rfl
    refine pure_ (i := 14) (N := some 76) (v := ?_) (a' := ?_) #[true, true, true, true, true, true, true, true, true, true, true, true, true, true, true, false, false] rfl rfl (by kernel_rfl) (fun _ _ _ h => h) (Or.inl ⟨by rfl, ?_⟩) ?_ ?_
    rotate_left
    · intro w'
      go_simp
      with_reducible rfl
    rotate_left
    · simp only [Act.put, List.setIfInBounds_toArray, List.set_cons_zero, List.set_cons_succ, i64_w, i32_w]
      rfl
    refine pure_ (i := 15) (N := some 77) (v := ?_) (a' := ?_) #[true, true, true, true, true, true, true, true, true, true, true, true, true, true, true, true, false] rfl rfl (by kernel_rfl) (fun _ _ _ h => h) (Or.inl ⟨by rfl, ?_⟩) ?_ ?_
    rotate_left
    · intro w'
      go_simp
      with_reducible rfl
    rotate_left
    · simp only [Act.put, List.setIfInBounds_toArray, List.set_cons_zero, List.set_cons_succ, i64_w, i32_w]
      rfl
    refine pure_ (i := 16) (N := some 8) (v := ?_) (a' := ?_) #[true, true, true, true, true, true, true, true, true, true, true, true, true, true, true, true, true] rfl rfl (by kernel_rfl) (fun _ _ _ h => h) (Or.inl ⟨by rfl, ?_⟩) ?_ ?_
    rotate_left
    · intro w'
      go_simp
      with_reducible rfl
    rotate_left
    · simp only [Act.put, List.setIfInBounds_toArray, List.set_cons_zero, List.set_cons_succ, i64_w, i32_w]
      rfl
    refine done_ (by kernel_rfl) ?_
    try clear hHeld
    try go_wp2
    go_ret
    refine ⟨?_, HB.out.drew⟩
    show Ending.returned (Value.bool (_ == _)) = _
    rw [over_zero, beq_self_eq_true]
    skip
end Go.Proofs.Ytjaalegkmldaeaa.My
