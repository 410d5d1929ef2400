/- Splitter.Next of any bytes. -/
import Derived.Test.YtgboppgghidgbaaFrScan
import Derived.ScopeJumps
namespace Go.Proofs.Ytgboppgghidgbaa.My
open Go.RowKit Go.Proofs.YtgboppgghidgbaaW.PrintWords Go.Proofs.YtgboppgghidgbaaW.PrintLast Go.Proofs.YtgboppgghidgbaaW.PrintMore Go.Proofs.Ytgboppgghidgbaa
set_option linter.unusedSimpArgs false
set_option linter.unusedVariables false
set_option maxRecDepth 100000
set_option maxHeartbeats 8000000
/-- What Next answers, and what waits, and how many were passed over since. -/
noncomputable def nxA (s : ByteArray) (p : Nat) : Value :=
  if (scanF s 0).2 = 2 then (match decT (s.extract (scanF s 0).1 ((scanF s 0).1 + nOf (s.extract (scanF s 0).1 s.size))) with | (a, b, c, d, e, t, g, h, bd, _) => .tuple #[.agg #[.int .u8 a, .int .u8 b, .int .u8 c, .int .u16 d, .int .u32 e, .int .u64 t, .int .u32 g, .bool h, .string bd], .int .i64 ((p + (scanF s 0).1 : Nat) : Int), .bool true]) else .tuple #[zeroF, .int .i64 0, .bool false]
noncomputable def nxS (s : ByteArray) : ByteArray :=
  if (scanF s 0).2 = 2 then s.extract ((scanF s 0).1 + nOf (s.extract (scanF s 0).1 s.size)) s.size else s.extract (scanF s 0).1 s.size
noncomputable def nxP (s : ByteArray) (p : Nat) : Nat := if (scanF s 0).2 = 2 then 0 else p + (scanF s 0).1
/-- At the label. -/
def NxJ (w wr : World) (gs gf : Nat) (s : ByteArray) (p i : Nat) : Prop := SP wr gs (s.extract i s.size) (p + i) ∧ i ≤ s.size ∧ scanF s 0 = scanF s i ∧ wr.heap[gf]? = some (.cells #[.int .u8 0, .int .u8 0, .int .u8 0, .int .u16 0, .int .u32 0, .int .u64 0, .int .u32 0, .bool false, .string ⟨#[]⟩] 28 (0, 0)) ∧ Amid w wr gs
/-- How many bytes wait. -/
def nxM (gs : Nat) (w : World) : Nat := match w.cell? ⟨gs, 0, none⟩ with | some (.string x) => x.size | _ => 0
theorem nxM_of {gs : Nat} {w : World} {x : ByteArray} (h : w.cell? ⟨gs, 0, none⟩ = some (.string x)) : nxM gs w = x.size := by unfold nxM; rw [h]
theorem spNext_any {w : World} {gs : Nat} {s : ByteArray} {p : Nat} (h : SP w gs s p) (hs : s.size ≤ 65536) (hp : p ≤ 70368744177664) : Calls Try.prog 27 #[.pointer (some ⟨gs, 0, none⟩)] w fun r w' => r = .returned (nxA s p) ∧ SP w' gs (nxS s) (nxP s p) ∧ Amid w w' gs := by
  have hgl := h.lt
  go_enter Try.func27, Try.ntmps27
  go_wp2_with fail
  have hR := zeroNew w
  have hB := (Below.refl w.heap.size w).alloc (Nat.le_refl _) (.cells #[.int .u8 0, .int .u8 0, .int .u8 0, .int .u16 0, .int .u32 0, .int .u64 0, .int .u32 0, .bool false, .string ⟨#[]⟩] 28)
  have hA := (Amid.refl w gs).below hB
  have hS : SP _ gs s p := h.below hB
  have hext : s.extract 0 s.size = s := by simp
  have HJ : Aside0 (NxJ w (w.alloc (.cells #[.int .u8 0, .int .u8 0, .int .u8 0, .int .u16 0, .int .u32 0, .int .u64 0, .int .u32 0, .bool false, .string ⟨#[]⟩] 28)) gs w.heap.size s p 0) := ⟨⟨by rw [hext]; exact hS, Nat.zero_le _, rfl, hR, hA⟩⟩
  clear hR hB hA hS hext h
  generalize w.alloc (.cells #[.int .u8 0, .int .u8 0, .int .u8 0, .int .u16 0, .int .u32 0, .int .u64 0, .int .u32 0, .bool false, .string ⟨#[]⟩] 28) = W at *
  have hge : w.heap.size ≤ w.heap.size := Nat.le_refl _
  generalize hgf : w.heap.size = gf at HJ hgl ⊢
  have hge : w.heap.size ≤ gf := Nat.le_of_eq hgf
  clear hgf
  refine wp_scope_jumps 0 (fun a' w' => ∃ (i : Nat) (u5 u6 u7 u8 u9 u10 u11 u12 u13 u14 u15 u16 u17 u18 u19 u20 u21 u22 u23 u24 u25 u26 u27 u28 u29 u30 u31 u32 u33 u34 u35 u36 u37 u38 u39 u40 u41 u42 u43 u44 u45 u46 u47 u48 u49 u50 u51 u52 u53 u54 u55 u56 u57 u58 u59 u60 u61 u62 u63 u64 u65 u66 u67 u68 u69 u70 u71 u72 u73 u74 u75 u76 u77 u78 u79 u80 u81 u82 u83 u84 u85 u86 u87 u88 : Value), a' = { tmps := #[.pointer (some ⟨gs, 0, none⟩), undef, .pointer (some ⟨gf, 0, none⟩), .int .i64 0, .bool false, u5, u6, u7, u8, u9, u10, u11, u12, u13, u14, u15, u16, u17, u18, u19, u20, u21, u22, u23, u24, u25, u26, u27, u28, u29, u30, u31, u32, u33, u34, u35, u36, u37, u38, u39, u40, u41, u42, u43, u44, u45, u46, u47, u48, u49, u50, u51, u52, u53, u54, u55, u56, u57, u58, u59, u60, u61, u62, u63, u64, u65, u66, u67, u68, u69, u70, u71, u72, u73, u74, u75, u76, u77, u78, u79, u80, u81, u82, u83, u84, u85, u86, u87, u88], defers := [] } ∧ Aside0 (NxJ w w' gs gf s p i)) (fun _ w' => nxM gs w') rfl ?_ ?_
  · obtain ⟨i, hi0⟩ : ∃ i, i = 0 := ⟨0, rfl⟩
    rw [← hi0] at HJ
    have HI := HJ
    clear HJ hi0
    go_wp2_with fail
    go_step3
    obtain ⟨hS, hi, hsc, hR, hA⟩ := HI.out
    obtain ⟨h0, h1, f0, f1⟩ := hS.cells
    have HM0 := Aside0.mk h0
    have HSc := Aside0.mk hsc
    have HA := Aside0.mk hA
    have HR := Aside0.mk hR
    have HS := Aside0.mk hS
    have hTs1 : i + (s.extract i s.size).size ≤ s.size := by rw [ByteArray.size_extract]; omega
    have hTs2 : s.size ≤ i + (s.extract i s.size).size := by rw [ByteArray.size_extract]; omega
    have hic := idx_cases (s.extract i s.size)
    have HXE := Aside0.mk (fun j h => ext_ext s i j h)
    have HXA := Aside0.mk (fun k h => ext_at s i k h)
    clear hS hR hA HI hsc
    generalize hT : s.extract i s.size = T at *
    have HT := Aside0.mk hT
    clear hT
    rcases hic with ⟨hx, hno⟩ | ⟨j, hj, hx, hno⟩
    · have HQ : Aside0 (∀ w : World, Calls Try.prog 51 #[.string T, .int .u8 157] w fun r w' => r = .returned (.int .i64 (-1)) ∧ w' = w) := ⟨fun w => (spIdx T 157 w).mono fun _ _ h => ⟨by rw [h.1, show ((157 : Int).toNat.toUInt8) = 157 from rfl, hx], h.2.symm⟩⟩
      have hscan : scanF s 0 = (s.size, 0) := by
        rw [HSc.out, scan_jump s (s.size - i) i (by omega) (fun k hk => by rw [← HXA.out k (by omega)]; exact hno k (by omega)), show i + (s.size - i) = s.size by omega, scan_end]
      have HNA : Aside0 (nxA s p = .tuple #[zeroF, .int .i64 0, .bool false]) := ⟨by unfold nxA; rw [hscan, if_neg (by simp)]⟩
      have HNS : Aside0 (nxS s = T.extract T.size T.size) := ⟨by
        unfold nxS
        rw [hscan, if_neg (by simp), HXE.out T.size (by omega), show i + T.size = s.size by omega]⟩
      have HNP : Aside0 (nxP s p = p + i + T.size) := ⟨by unfold nxP; rw [hscan, if_neg (by simp)]; show p + s.size = _; omega⟩
      clear hx hno hscan
      go_wp2_with fail
      go_quiet (first | (go_at_call 51; refine Calls.quiet_of_same (HQ.out _)))
      go_wp2_with fail
      have HS' : SP (W.drewN nq) gs T (p + i) := HS.out
      have HA' := HA.out.drewN nq
      have HR' : (W.drewN nq).heap[gf]? = _ := HR.out
      clear h0 h1 f0 f1 HS HA HR HM0
      generalize W.drewN nq = W1 at *
      refine (spPass HS' T.size (Nat.le_refl _) (by omega) (by omega)).mono ?_
      rintro e_ w1 ⟨rfl, hS1, hA1⟩
      have hR1 : w1.heap[gf]? = _ := (hA1.2.2 _ (Nat.ne_of_gt hgl)).trans HR'
      have HA1 := Aside0.mk (HA'.alone hA1)
      have HS1 := Aside0.mk hS1
      clear hA1 hS1 HA' HS' HR'
      have qk0 : w1.cell? ⟨gf, 0, none⟩ = some (.int .u8 0) := (blk_cell hR1 0).trans rfl
      have qz0 : w1.frozen? ⟨gf, 0, none⟩ = false := blk_frozen hR1 0
      have qk1 : w1.cell? ⟨gf, 1, none⟩ = some (.int .u8 0) := (blk_cell hR1 1).trans rfl
      have qz1 : w1.frozen? ⟨gf, 1, none⟩ = false := blk_frozen hR1 1
      have qk2 : w1.cell? ⟨gf, 2, none⟩ = some (.int .u8 0) := (blk_cell hR1 2).trans rfl
      have qz2 : w1.frozen? ⟨gf, 2, none⟩ = false := blk_frozen hR1 2
      have qk3 : w1.cell? ⟨gf, 3, none⟩ = some (.int .u16 0) := (blk_cell hR1 3).trans rfl
      have qz3 : w1.frozen? ⟨gf, 3, none⟩ = false := blk_frozen hR1 3
      have qk4 : w1.cell? ⟨gf, 4, none⟩ = some (.int .u32 0) := (blk_cell hR1 4).trans rfl
      have qz4 : w1.frozen? ⟨gf, 4, none⟩ = false := blk_frozen hR1 4
      have qk5 : w1.cell? ⟨gf, 5, none⟩ = some (.int .u64 0) := (blk_cell hR1 5).trans rfl
      have qz5 : w1.frozen? ⟨gf, 5, none⟩ = false := blk_frozen hR1 5
      have qk6 : w1.cell? ⟨gf, 6, none⟩ = some (.int .u32 0) := (blk_cell hR1 6).trans rfl
      have qz6 : w1.frozen? ⟨gf, 6, none⟩ = false := blk_frozen hR1 6
      have qk7 : w1.cell? ⟨gf, 7, none⟩ = some (.bool false) := (blk_cell hR1 7).trans rfl
      have qz7 : w1.frozen? ⟨gf, 7, none⟩ = false := blk_frozen hR1 7
      have qk8 : w1.cell? ⟨gf, 8, none⟩ = some (.string ⟨#[]⟩) := (blk_cell hR1 8).trans rfl
      have qz8 : w1.frozen? ⟨gf, 8, none⟩ = false := blk_frozen hR1 8
      go_wp2_with fail
      try simp only [Exit.jump]
      refine bodyPost_ret (v := .tuple #[zeroF, .int .i64 0, .bool false]) (by simp [results, zeroF, Try.results27, go_sem, qk0, qk1, qk2, qk3, qk4, qk5, qk6, qk7, qk8]) rfl ⟨by rw [HNA.out], ?_, ?_⟩
      · rw [HNS.out, HNP.out]
        repeat (first | (with_reducible exact HS1.out) | refine SP.far ?_ (Nat.ne_of_lt hgl) _)
      · repeat (first | (with_reducible exact HA1.out) | refine Amid.set ?_ _ _ hge _)
    · have HQ : Aside0 (∀ w : World, Calls Try.prog 51 #[.string T, .int .u8 157] w fun r w' => r = .returned (.int .i64 (j : Int)) ∧ w' = w) := ⟨fun w => (spIdx T 157 w).mono fun _ _ h => ⟨by rw [h.1, show ((157 : Int).toNat.toUInt8) = 157 from rfl, hx], h.2.symm⟩⟩
      have hsc2 : scanF s 0 = scanF s (i + j) := by
        rw [HSc.out, scan_jump s j i (by omega) (fun k hk => by rw [← HXA.out k (by omega)]; exact hno k (by omega))]
      have hlt : i + j < s.size := by omega
      have hU := HXE.out j (by omega)
      clear hx hno HSc
      go_wp2_with fail
      go_quiet (first | (go_at_call 51; refine Calls.quiet_of_same (HQ.out _)))
      go_wp2_with fail
      have HS' : SP (W.drewN nq) gs T (p + i) := HS.out
      have HA' := HA.out.drewN nq
      have HR' : (W.drewN nq).heap[gf]? = _ := HR.out
      clear h0 h1 f0 f1 HS HA HR
      generalize W.drewN nq = W1 at *
      refine (spPass HS' j (by omega) (by omega) (by omega)).mono ?_
      rintro e_ w1 ⟨rfl, hS1, hA1⟩
      have HR1 := Aside0.mk ((hA1.2.2 _ (Nat.ne_of_gt hgl)).trans HR')
      have HA1 := Aside0.mk (HA'.alone hA1)
      rw [hU, show p + i + j = p + (i + j) by omega] at hS1
      have HS1 := Aside0.mk hS1
      have HL : Aside0 (i + j < s.size ∧ T.size = s.size - i ∧ i ≤ i + j) := ⟨hlt, by omega, Nat.le_add_right _ _⟩
      clear hA1 HA' HS' HR' hU hj HXE HXA HQ
      obtain ⟨h0, h1, f0, f1⟩ := hS1.cells
      clear hS1
      generalize hq : i + j = q at *
      clear hq
      obtain ⟨U, hUd⟩ : ∃ U, U = s.extract q s.size := ⟨_, rfl⟩
      have hUs1 : q + U.size ≤ s.size := by rw [hUd, ByteArray.size_extract]; omega
      have hUs2 : s.size ≤ q + U.size := by rw [hUd, ByteArray.size_extract]; omega
      rw [← hUd] at HS1 h0
      have hh := head_val U (by omega)
      have k1 := cls1 U
      have k2 := cls2 U (by omega)
      have k3 := cls3 U
      obtain ⟨n, ok, hv⟩ : ∃ n ok, headV U = (n, ok) := ⟨_, _, rfl⟩
      rw [hv] at hh k1 k2 k3
      dsimp only at k1 k2 k3
      have HH := Aside0.mk hh
      have K1 := Aside0.mk k1
      have K2 := Aside0.mk k2
      have K3 := Aside0.mk k3
      have HU := Aside0.mk hUd
      have HSC := Aside0.mk hsc2
      clear hh k1 k2 k3 hv hUd hsc2
      go_wp2_with fail
      refine (PF.frame_head.calls 12 U _ _ w1 HH.out).mono ?_
      rintro e_ w2 ⟨rfl, hb2⟩
      have HA2 := Aside0.mk (HA1.out.below hb2)
      have HS2 := Aside0.mk (HS1.out.below hb2)
      have HR2 := Aside0.mk ((hb2.block _ (blk_lt HR1.out)).trans HR1.out)
      clear h0 h1 f0 f1 HS1 HA1 HR1 hb2
      obtain ⟨h0, h1, f0, f1⟩ := HS2.out.cells
      have hw1 : U.size ≠ 0 := by omega
      cases ok with
      | false =>
        obtain ⟨y1, y2⟩ := K1.out rfl
        have HN : Aside0 (scanF s 0 = scanF s (q + 1)) := ⟨by rw [HSC.out]; exact scan_skip s q (by omega) (by rw [← HU.out]; exact y1) (by rw [← HU.out]; exact y2)⟩
        clear y1 y2 K1 K2 K3 HH
        go_wp2_with fail
        refine (spPass HS2.out 1 (by omega) (by omega) (by omega)).mono ?_
        rintro e_ w3 ⟨rfl, hS3, hA3⟩
        rw [show (U.extract 1 U.size) = s.extract (q + 1) s.size by rw [HU.out]; exact ext_ext s q 1 (by omega), show p + q + 1 = p + (q + 1) by omega] at hS3
        have HJ3 : Aside0 (NxJ w w3 gs gf s p (q + 1)) := ⟨⟨hS3, by omega, HN.out, (hA3.2.2 _ (Nat.ne_of_gt hgl)).trans HR2.out, HA2.out.alone hA3⟩⟩
        clear HS2 HA2 HR2 hS3 hA3 h0 h1 f0 f1 hw1
        go_wp2_with fail
        go_step3
        refine ⟨rfl, ⟨q + 1, _, _, _, _, _, _, _, _, _, _, _, _, _, _, _, _, _, _, _, _, _, _, _, _, _, _, _, _, _, _, _, _, _, _, _, _, _, _, _, _, _, _, _, _, _, _, _, _, _, _, _, _, _, _, _, _, _, _, _, _, _, _, _, _, _, _, _, _, _, _, _, _, _, _, _, _, _, _, _, _, _, _, _, _, rfl, HJ3⟩⟩
      | true =>
        by_cases hn : n = 0 ∨ (U.size : Int) < n
        · obtain ⟨y1, y2⟩ := K2.out rfl hn
          have hscan : scanF s 0 = (q, 1) := by rw [HSC.out]; exact scan_may s q (by omega) (by rw [← HU.out]; exact y1) (by rw [← HU.out]; exact y2)
          have HNA : Aside0 (nxA s p = .tuple #[zeroF, .int .i64 0, .bool false]) := ⟨by unfold nxA; rw [hscan, if_neg (by simp)]⟩
          have HNS : Aside0 (nxS s = U) := ⟨by unfold nxS; rw [hscan, if_neg (by simp), HU.out]⟩
          have HNP : Aside0 (nxP s p = p + q) := ⟨by unfold nxP; rw [hscan, if_neg (by simp)]⟩
          clear y1 y2 K1 K2 K3 HH hscan
          have hR2 := HR2.out
          by_cases hn0 : n = 0
          · subst hn0
            clear hn
            have qk0 : w2.cell? ⟨gf, 0, none⟩ = some (.int .u8 0) := (blk_cell hR2 0).trans rfl
            have qz0 : w2.frozen? ⟨gf, 0, none⟩ = false := blk_frozen hR2 0
            have qk1 : w2.cell? ⟨gf, 1, none⟩ = some (.int .u8 0) := (blk_cell hR2 1).trans rfl
            have qz1 : w2.frozen? ⟨gf, 1, none⟩ = false := blk_frozen hR2 1
            have qk2 : w2.cell? ⟨gf, 2, none⟩ = some (.int .u8 0) := (blk_cell hR2 2).trans rfl
            have qz2 : w2.frozen? ⟨gf, 2, none⟩ = false := blk_frozen hR2 2
            have qk3 : w2.cell? ⟨gf, 3, none⟩ = some (.int .u16 0) := (blk_cell hR2 3).trans rfl
            have qz3 : w2.frozen? ⟨gf, 3, none⟩ = false := blk_frozen hR2 3
            have qk4 : w2.cell? ⟨gf, 4, none⟩ = some (.int .u32 0) := (blk_cell hR2 4).trans rfl
            have qz4 : w2.frozen? ⟨gf, 4, none⟩ = false := blk_frozen hR2 4
            have qk5 : w2.cell? ⟨gf, 5, none⟩ = some (.int .u64 0) := (blk_cell hR2 5).trans rfl
            have qz5 : w2.frozen? ⟨gf, 5, none⟩ = false := blk_frozen hR2 5
            have qk6 : w2.cell? ⟨gf, 6, none⟩ = some (.int .u32 0) := (blk_cell hR2 6).trans rfl
            have qz6 : w2.frozen? ⟨gf, 6, none⟩ = false := blk_frozen hR2 6
            have qk7 : w2.cell? ⟨gf, 7, none⟩ = some (.bool false) := (blk_cell hR2 7).trans rfl
            have qz7 : w2.frozen? ⟨gf, 7, none⟩ = false := blk_frozen hR2 7
            have qk8 : w2.cell? ⟨gf, 8, none⟩ = some (.string ⟨#[]⟩) := (blk_cell hR2 8).trans rfl
            have qz8 : w2.frozen? ⟨gf, 8, none⟩ = false := blk_frozen hR2 8
            go_wp2_with fail
            try (go_quiet (fail); go_wp2_with fail)
            try simp only [Exit.jump]
            refine bodyPost_ret (v := .tuple #[zeroF, .int .i64 0, .bool false]) (by simp [results, zeroF, Try.results27, go_sem, qk0, qk1, qk2, qk3, qk4, qk5, qk6, qk7, qk8]) rfl ⟨by rw [HNA.out], ?_, ?_⟩
            · rw [HNS.out, HNP.out]
              repeat (first | (with_reducible exact HS2.out) | refine SP.far ?_ (Nat.ne_of_lt hgl) _)
            · repeat (first | (with_reducible exact HA2.out) | refine Amid.set ?_ _ _ hge _)
          · have hn1 : (n == 0) = false := by rw [beq_eq_false_iff_ne]; exact hn0
            have hn2 : (U.size : Int) < n := hn.resolve_left hn0
            have hn3 : decide ((U.size : Int) < n) = true := decide_eq_true hn2
            clear hn hn0
            have qk0 : w2.cell? ⟨gf, 0, none⟩ = some (.int .u8 0) := (blk_cell hR2 0).trans rfl
            have qz0 : w2.frozen? ⟨gf, 0, none⟩ = false := blk_frozen hR2 0
            have qk1 : w2.cell? ⟨gf, 1, none⟩ = some (.int .u8 0) := (blk_cell hR2 1).trans rfl
            have qz1 : w2.frozen? ⟨gf, 1, none⟩ = false := blk_frozen hR2 1
            have qk2 : w2.cell? ⟨gf, 2, none⟩ = some (.int .u8 0) := (blk_cell hR2 2).trans rfl
            have qz2 : w2.frozen? ⟨gf, 2, none⟩ = false := blk_frozen hR2 2
            have qk3 : w2.cell? ⟨gf, 3, none⟩ = some (.int .u16 0) := (blk_cell hR2 3).trans rfl
            have qz3 : w2.frozen? ⟨gf, 3, none⟩ = false := blk_frozen hR2 3
            have qk4 : w2.cell? ⟨gf, 4, none⟩ = some (.int .u32 0) := (blk_cell hR2 4).trans rfl
            have qz4 : w2.frozen? ⟨gf, 4, none⟩ = false := blk_frozen hR2 4
            have qk5 : w2.cell? ⟨gf, 5, none⟩ = some (.int .u64 0) := (blk_cell hR2 5).trans rfl
            have qz5 : w2.frozen? ⟨gf, 5, none⟩ = false := blk_frozen hR2 5
            have qk6 : w2.cell? ⟨gf, 6, none⟩ = some (.int .u32 0) := (blk_cell hR2 6).trans rfl
            have qz6 : w2.frozen? ⟨gf, 6, none⟩ = false := blk_frozen hR2 6
            have qk7 : w2.cell? ⟨gf, 7, none⟩ = some (.bool false) := (blk_cell hR2 7).trans rfl
            have qz7 : w2.frozen? ⟨gf, 7, none⟩ = false := blk_frozen hR2 7
            have qk8 : w2.cell? ⟨gf, 8, none⟩ = some (.string ⟨#[]⟩) := (blk_cell hR2 8).trans rfl
            have qz8 : w2.frozen? ⟨gf, 8, none⟩ = false := blk_frozen hR2 8
            go_wp2_with fail
            try (go_quiet (fail); go_wp2_with fail)
            try simp only [Exit.jump]
            refine bodyPost_ret (v := .tuple #[zeroF, .int .i64 0, .bool false]) (by simp [results, zeroF, Try.results27, go_sem, qk0, qk1, qk2, qk3, qk4, qk5, qk6, qk7, qk8]) rfl ⟨by rw [HNA.out], ?_, ?_⟩
            · rw [HNS.out, HNP.out]
              repeat (first | (with_reducible exact HS2.out) | refine SP.far ?_ (Nat.ne_of_lt hgl) _)
            · repeat (first | (with_reducible exact HA2.out) | refine Amid.set ?_ _ _ hge _)
        · obtain ⟨y0, y1, y2, y3, y4, y5⟩ := K3.out rfl hn
          have hstep : ¬ StP U → scanF s 0 = scanF s (q + 1) := fun h => by rw [HSC.out]; exact scan_skip s q (by omega) (by rw [← HU.out]; exact h) (by rw [← HU.out]; exact y4)
          have hfr : StP U → scanF s 0 = (q, 2) := fun h => by rw [HSC.out]; exact scan_st s q (by omega) (by rw [← HU.out]; exact h)
          have hdk : StP U → DecOk (U.extract 0 (nOf U)) := fun h => h.2.2
          have hcut : ∀ m, m ≤ U.size → U.extract 0 m = s.extract q (q + m) := fun m hm => by
            rw [HU.out, ByteArray.extract_extract]
            congr 1
            omega
          have hcut2 : ∀ m, m ≤ U.size → U.extract m U.size = s.extract (q + m) s.size := fun m hm => by
            rw [HU.out]; exact ext_ext s q m (by rw [← HU.out] at *; omega)
          have hnU : nOf (s.extract q s.size) = nOf U := by rw [HU.out]
          have HC2 := Aside0.mk hcut2
          have HC1 := Aside0.mk hcut
          have HNU := Aside0.mk hnU
          have HST := Aside0.mk hstep
          have HFR := Aside0.mk hfr
          have HDK := Aside0.mk hdk
          have HY5 := Aside0.mk y5
          clear hn y4 y5 K1 K2 K3 HH hstep hfr hdk hcut hcut2 hnU
          generalize nOf U = m at *
          subst y0
          have hm0 : ((m : Int) == 0) = false := by rw [beq_eq_false_iff_ne]; omega
          have hm1 : decide ((U.size : Int) < (m : Int)) = false := decide_eq_false (by omega)
          have hm2 : ¬ (U.size : Int) < (m : Int) := by omega
          have hm3 : (m : Int) ≤ (U.size : Int) := by omega
          have hxs : (U.extract 0 m).size ≤ 8192 := by rw [ByteArray.size_extract]; omega
          by_cases hd : DecOk (U.extract 0 m)
          · have hst := HY5.out hd
            have hscan := HFR.out hst
            obtain ⟨a, b, c, d, e, t, g, hh, bd, hdec⟩ : ∃ a b c d e t g hh bd, decT (U.extract 0 m) = (a, b, c, d, e, t, g, hh, bd, 0) := ⟨_, _, _, _, _, _, _, _, _, by unfold decT; rw [if_pos hd]⟩
            have HNA : Aside0 (nxA s p = .tuple #[.agg #[.int .u8 a, .int .u8 b, .int .u8 c, .int .u16 d, .int .u32 e, .int .u64 t, .int .u32 g, .bool hh, .string bd], .int .i64 ((p + q : Nat) : Int), .bool true]) := ⟨by
              unfold nxA
              rw [hscan, if_pos rfl]
              dsimp only
              rw [HNU.out, ← HC1.out m (by omega), hdec]⟩
            have HNS : Aside0 (nxS s = U.extract m U.size) := ⟨by unfold nxS; rw [hscan, if_pos rfl]; dsimp only; rw [HNU.out, HC2.out m (by omega)]⟩
            have HNP : Aside0 (nxP s p = 0) := ⟨by unfold nxP; rw [hscan, if_pos rfl]⟩
            have HD : Aside0 (frame_Decode.f (U.extract 0 m) = some (a, b, c, d, e, t, g, hh, bd, 0)) := ⟨by rw [frame_Decode.f, if_pos (by omega), hdec]⟩
            clear hst hscan hdec hd HST HFR HDK HY5 HNU HC1
            go_wp2_with fail
            try (go_quiet (fail); go_wp2_with fail)
            refine (frame_Decode.calls _ _ _ _ _ _ _ _ _ _ _ w2 HD.out).mono ?_
            rintro e_ w3 ⟨rfl, hb3⟩
            have HA3 := Aside0.mk (HA2.out.below hb3)
            have HS3 := Aside0.mk (HS2.out.below hb3)
            have hR3 := (hb3.block _ (blk_lt HR2.out)).trans HR2.out
            clear h0 h1 f0 f1 HS2 HA2 HR2 hb3
            have hB4 := (Below.refl w3.heap.size w3).alloc (Nat.le_refl _) (.cells #[.int .u8 a, .int .u8 b, .int .u8 c, .int .u16 d, .int .u32 e, .int .u64 t, .int .u32 g, .bool hh, .string bd] 28)
            have HA4 := Aside0.mk (HA3.out.below hB4)
            have HS4 := Aside0.mk (HS3.out.below hB4)
            have hR4 := (hB4.block _ (blk_lt hR3)).trans hR3
            have hF4 := W_push w3 #[.int .u8 a, .int .u8 b, .int .u8 c, .int .u16 d, .int .u32 e, .int .u64 t, .int .u32 g, .bool hh, .string bd] 28 (0, 0)
            have hne : gf < w3.heap.size := blk_lt hR3
            have hg3 : gs < w3.heap.size := by omega
            obtain ⟨k0, k1, l0, l1⟩ := HS3.out.cells
            clear hB4
            obtain ⟨h0, h1, f0, f1⟩ := HS4.out.cells
            have qk0 : w3.cell? ⟨gf, 0, none⟩ = some (.int .u8 0) := (blk_cell hR3 0).trans rfl
            have qz0 : w3.frozen? ⟨gf, 0, none⟩ = false := blk_frozen hR3 0
            have qk1 : w3.cell? ⟨gf, 1, none⟩ = some (.int .u8 0) := (blk_cell hR3 1).trans rfl
            have qz1 : w3.frozen? ⟨gf, 1, none⟩ = false := blk_frozen hR3 1
            have qk2 : w3.cell? ⟨gf, 2, none⟩ = some (.int .u8 0) := (blk_cell hR3 2).trans rfl
            have qz2 : w3.frozen? ⟨gf, 2, none⟩ = false := blk_frozen hR3 2
            have qk3 : w3.cell? ⟨gf, 3, none⟩ = some (.int .u16 0) := (blk_cell hR3 3).trans rfl
            have qz3 : w3.frozen? ⟨gf, 3, none⟩ = false := blk_frozen hR3 3
            have qk4 : w3.cell? ⟨gf, 4, none⟩ = some (.int .u32 0) := (blk_cell hR3 4).trans rfl
            have qz4 : w3.frozen? ⟨gf, 4, none⟩ = false := blk_frozen hR3 4
            have qk5 : w3.cell? ⟨gf, 5, none⟩ = some (.int .u64 0) := (blk_cell hR3 5).trans rfl
            have qz5 : w3.frozen? ⟨gf, 5, none⟩ = false := blk_frozen hR3 5
            have qk6 : w3.cell? ⟨gf, 6, none⟩ = some (.int .u32 0) := (blk_cell hR3 6).trans rfl
            have qz6 : w3.frozen? ⟨gf, 6, none⟩ = false := blk_frozen hR3 6
            have qk7 : w3.cell? ⟨gf, 7, none⟩ = some (.bool false) := (blk_cell hR3 7).trans rfl
            have qz7 : w3.frozen? ⟨gf, 7, none⟩ = false := blk_frozen hR3 7
            have qk8 : w3.cell? ⟨gf, 8, none⟩ = some (.string ⟨#[]⟩) := (blk_cell hR3 8).trans rfl
            have qz8 : w3.frozen? ⟨gf, 8, none⟩ = false := blk_frozen hR3 8
            go_wp2_with fail
            try simp only [Exit.jump]
            clear h0 h1 f0 f1 k0 k1 l0 l1 qk0 qz0 qk1 qz1 qk2 qz2 qk3 qz3 qk4 qz4 qk5 qz5 qk6 qz6 qk7 qz7 qk8 qz8
            have hS5 : SP ((w3.setCell ⟨gs, 0, none⟩ (.string (U.extract m U.size))).setCell ⟨gs, 1, none⟩ (.int .i64 0)) gs (U.extract m U.size) 0 := blk_set (blk_set HS3.out 0 (.string (U.extract m U.size))) 1 (.int .i64 0)
            have hA5 : Alone w3 ((w3.setCell ⟨gs, 0, none⟩ (.string (U.extract m U.size))).setCell ⟨gs, 1, none⟩ (.int .i64 0)) gs := (Alone_set w3 0 gs 0 (.string (U.extract m U.size))).trans (Alone_set _ 0 gs 1 (.int .i64 0))
            generalize (w3.setCell ⟨gs, 0, none⟩ (.string (U.extract m U.size))).setCell ⟨gs, 1, none⟩ (.int .i64 0) = W5 at hS5 hA5 ⊢
            have hR5 := (hA5.2.2 gf (by omega)).trans hR3
            have hR6 := put9_row hR5 (.int .u8 a) (.int .u8 b) (.int .u8 c) (.int .u16 d) (.int .u32 e) (.int .u64 t) (.int .u32 g) (.bool hh) (.string bd)
            have hA6 := put9_alone W5 gf (.int .u8 a) (.int .u8 b) (.int .u8 c) (.int .u16 d) (.int .u32 e) (.int .u64 t) (.int .u32 g) (.bool hh) (.string bd)
            rw [put9_def]
            generalize put9 W5 gf (.int .u8 a) (.int .u8 b) (.int .u8 c) (.int .u16 d) (.int .u32 e) (.int .u64 t) (.int .u32 g) (.bool hh) (.string bd) = W6 at hR6 hA6 ⊢
            have hS6 := hS5.alone hA6 (by omega)
            have A6 : Amid w W6 gs := (HA3.out.alone hA5).other hA6 hge
            have hB7 := (Below.refl W6.heap.size W6).alloc (Nat.le_refl _) (.cells #[.int .u8 a, .int .u8 b, .int .u8 c, .int .u16 d, .int .u32 e, .int .u64 t, .int .u32 g, .bool hh, .string bd] 28)
            have hR7 := (hB7.block _ (blk_lt hR6)).trans hR6
            have hS7 := hS6.below hB7
            have A7 := A6.below hB7
            generalize W6.alloc (.cells #[.int .u8 a, .int .u8 b, .int .u8 c, .int .u16 d, .int .u32 e, .int .u64 t, .int .u32 g, .bool hh, .string bd] 28) = W7 at hR7 hS7 A7 ⊢
            have yk0 : W7.cell? ⟨gf, 0, none⟩ = some (.int .u8 a) := (blk_cell hR7 0).trans rfl
            have yz0 : W7.frozen? ⟨gf, 0, none⟩ = false := blk_frozen hR7 0
            have yk1 : W7.cell? ⟨gf, 1, none⟩ = some (.int .u8 b) := (blk_cell hR7 1).trans rfl
            have yz1 : W7.frozen? ⟨gf, 1, none⟩ = false := blk_frozen hR7 1
            have yk2 : W7.cell? ⟨gf, 2, none⟩ = some (.int .u8 c) := (blk_cell hR7 2).trans rfl
            have yz2 : W7.frozen? ⟨gf, 2, none⟩ = false := blk_frozen hR7 2
            have yk3 : W7.cell? ⟨gf, 3, none⟩ = some (.int .u16 d) := (blk_cell hR7 3).trans rfl
            have yz3 : W7.frozen? ⟨gf, 3, none⟩ = false := blk_frozen hR7 3
            have yk4 : W7.cell? ⟨gf, 4, none⟩ = some (.int .u32 e) := (blk_cell hR7 4).trans rfl
            have yz4 : W7.frozen? ⟨gf, 4, none⟩ = false := blk_frozen hR7 4
            have yk5 : W7.cell? ⟨gf, 5, none⟩ = some (.int .u64 t) := (blk_cell hR7 5).trans rfl
            have yz5 : W7.frozen? ⟨gf, 5, none⟩ = false := blk_frozen hR7 5
            have yk6 : W7.cell? ⟨gf, 6, none⟩ = some (.int .u32 g) := (blk_cell hR7 6).trans rfl
            have yz6 : W7.frozen? ⟨gf, 6, none⟩ = false := blk_frozen hR7 6
            have yk7 : W7.cell? ⟨gf, 7, none⟩ = some (.bool hh) := (blk_cell hR7 7).trans rfl
            have yz7 : W7.frozen? ⟨gf, 7, none⟩ = false := blk_frozen hR7 7
            have yk8 : W7.cell? ⟨gf, 8, none⟩ = some (.string bd) := (blk_cell hR7 8).trans rfl
            have yz8 : W7.frozen? ⟨gf, 8, none⟩ = false := blk_frozen hR7 8
            refine bodyPost_ret (v := .tuple #[.agg #[.int .u8 a, .int .u8 b, .int .u8 c, .int .u16 d, .int .u32 e, .int .u64 t, .int .u32 g, .bool hh, .string bd], .int .i64 ((p + q : Nat) : Int), .bool true]) (by simp [results, Try.results27, go_sem, yk0, yk1, yk2, yk3, yk4, yk5, yk6, yk7, yk8]) rfl ⟨by rw [HNA.out], by rw [HNS.out, HNP.out]; exact hS7, A7⟩
          · have HN := Aside0.mk (HST.out (fun h => hd (HDK.out h)))
            have HD : Aside0 (frame_Decode.f (U.extract 0 m) = some (0, 0, 0, 0, 0, 0, 0, false, ⟨#[]⟩, 210)) := ⟨by rw [frame_Decode.f, if_pos (by omega), decT_bad _ hd]⟩
            clear hd HST HFR HDK HY5 HNU HC1
            go_wp2_with fail
            try (go_quiet (fail); go_wp2_with fail)
            refine (frame_Decode.calls _ _ _ _ _ _ _ _ _ _ _ w2 HD.out).mono ?_
            rintro e_ w3 ⟨rfl, hb3⟩
            have HA3 := Aside0.mk (HA2.out.below hb3)
            have HS3 := Aside0.mk (HS2.out.below hb3)
            have hR3 := (hb3.block _ (blk_lt HR2.out)).trans HR2.out
            clear h0 h1 f0 f1 HS2 HA2 HR2 hb3
            have hB4 := (Below.refl w3.heap.size w3).alloc (Nat.le_refl _) (.cells #[.int .u8 0, .int .u8 0, .int .u8 0, .int .u16 0, .int .u32 0, .int .u64 0, .int .u32 0, .bool false, .string ⟨#[]⟩] 28)
            have HA4 := Aside0.mk (HA3.out.below hB4)
            have HS4 := Aside0.mk (HS3.out.below hB4)
            have hR4 := (hB4.block _ (blk_lt hR3)).trans hR3
            have hF4 := W_push w3 #[.int .u8 0, .int .u8 0, .int .u8 0, .int .u16 0, .int .u32 0, .int .u64 0, .int .u32 0, .bool false, .string ⟨#[]⟩] 28 (0, 0)
            have hne : gf < w3.heap.size := blk_lt hR3
            have hg3 : gs < w3.heap.size := by omega
            obtain ⟨k0, k1, l0, l1⟩ := HS3.out.cells
            clear hB4
            obtain ⟨h0, h1, f0, f1⟩ := HS4.out.cells
            go_wp2_with fail
            clear h0 h1 f0 f1 k0 k1 l0 l1 hF4
            generalize w3.alloc (.cells #[.int .u8 0, .int .u8 0, .int .u8 0, .int .u16 0, .int .u32 0, .int .u64 0, .int .u32 0, .bool false, .string ⟨#[]⟩] 28) = w4 at *
            refine (spPass HS4.out 1 (by omega) (by omega) (by omega)).mono ?_
            rintro e_ w5 ⟨rfl, hS5, hA5⟩
            rw [show (U.extract 1 U.size) = s.extract (q + 1) s.size by rw [HU.out]; exact ext_ext s q 1 (by omega), show p + q + 1 = p + (q + 1) by omega] at hS5
            have HJ5 : Aside0 (NxJ w w5 gs gf s p (q + 1)) := ⟨⟨hS5, by omega, HN.out, (hA5.2.2 _ (Nat.ne_of_gt hgl)).trans hR4, HA4.out.alone hA5⟩⟩
            clear HS4 HA4 hR4 HS3 HA3 hR3 hS5 hA5
            go_wp2_with fail
            go_step3
            refine ⟨rfl, ⟨q + 1, _, _, _, _, _, _, _, _, _, _, _, _, _, _, _, _, _, _, _, _, _, _, _, _, _, _, _, _, _, _, _, _, _, _, _, _, _, _, _, _, _, _, _, _, _, _, _, _, _, _, _, _, _, _, _, _, _, _, _, _, _, _, _, _, _, _, _, _, _, _, _, _, _, _, _, _, _, _, _, _, _, _, _, _, rfl, HJ5⟩⟩
  · rintro a' W ⟨i, u5, u6, u7, u8, u9, u10, u11, u12, u13, u14, u15, u16, u17, u18, u19, u20, u21, u22, u23, u24, u25, u26, u27, u28, u29, u30, u31, u32, u33, u34, u35, u36, u37, u38, u39, u40, u41, u42, u43, u44, u45, u46, u47, u48, u49, u50, u51, u52, u53, u54, u55, u56, u57, u58, u59, u60, u61, u62, u63, u64, u65, u66, u67, u68, u69, u70, u71, u72, u73, u74, u75, u76, u77, u78, u79, u80, u81, u82, u83, u84, u85, u86, u87, u88, rfl, HI⟩
    clear HJ
    obtain ⟨hS, hi, hsc, hR, hA⟩ := HI.out
    obtain ⟨h0, h1, f0, f1⟩ := hS.cells
    have HM0 := Aside0.mk h0
    have HSc := Aside0.mk hsc
    have HA := Aside0.mk hA
    have HR := Aside0.mk hR
    have HS := Aside0.mk hS
    have hTs1 : i + (s.extract i s.size).size ≤ s.size := by rw [ByteArray.size_extract]; omega
    have hTs2 : s.size ≤ i + (s.extract i s.size).size := by rw [ByteArray.size_extract]; omega
    have hic := idx_cases (s.extract i s.size)
    have HXE := Aside0.mk (fun j h => ext_ext s i j h)
    have HXA := Aside0.mk (fun k h => ext_at s i k h)
    clear hS hR hA HI hsc
    generalize hT : s.extract i s.size = T at *
    have HT := Aside0.mk hT
    clear hT
    rcases hic with ⟨hx, hno⟩ | ⟨j, hj, hx, hno⟩
    · have HQ : Aside0 (∀ w : World, Calls Try.prog 51 #[.string T, .int .u8 157] w fun r w' => r = .returned (.int .i64 (-1)) ∧ w' = w) := ⟨fun w => (spIdx T 157 w).mono fun _ _ h => ⟨by rw [h.1, show ((157 : Int).toNat.toUInt8) = 157 from rfl, hx], h.2.symm⟩⟩
      have hscan : scanF s 0 = (s.size, 0) := by
        rw [HSc.out, scan_jump s (s.size - i) i (by omega) (fun k hk => by rw [← HXA.out k (by omega)]; exact hno k (by omega)), show i + (s.size - i) = s.size by omega, scan_end]
      have HNA : Aside0 (nxA s p = .tuple #[zeroF, .int .i64 0, .bool false]) := ⟨by unfold nxA; rw [hscan, if_neg (by simp)]⟩
      have HNS : Aside0 (nxS s = T.extract T.size T.size) := ⟨by
        unfold nxS
        rw [hscan, if_neg (by simp), HXE.out T.size (by omega), show i + T.size = s.size by omega]⟩
      have HNP : Aside0 (nxP s p = p + i + T.size) := ⟨by unfold nxP; rw [hscan, if_neg (by simp)]; show p + s.size = _; omega⟩
      clear hx hno hscan
      go_wp2_with fail
      go_quiet (first | (go_at_call 51; refine Calls.quiet_of_same (HQ.out _)))
      go_wp2_with fail
      have HS' : SP (W.drewN nq) gs T (p + i) := HS.out
      have HA' := HA.out.drewN nq
      have HR' : (W.drewN nq).heap[gf]? = _ := HR.out
      clear h0 h1 f0 f1 HS HA HR HM0
      generalize W.drewN nq = W1 at *
      refine (spPass HS' T.size (Nat.le_refl _) (by omega) (by omega)).mono ?_
      rintro e_ w1 ⟨rfl, hS1, hA1⟩
      have hR1 : w1.heap[gf]? = _ := (hA1.2.2 _ (Nat.ne_of_gt hgl)).trans HR'
      have HA1 := Aside0.mk (HA'.alone hA1)
      have HS1 := Aside0.mk hS1
      clear hA1 hS1 HA' HS' HR'
      have qk0 : w1.cell? ⟨gf, 0, none⟩ = some (.int .u8 0) := (blk_cell hR1 0).trans rfl
      have qz0 : w1.frozen? ⟨gf, 0, none⟩ = false := blk_frozen hR1 0
      have qk1 : w1.cell? ⟨gf, 1, none⟩ = some (.int .u8 0) := (blk_cell hR1 1).trans rfl
      have qz1 : w1.frozen? ⟨gf, 1, none⟩ = false := blk_frozen hR1 1
      have qk2 : w1.cell? ⟨gf, 2, none⟩ = some (.int .u8 0) := (blk_cell hR1 2).trans rfl
      have qz2 : w1.frozen? ⟨gf, 2, none⟩ = false := blk_frozen hR1 2
      have qk3 : w1.cell? ⟨gf, 3, none⟩ = some (.int .u16 0) := (blk_cell hR1 3).trans rfl
      have qz3 : w1.frozen? ⟨gf, 3, none⟩ = false := blk_frozen hR1 3
      have qk4 : w1.cell? ⟨gf, 4, none⟩ = some (.int .u32 0) := (blk_cell hR1 4).trans rfl
      have qz4 : w1.frozen? ⟨gf, 4, none⟩ = false := blk_frozen hR1 4
      have qk5 : w1.cell? ⟨gf, 5, none⟩ = some (.int .u64 0) := (blk_cell hR1 5).trans rfl
      have qz5 : w1.frozen? ⟨gf, 5, none⟩ = false := blk_frozen hR1 5
      have qk6 : w1.cell? ⟨gf, 6, none⟩ = some (.int .u32 0) := (blk_cell hR1 6).trans rfl
      have qz6 : w1.frozen? ⟨gf, 6, none⟩ = false := blk_frozen hR1 6
      have qk7 : w1.cell? ⟨gf, 7, none⟩ = some (.bool false) := (blk_cell hR1 7).trans rfl
      have qz7 : w1.frozen? ⟨gf, 7, none⟩ = false := blk_frozen hR1 7
      have qk8 : w1.cell? ⟨gf, 8, none⟩ = some (.string ⟨#[]⟩) := (blk_cell hR1 8).trans rfl
      have qz8 : w1.frozen? ⟨gf, 8, none⟩ = false := blk_frozen hR1 8
      go_wp2_with fail
      try simp only [Exit.jump]
      refine bodyPost_ret (v := .tuple #[zeroF, .int .i64 0, .bool false]) (by simp [results, zeroF, Try.results27, go_sem, qk0, qk1, qk2, qk3, qk4, qk5, qk6, qk7, qk8]) rfl ⟨by rw [HNA.out], ?_, ?_⟩
      · rw [HNS.out, HNP.out]
        repeat (first | (with_reducible exact HS1.out) | refine SP.far ?_ (Nat.ne_of_lt hgl) _)
      · repeat (first | (with_reducible exact HA1.out) | refine Amid.set ?_ _ _ hge _)
    · have HQ : Aside0 (∀ w : World, Calls Try.prog 51 #[.string T, .int .u8 157] w fun r w' => r = .returned (.int .i64 (j : Int)) ∧ w' = w) := ⟨fun w => (spIdx T 157 w).mono fun _ _ h => ⟨by rw [h.1, show ((157 : Int).toNat.toUInt8) = 157 from rfl, hx], h.2.symm⟩⟩
      have hsc2 : scanF s 0 = scanF s (i + j) := by
        rw [HSc.out, scan_jump s j i (by omega) (fun k hk => by rw [← HXA.out k (by omega)]; exact hno k (by omega))]
      have hlt : i + j < s.size := by omega
      have hU := HXE.out j (by omega)
      clear hx hno HSc
      go_wp2_with fail
      go_quiet (first | (go_at_call 51; refine Calls.quiet_of_same (HQ.out _)))
      go_wp2_with fail
      have HS' : SP (W.drewN nq) gs T (p + i) := HS.out
      have HA' := HA.out.drewN nq
      have HR' : (W.drewN nq).heap[gf]? = _ := HR.out
      clear h0 h1 f0 f1 HS HA HR
      generalize W.drewN nq = W1 at *
      refine (spPass HS' j (by omega) (by omega) (by omega)).mono ?_
      rintro e_ w1 ⟨rfl, hS1, hA1⟩
      have HR1 := Aside0.mk ((hA1.2.2 _ (Nat.ne_of_gt hgl)).trans HR')
      have HA1 := Aside0.mk (HA'.alone hA1)
      rw [hU, show p + i + j = p + (i + j) by omega] at hS1
      have HS1 := Aside0.mk hS1
      have HL : Aside0 (i + j < s.size ∧ T.size = s.size - i ∧ i ≤ i + j) := ⟨hlt, by omega, Nat.le_add_right _ _⟩
      clear hA1 HA' HS' HR' hU hj HXE HXA HQ
      obtain ⟨h0, h1, f0, f1⟩ := hS1.cells
      clear hS1
      generalize hq : i + j = q at *
      clear hq
      obtain ⟨U, hUd⟩ : ∃ U, U = s.extract q s.size := ⟨_, rfl⟩
      have hUs1 : q + U.size ≤ s.size := by rw [hUd, ByteArray.size_extract]; omega
      have hUs2 : s.size ≤ q + U.size := by rw [hUd, ByteArray.size_extract]; omega
      rw [← hUd] at HS1 h0
      have hh := head_val U (by omega)
      have k1 := cls1 U
      have k2 := cls2 U (by omega)
      have k3 := cls3 U
      obtain ⟨n, ok, hv⟩ : ∃ n ok, headV U = (n, ok) := ⟨_, _, rfl⟩
      rw [hv] at hh k1 k2 k3
      dsimp only at k1 k2 k3
      have HH := Aside0.mk hh
      have K1 := Aside0.mk k1
      have K2 := Aside0.mk k2
      have K3 := Aside0.mk k3
      have HU := Aside0.mk hUd
      have HSC := Aside0.mk hsc2
      clear hh k1 k2 k3 hv hUd hsc2
      go_wp2_with fail
      refine (PF.frame_head.calls 12 U _ _ w1 HH.out).mono ?_
      rintro e_ w2 ⟨rfl, hb2⟩
      have HA2 := Aside0.mk (HA1.out.below hb2)
      have HS2 := Aside0.mk (HS1.out.below hb2)
      have HR2 := Aside0.mk ((hb2.block _ (blk_lt HR1.out)).trans HR1.out)
      clear h0 h1 f0 f1 HS1 HA1 HR1 hb2
      obtain ⟨h0, h1, f0, f1⟩ := HS2.out.cells
      have hw1 : U.size ≠ 0 := by omega
      cases ok with
      | false =>
        obtain ⟨y1, y2⟩ := K1.out rfl
        have HN : Aside0 (scanF s 0 = scanF s (q + 1)) := ⟨by rw [HSC.out]; exact scan_skip s q (by omega) (by rw [← HU.out]; exact y1) (by rw [← HU.out]; exact y2)⟩
        clear y1 y2 K1 K2 K3 HH
        go_wp2_with fail
        refine (spPass HS2.out 1 (by omega) (by omega) (by omega)).mono ?_
        rintro e_ w3 ⟨rfl, hS3, hA3⟩
        rw [show (U.extract 1 U.size) = s.extract (q + 1) s.size by rw [HU.out]; exact ext_ext s q 1 (by omega), show p + q + 1 = p + (q + 1) by omega] at hS3
        have HJ3 : Aside0 (NxJ w w3 gs gf s p (q + 1)) := ⟨⟨hS3, by omega, HN.out, (hA3.2.2 _ (Nat.ne_of_gt hgl)).trans HR2.out, HA2.out.alone hA3⟩⟩
        clear HS2 HA2 HR2 hS3 hA3 h0 h1 f0 f1 hw1
        go_wp2_with fail
        go_step3
        refine ⟨rfl, ⟨q + 1, _, _, _, _, _, _, _, _, _, _, _, _, _, _, _, _, _, _, _, _, _, _, _, _, _, _, _, _, _, _, _, _, _, _, _, _, _, _, _, _, _, _, _, _, _, _, _, _, _, _, _, _, _, _, _, _, _, _, _, _, _, _, _, _, _, _, _, _, _, _, _, _, _, _, _, _, _, _, _, _, _, _, _, _, rfl, HJ3⟩, ?_⟩
        have e1 := (SP.cells (HJ3).out.1).1
        rw [nxM_of e1, nxM_of HM0.out, ByteArray.size_extract]
        have := HL.out
        omega
      | true =>
        by_cases hn : n = 0 ∨ (U.size : Int) < n
        · obtain ⟨y1, y2⟩ := K2.out rfl hn
          have hscan : scanF s 0 = (q, 1) := by rw [HSC.out]; exact scan_may s q (by omega) (by rw [← HU.out]; exact y1) (by rw [← HU.out]; exact y2)
          have HNA : Aside0 (nxA s p = .tuple #[zeroF, .int .i64 0, .bool false]) := ⟨by unfold nxA; rw [hscan, if_neg (by simp)]⟩
          have HNS : Aside0 (nxS s = U) := ⟨by unfold nxS; rw [hscan, if_neg (by simp), HU.out]⟩
          have HNP : Aside0 (nxP s p = p + q) := ⟨by unfold nxP; rw [hscan, if_neg (by simp)]⟩
          clear y1 y2 K1 K2 K3 HH hscan
          have hR2 := HR2.out
          by_cases hn0 : n = 0
          · subst hn0
            clear hn
            have qk0 : w2.cell? ⟨gf, 0, none⟩ = some (.int .u8 0) := (blk_cell hR2 0).trans rfl
            have qz0 : w2.frozen? ⟨gf, 0, none⟩ = false := blk_frozen hR2 0
            have qk1 : w2.cell? ⟨gf, 1, none⟩ = some (.int .u8 0) := (blk_cell hR2 1).trans rfl
            have qz1 : w2.frozen? ⟨gf, 1, none⟩ = false := blk_frozen hR2 1
            have qk2 : w2.cell? ⟨gf, 2, none⟩ = some (.int .u8 0) := (blk_cell hR2 2).trans rfl
            have qz2 : w2.frozen? ⟨gf, 2, none⟩ = false := blk_frozen hR2 2
            have qk3 : w2.cell? ⟨gf, 3, none⟩ = some (.int .u16 0) := (blk_cell hR2 3).trans rfl
            have qz3 : w2.frozen? ⟨gf, 3, none⟩ = false := blk_frozen hR2 3
            have qk4 : w2.cell? ⟨gf, 4, none⟩ = some (.int .u32 0) := (blk_cell hR2 4).trans rfl
            have qz4 : w2.frozen? ⟨gf, 4, none⟩ = false := blk_frozen hR2 4
            have qk5 : w2.cell? ⟨gf, 5, none⟩ = some (.int .u64 0) := (blk_cell hR2 5).trans rfl
            have qz5 : w2.frozen? ⟨gf, 5, none⟩ = false := blk_frozen hR2 5
            have qk6 : w2.cell? ⟨gf, 6, none⟩ = some (.int .u32 0) := (blk_cell hR2 6).trans rfl
            have qz6 : w2.frozen? ⟨gf, 6, none⟩ = false := blk_frozen hR2 6
            have qk7 : w2.cell? ⟨gf, 7, none⟩ = some (.bool false) := (blk_cell hR2 7).trans rfl
            have qz7 : w2.frozen? ⟨gf, 7, none⟩ = false := blk_frozen hR2 7
            have qk8 : w2.cell? ⟨gf, 8, none⟩ = some (.string ⟨#[]⟩) := (blk_cell hR2 8).trans rfl
            have qz8 : w2.frozen? ⟨gf, 8, none⟩ = false := blk_frozen hR2 8
            go_wp2_with fail
            try (go_quiet (fail); go_wp2_with fail)
            try simp only [Exit.jump]
            refine bodyPost_ret (v := .tuple #[zeroF, .int .i64 0, .bool false]) (by simp [results, zeroF, Try.results27, go_sem, qk0, qk1, qk2, qk3, qk4, qk5, qk6, qk7, qk8]) rfl ⟨by rw [HNA.out], ?_, ?_⟩
            · rw [HNS.out, HNP.out]
              repeat (first | (with_reducible exact HS2.out) | refine SP.far ?_ (Nat.ne_of_lt hgl) _)
            · repeat (first | (with_reducible exact HA2.out) | refine Amid.set ?_ _ _ hge _)
          · have hn1 : (n == 0) = false := by rw [beq_eq_false_iff_ne]; exact hn0
            have hn2 : (U.size : Int) < n := hn.resolve_left hn0
            have hn3 : decide ((U.size : Int) < n) = true := decide_eq_true hn2
            clear hn hn0
            have qk0 : w2.cell? ⟨gf, 0, none⟩ = some (.int .u8 0) := (blk_cell hR2 0).trans rfl
            have qz0 : w2.frozen? ⟨gf, 0, none⟩ = false := blk_frozen hR2 0
            have qk1 : w2.cell? ⟨gf, 1, none⟩ = some (.int .u8 0) := (blk_cell hR2 1).trans rfl
            have qz1 : w2.frozen? ⟨gf, 1, none⟩ = false := blk_frozen hR2 1
            have qk2 : w2.cell? ⟨gf, 2, none⟩ = some (.int .u8 0) := (blk_cell hR2 2).trans rfl
            have qz2 : w2.frozen? ⟨gf, 2, none⟩ = false := blk_frozen hR2 2
            have qk3 : w2.cell? ⟨gf, 3, none⟩ = some (.int .u16 0) := (blk_cell hR2 3).trans rfl
            have qz3 : w2.frozen? ⟨gf, 3, none⟩ = false := blk_frozen hR2 3
            have qk4 : w2.cell? ⟨gf, 4, none⟩ = some (.int .u32 0) := (blk_cell hR2 4).trans rfl
            have qz4 : w2.frozen? ⟨gf, 4, none⟩ = false := blk_frozen hR2 4
            have qk5 : w2.cell? ⟨gf, 5, none⟩ = some (.int .u64 0) := (blk_cell hR2 5).trans rfl
            have qz5 : w2.frozen? ⟨gf, 5, none⟩ = false := blk_frozen hR2 5
            have qk6 : w2.cell? ⟨gf, 6, none⟩ = some (.int .u32 0) := (blk_cell hR2 6).trans rfl
            have qz6 : w2.frozen? ⟨gf, 6, none⟩ = false := blk_frozen hR2 6
            have qk7 : w2.cell? ⟨gf, 7, none⟩ = some (.bool false) := (blk_cell hR2 7).trans rfl
            have qz7 : w2.frozen? ⟨gf, 7, none⟩ = false := blk_frozen hR2 7
            have qk8 : w2.cell? ⟨gf, 8, none⟩ = some (.string ⟨#[]⟩) := (blk_cell hR2 8).trans rfl
            have qz8 : w2.frozen? ⟨gf, 8, none⟩ = false := blk_frozen hR2 8
            go_wp2_with fail
            try (go_quiet (fail); go_wp2_with fail)
            try simp only [Exit.jump]
            refine bodyPost_ret (v := .tuple #[zeroF, .int .i64 0, .bool false]) (by simp [results, zeroF, Try.results27, go_sem, qk0, qk1, qk2, qk3, qk4, qk5, qk6, qk7, qk8]) rfl ⟨by rw [HNA.out], ?_, ?_⟩
            · rw [HNS.out, HNP.out]
              repeat (first | (with_reducible exact HS2.out) | refine SP.far ?_ (Nat.ne_of_lt hgl) _)
            · repeat (first | (with_reducible exact HA2.out) | refine Amid.set ?_ _ _ hge _)
        · obtain ⟨y0, y1, y2, y3, y4, y5⟩ := K3.out rfl hn
          have hstep : ¬ StP U → scanF s 0 = scanF s (q + 1) := fun h => by rw [HSC.out]; exact scan_skip s q (by omega) (by rw [← HU.out]; exact h) (by rw [← HU.out]; exact y4)
          have hfr : StP U → scanF s 0 = (q, 2) := fun h => by rw [HSC.out]; exact scan_st s q (by omega) (by rw [← HU.out]; exact h)
          have hdk : StP U → DecOk (U.extract 0 (nOf U)) := fun h => h.2.2
          have hcut : ∀ m, m ≤ U.size → U.extract 0 m = s.extract q (q + m) := fun m hm => by
            rw [HU.out, ByteArray.extract_extract]
            congr 1
            omega
          have hcut2 : ∀ m, m ≤ U.size → U.extract m U.size = s.extract (q + m) s.size := fun m hm => by
            rw [HU.out]; exact ext_ext s q m (by rw [← HU.out] at *; omega)
          have hnU : nOf (s.extract q s.size) = nOf U := by rw [HU.out]
          have HC2 := Aside0.mk hcut2
          have HC1 := Aside0.mk hcut
          have HNU := Aside0.mk hnU
          have HST := Aside0.mk hstep
          have HFR := Aside0.mk hfr
          have HDK := Aside0.mk hdk
          have HY5 := Aside0.mk y5
          clear hn y4 y5 K1 K2 K3 HH hstep hfr hdk hcut hcut2 hnU
          generalize nOf U = m at *
          subst y0
          have hm0 : ((m : Int) == 0) = false := by rw [beq_eq_false_iff_ne]; omega
          have hm1 : decide ((U.size : Int) < (m : Int)) = false := decide_eq_false (by omega)
          have hm2 : ¬ (U.size : Int) < (m : Int) := by omega
          have hm3 : (m : Int) ≤ (U.size : Int) := by omega
          have hxs : (U.extract 0 m).size ≤ 8192 := by rw [ByteArray.size_extract]; omega
          by_cases hd : DecOk (U.extract 0 m)
          · have hst := HY5.out hd
            have hscan := HFR.out hst
            obtain ⟨a, b, c, d, e, t, g, hh, bd, hdec⟩ : ∃ a b c d e t g hh bd, decT (U.extract 0 m) = (a, b, c, d, e, t, g, hh, bd, 0) := ⟨_, _, _, _, _, _, _, _, _, by unfold decT; rw [if_pos hd]⟩
            have HNA : Aside0 (nxA s p = .tuple #[.agg #[.int .u8 a, .int .u8 b, .int .u8 c, .int .u16 d, .int .u32 e, .int .u64 t, .int .u32 g, .bool hh, .string bd], .int .i64 ((p + q : Nat) : Int), .bool true]) := ⟨by
              unfold nxA
              rw [hscan, if_pos rfl]
              dsimp only
              rw [HNU.out, ← HC1.out m (by omega), hdec]⟩
            have HNS : Aside0 (nxS s = U.extract m U.size) := ⟨by unfold nxS; rw [hscan, if_pos rfl]; dsimp only; rw [HNU.out, HC2.out m (by omega)]⟩
            have HNP : Aside0 (nxP s p = 0) := ⟨by unfold nxP; rw [hscan, if_pos rfl]⟩
            have HD : Aside0 (frame_Decode.f (U.extract 0 m) = some (a, b, c, d, e, t, g, hh, bd, 0)) := ⟨by rw [frame_Decode.f, if_pos (by omega), hdec]⟩
            clear hst hscan hdec hd HST HFR HDK HY5 HNU HC1
            go_wp2_with fail
            try (go_quiet (fail); go_wp2_with fail)
            refine (frame_Decode.calls _ _ _ _ _ _ _ _ _ _ _ w2 HD.out).mono ?_
            rintro e_ w3 ⟨rfl, hb3⟩
            have HA3 := Aside0.mk (HA2.out.below hb3)
            have HS3 := Aside0.mk (HS2.out.below hb3)
            have hR3 := (hb3.block _ (blk_lt HR2.out)).trans HR2.out
            clear h0 h1 f0 f1 HS2 HA2 HR2 hb3
            have hB4 := (Below.refl w3.heap.size w3).alloc (Nat.le_refl _) (.cells #[.int .u8 a, .int .u8 b, .int .u8 c, .int .u16 d, .int .u32 e, .int .u64 t, .int .u32 g, .bool hh, .string bd] 28)
            have HA4 := Aside0.mk (HA3.out.below hB4)
            have HS4 := Aside0.mk (HS3.out.below hB4)
            have hR4 := (hB4.block _ (blk_lt hR3)).trans hR3
            have hF4 := W_push w3 #[.int .u8 a, .int .u8 b, .int .u8 c, .int .u16 d, .int .u32 e, .int .u64 t, .int .u32 g, .bool hh, .string bd] 28 (0, 0)
            have hne : gf < w3.heap.size := blk_lt hR3
            have hg3 : gs < w3.heap.size := by omega
            obtain ⟨k0, k1, l0, l1⟩ := HS3.out.cells
            clear hB4
            obtain ⟨h0, h1, f0, f1⟩ := HS4.out.cells
            have qk0 : w3.cell? ⟨gf, 0, none⟩ = some (.int .u8 0) := (blk_cell hR3 0).trans rfl
            have qz0 : w3.frozen? ⟨gf, 0, none⟩ = false := blk_frozen hR3 0
            have qk1 : w3.cell? ⟨gf, 1, none⟩ = some (.int .u8 0) := (blk_cell hR3 1).trans rfl
            have qz1 : w3.frozen? ⟨gf, 1, none⟩ = false := blk_frozen hR3 1
            have qk2 : w3.cell? ⟨gf, 2, none⟩ = some (.int .u8 0) := (blk_cell hR3 2).trans rfl
            have qz2 : w3.frozen? ⟨gf, 2, none⟩ = false := blk_frozen hR3 2
            have qk3 : w3.cell? ⟨gf, 3, none⟩ = some (.int .u16 0) := (blk_cell hR3 3).trans rfl
            have qz3 : w3.frozen? ⟨gf, 3, none⟩ = false := blk_frozen hR3 3
            have qk4 : w3.cell? ⟨gf, 4, none⟩ = some (.int .u32 0) := (blk_cell hR3 4).trans rfl
            have qz4 : w3.frozen? ⟨gf, 4, none⟩ = false := blk_frozen hR3 4
            have qk5 : w3.cell? ⟨gf, 5, none⟩ = some (.int .u64 0) := (blk_cell hR3 5).trans rfl
            have qz5 : w3.frozen? ⟨gf, 5, none⟩ = false := blk_frozen hR3 5
            have qk6 : w3.cell? ⟨gf, 6, none⟩ = some (.int .u32 0) := (blk_cell hR3 6).trans rfl
            have qz6 : w3.frozen? ⟨gf, 6, none⟩ = false := blk_frozen hR3 6
            have qk7 : w3.cell? ⟨gf, 7, none⟩ = some (.bool false) := (blk_cell hR3 7).trans rfl
            have qz7 : w3.frozen? ⟨gf, 7, none⟩ = false := blk_frozen hR3 7
            have qk8 : w3.cell? ⟨gf, 8, none⟩ = some (.string ⟨#[]⟩) := (blk_cell hR3 8).trans rfl
            have qz8 : w3.frozen? ⟨gf, 8, none⟩ = false := blk_frozen hR3 8
            go_wp2_with fail
            try simp only [Exit.jump]
            clear h0 h1 f0 f1 k0 k1 l0 l1 qk0 qz0 qk1 qz1 qk2 qz2 qk3 qz3 qk4 qz4 qk5 qz5 qk6 qz6 qk7 qz7 qk8 qz8
            have hS5 : SP ((w3.setCell ⟨gs, 0, none⟩ (.string (U.extract m U.size))).setCell ⟨gs, 1, none⟩ (.int .i64 0)) gs (U.extract m U.size) 0 := blk_set (blk_set HS3.out 0 (.string (U.extract m U.size))) 1 (.int .i64 0)
            have hA5 : Alone w3 ((w3.setCell ⟨gs, 0, none⟩ (.string (U.extract m U.size))).setCell ⟨gs, 1, none⟩ (.int .i64 0)) gs := (Alone_set w3 0 gs 0 (.string (U.extract m U.size))).trans (Alone_set _ 0 gs 1 (.int .i64 0))
            generalize (w3.setCell ⟨gs, 0, none⟩ (.string (U.extract m U.size))).setCell ⟨gs, 1, none⟩ (.int .i64 0) = W5 at hS5 hA5 ⊢
            have hR5 := (hA5.2.2 gf (by omega)).trans hR3
            have hR6 := put9_row hR5 (.int .u8 a) (.int .u8 b) (.int .u8 c) (.int .u16 d) (.int .u32 e) (.int .u64 t) (.int .u32 g) (.bool hh) (.string bd)
            have hA6 := put9_alone W5 gf (.int .u8 a) (.int .u8 b) (.int .u8 c) (.int .u16 d) (.int .u32 e) (.int .u64 t) (.int .u32 g) (.bool hh) (.string bd)
            rw [put9_def]
            generalize put9 W5 gf (.int .u8 a) (.int .u8 b) (.int .u8 c) (.int .u16 d) (.int .u32 e) (.int .u64 t) (.int .u32 g) (.bool hh) (.string bd) = W6 at hR6 hA6 ⊢
            have hS6 := hS5.alone hA6 (by omega)
            have A6 : Amid w W6 gs := (HA3.out.alone hA5).other hA6 hge
            have hB7 := (Below.refl W6.heap.size W6).alloc (Nat.le_refl _) (.cells #[.int .u8 a, .int .u8 b, .int .u8 c, .int .u16 d, .int .u32 e, .int .u64 t, .int .u32 g, .bool hh, .string bd] 28)
            have hR7 := (hB7.block _ (blk_lt hR6)).trans hR6
            have hS7 := hS6.below hB7
            have A7 := A6.below hB7
            generalize W6.alloc (.cells #[.int .u8 a, .int .u8 b, .int .u8 c, .int .u16 d, .int .u32 e, .int .u64 t, .int .u32 g, .bool hh, .string bd] 28) = W7 at hR7 hS7 A7 ⊢
            have yk0 : W7.cell? ⟨gf, 0, none⟩ = some (.int .u8 a) := (blk_cell hR7 0).trans rfl
            have yz0 : W7.frozen? ⟨gf, 0, none⟩ = false := blk_frozen hR7 0
            have yk1 : W7.cell? ⟨gf, 1, none⟩ = some (.int .u8 b) := (blk_cell hR7 1).trans rfl
            have yz1 : W7.frozen? ⟨gf, 1, none⟩ = false := blk_frozen hR7 1
            have yk2 : W7.cell? ⟨gf, 2, none⟩ = some (.int .u8 c) := (blk_cell hR7 2).trans rfl
            have yz2 : W7.frozen? ⟨gf, 2, none⟩ = false := blk_frozen hR7 2
            have yk3 : W7.cell? ⟨gf, 3, none⟩ = some (.int .u16 d) := (blk_cell hR7 3).trans rfl
            have yz3 : W7.frozen? ⟨gf, 3, none⟩ = false := blk_frozen hR7 3
            have yk4 : W7.cell? ⟨gf, 4, none⟩ = some (.int .u32 e) := (blk_cell hR7 4).trans rfl
            have yz4 : W7.frozen? ⟨gf, 4, none⟩ = false := blk_frozen hR7 4
            have yk5 : W7.cell? ⟨gf, 5, none⟩ = some (.int .u64 t) := (blk_cell hR7 5).trans rfl
            have yz5 : W7.frozen? ⟨gf, 5, none⟩ = false := blk_frozen hR7 5
            have yk6 : W7.cell? ⟨gf, 6, none⟩ = some (.int .u32 g) := (blk_cell hR7 6).trans rfl
            have yz6 : W7.frozen? ⟨gf, 6, none⟩ = false := blk_frozen hR7 6
            have yk7 : W7.cell? ⟨gf, 7, none⟩ = some (.bool hh) := (blk_cell hR7 7).trans rfl
            have yz7 : W7.frozen? ⟨gf, 7, none⟩ = false := blk_frozen hR7 7
            have yk8 : W7.cell? ⟨gf, 8, none⟩ = some (.string bd) := (blk_cell hR7 8).trans rfl
            have yz8 : W7.frozen? ⟨gf, 8, none⟩ = false := blk_frozen hR7 8
            refine bodyPost_ret (v := .tuple #[.agg #[.int .u8 a, .int .u8 b, .int .u8 c, .int .u16 d, .int .u32 e, .int .u64 t, .int .u32 g, .bool hh, .string bd], .int .i64 ((p + q : Nat) : Int), .bool true]) (by simp [results, Try.results27, go_sem, yk0, yk1, yk2, yk3, yk4, yk5, yk6, yk7, yk8]) rfl ⟨by rw [HNA.out], by rw [HNS.out, HNP.out]; exact hS7, A7⟩
          · have HN := Aside0.mk (HST.out (fun h => hd (HDK.out h)))
            have HD : Aside0 (frame_Decode.f (U.extract 0 m) = some (0, 0, 0, 0, 0, 0, 0, false, ⟨#[]⟩, 210)) := ⟨by rw [frame_Decode.f, if_pos (by omega), decT_bad _ hd]⟩
            clear hd HST HFR HDK HY5 HNU HC1
            go_wp2_with fail
            try (go_quiet (fail); go_wp2_with fail)
            refine (frame_Decode.calls _ _ _ _ _ _ _ _ _ _ _ w2 HD.out).mono ?_
            rintro e_ w3 ⟨rfl, hb3⟩
            have HA3 := Aside0.mk (HA2.out.below hb3)
            have HS3 := Aside0.mk (HS2.out.below hb3)
            have hR3 := (hb3.block _ (blk_lt HR2.out)).trans HR2.out
            clear h0 h1 f0 f1 HS2 HA2 HR2 hb3
            have hB4 := (Below.refl w3.heap.size w3).alloc (Nat.le_refl _) (.cells #[.int .u8 0, .int .u8 0, .int .u8 0, .int .u16 0, .int .u32 0, .int .u64 0, .int .u32 0, .bool false, .string ⟨#[]⟩] 28)
            have HA4 := Aside0.mk (HA3.out.below hB4)
            have HS4 := Aside0.mk (HS3.out.below hB4)
            have hR4 := (hB4.block _ (blk_lt hR3)).trans hR3
            have hF4 := W_push w3 #[.int .u8 0, .int .u8 0, .int .u8 0, .int .u16 0, .int .u32 0, .int .u64 0, .int .u32 0, .bool false, .string ⟨#[]⟩] 28 (0, 0)
            have hne : gf < w3.heap.size := blk_lt hR3
            have hg3 : gs < w3.heap.size := by omega
            obtain ⟨k0, k1, l0, l1⟩ := HS3.out.cells
            clear hB4
            obtain ⟨h0, h1, f0, f1⟩ := HS4.out.cells
            go_wp2_with fail
            clear h0 h1 f0 f1 k0 k1 l0 l1 hF4
            generalize w3.alloc (.cells #[.int .u8 0, .int .u8 0, .int .u8 0, .int .u16 0, .int .u32 0, .int .u64 0, .int .u32 0, .bool false, .string ⟨#[]⟩] 28) = w4 at *
            refine (spPass HS4.out 1 (by omega) (by omega) (by omega)).mono ?_
            rintro e_ w5 ⟨rfl, hS5, hA5⟩
            rw [show (U.extract 1 U.size) = s.extract (q + 1) s.size by rw [HU.out]; exact ext_ext s q 1 (by omega), show p + q + 1 = p + (q + 1) by omega] at hS5
            have HJ5 : Aside0 (NxJ w w5 gs gf s p (q + 1)) := ⟨⟨hS5, by omega, HN.out, (hA5.2.2 _ (Nat.ne_of_gt hgl)).trans hR4, HA4.out.alone hA5⟩⟩
            clear HS4 HA4 hR4 HS3 HA3 hR3 hS5 hA5
            go_wp2_with fail
            go_step3
            refine ⟨rfl, ⟨q + 1, _, _, _, _, _, _, _, _, _, _, _, _, _, _, _, _, _, _, _, _, _, _, _, _, _, _, _, _, _, _, _, _, _, _, _, _, _, _, _, _, _, _, _, _, _, _, _, _, _, _, _, _, _, _, _, _, _, _, _, _, _, _, _, _, _, _, _, _, _, _, _, _, _, _, _, _, _, _, _, _, _, _, _, _, rfl, HJ5⟩, ?_⟩
            have e1 := (SP.cells (HJ5).out.1).1
            rw [nxM_of e1, nxM_of HM0.out, ByteArray.size_extract]
            have := HL.out
            omega
end Go.Proofs.Ytgboppgghidgbaa.My
