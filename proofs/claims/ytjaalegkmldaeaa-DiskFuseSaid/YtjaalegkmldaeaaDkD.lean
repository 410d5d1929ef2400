/- Read, Durable. -/
import Derived.Test.YtjaalegkmldaeaaDkN
namespace Go.Proofs.Ytjaalegkmldaeaa.My
open Go.RowKit Go.Proofs.YtjaalegkmldaeaaW.PrintWords Go.Proofs.YtjaalegkmldaeaaW.PrintLast Go.Proofs.YtjaalegkmldaeaaW.PrintMore Go.Proofs.Ytjaalegkmldaeaa Go.Maps
set_option linter.unusedSimpArgs false
set_option linter.unusedVariables false
set_option maxRecDepth 100000
set_option maxHeartbeats 1600000
theorem C_of_row {k : IntKind} {w : World} {ad : Addr} {xs : List Int} (hn : xs.length ≤ 9223372036854775807) (h : ∀ j v, (xs.map (Value.int k))[j]? = some v → w.cell? (ad.add j) = some v) : Kd.C (Kd.int k) w (some ad) xs.length xs := by
  refine ⟨rfl, hn, fun _ => ⟨ad, rfl, fun j x hj => ⟨[.int k x], rfl, rfl, fun i u hi => ?_⟩⟩⟩
  cases i with
  | succ i => cases hi
  | zero =>
    obtain rfl := Option.some.inj hi
    have h1 := h j (.int k x) (by rw [List.getElem?_map, hj]; rfl)
    simpa [Kd.int, Kd.scalar] using h1
theorem bytesOf_len (s : ByteArray) : (bytesOf s).length = s.size := by
  unfold bytesOf
  rw [List.length_map]
  rfl
/-- A page of the disk's row, read as bytes. -/
theorem C_page {w : World} {L i : Nat} {l : List ByteArray} (hPS : PgOk l) (hi : i < l.length) (hL : w.heap[L]? = some (.cells (pgs l).toArray 74 (0, 0))) : Kd.C (Kd.int .u8) w (some ⟨L, i * 1024, none⟩) 1024 (bytesOf l[i]) := by
  have hs : l[i].size = 1024 := hPS _ (List.getElem_mem hi)
  have h := C_of_row (k := .u8) (w := w) (ad := ⟨L, i * 1024, none⟩) (xs := bytesOf l[i]) (by rw [bytesOf_len, hs]; decide) (fun j v hj => by
    have h1 := pgs_at l hPS i hi j v hj
    have h2 := blk_cell hL (1024 * i + j)
    rw [List.getElem?_toArray, h1] at h2
    have e : (⟨L, i * 1024, none⟩ : Addr).add j = ⟨L, 1024 * i + j, none⟩ := by
      unfold Addr.add
      split
      · rename_i h0; subst h0; rw [Nat.add_zero, Nat.mul_comm]
      · rw [Nat.mul_comm]
    rw [e]
    exact h2)
  rw [bytesOf_len, hs] at h
  exact h
theorem str_bytes (s : ByteArray) : strOfNums (bytesOf s) = s := by
  have e : ((s.data.toList.map fun b => (b.toNat : Int)).map fun n => UInt8.ofNat n.toNat) = s.data.toList := by
    rw [List.map_map]
    conv => rhs; rw [← List.map_id s.data.toList]
    refine List.map_congr_left (fun b _ => ?_)
    simp
  unfold strOfNums bytesOf
  rw [e]
theorem infoStr : (Try.prog.info? 9).map (fun i => (i.zero, i.size, i.bytes)) = some (some (.string ⟨#[]⟩), 1, 16) := by kernel_rfl
theorem durable_calls (w : World) (own : Nat → Prop) (g : Nat) (d : Dk) (hd : DiskAt w own g d) :
    Calls Try.prog 16 #[.pointer (some ⟨g, 0, none⟩)] w fun e w' => ∃ v, e = .returned v ∧ Kd.R Kd.string 9 w' w.heap.size (fun _ => True) v d.lies ∧ Below w.heap.size w w' := by
  obtain ⟨L, M, pv, ps, lf, D, h⟩ := hd
  have hok := h.ok
  have c0 : w.cell? ⟨g, 0, none⟩ = some (.slice (some ⟨L, 0, none⟩) d.lies.length d.lies.length) := (blk_cell h.hg 0).trans rfl
  have HG := Aside0.mk (And.intro h.hg (h.lt g h.og))
  have HL := Aside0.mk (And.intro h.hL (h.lt L h.oL))
  have HOK := Aside0.mk hok
  have hmk : (Instr.makeSlice 37 (.int .i64 0) (.int .i64 (d.lies.length : Int))).run Try.prog w = .ok (.slice (some ⟨w.heap.size, 0, none⟩) 0 d.lies.length) (w.alloc (.cells (madeCells #[.string ⟨#[]⟩] d.lies.length) 9)) := by
    obtain ⟨i0, hi, hzz⟩ := Option.map_eq_some_iff.1 infoStr
    simp only [Prod.mk.injEq] at hzz
    have h1 := run_make (P := Try.prog) w 37 9 i0 _ Try.underlying37 hi hzz.1 .i64 .i64 0 (d.lies.length : Int) (by omega) (by omega) (by rw [hzz.2.2]; have := hok.few; omega) (by have := hok.few; omega)
    rw [h1, hzz.2.1, Int.toNat_natCast, Nat.mul_one]
    rfl
  have hr0 : Kd.R Kd.string 9 (w.alloc (.cells (madeCells #[.string ⟨#[]⟩] d.lies.length) 9)) w.heap.size (fun _ => True) (.slice (some ⟨w.heap.size, 0, none⟩) 0 d.lies.length) [] := by
    refine ⟨fun _ _ => trivial, [], ⟨rfl, .inr ⟨w.heap.size, d.lies.length, madeCells #[.string ⟨#[]⟩] d.lies.length, rfl, Nat.le_refl _, blk_new _ _, Nat.zero_le _, ?_, by rw [size_madeCells]; exact (Nat.mul_one _).symm, by simp⟩⟩, ?_⟩
    · have := hok.few
      unfold maxLen
      omega
    · exact ⟨rfl, fun j p hj => by cases hj⟩
  have hb0 : Below w.heap.size w (w.alloc (.cells (madeCells #[.string ⟨#[]⟩] d.lies.length) 9)) := (Below.refl _ _).alloc (Nat.le_refl _) _
  generalize hw1 : w.alloc (.cells (madeCells #[.string ⟨#[]⟩] d.lies.length) 9) = w1 at *
  have hg1 := Aside0.mk (And.intro hr0 hb0)
  have c1 : w1.cell? ⟨g, 0, none⟩ = some (.slice (some ⟨L, 0, none⟩) d.lies.length d.lies.length) := (hb0.cell (p := ⟨g, 0, none⟩) HG.out.2).trans c0
  clear h hok hr0 hb0
  have hlen : d.lies.length ≤ 4096 := HOK.out.few
  go_enter Try.func16, Try.ntmps16
  go_wp2_with fail
  clear c0 c1 hmk hw1
  go_loopw [3, 4, 18] (fun v3 _ v18 wr => ∃ (i : Nat) (A : Option Addr) (c : Nat), v18 = .int .i64 (i : Int) ∧ v3 = .slice A i c ∧ i ≤ d.lies.length ∧ Kd.R Kd.string 9 wr w.heap.size (fun _ => True) (.slice A i c) (d.lies.take i) ∧ Below w.heap.size w wr)
    (fun _ _ v18 wr => mzD d.lies.length v18)
  case atStart => exact ⟨0, _, _, rfl, rfl, Nat.zero_le _, hg1.out.1, hg1.out.2⟩
  case round =>
    obtain ⟨i, A, c, rfl, rfl, hil, hr, hb⟩ := hrel
    have HR := Aside0.mk hr
    have HB := Aside0.mk hb
    clear hr hb
    have hLr : wr.heap[L]? = some (.cells (pgs d.lies).toArray 74 (0, 0)) := (HB.out.block L HL.out.2).trans HL.out.1
    have hgr : wr.heap[g]? = _ := (HB.out.block g HG.out.2).trans HG.out.1
    have c0 : wr.cell? ⟨g, 0, none⟩ = some (.slice (some ⟨L, 0, none⟩) d.lies.length d.lies.length) := (blk_cell hgr 0).trans rfl
    by_cases hi : i < d.lies.length
    · have d1 : ((i : Nat) : Int) < (d.lies.length : Int) := by omega
      have d0 : (0 : Int) ≤ (i : Int) := Int.natCast_nonneg i
      have d2 : decide (((i : Nat) : Int) < (d.lies.length : Int)) = true := decide_eq_true d1
      have hcv : (convert 34 9 (.slice (some ⟨L, i * 1024, none⟩) 1024 1024)).run Try.prog wr = .ok (.string d.lies[i]) wr := by
        have h1 := Kd.C_string (P := Try.prog) (src := 34) (dst := 9) (c := 1024) Try.underlying34 Try.underlying5 Try.underlying9 (C_page HOK.out.size hi hLr)
        rw [str_bytes] at h1
        exact h1
      have HT : Aside0 (d.lies.take (i + 1) = d.lies.take i ++ [d.lies[i]]) := ⟨List.take_succ_eq_append_getElem hi⟩
      obtain ⟨s, hs⟩ : ∃ s, s = d.lies[i] := ⟨_, rfl⟩
      rw [← hs] at hcv HT
      have HLN : Aside0 ((d.lies.take i ++ [s]).length = i + 1) := ⟨by rw [List.length_append, List.length_take]; simp only [List.length_cons, List.length_nil]; omega⟩
      have HI := Aside0.mk hi
      have HLE := Aside0.mk (show ((d.lies.take i).length + 1) * 16 ≤ 140737488355328 by rw [List.length_take]; omega)
      have hw1 : wrap64 ((i : Int) + 1) = ((i + 1 : Nat) : Int) := by unfold wrap64; omega
      clear hLr hgr hs hi hil
      go_wp2_with (first | ((with_reducible refine gate_builtin (b := .append) (xs := #[.tmp 21, .tmp 30]) rfl ?_); (try (refine gate_guard (by rfl) ?_; dsimp only)); at_builtin; refine Kd.R_append Kd.string (w0 := w) w.heap.size rfl (.tmp 21) (.tmp 30) 37 9 (.string ⟨#[]⟩) 16 rfl Try.underlying37 infoStr rfl (by decide) (by omega) (.slice A i c) (d.lies.take i) s [.string s] (fun _ => True) (fun _ => False) rfl rfl ?aP (fun _ hk => hk.elim) (fun _ _ => trivial) HR.out HB.out HB.out.size HLE.out ?_; (case aP => exact rfl); intro v1 w3 ho3 hb3 hg3 hat3; obtain ⟨A3, c3, e3⟩ := Kd.R_slice ho3; rw [HLN.out] at e3; subst e3) | go_in)
      rw [← HT.out] at ho3
      go_roundw
      case measure => first | exact mzD_step HI.out | (rw [hw1]; exact mzD_step HI.out)
      case rel => exact ⟨i + 1, A3, c3, by first | rfl | rw [hw1], rfl, Nat.succ_le_of_lt HI.out, ho3, hb3⟩
    · have hie : i = d.lies.length := by omega
      have d1 : ¬ ((i : Nat) : Int) < (d.lies.length : Int) := by omega
      have d2 : decide (((i : Nat) : Int) < (d.lies.length : Int)) = false := decide_eq_false d1
      have HE := Aside0.mk hie
      clear hie hi hil hLr hgr
      go_wp2_with fail
      go_ret
      have hr := HR.out
      rw [List.take_of_length_le (Nat.le_of_eq HE.out.symm)] at hr
      exact ⟨_, rfl, hr, HB.out⟩
theorem lastAt_val {d : Dk} (hok : DkOk d) {n k : Nat} (h : lastAt d.pend n = some k) : k < d.pend.length ∧ (d.pend.getD k (0, ⟨#[]⟩)).2.size = 1024 := by
  have hk := lastAt_lt _ _ _ h
  refine ⟨hk, ?_⟩
  rw [List.getD_eq_getElem?_getD, List.getElem?_eq_getElem hk]
  exact (hok.pend _ (List.getElem_mem hk)).2
theorem zero_ptr (w : World) : (zeroValue 72).run Try.prog w = .ok (.pointer none) w := by kernel_rfl
theorem row_of {w : World} {g base : Nat} {s : ByteArray} (hb : w.heap[g]? = some (.cells (pg s).toArray 5 (0, 0))) (hg : base ≤ g) (hs : s.size ≤ 1048576) : Kd.R (Kd.int .u8) 5 w base (fun _ => True) (.slice (some ⟨g, 0, none⟩) s.size s.size) (bytesOf s) := by
  refine ⟨fun _ _ => trivial, pg s, ⟨?_, .inr ⟨g, s.size, (pg s).toArray, ?_, hg, hb, by rw [bytesOf_len]; exact Nat.le_refl _, ?_, ?_, ?_⟩⟩, Kd.reps_scalar _⟩
  · rw [pg_len, bytesOf_len]
    exact (Nat.mul_one _).symm
  · rw [bytesOf_len]
  · unfold maxLen
    omega
  · show (pg s).length = _
    rw [pg_len]
    exact (Nat.mul_one _).symm
  · rw [bytesOf_len]
    show (pg s).take (s.size * 1) = _
    rw [Nat.mul_one, List.take_of_length_le (by rw [pg_len]; exact Nat.le_refl _)]
theorem bytes_made (w : World) (A : Addr) (s : ByteArray) (hs : s.size = 1024) (c : Nat) (hA : ∀ j v, (pg s)[j]? = some v → w.cell? (A.add j) = some v) :
    ∃ W2, (∀ ty, (Builtin.copy_ #[34, 34] ty #[.slice (some ⟨w.heap.size, 0, none⟩) 1024 1024, .slice (some A) 1024 c]).run Try.prog (w.alloc (.cells (madeCells #[.int .u8 0] 1024) 5)) = .ok (.int .i64 1024) W2) ∧ W2.heap[w.heap.size]? = some (.cells (pg s).toArray 5 (0, 0)) ∧ Below w.heap.size w W2 := by
  have h := fun ty => run_copy_row (P := Try.prog) (w.alloc (.cells (madeCells #[.int .u8 0] 1024) 5)) 34 34 ty 5 w.heap.size 0 1024 1024 A 1024 c (madeCells #[.int .u8 0] 1024) 5 (pg s) Try.underlying34 infoU8' (blk_new _ _) (by rw [pg_len, hs]; rfl) (fun j v hj => (World.cell?_of_block (Below.heap_alloc w _ _ (World.block_lt_of_cell? _ _ (hA j v hj)))).trans (hA j v hj)) (by rw [pg_len, hs, size_madeCells]; decide) (pg_one s)
  have e0 : ((madeCells #[Value.int .u8 0] 1024).toList.take 0 ++ pg s ++ (madeCells #[Value.int .u8 0] 1024).toList.drop (0 + (pg s).length)).toArray = (pg s).toArray := by
    rw [pg_len, hs, List.take_zero, List.nil_append, List.drop_of_length_le (by rw [Array.length_toList, size_madeCells]; decide), List.append_nil]
  rw [e0, pg_len, hs] at h
  exact ⟨_, h, setRow_heap _ _ _ _ _ _ (blk_new _ _), below_setRow ((Below.refl _ _).alloc (Nat.le_refl _) _) (Nat.le_refl _) _⟩
theorem read_full (w : World) (own : Nat → Prop) (g : Nat) (d : Dk) (hd : DiskAt w own g d) (m : Nat) (h0 : readyV d m = 0) (ab ao : Nat) (s : ByteArray) (hs : s.size = 1024) (hA : ∀ j v, (pg s)[j]? = some v → w.cell? ((⟨ab, ao, none⟩ : Addr).add j) = some v) (ok : Bool) (pz : Option Addr) (hok : ok = true → pz = some ⟨ab, ao, none⟩)
    (hAi : ok = false → ∃ L n, w.cell? ⟨g, 0, none⟩ = some (.slice (some ⟨L, 0, none⟩) n n) ∧ (m : Int) < (n : Int) ∧ ab = L ∧ ao = m * 1024)
    (M : Nat) (hM : w.cell? ⟨g, 2, none⟩ = some (.map (some M))) (hlk : (Instr.lookup 67 (.map (some M)) (.int .i64 (m : Int)) true).run Try.prog w = .ok (.tuple #[.pointer pz, .bool ok]) w) :
    Calls Try.prog 18 #[.pointer (some ⟨g, 0, none⟩), .int .i64 (m : Int)] w fun e w' => ∃ v, e = .returned (.tuple #[v, .int .i64 0]) ∧ Kd.R (Kd.int .u8) 5 w' w.heap.size (fun _ => True) v (bytesOf s) ∧ Below w.heap.size w w' := by
  have hmk : (Instr.makeSlice 34 (.int .i64 1024) (.int .i64 1024)).run Try.prog w = .ok (.slice (some ⟨w.heap.size, 0, none⟩) 1024 1024) (w.alloc (.cells (madeCells #[.int .u8 0] 1024) 5)) := by
    obtain ⟨i0, hi, hzz⟩ := Option.map_eq_some_iff.1 infoU8z
    simp only [Prod.mk.injEq] at hzz
    have h1 := run_make (P := Try.prog) w 34 5 i0 _ Try.underlying34 hi hzz.1 .i64 .i64 1024 1024 (by omega) (by omega) (by rw [hzz.2.2]; omega) (by omega)
    rw [h1, hzz.2.1]
    rfl
  obtain ⟨W2, hcp, hg2, hb2⟩ := bytes_made w ⟨ab, ao, none⟩ s hs 1024 hA
  have hd' := Aside0.mk (And.intro hd (And.intro hg2 hb2))
  have HS := Aside0.mk hs
  clear hA hg2 hb2 hs
  go_enter Try.func18, Try.ntmps18
  go_wp2_with fail
  refine (ready_calls w own g d hd'.out.1 m).mono ?_
  rintro e_ w' ⟨rfl, rfl⟩
  rw [h0]
  cases ok with
  | true =>
    obtain rfl := hok rfl
    clear hok hAi
    go_wp2_with fail
    go_ret2
    have hr := row_of (base := w'.heap.size) hd'.out.2.1 (Nat.le_refl _) (by rw [HS.out]; decide)
    rw [HS.out] at hr
    exact ⟨_, rfl, hr, hd'.out.2.2⟩
  | false =>
    obtain ⟨L, n, c0, hmn, rfl, rfl⟩ := hAi rfl
    have hm0 : (0 : Int) ≤ (m : Int) := Int.natCast_nonneg m
    clear hok hAi
    go_wp2_with fail
    go_ret2
    have hr := row_of (base := w'.heap.size) hd'.out.2.1 (Nat.le_refl _) (by rw [HS.out]; decide)
    rw [HS.out] at hr
    exact ⟨_, rfl, hr, hd'.out.2.2⟩
theorem read_calls (w : World) (own : Nat → Prop) (g : Nat) (d : Dk) (hd : DiskAt w own g d) (n : Int) (hn : (Lit.int .i64 n).wf = true) :
    Calls Try.prog 18 #[.pointer (some ⟨g, 0, none⟩), .int .i64 n] w fun e w' => ∃ v, e = .returned (.tuple #[v, .int .i64 (readV d n).2]) ∧ Kd.R (Kd.int .u8) 5 w' w.heap.size (fun _ => True) v (bytesOf (readV d n).1) ∧ Below w.heap.size w w' := by
  have hok := hd.ok
  by_cases h0 : readyV d n = 0
  · obtain ⟨hn0, hnl⟩ : 0 ≤ n ∧ n < (d.lies.length : Int) := by
      rcases readyV_cases d n with ⟨_, e⟩ | ⟨_, _, e⟩ | ⟨_, e1, e2, _⟩
      · rw [h0] at e; cases e
      · rw [h0] at e; cases e
      · exact ⟨e1, e2⟩
    obtain ⟨m, rfl⟩ : ∃ m : Nat, n = (m : Int) := ⟨n.toNat, by omega⟩
    have hml : m < d.lies.length := by omega
    obtain ⟨L, M, pv, ps, lf, D, h⟩ := hd
    have hg0 : w.cell? ⟨g, 0, none⟩ = some (.slice (some ⟨L, 0, none⟩) d.lies.length d.lies.length) := (blk_cell h.hg 0).trans rfl
    have hg2 : w.cell? ⟨g, 2, none⟩ = some (.map (some M)) := (blk_cell h.hg 2).trans rfl
    obtain ⟨v, vps, hlk, hv⟩ := h.hm.look_ok (int_keyed Try.underlying3) Try.underlying67 (zero_ptr w) (zd := .nil) (zp := []) rfl (key := .int .i64 (m : Int)) (kl := .int .i64 (m : Int)) (keyOf_int_mk Try.underlying3 hn)
    obtain ⟨t1, t2⟩ := h.tells (m : Int) hn
    rw [Int.toNat_natCast, decide_eq_true hn0, Bool.true_and] at t1
    cases hla : lastAt d.pend m with
    | some k =>
      obtain ⟨hk, hks⟩ := lastAt_val hok hla
      have hkp : k < ps.length := by rw [h.len]; exact hk
      have e := t2 k hn0 (by rw [Int.toNat_natCast]; exact hla) .nil
      rw [e] at hv
      rw [t1, hla] at hlk
      have hpk : ps.getD k 0 = ps[k] := by rw [List.getD_eq_getElem?_getD, List.getElem?_eq_getElem hkp]; rfl
      have hvp : v = .pointer (some ⟨ps[k], 0, none⟩) := by
        rcases ptrR_inv hv with ⟨b, eb, ez⟩ | ⟨eb, ez⟩
        · injection ez with ez _
          injection ez with ez
          injection ez with _ ez
          rw [eb, ← hpk, Int.ofNat.inj ez]
        · injection ez with ez _
          cases ez
      rw [hvp] at hlk
      have hval : readV d m = (d.pend[k].2, 0) := by
        unfold readV
        rw [if_neg (by rw [h0]; decide), Int.toNat_natCast, hla]
        dsimp only
        rw [List.getD_eq_getElem?_getD, List.getElem?_eq_getElem hk]
        rfl
      rw [hval]
      refine read_full w own g d ⟨L, M, pv, ps, lf, D, h⟩ m h0 ps[k] 0 d.pend[k].2 (hok.pend _ (List.getElem_mem hk)).2 (fun j v hj => ?_) true _ (fun _ => rfl) (fun e => by cases e) M hg2 hlk
      have := rangeAt_pg (h.hP k hkp hk) j v hj
      rw [Nat.zero_add] at this
      rw [add0]
      exact this
    | none =>
      rw [t1, hla] at hlk
      rw [hla] at t1
      have e := Maps.atKey_of_not_has t1 .nil
      rw [e] at hv
      have hvp : v = .pointer none := by
        rcases ptrR_inv hv with ⟨b, eb, ez⟩ | ⟨eb, ez⟩
        · injection ez with ez _
          cases ez
        · exact eb
      rw [hvp] at hlk
      have hval : readV d m = (d.lies[m], 0) := by
        unfold readV
        rw [if_neg (by rw [h0]; decide), Int.toNat_natCast, hla]
        dsimp only
        rw [List.getD_eq_getElem?_getD, List.getElem?_eq_getElem hml]
        rfl
      rw [hval]
      refine read_full w own g d ⟨L, M, pv, ps, lf, D, h⟩ m h0 L (m * 1024) d.lies[m] (hok.size _ (List.getElem_mem hml)) (fun j v hj => ?_) false none (fun e => by cases e) (fun _ => ⟨L, d.lies.length, hg0, by omega, rfl, rfl⟩) M hg2 hlk
      have h1 := pgs_at d.lies hok.size m hml j v hj
      have h2 := blk_cell h.hL (1024 * m + j)
      rw [List.getElem?_toArray, h1] at h2
      have e : (⟨L, m * 1024, none⟩ : Addr).add j = ⟨L, 1024 * m + j, none⟩ := by
        unfold Addr.add
        split
        · rename_i h0; subst h0; rw [Nat.add_zero, Nat.mul_comm]
        · rw [Nat.mul_comm]
      rw [e]
      exact h2
  · have hwv : readV d n = (⟨#[]⟩, readyV d n) := by
      unfold readV
      rw [if_pos h0]
    rw [hwv]
    have hr : readyV d n = 40 ∨ readyV d n = 1 := by
      rcases readyV_cases d n with ⟨_, e⟩ | ⟨_, _, e⟩ | ⟨_, _, _, e⟩
      · exact .inl e
      · exact .inr e
      · exact absurd e h0
    clear hwv h0
    rcases hr with hr | hr <;> rw [hr]
    · go_enter Try.func18, Try.ntmps18
      go_wp2_with fail
      refine (ready_calls w own g d hd n).mono ?_
      rintro e_ w' ⟨rfl, rfl⟩
      rw [hr]
      go_wp2_with fail
      go_ret2
      exact ⟨_, rfl, Kd.R_nil _ _ _ _ _, Below.refl _ _⟩
    · go_enter Try.func18, Try.ntmps18
      go_wp2_with fail
      refine (ready_calls w own g d hd n).mono ?_
      rintro e_ w' ⟨rfl, rfl⟩
      rw [hr]
      go_wp2_with fail
      go_ret2
      exact ⟨_, rfl, Kd.R_nil _ _ _ _ _, Below.refl _ _⟩
end Go.Proofs.Ytjaalegkmldaeaa.My
