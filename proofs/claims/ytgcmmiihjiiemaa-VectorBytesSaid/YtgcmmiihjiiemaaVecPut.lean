/- vector.Put, vector.Encode. -/
import Derived.Test.YtgcmmiihjiiemaaVecCount
import Derived.Test.YtgcmmiihjiiemaaWrVec
namespace Go.Proofs.Ytgcmmiihjiiemaa.My
open Go.RowKit Go.Proofs.YtgcmmiihjiiemaaW.PrintWords Go.Proofs.YtgcmmiihjiiemaaW.PrintLast Go.Proofs.YtgcmmiihjiiemaaW.PrintMore Go.Proofs.Ytgcmmiihjiiemaa Go.Proofs.Ytgcmmiihjiiemaa.PVectorMax
set_option linter.unusedSimpArgs false
set_option linter.unusedVariables false
set_option maxRecDepth 100000
set_option maxHeartbeats 3200000
/-- The bytes of dots, one by one. -/
def encD : List Dt → List Int
  | [] => []
  | x :: l => uv 10 x.f0.toNat ++ (uv 10 x.f1.toNat ++ encD l)
def encL (l : List Dt) : List Int := uv 10 l.length ++ encD l
theorem WS.below {W W' : World} {base g : Nat} {v : Value} {xs : List Int} (h : WS W base g v xs) (hb : Below W.heap.size W W') : WS W' base g v xs := ⟨h.1, blk_below h.2.1 hb, Kd.R_below h.2.2 hb⟩
theorem uv_len : ∀ (k x : Nat), (uv k x).length ≤ k + 1
  | 0, x => by rw [uv]; simp
  | k + 1, x => by
    rw [uv]
    split
    · simp
    · have := uv_len k (x / 128)
      simp only [List.length_cons]
      omega
theorem encD_len : ∀ l : List Dt, (encD l).length ≤ l.length * 22
  | [] => Nat.zero_le _
  | x :: l => by
    have h1 := uv_len 10 x.f0.toNat
    have h2 := uv_len 10 x.f1.toNat
    have h3 := encD_len l
    show (uv 10 x.f0.toNat ++ (uv 10 x.f1.toNat ++ encD l)).length ≤ (l.length + 1) * 22
    rw [List.length_append, List.length_append]
    omega
theorem encD_app : ∀ p q : List Dt, encD (p ++ q) = encD p ++ encD q
  | [], q => rfl
  | x :: p, q => by
    show uv 10 x.f0.toNat ++ (uv 10 x.f1.toNat ++ encD (p ++ q)) = (uv 10 x.f0.toNat ++ (uv 10 x.f1.toNat ++ encD p)) ++ encD q
    rw [encD_app p q, List.append_assoc, List.append_assoc]
theorem vB_max : ∀ (l : List Dt) (p : Option Int), vB p l = true → ∀ x ∈ l, x.f1 ≤ 1099511627776
  | [], p, h, x, hx => by cases hx
  | y :: l, p, h, x, hx => by
    rw [vB_cons] at h
    obtain ⟨h1, h2⟩ := Bool.and_eq_true_iff.1 h
    rcases List.mem_cons.1 hx with rfl | hx
    · exact (of_decide_eq_true (Bool.and_eq_true_iff.1 h1).1).2
    · exact vB_max l _ h2 x hx
theorem Put_calls (g : Nat) (v : Value) (xs : List Int) (w0 w : World) (HB0 : Below w0.heap.size w0 w) (h : WS w w0.heap.size g v xs) (A : Option Addr) (c : Nat) (l : List Dt) (hA : Kd.C kD w0 A l.length l) (hc : l.length ≤ c) (hl : l.length ≤ 8800000000000) (hw : ∀ x ∈ l, 0 ≤ x.f0 ∧ x.f0 < 4294967296 ∧ 0 ≤ x.f1) (hv : validB l = true) (hx : xs.length ≤ 1000000) :
    Calls Try.prog 20 #[.pointer (some ⟨g, 0, none⟩), .slice A l.length c] w fun e w' => e = .returned (.int .i64 0) ∧ ∃ v', WS w' w0.heap.size g v' (xs ++ encL l) ∧ Below w0.heap.size w0 w' := by
  have hV := ownValid_f l (by omega) (fun x h => (hw x h).2.2) (l.length + 2) (by omega)
  rw [hv] at hV
  have HA := Aside0.mk hA
  have HS := Aside0.mk h
  have HB := Aside0.mk HB0
  have h64 := (valid_props l hv).2.2
  clear hA h HB0
  go_enter Try.func20, Try.ntmps20
  go_wp2_with fail
  refine (vector_Valid.calls _ A c l true _ (Kd.C_below HA.out HB.out) hc hV).mono ?_
  rintro e_ w1 ⟨rfl, hb1⟩
  have HB1 := Aside0.mk (below_then HB.out (below_size HB.out) hb1)
  go_wp2_with fail
  have hl2 : l.length < 18446744073709551616 := by omega
  refine (Uint_calls g v xs l.length w0 w1 HB1.out (HS.out.below hb1) (by omega) hl2).mono ?_
  rintro e_ w2 ⟨rfl, v2, hS2, hb2, -⟩
  have HS2 := Aside0.mk hS2
  have HB2 := Aside0.mk hb2
  clear hb1 hS2 hb2 HB1 HS HB hl2
  go_wp2_with fail
  go_loopw [19] (fun iv wr => ∃ (i : Nat) (u : Value), iv = .int .i64 i ∧ i ≤ l.length ∧ Aside0 (WS wr w0.heap.size g u (xs ++ uv 10 l.length ++ encD (l.take i))) ∧ Aside0 (Below w0.heap.size w0 wr)) (fun iv _ => l.length - vNat iv)
  case atStart => exact ⟨0, v2, rfl, Nat.zero_le _, ⟨by rw [List.take_zero]; show WS w2 _ g v2 (_ ++ []); rw [List.append_nil]; exact HS2.out⟩, HB2⟩
  case round =>
    clear HS2 HB2
    obtain ⟨i, u, rfl, hi, HS, HB⟩ := hrel
    by_cases hil : i < l.length
    · have d1 : decide ((i : Int) < (l.length : Int)) = true := decide_eq_true (by omega)
      have m0 : (0 : Int) ≤ (i : Int) := by omega
      have m1 : (i : Int) < (l.length : Int) := by omega
      obtain ⟨ad, rfl, hx0, hx1⟩ := at_T35 (Kd.C_below HA.out HB.out) (i : Int) m0 m1
      simp only [Int.toNat_natCast] at hx0 hx1
      generalize hx : rd_T35 l (i : Int) = x at hx0 hx1
      have HX := Aside0.mk hx
      clear hx
      obtain ⟨f0, f1⟩ := x
      have hxl : l[i]? = some ⟨f0, f1⟩ := by rw [List.getElem?_eq_getElem hil, ← rd_at l i hil, HX.out]
      obtain ⟨p0, p1, p2⟩ := hw _ (List.mem_of_getElem? hxl)
      have p3 := vB_max l none (Bool.and_eq_true_iff.1 hv).1 _ (List.mem_of_getElem? hxl)
      obtain ⟨n0, rfl⟩ := Int.eq_ofNat_of_zero_le p0
      obtain ⟨n1, rfl⟩ := Int.eq_ofNat_of_zero_le p2
      replace p1 : (n0 : Int) < 4294967296 := p1
      replace p3 : (n1 : Int) ≤ 1099511627776 := p3
      have hN0 : n0 < 18446744073709551616 := by omega
      have hN1 : n1 < 18446744073709551616 := by omega
      have htk : l.take (i + 1) = l.take i ++ [⟨(n0 : Int), (n1 : Int)⟩] := by rw [List.take_add_one, hxl]; rfl
      have HTK := Aside0.mk htk
      have hlen : (xs ++ uv 10 l.length ++ encD (l.take i)).length ≤ 3000000 := by
        have e1 := encD_len (l.take i)
        have e2 := uv_len 10 l.length
        have e3 : (l.take i).length ≤ 64 := by rw [List.length_take]; omega
        rw [List.length_append, List.length_append]
        omega
      have q1 : IntKind.u64.wrap (n0 : Int) = (n0 : Int) := by unfold IntKind.wrap; simp [IntKind.signed, IntKind.bits]; omega
      clear hxl htk p0 p2
      go_upto_region 9 with (fail)
      obtain ⟨hg, hblk, hR⟩ := HS.out
      have hgl := blk_lt hblk
      have hbk : (wr.alloc (.cells #[.int .u32 n0, .int .u64 n1] 35)).heap[wr.heap.size]? = some (.cells #[.int .u32 n0, .int .u64 n1] 35 (0, 0)) := by show (wr.heap.push _)[wr.heap.size]? = _; rw [Array.getElem?_push_size]
      have hba : Below wr.heap.size wr (wr.alloc (.cells #[.int .u32 n0, .int .u64 n1] 35)) := (Below.refl _ _).alloc (Nat.le_refl _) _
      have HS3 := Aside0.mk (HS.out.below hba)
      have HB3 := Aside0.mk (below_then HB.out (below_size HB.out) hba)
      have hne : wr.heap.size ≠ g := by omega
      clear hba hgl hblk hR hg HS HB hx0 hx1
      generalize wr.alloc (.cells #[.int .u32 n0, .int .u64 n1] 35) = w3 at hbk HS3 HB3 ⊢
      generalize wr.heap.size = b at hbk hne ⊢
      have c0 : w3.cell? ⟨b, 0, none⟩ = some (.int .u32 n0) := (blk_cell hbk 0).trans rfl
      have c1 : w3.cell? ⟨b, 1, none⟩ = some (.int .u64 n1) := (blk_cell hbk 1).trans rfl
      go_wp2_with fail
      refine (Uint_calls g u _ n0 w0 w3 HB3.out HS3.out (by omega) hN0).mono ?_
      rintro e_ w4 ⟨rfl, u4, hS4, hb4, hm4⟩
      have hbk4 := (hm4.2.1 b (blk_lt hbk) hne (Kd.R_ne HS3.out.2.2 hbk (by decide))).trans hbk
      have HS4 := Aside0.mk hS4
      have HB4 := Aside0.mk hb4
      clear hS4 hb4 hm4 HS3 HB3 hbk c0 c1
      have c1 : w4.cell? ⟨b, 1, none⟩ = some (.int .u64 n1) := (blk_cell hbk4 1).trans rfl
      have hlen4 : (xs ++ uv 10 l.length ++ encD (l.take i) ++ uv 10 n0).length ≤ 3000100 := by
        have e2 := uv_len 10 n0
        rw [List.length_append]
        omega
      go_wp2_with fail
      refine (Uint_calls g u4 _ n1 w0 w4 HB4.out HS4.out (by omega) hN1).mono ?_
      rintro e_ w5 ⟨rfl, u5, hS5, hb5, -⟩
      have HS5 := Aside0.mk hS5
      have HB5 := Aside0.mk hb5
      clear hS5 hb5 HS4 HB4 hbk4 c1
      have e2 : IntKind.i64.wrap ((i : Int) + 1) = ((i + 1 : Nat) : Int) := by rw [i64_w]; unfold wrap64; omega
      go_wp2_with fail
      go_roundw
      case rel =>
        refine ⟨i + 1, u5, rfl, hil, ⟨?_⟩, HB5⟩
        have h := HS5.out
        rw [HTK.out, encD_app]
        show WS w5 _ g u5 (xs ++ uv 10 l.length ++ (encD (l.take i) ++ (uv 10 n0 ++ (uv 10 n1 ++ []))))
        rw [List.append_nil, ← List.append_assoc, ← List.append_assoc]
        exact h
      case measure => simp only [vNat]; omega
    · obtain rfl : i = l.length := by omega
      have d1 : decide ((l.length : Int) < (l.length : Int)) = false := decide_eq_false (by omega)
      clear hil hi
      go_wp2_with fail
      go_ret
      have h := HS.out
      rw [List.take_length, List.append_assoc] at h
      exact ⟨rfl, u, h, HB.out⟩
theorem Put_bad (g : Nat) (w : World) (A : Option Addr) (c : Nat) (l : List Dt) (hA : Kd.C kD w A l.length l) (hc : l.length ≤ c) (hl : l.length ≤ 8800000000000) (hw : ∀ x ∈ l, 0 ≤ x.f1) (hv : validB l = false) :
    Calls Try.prog 20 #[.pointer (some ⟨g, 0, none⟩), .slice A l.length c] w fun e w' => e = .returned (.int .i64 100) ∧ Below w.heap.size w w' := by
  have hV := ownValid_f l (by omega) hw (l.length + 2) (by omega)
  rw [hv] at hV
  go_enter Try.func20, Try.ntmps20
  go_wp2_with fail
  refine (vector_Valid.calls _ A c l false _ hA hc hV).mono ?_
  rintro e_ w1 ⟨rfl, hb1⟩
  have HB1 := Aside0.mk hb1
  clear hb1 hA
  go_wp2_with fail
  go_ret
  exact ⟨rfl, HB1.out⟩
def ownEnc (l : List Dt) : ByteArray × Int := if validB l = true then (strOfNums (encL l), 0) else (⟨#[]⟩, 100)
def okD (l : List Dt) : Bool := decide (l.length ≤ 8800000000000) && l.all (fun x => decide (0 ≤ x.f0 ∧ x.f0 < 4294967296 ∧ 0 ≤ x.f1))
theorem okD_len {l : List Dt} (h : okD l = true) : l.length ≤ 8800000000000 := of_decide_eq_true (Bool.and_eq_true_iff.1 h).1
theorem okD_pos {l : List Dt} (h : okD l = true) : ∀ x ∈ l, 0 ≤ x.f0 ∧ x.f0 < 4294967296 ∧ 0 ≤ x.f1 := fun x hx => of_decide_eq_true (List.all_eq_true.1 (Bool.and_eq_true_iff.1 h).2 x hx)
def vector_Encode.f (l0 : List S35) : Option (ByteArray × Int) := if okD l0 = true then some (ownEnc l0) else none
theorem vector_Encode.calls (A0 : Option Addr) (c0 : Nat) (l0 : List S35) (r1 : ByteArray) (r2 : Int) (w : World) (hr0 : Kd.C k35 w A0 l0.length l0) (hc0 : l0.length ≤ c0) (h : vector_Encode.f l0 = some (r1, r2)) :
    Calls Try.prog 24 #[.slice A0 l0.length c0] w fun e w' => e = .returned (.tuple #[.string r1, .int .i64 r2]) ∧ Below w.heap.size w w' := by
  unfold vector_Encode.f at h
  split at h
  case isFalse => cases h
  rename_i hok
  have h' := Option.some.inj h
  clear h
  unfold ownEnc at h'
  have HA := Aside0.mk hr0
  cases hv : validB l0 with
  | false =>
    rw [hv] at h'
    obtain ⟨rfl, rfl⟩ := Prod.mk.inj h'
    have hp := Put_bad w.heap.size (w.alloc (.cells #[.slice none 0 0] 76 (0, 0))) A0 c0 l0 (Kd.C_below hr0 ((Below.refl _ _).alloc (Nat.le_refl _) _)) hc0 (okD_len hok) (fun x h => (okD_pos hok x h).2.2) hv
    have hb1 : Below w.heap.size w (w.alloc (.cells #[.slice none 0 0] 76 (0, 0))) := (Below.refl _ _).alloc (Nat.le_refl _) _
    clear hok hr0 hv h'
    go_enter Try.func24, Try.ntmps24
    go_wp2_with fail
    refine (newWriterW _).mono ?_
    rintro e_ w1 ⟨rfl, rfl⟩
    go_wp2_with fail
    refine hp.mono ?_
    rintro e_ w2 ⟨rfl, hb2⟩
    have HB2 := Aside0.mk (below_then hb1 (below_size hb1) hb2)
    clear hp hb1 hb2
    go_wp2_with fail
    go_ret2
    exact ⟨rfl, HB2.out⟩
  | true =>
    rw [hv] at h'
    obtain ⟨rfl, rfl⟩ := Prod.mk.inj h'
    have hb1 : Below w.heap.size w (w.alloc (.cells #[.slice none 0 0] 76 (0, 0))) := (Below.refl _ _).alloc (Nat.le_refl _) _
    have hp := Put_calls w.heap.size _ [] w _ hb1 (WS_new w _ (Nat.le_refl _)) A0 c0 l0 hr0 hc0 (okD_len hok) (okD_pos hok) hv (Nat.zero_le _)
    clear hok hr0 hv h'
    go_enter Try.func24, Try.ntmps24
    go_wp2_with fail
    refine (newWriterW _).mono ?_
    rintro e_ w1 ⟨rfl, rfl⟩
    go_wp2_with fail
    refine hp.mono ?_
    rintro e_ w2 ⟨rfl, v2, hS2, hb2⟩
    have HS2 := Aside0.mk hS2
    have HB2 := Aside0.mk hb2
    clear hp hb1 hb2 hS2
    go_wp2_with fail
    refine (Told_calls _ _ _ _ _ HS2.out).mono ?_
    rintro e_ w3 ⟨rfl, rfl⟩
    go_wp2_with fail
    go_ret2
    exact ⟨rfl, HB2.out⟩
end Go.Proofs.Ytgcmmiihjiiemaa.My
