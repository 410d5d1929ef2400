/- node.Encode as the print asks it. -/
import Derived.Test.YtdjjpgdhnoibkaaNdChk
import Derived.Test.YtdjjpgdhnoibkaaWrTm
namespace Go.Proofs.Ytdjjpgdhnoibkaa.My
open Go.RowKit Go.Proofs.YtdjjpgdhnoibkaaW.PrintWords Go.Proofs.YtdjjpgdhnoibkaaW.PrintLast Go.Proofs.YtdjjpgdhnoibkaaW.PrintMore Go.Proofs.Ytdjjpgdhnoibkaa Go.Proofs.Ytdjjpgdhnoibkaa.PZ
set_option linter.unusedSimpArgs false
set_option linter.unusedVariables false
set_option maxRecDepth 100000
set_option maxHeartbeats 3200000
attribute [local go_sem high] conv_rune str_leq str_gtr
def txL (s : ByteArray) : List Int := uv 10 s.size ++ bytesOf s
def encCs : List Ce → List Int
  | [] => []
  | c :: t => txL c.f0 ++ (txL c.f1 ++ encCs t)
/-- Keys, each with the kid behind it. -/
def encKs : List ByteArray → List Int → List Int
  | k :: t, x :: y => txL k ++ (be 4 x.toNat ++ encKs t y)
  | _, _ => []
def bodyV (b : Bool) (cs : List Ce) (ks : List ByteArray) (kids : List Int) : List Int :=
  if b = true then [1] ++ be 2 cs.length ++ encCs cs else [2] ++ be 2 ks.length ++ be 4 (kids.getD 0 0).toNat ++ encKs ks (kids.drop 1)
def encV (b : Bool) (cs : List Ce) (ks : List ByteArray) (kids : List Int) : ByteArray × Int :=
  if chkV b cs ks kids = 0 then (if 996 < lngV b cs ks then (⟨#[]⟩, 82) else (strOfNums (bodyV b cs ks kids), 0)) else (⟨#[]⟩, chkV b cs ks kids)
def ndB (cs : List Ce) (ks : List ByteArray) (kids : List Int) : Bool :=
  (decide (cs.length < 4398046511104) && decide (ks.length < 8796093022208) && decide (kids.length < 35184372088832)) && (cs.all (fun c => decide (c.f0.size ≤ 140737488351232) && decide (c.f1.size ≤ 140737488351232)) && (ks.all (fun k => decide (k.size ≤ 140737488351232)) && kids.all (fun x => decide (0 ≤ x) && decide (x < 4294967296))))
theorem ndB_ok {cs : List Ce} {ks : List ByteArray} {kids : List Int} (h : ndB cs ks kids = true) : NdOk cs ks kids ∧ ∀ x ∈ kids, 0 ≤ x ∧ x < 4294967296 := by
  unfold ndB at h
  simp only [Bool.and_eq_true, decide_eq_true_eq, List.all_eq_true] at h
  obtain ⟨⟨⟨h1, h2⟩, h3⟩, h4, h5, h6⟩ := h
  exact ⟨⟨⟨h1, h2, h3⟩, h4, h5⟩, h6⟩
def node_Encode.f (b : Bool) (cs : List S66) (ks : List ByteArray) (kids : List Int) : Option (ByteArray × Int) := if ndB cs ks kids = true then some (encV b cs ks kids) else none
theorem chk_facts {b : Bool} {cs : List Ce} {ks : List ByteArray} {kids : List Int} (h : chkV b cs ks kids = 0) : shpV b cs ks kids = true ∧ cs.all okC = true ∧ ks.all okK = true ∧ rsB ⟨#[]⟩ (keysV cs ks) = true ∧ lngV b cs ks ≤ 1992 := by
  unfold chkV at h
  split at h
  · cases h
  · rename_i h1
    split at h
    · cases h
    · rename_i h2
      split at h
      · cases h
      · rename_i h3
        split at h
        · cases h
        · rename_i h4
          have h2 : (cs.all okC && ks.all okK) = true := by simpa using h2
          rw [Bool.and_eq_true] at h2
          exact ⟨by simpa using h1, h2.1, h2.2, by simpa using h3, by omega⟩
theorem WS.below {W W' : World} {base g : Nat} {v : Value} {xs : List Int} (h : WS W base g v xs) (hb : Below W.heap.size W W') : WS W' base g v xs := ⟨h.1, blk_below h.2.1 hb, Kd.R_below h.2.2 hb⟩
theorem encCs_app : ∀ p q : List Ce, encCs (p ++ q) = encCs p ++ encCs q
  | [], q => rfl
  | c :: p, q => by
    show txL c.f0 ++ (txL c.f1 ++ encCs (p ++ q)) = (txL c.f0 ++ (txL c.f1 ++ encCs p)) ++ encCs q
    rw [encCs_app p q, List.append_assoc, List.append_assoc]
theorem txL_len (s : ByteArray) : (txL s).length ≤ s.size + 11 := by
  unfold txL
  have := uv_len 10 s.size
  rw [List.length_append, bytesOf_length]
  omega
theorem okC_sz {c : Ce} (h : okC c = true) : 1 ≤ c.f0.size ∧ c.f0.size + c.f1.size ≤ 320 := by
  unfold okC at h
  rw [Bool.and_eq_true, decide_eq_true_eq, decide_eq_true_eq] at h
  exact h
theorem encCs_len : ∀ cs : List Ce, cs.all okC = true → (encCs cs).length ≤ cs.length * 350
  | [], _ => Nat.zero_le _
  | c :: t, h => by
    rw [List.all_cons, Bool.and_eq_true] at h
    have h1 := okC_sz h.1
    have h2 := encCs_len t h.2
    have h3 := txL_len c.f0
    have h4 := txL_len c.f1
    rw [encCs, List.length_append, List.length_append, List.length_cons]
    omega
theorem kid_nat (l : List Int) (h : ∀ x ∈ l, 0 ≤ x ∧ x < 4294967296) (i : Nat) (hi : i < l.length) : ∃ n : Nat, l[i] = (n : Int) ∧ n < 4294967296 := by
  obtain ⟨h1, h2⟩ := h _ (List.getElem_mem hi)
  obtain ⟨n, hn⟩ := Int.eq_ofNat_of_zero_le h1
  rw [hn] at h2
  exact ⟨n, hn, Int.ofNat_lt.1 h2⟩
theorem kid0 (l : List Int) (h : ∀ x ∈ l, 0 ≤ x ∧ x < 4294967296) (hl : (0 : Int) < (l.length : Int)) : ∃ n : Nat, l.getD 0 0 = (n : Int) ∧ n < 4294967296 := by
  have hi : 0 < l.length := Int.ofNat_lt.1 hl
  obtain ⟨n, h1, h2⟩ := kid_nat l h 0 hi
  exact ⟨n, by rw [List.getD_eq_getElem?_getD, List.getElem?_eq_getElem hi]; exact h1, h2⟩
theorem lt256 {k : Nat} (h : k < 4294967296) : k < 256 ^ 4 := by
  have e : (256 : Nat) ^ 4 = 4294967296 := by decide
  rw [e]
  exact h
theorem encKs_snoc : ∀ (ks : List ByteArray) (l : List Int) (i : Nat) (h1 : i < ks.length) (h2 : i < l.length), encKs (ks.take (i + 1)) l = encKs (ks.take i) l ++ (txL ks[i] ++ be 4 (l[i]).toNat)
  | [], l, i, h1, h2 => by simp at h1
  | k :: ks, [], i, h1, h2 => by simp at h2
  | k :: ks, x :: l, 0, h1, h2 => by
    rw [List.take_succ_cons, List.take_zero, List.take_zero]
    show txL k ++ (be 4 x.toNat ++ encKs [] l) = encKs [] (x :: l) ++ (txL k ++ be 4 x.toNat)
    show txL k ++ (be 4 x.toNat ++ []) = [] ++ (txL k ++ be 4 x.toNat)
    rw [List.append_nil, List.nil_append]
  | k :: ks, x :: l, i + 1, h1, h2 => by
    rw [List.take_succ_cons, List.take_succ_cons]
    show txL k ++ (be 4 x.toNat ++ encKs (ks.take (i + 1)) l) = (txL k ++ (be 4 x.toNat ++ encKs (ks.take i) l)) ++ _
    rw [encKs_snoc ks l i (by simpa using h1) (by simpa using h2), List.append_assoc, List.append_assoc]
    rfl
theorem okK_sz {k : ByteArray} (h : okK k = true) : 1 ≤ k.size ∧ k.size ≤ 320 := by
  unfold okK at h
  rw [Bool.and_eq_true, decide_eq_true_eq, decide_eq_true_eq] at h
  exact h
theorem encKs_len : ∀ (ks : List ByteArray) (l : List Int), ks.all okK = true → (encKs ks l).length ≤ ks.length * 350
  | [], l, _ => by cases l <;> exact Nat.zero_le _
  | k :: ks, [], _ => Nat.zero_le _
  | k :: ks, x :: l, h => by
    rw [List.all_cons, Bool.and_eq_true] at h
    have h1 := okK_sz h.1
    have h2 := encKs_len ks l h.2
    have h3 := txL_len k
    show (txL k ++ (be 4 x.toNat ++ encKs ks l)).length ≤ (ks.length + 1) * 350
    rw [List.length_append, List.length_append, be_len]
    omega
theorem cs_len : ∀ cs : List Ce, cs.length ≤ sumC cs
  | [] => Nat.le_refl _
  | c :: t => by
    have := cs_len t
    rw [sumC, List.length_cons]
    unfold clN txN
    split <;> split <;> omega
theorem ks_len : ∀ ks : List ByteArray, ks.length ≤ sumK ks
  | [] => Nat.le_refl _
  | k :: t => by
    have := ks_len t
    rw [sumK, List.length_cons]
    omega
theorem node_Encode.calls (b : Bool) (A0_1 : Option Addr) (c0_1 : Nat) (cs : List S66) (A0_2 : Option Addr) (c0_2 : Nat) (ks : List ByteArray) (A0_3 : Option Addr) (c0_3 : Nat) (kids : List Int) (r1 : ByteArray) (r2 : Int) (w : World) (hr0_1 : Kd.C k66 w A0_1 cs.length cs) (hc0_1 : cs.length ≤ c0_1) (hr0_2 : Kd.C Kd.string w A0_2 ks.length ks) (hc0_2 : ks.length ≤ c0_2) (hr0_3 : Kd.C (Kd.int .u32) w A0_3 kids.length kids) (hc0_3 : kids.length ≤ c0_3) (h : node_Encode.f b cs ks kids = some (r1, r2)) :
    Calls Try.prog 30 #[.agg #[.bool b, .slice A0_1 cs.length c0_1, .slice A0_2 ks.length c0_2, .slice A0_3 kids.length c0_3]] w fun e w' => e = .returned (.tuple #[.string r1, .int .i64 r2]) ∧ Below w.heap.size w w' := by
  unfold node_Encode.f at h
  split at h
  case isFalse => cases h
  rename_i hok
  have h := Option.some.inj h
  obtain ⟨hn, hkid⟩ := ndB_ok hok
  have hchk := ochk_f b cs ks kids hn (2 * (cs.length + ks.length) + kids.length + 60) (Nat.le_refl _)
  generalize hC : chkV b cs ks kids = C at hchk
  have H := Aside0.mk h
  have HN := Aside0.mk hn
  clear h hn hok
  go_enter Try.func30, Try.ntmps30
  go_wp2_with fail
  have hbx : (w.alloc (.cells #[.bool b, .slice A0_1 cs.length c0_1, .slice A0_2 ks.length c0_2, .slice A0_3 kids.length c0_3] 26)).heap[w.heap.size]? = some (.cells #[.bool b, .slice A0_1 cs.length c0_1, .slice A0_2 ks.length c0_2, .slice A0_3 kids.length c0_3] 26 (0, 0)) := blk_new w _
  have hb0 : Below w.heap.size w (w.alloc (.cells #[.bool b, .slice A0_1 cs.length c0_1, .slice A0_2 ks.length c0_2, .slice A0_3 kids.length c0_3] 26)) := (Below.refl _ _).alloc (Nat.le_refl _) _
  generalize w.alloc (.cells #[.bool b, .slice A0_1 cs.length c0_1, .slice A0_2 ks.length c0_2, .slice A0_3 kids.length c0_3] 26) = w1 at *
  generalize hgn : w.heap.size = gn at hbx ⊢
  have HG := Aside0.mk hgn
  clear hgn
  have hR1 := Kd.C_below hr0_1 hb0
  have hR2 := Kd.C_below hr0_2 hb0
  have hR3 := Kd.C_below hr0_3 hb0
  clear hr0_1 hr0_2 hr0_3
  refine (node_Check.calls _ b A0_1 c0_1 cs A0_2 c0_2 ks A0_3 c0_3 kids C w1 hR1 hc0_1 hR2 hc0_2 hR3 hc0_3 hchk).mono ?_
  rintro e_ w2 ⟨rfl, hb2⟩
  replace hbx := blk_below hbx hb2
  replace hb0 := below_then hb0 (below_size hb0) hb2
  replace hR1 := Kd.C_below hR1 hb2
  replace hR2 := Kd.C_below hR2 hb2
  replace hR3 := Kd.C_below hR3 hb2
  clear hb2 hchk
  have c0 : w2.cell? ⟨gn, 0, none⟩ = some (.bool b) := (blk_cell hbx 0).trans rfl
  have c1 : w2.cell? ⟨gn, 1, none⟩ = some (.slice A0_1 cs.length c0_1) := (blk_cell hbx 1).trans rfl
  have c2 : w2.cell? ⟨gn, 2, none⟩ = some (.slice A0_2 ks.length c0_2) := (blk_cell hbx 2).trans rfl
  have c3 : w2.cell? ⟨gn, 3, none⟩ = some (.slice A0_3 kids.length c0_3) := (blk_cell hbx 3).trans rfl
  by_cases hC0 : C = 0
  · subst hC0
    obtain ⟨f1, f2, f3, f4, f5⟩ := chk_facts hC
    have hsz := size_f b cs ks kids HN.out f2 f3 (cs.length + ks.length + 5) (Nat.le_refl _)
    have hbo : b = true ∨ cs = [] := by
      cases b with
      | true => exact .inl rfl
      | false => unfold shpV at f1; rw [if_neg (by decide), Bool.and_eq_true, Bool.and_eq_true] at f1; exact .inr (List.isEmpty_iff.1 f1.2.1)
    rw [lng_eq b cs ks hbo] at hsz
    generalize hL : lngV b cs ks = Lg at hsz f5
    have HL := Aside0.mk hL
    have HF := Aside0.mk (And.intro f1 (And.intro f2 f3))
    have HC := Aside0.mk hC
    clear f1 f2 f3 f4 hL hC hbo
    go_wp2_with fail
    refine (node_size.calls _ b A0_1 c0_1 cs A0_2 c0_2 ks A0_3 c0_3 kids (Lg : Nat) w2 hR1 hc0_1 hR2 hc0_2 hR3 hc0_3 hsz).mono ?_
    rintro e_ w3 ⟨rfl, hb3⟩
    clear c0 c1 c2 c3
    replace hbx := blk_below hbx hb3
    replace hb0 := below_then hb0 (below_size hb0) hb3
    replace hR1 := Kd.C_below hR1 hb3
    replace hR2 := Kd.C_below hR2 hb3
    replace hR3 := Kd.C_below hR3 hb3
    clear hb3 hsz
    have c0 : w3.cell? ⟨gn, 0, none⟩ = some (.bool b) := (blk_cell hbx 0).trans rfl
    have c1 : w3.cell? ⟨gn, 1, none⟩ = some (.slice A0_1 cs.length c0_1) := (blk_cell hbx 1).trans rfl
    have c2 : w3.cell? ⟨gn, 2, none⟩ = some (.slice A0_2 ks.length c0_2) := (blk_cell hbx 2).trans rfl
    have c3 : w3.cell? ⟨gn, 3, none⟩ = some (.slice A0_3 kids.length c0_3) := (blk_cell hbx 3).trans rfl
    by_cases hbig : 996 < Lg
    · have d1 : decide ((Lg : Int) > 996) = true := decide_eq_true (by omega)
      have HB := Aside0.mk hb0
      have HBG := Aside0.mk hbig
      clear hb0 hbig f5
      go_wp2_with fail
      repeat (go_quiet (fail); try go_wp2_with fail)
      go_ret2
      have h9 := H.out
      unfold encV at h9
      rw [HC.out, if_pos rfl, HL.out, if_pos HBG.out] at h9
      obtain ⟨rfl, rfl⟩ := Prod.mk.inj h9
      exact ⟨rfl, HB.out⟩
    · have d1 : decide ((Lg : Int) > 996) = false := decide_eq_false (by omega)
      have h9 := H.out
      unfold encV at h9
      rw [HC.out, if_pos rfl, HL.out, if_neg hbig] at h9
      obtain ⟨rfl, rfl⟩ := Prod.mk.inj h9
      clear h9 H
      have HLL := Aside0.mk (show Lg ≤ 996 by omega)
      clear hbig f5
      go_wp2_with fail
      have hsz3 : w.heap.size ≤ w3.heap.size := hb0.size
      refine (newWriterW w3).mono ?_
      rintro e_ wx ⟨rfl, rfl⟩
      have hB4 : Below w3.heap.size w3 (w3.alloc (.cells #[.slice none 0 0] 113)) := (Below.refl _ _).alloc (Nat.le_refl _) _
      have hS4 := WS_new w3 w3.heap.size (Nat.le_refl _)
      generalize w3.alloc (.cells #[.slice none 0 0] 113 (0, 0)) = w4 at *
      have HB4 := Aside0.mk hB4
      have HS4 := Aside0.mk hS4
      have HBX := Aside0.mk hbx
      have HB0 := Aside0.mk hb0
      have HR1 := Aside0.mk hR1
      have HR2 := Aside0.mk hR2
      have HR3 := Aside0.mk hR3
      clear c0 c1 c2 c3 hB4 hS4 hbx hb0 hR1 hR2 hR3 d1
      have hlen : cs.length ≤ 996 ∧ ks.length ≤ 996 := by
        have h1 := cs_len cs
        have h2 := ks_len ks
        have h3 := HL.out
        have h4 := HLL.out
        have h5 := HF.out.1
        unfold lngV at h3
        unfold shpV at h5
        cases b with
        | true =>
          rw [if_pos rfl] at h3 h5
          rw [Bool.and_eq_true] at h5
          rw [List.isEmpty_iff.1 h5.1]
          exact ⟨by omega, Nat.zero_le _⟩
        | false =>
          rw [if_neg (show ¬ (false = true) by decide)] at h3 h5
          rw [Bool.and_eq_true, Bool.and_eq_true] at h5
          rw [List.isEmpty_iff.1 h5.2.1]
          exact ⟨Nat.zero_le _, by omega⟩
      have hx4 := blk_below HBX.out HB4.out
      have c0 : w4.cell? ⟨gn, 0, none⟩ = some (.bool b) := (blk_cell hx4 0).trans rfl
      clear hx4
      cases b with
      | true =>
        go_wp2_with fail
        clear c0
        refine (Byte_calls w3.heap.size (.slice none 0 0) [] 1 w3 w4 HB4.out HS4.out (by decide)).mono ?_
        rintro e_ w5 ⟨rfl, v5, hS5, hB5, -⟩
        have HB5 := Aside0.mk hB5
        have HS5 := Aside0.mk hS5
        clear hB5 hS5 HB4 HS4
        have hx5 := blk_below HBX.out HB5.out
        have c1 : w5.cell? ⟨gn, 1, none⟩ = some (.slice A0_1 cs.length c0_1) := (blk_cell hx5 1).trans rfl
        clear hx5
        go_wp2_with fail
        refine (Fixed_calls w3.heap.size v5 _ 2 cs.length w3 w5 HB5.out HS5.out (by decide) (by omega) (by omega) (by have := hlen.1; omega)).mono ?_
        rintro e_ w6 ⟨rfl, v6, hS6, hB6, -⟩
        have HB6 := Aside0.mk hB6
        have HS6 := Aside0.mk hS6
        clear hB6 hS6 HB5 HS5 c1
        have hx6 := blk_below HBX.out HB6.out
        have c1 : w6.cell? ⟨gn, 1, none⟩ = some (.slice A0_1 cs.length c0_1) := (blk_cell hx6 1).trans rfl
        clear hx6
        go_wp2_with fail
        clear c1
        go_loopw [36] (fun iv wr => ∃ (i : Nat) (u : Value), iv = .int .i64 i ∧ i ≤ cs.length ∧ Aside0 (WS wr w3.heap.size w3.heap.size u ([] ++ [1] ++ be 2 cs.length ++ encCs (cs.take i))) ∧ Aside0 (Below w3.heap.size w3 wr)) (fun iv _ => cs.length - vNat iv)
        case atStart => exact ⟨0, v6, rfl, Nat.zero_le _, ⟨by rw [List.take_zero]; show WS w6 _ _ v6 (_ ++ []); rw [List.append_nil]; exact HS6.out⟩, HB6⟩
        case round =>
          clear HS6 HB6
          obtain ⟨i, u, rfl, hi, HS, HB⟩ := hrel
          by_cases hil : i < cs.length
          · have d1 : decide ((i : Int) < (cs.length : Int)) = true := decide_eq_true (by omega)
            have m0 : (0 : Int) ≤ (i : Int) := by omega
            have m1 : (i : Int) < (cs.length : Int) := by omega
            obtain ⟨ad, rfl, hx0, hx1⟩ := at_T66 (Kd.C_below HR1.out HB.out) (i : Int) m0 m1
            rw [rdC_at cs i hil] at hx0 hx1
            simp only [Int.toNat_natCast] at hx0 hx1
            have htk : cs.take (i + 1) = cs.take i ++ [cs[i]] := List.take_succ_eq_append_getElem hil
            have hox : okC cs[i] = true := List.all_eq_true.1 HF.out.2.1 _ (List.getElem_mem hil)
            generalize cs[i] = x at hx0 hx1 htk hox
            obtain ⟨x0, x1⟩ := x
            have hsz := okC_sz hox
            have hl0 : ([] ++ [1] ++ be 2 cs.length ++ encCs (cs.take i)).length ≤ 400000 := by
              have e1 := encCs_len (cs.take i) (by rw [List.all_eq_true]; exact fun z hz => List.all_eq_true.1 HF.out.2.1 z (List.mem_of_mem_take hz))
              have e2 : (cs.take i).length ≤ 996 := by have := hlen.1; rw [List.length_take]; omega
              rw [List.length_append, List.length_append, be_len]
              simp only [List.nil_append, List.length_singleton]
              omega
            have HTK := Aside0.mk htk
            have HSZ := Aside0.mk hsz
            have HL0 := Aside0.mk hl0
            dsimp only at hx0 hx1
            clear htk hox hsz hl0
            go_upto_region 13 with (fail)
            obtain ⟨hg, hblk, hR⟩ := HS.out
            have hgl := blk_lt hblk
            have hbk : (wr.alloc (.cells #[.string x0, .string x1] 66)).heap[wr.heap.size]? = some (.cells #[.string x0, .string x1] 66 (0, 0)) := by show (wr.heap.push _)[wr.heap.size]? = _; rw [Array.getElem?_push_size]
            have hba : Below wr.heap.size wr (wr.alloc (.cells #[.string x0, .string x1] 66)) := (Below.refl _ _).alloc (Nat.le_refl _) _
            have HS3 := Aside0.mk (HS.out.below hba)
            have HB3 := Aside0.mk (below_then HB.out (below_size HB.out) hba)
            have hne : wr.heap.size ≠ w3.heap.size := by omega
            clear hba hgl hblk hR hg HS HB hx0 hx1
            generalize wr.alloc (.cells #[.string x0, .string x1] 66) = w7 at hbk HS3 HB3 ⊢
            generalize wr.heap.size = bx at hbk hne ⊢
            have c0 : w7.cell? ⟨bx, 0, none⟩ = some (.string x0) := (blk_cell hbk 0).trans rfl
            have hz1 : x0.size ≤ 320 ∧ x1.size ≤ 320 := by have := HSZ.out; dsimp only at this; omega
            have t0 := txL_len x0
            have t1 := txL_len x1
            go_wp2_with fail
            refine (Text_m w3.heap.size u _ x0 w3 w7 HB3.out HS3.out (by have := HL0.out; omega)).mono ?_
            rintro e_ w8 ⟨rfl, u4, hS4, hb4, hm4⟩
            have hbk4 := (hm4.2.1 bx (blk_lt hbk) hne (Kd.R_ne HS3.out.2.2 hbk (by decide))).trans hbk
            rw [List.append_assoc _ (uv 10 x0.size) (bytesOf x0)] at hS4
            change WS w8 _ _ u4 (_ ++ txL x0) at hS4
            have HS4 := Aside0.mk hS4
            have HB4 := Aside0.mk hb4
            clear hS4 hb4 hm4 HS3 HB3 hbk c0
            have c1 : w8.cell? ⟨bx, 1, none⟩ = some (.string x1) := (blk_cell hbk4 1).trans rfl
            go_wp2_with fail
            refine (Text_m w3.heap.size u4 _ x1 w3 w8 HB4.out HS4.out (by rw [List.length_append]; have := HL0.out; omega)).mono ?_
            rintro e_ w9 ⟨rfl, u5, hS5, hb5, -⟩
            rw [List.append_assoc _ (uv 10 x1.size) (bytesOf x1)] at hS5
            change WS w9 _ _ u5 (_ ++ txL x1) at hS5
            have HS5 := Aside0.mk hS5
            have HB5 := Aside0.mk hb5
            clear hS5 hb5 HS4 HB4 hbk4 c1 hne t0 t1 hz1
            go_wp2_with fail
            go_roundw
            case rel => exact ⟨i + 1, u5, rfl, hil, ⟨by
              have e : [] ++ [1] ++ be 2 cs.length ++ encCs (cs.take (i + 1)) = [] ++ [1] ++ be 2 cs.length ++ encCs (cs.take i) ++ txL x0 ++ txL x1 := by
                rw [HTK.out, encCs_app, encCs, encCs, List.append_nil]
                simp only [List.append_assoc]
              rw [e]
              exact HS5.out⟩, HB5⟩
            case measure => simp only [vNat]; omega
          · have d1 : decide ((i : Int) < (cs.length : Int)) = false := decide_eq_false (by omega)
            have htk : cs.take i = cs := List.take_of_length_le (by omega)
            rw [htk] at HS
            go_wp2_with fail
            refine (Told_calls w3.heap.size u _ w3.heap.size wr HS.out).mono ?_
            rintro e_ wz ⟨rfl, rfl⟩
            have HBF := Aside0.mk (below_then HB0.out (below_size HB0.out) HB.out)
            go_wp2_with fail
            go_ret2
            exact ⟨rfl, HBF.out⟩
      | false =>
        go_wp2_with fail
        clear c0
        refine (Byte_calls w3.heap.size (.slice none 0 0) [] 2 w3 w4 HB4.out HS4.out (by decide)).mono ?_
        rintro e_ w5 ⟨rfl, v5, hS5, hB5, -⟩
        have HB5 := Aside0.mk hB5
        have HS5 := Aside0.mk hS5
        clear hB5 hS5 HB4 HS4
        have hx5 := blk_below HBX.out HB5.out
        have c2 : w5.cell? ⟨gn, 2, none⟩ = some (.slice A0_2 ks.length c0_2) := (blk_cell hx5 2).trans rfl
        clear hx5
        go_wp2_with fail
        refine (Fixed_calls w3.heap.size v5 _ 2 ks.length w3 w5 HB5.out HS5.out (by decide) (by omega) (by omega) (by have := hlen.2; omega)).mono ?_
        rintro e_ w6 ⟨rfl, v6, hS6, hB6, -⟩
        have HB6 := Aside0.mk hB6
        have HS6 := Aside0.mk hS6
        clear hB6 hS6 HB5 HS5 c2
        have hx6 := blk_below HBX.out HB6.out
        have c3 : w6.cell? ⟨gn, 3, none⟩ = some (.slice A0_3 kids.length c0_3) := (blk_cell hx6 3).trans rfl
        clear hx6
        have hkl : kids.length = ks.length + 1 := by
          have h5 := HF.out.1
          unfold shpV at h5
          rw [if_neg (show ¬ (false = true) by decide), Bool.and_eq_true, Bool.and_eq_true, decide_eq_true_eq] at h5
          exact h5.2.2
        have HKL := Aside0.mk hkl
        have hk0 : (0 : Int) < (kids.length : Int) := by omega
        obtain ⟨ad, rfl, hx0⟩ := Kd.at_int (Kd.C_below HR3.out HB6.out) (0 : Int) (by decide) hk0
        have hx00 : rd kids 0 = kids.getD 0 0 := rfl
        rw [hx00] at hx0
        obtain ⟨k0, hk00, hk4⟩ := kid0 kids hkid hk0
        rw [hk00] at hx0
        replace hx0 : w6.cell? ad = some (.int .u32 k0) := by cases ad; exact hx0
        have HK0 := Aside0.mk hk00
        clear hkl hx00 hk00
        go_wp2_with fail
        refine (Fixed_calls w3.heap.size v6 _ 4 k0 w3 w6 HB6.out HS6.out (by rw [List.length_append, be_len]; decide) (by omega) (by omega) (lt256 hk4)).mono ?_
        rintro e_ w7 ⟨rfl, v7, hS7, hB7, -⟩
        have HB7 := Aside0.mk hB7
        have HS7 := Aside0.mk hS7
        clear hB7 hS7 HB6 HS6 c3 hx0
        have hx7 := blk_below HBX.out HB7.out
        have c2 : w7.cell? ⟨gn, 2, none⟩ = some (.slice A0_2 ks.length c0_2) := (blk_cell hx7 2).trans rfl
        clear hx7
        go_wp2_with fail
        clear c2
        have hb4 : ([] ++ [2] ++ be 2 ks.length ++ be 4 k0 : List Int) = [] ++ [2] ++ be 2 ks.length ++ be 4 k0 ++ encKs (ks.take 0) (kids.drop 1) := by
          rw [List.take_zero]
          cases kids.drop 1 <;> exact (List.append_nil _).symm
        go_loopw [69] (fun iv wr => ∃ (i : Nat) (u : Value), iv = .int .i64 i ∧ i ≤ ks.length ∧ Aside0 (WS wr w3.heap.size w3.heap.size u ([] ++ [2] ++ be 2 ks.length ++ be 4 k0 ++ encKs (ks.take i) (kids.drop 1))) ∧ Aside0 (Below w3.heap.size w3 wr)) (fun iv _ => ks.length - vNat iv)
        case atStart => exact ⟨0, v7, rfl, Nat.zero_le _, ⟨by rw [← hb4]; exact HS7.out⟩, HB7⟩
        case round =>
          clear HS7 HB7 hb4
          obtain ⟨i, u, rfl, hi, HS, HB⟩ := hrel
          have hx := blk_below HBX.out HB.out
          have c3 : wr.cell? ⟨gn, 3, none⟩ = some (.slice (some ad) kids.length c0_3) := (blk_cell hx 3).trans rfl
          clear hx
          by_cases hil : i < ks.length
          · have d1 : decide ((i : Int) < (ks.length : Int)) = true := decide_eq_true (by omega)
            have m0 : (0 : Int) ≤ (i : Int) := by omega
            have m1 : (i : Int) < (ks.length : Int) := by omega
            obtain ⟨ad2, rfl, hx0⟩ := Kd.at_string (Kd.C_below HR2.out HB.out) (i : Int) m0 m1
            rw [rdS_at ks i hil] at hx0
            simp only [Int.toNat_natCast] at hx0
            have hik : i + 1 < kids.length := by have := HKL.out; omega
            obtain ⟨kn, hkn, hkn4⟩ := kid_nat kids hkid (i + 1) hik
            have htk : encKs (ks.take (i + 1)) (kids.drop 1) = encKs (ks.take i) (kids.drop 1) ++ (txL ks[i] ++ be 4 kn) := by
              rw [encKs_snoc ks (kids.drop 1) i hil (by rw [List.length_drop]; omega)]
              congr 3
              rw [List.getElem_drop]
              have : kids[1 + i]'(by omega) = (kn : Int) := by rw [← hkn]; congr 1; omega
              rw [this, Int.toNat_natCast]
            have hox : okK ks[i] = true := List.all_eq_true.1 HF.out.2.2 _ (List.getElem_mem hil)
            generalize ks[i] = x at hx0 htk hox
            have hsz := okK_sz hox
            have hl0 : ([] ++ [2] ++ be 2 ks.length ++ be 4 k0 ++ encKs (ks.take i) (kids.drop 1)).length ≤ 400000 := by
              have e1 := encKs_len (ks.take i) (kids.drop 1) (by rw [List.all_eq_true]; exact fun z hz => List.all_eq_true.1 HF.out.2.2 z (List.mem_of_mem_take hz))
              have e2 : (ks.take i).length ≤ 996 := by have := hlen.2; rw [List.length_take]; omega
              rw [List.length_append, List.length_append, List.length_append, be_len, be_len]
              simp only [List.nil_append, List.length_singleton]
              omega
            have HTK := Aside0.mk htk
            have HSZ := Aside0.mk hsz
            have HL0 := Aside0.mk hl0
            have hkn2 : rd kids ((i + 1 : Nat) : Int) = (kn : Int) := by rw [rdI_at kids (i + 1) hik]; exact hkn
            have HKN := Aside0.mk hkn2
            have HIK := Aside0.mk hik
            clear htk hox hsz hl0 hkn hkn2 hik
            have t0 := txL_len x
            go_wp2_with fail
            refine (Text_m w3.heap.size u _ x w3 wr HB.out HS.out (by have := HL0.out; have := HSZ.out.2; omega)).mono ?_
            rintro e_ w8 ⟨rfl, u4, hS4, hb4, -⟩
            rw [List.append_assoc _ (uv 10 x.size) (bytesOf x)] at hS4
            change WS w8 _ _ u4 (_ ++ txL x) at hS4
            have HS4 := Aside0.mk hS4
            have HB4 := Aside0.mk hb4
            clear hS4 hb4 HS HB hx0 c3
            have hx := blk_below HBX.out HB4.out
            have c3 : w8.cell? ⟨gn, 3, none⟩ = some (.slice (some ad) kids.length c0_3) := (blk_cell hx 3).trans rfl
            clear hx
            have n0 : (0 : Int) ≤ (i : Int) + 1 := by omega
            have n1 : (i : Int) + 1 < (kids.length : Int) := by have := HIK.out; omega
            obtain ⟨ad3, e3, hy0⟩ := Kd.at_int (Kd.C_below HR3.out HB4.out) ((i : Int) + 1) n0 n1
            cases e3
            have e4 : (i : Int) + 1 = ((i + 1 : Nat) : Int) := rfl
            rw [e4, HKN.out, Int.toNat_natCast] at hy0
            clear e4
            have hy1 : w8.cell? { block := ad.block, off := ad.off + (i + 1) } = some (.int .u32 kn) := hy0
            go_wp2_with fail
            refine (Fixed_calls w3.heap.size u4 _ 4 kn w3 w8 HB4.out HS4.out (by rw [List.length_append]; have := HL0.out; have := HSZ.out.2; omega) (by omega) (by omega) (lt256 hkn4)).mono ?_
            rintro e_ w9 ⟨rfl, u5, hS5, hB5, -⟩
            have HB5 := Aside0.mk hB5
            have HS5 := Aside0.mk hS5
            clear hB5 hS5 HB4 HS4 hy0 hy1 c3 t0 n0 n1
            go_wp2_with fail
            go_roundw
            case rel => exact ⟨i + 1, u5, rfl, hil, ⟨by
              have e : [] ++ [2] ++ be 2 ks.length ++ be 4 k0 ++ encKs (ks.take (i + 1)) (kids.drop 1) = [] ++ [2] ++ be 2 ks.length ++ be 4 k0 ++ encKs (ks.take i) (kids.drop 1) ++ txL x ++ be 4 kn := by
                rw [HTK.out]
                simp only [List.append_assoc]
              rw [e]
              exact HS5.out⟩, HB5⟩
            case measure => simp only [vNat]; omega
          · have d1 : decide ((i : Int) < (ks.length : Int)) = false := decide_eq_false (by omega)
            have htk : ks.take i = ks := List.take_of_length_le (by omega)
            rw [htk] at HS
            clear c3
            go_wp2_with fail
            refine (Told_calls w3.heap.size u _ w3.heap.size wr HS.out).mono ?_
            rintro e_ wz ⟨rfl, rfl⟩
            have HBF := Aside0.mk (below_then HB0.out (below_size HB0.out) HB.out)
            go_wp2_with fail
            go_ret2
            unfold bodyV
            rw [if_neg (show ¬ (false = true) by decide), HK0.out, Int.toNat_natCast, List.drop_one]
            have e : [2] ++ be 2 ks.length ++ be 4 k0 ++ encKs ks kids.tail = 2 :: (be 2 ks.length ++ (be 4 k0 ++ encKs ks kids.tail)) := by rw [List.append_assoc, List.append_assoc]; rfl
            rw [e]
            exact ⟨rfl, HBF.out⟩
  · have d1 : (C != 0) = true := by simpa using hC0
    have d2 : (C == 0) = false := by simpa using hC0
    have HC := Aside0.mk hC0
    have HB := Aside0.mk hb0
    clear hC0 hb0
    go_wp2_with fail
    repeat (go_quiet (fail); try go_wp2_with fail)
    go_ret2
    have h9 := H.out
    unfold encV at h9
    rw [hC, if_neg HC.out] at h9
    obtain ⟨rfl, rfl⟩ := Prod.mk.inj h9
    exact ⟨rfl, HB.out⟩
end Go.Proofs.Ytdjjpgdhnoibkaa.My
