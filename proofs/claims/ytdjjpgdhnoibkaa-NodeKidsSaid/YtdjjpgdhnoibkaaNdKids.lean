/- NodeKids: Grow, Shrink and Kid, and the law of them. -/
import Derived.Test.YtdjjpgdhnoibkaaNdSrt
import Derived.Test.YtdjjpgdhnoibkaaNdBackW
import Derived.Test.YtdjjpgdhnoibkaaPKy1
namespace Go.Proofs.Ytdjjpgdhnoibkaa.My
open Go.RowKit Go.Proofs.YtdjjpgdhnoibkaaW.PrintWords Go.Proofs.YtdjjpgdhnoibkaaW.PrintLast Go.Proofs.YtdjjpgdhnoibkaaW.PrintMore Go.Proofs.Ytdjjpgdhnoibkaa Go.Proofs.Ytdjjpgdhnoibkaa.PZ Go.Proofs.Ytdjjpgdhnoibkaa.PD Go.Proofs.Ytdjjpgdhnoibkaa.PK
set_option linter.unusedSimpArgs false
set_option linter.unusedVariables false
set_option maxRecDepth 100000
set_option maxHeartbeats 1600000
theorem twin_f (b : Bool) (cs : List Ce) (ks : List ByteArray) (kids : List Int) (hn : NdOk cs ks kids) : concordlaw08_twin.f b cs ks kids = some (b, cs, ks, kids) := by
 obtain ⟨⟨n1, n2, n3⟩, n4, n5⟩ := hn
 unfold concordlaw08_twin.f
 rw [if_pos (by simpa using n1), if_pos (by simpa using n2), if_pos (by simpa using n3)]
 rw [List.nil_append, List.nil_append, List.nil_append]
def growL {α : Type} (l : List α) (i : Nat) (x : α) : List α := l.take i ++ x :: l.drop i
theorem growL_len {α : Type} (l : List α) (i : Nat) (x : α) (hi : i ≤ l.length) : (growL l i x).length = l.length + 1 := by
 unfold growL
 rw [List.length_append, List.length_cons, List.length_take, List.length_drop]
 omega
theorem growL_mem {α : Type} (l : List α) (i : Nat) (x y : α) (h : y ∈ growL l i x) : y = x ∨ y ∈ l := by
 unfold growL at h
 rcases List.mem_append.1 h with h | h
 ·exact .inr (List.mem_of_mem_take h)
 ·rcases List.mem_cons.1 h with h | h
  ·exact .inl h
  ·exact .inr (List.mem_of_mem_drop h)
theorem growL_back {α : Type} (l : List α) (i : Nat) (x : α) (hi : i ≤ l.length) : (growL l i x).take i ++ (growL l i x).drop (i + 1) = l := by
 have h1 : (l.take i).length = i := by rw [List.length_take]; omega
 have e1 : (l.take i ++ x :: l.drop i).take i = l.take i := List.take_left' h1
 have e2 : (l.take i ++ x :: l.drop i).drop (i + 1) = l.drop i := by
  rw [show l.take i ++ x :: l.drop i = (l.take i ++ [x]) ++ l.drop i by simp]
  exact List.drop_left' (by rw [List.length_append, h1]; rfl)
 unfold growL
 rw [e1, e2, List.take_append_drop]
theorem growL_lo {α : Type} (l : List α) (i : Nat) (x : α) (hi : i ≤ l.length) (j : Nat) (hj : j < i) (h : j < (growL l i x).length) : (growL l i x)[j] = l[j]'(by omega) := by
 have h2 : (growL l i x)[j]? = l[j]? := by
  unfold growL
  rw [List.getElem?_append_left (by rw [List.length_take]; omega), List.getElem?_take, if_pos hj]
 rw [List.getElem?_eq_getElem h, List.getElem?_eq_getElem (by omega)] at h2
 exact Option.some.inj h2
theorem growL_at {α : Type} (l : List α) (i : Nat) (x : α) (hi : i ≤ l.length) (h : i < (growL l i x).length) : (growL l i x)[i] = x := by
 have h1 : (l.take i).length = i := by rw [List.length_take]; omega
 have h2 : (growL l i x)[i]? = some x := by
  unfold growL
  rw [List.getElem?_append_right (by omega), h1, Nat.sub_self]
  rfl
 rw [List.getElem?_eq_getElem h] at h2
 exact Option.some.inj h2
theorem growL_hi {α : Type} (l : List α) (i : Nat) (x : α) (hi : i ≤ l.length) (j : Nat) (hj : i < j) (h : j < (growL l i x).length) : (growL l i x)[j] = l[j - 1]'(by have := growL_len l i x hi; omega) := by
 have h0 := growL_len l i x hi
 have h1 : (l.take i).length = i := by rw [List.length_take]; omega
 have h2 : (growL l i x)[j]? = l[j - 1]? := by
  unfold growL
  rw [List.getElem?_append_right (by omega), h1, show j - i = (j - 1 - i) + 1 by omega, List.getElem?_cons_succ, List.getElem?_drop]
  congr 1
  omega
 rw [List.getElem?_eq_getElem h, List.getElem?_eq_getElem (by omega)] at h2
 exact Option.some.inj h2
theorem br_zero {ks : List ByteArray} {kids : List Int} (h : chkV false [] ks kids = 0) : brV false [] ks kids = 0 := by
 unfold brV
 rw [if_neg (by rintro ⟨_, h⟩; cases h), h]
theorem grow_f (ks : List ByteArray) (kids : List Int) (h : chkV false [] ks kids = 0) (hr : ∀ x ∈ kids, 0 ≤ x ∧ x < 4294967296) (i : Nat) (hi : i ≤ ks.length) (key : ByteArray) (kid : Int) :
  node_Grow.f false [] ks kids (i : Int) key kid = some (if okK key = true ∧ kid ≠ 0 then (if chkV false [] (growL ks i key) (growL kids (i + 1) kid) = 0 then (false, [], growL ks i key, growL kids (i + 1) kid, 0) else (false, [], [], [], chkV false [] (growL ks i key) (growL kids (i + 1) kid))) else (false, [], [], [], 1)) := by
 obtain ⟨_, hn⟩ := nd_of_chk h
 obtain ⟨f1, f2, f3, f4, f5⟩ := chk_facts h
 have hkl := (shp_branch f1).2
 unfold node_Grow.f
 rw [if_pos (ndB_of hn hr)]
 unfold growV
 rw [if_pos (br_zero h)]
 by_cases h1 : okK key = true ∧ kid ≠ 0
 ·rw [if_neg (by rintro (h | h | h | h); omega; omega; rw [h1.1] at h; cases h; exact h1.2 h), if_pos h1, Int.toNat_natCast]
  rfl
 ·rw [if_neg h1, if_pos (by
   by_cases h2 : kid = 0
   ·exact Or.inr (Or.inr (Or.inr h2))
   ·refine Or.inr (Or.inr (Or.inl ?_))
    cases hk : okK key with
    | false => rfl
    | true => exact absurd ⟨hk, h2⟩ h1)]
theorem shrink_f (ks : List ByteArray) (kids : List Int) (h : chkV false [] ks kids = 0) (hr : ∀ x ∈ kids, 0 ≤ x ∧ x < 4294967296) (i : Nat) (hi : i < ks.length) :
  node_Shrink.f false [] ks kids (i : Int) = some (false, [], ks.take i ++ ks.drop (i + 1), kids.take (i + 1) ++ kids.drop (i + 2), 0) := by
 obtain ⟨_, hn⟩ := nd_of_chk h
 unfold node_Shrink.f
 rw [if_pos (ndB_of hn hr)]
 unfold shrinkV
 rw [if_pos (br_zero h), if_neg (by rintro (h | h) <;> omega), Int.toNat_natCast]
theorem grow_shp (ks : List ByteArray) (kids : List Int) (h : shpV false [] ks kids = true) (i : Nat) (hi : i ≤ ks.length) (key : ByteArray) (kid : Int) (hz : kid ≠ 0) : shpV false [] (growL ks i key) (growL kids (i + 1) kid) = true := by
 have hl := (shp_branch h).2
 have e1 := growL_len ks i key hi
 have e2 := growL_len kids (i + 1) kid (by omega)
 unfold shpV at h ⊢
 rw [if_neg (by decide)] at h ⊢
 have h1 := (Bool.and_eq_true _ _ ▸ h).1
 rw [Bool.not_eq_true', List.any_eq_false] at h1
 have h2 : (growL kids (i + 1) kid).any (fun x => decide (x = 0)) = false := by
  rw [List.any_eq_false]
  intro x hx
  rcases growL_mem _ _ _ _ hx with rfl | hx
  ·simpa using hz
  ·exact h1 x hx
 rw [h2, decide_eq_true (by omega)]
 rfl
theorem chk_or (b : Bool) (cs : List Ce) (ks : List ByteArray) (kids : List Int) (h : shpV b cs ks kids = true) : chkV b cs ks kids = 0 ∨ chkV b cs ks kids = 81 ∨ chkV b cs ks kids = 82 := by
 unfold chkV
 rw [if_neg (by rw [h]; decide)]
 split
 ·exact .inr (.inr rfl)
 ·split
  ·exact .inr (.inl rfl)
  ·split
   ·exact .inr (.inr rfl)
   ·exact .inl rfl
theorem nkid_f (b : Bool) (cs : List Ce) (ks : List ByteArray) (kids : List Int) (key : ByteArray) (h : ndB cs ks kids = true) : node_Kid.f b cs ks kids key = some (kidA b cs ks kids key) := by
 unfold node_Kid.f
 rw [if_pos h]
theorem rise_of {ks : List ByteArray} {kids : List Int} (h : chkV false [] ks kids = 0) : Rise ks := by
 obtain ⟨f1, f2, f3, f4, f5⟩ := chk_facts h
 rw [keys_branch] at f4
 exact ((rsB_iff _ _).1 f4).2
/-- Behind Grow the key's place is one further. -/
theorem kid_grown (ks : List ByteArray) (key : ByteArray) (h : Rise ks) : srch (pK (growL ks (srch (pK ks key) ks.length 0 ks.length) key) key) (growL ks (srch (pK ks key) ks.length 0 ks.length) key).length 0 (growL ks (srch (pK ks key) ks.length 0 ks.length) key).length = srch (pK ks key) ks.length 0 ks.length + 1 := by
 obtain ⟨a1, a2, a3⟩ := kid_at ks key h
 generalize srch (pK ks key) ks.length 0 ks.length = s at *
 have e1 := growL_len ks s key a1
 refine kid_uniq _ _ _ (by omega) (fun i hi h1 => ?_) (fun i hi h1 => ?_)
 ·by_cases h2 : i = s
  ·subst h2
   rw [growL_at ks i key a1 hi, bl_irr]
  ·rw [growL_lo ks s key a1 i (by omega) hi]
   exact a2 i (by omega) (by omega)
 ·rw [growL_hi ks s key a1 i (by omega) hi]
  exact a3 (i - 1) (by omega) (by omega)
theorem kids_tail (ks : List ByteArray) (kids : List Int) (h : chkV false [] ks kids = 0) (hr : ∀ x ∈ kids, 0 ≤ x ∧ x < 4294967296) (key : ByteArray) (kid : Int) (hkid : 0 ≤ kid ∧ kid < 4294967296) (k : Nat) (hk : 100000 ≤ k) :
  concordlaw08_NodeKids.l0 k key kid (srch (pK ks key) ks.length 0 ks.length : Nat) (ks.length : Int) false [] ks kids = some true := by
 obtain ⟨⟨l1, l2, l3⟩, hn⟩ := nd_of_chk h
 have hkl := (shp_branch (chk_facts h).1).2
 have hri := rise_of h
 have hg := Aside0.mk (kid_grown ks key hri)
 have a1 := (kid_at ks key hri).1
 generalize srch (pK ks key) ks.length 0 ks.length = s at *
 have HG := fun (hr : ∀ x ∈ kids, 0 ≤ x ∧ x < 4294967296) => grow_f ks kids h hr s a1 key kid
 replace HG := Aside0.mk (HG hr)
 have HF1 := Aside0.mk (chk_facts h).1
 have HR := Aside0.mk hr
 have HN := Aside0.mk hn
 have HKD := Aside0.mk hkid
 clear h hri hr hn hkid
 obtain ⟨k, rfl⟩ : ∃ j, k = j + 1 := ⟨k - 1, by omega⟩
 rw [concordlaw08_NodeKids.l0, if_neg (by omega), twin_f false [] ks kids HN.out, Option.bind_some]
 dsimp only
 rw [HG.out, Option.bind_some]
 clear HG
 by_cases h1 : okK key = true ∧ kid ≠ 0
 ·rw [if_pos h1]
  by_cases h2 : chkV false [] (growL ks s key) (growL kids (s + 1) kid) = 0
  ·rw [if_pos h2]
   dsimp only
   have e1 := growL_len ks s key a1
   have e2 := growL_len kids (s + 1) kid (by omega)
   have p1 : s + 1 < (growL kids (s + 1) kid).length := by rw [e2]; omega
   have p2 : s < (growL ks s key).length := by rw [e1]; omega
   have g1 := Aside0.mk (growL_at kids (s + 1) kid (by omega) p1)
   have g2 := Aside0.mk (growL_at ks s key a1 p2)
   obtain ⟨⟨m1, m2, m3⟩, hm⟩ := nd_of_chk h2
   have hr2 : ∀ x ∈ growL kids (s + 1) kid, 0 ≤ x ∧ x < 4294967296 := fun x hx => by
    rcases growL_mem _ _ _ _ hx with rfl | hx
    ·exact HKD.out
    ·exact HR.out x hx
   have hb : ndB [] (growL ks s key) (growL kids (s + 1) kid) = true := ndB_of hm hr2
   have hkA : kidA false [] (growL ks s key) (growL kids (s + 1) kid) key = ((s + 1 : Nat) : Int) := by
    unfold kidA
    rw [if_neg (by decide), if_pos h2]
    unfold kidV
    rw [hg.out]
   have HS := Aside0.mk (shrink_f _ _ h2 hr2 s (by rw [e1]; exact Nat.lt_succ_of_le a1))
   have HB := Aside0.mk hb
   have HKA := Aside0.mk hkA
   have b1 := Aside0.mk (growL_back ks s key a1)
   have b2 := Aside0.mk (growL_back kids (s + 1) kid (by omega))
   clear h2 hm hr2 hb hkA
   rw [if_pos rfl, nkid_f _ _ _ _ _ HB.out, HKA.out, Option.bind_some]
   generalize growL ks s key = G at *
   generalize growL kids (s + 1) kid = K at *
   have w1 : wrap64 ((kids.length : Int) + 1) = ((kids.length + 1 : Nat) : Int) := w64S _ (by omega)
   rw [w64S s (by omega), if_pos rfl, w1, if_pos (by rw [e2]), if_pos (by omega), if_pos (by omega), rdI_at K (s + 1) p1, g1.out, if_pos rfl, if_pos (by omega), if_pos (by omega), rdS_at G s p2, g2.out]
   obtain ⟨k, rfl⟩ : ∃ j, k = j + 1 := ⟨k - 1, by omega⟩
   rw [bne_self_eq_false, concordlaw08_NodeKids.j3, if_neg (by decide), HS.out, Option.bind_some]
   dsimp only
   rw [if_pos rfl, b1.out, b2.out, same_f false false [] [] ks ks kids kids (by omega) (by omega) (by simp) k (by simp only [List.length_nil]; omega), decide_eq_true ⟨rfl, rfl, rfl, rfl⟩]
   rfl
  ·rw [if_neg h2]
   dsimp only
   rw [if_neg h2]
   rcases chk_or false [] (growL ks s key) (growL kids (s + 1) kid) (grow_shp ks kids HF1.out s a1 key kid h1.2) with h3 | h3 | h3
   ·exact absurd h3 h2
   ·rw [h3]
    rfl
   ·rw [h3]
    rfl
 ·rw [if_neg h1]
  rfl
theorem kids_loop (ks : List ByteArray) (kids : List Int) (h : chkV false [] ks kids = 0) (hr : ∀ x ∈ kids, 0 ≤ x ∧ x < 4294967296) (key : ByteArray) (kid : Int) (hkid : 0 ≤ kid ∧ kid < 4294967296) : ∀ (n i k : Nat), i + n = ks.length → 100000 + n ≤ k →
  concordlaw08_NodeKids.l0 k key kid (srch (pK ks key) ks.length 0 ks.length : Nat) (i : Int) false [] ks kids = some true
 | 0, i, k, hi, hk => by
  have h1 := kids_tail ks kids h hr key kid hkid k (by omega)
  rw [show (i : Int) = (ks.length : Int) by omega]
  exact h1
 | n + 1, i, k, hi, hk => by
  obtain ⟨⟨l1, l2, l3⟩, hn⟩ := nd_of_chk h
  have ih := kids_loop ks kids h hr key kid hkid n (i + 1) (k - 1) (by omega) (by omega)
  obtain ⟨a1, a2, a3⟩ := kid_at ks key (rise_of h)
  generalize srch (pK ks key) ks.length 0 ks.length = s at *
  obtain ⟨k, rfl⟩ : ∃ j, k = j + 1 := ⟨k - 1, by omega⟩
  have hil : i < ks.length := by omega
  have hc : ((!(Op.bytesLess key.toList ks[i].toList)) != (decide ((i : Int) < (s : Int)))) = false := by
   by_cases h1 : i < s
   ·rw [a2 i hil h1, decide_eq_true (by omega)]
    rfl
   ·rw [a3 i hil (by omega), decide_eq_false (by omega)]
    rfl
  rw [concordlaw08_NodeKids.l0, if_pos (by omega), if_pos (by omega), rdS_at ks i hil, hc, if_neg (by decide), w64S i (by omega)]
  exact ih
theorem nkids_f (b : Bool) (cs : List Ce) (ks : List ByteArray) (kids : List Int) (hn : NdOk cs ks kids) (hr : ∀ x ∈ kids, 0 ≤ x ∧ x < 4294967296) (key : ByteArray) (kid : Int) (hkid : 0 ≤ kid ∧ kid < 4294967296) (k : Nat) (hk : 2 * (cs.length + ks.length) + kids.length + 600000 ≤ k) :
  concordlaw08_NodeKids.f k b cs ks kids key kid = some true := by
 have hnb := ndB_of hn hr
 have hj : kidA b cs ks kids key = -1 → concordlaw08_NodeKids.j0 k key kid true b cs ks kids = some true := by
  intro hA
  obtain ⟨k, rfl⟩ : ∃ j, k = j + 1 := ⟨k - 1, by omega⟩
  rw [concordlaw08_NodeKids.j0, if_pos rfl, twin_f b cs ks kids hn, Option.bind_some]
  dsimp only
  rw [nkid_f _ _ _ _ _ hnb, hA]
  rfl
 unfold concordlaw08_NodeKids.f
 rw [awake_f k (by omega), Option.bind_some, if_pos rfl, rchk_f b cs ks kids hn k (by omega), Option.bind_some]
 by_cases hc : chkV b cs ks kids = 0
 ·rw [if_pos hc]
  cases b with
  | true => exact hj (by unfold kidA; rw [if_pos rfl])
  | false =>
   obtain ⟨⟨l1, l2, l3⟩, _⟩ := nd_of_chk hc
   obtain ⟨f1, f2, f3, f4, f5⟩ := chk_facts hc
   obtain ⟨rfl, hkl⟩ := shp_branch f1
   obtain ⟨k, rfl⟩ : ∃ j, k = j + 1 := ⟨k - 1, by omega⟩
   obtain ⟨k, rfl⟩ : ∃ j, k = j + 1 := ⟨k - 1, by omega⟩
   have a1 := (kid_at ks key (rise_of hc)).1
   have hl := kids_loop ks kids hc hr key kid hkid ks.length 0 k (by omega) (by omega)
   have hkA : kidA false [] ks kids key = (srch (pK ks key) ks.length 0 ks.length : Nat) := by
    unfold kidA
    rw [if_neg (by decide), if_pos hc]
    rfl
   rw [concordlaw08_NodeKids.j0, if_neg (by decide), twin_f false [] ks kids hn, Option.bind_some]
   dsimp only
   rw [nkid_f _ _ _ _ _ hnb, hkA, Option.bind_some, if_neg (by omega), concordlaw08_NodeKids.j1, if_neg (by rw [decide_eq_false (by omega)]; decide)]
   exact hl
 ·rw [if_neg hc]
  refine hj ?_
  unfold kidA
  cases b with
  | true => rw [if_pos rfl]
  | false => rw [if_neg (by decide), if_neg hc]
theorem NodeKids_walk (w : World) (b : Bool) (A1 : Option Addr) (c1 : Nat) (cs : List S66) (A2 : Option Addr) (c2 : Nat) (ks : List ByteArray) (A3 : Option Addr) (c3 : Nat) (kids : List Int) (hc1 : cs.length ≤ c1) (hc2 : ks.length ≤ c2) (hc3 : kids.length ≤ c3) (h1 : Kd.C k66 w A1 cs.length cs) (h2 : Kd.C Kd.string w A2 ks.length ks) (h3 : Kd.C (Kd.int .u32) w A3 kids.length kids) (hk : ∀ x ∈ kids, 0 ≤ x ∧ x < 4294967296) (hn : NdOk cs ks kids) (key : ByteArray) (hs : key.size ≤ 140737488351232) (kid : Int) (hkid : (Lit.int .u32 kid).wf = true) :
  Calls Try.prog 13 #[.agg #[.bool b, .slice A1 cs.length c1, .slice A2 ks.length c2, .slice A3 kids.length c3], .string key, .int .u32 kid] w fun e w' => e = .returned (.bool true) ∧ Below w.heap.size w w' := by
 have hkr : 0 ≤ kid ∧ kid < 4294967296 := by
  have h := hkid
  simp [Lit.wf, IntKind.min, IntKind.max, IntKind.signed, IntKind.bits] at h
  omega
 refine (concordlaw08_NodeKids.calls _ b A1 c1 cs A2 c2 ks A3 c3 kids key kid true w h1 hc1 h2 hc2 h3 hc3 (by rw [awake_f _ (by omega)]; decide) (nkids_f b cs ks kids hn hk key kid hkr _ (Nat.le_refl _))).mono ?_
 rintro e w' ⟨rfl, h⟩
 exact ⟨rfl, h⟩
end Go.Proofs.Ytdjjpgdhnoibkaa.My
