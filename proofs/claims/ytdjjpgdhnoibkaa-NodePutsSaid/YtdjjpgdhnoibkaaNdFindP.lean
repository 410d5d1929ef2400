/- What the document says of Find and Kid is what is found by halves; lent and over answer. No walk. -/
import Derived.Test.YtdjjpgdhnoibkaaNdSrt
import Derived.Test.YtdjjpgdhnoibkaaNdKid
import Derived.Test.YtdjjpgdhnoibkaaNdLent
import Derived.Test.YtdjjpgdhnoibkaaPDy12
import Derived.Test.YtdjjpgdhnoibkaaPZx4
import Derived.Test.YtdjjpgdhnoibkaaPZx6
import Derived.Test.YtdjjpgdhnoibkaaPZx8
namespace Go.Proofs.Ytdjjpgdhnoibkaa.My
open Go.RowKit Go.Proofs.YtdjjpgdhnoibkaaW.PrintWords Go.Proofs.YtdjjpgdhnoibkaaW.PrintLast Go.Proofs.YtdjjpgdhnoibkaaW.PrintMore Go.Proofs.Ytdjjpgdhnoibkaa Go.Proofs.Ytdjjpgdhnoibkaa.PZ Go.Proofs.Ytdjjpgdhnoibkaa.PD
set_option linter.unusedSimpArgs false
set_option linter.unusedVariables false
set_option maxRecDepth 100000
set_option maxHeartbeats 1600000
def findA (b : Bool) (cs : List Ce) (ks : List ByteArray) (kids : List Int) (key : ByteArray) : Int × Bool := if b = true ∧ chkV b cs ks kids = 0 then findV cs key else (0, false)
theorem rise_leaf {cs : List Ce} {ks : List ByteArray} {kids : List Int} (h : chkV true cs ks kids = 0) : Rise (cs.map (fun c => c.f0)) := by
  obtain ⟨f1, f2, f3, f4, f5⟩ := chk_facts h
  obtain ⟨rfl, _⟩ := (by unfold shpV at f1; rw [if_pos rfl, Bool.and_eq_true] at f1; exact ⟨List.isEmpty_iff.1 f1.1, f1.2⟩ : ks = [] ∧ kids.isEmpty = true)
  rw [keys_leaf] at f4
  exact ((rsB_iff _ _).1 f4).2
theorem nfind_f (b : Bool) (cs : List Ce) (ks : List ByteArray) (kids : List Int) (key : ByteArray) (hn : NdOk cs ks kids) (k : Nat) (hk : 2 * (cs.length + ks.length) + kids.length + 60 ≤ k) : node_Find.f k b cs ks kids key = some (findA b cs ks kids key) := by
  have hl := hn.1.1
  unfold node_Find.f findA
  cases b with
  | false => rw [if_neg (by decide), if_neg (by rintro ⟨h, _⟩; cases h)]
  | true =>
    rw [if_pos rfl, ochk_f true cs ks kids hn k hk, Option.bind_some]
    by_cases hc : chkV true cs ks kids = 0
    · rw [if_pos hc, if_pos ⟨rfl, hc⟩]
      unfold node_find.f
      rw [if_pos (by omega)]
      rfl
    · rw [if_neg hc, if_neg (fun h => hc h.2)]
theorem rfind_l0 (b : Bool) (cs : List Ce) (ks : List ByteArray) (kids : List Int) (key : ByteArray) (hl : cs.length < 4398046511104) (hri : Rise (cs.map (fun c => c.f0))) (s : Nat) (hs : s = srch (pF cs key) cs.length 0 cs.length) (T : Bool) (hT : T = (findV cs key).2) : ∀ (n i k : Nat), i + n = cs.length → n + 1 ≤ k →
    concordref08_Find.l0 k key ((min i s : Nat) : Int) (decide (s < i) && T) (i : Int) b cs ks kids = some ((s : Int), T)
  | 0, i, k, hi, hk => by
    obtain ⟨k, rfl⟩ : ∃ j, k = j + 1 := ⟨k - 1, by omega⟩
    have h1 := (find_at cs key hri).1
    rw [← hs] at h1
    rw [concordref08_Find.l0, if_neg (by omega), show min i s = s by omega]
    have hTT : (decide (s < i) && T) = T := by
      rw [hT]
      unfold findV
      rw [← hs, show i = cs.length by omega]
      dsimp only
      cases decide (s < cs.length) <;> rfl
    rw [hTT]
  | n + 1, i, k, hi, hk => by
    obtain ⟨k, rfl⟩ : ∃ j, k = j + 1 := ⟨k - 1, by omega⟩
    have ih := rfind_l0 b cs ks kids key hl hri s hs T hT n (i + 1) k (by omega) (by omega)
    obtain ⟨h1, h2, h3⟩ := find_at cs key hri
    rw [← hs] at h1 h2 h3
    have hil : i < cs.length := by omega
    have hr : ∀ a c (hac : a < c) (hc : c < cs.length), Op.bytesLess (cs[a]'(by omega)).f0.toList (cs[c]'hc).f0.toList = true := fun a c hac hc => by
      have h := rise_at hri a c hac (by rw [List.length_map]; exact hc)
      rw [List.getElem_map, List.getElem_map] at h
      exact h
    rw [concordref08_Find.l0, if_pos (by omega), if_pos (by omega), rdC_at cs i hil, w64S i (by omega)]
    by_cases his : i < s
    · have hb := h2 i hil his
      rw [if_pos hb, show min i s = i by omega, w64S i (by omega)]
      have hne : ¬ cs[i].f0.toList = key.toList := fun e => by rw [e, bl_irr] at hb; cases hb
      rw [if_neg hne]
      rw [show min (i + 1) s = i + 1 by omega] at ih
      rw [show decide (s < i) = decide (s < i + 1) by rw [decide_eq_false (by omega), decide_eq_false (by omega)]]
      exact ih
    · have hb := h3 i hil (by omega)
      rw [if_neg (by rw [hb]; decide), show min i s = s by omega]
      rw [show min (i + 1) s = s by omega, decide_eq_true (show s < i + 1 by omega), Bool.true_and] at ih
      by_cases hisq : i = s
      · subst hisq
        have hTv : T = (cs[i].f0.toList == key.toList) := by
          rw [hT]
          unfold findV
          rw [← hs, decide_eq_true hil, Bool.true_and, rdC_at cs i hil]
        by_cases he : cs[i].f0.toList = key.toList
        · rw [if_pos he]
          rw [hTv, beq_iff_eq.2 he] at ih ⊢
          exact ih
        · rw [if_neg he, decide_eq_false (by omega), Bool.false_and]
          rw [hTv, beq_eq_false_iff_ne.2 he] at ih ⊢
          exact ih
      · have hne : ¬ cs[i].f0.toList = key.toList := fun e => by
          have h5 := bl_le_lt key.toList _ _ (h3 s (by omega) (Nat.le_refl _)) (hr s i (by omega) hil)
          rw [e, bl_irr] at h5
          cases h5
        rw [if_neg hne, decide_eq_true (by omega), Bool.true_and]
        exact ih
theorem rfind_f (b : Bool) (cs : List Ce) (ks : List ByteArray) (kids : List Int) (key : ByteArray) (hn : NdOk cs ks kids) (k : Nat) (hk : 2 * (cs.length + ks.length) + kids.length + 60 ≤ k) : concordref08_Find.f k b cs ks kids key = some (findA b cs ks kids key) := by
  have hl := hn.1.1
  unfold concordref08_Find.f findA
  rw [rchk_f b cs ks kids hn k hk, Option.bind_some]
  obtain ⟨k, rfl⟩ : ∃ j, k = j + 1 := ⟨k - 1, by omega⟩
  by_cases hc : chkV b cs ks kids = 0
  · rw [if_pos hc]
    cases b with
    | false => rw [if_neg (by rintro ⟨h, _⟩; cases h), concordref08_Find.j0, if_pos (by decide)]
    | true =>
      have h := rfind_l0 true cs ks kids key hl (rise_leaf hc) _ rfl _ rfl cs.length 0 k (by omega) (by omega)
      rw [if_pos ⟨rfl, hc⟩, concordref08_Find.j0, if_neg (by decide)]
      rw [Nat.zero_min, decide_eq_false (Nat.not_lt_zero _), Bool.false_and] at h
      exact h
  · rw [if_neg hc, if_neg (fun h => hc h.2), concordref08_Find.j0, if_pos rfl]
theorem enc4 (n : Int) : (Utf8.encode n).size ≤ 4 := by
  unfold Utf8.encode
  dsimp only
  split <;> split <;> (try split) <;> (try split) <;> (try split) <;> simp [ByteArray.size]
theorem ris4 (n : Int) : ∃ s : ByteArray, concordlaw08_rising.f n = some s ∧ s.size = 4 := ⟨_, rfl, by rw [strOfNums_size]; rfl⟩
theorem ndB_of' {cs : List Ce} {ks : List ByteArray} {kids : List Int} (h : NdOk cs ks kids) (hk : ∀ x ∈ kids, 0 ≤ x ∧ x < 4294967296) : ndB cs ks kids = true := by
  unfold ndB
  simp only [Bool.and_eq_true, decide_eq_true_eq, List.all_eq_true]
  exact ⟨⟨⟨h.1.1, h.1.2.1⟩, h.1.2.2⟩, h.2.1, h.2.2, hk⟩
/-- What over makes of a node: of the same lengths, and within bounds. -/
def OvOk (cs : List Ce) (ks : List ByteArray) (kids : List Int) (r1 : List Ce) (r2 : List ByteArray) (r3 : List Int) : Prop := r1.length = cs.length ∧ r2.length = ks.length ∧ r3.length = kids.length ∧ NdOk r1 r2 r3 ∧ ∀ x ∈ r3, 0 ≤ x ∧ x < 4294967296
theorem over_l2 (b : Bool) (cs : List Ce) (ks : List ByteArray) : ∀ (n i k : Nat) (kids : List Int), NdOk cs ks kids → (∀ x ∈ kids, 0 ≤ x ∧ x < 4294967296) → i + n = kids.length → n + 1 ≤ k → ∃ r1 r2 r3, concordlaw08_over.l2 k (i : Int) b cs ks kids = some (r1, r2, r3) ∧ OvOk cs ks kids r1 r2 r3
  | 0, i, k, kids, hn, hr, hi, hk => by
    obtain ⟨k, rfl⟩ : ∃ j, k = j + 1 := ⟨k - 1, by omega⟩
    exact ⟨cs, ks, kids, by rw [concordlaw08_over.l2, if_neg (by omega)], rfl, rfl, rfl, hn, hr⟩
  | n + 1, i, k, kids, hn, hr, hi, hk => by
    obtain ⟨k, rfl⟩ : ∃ j, k = j + 1 := ⟨k - 1, by omega⟩
    have hlen : (kids.set (i : Int).toNat ((wrap64 (77 + (i : Int))) % 4294967296)).length = kids.length := List.length_set
    obtain ⟨r1, r2, r3, hx, a1, a2, a3, a4, a5⟩ := over_l2 b cs ks n (i + 1) k (kids.set (i : Int).toNat ((wrap64 (77 + (i : Int))) % 4294967296)) ⟨⟨hn.1.1, hn.1.2.1, by rw [hlen]; exact hn.1.2.2⟩, hn.2⟩ (fun x hx => by
      rcases List.mem_or_eq_of_mem_set hx with h | h
      · exact hr x h
      · rw [h]; omega) (by rw [hlen]; omega) (by omega)
    exact ⟨r1, r2, r3, by rw [concordlaw08_over.l2, if_pos (by omega), if_pos (by omega), w64S i (by have := hn.1.2.2; omega)]; exact hx, a1, a2, a3.trans hlen, a4, a5⟩
theorem over_l1 (b : Bool) (cs : List Ce) (kids : List Int) (hr : ∀ x ∈ kids, 0 ≤ x ∧ x < 4294967296) : ∀ (n i k : Nat) (ks : List ByteArray), NdOk cs ks kids → i + n = ks.length → n + kids.length + 3 ≤ k → ∃ r1 r2 r3, concordlaw08_over.l1 k (i : Int) b cs ks kids = some (r1, r2, r3) ∧ OvOk cs ks kids r1 r2 r3
  | 0, i, k, ks, hn, hi, hk => by
    obtain ⟨k, rfl⟩ : ∃ j, k = j + 1 := ⟨k - 1, by omega⟩
    obtain ⟨r1, r2, r3, hx, h⟩ := over_l2 b cs ks kids.length 0 k kids hn hr (by omega) (by omega)
    exact ⟨r1, r2, r3, by rw [concordlaw08_over.l1, if_neg (by omega)]; exact hx, h⟩
  | n + 1, i, k, ks, hn, hi, hk => by
    obtain ⟨k, rfl⟩ : ∃ j, k = j + 1 := ⟨k - 1, by omega⟩
    obtain ⟨s, hs, hs4⟩ := ris4 (i : Int)
    have hlen : (ks.set (i : Int).toNat s).length = ks.length := List.length_set
    obtain ⟨r1, r2, r3, hx, a1, a2, a3, a4, a5⟩ := over_l1 b cs kids hr n (i + 1) k (ks.set (i : Int).toNat s) ⟨⟨hn.1.1, by rw [hlen]; exact hn.1.2.1, hn.1.2.2⟩, hn.2.1, fun x hx => by
      rcases List.mem_or_eq_of_mem_set hx with h | h
      · exact hn.2.2 x h
      · rw [h, hs4]; decide⟩ (by rw [hlen]; omega) (by omega)
    exact ⟨r1, r2, r3, by rw [concordlaw08_over.l1, if_pos (by omega), hs, Option.bind_some, if_pos (by omega), w64S i (by have := hn.1.2.1; omega)]; exact hx, a1, a2.trans hlen, a3, a4, a5⟩
theorem over_l0 (b : Bool) (ks : List ByteArray) (kids : List Int) (hr : ∀ x ∈ kids, 0 ≤ x ∧ x < 4294967296) : ∀ (n i k : Nat) (cs : List Ce), NdOk cs ks kids → i + n = cs.length → n + ks.length + kids.length + 5 ≤ k → ∃ r1 r2 r3, concordlaw08_over.l0 k (i : Int) b cs ks kids = some (r1, r2, r3) ∧ OvOk cs ks kids r1 r2 r3
  | 0, i, k, cs, hn, hi, hk => by
    obtain ⟨k, rfl⟩ : ∃ j, k = j + 1 := ⟨k - 1, by omega⟩
    obtain ⟨r1, r2, r3, hx, h⟩ := over_l1 b cs kids hr ks.length 0 k ks hn (by omega) (by omega)
    exact ⟨r1, r2, r3, by rw [concordlaw08_over.l0, if_neg (by omega)]; exact hx, h⟩
  | n + 1, i, k, cs, hn, hi, hk => by
    obtain ⟨k, rfl⟩ : ∃ j, k = j + 1 := ⟨k - 1, by omega⟩
    obtain ⟨s, hs, hs4⟩ := ris4 (i : Int)
    have he4 := enc4 (wrap32 (wrap64 (97 + (Int.tmod (i : Int) 26))))
    have hlen : (cs.set (i : Int).toNat (⟨s, Utf8.encode (wrap32 (wrap64 (97 + (Int.tmod (i : Int) 26))))⟩ : Ce)).length = cs.length := List.length_set
    obtain ⟨r1, r2, r3, hx, a1, a2, a3, a4, a5⟩ := over_l0 b ks kids hr n (i + 1) k (cs.set (i : Int).toNat (⟨s, Utf8.encode (wrap32 (wrap64 (97 + (Int.tmod (i : Int) 26))))⟩ : Ce)) ⟨⟨by rw [hlen]; exact hn.1.1, hn.1.2⟩, fun x hx => by
      rcases List.mem_or_eq_of_mem_set hx with h | h
      · exact hn.2.1 x h
      · rw [h]; dsimp only; exact ⟨by rw [hs4]; decide, by omega⟩, hn.2.2⟩ (by rw [hlen]; omega) (by omega)
    exact ⟨r1, r2, r3, by rw [concordlaw08_over.l0, if_pos (by omega), hs, Option.bind_some, if_pos (by omega), w64S i (by have := hn.1.1; omega)]; exact hx, a1.trans hlen, a2, a3, a4, a5⟩
theorem over_f (b : Bool) (cs : List Ce) (ks : List ByteArray) (kids : List Int) (hn : NdOk cs ks kids) (hr : ∀ x ∈ kids, 0 ≤ x ∧ x < 4294967296) (k : Nat) (hk : cs.length + ks.length + kids.length + 5 ≤ k) : ∃ r1 r2 r3, concordlaw08_over.f k b cs ks kids = some (r1, r2, r3) ∧ OvOk cs ks kids r1 r2 r3 := over_l0 b ks kids hr cs.length 0 k cs hn (by omega) hk
theorem lent2_l0 (b b' : Bool) (cs : List Ce) (ks : List ByteArray) (kids : List Int) : ∀ (n i k : Nat) (a1 : List Ce) (a2 : List ByteArray) (a3 : List Int), i + n = 40 → n + 1 ≤ k → cs.length ≤ a1.length → ks.length ≤ a2.length → kids.length ≤ a3.length → a1.length + n ≤ 4398046511104 → a2.length + n ≤ 8796093022208 → a3.length + n ≤ 35184372088832 → ∃ t1 t2 t3, lent2.l0 k (i : Int) b cs ks kids b' a1 a2 a3 = some (b', a1 ++ t1, a2 ++ t2, a3 ++ t3) ∧ t1.length = n ∧ t2.length = n ∧ t3.length = n
  | 0, i, k, a1, a2, a3, hi, hk, l1, l2, l3, m1, m2, m3 => by
    obtain ⟨k, rfl⟩ : ∃ j, k = j + 1 := ⟨k - 1, by omega⟩
    refine ⟨[], [], [], ?_, rfl, rfl, rfl⟩
    rw [lent2.l0, if_neg (by omega), if_pos (by omega), if_pos (by omega), if_pos (by omega), if_pos (by omega), if_pos (by omega), if_pos (by omega), List.append_nil, List.append_nil, List.append_nil]
  | n + 1, i, k, a1, a2, a3, hi, hk, l1, l2, l3, m1, m2, m3 => by
    obtain ⟨k, rfl⟩ : ∃ j, k = j + 1 := ⟨k - 1, by omega⟩
    have he4 := enc4 (wrap32 (wrap64 (97 + (i : Int))))
    rw [lent2.l0, if_pos (by omega), if_pos (by omega), if_pos (by omega), if_pos (by omega), if_pos (by omega), w64S i (by omega)]
    generalize (⟨(⟨#[109, 97, 114, 107]⟩ : ByteArray), Utf8.encode (wrap32 (wrap64 (97 + (i : Int))))⟩ : Ce) = z1
    generalize (⟨#[109, 97, 114, 107]⟩ : ByteArray) ++ (Utf8.encode (wrap32 (wrap64 (97 + (i : Int))))) = z2
    generalize (wrap64 (1000000 + (i : Int))) % 4294967296 = z3
    obtain ⟨t1, t2, t3, hx, e1, e2, e3⟩ := lent2_l0 b b' cs ks kids n (i + 1) k (a1 ++ [z1]) (a2 ++ [z2]) (a3 ++ [z3]) (by omega) (by omega) (by rw [List.length_append]; omega) (by rw [List.length_append]; omega) (by rw [List.length_append]; omega) (by rw [List.length_append]; simp only [List.length_cons, List.length_nil]; omega) (by rw [List.length_append]; simp only [List.length_cons, List.length_nil]; omega) (by rw [List.length_append]; simp only [List.length_cons, List.length_nil]; omega)
    refine ⟨z1 :: t1, z2 :: t2, z3 :: t3, ?_, by rw [List.length_cons, e1], by rw [List.length_cons, e2], by rw [List.length_cons, e3]⟩
    rw [hx, List.append_assoc, List.append_assoc, List.append_assoc]
    rfl
theorem twin_f' (b : Bool) (cs : List Ce) (ks : List ByteArray) (kids : List Int) (hn : NdOk cs ks kids) : concordlaw08_twin.f b cs ks kids = some (b, cs, ks, kids) := by
  obtain ⟨⟨n1, n2, n3⟩, n4, n5⟩ := hn
  unfold concordlaw08_twin.f
  rw [if_pos (by simpa using n1), if_pos (by simpa using n2), if_pos (by simpa using n3)]
  rw [List.nil_append, List.nil_append, List.nil_append]
/-- A node that may be lent: room for the marks. -/
def NdRoom (cs : List Ce) (ks : List ByteArray) (kids : List Int) : Prop := cs.length ≤ 4398046511064 ∧ ks.length ≤ 8796093022168 ∧ kids.length ≤ 35184372088792
theorem lent2_f (b : Bool) (cs : List Ce) (ks : List ByteArray) (kids : List Int) (hn : NdOk cs ks kids) (hr : NdRoom cs ks kids) : ∃ t1 t2 t3, lent2.f 50 b cs ks kids = some (b, cs ++ t1, ks ++ t2, kids ++ t3) ∧ t1.length = 40 ∧ t2.length = 40 ∧ t3.length = 40 := by
  obtain ⟨r1, r2, r3⟩ := hr
  unfold lent2.f
  rw [twin_f' b cs ks kids hn, Option.bind_some]
  exact lent2_l0 b b cs ks kids 40 0 50 cs ks kids rfl (by decide) (Nat.le_refl _) (Nat.le_refl _) (Nat.le_refl _) (by omega) (by omega) (by omega)
end Go.Proofs.Ytdjjpgdhnoibkaa.My
