/- What the document says of Find and Kid is what is found by halves; lent and over answer. No walk. -/
import Derived.Test.YtdjjpgdhnoibkaaNdEnc
import Derived.Test.YtdjjpgdhnoibkaaSq
import Derived.Test.YtdjjpgdhnoibkaaPZx0
import Derived.Test.YtdjjpgdhnoibkaaPZx3
import Derived.Test.YtdjjpgdhnoibkaaPZx1
import Derived.Test.YtdjjpgdhnoibkaaPZx5
import Derived.Test.YtdjjpgdhnoibkaaNdSrt
import Derived.Test.YtdjjpgdhnoibkaaNdLent
import Derived.Test.YtdjjpgdhnoibkaaPZx4
import Derived.Test.YtdjjpgdhnoibkaaPZx8
namespace Go.Proofs.Ytdjjpgdhnoibkaa.My
open Go.RowKit Go.Proofs.YtdjjpgdhnoibkaaW.PrintWords Go.Proofs.YtdjjpgdhnoibkaaW.PrintLast Go.Proofs.YtdjjpgdhnoibkaaW.PrintMore Go.Proofs.Ytdjjpgdhnoibkaa Go.Proofs.Ytdjjpgdhnoibkaa.PZ
set_option linter.unusedSimpArgs false
set_option linter.unusedVariables false
set_option maxRecDepth 100000
set_option maxHeartbeats 1600000
attribute [local go_sem high] conv_rune str_leq str_gtr
end Go.Proofs.Ytdjjpgdhnoibkaa.My
namespace Go.Proofs.Ytdjjpgdhnoibkaa.PZ
open Go.Proofs.Ytdjjpgdhnoibkaa.My
attribute [local go_sem high] conv_rune str_leq str_gtr
open Go.RowKit Go.Proofs.YtdjjpgdhnoibkaaW.PrintWords Go.Proofs.YtdjjpgdhnoibkaaW.PrintLast Go.Proofs.YtdjjpgdhnoibkaaW.PrintMore
attribute [local go_sem] max2_int min2_int max_two min_two max_three min_three max_four min_four   -- for this text's walks alone
set_option linter.unusedVariables false
set_option linter.unusedSimpArgs false

/-! ### concordref08_Kid: function 19 -/
end Go.Proofs.Ytdjjpgdhnoibkaa.PZ
namespace Go.Proofs.Ytdjjpgdhnoibkaa.PD
open Go.Proofs.Ytdjjpgdhnoibkaa.PZ
open Go.Proofs.Ytdjjpgdhnoibkaa.My
attribute [local go_sem high] conv_rune str_leq str_gtr
open Go.RowKit Go.Proofs.YtdjjpgdhnoibkaaW.PrintWords Go.Proofs.YtdjjpgdhnoibkaaW.PrintLast Go.Proofs.YtdjjpgdhnoibkaaW.PrintMore
attribute [local go_sem] max2_int min2_int max_two min_two max_three min_three max_four min_four   -- for this text's walks alone
set_option linter.unusedVariables false
set_option linter.unusedSimpArgs false
attribute [local go_sem high] eqA66
/-! ### node_Find: function 17 -/
-- NOT PRINTED: function 109 (api_Cell_109)

-- by hand: function 82 (api_Cell_82)

end Go.Proofs.Ytdjjpgdhnoibkaa.PD
namespace Go.Proofs.Ytdjjpgdhnoibkaa.My
open Go.RowKit Go.Proofs.YtdjjpgdhnoibkaaW.PrintWords Go.Proofs.YtdjjpgdhnoibkaaW.PrintLast Go.Proofs.YtdjjpgdhnoibkaaW.PrintMore Go.Proofs.Ytdjjpgdhnoibkaa Go.Proofs.Ytdjjpgdhnoibkaa.PZ Go.Proofs.Ytdjjpgdhnoibkaa.PD
set_option linter.unusedSimpArgs false
set_option linter.unusedVariables false
set_option maxRecDepth 100000
set_option maxHeartbeats 1600000
theorem enc4 (n : Int) : (Utf8.encode n).size ≤ 4 := by
  unfold Utf8.encode
  dsimp only
  split <;> split <;> (try split) <;> (try split) <;> (try split) <;> simp [ByteArray.size]
theorem ris4 (n : Int) : ∃ s : ByteArray, concordlaw08_rising.f n = some s ∧ s.size = 4 := ⟨_, rfl, by rw [strOfNums_size]; rfl⟩
/-- What over makes of a node: of the same lengths, and within bounds. -/
def OvOk (cs : List Ce) (ks : List ByteArray) (kids : List Int) (r1 : List Ce) (r2 : List ByteArray) (r3 : List Int) : Prop := r1.length = cs.length ∧ r2.length = ks.length ∧ r3.length = kids.length ∧ NdOk r1 r2 r3 ∧ ∀ x ∈ r3, 0 ≤ x ∧ x < 4294967296
theorem over_l2 (b : Bool) (cs : List Ce) (ks : List ByteArray) : ∀ (n i k : Nat) (kids : List Int), NdOk cs ks kids → (∀ x ∈ kids, 0 ≤ x ∧ x < 4294967296) → i + n = kids.length → n + 1 ≤ k → ∃ r1 r2 r3, concordlaw08_over.l2 k (i : Int) b cs ks kids = some (r1, r2, r3) ∧ OvOk cs ks kids r1 r2 r3
  | 0, i, k, kids, hn, hr, hi, hk => by
    obtain ⟨k, rfl⟩ : ∃ j, k = j + 1 := ⟨k - 1, by omega⟩
    exact ⟨cs, ks, kids, by rw [concordlaw08_over.l2, if_neg (by omega)], rfl, rfl, rfl, hn, hr⟩
  | n + 1, i, k, kids, hn, hr, hi, hk => by
    obtain ⟨k, rfl⟩ : ∃ j, k = j + 1 := ⟨k - 1, by omega⟩
    have hlen : (kids.set (i : Int).toNat ((wrap64 (77 + (i : Int))) % 4294967296)).length = kids.length := List.length_set
    obtain ⟨r1, r2, r3, hx, a1, a2, a3, a4, a5⟩ := over_l2 b cs ks n (i + 1) k (kids.set (i : Int).toNat ((wrap64 (77 + (i : Int))) % 4294967296)) ⟨⟨hn.1.1, hn.1.2.1, by rw [hlen]; exact hn.1.2.2⟩, hn.2⟩ (fun x hx => by
      rcases List.mem_or_eq_of_mem_set hx with h | h
      · exact hr x h
      · rw [h]; omega) (by rw [hlen]; omega) (by omega)
    exact ⟨r1, r2, r3, by rw [concordlaw08_over.l2, if_pos (by omega), if_pos (by omega), w64S i (by have := hn.1.2.2; omega)]; exact hx, a1, a2, a3.trans hlen, a4, a5⟩
theorem over_l1 (b : Bool) (cs : List Ce) (kids : List Int) (hr : ∀ x ∈ kids, 0 ≤ x ∧ x < 4294967296) : ∀ (n i k : Nat) (ks : List ByteArray), NdOk cs ks kids → i + n = ks.length → n + kids.length + 3 ≤ k → ∃ r1 r2 r3, concordlaw08_over.l1 k (i : Int) b cs ks kids = some (r1, r2, r3) ∧ OvOk cs ks kids r1 r2 r3
  | 0, i, k, ks, hn, hi, hk => by
    obtain ⟨k, rfl⟩ : ∃ j, k = j + 1 := ⟨k - 1, by omega⟩
    obtain ⟨r1, r2, r3, hx, h⟩ := over_l2 b cs ks kids.length 0 k kids hn hr (by omega) (by omega)
    exact ⟨r1, r2, r3, by rw [concordlaw08_over.l1, if_neg (by omega)]; exact hx, h⟩
  | n + 1, i, k, ks, hn, hi, hk => by
    obtain ⟨k, rfl⟩ : ∃ j, k = j + 1 := ⟨k - 1, by omega⟩
    obtain ⟨s, hs, hs4⟩ := ris4 (i : Int)
    have hlen : (ks.set (i : Int).toNat s).length = ks.length := List.length_set
    obtain ⟨r1, r2, r3, hx, a1, a2, a3, a4, a5⟩ := over_l1 b cs kids hr n (i + 1) k (ks.set (i : Int).toNat s) ⟨⟨hn.1.1, by rw [hlen]; exact hn.1.2.1, hn.1.2.2⟩, hn.2.1, fun x hx => by
      rcases List.mem_or_eq_of_mem_set hx with h | h
      · exact hn.2.2 x h
      · rw [h, hs4]; decide⟩ (by rw [hlen]; omega) (by omega)
    exact ⟨r1, r2, r3, by rw [concordlaw08_over.l1, if_pos (by omega), hs, Option.bind_some, if_pos (by omega), w64S i (by have := hn.1.2.1; omega)]; exact hx, a1, a2.trans hlen, a3, a4, a5⟩
theorem over_l0 (b : Bool) (ks : List ByteArray) (kids : List Int) (hr : ∀ x ∈ kids, 0 ≤ x ∧ x < 4294967296) : ∀ (n i k : Nat) (cs : List Ce), NdOk cs ks kids → i + n = cs.length → n + ks.length + kids.length + 5 ≤ k → ∃ r1 r2 r3, concordlaw08_over.l0 k (i : Int) b cs ks kids = some (r1, r2, r3) ∧ OvOk cs ks kids r1 r2 r3
  | 0, i, k, cs, hn, hi, hk => by
    obtain ⟨k, rfl⟩ : ∃ j, k = j + 1 := ⟨k - 1, by omega⟩
    obtain ⟨r1, r2, r3, hx, h⟩ := over_l1 b cs kids hr ks.length 0 k ks hn (by omega) (by omega)
    exact ⟨r1, r2, r3, by rw [concordlaw08_over.l0, if_neg (by omega)]; exact hx, h⟩
  | n + 1, i, k, cs, hn, hi, hk => by
    obtain ⟨k, rfl⟩ : ∃ j, k = j + 1 := ⟨k - 1, by omega⟩
    obtain ⟨s, hs, hs4⟩ := ris4 (i : Int)
    have he4 := enc4 (wrap32 (wrap64 (97 + (Int.tmod (i : Int) 26))))
    have hlen : (cs.set (i : Int).toNat (⟨s, Utf8.encode (wrap32 (wrap64 (97 + (Int.tmod (i : Int) 26))))⟩ : Ce)).length = cs.length := List.length_set
    obtain ⟨r1, r2, r3, hx, a1, a2, a3, a4, a5⟩ := over_l0 b ks kids hr n (i + 1) k (cs.set (i : Int).toNat (⟨s, Utf8.encode (wrap32 (wrap64 (97 + (Int.tmod (i : Int) 26))))⟩ : Ce)) ⟨⟨by rw [hlen]; exact hn.1.1, hn.1.2⟩, fun x hx => by
      rcases List.mem_or_eq_of_mem_set hx with h | h
      · exact hn.2.1 x h
      · rw [h]; dsimp only; exact ⟨by rw [hs4]; decide, by omega⟩, hn.2.2⟩ (by rw [hlen]; omega) (by omega)
    exact ⟨r1, r2, r3, by rw [concordlaw08_over.l0, if_pos (by omega), hs, Option.bind_some, if_pos (by omega), w64S i (by have := hn.1.1; omega)]; exact hx, a1.trans hlen, a2, a3, a4, a5⟩
theorem over_f (b : Bool) (cs : List Ce) (ks : List ByteArray) (kids : List Int) (hn : NdOk cs ks kids) (hr : ∀ x ∈ kids, 0 ≤ x ∧ x < 4294967296) (k : Nat) (hk : cs.length + ks.length + kids.length + 5 ≤ k) : ∃ r1 r2 r3, concordlaw08_over.f k b cs ks kids = some (r1, r2, r3) ∧ OvOk cs ks kids r1 r2 r3 := over_l0 b ks kids hr cs.length 0 k cs hn (by omega) hk
theorem lent2_l0 (b b' : Bool) (cs : List Ce) (ks : List ByteArray) (kids : List Int) : ∀ (n i k : Nat) (a1 : List Ce) (a2 : List ByteArray) (a3 : List Int), i + n = 40 → n + 1 ≤ k → cs.length ≤ a1.length → ks.length ≤ a2.length → kids.length ≤ a3.length → a1.length + n ≤ 4398046511104 → a2.length + n ≤ 8796093022208 → a3.length + n ≤ 35184372088832 → ∃ t1 t2 t3, lent2.l0 k (i : Int) b cs ks kids b' a1 a2 a3 = some (b', a1 ++ t1, a2 ++ t2, a3 ++ t3) ∧ t1.length = n ∧ t2.length = n ∧ t3.length = n
  | 0, i, k, a1, a2, a3, hi, hk, l1, l2, l3, m1, m2, m3 => by
    obtain ⟨k, rfl⟩ : ∃ j, k = j + 1 := ⟨k - 1, by omega⟩
    refine ⟨[], [], [], ?_, rfl, rfl, rfl⟩
    rw [lent2.l0, if_neg (by omega), if_pos (by omega), if_pos (by omega), if_pos (by omega), if_pos (by omega), if_pos (by omega), if_pos (by omega), List.append_nil, List.append_nil, List.append_nil]
  | n + 1, i, k, a1, a2, a3, hi, hk, l1, l2, l3, m1, m2, m3 => by
    obtain ⟨k, rfl⟩ : ∃ j, k = j + 1 := ⟨k - 1, by omega⟩
    have he4 := enc4 (wrap32 (wrap64 (97 + (i : Int))))
    rw [lent2.l0, if_pos (by omega), if_pos (by omega), if_pos (by omega), if_pos (by omega), if_pos (by omega), w64S i (by omega)]
    generalize (⟨(⟨#[109, 97, 114, 107]⟩ : ByteArray), Utf8.encode (wrap32 (wrap64 (97 + (i : Int))))⟩ : Ce) = z1
    generalize (⟨#[109, 97, 114, 107]⟩ : ByteArray) ++ (Utf8.encode (wrap32 (wrap64 (97 + (i : Int))))) = z2
    generalize (wrap64 (1000000 + (i : Int))) % 4294967296 = z3
    obtain ⟨t1, t2, t3, hx, e1, e2, e3⟩ := lent2_l0 b b' cs ks kids n (i + 1) k (a1 ++ [z1]) (a2 ++ [z2]) (a3 ++ [z3]) (by omega) (by omega) (by rw [List.length_append]; omega) (by rw [List.length_append]; omega) (by rw [List.length_append]; omega) (by rw [List.length_append]; simp only [List.length_cons, List.length_nil]; omega) (by rw [List.length_append]; simp only [List.length_cons, List.length_nil]; omega) (by rw [List.length_append]; simp only [List.length_cons, List.length_nil]; omega)
    refine ⟨z1 :: t1, z2 :: t2, z3 :: t3, ?_, by rw [List.length_cons, e1], by rw [List.length_cons, e2], by rw [List.length_cons, e3]⟩
    rw [hx, List.append_assoc, List.append_assoc, List.append_assoc]
    rfl
theorem twin_f' (b : Bool) (cs : List Ce) (ks : List ByteArray) (kids : List Int) (hn : NdOk cs ks kids) : concordlaw08_twin.f b cs ks kids = some (b, cs, ks, kids) := by
  obtain ⟨⟨n1, n2, n3⟩, n4, n5⟩ := hn
  unfold concordlaw08_twin.f
  rw [if_pos (by simpa using n1), if_pos (by simpa using n2), if_pos (by simpa using n3)]
  rw [List.nil_append, List.nil_append, List.nil_append]
/-- A node that may be lent: room for the marks. -/
def NdRoom (cs : List Ce) (ks : List ByteArray) (kids : List Int) : Prop := cs.length ≤ 4398046511064 ∧ ks.length ≤ 8796093022168 ∧ kids.length ≤ 35184372088792
theorem lent2_f (b : Bool) (cs : List Ce) (ks : List ByteArray) (kids : List Int) (hn : NdOk cs ks kids) (hr : NdRoom cs ks kids) : ∃ t1 t2 t3, lent2.f 50 b cs ks kids = some (b, cs ++ t1, ks ++ t2, kids ++ t3) ∧ t1.length = 40 ∧ t2.length = 40 ∧ t3.length = 40 := by
  obtain ⟨r1, r2, r3⟩ := hr
  unfold lent2.f
  rw [twin_f' b cs ks kids hn, Option.bind_some]
  exact lent2_l0 b b cs ks kids 40 0 50 cs ks kids rfl (by decide) (Nat.le_refl _) (Nat.le_refl _) (Nat.le_refl _) (by omega) (by omega) (by omega)
end Go.Proofs.Ytdjjpgdhnoibkaa.My
