/- NodeBack. -/
import Derived.Test.YtdjjpgdhnoibkaaNdSame
import Derived.Test.YtdjjpgdhnoibkaaPDy5
namespace Go.Proofs.Ytdjjpgdhnoibkaa.My
open Go.RowKit Go.Proofs.YtdjjpgdhnoibkaaW.PrintWords Go.Proofs.YtdjjpgdhnoibkaaW.PrintLast Go.Proofs.YtdjjpgdhnoibkaaW.PrintMore Go.Proofs.Ytdjjpgdhnoibkaa Go.Proofs.Ytdjjpgdhnoibkaa.PZ Go.Proofs.Ytdjjpgdhnoibkaa.PD
set_option linter.unusedSimpArgs false
set_option linter.unusedVariables false
set_option maxRecDepth 100000
set_option maxHeartbeats 1600000
theorem body_size {b : Bool} {cs : List Ce} {ks : List ByteArray} {kids : List Int} (h : chkV b cs ks kids = 0) : (strOfNums (bodyV b cs ks kids)).size = lngV b cs ks := by
  obtain ⟨f1, f2, f3, f4, f5⟩ := chk_facts h
  rw [← natsOf_len, body_nat b cs ks kids f2 f3, body_len b cs ks kids f2 f3]
  rintro rfl
  exact (shp_branch f1).2
theorem enc_f {b : Bool} {cs : List Ce} {ks : List ByteArray} {kids : List Int} (h : ndB cs ks kids = true) : node_Encode.f b cs ks kids = some (encV b cs ks kids) := by
  unfold node_Encode.f
  rw [if_pos h]
theorem awake1 : node_Put.f true [] [] [] ⟨#[97]⟩ ⟨#[49]⟩ = some (true, [⟨⟨#[97]⟩, ⟨#[49]⟩⟩], [], [], 0) := by kernel_rfl
theorem awake2 : node_Put.f true [⟨⟨#[97]⟩, ⟨#[49]⟩⟩] [] [] ⟨#[99]⟩ ⟨#[51]⟩ = some (true, [⟨⟨#[97]⟩, ⟨#[49]⟩⟩, ⟨⟨#[99]⟩, ⟨#[51]⟩⟩], [], [], 0) := by kernel_rfl
theorem awake3 : chkV true [⟨⟨#[97]⟩, ⟨#[49]⟩⟩, ⟨⟨#[99]⟩, ⟨#[51]⟩⟩] [] [] = 0 := by kernel_rfl
theorem awake_f (k : Nat) (hk : 400000 ≤ k) : concordlaw08_awake.f k = some true := by
  unfold concordlaw08_awake.f
  rw [awake1, Option.bind_some]
  dsimp only
  rw [awake2, Option.bind_some]
  dsimp only
  have hd := dec_enc true [⟨⟨#[97]⟩, ⟨#[49]⟩⟩, ⟨⟨#[99]⟩, ⟨#[51]⟩⟩] [] [] (fun x hx => by cases hx) awake3 (by decide)
  have hs := body_size awake3
  have he : encV true [⟨⟨#[97]⟩, ⟨#[49]⟩⟩, ⟨⟨#[99]⟩, ⟨#[51]⟩⟩] [] [] = (strOfNums (bodyV true [⟨⟨#[97]⟩, ⟨#[49]⟩⟩, ⟨⟨#[99]⟩, ⟨#[51]⟩⟩] [] []), 0) := by
    unfold encV
    rw [awake3, if_pos rfl, if_neg (by decide)]
  rw [enc_f (by kernel_rfl), he, Option.bind_some]
  generalize strOfNums (bodyV true [⟨⟨#[97]⟩, ⟨#[49]⟩⟩, ⟨⟨#[99]⟩, ⟨#[51]⟩⟩] [] []) = s at *
  have hs11 : s.size = 11 := hs.trans (by decide)
  dsimp only
  rw [ndec_f s (by omega) k hk, hd, Option.bind_some]
  dsimp only
  rw [if_pos rfl, if_pos rfl, if_pos rfl, if_pos rfl, hs11]
  show _ = some true
  first | rfl | kernel_rfl | decide
theorem dec_no (s : ByteArray) (h : (decV s).2 ≠ 0) : (decV s).2 = 80 := by
  have hd : ∀ (p : Nat) (e : Int) (b : Bool) (cs : List Ce) (ks : List ByteArray) (kids : List Int), (dcEnd s p e b cs ks kids).2 ≠ 0 → (dcEnd s p e b cs ks kids).2 = 80 := by
    intro p e b cs ks kids h
    unfold dcEnd at h ⊢
    split
    · rename_i h1
      rw [if_pos h1] at h
      split
      · rfl
      · rename_i h2
        rw [if_neg h2] at h
        split
        · rename_i h3
          rw [if_pos h3] at h
          exact absurd rfl h
        · rfl
    · rfl
  unfold decV at h ⊢
  dsimp only at h ⊢
  split
  · rename_i h1
    rw [if_pos h1] at h
    exact hd _ _ _ _ _ _ h
  · rename_i h1
    rw [if_neg h1] at h
    split
    · rename_i h2
      rw [if_pos h2] at h
      exact hd _ _ _ _ _ _ h
    · rfl
theorem back_j1 (s : ByteArray) (hs : s.size ≤ 140737488351232) (k : Nat) (hk : 500000 ≤ k) : concordlaw08_NodeBack.j1 k s false = some true := by
  obtain ⟨k, rfl⟩ : ∃ j, k = j + 1 := ⟨k - 1, by omega⟩
  rw [concordlaw08_NodeBack.j1, if_neg (by decide), ndec_f s (by omega) k (by omega), Option.bind_some]
  dsimp only
  by_cases h0 : (decV s).2 = 0
  · rw [if_pos h0]
    have h1 : decV s = ((decV s).1, 0) := Prod.ext rfl h0
    obtain ⟨e1, e2, e3, e4⟩ := enc_dec s _ h1
    generalize (decV s).1 = v at *
    obtain ⟨b, cs, ks, kids⟩ := v
    dsimp only at e2 e3 e4 ⊢
    obtain ⟨⟨l1, l2, l3⟩, hn⟩ := nd_of_chk e2
    obtain ⟨f1, f2, f3, f4, f5⟩ := chk_facts e2
    have hlen : lngV b cs ks ≤ 996 := by
      have h := body_len b cs ks kids f2 f3 (by rintro rfl; exact (shp_branch f1).2)
      rw [e4, natsOf_len] at h
      omega
    have hstr : strOfNums (bodyV b cs ks kids) = s := natsOf_inj ((body_nat b cs ks kids f2 f3).trans e4)
    have he : encV b cs ks kids = (s, 0) := by
      unfold encV
      rw [e2, if_pos rfl, if_neg (by omega), hstr]
    rw [enc_f (ndB_of hn e3), he, Option.bind_some]
    dsimp only
    rw [if_pos rfl, if_pos rfl, ochk_f b cs ks kids hn k (by omega), e2, Option.bind_some]
    rfl
  · rw [if_neg h0, dec_no s h0]
    rfl
theorem nback_f (b : Bool) (cs : List Ce) (ks : List ByteArray) (kids : List Int) (hn : NdOk cs ks kids) (hk : ∀ x ∈ kids, 0 ≤ x ∧ x < 4294967296) (s : ByteArray) (hs : s.size ≤ 140737488351232) (k : Nat) (hK : 2 * (cs.length + ks.length) + kids.length + 600000 ≤ k) : concordlaw08_NodeBack.f k b cs ks kids s = some true := by
  have hnb := ndB_of hn hk
  have hn' := hn
  obtain ⟨⟨n1, n2, n3⟩, n4, n5⟩ := hn'
  have hj : ∀ e : Int, (e == 0) = (decide (chkV b cs ks kids = 0 ∧ lngV b cs ks ≤ 996)) → concordlaw08_NodeBack.j0 k s e b cs ks kids = some true := by
    intro e he
    obtain ⟨k, rfl⟩ : ∃ j, k = j + 1 := ⟨k - 1, by omega⟩
    rw [concordlaw08_NodeBack.j0, rchk_f b cs ks kids hn k (by omega), Option.bind_some]
    by_cases hc : chkV b cs ks kids = 0
    · obtain ⟨f1, f2, f3, f4, f5⟩ := chk_facts hc
      rw [if_pos hc, long_f b cs ks kids hn f2 f3 k (by omega), Option.bind_some, he]
      have e1 : (decide (chkV b cs ks kids = 0 ∧ lngV b cs ks ≤ 996)) = decide (((lngV b cs ks : Nat) : Int) ≤ 996) := decide_eq_decide.2 ⟨fun h => by have := h.2; omega, fun h => ⟨hc, by omega⟩⟩
      rw [e1, bne_self_eq_false]
      exact back_j1 s hs k (by omega)
    · rw [if_neg hc, he, decide_eq_false (fun h => hc h.1)]
      exact back_j1 s hs k (by omega)
  unfold concordlaw08_NodeBack.f
  rw [awake_f k (by omega), Option.bind_some, if_pos rfl]
  unfold concordlaw08_twin.f
  rw [if_pos (by simpa using n1), if_pos (by simpa using n2), if_pos (by simpa using n3), Option.bind_some]
  dsimp only
  rw [List.nil_append, List.nil_append, List.nil_append, enc_f hnb, Option.bind_some]
  by_cases hc : chkV b cs ks kids = 0
  · by_cases hl : 996 < lngV b cs ks
    · have he : encV b cs ks kids = (⟨#[]⟩, 82) := by
        unfold encV
        rw [if_pos hc, if_pos hl]
      rw [he]
      dsimp only
      rw [if_neg (by decide)]
      exact hj 82 (by rw [decide_eq_false (fun h => by have := h.2; omega)]; rfl)
    · have he : encV b cs ks kids = (strOfNums (bodyV b cs ks kids), 0) := by
        unfold encV
        rw [if_pos hc, if_neg hl]
      have hd := dec_enc b cs ks kids hk hc (by omega)
      have hz := body_size hc
      rw [he]
      generalize strOfNums (bodyV b cs ks kids) = t at hd hz
      dsimp only
      rw [if_pos rfl, ndec_f t (by omega) k (by omega), hd, Option.bind_some]
      dsimp only
      rw [if_pos rfl, same_f b b cs cs ks ks kids kids n3 n2 n1 k (by omega), decide_eq_true ⟨rfl, rfl, rfl, rfl⟩, Option.bind_some, if_pos rfl, if_neg (by omega), nsize_f b cs ks kids hc k (by omega), Option.bind_some, if_pos (by rw [hz])]
      exact hj 0 (by rw [decide_eq_true ⟨hc, by omega⟩]; rfl)
  · have he : encV b cs ks kids = (⟨#[]⟩, chkV b cs ks kids) := by
      unfold encV
      rw [if_neg hc]
    rw [he]
    dsimp only
    rw [if_neg hc]
    exact hj _ (by rw [decide_eq_false (fun h => hc h.1)]; exact beq_eq_false_iff_ne.2 hc)
theorem NodeBack_walk (w : World) (b : Bool) (A1 : Option Addr) (c1 : Nat) (cs : List S66) (A2 : Option Addr) (c2 : Nat) (ks : List ByteArray) (A3 : Option Addr) (c3 : Nat) (kids : List Int) (hc1 : cs.length ≤ c1) (hc2 : ks.length ≤ c2) (hc3 : kids.length ≤ c3) (h1 : Kd.C k66 w A1 cs.length cs) (h2 : Kd.C Kd.string w A2 ks.length ks) (h3 : Kd.C (Kd.int .u32) w A3 kids.length kids) (hk : ∀ x ∈ kids, 0 ≤ x ∧ x < 4294967296) (hn : NdOk cs ks kids) (s : ByteArray) (hs : s.size ≤ 140737488351232) :
    Calls Try.prog 11 #[.agg #[.bool b, .slice A1 cs.length c1, .slice A2 ks.length c2, .slice A3 kids.length c3], .string s] w fun e w' => e = .returned (.bool true) ∧ Below w.heap.size w w' := by
  refine (concordlaw08_NodeBack.calls _ b A1 c1 cs A2 c2 ks A3 c3 kids s true w h1 hc1 h2 hc2 h3 hc3 (by rw [awake_f _ (by omega)]; decide) (nback_f b cs ks kids hn hk s hs _ (Nat.le_refl _))).mono ?_
  rintro e w' ⟨rfl, h⟩
  exact ⟨rfl, h⟩
end Go.Proofs.Ytdjjpgdhnoibkaa.My
