/- A node in memory of one's own; lent, over, twin and kept as the laws' walks ask them. -/
import Derived.Test.YtdjjpgdhnoibkaaNdKept
import Derived.Test.YtdjjpgdhnoibkaaNdFindP
namespace Go.Proofs.Ytdjjpgdhnoibkaa.My
open Go.RowKit Go.Proofs.YtdjjpgdhnoibkaaW.PrintWords Go.Proofs.YtdjjpgdhnoibkaaW.PrintLast Go.Proofs.YtdjjpgdhnoibkaaW.PrintMore Go.Proofs.Ytdjjpgdhnoibkaa Go.Proofs.Ytdjjpgdhnoibkaa.PZ Go.Proofs.Ytdjjpgdhnoibkaa.PD
set_option linter.unusedSimpArgs false
set_option linter.unusedVariables false
set_option maxRecDepth 100000
set_option maxHeartbeats 1600000
/-- The three rows of a node, in blocks of one's own from a up to b. -/
def NR (W : World) (base a b : Nat) (A1 : Option Addr) (m1 q1 : Nat) (f1 : List Ce) (A2 : Option Addr) (m2 q2 : Nat) (f2 : List ByteArray) (A3 : Option Addr) (m3 q3 : Nat) (f3 : List Int) : Prop :=
  Kd.R k66 66 W base (fun k => a ≤ k ∧ k < b) (.slice A1 m1 q1) f1 ∧ Kd.R Kd.string 9 W base (fun k => a ≤ k ∧ k < b) (.slice A2 m2 q2) f2 ∧ Kd.R (Kd.int .u32) 45 W base (fun k => a ≤ k ∧ k < b) (.slice A3 m3 q3) f3
section
variable {W W' : World} {base a b : Nat} {A1 : Option Addr} {m1 q1 : Nat} {f1 : List Ce} {A2 : Option Addr} {m2 q2 : Nat} {f2 : List ByteArray} {A3 : Option Addr} {m3 q3 : Nat} {f3 : List Int}
theorem NR_below (h : NR W base a b A1 m1 q1 f1 A2 m2 q2 f2 A3 m3 q3 f3) (hb : Below W.heap.size W W') : NR W' base a b A1 m1 q1 f1 A2 m2 q2 f2 A3 m3 q3 f3 := ⟨Kd.R_below h.1 hb, Kd.R_below h.2.1 hb, Kd.R_below h.2.2 hb⟩
theorem NR_C (h : NR W base a b A1 m1 q1 f1 A2 m2 q2 f2 A3 m3 q3 f3) : (Kd.C k66 W A1 f1.length f1 ∧ Kd.C Kd.string W A2 f2.length f2 ∧ Kd.C (Kd.int .u32) W A3 f3.length f3) ∧ (f1.length ≤ q1 ∧ f2.length ≤ q2 ∧ f3.length ≤ q3) ∧ m1 = f1.length ∧ m2 = f2.length ∧ m3 = f3.length := by
  obtain ⟨x1, y1, z1⟩ := Kd.R_reads' h.1
  obtain ⟨x2, y2, z2⟩ := Kd.R_reads' h.2.1
  obtain ⟨x3, y3, z3⟩ := Kd.R_reads' h.2.2
  exact ⟨⟨z1, z2, z3⟩, ⟨by omega, by omega, by omega⟩, x1, x2, x3⟩
theorem NR_front {t1 : List Ce} {t2 : List ByteArray} {t3 : List Int} (h : NR W base a b A1 (f1 ++ t1).length q1 (f1 ++ t1) A2 (f2 ++ t2).length q2 (f2 ++ t2) A3 (f3 ++ t3).length q3 (f3 ++ t3)) : NR W base a b A1 f1.length q1 f1 A2 f2.length q2 f2 A3 f3.length q3 f3 := by
  have h1 := Kd.R_take (m := f1.length) h.1 (by rw [List.length_append]; omega)
  have h2 := Kd.R_take (m := f2.length) h.2.1 (by rw [List.length_append]; omega)
  have h3 := Kd.R_take (m := f3.length) h.2.2 (by rw [List.length_append]; omega)
  rw [List.take_left' rfl] at h1 h2 h3
  exact ⟨h1, h2, h3⟩
end
theorem R_own {α : Type} {d : Kd α} {e : Nat} {w : World} {base : Nat} {ok ok' : Nat → Prop} {v : Value} {xs : List α} (h : d.R e w base ok v xs) (hM : ∀ (o o' : Nat → Prop) (x : α) (c : List Value), d.M w base o x c → d.M w base o' x c) (ho : ∀ k, v.ownBlock = some k → ok' k) : d.R e w base ok' v xs := by
  obtain ⟨h0, inner, h1, h2⟩ := h
  exact ⟨ho, inner, h1, h2.imp_ (fun x c hx => hM _ _ x c hx)⟩
theorem R_same {α : Type} {d : Kd α} {e : Nat} {w : World} {base : Nat} {ok : Nat → Prop} {v : Value} {xs : List α} {w2 : World} {ok2 : Nat → Prop} {ys : List α} (h : d.R e w base ok v xs) (h2 : d.R e w2 base ok2 v ys) (hM : ∀ (o o' : Nat → Prop) (x : α) (c : List Value), d.M w2 base o x c → d.M w2 base o' x c) : d.R e w2 base ok v ys := R_own h2 hM h.1
theorem NR_seal {W W' : World} {n0 : Nat} {A1 : Option Addr} {q1 : Nat} {f1 : List Ce} {A2 : Option Addr} {q2 : Nat} {f2 : List ByteArray} {A3 : Option Addr} {q3 : Nat} {f3 : List Int} (h1 : Kd.R k66 66 W' W.heap.size (fun _ => True) (.slice A1 f1.length q1) f1) (h2 : Kd.R Kd.string 9 W' W.heap.size (fun _ => True) (.slice A2 f2.length q2) f2) (h3 : Kd.R (Kd.int .u32) 45 W' W.heap.size (fun _ => True) (.slice A3 f3.length q3) f3) (hn : n0 ≤ W.heap.size) :
    NR W' n0 W.heap.size W'.heap.size A1 f1.length q1 f1 A2 f2.length q2 f2 A3 f3.length q3 f3 :=
  ⟨Kd.R_lower (Kd.R_mono (Kd.R_bound h1) (fun k hk => ⟨hk.2.1, hk.2.2.1⟩)) hn, Kd.R_lower (Kd.R_mono (Kd.R_bound h2) (fun k hk => ⟨hk.2.1, hk.2.2.1⟩)) hn, Kd.R_lower (Kd.R_mono (Kd.R_bound h3) (fun k hk => ⟨hk.2.1, hk.2.2.1⟩)) hn⟩
theorem lentN (W : World) (b : Bool) (A1 : Option Addr) (c1 : Nat) (cs : List Ce) (A2 : Option Addr) (c2 : Nat) (ks : List ByteArray) (A3 : Option Addr) (c3 : Nat) (kids : List Int) (hc1 : cs.length ≤ c1) (hc2 : ks.length ≤ c2) (hc3 : kids.length ≤ c3) (h1 : Kd.C k66 W A1 cs.length cs) (h2 : Kd.C Kd.string W A2 ks.length ks) (h3 : Kd.C (Kd.int .u32) W A3 kids.length kids) (t1 : List Ce) (t2 : List ByteArray) (t3 : List Int) (hl : lent2.f 50 b cs ks kids = some (b, cs ++ t1, ks ++ t2, kids ++ t3)) (n0 : Nat) (h0 : n0 ≤ W.heap.size) :
    Calls Try.prog 15 #[.agg #[.bool b, .slice A1 cs.length c1, .slice A2 ks.length c2, .slice A3 kids.length c3]] W fun e w' => ∃ (D1 : Option Addr) (d1 : Nat) (D2 : Option Addr) (d2 : Nat) (D3 : Option Addr) (d3 : Nat), e = .returned (.agg #[.bool b, .slice D1 cs.length d1, .slice D2 ks.length d2, .slice D3 kids.length d3]) ∧ NR w' n0 W.heap.size w'.heap.size D1 (cs ++ t1).length d1 (cs ++ t1) D2 (ks ++ t2).length d2 (ks ++ t2) D3 (kids ++ t3).length d3 (kids ++ t3) ∧ Below W.heap.size W w' := by
  refine (lent2.calls 50 b A1 c1 cs A2 c2 ks A3 c3 kids b _ _ _ W h1 hc1 h2 hc2 h3 hc3 hl).mono ?_
  rintro e w' ⟨D1, d1, D2, d2, D3, d3, rfl, g1, g2, g3, hb⟩
  exact ⟨D1, d1, D2, d2, D3, d3, rfl, NR_seal g1 g2 g3 h0, hb⟩
theorem twinN (W : World) (b : Bool) (A1 : Option Addr) (c1 : Nat) (cs : List Ce) (A2 : Option Addr) (c2 : Nat) (ks : List ByteArray) (A3 : Option Addr) (c3 : Nat) (kids : List Int) (hc1 : cs.length ≤ c1) (hc2 : ks.length ≤ c2) (hc3 : kids.length ≤ c3) (h1 : Kd.C k66 W A1 cs.length cs) (h2 : Kd.C Kd.string W A2 ks.length ks) (h3 : Kd.C (Kd.int .u32) W A3 kids.length kids) (hn : NdOk cs ks kids) (n0 : Nat) (h0 : n0 ≤ W.heap.size) :
    Calls Try.prog 22 #[.agg #[.bool b, .slice A1 cs.length c1, .slice A2 ks.length c2, .slice A3 kids.length c3]] W fun e w' => ∃ (D1 : Option Addr) (d1 : Nat) (D2 : Option Addr) (d2 : Nat) (D3 : Option Addr) (d3 : Nat), e = .returned (.agg #[.bool b, .slice D1 cs.length d1, .slice D2 ks.length d2, .slice D3 kids.length d3]) ∧ NR w' n0 W.heap.size w'.heap.size D1 cs.length d1 cs D2 ks.length d2 ks D3 kids.length d3 kids ∧ Below W.heap.size W w' := by
  refine (concordlaw08_twin.calls b A1 c1 cs A2 c2 ks A3 c3 kids b cs ks kids W h1 hc1 h2 hc2 h3 hc3 (twin_f' b cs ks kids hn)).mono ?_
  rintro e w' ⟨v1, v2, v3, rfl, g1, g2, g3, hb⟩
  obtain ⟨D1, d1, rfl⟩ := Kd.R_slice g1
  obtain ⟨D2, d2, rfl⟩ := Kd.R_slice g2
  obtain ⟨D3, d3, rfl⟩ := Kd.R_slice g3
  exact ⟨D1, d1, D2, d2, D3, d3, rfl, NR_seal g1 g2 g3 h0, hb⟩
theorem overN (w0 W : World) (k : Nat) (b : Bool) (x y : Nat) (A1 : Option Addr) (q1 : Nat) (cs : List Ce) (A2 : Option Addr) (q2 : Nat) (ks : List ByteArray) (A3 : Option Addr) (q3 : Nat) (kids : List Int) (h : NR W w0.heap.size x y A1 cs.length q1 cs A2 ks.length q2 ks A3 kids.length q3 kids) (hB : Below w0.heap.size w0 W) (r1 : List Ce) (r2 : List ByteArray) (r3 : List Int) (ho : concordlaw08_over.f k b cs ks kids = some (r1, r2, r3)) :
    Calls Try.prog 21 #[.agg #[.bool b, .slice A1 cs.length q1, .slice A2 ks.length q2, .slice A3 kids.length q3]] W fun e w' => e = .returned (.tuple #[]) ∧ NR w' w0.heap.size x y A1 cs.length q1 r1 A2 ks.length q2 r2 A3 kids.length q3 r3 ∧ Below w0.heap.size w0 w' ∧ Kept W w' (fun k => x ≤ k ∧ k < y) := by
  refine (concordlaw08_over.calls k b (fun k => x ≤ k ∧ k < y) _ cs (fun k => x ≤ k ∧ k < y) _ ks (fun k => x ≤ k ∧ k < y) _ kids r1 r2 r3 w0 W hB h.1 h.2.1 h.2.2 ho).mono ?_
  rintro e w' ⟨rfl, g1, g2, g3, hb, hk⟩
  refine ⟨rfl, ⟨R_same h.1 g1 (fun o o' z c hz => by rw [k66_openM hz]; exact k66_mkM _ _ _ _), R_same h.2.1 g2 (fun o o' z c hz => hz), R_same h.2.2 g3 (fun o o' z c hz => hz)⟩, hb, ⟨hk.1, fun k hlt hne => hk.2 k hlt (fun q => hne (by rcases q with q | q | q <;> exact q))⟩⟩
theorem keptN (W : World) (b : Bool) {n0 x y : Nat} (A1 : Option Addr) (q1 : Nat) (t1 : List Ce) (A2 : Option Addr) (q2 : Nat) (t2 : List ByteArray) (A3 : Option Addr) (q3 : Nat) (t3 : List Int) (B1 : Option Addr) (c1 : Nat) (cs : List Ce) (B2 : Option Addr) (c2 : Nat) (ks : List ByteArray) (B3 : Option Addr) (c3 : Nat) (kids : List Int) (h : NR W n0 x y A1 (cs ++ t1).length q1 (cs ++ t1) A2 (ks ++ t2).length q2 (ks ++ t2) A3 (kids ++ t3).length q3 (kids ++ t3)) (hc1 : cs.length ≤ c1) (hc2 : ks.length ≤ c2) (hc3 : kids.length ≤ c3) (h1 : Kd.C k66 W B1 cs.length cs) (h2 : Kd.C Kd.string W B2 ks.length ks) (h3 : Kd.C (Kd.int .u32) W B3 kids.length kids) (hn : NdOk cs ks kids) (hl : lent2.f 50 b cs ks kids = some (b, cs ++ t1, ks ++ t2, kids ++ t3)) (e1 : t1.length = 40) (e2 : t2.length = 40) (e3 : t3.length = 40) :
    Calls Try.prog 20 #[.agg #[.bool b, .slice A1 cs.length q1, .slice A2 ks.length q2, .slice A3 kids.length q3], .agg #[.bool b, .slice B1 cs.length c1, .slice B2 ks.length c2, .slice B3 kids.length c3]] W fun e w' => e = .returned (.bool true) ∧ Below W.heap.size W w' := by
  obtain ⟨⟨g1, g2, g3⟩, ⟨l1, l2, l3⟩, -, -, -⟩ := NR_C h
  exact kept2 W 50 b A1 q1 _ A2 q2 _ A3 q3 _ g1 g2 g3 l1 l2 l3 B1 c1 cs B2 c2 ks B3 c3 kids hc1 hc2 hc3 h1 h2 h3 (by rw [List.length_append, e1]) (by rw [List.length_append, e2]) (by rw [List.length_append, e3]) hn.1 hl
end Go.Proofs.Ytdjjpgdhnoibkaa.My
