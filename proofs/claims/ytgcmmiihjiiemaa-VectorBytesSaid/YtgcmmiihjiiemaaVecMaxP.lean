/- What VectorMax's own helpers answer; the contracts as its walk asks them. -/
import Derived.Test.YtgcmmiihjiiemaaVecPr
import Derived.Test.YtgcmmiihjiiemaaVecCopy
import Derived.Test.YtgcmmiihjiiemaaPVectorMaxx6
namespace Go.Proofs.Ytgcmmiihjiiemaa.My
open Go.RowKit Go.Proofs.YtgcmmiihjiiemaaW.PrintWords Go.Proofs.YtgcmmiihjiiemaaW.PrintLast Go.Proofs.YtgcmmiihjiiemaaW.PrintMore Go.Proofs.Ytgcmmiihjiiemaa Go.Proofs.Ytgcmmiihjiiemaa.PVectorMax
set_option linter.unusedSimpArgs false
set_option linter.unusedVariables false
set_option maxRecDepth 100000
set_option maxHeartbeats 800000
theorem mark_f (n : Int) : ∃ x : Int × Int, concordlaw10_mark.f n = some x := ⟨_, rfl⟩
theorem spoil_l0 (c : Int) : ∀ (n i k : Nat) (l : List Dt), l.length < 9000000000000 → i + n = l.length → n + 1 ≤ k → ∃ r, concordlaw10_spoil.l0 k l c (i : Int) = some r
  | 0, i, k, l, hl, h, hk => by
    obtain ⟨k, rfl⟩ : ∃ j, k = j + 1 := ⟨k - 1, by omega⟩
    exact ⟨l, by rw [concordlaw10_spoil.l0, if_neg (by omega)]⟩
  | n + 1, i, k, l, hl, h, hk => by
    obtain ⟨k, rfl⟩ : ∃ j, k = j + 1 := ⟨k - 1, by omega⟩
    obtain ⟨x, hx⟩ := mark_f c
    obtain ⟨r, hr⟩ := spoil_l0 c n (i + 1) k (l.set (i : Int).toNat ⟨x.1, x.2⟩) (by rw [List.length_set]; exact hl) (by rw [List.length_set]; omega) (by omega)
    refine ⟨r, ?_⟩
    rw [concordlaw10_spoil.l0, if_pos (by omega), hx, Option.bind_some, if_pos (by omega), wr_succ i (by omega)]
    exact hr
theorem spoil_f (c : Int) (l : List Dt) (hl : l.length < 9000000000000) : ∃ r, concordlaw10_spoil.f (l.length + 1) l c = some r := spoil_l0 c l.length 0 _ l hl (by omega) (by omega)
theorem grown_l0 (c : Int) : ∀ (n i k : Nat) (l : List Dt), i + n = 70 → n + 1 ≤ k → l.length + n ≤ 1000000 → ∃ r, concordlaw10_grown.l0 k l c (i : Int) = some r ∧ r.length = l.length + n
  | 0, i, k, l, h, hk, hl => by
    obtain ⟨k, rfl⟩ : ∃ j, k = j + 1 := ⟨k - 1, by omega⟩
    exact ⟨l, by rw [concordlaw10_grown.l0, if_neg (by omega)], rfl⟩
  | n + 1, i, k, l, h, hk, hl => by
    obtain ⟨k, rfl⟩ : ∃ j, k = j + 1 := ⟨k - 1, by omega⟩
    obtain ⟨x, hx⟩ := mark_f c
    have hle : (l ++ [(⟨x.1, x.2⟩ : Dt)]).length = l.length + 1 := by rw [List.length_append]; rfl
    obtain ⟨r, hr, hr2⟩ := grown_l0 c n (i + 1) k (l ++ [⟨x.1, x.2⟩]) (by omega) (by omega) (by omega)
    refine ⟨r, ?_, by omega⟩
    rw [concordlaw10_grown.l0, if_pos (by omega), hx, Option.bind_some, if_pos (by omega), wr_succ i (by omega)]
    exact hr
theorem grown_f (c : Int) (l : List Dt) (hl : l.length ≤ 900000) : ∃ r, concordlaw10_grown.f 71 l c = some r ∧ r.length = l.length + 70 := grown_l0 c 70 0 _ l rfl (by omega) (by omega)
theorem u64_nonneg (x : Int) : 0 ≤ IntKind.u64.wrap x := by
  unfold IntKind.wrap
  simp only [IntKind.signed, IntKind.bits]
  simp
  omega
def trn (x : Dt) : Dt := ⟨x.f0, IntKind.u64.wrap (Int.tmod x.f1 5 + 2)⟩
theorem trn_pos (x : Dt) : 0 ≤ (trn x).f1 := by exact u64_nonneg _
theorem turned_l0 (l : List Dt) (hl : l.length < 8796093022208) : ∀ (n i k : Nat) (acc : List Dt), i + n = l.length → n + 1 ≤ k → acc.length = i → concordlaw10_turned.l0 k l acc (i : Int) = some (acc ++ (l.drop i).map trn)
  | 0, i, k, acc, h, hk, ha => by
    obtain ⟨k, rfl⟩ : ∃ j, k = j + 1 := ⟨k - 1, by omega⟩
    rw [concordlaw10_turned.l0, if_neg (by omega), List.drop_eq_nil_of_le (by omega), List.map_nil, List.append_nil]
  | n + 1, i, k, acc, h, hk, ha => by
    obtain ⟨k, rfl⟩ : ∃ j, k = j + 1 := ⟨k - 1, by omega⟩
    rw [concordlaw10_turned.l0, if_pos (by omega), if_pos (by omega), if_pos (by omega), wr_succ i (by omega), turned_l0 l hl n (i + 1) k _ (by omega) (by omega) (by rw [List.length_append, ha]; rfl), rd_at l i (by omega), List.drop_eq_getElem_cons (show i < l.length by omega), List.map_cons, List.append_assoc]
    rfl
theorem turned_f (l : List Dt) (hl : l.length < 8796093022208) : concordlaw10_turned.f (l.length + 1) l = some (l.map trn) := by
  have h := turned_l0 l hl l.length 0 (l.length + 1) [] (by omega) (by omega) rfl
  rw [List.nil_append, List.drop_zero] at h
  exact h
theorem C_of_R {w : World} {base n c : Nat} {ok : Nat → Prop} {A : Option Addr} {l : List Dt} (h : Kd.R kD 35 w base ok (.slice A n c) l) : Kd.C kD w A l.length l ∧ l.length = n ∧ l.length ≤ c := by
  obtain ⟨A', c', e, hc, h2⟩ := Kd.R_reads h
  injection e with e1 e2 e3
  subst e1 e2 e3
  exact ⟨h2, rfl, hc⟩
theorem short_row {w : World} {base n d : Nat} {ok : Nat → Prop} {B : Option Addr} {ys : List Dt} (h : Kd.R kD 35 w base ok (.slice B (n + 3) d) (ys ++ marks)) (hn : ys.length = n) : Kd.R kD 35 w base ok (.slice B n d) ys := by
  subst hn
  obtain ⟨h0, inner, ⟨hi, ho⟩, hr⟩ := h
  have hsz : kD.sz = 2 := rfl
  rw [hsz] at hi ho hr
  obtain rfl := reps_cD (fun x cs h => k35_openM h) _ _ hr
  have hyl : (ys ++ marks).length = ys.length + 3 := by rw [List.length_append]; rfl
  rw [hyl] at ho
  rcases ho with ⟨_, ho⟩ | ⟨g, cap, cur, he, hg, hh, hle, hmax, hcs, htk⟩
  · omega
  injection he with hB _ hd
  subst hB hd
  refine ⟨h0, cD ys, ⟨cD_len _, Or.inr ⟨g, d, cur, rfl, hg, hh, by omega, hmax, hcs, ?_⟩⟩, cD_reps (fun x => kD_M _ _ _ x) _⟩
  have h4 := congrArg (List.take (ys.length * 2)) htk
  rw [cD_app, List.take_left' (by rw [cD_len]), List.take_take] at h4
  rw [← h4]
  congr 1
  show ys.length * 2 = _
  omega
theorem sealRow {W W' : World} {n0 : Nat} {v : Value} {l : List Dt} (h : Kd.R kD 35 W' W.heap.size (fun _ => True) v l) (hn : n0 ≤ W.heap.size) : Kd.R kD 35 W' n0 (fun k => W.heap.size ≤ k ∧ k < W'.heap.size) v l :=
  Kd.R_lower (Kd.R_mono (Kd.R_bound h) (fun k hk => ⟨hk.2.1, hk.2.2.1⟩)) hn
theorem vmaxN (W : World) (A : Option Addr) (n c : Nat) (a : List Dt) (hA : Kd.C kD W A a.length a) (hc : a.length ≤ c) (B : Option Addr) (m d : Nat) (b : List Dt) (hB : Kd.C kD W B b.length b) (hd : b.length ≤ d) (hn : a.length = n) (hm : b.length = m) (ha : ∀ x ∈ a, 0 ≤ x.f1) (hb : ∀ x ∈ b, 0 ≤ x.f1) (hla : a.length < 8800000000000) (hlb : b.length < 8800000000000) (r1 : List Dt) (r2 : Int) (hr : ownMax (validB a) (validB b) a b = (r1, r2)) (n0 : Nat) (h0 : n0 ≤ W.heap.size) :
    Calls Try.prog 13 #[.slice A n c, .slice B m d] W fun e w' => ∃ (R : Option Addr) (q : Nat), e = .returned (.tuple #[.slice R r1.length q, .int .i64 r2]) ∧ Kd.R kD 35 w' n0 (fun k => W.heap.size ≤ k ∧ k < w'.heap.size) (.slice R r1.length q) r1 ∧ Below W.heap.size W w' := by
  subst hn hm
  refine (vmax_calls W A c a hA hc B d b hB hd (a.length + b.length + 2) (validB a) (validB b) (ownValid_f a (by omega) ha _ (by omega)) (ownValid_f b (by omega) hb _ (by omega)) (fun h1 h2 => ?_)).mono ?_
  · have h3 := (valid_props a h1).2.2
    have h4 := (valid_props b h2).2.2
    omega
  · rintro e w' ⟨v, rfl, h1, h2⟩
    rw [hr] at h1 ⊢
    obtain ⟨R, q, rfl⟩ := Kd.R_slice h1
    exact ⟨R, q, rfl, sealRow h1 h0, h2⟩
theorem refN (W : World) (A : Option Addr) (n c : Nat) (a : List Dt) (hA : Kd.C kD W A a.length a) (hc : a.length ≤ c) (B : Option Addr) (m d : Nat) (b : List Dt) (hB : Kd.C kD W B b.length b) (hd : b.length ≤ d) (hn : a.length = n) (hm : b.length = m) (hla : a.length < 8800000000000) (hlb : b.length < 8800000000000) (r1 : List Dt) (r2 : Int) (hr : ownMax (validB a) (validB b) a b = (r1, r2)) (n0 : Nat) (h0 : n0 ≤ W.heap.size) :
    Calls Try.prog 11 #[.slice A n c, .slice B m d] W fun e w' => ∃ (R : Option Addr) (q : Nat), e = .returned (.tuple #[.slice R r1.length q, .int .i64 r2]) ∧ Kd.R kD 35 w' n0 (fun k => W.heap.size ≤ k ∧ k < w'.heap.size) (.slice R r1.length q) r1 ∧ Below W.heap.size W w' := by
  subst hn hm
  refine (concordref10_Max.calls _ A c a B d b r1 r2 W hA hc hB hd (by rw [refMax_f a b (by omega) (by omega), hr])).mono ?_
  rintro e w' ⟨v, rfl, h1, h2⟩
  obtain ⟨R, q, rfl⟩ := Kd.R_slice h1
  exact ⟨R, q, rfl, sealRow h1 h0, h2⟩
theorem lentN (W : World) (A : Option Addr) (c : Nat) (a : List Dt) (hA : Kd.C kD W A a.length a) (hc : a.length ≤ c) (hl : a.length * 16 ≤ 140737488351232) (n0 : Nat) (h0 : n0 ≤ W.heap.size) :
    Calls Try.prog 12 #[.slice A a.length c] W fun e w' => ∃ (R : Option Addr) (q : Nat), e = .returned (.slice R a.length q) ∧ Kd.R kD 35 w' n0 (fun k => W.heap.size ≤ k ∧ k < w'.heap.size) (.slice R (a.length + 3) q) (a ++ marks) ∧ Below W.heap.size W w' := by
  refine (lent_calls W A c a hA hc hl).mono ?_
  rintro e w' ⟨R, q, rfl, _, h1, h2⟩
  exact ⟨R, q, rfl, sealRow h1 h0, h2⟩
theorem turnedN (W : World) (A : Option Addr) (c : Nat) (a : List Dt) (hA : Kd.C kD W A a.length a) (hc : a.length ≤ c) (hl : a.length < 8796093022208) (n0 : Nat) (h0 : n0 ≤ W.heap.size) :
    Calls Try.prog 18 #[.slice A a.length c] W fun e w' => ∃ (R : Option Addr) (q : Nat), e = .returned (.slice R a.length q) ∧ Kd.R kD 35 w' n0 (fun k => W.heap.size ≤ k ∧ k < w'.heap.size) (.slice R a.length q) (a.map trn) ∧ Below W.heap.size W w' := by
  refine (concordlaw10_turned.calls _ A c a _ W hA hc (turned_f a hl)).mono ?_
  rintro e w' ⟨v, rfl, h1, h2⟩
  obtain ⟨R, q, rfl⟩ := Kd.R_slice h1
  rw [List.length_map] at h1 ⊢
  exact ⟨R, q, rfl, sealRow h1 h0, h2⟩
theorem sameN (W : World) {b1 b2 : Nat} {o1 o2 : Nat → Prop} {A B : Option Addr} {n m c d : Nat} {l : List Dt} (h1 : Kd.R kD 35 W b1 o1 (.slice A n c) l) (h2 : Kd.R kD 35 W b2 o2 (.slice B m d) l) (hl : l.length ≤ 64) :
    Calls Try.prog 14 #[.slice A n c, .slice B m d] W fun e w' => e = .returned (.bool true) ∧ Below W.heap.size W w' := by
  obtain ⟨a1, rfl, a3⟩ := C_of_R h1
  obtain ⟨b1, rfl, b3⟩ := C_of_R h2
  refine (concordref10_Same.calls (l.length + 2) A c l B d l true W a1 a3 b1 b3 (same_refl l (by omega) _ (by omega))).mono ?_
  rintro e w' ⟨rfl, m, rfl⟩
  exact ⟨rfl, pw_below_drewN (Below.refl _ _) m⟩
theorem keptN (W : World) {b1 : Nat} {o1 : Nat → Prop} {B A : Option Addr} {d c : Nat} {a : List Dt} (hF : Kd.R kD 35 W b1 o1 (.slice B (a.length + 3) d) (a ++ marks)) (hA : Kd.C kD W A a.length a) (hc : a.length ≤ c) (hl : a.length < 8800000000000) :
    Calls Try.prog 15 #[.slice B a.length d, .slice A a.length c] W fun e w' => e = .returned (.bool true) ∧ Below W.heap.size W w' := by
  obtain ⟨a1, a2, a3⟩ := C_of_R hF
  rw [a2] at a1 a3
  exact kept_calls W B d a a1 a3 A c hA hc (by omega)
theorem spoilN (c : Int) (w0 W : World) {P0 : Nat → Prop} {A : Option Addr} {n d : Nat} {l : List Dt} (hB : Below w0.heap.size w0 W) (h1 : Kd.R kD 35 W w0.heap.size P0 (.slice A n d) l) (hl : l.length < 9000000000000) :
    Calls Try.prog 16 #[.slice A n d, .int .u64 c] W fun e w' => ∃ r, e = .returned (.tuple #[]) ∧ Kd.R kD 35 w' w0.heap.size (fun k => P0 k ∨ W.heap.size ≤ k) (.slice A n d) r ∧ Below w0.heap.size w0 w' ∧ Kept W w' P0 := by
  obtain ⟨r, hr⟩ := spoil_f c l hl
  refine (concordlaw10_spoil.calls _ P0 _ l c r w0 W hB h1 hr).mono ?_
  rintro e w' ⟨rfl, h2, h3, h4⟩
  exact ⟨r, rfl, h2, h3, h4⟩
theorem grownN (c : Int) (w0 W : World) {P0 : Nat → Prop} {A : Option Addr} {n d : Nat} {l : List Dt} (hB : Below w0.heap.size w0 W) (h1 : Kd.R kD 35 W w0.heap.size P0 (.slice A n d) l) (hl : l.length ≤ 900000) :
    Calls Try.prog 17 #[.slice A n d, .int .u64 c] W fun e w' => ∃ (B : Option Addr) (q : Nat), e = .returned (.slice B (n + 70) q) ∧ Below w0.heap.size w0 w' ∧ Kept W w' P0 := by
  obtain ⟨r, hr, hr2⟩ := grown_f c l hl
  obtain ⟨_, rfl, _⟩ := C_of_R h1
  refine (concordlaw10_grown.calls _ P0 _ l c r w0 W hB h1 hr).mono ?_
  rintro e w' ⟨v, rfl, h2, h3, h4⟩
  obtain ⟨B, q, rfl⟩ := Kd.R_slice h2
  exact ⟨B, q, by rw [hr2], h3, h4⟩
end Go.Proofs.Ytgcmmiihjiiemaa.My
