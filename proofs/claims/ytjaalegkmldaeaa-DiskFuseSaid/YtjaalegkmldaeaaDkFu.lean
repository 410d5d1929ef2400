/- DiskFuse: what is asked of a fuse, without the program. -/
import Derived.Test.YtjaalegkmldaeaaDkL
import Derived.Test.YtjaalegkmldaeaaDkO
import Derived.Test.YtjaalegkmldaeaaDkX
namespace Go.Proofs.Ytjaalegkmldaeaa.My
open Go.RowKit Go.Proofs.YtjaalegkmldaeaaW.PrintWords Go.Proofs.YtjaalegkmldaeaaW.PrintLast Go.Proofs.YtjaalegkmldaeaaW.PrintMore Go.Proofs.Ytjaalegkmldaeaa Go.Maps Go.Proofs.Ytjaalegkmldaeaa.PA
set_option linter.unusedSimpArgs false
set_option linter.unusedVariables false
set_option maxRecDepth 100000
theorem stp_addr {w : World} {a : Option Addr} {n : Nat} {xs : List Stp} (h : kStp.C w a n xs) (k : Nat) (hk : k < xs.length) : ∃ b o, a = some ⟨b, o, none⟩ := by
  obtain ⟨hn, _, h2⟩ := h
  obtain ⟨ad, rfl, hc⟩ := h2 (by omega)
  obtain ⟨x, hx⟩ : ∃ x, xs[0]? = some x := ⟨_, List.getElem?_eq_getElem (by omega)⟩
  obtain ⟨c, _, hc2, hc3⟩ := hc 0 x hx
  have hc4 : c = x.cells := hc2
  subst hc4
  have h0 : w.cell? (ad.add (0 * 7 + 0)) = some _ := hc3 0 _ rfl
  have hs := World.cell?_spot h0
  obtain ⟨b, o, sp⟩ := ad
  obtain rfl : sp = none := hs
  exact ⟨b, o, rfl⟩
theorem add_lit' (b o n : Nat) : (⟨b, o, none⟩ : Addr).add n = ⟨b, o + n, none⟩ := by
  unfold Addr.add
  by_cases h : n = 0
  · subst h; rfl
  · rw [if_neg h]
theorem stp_at {w : World} {b o n : Nat} {xs : List Stp} (h : kStp.C w (some ⟨b, o, none⟩) n xs) (k : Nat) (x : Stp) (hk : xs[k]? = some x) : w.cell? ⟨b, o + k * 7, none⟩ = some (.int .i64 x.kind) ∧ w.cell? ⟨b, o + k * 7 + 1, none⟩ = some (.int .i64 x.n) ∧ w.cell? ⟨b, o + k * 7 + 2, none⟩ = some (.string x.s) ∧ w.cell? ⟨b, o + k * 7 + 3, none⟩ = some (.bool x.odd) ∧ w.cell? ⟨b, o + k * 7 + 4, none⟩ = some (.slice x.A x.keep.length x.c) ∧ w.cell? ⟨b, o + k * 7 + 5, none⟩ = some (.int .i64 x.torn) ∧ w.cell? ⟨b, o + k * 7 + 6, none⟩ = some (.int .i64 x.cut) := by
  obtain ⟨hn, _, h2⟩ := h
  have hl := (List.getElem?_eq_some_iff.1 hk).1
  obtain ⟨ad, e, hc⟩ := h2 (by omega)
  obtain rfl := Option.some.inj e
  obtain ⟨c, _, hc2, hc3⟩ := hc k x hk
  have hc4 : c = x.cells := hc2
  subst hc4
  have g0 := hc3 0 _ rfl
  have g1 := hc3 1 _ rfl
  have g2 := hc3 2 _ rfl
  have g3 := hc3 3 _ rfl
  have g4 := hc3 4 _ rfl
  have g5 := hc3 5 _ rfl
  have g6 := hc3 6 _ rfl
  rw [add_lit'] at g0 g1 g2 g3 g4 g5 g6
  exact ⟨g0, g1, g2, g3, g4, g5, g6⟩
/-- What the law knows behind i steps. -/
structure FInv (m : Nat) (n0 : Int) (i : Nat) (d : Dk) (lf : Int) (of_ : Bool) : Prop where
  off : d.off = of_
  len : d.lies.length = m
  pend : d.pend.length ≤ i
  left : of_ = false → (0 ≤ d.fuse ∧ lf = d.fuse) ∨ (d.fuse < 0 ∧ n0 < 0 ∧ ∃ j : Nat, j ≤ i ∧ lf = wrap64 (n0 - j))
theorem FInv.more {m : Nat} {n0 : Int} {i : Nat} {d : Dk} {left : Int} {off : Bool} (h : FInv m n0 i d left off) : FInv m n0 (i + 1) d left off :=
  ⟨h.off, h.len, Nat.le_succ_of_le h.pend, fun e => by
    rcases h.left e with h1 | ⟨h1, h2, j, h3, h4⟩
    · exact .inl h1
    · exact .inr ⟨h1, h2, j, Nat.le_succ_of_le h3, h4⟩⟩
section
variable {m : Nat} {n0 : Int} {i : Nat} {d : Dk} {left : Int}
theorem fz (h : FInv m n0 i d left false) (hi : i ≤ 140737488351232) (hn : -9223372036854775808 ≤ n0) : left = 0 ↔ d.fuse = 0 := by
  rcases h.left rfl with ⟨h1, h2⟩ | ⟨h1, h2, j, h3, h4⟩
  · rw [h2]
  · rw [h4]
    unfold wrap64
    constructor
    · intro e; omega
    · intro e; omega
theorem w_off (h : FInv m n0 i d left true) (N : Int) (s : ByteArray) : (writeV d N s).2 = 40 ∧ FInv m n0 (i + 1) (writeV d N s).1 left true := by
  have e : readyV d N = 40 := by unfold readyV; rw [if_pos h.off]
  have e2 : writeV d N s = (d, 40) := by unfold writeV; rw [if_pos (by rw [e]; decide), e]
  rw [e2]
  exact ⟨rfl, h.more⟩
theorem y_off (h : FInv m n0 i d left true) : (syncV d).2 = 40 ∧ FInv m n0 (i + 1) (syncV d).1 left true := by
  have e : readyV d 0 = 40 := by unfold readyV; rw [if_pos h.off]
  have e2 : syncV d = (d, 40) := by unfold syncV; rw [if_pos (by rw [e]; decide), e]
  rw [e2]
  exact ⟨rfl, h.more⟩
theorem w_bad (h : FInv m n0 i d left false) (N : Int) (s : ByteArray) (hb : N < 0 ∨ (m : Int) ≤ N ∨ s.size ≠ 1024) : (writeV d N s).2 = 1 ∧ FInv m n0 (i + 1) (writeV d N s).1 left false := by
  have e2 : writeV d N s = (d, 1) := by
    unfold writeV
    by_cases hr : N < 0 ∨ (d.lies.length : Int) ≤ N
    · have e : readyV d N = 1 := by unfold readyV; rw [if_neg (by rw [h.off]; decide), if_pos hr]
      rw [if_pos (by rw [e]; decide), e]
    · have e : readyV d N = 0 := by unfold readyV; rw [if_neg (by rw [h.off]; decide), if_neg hr]
      rw [if_neg (by rw [e]; decide), if_pos]
      rcases hb with hb | hb | hb
      · exact absurd (.inl hb) hr
      · exact absurd (.inr (by rw [h.len]; exact hb)) hr
      · exact hb
  rw [e2]
  exact ⟨rfl, h.more⟩
theorem w_ready (h : FInv m n0 i d left false) (N : Int) (h1 : 0 ≤ N) (h2 : N < (m : Int)) : readyV d N = 0 := by
  unfold readyV
  rw [if_neg (by rw [h.off]; decide), if_neg (by rw [h.len]; omega)]
theorem act_zero (h0 : d.fuse = 0) : actV d = ({ d with off := true }, 40) := by
  unfold actV
  rw [if_neg (by omega), if_pos h0]
theorem w_zero (h : FInv m n0 i d left false) (hi : i ≤ 140737488351232) (hn : -9223372036854775808 ≤ n0) (h0 : left = 0) (N : Int) (s : ByteArray) (h1 : 0 ≤ N) (h2 : N < (m : Int)) (hs : s.size = 1024) : (writeV d N s).2 = 40 ∧ FInv m n0 (i + 1) (writeV d N s).1 left true := by
  have e2 : writeV d N s = ({ d with off := true }, 40) := by
    unfold writeV
    rw [if_neg (by rw [w_ready h N h1 h2]; decide), if_neg (by rw [hs]; decide), act_zero ((fz h hi hn).1 h0)]
    rfl
  rw [e2]
  exact ⟨rfl, rfl, h.len, Nat.le_succ_of_le h.pend, fun e => by cases e⟩
theorem y_zero (hm : 1 ≤ m) (h : FInv m n0 i d left false) (hi : i ≤ 140737488351232) (hn : -9223372036854775808 ≤ n0) (h0 : left = 0) : (syncV d).2 = 40 ∧ FInv m n0 (i + 1) (syncV d).1 left true := by
  have e2 : syncV d = ({ d with off := true }, 40) := by
    unfold syncV
    rw [if_neg (by rw [w_ready h 0 (by decide) (by omega)]; decide), act_zero ((fz h hi hn).1 h0)]
    rfl
  rw [e2]
  exact ⟨rfl, rfl, h.len, Nat.le_succ_of_le h.pend, fun e => by cases e⟩
theorem act_go (h : FInv m n0 i d left false) (hi : i ≤ 140737488351232) (hn : -9223372036854775808 ≤ n0) (hf : d.fuse ≤ 9223372036854775807) (h0 : left ≠ 0) : (actV d).2 = 0 ∧ (actV d).1.off = false ∧ (actV d).1.lies = d.lies ∧ (actV d).1.pend = d.pend ∧ ((0 ≤ (actV d).1.fuse ∧ wrap64 (left - 1) = (actV d).1.fuse) ∨ ((actV d).1.fuse < 0 ∧ n0 < 0 ∧ ∃ j : Nat, j ≤ i + 1 ∧ wrap64 (left - 1) = wrap64 (n0 - j))) := by
  rcases h.left rfl with ⟨h1, h2⟩ | ⟨h1, h2, j, h3, h4⟩
  · have e : actV d = ({ d with fuse := d.fuse - 1 }, 0) := by
      unfold actV
      rw [if_neg (by omega), if_neg (by omega)]
    rw [e]
    refine ⟨rfl, h.off, rfl, rfl, .inl ⟨?_, ?_⟩⟩
    · show 0 ≤ d.fuse - 1
      omega
    · show _ = d.fuse - 1
      rw [h2]
      unfold wrap64
      omega
  · have e : actV d = (d, 0) := by
      unfold actV
      rw [if_pos h1]
    rw [e]
    refine ⟨rfl, h.off, rfl, rfl, .inr ⟨h1, h2, j + 1, by omega, ?_⟩⟩
    rw [h4]
    unfold wrap64
    omega
theorem w_go (h : FInv m n0 i d left false) (hi : i ≤ 140737488351232) (hn : -9223372036854775808 ≤ n0) (hf : d.fuse ≤ 9223372036854775807) (h0 : left ≠ 0) (N : Int) (s : ByteArray) (h1 : 0 ≤ N) (h2 : N < (m : Int)) (hs : s.size = 1024) : (writeV d N s).2 = 0 ∧ FInv m n0 (i + 1) (writeV d N s).1 (wrap64 (left - 1)) false := by
  obtain ⟨a1, a2, a3, a4, a5⟩ := act_go h hi hn hf h0
  have e2 : writeV d N s = ({ (actV d).1 with pend := d.pend ++ [(N.toNat, s)] }, 0) := by
    unfold writeV
    rw [if_neg (by rw [w_ready h N h1 h2]; decide), if_neg (by rw [hs]; decide), if_neg (by rw [a1]; decide)]
  rw [e2]
  refine ⟨rfl, a2, (congrArg List.length a3).trans h.len, ?_, fun _ => a5⟩
  show (d.pend ++ _).length ≤ _
  rw [List.length_append]
  exact Nat.succ_le_succ h.pend
theorem land_len : ∀ (p : List (Nat × ByteArray)) (l : List ByteArray), (landV l p).length = l.length
  | [], _ => rfl
  | x :: t, l => by
    show (landV (l.set x.1 x.2) t).length = _
    rw [land_len t, List.length_set]
theorem y_go (hm : 1 ≤ m) (h : FInv m n0 i d left false) (hi : i ≤ 140737488351232) (hn : -9223372036854775808 ≤ n0) (hf : d.fuse ≤ 9223372036854775807) (h0 : left ≠ 0) : (syncV d).2 = 0 ∧ FInv m n0 (i + 1) (syncV d).1 (wrap64 (left - 1)) false := by
  obtain ⟨a1, a2, a3, a4, a5⟩ := act_go h hi hn hf h0
  have e2 : syncV d = ({ (actV d).1 with lies := landV d.lies d.pend, pend := [] }, 0) := by
    unfold syncV
    rw [if_neg (by rw [w_ready h 0 (by decide) (by omega)]; decide), if_neg (by rw [a1]; decide)]
  rw [e2]
  exact ⟨rfl, a2, (land_len _ _).trans h.len, Nat.zero_le _, fun _ => a5⟩
end
theorem crash_len (keep : List Bool) (torn cut : Int) : ∀ (p : List (Nat × ByteArray)) (k : Nat) (l : List ByteArray), (crashL keep torn cut k l p).length = l.length
  | [], _, _ => rfl
  | x :: t, k, l => by
    unfold crashL
    rw [crash_len keep torn cut t, List.length_set]
/-- Behind the crash: what the forty rounds know. -/
structure AInv (m : Nat) (k : Nat) (d : Dk) : Prop where
  off : d.off = false
  fuse : d.fuse = -1
  len : d.lies.length = m
  pend : d.pend = []
  lies : 1 ≤ k → d.lies[0]? = some (pgc 3)
theorem a_start {m : Nat} (d : Dk) (h : d.lies.length = m) : AInv m 0 (crashV d [] 0 0) := ⟨rfl, rfl, (crash_len _ _ _ _ _ _).trans h, rfl, fun h => absurd h (by decide)⟩
theorem a_step {m k : Nat} {d : Dk} (hm : 1 ≤ m) (h : AInv m k d) : (writeV d 0 (pgc 3)).2 = 0 ∧ (syncV (writeV d 0 (pgc 3)).1).2 = 0 ∧ AInv m (k + 1) (syncV (writeV d 0 (pgc 3)).1).1 ∧ (writeV d 0 (pgc 3)).1.pend.length = 1 := by
  have hr : ∀ d' : Dk, d'.off = false → d'.lies.length = m → readyV d' 0 = 0 := by
    intro d' h1 h2
    unfold readyV
    rw [if_neg (by rw [h1]; decide), if_neg (by rw [h2]; omega)]
  have ha : ∀ d' : Dk, d'.fuse = -1 → actV d' = (d', 0) := by
    intro d' h1
    unfold actV
    rw [if_pos (by rw [h1]; decide)]
  have e1 : writeV d 0 (pgc 3) = ({ d with pend := [(0, pgc 3)] }, 0) := by
    unfold writeV
    rw [if_neg (fun hh => hh (hr d h.off h.len)), if_neg (by rw [pgc_size]; decide), ha d h.fuse, if_neg (show ¬ ((0 : Int) ≠ 0) by decide), h.pend]
    rfl
  rw [e1]
  have e2 : syncV { d with pend := [(0, pgc 3)] } = ({ d with lies := d.lies.set 0 (pgc 3), pend := [] }, 0) := by
    unfold syncV
    rw [if_neg (fun hh => hh (hr _ h.off h.len)), ha { d with pend := [(0, pgc 3)] } h.fuse, if_neg (show ¬ ((0 : Int) ≠ 0) by decide)]
    rfl
  refine ⟨rfl, ?_, ?_, rfl⟩
  · show (syncV { d with pend := [(0, pgc 3)] }).2 = 0
    rw [e2]
  · show AInv m (k + 1) (syncV { d with pend := [(0, pgc 3)] }).1
    rw [e2]
    refine ⟨h.off, h.fuse, List.length_set.trans h.len, rfl, fun _ => ?_⟩
    show (d.lies.set 0 (pgc 3))[0]? = _
    rw [List.getElem?_set_self (by rw [h.len]; exact hm)]
theorem f_start {l : List ByteArray} (n : Int) (h1 : -9223372036854775808 ≤ n) (h2 : n ≤ 9223372036854775807) : FInv l.length n 0 (fuseV (newD l) n) n false := by
  have e : fuseV (newD l) n = { newD l with fuse := max n (-1) } := by
    unfold fuseV
    rw [if_neg (by show ¬ (false = true); decide)]
  rw [e]
  refine ⟨rfl, rfl, Nat.zero_le _, fun _ => ?_⟩
  by_cases h : 0 ≤ n
  · exact .inl ⟨by show 0 ≤ max n (-1); omega, by show n = max n (-1); omega⟩
  · refine .inr ⟨by show max n (-1) < 0; omega, by omega, 0, Nat.le_refl _, ?_⟩
    unfold wrap64
    omega
end Go.Proofs.Ytjaalegkmldaeaa.My
