/- Crash of a disk that stands; what content answers. -/
import Derived.Test.YtjaalegkmldaeaaDkV
namespace Go.Proofs.Ytjaalegkmldaeaa.My
open Go.RowKit Go.Proofs.YtjaalegkmldaeaaW.PrintWords Go.Proofs.YtjaalegkmldaeaaW.PrintLast Go.Proofs.YtjaalegkmldaeaaW.PrintMore Go.Proofs.Ytjaalegkmldaeaa Go.Maps Go.Proofs.Ytjaalegkmldaeaa.PA
set_option linter.unusedSimpArgs false
set_option linter.unusedVariables false
set_option maxRecDepth 100000
set_option maxHeartbeats 1600000
theorem C_blockB {w w' : World} {ad : Addr} {n : Nat} {xs : List Bool} (h : Kd.C Kd.bool w (some ad) n xs) (e : w'.heap[ad.block]? = w.heap[ad.block]?) : Kd.C Kd.bool w' (some ad) n xs := by
  obtain ⟨h1, h2, h3⟩ := h
  refine ⟨h1, h2, fun hp => ?_⟩
  obtain ⟨a', ha, h4⟩ := h3 hp
  obtain rfl := Option.some.inj ha
  refine ⟨ad, rfl, fun j p hj => ?_⟩
  obtain ⟨c, hl, hK, hc⟩ := h4 j p hj
  refine ⟨c, hl, hK, fun i u hu => ?_⟩
  rw [← hc i u hu]
  refine World.cell?_of_block (w := w) ?_
  have hb : (ad.add (j * Kd.bool.sz + i)).block = ad.block := by
    unfold Addr.add
    split <;> rfl
  rw [hb]
  exact e
theorem stands_crash {w0 w w2 : World} {g : Nat} {d : Dk} (h : Stands w0 w g d) (hb : Below w.heap.size w w2) (K : Option Addr) (kc : Nat) (keep : List Bool) (torn cut : Int) (hK : Kd.C Kd.bool w2 K keep.length keep) (hkc : keep.length ≤ kc) (hKb : ∀ a, K = some a → a.block < w2.heap.size ∧ (a.block < w0.heap.size ∨ w.heap.size ≤ a.block)) :
    Calls Try.prog 15 #[.pointer (some ⟨g, 0, none⟩), .agg #[.slice K keep.length kc, .int .i64 torn, .int .i64 cut]] w2 fun e w' => e = .returned (.tuple #[]) ∧ Stands w0 w' g (crashV d keep torn cut) := by
  obtain ⟨own, hd, ho, hl⟩ := h
  refine (crash_calls w2 own g d (hd.below hb) K kc keep torn cut (fun w' hk => ?_) hkc).mono ?_
  · cases K with
    | none =>
      obtain ⟨h1, h2, h3⟩ := hK
      exact ⟨h1, h2, fun hp => by obtain ⟨a, ha, _⟩ := h3 hp; cases ha⟩
    | some ad =>
      obtain ⟨h1, h2⟩ := hKb ad rfl
      refine C_blockB hK (hk.2 ad.block h1 (fun hh => ?_))
      rcases h2 with h2 | h2
      · exact absurd (ho _ hh) (by omega)
      · exact absurd (hd.lt _ hh) (by omega)
  · rintro e w' ⟨rfl, ht⟩
    exact ⟨rfl, Stands.turned ho (below_then hl (below_size hl) hb) ht⟩
/-- What content fills up: some page. -/
theorem content_l0 (a0 a1 : Int) (s : ByteArray) (hs : s.size ≤ 140737488355328) (b : Bool) (l4 : List Bool) (a5 a6 : Int) : ∀ (n i k : Nat) (l : List Int), i + n = 1024 → n + 1 ≤ k → l.length = 1024 → ∃ r, concordlaw04_content.l0 k l (i : Int) a0 a1 s b l4 a5 a6 = some r ∧ r.size = 1024
  | 0, i, k, l, hi, hk, hl => by
    obtain ⟨k, rfl⟩ : ∃ j, k = j + 1 := ⟨k - 1, by omega⟩
    rw [concordlaw04_content.l0, if_neg (by omega)]
    exact ⟨_, rfl, by rw [strOfNums_size]; exact hl⟩
  | n + 1, i, k, l, hi, hk, hl => by
    obtain ⟨k, rfl⟩ : ∃ j, k = j + 1 := ⟨k - 1, by omega⟩
    rw [concordlaw04_content.l0, if_pos (by omega)]
    by_cases h0 : (s.size : Int) > 0
    · have m0 : 0 ≤ Int.tmod (i : Int) (s.size : Int) := Int.tmod_nonneg _ (by omega)
      have m1 : Int.tmod (i : Int) (s.size : Int) < (s.size : Int) := Int.tmod_lt_of_pos _ (by omega)
      rw [if_pos h0, if_neg (by omega), if_pos m0, if_pos m1, if_pos (by omega), if_pos (by omega)]
      have w1 : wrap64 ((i : Int) + 1) = ((i + 1 : Nat) : Int) := by unfold wrap64; omega
      rw [w1]
      exact content_l0 a0 a1 s hs b l4 a5 a6 n (i + 1) k _ (by omega) (by omega) (by rw [List.length_set]; exact hl)
    · rw [if_neg h0]
      exact ⟨_, rfl, by rw [strOfNums_size]; exact hl⟩
/-- What a step writes. -/
def contV (s : ByteArray) (odd : Bool) : ByteArray := (concordlaw04_content.f 1100 0 0 s odd [] 0 0).getD ⟨#[]⟩
theorem content_irr (k : Nat) (l : List Int) (i : Int) (s : ByteArray) (a0 a1 : Int) (b : Bool) (l4 : List Bool) (a5 a6 b0 b1 : Int) (b' : Bool) (l4' : List Bool) (b5 b6 : Int) : concordlaw04_content.l0 k l i a0 a1 s b l4 a5 a6 = concordlaw04_content.l0 k l i b0 b1 s b' l4' b5 b6 := by
  induction k generalizing l i with
  | zero => rfl
  | succ k ih => simp only [concordlaw04_content.l0, ih]
theorem content_f (a0 a1 : Int) (s : ByteArray) (hs : s.size ≤ 140737488355328) (odd : Bool) (l4 : List Bool) (a5 a6 : Int) : concordlaw04_content.f 1100 a0 a1 s odd l4 a5 a6 = some (contV s odd) ∧ (odd = false → (contV s odd).size = 1024) ∧ (contV s odd).size ≤ 140737488355328 := by
  unfold contV
  cases odd with
  | true =>
    unfold concordlaw04_content.f
    rw [if_pos rfl]
    exact ⟨rfl, (fun h => by cases h), hs⟩
  | false =>
    have e : concordlaw04_content.f 1100 a0 a1 s false l4 a5 a6 = concordlaw04_content.f 1100 0 0 s false [] 0 0 := by
      show (if false = true then some s else (if 1024 ≤ 281474976710656 then _ else none)) = (if false = true then some s else (if 1024 ≤ 281474976710656 then _ else none))
      refine (if_neg (show ¬ (false = true) by decide)).trans (Eq.trans ((if_pos (show 1024 ≤ 281474976710656 by decide)).trans ?_) (if_neg (show ¬ (false = true) by decide)).symm)
      refine Eq.trans ?_ (if_pos (show 1024 ≤ 281474976710656 by decide)).symm
      exact content_irr _ _ _ _ _ _ _ _ _ _ _ _ _ _ _ _
    have h2 : ∃ r, concordlaw04_content.f 1100 0 0 s false [] 0 0 = some r ∧ r.size = 1024 := by
      unfold concordlaw04_content.f
      rw [if_neg (by decide), if_pos (by decide)]
      exact content_l0 0 0 s hs false [] 0 0 1024 0 1100 _ (by decide) (by decide) List.length_replicate
    obtain ⟨r, h3, h4⟩ := h2
    rw [e, h3]
    exact ⟨rfl, (fun _ => h4), by show r.size ≤ _; rw [h4]; decide⟩
/-- A text laid into memory as bytes. -/
theorem bytes_at (w : World) (s : ByteArray) (hs : s.size ≤ 140737488355328) :
    (∀ W, (convert 9 34 (.string s)).run Try.prog W = .ok (.slice (some ⟨W.heap.size, 0, none⟩) s.size (grownCap W s.size 0 5)) (Lib.bytesWorld W 5 s)) ∧ Kd.C (Kd.int .u8) (Lib.bytesWorld w 5 s) (some ⟨w.heap.size, 0, none⟩) s.size (bytesOf s) ∧ w.heap.size < (Lib.bytesWorld w 5 s).heap.size ∧ Below w.heap.size w (Lib.bytesWorld w 5 s) := by
  refine ⟨fun W => print_bytes (P := Try.prog) 9 34 5 Try.underlying9 Try.underlying34 Try.underlying5 s W, ?_, by rw [Lib.bytesWorld_size]; omega, bytes_below (Below.refl _ _) (Nat.le_refl _) _ _⟩
  have h := C_of_row (k := .u8) (w := Lib.bytesWorld w 5 s) (ad := ⟨w.heap.size, 0, none⟩) (xs := bytesOf s) (by rw [bytesOf_len]; omega) (fun j v hj => by
    have hr := (bytes_reads w 5 s (by omega)).2.2
    have hjl : j < s.size := by
      rcases Nat.lt_or_ge j s.size with h | h
      · exact h
      · rw [List.getElem?_eq_none (by rw [List.length_map, bytesOf_len]; exact h)] at hj; cases hj
    obtain ⟨ad, e, hc⟩ := hr (by omega)
    obtain rfl := Option.some.inj e
    rw [hc j hjl]
    rw [List.getElem?_map] at hj
    cases hx : (bytesOf s)[j]? with
    | none => rw [hx] at hj; cases hj
    | some x =>
      rw [hx] at hj
      rw [List.getD_eq_getElem?_getD, hx]
      exact hj)
  rw [bytesOf_len] at h
  exact h
end Go.Proofs.Ytjaalegkmldaeaa.My
