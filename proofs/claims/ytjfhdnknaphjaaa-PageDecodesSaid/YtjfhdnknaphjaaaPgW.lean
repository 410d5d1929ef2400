/- What several laws of the chapter share: the awake check, the guard, a row of bytes handed in. -/
import Derived.Test.YtjfhdnknaphjaaaPGx4
import Derived.Test.YtjfhdnknaphjaaaPgPlain3
namespace Go.Proofs.Ytjfhdnknaphjaaa.My
open Go.RowKit Go.Proofs.Ytjfhdnknaphjaaa.PG Go.Proofs.YtjfhdnknaphjaaaW.PrintWords Go.Proofs.Ytjfhdnknaphjaaa
def IsRow (k : IntKind) (w : World) (a : Option Addr) (len cap : Nat) (z : List Int) : Prop :=
  (a = none ∧ len = 0 ∧ cap = 0 ∧ z = []) ∨ ∃ x, a = some x ∧ len ≤ cap ∧ cap ≤ maxLen ∧ z.length = cap ∧ (∀ i, i < z.length → w.cell? (x.add i) = some (.int k (z.getD i 0))) ∧ ∀ n ∈ z, (Lit.int k n).wf = true
theorem wf8 {n : Int} (h : (Lit.int .u8 n).wf = true) : 0 ≤ n ∧ n < 256 := by
  simp [Lit.wf, IntKind.min, IntKind.max, IntKind.signed, IntKind.bits] at h; omega
theorem wf32 {n : Int} (h : (Lit.int .u32 n).wf = true) : 0 ≤ n ∧ n < 4294967296 := by
  simp [Lit.wf, IntKind.min, IntKind.max, IntKind.signed, IntKind.bits] at h; omega
theorem wf64 {n : Int} (h : (Lit.int .u64 n).wf = true) : 0 ≤ n ∧ n < 18446744073709551616 := by
  simp [Lit.wf, IntKind.min, IntKind.max, IntKind.signed, IntKind.bits] at h; omega
theorem wfi64 {n : Int} (h : (Lit.int .i64 n).wf = true) : -9223372036854775808 ≤ n ∧ n < 9223372036854775808 := by
  simp [Lit.wf, IntKind.min, IntKind.max, IntKind.signed, IntKind.bits] at h; omega
theorem Encode_f (a0 a1 a2 : Nat) (s : ByteArray) (h0 : a0 < 256) (h1 : a1 < 4294967296) (h2 : a2 ≤ 4611686018427387904) (h3 : s.size ≤ 996) :
    page_Encode.f a0 a1 a2 s = some (encL a0 a1 a2 s, 0) := by
  unfold page_Encode.f
  rw [if_pos ⟨by omega, by omega, by omega, by omega, by omega⟩, if_neg (by omega), if_neg (by omega)]
  simp only [Int.toNat_natCast]
theorem Encode_far (a0 a1 a2 : Nat) (s : ByteArray) (h0 : a0 < 256) (h1 : a1 < 4294967296) (h2 : 4611686018427387904 < a2) :
    page_Encode.f a0 a1 a2 s = some ([], 1) := by
  unfold page_Encode.f
  rw [if_pos ⟨by omega, by omega, by omega, by omega, by omega⟩, if_pos (by omega)]
theorem Encode_long (a0 a1 a2 : Nat) (s : ByteArray) (h0 : a0 < 256) (h1 : a1 < 4294967296) (h2 : a2 ≤ 4611686018427387904) (h3 : 996 < s.size) :
    page_Encode.f a0 a1 a2 s = some ([], 82) := by
  unfold page_Encode.f
  rw [if_pos ⟨by omega, by omega, by omega, by omega, by omega⟩, if_neg (by omega), if_pos (by omega)]
theorem Decode_f (l : List Int) (n : Nat) (hl : Bytes l) (hn : n < 4294967296) : page_Decode.f l n = some (decL l n) := by
  unfold page_Decode.f
  rw [if_pos ⟨hl, by omega, by omega⟩, Int.toNat_natCast]
theorem may_ok (a0 a1 a2 : Nat) (s : ByteArray) (h2 : a2 ≤ 4611686018427387904) (h3 : s.size ≤ 996) : concordlaw05_may.f a0 a1 a2 s = some true := by
  unfold concordlaw05_may.f; rw [if_pos (by omega), decide_eq_true (by omega)]
theorem may_not (a0 a1 a2 : Nat) (s : ByteArray) (h : ¬(a2 ≤ 4611686018427387904 ∧ s.size ≤ 996)) : concordlaw05_may.f a0 a1 a2 s = some false := by
  unfold concordlaw05_may.f
  by_cases h2 : (a2 : Int) ≤ 4611686018427387904
  · rw [if_pos h2, decide_eq_false (by intro h3; exact h ⟨by omega, by omega⟩)]
  · rw [if_neg h2]
theorem awake_of (l : List Int) (e : page_Encode.f 2 7 258 (⟨#[97, 98]⟩ : ByteArray) = some (l, 0)) (d : page_Decode.f l 7 = some (2, 7, 258, ⟨#[97, 98]⟩, 0)) (hl : l.length = 1024) : concordlaw05_awake.f = some true := by
  unfold concordlaw05_awake.f
  rw [e, Option.bind_some]
  dsimp only
  rw [d, Option.bind_some]
  dsimp only
  rw [if_pos rfl, if_pos rfl, hl, if_pos (by decide +kernel)]
  rfl
theorem awake_ok : concordlaw05_awake.f = some true := by
  have e := Encode_f 2 7 258 ⟨#[97, 98]⟩ (by omega) (by omega) (by omega) (by decide)
  have d := Decode_f (encL 2 7 258 ⟨#[97, 98]⟩) 7 (enc_bytes 2 7 258 _ (by decide) (by omega)) (by omega)
  rw [dec_enc 2 7 258 _ (by decide) (by omega) (by omega) (by omega)] at d
  have hl := encL_len (number := 7) 2 258 ⟨#[97, 98]⟩ (by decide)
  generalize encL 2 7 258 ⟨#[97, 98]⟩ = l at *
  exact awake_of l e d hl
end Go.Proofs.Ytjfhdnknaphjaaa.My
