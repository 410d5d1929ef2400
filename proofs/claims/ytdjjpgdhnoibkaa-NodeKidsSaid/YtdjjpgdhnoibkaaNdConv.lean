/- A number that becomes a text; how texts are compared. -/
import Derived.Laws.Runes
import Derived.Laws.Cover1
import Derived.Test.YtdjjpgdhnoibkaaProg
import Derived.Test.YtdjjpgdhnoibkaaWWords
namespace Go.Proofs.Ytdjjpgdhnoibkaa.My
open Go.RowKit Go.Proofs.Ytdjjpgdhnoibkaa
set_option linter.unusedSimpArgs false
theorem conv_rune {w : World} (n : Int) : (convert 21 9 (.int .i32 n)).run Try.prog w = .ok (.string (Utf8.encode n)) w :=
  run_convert_int_string w 21 9 .i32 n (by rw [Try.underlying21]; rfl) Try.underlying9
theorem bl_total : ∀ x y : List UInt8, (Op.bytesLess x y || x == y) = !Op.bytesLess y x
  | [], [] => by simp [Op.bytesLess]
  | [], b :: y => by simp [Op.bytesLess]
  | a :: x, [] => by simp [Op.bytesLess]
  | a :: x, b :: y => by
    have ih := bl_total x y
    rw [Op.bytesLess, Op.bytesLess]
    rcases Nat.lt_trichotomy a.toNat b.toNat with h | h | h
    · have h1 : a < b := h
      have h2 : ¬ b < a := fun h3 => Nat.lt_asymm h h3
      have h3 : (b == a) = false := beq_eq_false_iff_ne.2 (fun e => by rw [e] at h; exact Nat.lt_irrefl _ h)
      simp [h1, h2, h3]
    · obtain rfl := UInt8.toNat_inj.1 h
      have h2 : ¬ a < a := fun h3 => Nat.lt_irrefl _ h3
      have h4 : (a :: x == a :: y) = (x == y) := by simp
      rw [decide_eq_false h2, h4, beq_self_eq_true, Bool.false_or, Bool.true_and, Bool.true_and, Bool.false_or, ih]
    · have h1 : b < a := h
      have h2 : ¬ a < b := fun h3 => Nat.lt_asymm h h3
      have h3 : (a == b) = false := beq_eq_false_iff_ne.2 (fun e => by rw [e] at h; exact Nat.lt_irrefl _ h)
      have h4 : a ≠ b := fun e => by rw [e] at h; exact Nat.lt_irrefl _ h
      simp [h1, h2, h3, h4]
theorem str_leq (t : TypeId) (a b : ByteArray) : binOp .leq t (.string a) (.string b) = pure (.bool (!Op.bytesLess b.toList a.toList)) := by rw [binOp_string_leq, bl_total]
theorem str_gtr (t : TypeId) (a b : ByteArray) : binOp .gtr t (.string a) (.string b) = pure (.bool (Op.bytesLess b.toList a.toList)) := by rw [binOp_string_gtr, bl_total, Bool.not_not]
end Go.Proofs.Ytdjjpgdhnoibkaa.My
