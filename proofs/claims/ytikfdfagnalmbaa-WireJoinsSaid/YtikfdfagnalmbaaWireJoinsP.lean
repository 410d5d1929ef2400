/- WireJoins: the plain law. -/
import Derived.Test.YtikfdfagnalmbaaJoinPlain
import Derived.Test.YtikfdfagnalmbaaPJx2
namespace Go.Proofs.Ytikfdfagnalmbaa.My
open Go.RowKit Go.Proofs.YtikfdfagnalmbaaW.PrintWords Go.Proofs.Ytikfdfagnalmbaa Go.Proofs.Ytikfdfagnalmbaa.PJ
theorem bytesN_append (s t : ByteArray) : bytesN (s ++ t) = bytesN s ++ bytesN t := by
  unfold bytesN
  rw [ByteArray.data_append, Array.toList_append, List.map_append]
theorem run_zero (l : List Nat) (c d : Nat) (h : ∀ x ∈ l, x < 256) : Crc.run (c ^^^ d) l = Crc.run c l ^^^ Crc.stepN (8 * l.length) d := by
  rw [Crc.run_num l _ h, Crc.run_num l _ h, ← Crc.stepN_xor]
  congr 1
  rw [Nat.xor_assoc, Nat.xor_assoc, Nat.xor_comm d]
theorem xor_cancel (a b : Nat) : a ^^^ (a ^^^ b) = b := by rw [← Nat.xor_assoc, Nat.xor_self, Nat.zero_xor]
theorem on_sum (l m : List Nat) : Crc.sumOn (Crc.sum l) m = Crc.sum (l ++ m) := by
  rw [Crc.sum_def, Crc.sum_def, Crc.sumOn, xor_cancel, Crc.run_append]
theorem sum_append (l m : List Nat) (hm : ∀ x ∈ m, x < 256) : Crc.stepN (8 * m.length) (Crc.sum l) ^^^ Crc.sum m = Crc.sum (l ++ m) := by
  rw [Crc.sum_def m, Crc.sum_def (l ++ m), Crc.run_append]
  have e : Crc.run 4294967295 l = 4294967295 ^^^ Crc.sum l := by rw [Crc.sum_def, xor_cancel]
  rw [e, run_zero m _ _ hm]
  generalize Crc.stepN (8 * m.length) (Crc.sum l) = X
  generalize Crc.run 4294967295 m = Y
  rw [← Nat.xor_assoc, Nat.xor_comm X, Nat.xor_assoc, Nat.xor_comm X]
theorem Joins_pure : concordlaw01_WireJoins.Pure := by
  intro s t hs ht
  refine ⟨t.size + 35, ?_⟩
  have hA : Crc.sum (bytesN s) < 4294967296 := Crc.sumOn_lt _ (by omega) (bytesN_lt s)
  have hB : Crc.sum (bytesN t) < 4294967296 := Crc.sumOn_lt _ (by omega) (bytesN_lt t)
  have hst : (s ++ t).size = s.size + t.size := ByteArray.size_append
  rw [concordlaw01_WireJoins.f, concordlaw01_works.f, Option.bind_some, if_pos rfl]
  rw [wire_Sum.f, sumF, if_pos (by omega), Option.bind_some, wire_Sum.f, sumF, if_pos (by omega), Option.bind_some, if_pos (by omega), wire_Sum.f, sumF, if_pos (by omega), Option.bind_some]
  have e1 := on_sum (bytesN s) (bytesN t)
  have e2 := sum_append (bytesN s) (bytesN t) (bytesN_lt t)
  rw [bytesN_len] at e2
  rw [bytesN_append]
  have e5 : Crc.sumOn 0 (bytesN s) = Crc.sum (bytesN s) := rfl
  generalize Crc.sum (bytesN s) = A at *
  generalize Crc.sum (bytesN t) = B at *
  generalize Crc.sum (bytesN s ++ bytesN t) = C at *
  rw [wire_On.f, if_pos ⟨⟨by omega, by omega⟩, by omega⟩, Option.bind_some, Int.toNat_natCast, e1, if_pos rfl]
  rw [joined_f t.size A B _ (by omega) hA hB (by omega), Option.bind_some, e2, if_pos rfl]
  rw [wire_On.f, if_pos ⟨⟨by omega, by omega⟩, by omega⟩, Option.bind_some, show (0 : Int).toNat = 0 from rfl, e5, if_pos rfl]
  rw [joined_neg 0 A B _ (by omega) hA hB, Option.bind_some, u32_xor_nat A B hA hB, if_pos rfl]
  rw [joined_neg _ A B _ (by omega) hA hB, Option.bind_some, beq_self_eq_true]
theorem WireJoins_walk (w : World) (s : ByteArray) (hs : s.size ≤ 140737488351232) (t : ByteArray) (ht : t.size ≤ 140737488351232) : Calls Try.prog 8 #[.string s, .string t] w fun e w' => e = .returned (.bool true) ∧ Below w.heap.size w w' :=
  concordlaw01_WireJoins.walk Joins_pure s t w hs ht
end Go.Proofs.Ytikfdfagnalmbaa.My
