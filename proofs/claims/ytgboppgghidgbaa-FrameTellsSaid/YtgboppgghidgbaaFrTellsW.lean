/- FrameTells: the walk. -/
import Derived.Test.YtgboppgghidgbaaFrRef
import Derived.Test.YtgboppgghidgbaaPGx7
import Derived.Test.YtgboppgghidgbaaFrOpen
namespace Go.Proofs.Ytgboppgghidgbaa.My
open Go.RowKit Go.Proofs.YtgboppgghidgbaaW.PrintWords Go.Proofs.Ytgboppgghidgbaa Go.Proofs.Ytgboppgghidgbaa.PG
set_option linter.unusedSimpArgs false
set_option linter.unusedVariables false
theorem wfr8 {n : Int} (h : (Lit.int .u8 n).wf = true) : 0 ≤ n ∧ n < 256 := by
  simp only [Lit.wf, IntKind.min, IntKind.max, Bool.and_eq_true, decide_eq_true_eq] at h; simp [IntKind.signed, IntKind.bits] at h; omega
theorem wfr16 {n : Int} (h : (Lit.int .u16 n).wf = true) : 0 ≤ n ∧ n < 65536 := by
  simp only [Lit.wf, IntKind.min, IntKind.max, Bool.and_eq_true, decide_eq_true_eq] at h; simp [IntKind.signed, IntKind.bits] at h; omega
theorem wfr32 {n : Int} (h : (Lit.int .u32 n).wf = true) : 0 ≤ n ∧ n < 4294967296 := by
  simp only [Lit.wf, IntKind.min, IntKind.max, Bool.and_eq_true, decide_eq_true_eq] at h; simp [IntKind.signed, IntKind.bits] at h; omega
theorem wfr64 {n : Int} (h : (Lit.int .u64 n).wf = true) : 0 ≤ n ∧ n < 18446744073709551616 := by
  simp only [Lit.wf, IntKind.min, IntKind.max, Bool.and_eq_true, decide_eq_true_eq] at h; simp [IntKind.signed, IntKind.bits] at h; omega
theorem wfr {a b c d e t g : Int} (wa : (Lit.int .u8 a).wf = true) (wb : (Lit.int .u8 b).wf = true) (wc : (Lit.int .u8 c).wf = true) (wd : (Lit.int .u16 d).wf = true) (we : (Lit.int .u32 e).wf = true) (wt : (Lit.int .u64 t).wf = true) (wg : (Lit.int .u32 g).wf = true) : Fr a b c d e t g :=
  ⟨wfr8 wa, wfr8 wb, wfr8 wc, wfr16 wd, wfr32 we, wfr64 wt, wfr32 wg⟩
theorem FrameTells_walk (w : World) (a b c d e t g : Int) (h : Bool) (s : ByteArray) (wa : (Lit.int .u8 a).wf = true) (wb : (Lit.int .u8 b).wf = true) (wc : (Lit.int .u8 c).wf = true) (wd : (Lit.int .u16 d).wf = true) (we : (Lit.int .u32 e).wf = true) (wt : (Lit.int .u64 t).wf = true) (wg : (Lit.int .u32 g).wf = true) (ws : s.size ≤ maxLen) :
    Calls Try.prog 3 #[.agg #[.int .u8 a, .int .u8 b, .int .u8 c, .int .u16 d, .int .u32 e, .int .u64 t, .int .u32 g, .bool h, .string s]] w fun r w' => r = .returned (.bool true) ∧ Below w.heap.size w w' := by
  have hF := wfr wa wb wc wd we wt wg
  refine concordlaw21_FrameTells.calls 12 a b c d e t g h s true w ?_
  have hF' := hF
  obtain ⟨a, b, c, d, e, t, g, rfl, rfl, rfl, rfl, rfl, rfl, rfl⟩ := hF.nats
  obtain ⟨h1, h2, h3, h4, h5, h6, h7⟩ := hF
  have hE : frame_Encode.f (a : Int) b c d e t g h s = some (encR a b c d e t g h s) := by
    rw [frame_Encode.f, if_pos hF']
    rfl
  rw [concordlaw21_FrameTells.f, hE, Option.bind_some, refEnc_f a b c d e t g 12 h s (by omega) (by omega) (by omega) (by omega) (by omega) (by omega) (by omega) (by omega), Option.bind_some, alive_f, Option.bind_some, if_pos rfl, if_pos rfl, beq_self_eq_true]
end Go.Proofs.Ytgboppgghidgbaa.My
