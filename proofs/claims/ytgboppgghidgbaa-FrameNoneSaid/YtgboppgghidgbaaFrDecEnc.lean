/- What was told is read; ranges. -/
import Derived.Test.YtgboppgghidgbaaFrPlain2
namespace Go.Proofs.Ytgboppgghidgbaa.My
open Go.RowKit Go.Proofs.YtgboppgghidgbaaW.PrintWords Go.Proofs.Ytgboppgghidgbaa
set_option linter.unusedSimpArgs false
set_option linter.unusedVariables false
set_option maxRecDepth 100000
theorem dec_enc (a b c d e t g : Nat) (h : Bool) (bd : ByteArray) (ha : a < 256) (hb : b < 256) (hc : c < 256) (hd : d < 65536) (he : e < 4294967296) (ht : t < 18446744073709551616) (hg : g < 4294967296) (hM : May a b c d e g h bd.size) :
    decT (strOfNums (encF a b c d e t g h bd)) = ((a : Int), (b : Int), (c : Int), (d : Int), (e : Int), (t : Int), (g : Int), h, bd, 0) := by
  have hn := encF_nats a b c d e t g h bd ha hb hc
  generalize strOfNums (encF a b c d e t g h bd) = s at hn
  obtain ⟨hsz, hk, f1, f2, f3, f4, f5, f6, f7, f8, f9, f10⟩ := fields s a b c d e t g h bd hn ha hb hc hd he ht hg hM.2.2.2.2.2.2.2
  have hx : (fN s 29 1 == 1) = h := by rw [f8]; cases h <;> rfl
  have hx1 : fN s 29 1 ≤ 1 := by rw [f8]; split <;> omega
  have hok : DecOk s := ⟨hk, hx1, f10, by rw [hx, f1, f2, f3, f4, f5, f7, f9]; exact hM⟩
  unfold decT
  rw [if_pos hok, hx, f1, f2, f3, f4, f5, f6, f7, f9]
theorem wfr8 {n : Int} (h : (Lit.int .u8 n).wf = true) : 0 ≤ n ∧ n < 256 := by
  simp only [Lit.wf, IntKind.min, IntKind.max, Bool.and_eq_true, decide_eq_true_eq] at h; simp [IntKind.signed, IntKind.bits] at h; omega
theorem wfr16 {n : Int} (h : (Lit.int .u16 n).wf = true) : 0 ≤ n ∧ n < 65536 := by
  simp only [Lit.wf, IntKind.min, IntKind.max, Bool.and_eq_true, decide_eq_true_eq] at h; simp [IntKind.signed, IntKind.bits] at h; omega
theorem wfr32 {n : Int} (h : (Lit.int .u32 n).wf = true) : 0 ≤ n ∧ n < 4294967296 := by
  simp only [Lit.wf, IntKind.min, IntKind.max, Bool.and_eq_true, decide_eq_true_eq] at h; simp [IntKind.signed, IntKind.bits] at h; omega
theorem wfr64 {n : Int} (h : (Lit.int .u64 n).wf = true) : 0 ≤ n ∧ n < 18446744073709551616 := by
  simp only [Lit.wf, IntKind.min, IntKind.max, Bool.and_eq_true, decide_eq_true_eq] at h; simp [IntKind.signed, IntKind.bits] at h; omega
theorem wfr {a b c d e t g : Int} (wa : (Lit.int .u8 a).wf = true) (wb : (Lit.int .u8 b).wf = true) (wc : (Lit.int .u8 c).wf = true) (wd : (Lit.int .u16 d).wf = true) (we : (Lit.int .u32 e).wf = true) (wt : (Lit.int .u64 t).wf = true) (wg : (Lit.int .u32 g).wf = true) : Fr a b c d e t g :=
  ⟨wfr8 wa, wfr8 wb, wfr8 wc, wfr16 wd, wfr32 we, wfr64 wt, wfr32 wg⟩
end Go.Proofs.Ytgboppgghidgbaa.My
