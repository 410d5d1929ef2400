/- page.Blank: whether bytes are a page of noughts. -/
import Derived.Test.YtjfhdnknaphjaaaMyArr
import Derived.Test.YtjfhdnknaphjaaaWWords
import Derived.KernelRfl
import Derived.WalkKit
import Derived.WalkLawsBesides
namespace Go.Proofs.Ytjfhdnknaphjaaa.My
open Go.RowKit Go.Proofs.YtjfhdnknaphjaaaW.PrintWords

theorem C_cells {k : IntKind} {w : World} {A : Option Addr} {n : Nat} {xs : List Int} (h : Kd.C (Kd.int k) w A n xs) (hp : 0 < n) : ∃ ad, A = some ad ∧ ∀ j v, (xs.map (Value.int k))[j]? = some v → w.cell? (ad.add j) = some v := by
  obtain ⟨ad, e, hc⟩ := h.2.2 hp
  refine ⟨ad, e, fun j v hv => ?_⟩
  rw [List.getElem?_map, Option.map_eq_some_iff] at hv
  obtain ⟨x, hx, rfl⟩ := hv
  obtain ⟨c, _, rfl, hcell⟩ := hc j x hx
  have h0 := hcell 0 _ rfl
  have e1 : j * (Kd.int k).sz + 0 = j := by show j * 1 + 0 = j; omega
  rwa [e1] at h0

def zs : List Int := List.replicate 1024 0
theorem zs_len : zs.length = 1024 := List.length_replicate
theorem info5 : ∃ i, Try.prog.info? 5 = some i := by
  have h : (Try.prog.info? 5).isSome = true := by kernel_rfl
  exact Option.isSome_iff_exists.1 h
theorem cellsOf5 : Try.prog.cellsOf 5 = 1 := by kernel_rfl
theorem size52 : (Try.prog.info? 52).map (·.size) = some 1024 := by kernel_rfl
theorem build52 (w : World) : (zeroValue 52).run Try.prog w = .ok (.agg (zs.map (Value.int .u8)).toArray) w := by kernel_rfl

def allZero (l : List Int) : Bool := decide (l = zs)
set_option maxRecDepth 100000 in
theorem Blank_calls (A0 : Option Addr) (c0 : Nat) (l0 : List Int) (w : World) (hr0 : Kd.C (Kd.int .u8) w A0 l0.length l0) :
    Calls Try.prog 13 #[.slice A0 l0.length c0] w fun e w' => e = .returned (.bool (allZero l0)) ∧ w = w' := by
  by_cases hl : l0.length = 1024
  · obtain ⟨ad, rfl, hc⟩ := C_cells hr0 (by omega)
    have ht : ((l0.length : Int) == 1024) = true := by simp [hl]
    obtain ⟨i0, hi0⟩ := info5
    have hload := Aside0.mk (run_loadAt_list (P := Try.prog) w ad 52 _ _ hc Try.underlying52 rfl (by rw [size52]; simp [hl]))
    have hat := Aside0.mk (run_arrayAt (P := Try.prog) w 52 5 1024 Try.underlying52 (some ad) l0.length c0 (by omega))
    have heq := (run_equalIn_ints (P := Try.prog) w 9998 l0 zs Try.underlying52 hi0 Try.underlying5 cellsOf5 hl zs_len)
    have hb := (build52 w)
    clear hc hr0 hl hi0
    go_enter Try.func13, Try.ntmps13
    go_wp2_with (first | (refine wpList_run (Instr.arrayAt 52 (.slice (some ad) l0.length c0)) rfl rfl hat.out ?_) | (refine wpList_run (Instr.loadAt 52 (.pointer (some ad))) rfl rfl hload.out ?_))
    go_ret
    exact ⟨rfl, rfl⟩
  · have ht : ((l0.length : Int) == 1024) = false := by simp; omega
    have hz : allZero l0 = false := by unfold allZero; rw [decide_eq_false_iff_not]; rintro rfl; exact hl zs_len
    clear hl hr0
    have HZ := Aside0.mk hz
    clear hz
    go_enter Try.func13, Try.ntmps13
    go_wp2
    go_ret
    exact ⟨by rw [HZ.out]; rfl, rfl⟩
end Go.Proofs.Ytjfhdnknaphjaaa.My
