/- wire.On and wire.Sum: the check sum of bytes behind others is what the plain numbers say. -/
import Derived.Test.YtgboppgghidgbaaCrc
import Derived.Test.YtgboppgghidgbaaMyArr
import Derived.Test.YtgboppgghidgbaaWWords
import Derived.KernelRfl
import Derived.WalkKit
import Derived.WalkLawsBesides
namespace Go.Proofs.Ytgboppgghidgbaa.My
open Go.RowKit Go.Proofs.YtgboppgghidgbaaW.PrintWords Go.Proofs.Ytgboppgghidgbaa

def bytesN (s : ByteArray) : List Nat := s.data.toList.map (·.toNat)
theorem bytesN_len (s : ByteArray) : (bytesN s).length = s.size := by
  show (s.data.toList.map (·.toNat)).length = s.data.size
  rw [List.length_map, Array.length_toList]
theorem bytesN_lt (s : ByteArray) : ∀ b ∈ bytesN s, b < 256 := by
  intro b hb
  obtain ⟨u, _, rfl⟩ := List.mem_map.1 hb
  exact u.toNat_lt
theorem bytesN_take (s : ByteArray) (k : Nat) (h : k < s.size) : (bytesN s).take (k + 1) = (bytesN s).take k ++ [s[k].toNat] := by
  have hk : k < (bytesN s).length := by rw [bytesN_len]; exact h
  rw [List.take_succ_eq_append_getElem hk]
  congr 2
  simp only [bytesN, List.getElem_map]
  rfl
/-- The table so far. -/
def tabAt (k : Nat) : List Int := ((Crc.tab.take k).map Int.ofNat) ++ List.replicate (16 - k) 0
def tabObj (cs : List Int) : Obj := .cells (cs.map (Value.int .u32)).toArray 108 (0, 0)
def tabArr : Array Value := ((List.replicate 16 (0 : Int)).map (Value.int .u32)).toArray
theorem tab_len : Crc.tab.length = 16 := by decide +kernel
theorem tabAt_len (k : Nat) (h : k ≤ 16) : (tabAt k).length = 16 := by
  simp [tabAt, tab_len]; omega
theorem tabAt_set (k : Nat) (h : k < 16) : (tabAt k).set k ((Crc.stepN 4 k : Nat) : Int) = tabAt (k + 1) := by
  have hk : k < Crc.tab.length := by rw [tab_len]; exact h
  have e : Crc.tab[k] = Crc.stepN 4 k := by simp [Crc.tab]
  have hl : (Crc.tab.take k).length = k := by rw [List.length_take]; omega
  unfold tabAt
  rw [List.take_succ_eq_append_getElem hk, List.map_append, List.set_append_right _ _ (by rw [List.length_map, hl]; exact Nat.le_refl _), List.append_assoc]
  congr 1
  simp only [List.length_map, hl, Nat.sub_self]
  rw [show 16 - k = (16 - (k + 1)) + 1 from by omega, List.replicate_succ, List.set_cons_zero, e]
  rfl
theorem tabAt_hole (k : Nat) (h : k < 16) : (tabAt k)[k]? = some 0 := by
  have hl : (Crc.tab.take k).length = k := by rw [List.length_take, tab_len]; omega
  unfold tabAt
  rw [List.getElem?_append_right (by rw [List.length_map, hl]; exact Nat.le_refl _), List.length_map, hl, Nat.sub_self]
  rw [show 16 - k = (16 - (k + 1)) + 1 from by omega, List.replicate_succ]
  rfl
theorem tabAt_zero : tabAt 0 = List.replicate 16 0 := rfl
theorem tabAt_full (k : Nat) (h : k < 16) : (tabAt 16)[k]? = some ((Crc.tab.getD k 0 : Nat) : Int) := by
  have hk : k < Crc.tab.length := by rw [tab_len]; exact h
  have : (Crc.tab.take 16) = Crc.tab := List.take_of_length_le (by rw [tab_len]; omega)
  unfold tabAt
  rw [this, List.getElem?_append_left (by simpa using hk), List.getElem?_map, List.getElem?_eq_getElem hk, List.getD_eq_getElem?_getD, List.getElem?_eq_getElem hk]
  rfl

theorem obj_cell {w : World} {g : Nat} {cs : List Int} (h : w.heap[g]? = some (tabObj cs)) (j : Nat) : w.cell? ⟨g, j, none⟩ = (cs[j]?).map (Value.int .u32) := by
  unfold tabObj at h
  rw [cell_of_row w g j _ _ _ h]
  simp
theorem obj_frozen {w : World} {g : Nat} {cs : List Int} (h : w.heap[g]? = some (tabObj cs)) (j : Nat) : w.frozen? ⟨g, j, none⟩ = false := frozen_of_row w g j _ _ h
theorem obj_set {w : World} {g : Nat} {cs : List Int} (h : w.heap[g]? = some (tabObj cs)) (j : Nat) (v : Int) : (w.setCell ⟨g, j, none⟩ (.int .u32 v)).heap[g]? = some (tabObj (cs.set j v)) := by
  unfold tabObj at h ⊢
  rw [heap_setCell_same w g j _ _ _ h]
  congr 2
  simp [List.map_set]

set_option maxRecDepth 100000 in
set_option maxHeartbeats 2000000 in
theorem On_calls (a : Nat) (s : ByteArray) (w : World) (ha : a < 4294967296) (hs : s.size ≤ 562949953421312) :
    Calls Try.prog 53 #[.int .u32 a, .string s] w fun e w' => e = .returned (.int .u32 (Crc.sumOn a (bytesN s) : Nat)) ∧ Below w.heap.size w w' := by
  have hz : (zeroValue 108).run Try.prog w = .ok (.agg tabArr) w := by kernel_rfl
  have h0 : (w.alloc (.cells tabArr 108)).heap[w.heap.size]? = some (tabObj (tabAt 0)) := heap_alloc_new _ _
  have H0 := Aside0.mk h0
  clear h0
  have HB0 := Aside0.mk ((Below.refl w.heap.size w).alloc (Nat.le_refl _) (.cells tabArr 108))
  go_enter Try.func53, Try.ntmps53
  go_wp2_with fail
  clear hz
  go_loopw [10] (fun i wr => ∃ k : Nat, k ≤ 16 ∧ i = .int .i64 k ∧ Aside0 (wr.heap[w.heap.size]? = some (tabObj (tabAt k))) ∧ Aside0 (Below w.heap.size w wr)) (fun i _ => 16 - (intOf i).toNat)
  case atStart => exact ⟨0, by omega, rfl, H0, HB0⟩
  case round =>
    clear H0 HB0
    obtain ⟨k, hk, rfl, HT, HB⟩ := hrel
    by_cases hlt : k < 16
    · go_wp2_with fail
      go_loop [7, 15] (fun c j => ∃ n : Nat, n ≤ 4 ∧ j = .int .i64 n ∧ c = .int .u32 ((Crc.stepN n k : Nat) : Int)) (fun _ j => 4 - (intOf j).toNat)
      case atStart => exact ⟨0, by omega, rfl, rfl⟩
      case round =>
        obtain ⟨n, hn, rfl, rfl⟩ := hrel
        have hc : Crc.stepN n k < 4294967296 := Crc.stepN_lt n (by omega)
        have hb := Aside0.mk (Crc.bits_step (Crc.stepN n k) hc)
        by_cases hlt2 : n < 4
        · go_wp2
          go_round
          case rel => exact ⟨n + 1, by omega, by go_num, by rw [Crc.stepN_succ', ← hb.out]⟩
          case measure => simp [intOf]; omega
        · obtain rfl : n = 4 := by omega
          have hcell := obj_cell HT.out k
          have hfr := obj_frozen HT.out k
          rw [tabAt_hole k hlt] at hcell
          simp only [Option.map_some] at hcell
          go_wp2
          go_roundw
          case rel => exact ⟨k + 1, by omega, by go_num, ⟨by rw [← tabAt_set k hlt]; exact obj_set HT.out k _⟩, ⟨HB.out.setCell (Nat.le_refl _) _⟩⟩
          case measure => simp [intOf]; omega
    · obtain rfl : k = 16 := by omega
      have hmax := Aside0.mk (u32_xor_nat 4294967295 a (by omega) ha)
      go_wp2_with fail
      go_loop [8, 33] (fun c j => ∃ n : Nat, n ≤ s.size ∧ j = .int .i64 n ∧ c = .int .u32 ((Crc.run (4294967295 ^^^ a) ((bytesN s).take n) : Nat) : Int)) (fun _ j => s.size - (intOf j).toNat)
      case atStart => exact ⟨0, by omega, rfl, by rw [List.take_zero]; exact congrArg (Value.int .u32) hmax.out⟩
      case round =>
        obtain ⟨n, hn, rfl, rfl⟩ := hrel
        have hcl : Crc.run (4294967295 ^^^ a) ((bytesN s).take n) < 4294967296 := Crc.run_lt _ (Crc.xor_lt32 (by omega) ha) (fun b hb => bytesN_lt s b (List.mem_of_mem_take hb))
        by_cases hlt : n < s.size
        · have hst := bytesN_take s n hlt
          have hby : (s[n]).toNat < 256 := (s[n]).toNat_lt
          obtain ⟨c0, hc0⟩ : ∃ c0, c0 = Crc.run (4294967295 ^^^ a) ((bytesN s).take n) := ⟨_, rfl⟩
          obtain ⟨c1, hc1⟩ : ∃ c1, c1 = c0 ^^^ s[n].toNat := ⟨_, rfl⟩
          have hl0 : c0 < 4294967296 := by rw [hc0]; exact hcl
          have hl1 : c1 < 4294967296 := by rw [hc1]; exact Crc.xor_lt32 hl0 (by omega)
          obtain ⟨c2, hc2⟩ : ∃ c2, c2 = Crc.stepN 4 c1 := ⟨_, rfl⟩
          have hl2 : c2 < 4294967296 := by rw [hc2]; exact Crc.stepN_lt 4 hl1
          obtain ⟨c3, hc3⟩ : ∃ c3, c3 = Crc.stepN 4 c2 := ⟨_, rfl⟩
          have hnext : Aside0 (Crc.run (4294967295 ^^^ a) ((bytesN s).take (n + 1)) = c3) := ⟨by rw [hst, Crc.run_snoc, ← hc0, ← hc1, Crc.step8_half, ← hc2, ← hc3]⟩
          have x1 : bits .xor .u32 (c0 : Int) (s[n].toNat : Int) = (c1 : Int) := by rw [hc1]; exact u32_xor_nat c0 _ hl0 (by omega)
          have m1 : bits .and .u32 (c1 : Int) 15 = ((c1 % 16 : Nat) : Int) := by have := u32_and_nat c1 15 hl1 (by omega); rw [nat_mask4] at this; exact this
          have m2 : bits .and .u32 (c2 : Int) 15 = ((c2 % 16 : Nat) : Int) := by have := u32_and_nat c2 15 hl2 (by omega); rw [nat_mask4] at this; exact this
          have tl : ∀ j, Crc.tab.getD j 0 < 4294967296 := by
            intro j
            by_cases h : j < 16
            · have : ∀ j < 16, Crc.tab.getD j 0 < 4294967296 := by decide +kernel
              exact this j h
            · rw [List.getD_eq_getElem?_getD, List.getElem?_eq_none (by rw [tab_len]; omega)]; decide
          have y1 : bits .xor .u32 ((c1 : Int) / 16) ((Crc.tab.getD (c1 % 16) 0 : Nat) : Int) = (c2 : Int) := by
            rw [hc2, Crc.half c1]; exact u32_xor_nat (c1 / 16) _ (by omega) (tl _)
          have y2 : bits .xor .u32 ((c2 : Int) / 16) ((Crc.tab.getD (c2 % 16) 0 : Nat) : Int) = (c3 : Int) := by
            rw [hc3, Crc.half c2]; exact u32_xor_nat (c2 / 16) _ (by omega) (tl _)
          have q1 : wr.cell? ⟨w.heap.size, c1 % 16, none⟩ = some (.int .u32 ((Crc.tab.getD (c1 % 16) 0 : Nat) : Int)) := by rw [obj_cell HT.out, tabAt_full _ (by omega)]; rfl
          have q2 : wr.cell? ⟨w.heap.size, c2 % 16, none⟩ = some (.int .u32 ((Crc.tab.getD (c2 % 16) 0 : Nat) : Int)) := by rw [obj_cell HT.out, tabAt_full _ (by omega)]; rfl
          have b1 : c1 % 16 < 16 := by omega
          have b2 : c2 % 16 < 16 := by omega
          rw [← hc0]
          clear hc0 hc1 hc2 hc3 hst hcl tl hmax
          generalize Crc.tab.getD (c1 % 16) 0 = t1 at y1 q1
          generalize Crc.tab.getD (c2 % 16) 0 = t2 at y2 q2
          go_wp2
          go_round
          case rel => exact ⟨n + 1, by omega, by go_num, by rw [hnext.out]⟩
          case measure => simp [intOf]; omega
        · obtain rfl : n = s.size := by omega
          have hend := Aside0.mk (u32_xor_nat 4294967295 _ (by omega) hcl)
          have hall : (bytesN s).take s.size = bytesN s := List.take_of_length_le (by rw [bytesN_len]; exact Nat.le_refl _)
          rw [hall] at hend ⊢
          clear hall hcl
          go_wp2
          go_ret
          exact ⟨congrArg (fun z => Ending.returned (Value.int .u32 z)) hend.out, HB.out⟩

theorem Sum_calls (s : ByteArray) (w : World) (hs : s.size ≤ 562949953421312) :
    Calls Try.prog 33 #[.string s] w fun e w' => e = .returned (.int .u32 (Crc.sum (bytesN s) : Nat)) ∧ Below w.heap.size w w' := by
  go_enter Try.func33, Try.ntmps33
  go_wp2_with fail
  refine (On_calls 0 s _ (by omega) hs).mono ?_
  rintro e w1 ⟨rfl, hb⟩
  go_wp2_with fail
  go_ret
  exact ⟨rfl, hb⟩
end Go.Proofs.Ytgboppgghidgbaa.My
