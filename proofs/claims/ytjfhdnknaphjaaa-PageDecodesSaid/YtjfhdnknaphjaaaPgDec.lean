/- page.Decode: the page whose bytes they are, or the refusal. -/
import Derived.Test.YtjfhdnknaphjaaaPgEncC
import Derived.Test.YtjfhdnknaphjaaaTaken
import Derived.Deep.QuietTactic
import Derived.BigQuiet
import Derived.Deep.RegionHeld3
namespace Go.Proofs.Ytjfhdnknaphjaaa.My
open Go.RowKit Go.Proofs.YtjfhdnknaphjaaaW.PrintWords Go.Proofs.Ytjfhdnknaphjaaa

def lenOf (l : List Int) : Nat := beNat ((l.take 12).drop 10)
def serOf (l : List Int) : Nat := beNat (l.take 8)
def kindOf (l : List Int) : Nat := (l.getD 8 0).toNat
def bodyOf (l : List Int) : ByteArray := strOfNums ((l.take (20 + lenOf l)).drop 20)
/-- Is it told again as it was? -/
def again (l : List Int) (number : Nat) : Bool := decide (serOf l ≤ 4611686018427387904 ∧ encL (kindOf l) number (serOf l) (bodyOf l) = l)
def decL (l : List Int) (number : Nat) : Int × Int × Int × ByteArray × Int :=
  if l.length ≠ 1024 then (0, 0, 0, ⟨#[]⟩, 4) else
  if allZero l = true then (0, 0, 0, ⟨#[]⟩, 51) else
  if 996 < lenOf l then (0, 0, 0, ⟨#[]⟩, 50) else
  if again l number = true then (kindOf l, number, serOf l, bodyOf l, 0) else (0, 0, 0, ⟨#[]⟩, 50)
def pgV (r : Int × Int × Int × ByteArray × Int) : Value := .tuple #[.agg #[.int .u8 r.1, .int .u32 r.2.1, .int .u64 r.2.2.1, .string r.2.2.2.1], .int .i64 r.2.2.2.2]
def zeroPage : Value := .agg #[.int .u8 0, .int .u32 0, .int .u64 0, .string ⟨#[]⟩]

set_option maxRecDepth 100000 in
set_option maxHeartbeats 2000000 in
theorem Dec_len (A : Option Addr) (c : Nat) (l : List Int) (number : Nat) (w : World) (hl : l.length ≠ 1024) :
    Calls Try.prog 20 #[.slice A l.length c, .int .u32 number] w fun e w' => e = .returned (pgV (decL l number)) ∧ Below w.heap.size w w' := by
  have hd : decL l number = (0, 0, 0, ⟨#[]⟩, 4) := by unfold decL; rw [if_pos hl]
  rw [hd]
  have ht : ((l.length : Int) != 1024) = true := by rw [bne_iff_ne]; omega
  clear hl hd
  go_enter Try.func20, Try.ntmps20
  go_wp2_with fail
  refine bodyPost_ret (v := .tuple #[.agg #[.int .u8 0, .int .u32 0, .int .u64 0, .string ⟨#[]⟩], .int .i64 4]) (by simp [results, Try.results20, go_sem]) rfl ⟨rfl, ?_⟩
  exact (Below.refl _ _).alloc (Nat.le_refl _) _

set_option maxRecDepth 100000 in
set_option maxHeartbeats 2000000 in
theorem Dec_blank (A : Option Addr) (c : Nat) (l : List Int) (number : Nat) (w : World) (hr : Kd.C (Kd.int .u8) w A l.length l) (hl : l.length = 1024) (hz : allZero l = true) :
    Calls Try.prog 20 #[.slice A l.length c, .int .u32 number] w fun e w' => e = .returned (pgV (decL l number)) ∧ Below w.heap.size w w' := by
  have hd : decL l number = (0, 0, 0, ⟨#[]⟩, 51) := by unfold decL; rw [if_neg (by omega), if_pos hz]
  rw [hd]
  have ht : ((l.length : Int) != 1024) = false := by rw [bne_eq_false_iff_eq]; omega
  have HR := Aside0.mk hr
  clear hl hd hr
  go_enter Try.func20, Try.ntmps20
  go_wp2_with fail
  refine (Blank_calls A c l _ (Kd.C_alloc HR.out _)).mono ?_
  rintro e w1 ⟨rfl, rfl⟩
  go_wp2_with fail
  refine bodyPost_ret (v := .tuple #[.agg #[.int .u8 0, .int .u32 0, .int .u64 0, .string ⟨#[]⟩], .int .i64 51]) (by simp [results, Try.results20, go_sem]) rfl ⟨rfl, ?_⟩
  exact (Below.refl _ _).alloc (Nat.le_refl _) _

theorem lenOf_lt (l : List Int) (hb : Bytes l) (hl : l.length = 1024) : lenOf l < 65536 := by
  have h := beNat_lt _ (bytes_cut hb 10 12)
  have e2 : ((l.take 12).drop 10).length = 2 := by rw [List.length_drop, List.length_take]; omega
  rw [e2] at h; exact h
theorem i64_nat (n : Nat) (h : n < 9223372036854775808) : IntKind.i64.wrap (n : Int) = n := by
  simp [IntKind.wrap, IntKind.bits, IntKind.signed]; omega

set_option maxRecDepth 100000 in
set_option maxHeartbeats 2000000 in
theorem Dec_long (ad : Addr) (c : Nat) (l : List Int) (number : Nat) (w : World) (hr : Kd.C (Kd.int .u8) w (some ad) l.length l) (hc : l.length ≤ c) (hl : l.length = 1024) (hz : allZero l = false) (hb : Bytes l) (hn : 996 < lenOf l) :
    Calls Try.prog 20 #[.slice (some ad) l.length c, .int .u32 number] w fun e w' => e = .returned (pgV (decL l number)) ∧ Below w.heap.size w w' := by
  have hd : decL l number = (0, 0, 0, ⟨#[]⟩, 50) := by unfold decL; rw [if_neg (by omega), if_neg (by rw [hz]; simp), if_pos hn]
  rw [hd]
  have ht : ((l.length : Int) != 1024) = false := by rw [bne_eq_false_iff_eq]; omega
  have hc10 : ¬ c = 10 := by omega
  have hc12 : 12 ≤ c := by omega
  have hlen := lenOf_lt l hb hl
  have HR := Aside0.mk hr
  have HR2 := Aside0.mk (C_cut (lo := 10) (hi := 12) hr (by omega) (by omega))
  have E2 : Aside0 (((l.take 12).drop 10).length = 2) := ⟨by rw [List.length_drop, List.length_take]; omega⟩
  obtain ⟨n, hn'⟩ : ∃ n, n = lenOf l := ⟨_, rfl⟩
  rw [← hn'] at hn hlen
  have HN := Aside0.mk hn'
  have hw64 := i64_nat n (by omega)
  clear hl hd hr hn' hc
  go_enter Try.func20, Try.ntmps20
  go_wp2_with fail
  refine (Blank_calls (some ad) c l _ (Kd.C_alloc HR.out _)).mono ?_
  rintro e w1 ⟨rfl, rfl⟩
  rw [hz]
  go_wp2_with fail
  refine (taken_calls _ 2 _ _ _ E2.out (Kd.C_alloc HR2.out _) (bytes_cut hb 10 12) (by omega)).mono ?_
  rintro e w1 ⟨rfl, rfl⟩
  rw [show beNat ((l.take 12).drop 10) = n from HN.out.symm]
  go_wp2_with fail
  refine bodyPost_ret (v := .tuple #[.agg #[.int .u8 0, .int .u32 0, .int .u64 0, .string ⟨#[]⟩], .int .i64 50]) (by simp [results, Try.results20, go_sem]) rfl ⟨rfl, ?_⟩
  exact (Below.refl _ _).alloc (Nat.le_refl _) _

def zObj : Obj := .cells #[.int .u8 0, .int .u32 0, .int .u64 0, .string ⟨#[]⟩] 33 (0, 0)
def pgBox (l : List Int) (number : Nat) : Obj := .cells #[.int .u8 (kindOf l : Nat), .int .u32 number, .int .u64 (serOf l : Nat), .string (bodyOf l)] 33 (0, 0)
theorem zcells {X : World} {g : Nat} (h : X.heap[g]? = some zObj) :
    (X.cell? ⟨g, 0, none⟩ = some (.int .u8 0) ∧ X.cell? ⟨g, 1, none⟩ = some (.int .u32 0) ∧ X.cell? ⟨g, 2, none⟩ = some (.int .u64 0) ∧ X.cell? ⟨g, 3, none⟩ = some (.string ⟨#[]⟩)) ∧
    X.frozen? ⟨g, 0, none⟩ = false ∧ X.frozen? ⟨g, 1, none⟩ = false ∧ X.frozen? ⟨g, 2, none⟩ = false ∧ X.frozen? ⟨g, 3, none⟩ = false :=
  ⟨⟨cell_of_row X _ 0 _ _ _ h, cell_of_row X _ 1 _ _ _ h, cell_of_row X _ 2 _ _ _ h, cell_of_row X _ 3 _ _ _ h⟩, frozen_of_row X _ 0 _ _ h, frozen_of_row X _ 1 _ _ h, frozen_of_row X _ 2 _ _ h, frozen_of_row X _ 3 _ _ h⟩
/-- Behind the page: where it stands. -/
structure X1 (W : World) (kd number sr : Nat) (bd : ByteArray) (X : World) : Prop where
  box : X.heap[W.heap.size]? = some (.cells #[.int .u8 (kd : Int), .int .u32 (number : Int), .int .u64 (sr : Int), .string bd] 33 (0, 0))
  below : Below W.heap.size W X
  lt : W.heap.size < X.heap.size
theorem X1.start (W : World) (kd number sr : Nat) (bd : ByteArray) : X1 W kd number sr bd ((W.alloc (.cells #[.int .u8 (kd : Int), .int .u32 (number : Int), .int .u64 (sr : Int), .string bd] 33 (0, 0))).drew) where
  box := heap_alloc_new W _
  below := ((Below.refl _ _).alloc (Nat.le_refl _) _).drew
  lt := by show W.heap.size < (W.heap.push _).size; simp
theorem X1.later {W X X' : World} {kd number sr : Nat} {bd : ByteArray} (h : X1 W kd number sr bd X) (hb : Below X.heap.size X X') : X1 W kd number sr bd X' where
  box := (hb.block _ h.lt).trans h.box
  below := below_then h.below (by have := h.lt; omega) hb
  lt := Nat.lt_of_lt_of_le h.lt hb.size
theorem X1.cells {W X : World} {kd number sr : Nat} {bd : ByteArray} (h : X1 W kd number sr bd X) :
    X.cell? ⟨W.heap.size, 0, none⟩ = some (.int .u8 (kd : Int)) ∧ X.cell? ⟨W.heap.size, 1, none⟩ = some (.int .u32 (number : Int)) ∧ X.cell? ⟨W.heap.size, 2, none⟩ = some (.int .u64 (sr : Int)) ∧ X.cell? ⟨W.heap.size, 3, none⟩ = some (.string bd) :=
  ⟨cell_of_row X _ 0 _ _ _ h.box, cell_of_row X _ 1 _ _ _ h.box, cell_of_row X _ 2 _ _ _ h.box, cell_of_row X _ 3 _ _ _ h.box⟩

set_option maxRecDepth 100000 in
set_option maxHeartbeats 2000000 in
theorem Dec_main (ad : Addr) (c : Nat) (l : List Int) (number : Nat) (w : World) (hr : Kd.C (Kd.int .u8) w (some ad) l.length l) (hc : l.length ≤ c) (hl : l.length = 1024) (hz : allZero l = false) (hb : Bytes l) (hn0 : lenOf l ≤ 996)
    (hnum : number < 4294967296) :
    Calls Try.prog 20 #[.slice (some ad) l.length c, .int .u32 number] w fun e w' => e = .returned (pgV (decL l number)) ∧ Below w.heap.size w w' := by
  have ht : ((l.length : Int) != 1024) = false := by rw [bne_eq_false_iff_eq]; omega
  have hc10 : ¬ c = 10 := by omega
  have hc20 : ¬ c = 20 := by omega
  have hc12 : 1024 ≤ c := by omega
  have HR := Aside0.mk hr
  have HR2 := Aside0.mk (C_cut (lo := 10) (hi := 12) hr (by omega) (by omega))
  have E2 : Aside0 (((l.take 12).drop 10).length = 2) := ⟨by rw [List.length_drop, List.length_take]; omega⟩
  have HR8 := Aside0.mk (C_cut (lo := 0) (hi := 8) hr (by omega) (by omega))
  have E8 : Aside0 (((l.take 8).drop 0).length = 8) := ⟨by rw [List.length_drop, List.length_take]; omega⟩
  have HR20 := Aside0.mk (C_cut (lo := 20) (hi := 20 + lenOf l) hr (by omega) (by omega))
  have E20 : Aside0 (((l.take (20 + lenOf l)).drop 20).length = lenOf l) := ⟨by rw [List.length_drop, List.length_take]; omega⟩
  obtain ⟨n, hn'⟩ : ∃ n, n = lenOf l := ⟨_, rfl⟩
  have hn := hn0
  rw [← hn'] at hn
  have HN := Aside0.mk hn'
  have hw64 := i64_nat n (by omega)
  have HL := Aside0.mk hl
  clear hl hr hn' hc
  go_enter Try.func20, Try.ntmps20
  go_wp2_with fail
  refine (Blank_calls (some ad) c l _ (Kd.C_alloc HR.out _)).mono ?_
  rintro e w1 ⟨rfl, rfl⟩
  rw [hz]
  go_wp2_with fail
  refine (taken_calls _ 2 _ _ _ E2.out (Kd.C_alloc HR2.out _) (bytes_cut hb 10 12) (by omega)).mono ?_
  rintro e w1 ⟨rfl, rfl⟩
  rw [show beNat ((l.take 12).drop 10) = n from HN.out.symm]
  go_wp2_with fail
  -- the page
  have hW0 := Aside0.mk (heap_alloc_new w (Obj.cells #[Value.int IntKind.u8 0, Value.int IntKind.u32 0, Value.int IntKind.u64 0, Value.string { data := #[] }] 33))
  have hWb := Aside0.mk ((Below.refl w.heap.size w).alloc (Nat.le_refl _) (Obj.cells #[Value.int IntKind.u8 0, Value.int IntKind.u32 0, Value.int IntKind.u64 0, Value.string { data := #[] }] 33))
  have hWs : (w.alloc (Obj.cells #[Value.int IntKind.u8 0, Value.int IntKind.u32 0, Value.int IntKind.u64 0, Value.string { data := #[] }] 33)).heap.size = w.heap.size + 1 := by show (w.heap.push _).size = _; simp
  have K0 := Aside0.mk (Kd.C_alloc HR.out (Obj.cells #[Value.int IntKind.u8 0, Value.int IntKind.u32 0, Value.int IntKind.u64 0, Value.string { data := #[] }] 33))
  have K8 := Aside0.mk (Kd.C_alloc HR8.out (Obj.cells #[Value.int IntKind.u8 0, Value.int IntKind.u32 0, Value.int IntKind.u64 0, Value.string { data := #[] }] 33))
  have K20 := Aside0.mk (Kd.C_alloc HR20.out (Obj.cells #[Value.int IntKind.u8 0, Value.int IntKind.u32 0, Value.int IntKind.u64 0, Value.string { data := #[] }] 33))
  generalize w.alloc (Obj.cells #[Value.int IntKind.u8 0, Value.int IntKind.u32 0, Value.int IntKind.u64 0, Value.string { data := #[] }] 33) = W at *
  replace hWs := Aside0.mk hWs
  clear HR HR2 HR8 HR20 E2
  have q8 : W.cell? { block := ad.block, off := ad.off + 8 } = some (.int .u8 ((kindOf l : Nat) : Int)) := by
    obtain ⟨ad', e, hcl⟩ := C_cells K0.out (by have := HL.out; omega)
    obtain rfl := Option.some.inj e
    have h8 : 8 < l.length := by have := HL.out; omega
    have h := hcl 8 (.int .u8 l[8]) (by simp [List.getElem?_eq_getElem h8])
    have hx := hb l[8] (List.getElem_mem _)
    have e8 : ((kindOf l : Nat) : Int) = l[8] := by unfold kindOf; rw [List.getD_eq_getElem?_getD, List.getElem?_eq_getElem h8]; simp; omega
    rw [e8]; exact h
  have hcv : ∀ W' : World, Kd.C (Kd.int .u8) W' (some (ad.add 20)) (20 + lenOf l - 20) ((l.take (20 + lenOf l)).drop 20) → (convert 22 9 (.slice (some { block := ad.block, off := ad.off + 20 }) n (c - 20))).run Try.prog W' = .ok (.string (bodyOf l)) W' := by
    intro W' hK
    have h := Kd.C_string (P := Try.prog) (c := c - 20) Try.underlying22 Try.underlying5 Try.underlying9 hK
    have en : 20 + lenOf l - 20 = n := by rw [← HN.out]; omega
    rw [en] at h
    exact h
  have c0 := hcv W K20.out
  have HCV := Aside0.mk hcv
  clear hcv
  obtain ⟨bd, hbd⟩ : ∃ b, b = bodyOf l := ⟨_, rfl⟩
  obtain ⟨sr, hsr⟩ : ∃ b, b = serOf l := ⟨_, rfl⟩
  obtain ⟨kd, hkd⟩ : ∃ b, b = kindOf l := ⟨_, rfl⟩
  rw [← hbd] at c0 HCV
  rw [← hkd] at q8
  have HBD := Aside0.mk hbd
  have HSR := Aside0.mk hsr
  have HKD := Aside0.mk hkd
  clear hbd hsr hkd
  have ht8 : ∀ W' : World, Kd.C (Kd.int .u8) W' (some ad) 8 (l.take 8) → Calls Try.prog 24 #[.slice (some ad) 8 c] W' fun e w' => e = .returned (.int .u64 (sr : Int)) ∧ W' = w' := by
    intro W' h
    have := taken_calls (some ad) 8 c (l.take 8) W' (by have := E8.out; rwa [List.drop_zero] at this) h (bytes_cut hb 0 8) (by omega)
    rw [show beNat (l.take 8) = sr from HSR.out.symm] at this
    exact this
  have HT8 := Aside0.mk ht8
  have K8' : Aside0 (Kd.C (Kd.int .u8) W (some ad) 8 (l.take 8)) := ⟨by have := K8.out; rw [List.drop_zero, Addr.add_zero'] at this; exact this⟩
  clear ht8 K8
  have h8i : (8 : Int) < (l.length : Int) := by have := HL.out; omega
  have h8c : (8 : Int) ≤ (c : Int) := by omega
  have hw20 : IntKind.i64.wrap (20 + (n : Int)) = 20 + (n : Int) := IntWalk.i64_in _ (by omega)
  have hn20 : (20 + (n : Int)).toNat = 20 + n := by omega
  have h20c : 20 + (n : Int) ≤ (c : Int) := by omega
  have hn00 : 0 ≤ 20 + (n : Int) := by omega
  have h20b : (20 : Int) ≤ 20 + (n : Int) := by omega
  have q8d : Aside0 (W.drew.cell? { block := ad.block, off := ad.off + 8 } = some (.int .u8 (kd : Int))) := ⟨q8⟩
  have q8a : Aside0 (∀ O, (W.alloc O).drew.cell? { block := ad.block, off := ad.off + 8 } = some (.int .u8 (kd : Int))) := ⟨fun O => (World.cell?_of_block (w := W) (w' := (W.alloc O).drew) (heap_alloc_old W O (block_lt_of_cell q8))).trans q8⟩
  have v0 : Aside0 ((convert 22 9 (.slice (some { block := ad.block, off := ad.off + 20 }) n (c - 20))).run Try.prog W.drew = .ok (.string bd) W.drew) := ⟨HCV.out _ (Kd.C_drew K20.out)⟩
  have va : Aside0 (∀ O, (convert 22 9 (.slice (some { block := ad.block, off := ad.off + 20 }) n (c - 20))).run Try.prog (W.alloc O).drew = .ok (.string bd) (W.alloc O).drew) := ⟨fun O => HCV.out _ (Kd.C_drew (Kd.C_alloc K20.out O))⟩
  have z0 : Aside0 (Kd.C (Kd.int .u8) W.drew (some ad) 8 (l.take 8)) := ⟨Kd.C_drew K8'.out⟩
  have za : Aside0 (∀ O, Kd.C (Kd.int .u8) (W.alloc O).drew (some ad) 8 (l.take 8)) := ⟨fun O => Kd.C_drew (Kd.C_alloc K8'.out O)⟩
  clear q8 c0
  go_region_held3 (fun W' : World => W'.cell? { block := ad.block, off := ad.off + 8 } = some (.int .u8 (kd : Int)) ∧ (convert 22 9 (.slice (some { block := ad.block, off := ad.off + 20 }) n (c - 20))).run Try.prog W' = .ok (.string bd) W') (first | with_reducible exact ⟨q8d.out, v0.out⟩ | with_reducible exact ⟨q8a.out _, va.out _⟩) (first | (go_at_call 24; refine (HT8.out _ (by first | with_reducible exact z0.out | with_reducible exact za.out _)).mono ?_; rintro e w2 ⟨rfl, rfl⟩))
  all_goals go_wp2_with fail
  all_goals
    have hX : Aside0 (X1 W kd number sr bd ((W.alloc (Obj.cells #[Value.int IntKind.u8 (kd : Int), Value.int IntKind.u32 (number : Int), Value.int IntKind.u64 (sr : Int), Value.string bd] 33)).drew)) := ⟨X1.start W kd number sr bd⟩
    clear q8d q8a v0 va z0 za HT8 K8' HCV K20 h8i h8c hw20 hn20 h20c hn00 h20b hw64
    generalize (W.alloc (Obj.cells #[Value.int IntKind.u8 (kd : Int), Value.int IntKind.u32 (number : Int), Value.int IntKind.u64 (sr : Int), Value.string bd] 33)).drew = X at hX ⊢
    have hsrb : sr < 18446744073709551616 := by
      have h := beNat_lt _ (bytes_cut hb 0 8)
      have e2 : ((l.take 8).drop 0).length = 8 := E8.out
      rw [e2, List.drop_zero] at h
      rw [HSR.out]; exact h
    have hkdb : kd < 256 := by
      have h8 : 8 < l.length := by have := HL.out; omega
      have hx := hb l[8] (List.getElem_mem _)
      rw [HKD.out]; unfold kindOf; rw [List.getD_eq_getElem?_getD, List.getElem?_eq_getElem h8]; simp; omega
    have hbd : bd.size = n := by rw [HBD.out]; unfold bodyOf; rw [bytesN_strOf, E20.out, HN.out]
    have hz0 : Aside0 (X.heap[w.heap.size]? = some zObj) := ⟨(hX.out.below.block _ (by have := hWs.out; omega)).trans hW0.out⟩
    have hKX : Aside0 (Kd.C (Kd.int .u8) X (some ad) l.length l) := ⟨Kd.C_below K0.out hX.out.below⟩
    have hBX : Aside0 (Below w.heap.size w X) := ⟨below_then hWb.out (by have := hWs.out; omega) hX.out.below⟩
    have hlt : Aside0 (w.heap.size < W.heap.size) := ⟨by have := hWs.out; omega⟩
    clear hW0 hWb K0 E8 E20 hn
    have hl0 : l.length = 1024 := HL.out
    by_cases h62 : sr ≤ 4611686018427387904
    · have hen : page_Encode.f (kd : Int) (number : Int) (sr : Int) bd = some (encL kd number sr bd, 0) := by
        unfold page_Encode.f; rw [if_pos ⟨by omega, by omega, by omega, by omega, by omega⟩, if_neg (by omega), if_neg (by omega)]; simp
      have HEN := Aside0.mk hen
      have HL2 : Aside0 ((encL kd number sr bd).length = 1024) := ⟨encL_len _ _ _ _ (by omega)⟩
      have h62' := Aside0.mk h62
      clear hen hl0 hsrb h62
      refine (page_Encode.calls _ _ _ _ _ _ _ HEN.out).mono ?_
      rintro e w3 ⟨v, rfl, hR, hbel⟩
      have h3 := Aside0.mk (hX.out.later hbel)
      have z3 : Aside0 (w3.heap[w.heap.size]? = some zObj) := ⟨(hbel.block _ (by have := hX.out.lt; have := hlt.out; omega)).trans hz0.out⟩
      have b3 : Aside0 (Below w.heap.size w w3) := ⟨below_then hBX.out (by have := hX.out.lt; have := hlt.out; omega) hbel⟩
      have k3 := Aside0.mk (Kd.C_below hKX.out hbel)
      obtain ⟨g, cap, rfl, _, _, _⟩ := Kd.R_form hR (by rw [HL2.out]; omega)
      obtain ⟨_, hcap, hC⟩ := Kd.R_reads' hR
      rw [HL2.out] at hcap hC
      have C3 := Aside0.mk hC
      clear hR hbel hX hz0 hBX hKX hC
      rw [HL2.out]
      obtain ⟨i0, hi0⟩ := info5
      obtain ⟨r1, hr1⟩ : ∃ r, r = encL kd number sr bd := ⟨_, rfl⟩
      rw [← hr1] at C3 HL2
      have HR1 := Aside0.mk hr1
      clear hr1 HEN
      have hl0 : l.length = 1024 := HL.out
      have hl2 : (r1.map (Value.int .u8)).length = 1024 := by rw [List.length_map]; exact HL2.out
      obtain ⟨ad1, e1, hc1⟩ := C_cells C3.out (by omega)
      obtain rfl := Option.some.inj e1
      obtain ⟨ad2, e2, hc2⟩ := C_cells k3.out (by omega)
      obtain rfl := Option.some.inj e2
      have heq := fun nq : Nat => (run_equalIn_ints (P := Try.prog) (w3.drewN nq) 9998 r1 l Try.underlying52 hi0 Try.underlying5 cellsOf5 HL2.out hl0)
      obtain ⟨bq, hbq⟩ : ∃ b, b = decide (r1 = l) := ⟨_, rfl⟩
      rw [← hbq] at heq
      have HBQ := Aside0.mk hbq
      clear hbq
      have hload1 := Aside0.mk fun nq : Nat => run_loadAt_list (P := Try.prog) (w3.drewN nq) ⟨g, 0, none⟩ 52 _ _ hc1 Try.underlying52 rfl (by rw [size52, hl2])
      have hload2 := Aside0.mk fun nq : Nat => run_loadAt_list (P := Try.prog) (w3.drewN nq) ad 52 _ _ hc2 Try.underlying52 rfl (by rw [size52, List.length_map, hl0])
      have hat1 := fun nq : Nat => run_arrayAt (P := Try.prog) (w3.drewN nq) 52 5 1024 Try.underlying52 (some ⟨g, 0, none⟩) 1024 cap (by omega)
      have hat2 := fun nq : Nat => run_arrayAt (P := Try.prog) (w3.drewN nq) 52 5 1024 Try.underlying52 (some ad) l.length c (by omega)
      have hlN : ¬ l.length < 1024 := by omega
      clear hc1 hc2 hl2 hl0 hi0
      go_wp2_with fail
      refine wp_region_quiet_lit (by kernel_rfl) (by kernel_rfl) ?_
      repeat (first | (refine wpQuiet_run (Instr.loadAt 52 (.pointer (some ⟨g, 0, none⟩))) rfl rfl (fun w' hw' => by obtain ⟨nq, rfl⟩ := hw'; exact hload1.out nq) ?_) | (refine wpQuiet_run (Instr.loadAt 52 (.pointer (some ad))) rfl rfl (fun w' hw' => by obtain ⟨nq, rfl⟩ := hw'; exact hload2.out nq) ?_) | quiet_step (fail))
      refine wpQuiet_nil ?_
      rintro _ ⟨nq, rfl⟩
      obtain ⟨⟨o0, o1, o2, o3⟩, f0, f1, f2, f3⟩ := zcells z3.out
      obtain ⟨p0, p1, p2, p3⟩ := h3.out.cells
      clear heq hload1 hload2 hat1 hat2
      have hag : again l number = bq := by
        rw [HBQ.out]; unfold again; rw [HR1.out, HKD.out, HSR.out, HBD.out]
        have h := h62'.out; rw [HSR.out] at h
        simp only [decide_eq_decide]; exact ⟨fun h2 => h2.2, fun h2 => ⟨h, h2⟩⟩
      have hneb : w.heap.size ≠ W.heap.size := by have := hlt.out; omega
      have hneb' : W.heap.size ≠ w.heap.size := fun h => hneb h.symm
      cases bq with
      | true =>
        have hd : Aside0 (decL l number = ((kd : Int), (number : Int), (sr : Int), bd, 0)) := ⟨by unfold decL; rw [if_neg (by rw [HL.out]; omega), if_neg (by rw [hz]; simp), if_neg (by omega), if_pos hag, ← HKD.out, ← HSR.out, ← HBD.out]⟩
        clear hag HL2 C3 HR1
        go_wp2_with fail
        rw [hd.out]
        refine bodyPost_ret (v := .tuple #[.agg #[.int .u8 (kd : Int), .int .u32 (number : Int), .int .u64 (sr : Int), .string bd], .int .i64 0]) (by simp [results, Try.results20, go_sem, o0, o1, o2, o3]) rfl ⟨rfl, ?_⟩
        repeat (first | exact pw_below_drewN b3.out _ | refine RowKit.Below.setCell ?_ (by exact Nat.le_refl _) _)
      | false =>
        have hd : Aside0 (decL l number = (0, 0, 0, ⟨#[]⟩, 50)) := ⟨by unfold decL; rw [if_neg (by rw [HL.out]; omega), if_neg (by rw [hz]; simp), if_neg (by omega), if_neg (by rw [hag]; simp)]⟩
        clear hag HL2 C3 HR1
        go_wp2_with fail
        rw [hd.out]
        refine bodyPost_ret (v := .tuple #[.agg #[.int .u8 0, .int .u32 0, .int .u64 0, .string ⟨#[]⟩], .int .i64 50]) (by simp [results, Try.results20, go_sem, o0, o1, o2, o3]) rfl ⟨rfl, ?_⟩
        repeat (first | exact pw_below_drewN b3.out _ | refine RowKit.Below.setCell ?_ (by exact Nat.le_refl _) _)
    · have hag : again l number = false := by unfold again; rw [decide_eq_false_iff_not]; rintro ⟨h, _⟩; rw [← HSR.out] at h; exact h62 h
      have hd : Aside0 (decL l number = (0, 0, 0, ⟨#[]⟩, 50)) := ⟨by unfold decL; rw [if_neg (by omega), if_neg (by rw [hz]; simp), if_neg (by omega), if_neg (by rw [hag]; simp)]⟩
      have hen : page_Encode.f (kd : Int) (number : Int) (sr : Int) bd = some ([], 1) := by
        unfold page_Encode.f; rw [if_pos ⟨by omega, by omega, by omega, by omega, by omega⟩, if_pos (by omega)]
      have HEN := Aside0.mk hen
      clear hen hag h62 hl0 hsrb
      refine (page_Encode.calls _ _ _ _ _ _ _ HEN.out).mono ?_
      rintro e w3 ⟨v, rfl, hR, hbel⟩
      have h3 := Aside0.mk (hX.out.later hbel)
      have z3 : Aside0 (w3.heap[w.heap.size]? = some zObj) := ⟨(hbel.block _ (by have := hX.out.lt; have := hlt.out; omega)).trans hz0.out⟩
      have b3 : Aside0 (Below w.heap.size w w3) := ⟨below_then hBX.out (by have := hX.out.lt; have := hlt.out; omega) hbel⟩
      clear hR hbel hX hz0 hBX hKX
      go_wp2_with fail
      go_quiet (fail)
      obtain ⟨⟨o0, o1, o2, o3⟩, f0, f1, f2, f3⟩ := zcells z3.out
      go_wp2_with fail
      rw [hd.out]
      refine bodyPost_ret (v := .tuple #[.agg #[.int .u8 0, .int .u32 0, .int .u64 0, .string ⟨#[]⟩], .int .i64 50]) (by simp [results, Try.results20, go_sem, o0, o1, o2, o3]) rfl ⟨rfl, ?_⟩
      repeat (first | exact pw_below_drewN b3.out _ | refine RowKit.Below.setCell ?_ (by exact Nat.le_refl _) _)
end Go.Proofs.Ytjfhdnknaphjaaa.My
