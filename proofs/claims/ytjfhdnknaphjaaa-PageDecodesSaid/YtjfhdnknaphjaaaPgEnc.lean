/- page.Encode: a page's bytes, or the refusal. -/
import Derived.Test.YtjfhdnknaphjaaaWireOn
import Derived.Test.YtjfhdnknaphjaaaPgBlank
import Derived.Test.YtjfhdnknaphjaaaPut
import Derived.Test.YtjfhdnknaphjaaaWWords
import Derived.KernelRfl
import Derived.WalkKit
import Derived.WalkLawsBesides
import Derived.StillTailTactics
import Derived.Deep.RegionWith
import Derived.Deep.QuietTactic
import Derived.BigQuiet
import Derived.BigRegion
import Derived.Deep.DeepCutAuto
namespace Go.Proofs.Ytjfhdnknaphjaaa.My
open Go.RowKit Go.Proofs.YtjfhdnknaphjaaaW.PrintWords Go.Proofs.Ytjfhdnknaphjaaa

def boxObj (kind number serial : Nat) (body : ByteArray) : Obj := .cells #[.int .u8 kind, .int .u32 number, .int .u64 serial, .string body] 33 (0, 0)
theorem made_bytes (n : Nat) : madeCells (Value.int .u8 0).cells (n * 1) = ((List.replicate n (0 : Int)).map (Value.int .u8)).toArray := by
  have h := toList_madeCells_one (Value.int .u8 0) n
  rw [Nat.mul_one]
  show madeCells #[Value.int .u8 0] n = _
  apply Array.toList_inj.1
  rw [h]; simp
theorem info5all : (Try.prog.info? 5).map (fun i => (i.zero, i.size, i.bytes)) = some (some (.int .u8 0), 1, 1) := by kernel_rfl
theorem make_bytes (w : World) (n : Nat) (hn : n ≤ 281474976710656) : (Instr.makeSlice 22 (.int .i64 n) (.int .i64 n)).run Try.prog w = .ok (.slice (some ⟨w.heap.size, 0, none⟩) n n) (w.alloc (bobj (List.replicate n 0))) := by
  obtain ⟨i0, hi, hzz⟩ := Option.map_eq_some_iff.1 info5all
  simp only [Prod.mk.injEq] at hzz
  obtain ⟨hz0, hz1, hz2⟩ := hzz
  have h := run_make (P := Try.prog) w 22 5 i0 _ Try.underlying22 hi hz0 .i64 .i64 (n : Int) n (by omega) (Int.le_refl _) (by rw [hz2]; omega) (by omega)
  rw [hz1] at h
  simp only [Int.toNat_natCast] at h
  rw [made_bytes] at h
  exact h
theorem make1024 (w : World) : (Instr.makeSlice 22 (.int .i64 1024) (.int .i64 1024)).run Try.prog w = .ok (.slice (some ⟨w.heap.size, 0, none⟩) 1024 1024) (w.alloc (bobj zs)) := make_bytes w 1024 (by omega)
/-- Where the page stands, where its bytes stand. -/
structure St (w : World) (kind number serial : Nat) (body : ByteArray) (l : List Int) (wr : World) : Prop where
  box : wr.heap[w.heap.size]? = some (boxObj kind number serial body)
  row : wr.heap[w.heap.size + 1]? = some (bobj l)
  len : l.length = 1024
  below : Below w.heap.size w wr
  size : w.heap.size + 1 < wr.heap.size
theorem St.start (w : World) (kind number serial : Nat) (body : ByteArray) : St w kind number serial body zs ((w.alloc (boxObj kind number serial body)).alloc (bobj zs)) where
  box := by
    rw [heap_alloc_old _ _ (by show w.heap.size < (w.heap.push _).size; simp)]
    exact heap_alloc_new _ _
  row := by
    have := heap_alloc_new (w.alloc (boxObj kind number serial body)) (bobj zs)
    have e : (w.alloc (boxObj kind number serial body)).heap.size = w.heap.size + 1 := by show (w.heap.push _).size = _; simp
    rwa [e] at this
  len := zs_len
  below := ((Below.refl _ _).alloc (Nat.le_refl _) _).alloc (by simp) _
  size := by show _ < ((w.heap.push _).push _).size; simp
theorem St.cells {w wr : World} {kind number serial : Nat} {body : ByteArray} {l : List Int} (h : St w kind number serial body l wr) :
    wr.cell? ⟨w.heap.size, 0, none⟩ = some (.int .u8 kind) ∧ wr.cell? ⟨w.heap.size, 1, none⟩ = some (.int .u32 number) ∧ wr.cell? ⟨w.heap.size, 2, none⟩ = some (.int .u64 serial) ∧ wr.cell? ⟨w.heap.size, 3, none⟩ = some (.string body) :=
  ⟨cell_of_row wr _ 0 _ _ _ h.box, cell_of_row wr _ 1 _ _ _ h.box, cell_of_row wr _ 2 _ _ _ h.box, cell_of_row wr _ 3 _ _ _ h.box⟩
theorem St.put {w wr w' : World} {kind number serial : Nat} {body : ByteArray} {l l' : List Int} (h : St w kind number serial body l wr) (hr : w'.heap[w.heap.size + 1]? = some (bobj l')) (hl : l'.length = 1024) (hg : wr.grownBy w' (some (w.heap.size + 1))) :
    St w kind number serial body l' w' where
  box := (hg.block _ (by have := h.size; omega) (by simp)).trans h.box
  row := hr
  len := hl
  below := h.below.grown hg (by have := h.size; omega) (by intro k hk; simp at hk; omega)
  size := Nat.lt_of_lt_of_le h.size hg.size
theorem St.later {w wr w' : World} {kind number serial : Nat} {body : ByteArray} {l : List Int} (h : St w kind number serial body l wr) (hb : Below wr.heap.size wr w') : St w kind number serial body l w' where
  box := (hb.block _ (by have := h.size; omega)).trans h.box
  row := (hb.block _ h.size).trans h.row
  len := h.len
  below := below_then h.below (by have := h.size; omega) hb
  size := Nat.lt_of_lt_of_le h.size hb.size
theorem St.drew {w wr : World} {kind number serial : Nat} {body : ByteArray} {l : List Int} (h : St w kind number serial body l wr) : St w kind number serial body l wr.drew where
  box := h.box
  row := h.row
  len := h.len
  below := h.below.drew
  size := h.size

def intsOf (s : ByteArray) : List Int := s.data.toList.map fun x => (x.toNat : Int)
theorem intsOf_len (s : ByteArray) : (intsOf s).length = s.size := by unfold intsOf; rw [List.length_map, Array.length_toList]; rfl
/-- What lies in a row is written over from place o on. -/
def over (l : List Int) (o : Nat) (m : List Int) : List Int := l.take o ++ m ++ l.drop (o + m.length)
theorem over_len (l : List Int) (o : Nat) (m : List Int) (h : o + m.length ≤ l.length) : (over l o m).length = l.length := by simp [over]; omega
theorem copy_str (w : World) (g o dLen dCap : Nat) (s : ByteArray) (l : List Int) (hg : w.heap[g]? = some (bobj l)) (hle : s.size ≤ dLen) (hfit : o + s.size ≤ l.length) (ty : TypeId) :
    ∃ w', (Builtin.copy_ #[22, 9] ty #[.slice (some ⟨g, o, none⟩) dLen dCap, .string s]).run Try.prog w = .ok (goInt s.size) w' ∧ w'.heap[g]? = some (bobj (over l o (intsOf s))) ∧ w.grownBy w' (some g) := by
  have hlen : ((intsOf s).map (Value.int .u8)).length = s.size := by rw [List.length_map, intsOf_len]
  have hg' : w.heap[g]? = some (.cells (l.map (Value.int .u8)).toArray 5 (0, 0)) := hg
  have hst := run_storeCells_at Try.prog g o 5 ((intsOf s).map (Value.int .u8)) 0 _ w hg' (by rw [hlen]; simpa using hfit) (by
    intro v hv
    obtain ⟨x, _, rfl⟩ := List.mem_map.1 hv
    rfl)
  have hmin : Nat.min s.size dLen = s.size := Nat.min_eq_left hle
  have hcs : List.map (fun b : UInt8 => Value.int IntKind.u8 (b.toNat : Int)) s.data.toList = (intsOf s).map (Value.int .u8) := by unfold intsOf; rw [List.map_map]; rfl
  rw [hlen] at hst
  simp only [Nat.add_zero] at hst
  obtain ⟨i0, hi, hzz⟩ := Option.map_eq_some_iff.1 info5all
  simp only [Prod.mk.injEq] at hzz
  refine ⟨w.setRow g ((l.map (Value.int .u8)).take o ++ (intsOf s).map (Value.int .u8) ++ (l.map (Value.int .u8)).drop (o + s.size)).toArray, ?_, ?_, ?_⟩
  · simp [Builtin.copy_, run_underlying Try.underlying22, Builtin.lenOf, Builtin.firstCells, sizeOf, typeInfo, hi, hmin]
    rw [hcs, List.take_of_length_le (by rw [hlen]; exact Nat.le_refl _), hst]
    simp [Result.andThen]
  · refine (setRow_heap w g _ _ 5 _ hg').trans ?_
    unfold bobj over
    rw [intsOf_len, List.map_append, List.map_append, List.map_take, List.map_drop]
  · exact ⟨rfl, rfl, rfl, by simp, fun k _ hne => setRow_other w g k _ (fun e => hne (by rw [e]))⟩
theorem bytes_string {w : World} {g : Nat} {l : List Int} (h : w.heap[g]? = some (bobj l)) (n cap : Nat) (hn : l.length = n) : (convert 22 9 (.slice (some ⟨g, 0, none⟩) n cap)).run Try.prog w = .ok (.string (strOfNums l)) w := by
  refine run_convert_bytes_arg w 22 5 Try.underlying22 Try.underlying5 g 0 n cap l hn (fun i hi => ?_) 9 Try.underlying9
  rw [bobj_cell h, Nat.zero_add, List.getElem?_eq_getElem (by omega), List.getD_eq_getElem?_getD, List.getElem?_eq_getElem (by omega)]
  rfl

/-- All but the sum. -/
def encB (kind number serial : Nat) (body : ByteArray) : List Int :=
  over (over (over (over ((over zs 0 (be 8 serial)).set 8 (kind : Int)) 10 (be 2 body.size)) 12 (be 4 number)) 20 (intsOf body)) 1016 (be 8 serial)
def encL (kind number serial : Nat) (body : ByteArray) : List Int :=
  over (encB kind number serial body) 16 (be 4 (Crc.sum (bytesN (strOfNums (encB kind number serial body)))))
theorem bytesN_strOf (l : List Int) : (strOfNums l).size = l.length := by
  show (strOfNums l).data.size = _
  simp [strOfNums]
theorem u64_nat (n : Nat) (h : n < 18446744073709551616) : IntKind.u64.wrap (n : Int) = n := by
  simp [IntKind.wrap, IntKind.bits, IntKind.signed]; omega

set_option maxRecDepth 100000 in
set_option maxHeartbeats 2000000 in
theorem Enc_ok (kind number serial : Nat) (body : ByteArray) (w : World) (_hk : kind < 256) (hn : number < 4294967296) (hs : serial ≤ 4611686018427387904) (hb : body.size ≤ 996) :
    Calls Try.prog 17 #[.agg #[.int .u8 kind, .int .u32 number, .int .u64 serial, .string body]] w fun e w' => ∃ v0_ : Value, e = .returned (.tuple #[v0_, .int .i64 0]) ∧ (∃ g, v0_ = .slice (some ⟨g, 0, none⟩) 1024 1024 ∧ w.heap.size ≤ g ∧ w'.heap[g]? = some (bobj (encL kind number serial body))) ∧ Below w.heap.size w w' := by
  have hmk := make1024
  have hst := Aside0.mk (St.start w kind number serial body)
  go_enter Try.func17, Try.ntmps17
  go_wp2_with fail
  clear hmk
  -- the serial
  refine (put_calls _ _ _ _ zs _ 8 _ hst.out.row (by omega) (by rw [zs_len]; omega) (by omega) (by omega)).mono ?_
  rintro e w1 ⟨rfl, hr, hg⟩
  have h1 := Aside0.mk (hst.out.put (l' := over zs 0 (be 8 serial)) (by rw [over, be_len]; exact hr) (by rw [over_len _ _ _ (by rw [be_len, zs_len]; omega), zs_len]) hg)
  clear hr hg hst
  generalize q1 : over zs 0 (be 8 serial) = l1 at h1
  replace q1 := Aside0.mk q1
  obtain ⟨c0, c1, c2, c3⟩ := h1.out.cells
  have r8 := bobj_cell h1.out.row 8
  have f8 := bobj_frozen h1.out.row 8
  rw [List.getElem?_eq_getElem (by rw [h1.out.len]; omega)] at r8
  simp only [Option.map_some] at r8
  go_wp2_with fail
  -- the kind
  have h2 := Aside0.mk (h1.out.put (bobj_set h1.out.row 8 kind) (by rw [List.length_set]; exact h1.out.len) (grownBy_setCell _ _ _ _))
  generalize (w1.setCell ⟨w.heap.size + 1, 8, none⟩ (.int .u8 (kind : Int))) = W at h2 ⊢
  clear h1 r8 f8 c0 c1 c2 c3
  generalize q2 : l1.set 8 (kind : Int) = l2 at h2
  replace q2 := Aside0.mk q2
  obtain ⟨c0, c1, c2, c3⟩ := h2.out.drew.cells
  refine wp_region_still_tail 6 (by kernel_rfl) (by kernel_rfl) ?_
  simp only [List.take_succ_cons, List.take_zero, List.drop_succ_cons, List.drop_zero]
  change wpStill _ _ W.drew _ _ _
  repeat still_step
  refine wpStill_nil ?_
  change wpList _ _ _ _ _ W.drew
  have h3 := Aside0.mk h2.out.drew
  generalize W.drew = W2 at h3 c0 c1 c2 c3 ⊢
  clear h2
  go_wp2_with fail
  rw [u64_nat body.size (by omega)]
  -- how long the body is
  refine (put_calls _ _ _ _ _ body.size 2 _ h3.out.row (by omega) (by rw [h3.out.len]; omega) (by omega) (by omega)).mono ?_
  rintro e w2 ⟨rfl, hr, hg⟩
  have h4 := Aside0.mk (h3.out.put (l' := over l2 10 (be 2 body.size)) (by rw [over, be_len]; exact hr) (by rw [over_len _ _ _ (by rw [be_len, h3.out.len]; omega), h3.out.len]) hg)
  clear hr hg h3 c0 c1 c2 c3 W2
  generalize q3 : over l2 10 (be 2 body.size) = l3 at h4
  replace q3 := Aside0.mk q3
  go_wp2_with fail
  -- the number
  obtain ⟨c0, c1, c2, c3⟩ := h4.out.drew.cells
  refine wp_region_still_tail 5 (by kernel_rfl) (by kernel_rfl) ?_
  simp only [List.take_succ_cons, List.take_zero, List.drop_succ_cons, List.drop_zero]
  change wpStill _ _ w2.drew _ _ _
  repeat still_step
  refine wpStill_nil ?_
  change wpList _ _ _ _ _ w2.drew
  have h5 := Aside0.mk h4.out.drew
  generalize w2.drew = W3 at h5 c0 c1 c2 c3 ⊢
  clear h4
  go_wp2_with fail
  refine (put_calls _ _ _ _ _ number 4 _ h5.out.row (by omega) (by rw [h5.out.len]; omega) (by omega) (by omega)).mono ?_
  rintro e w3 ⟨rfl, hr, hg⟩
  have h6 := Aside0.mk (h5.out.put (l' := over l3 12 (be 4 number)) (by rw [over, be_len]; exact hr) (by rw [over_len _ _ _ (by rw [be_len, h5.out.len]; omega), h5.out.len]) hg)
  clear hr hg h5 c0 c1 c2 c3 W3
  generalize q4 : over l3 12 (be 4 number) = l4 at h6
  replace q4 := Aside0.mk q4
  go_wp2_with fail
  -- the body
  obtain ⟨c0, c1, c2, c3⟩ := h6.out.drew.cells
  refine wp_region_still_tail 4 (by kernel_rfl) (by kernel_rfl) ?_
  simp only [List.take_succ_cons, List.take_zero, List.drop_succ_cons, List.drop_zero]
  change wpStill _ _ w3.drew _ _ _
  repeat still_step
  refine wpStill_nil ?_
  change wpList _ _ _ _ _ w3.drew
  have h7 := Aside0.mk h6.out.drew
  generalize w3.drew = W4 at h7 c0 c1 c2 c3 ⊢
  clear h6
  obtain ⟨w4, hcp, hr, hg⟩ := copy_str W4 (w.heap.size + 1) 20 1004 1004 body l4 h7.out.row (by omega) (by rw [h7.out.len]; omega) 3
  have h8 := Aside0.mk (h7.out.put hr (by rw [over_len _ _ _ (by rw [intsOf_len, h7.out.len]; omega), h7.out.len]) hg)
  clear hr hg h7 c0 c1 c2 c3
  generalize q5 : over l4 20 (intsOf body) = l5 at h8
  replace q5 := Aside0.mk q5
  go_wp2_with fail
  -- the serial once more
  obtain ⟨c0, c1, c2, c3⟩ := h8.out.drew.cells
  refine wp_region_still_tail 4 (by kernel_rfl) (by kernel_rfl) ?_
  simp only [List.take_succ_cons, List.take_zero, List.drop_succ_cons, List.drop_zero]
  change wpStill _ _ w4.drew _ _ _
  repeat still_step
  refine wpStill_nil ?_
  change wpList _ _ _ _ _ w4.drew
  have h9 := Aside0.mk h8.out.drew
  generalize w4.drew = W5 at h9 c0 c1 c2 c3 ⊢
  clear h8 hcp
  go_wp2_with fail
  refine (put_calls _ _ _ _ _ serial 8 _ h9.out.row (by omega) (by rw [h9.out.len]; omega) (by omega) (by omega)).mono ?_
  rintro e w5 ⟨rfl, hr, hg⟩
  have h10 := Aside0.mk (h9.out.put (l' := over l5 1016 (be 8 serial)) (by rw [over, be_len]; exact hr) (by rw [over_len _ _ _ (by rw [be_len, h9.out.len]; omega), h9.out.len]) hg)
  clear hr hg h9 c0 c1 c2 c3 W5
  generalize q6 : over l5 1016 (be 8 serial) = l6 at h10
  replace q6 := Aside0.mk q6
  go_wp2_with fail
  -- the sum
  have hcv := bytes_string h10.out.drew.row 1024 1024 h10.out.len
  have hsz : (strOfNums l6).size ≤ 140737488351232 := by rw [bytesN_strOf, h10.out.len]; omega
  obtain ⟨sm, hsm⟩ : ∃ s, s = strOfNums l6 := ⟨_, rfl⟩
  rw [← hsm] at hcv hsz
  have hsl : Crc.sum (bytesN sm) < 4294967296 := Crc.sumOn_lt _ (by omega) (bytesN_lt sm)
  obtain ⟨su, hsu⟩ : ∃ s, s = Crc.sum (bytesN sm) := ⟨_, rfl⟩
  rw [← hsu] at hsl
  have hcs : ∀ W, Calls Try.prog 29 #[.string sm] W fun e w' => e = .returned (.int .u32 su) ∧ Below W.heap.size W w' := fun W => by rw [hsu]; exact Sum_calls sm W hsz
  have HCS := Aside0.mk hcs
  have hw64 := u64_nat su (by omega)
  have HS := Aside0.mk hsm
  have HU := Aside0.mk hsu
  clear hsm hsu hcs
  go_region_with (first | (go_at_call 29; refine (HCS.out _).mono ?_; rintro e w6 ⟨rfl, hb⟩; have h11 := Aside0.mk (h10.out.drew.later hb); clear hb h10) | (go_at_call 28; refine (put_calls _ _ _ _ _ su 4 _ h11.out.row (by omega) (by rw [h11.out.len]; omega) (by omega) (by omega)).mono ?_; rintro e w7 ⟨rfl, hr, hg⟩; have h12 := Aside0.mk (h11.out.put (l' := over l6 16 (be 4 su)) (by rw [over, be_len]; exact hr) (by rw [over_len _ _ _ (by rw [be_len, h11.out.len]; omega), h11.out.len]) hg); clear hr hg h11))
  all_goals
    go_wp2_with fail
    go_ret2
    refine ⟨_, rfl, ⟨_, rfl, by omega, ?_⟩, h12.out.below⟩
    rw [encL, encB, q1.out, q2.out, q3.out, q4.out, q5.out, q6.out, ← HS.out, ← HU.out]
    exact h12.out.row
end Go.Proofs.Ytjfhdnknaphjaaa.My
