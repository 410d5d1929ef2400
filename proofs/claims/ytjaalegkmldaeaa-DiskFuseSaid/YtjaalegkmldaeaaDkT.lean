/- A disk in a law: it stands, whatever is asked. -/
import Derived.Test.YtjaalegkmldaeaaDkD
import Derived.Test.YtjaalegkmldaeaaPAx1
namespace Go.Proofs.Ytjaalegkmldaeaa.My
open Go.RowKit Go.Proofs.YtjaalegkmldaeaaW.PrintWords Go.Proofs.YtjaalegkmldaeaaW.PrintLast Go.Proofs.YtjaalegkmldaeaaW.PrintMore Go.Proofs.Ytjaalegkmldaeaa Go.Maps Go.Proofs.Ytjaalegkmldaeaa.PA
set_option linter.unusedSimpArgs false
set_option linter.unusedVariables false
set_option maxRecDepth 100000
set_option maxHeartbeats 1600000
theorem C_block {k : IntKind} {w w' : World} {ad : Addr} {n : Nat} {xs : List Int} (h : Kd.C (Kd.int k) w (some ad) n xs) (e : w'.heap[ad.block]? = w.heap[ad.block]?) : Kd.C (Kd.int k) w' (some ad) n xs := by
  obtain ⟨h1, h2, h3⟩ := h
  refine ⟨h1, h2, fun hp => ?_⟩
  obtain ⟨a', ha, h4⟩ := h3 hp
  obtain rfl := Option.some.inj ha
  refine ⟨ad, rfl, fun j p hj => ?_⟩
  obtain ⟨c, hl, hK, hc⟩ := h4 j p hj
  refine ⟨c, hl, hK, fun i u hu => ?_⟩
  rw [← hc i u hu]
  refine World.cell?_of_block (w := w) ?_
  have hb : (ad.add (j * (Kd.int k).sz + i)).block = ad.block := by
    unfold Addr.add
    split <;> rfl
  rw [hb]
  exact e
def Stands (w0 w : World) (g : Nat) (d : Dk) : Prop := ∃ own, DiskAt w own g d ∧ (∀ k, own k → w0.heap.size ≤ k) ∧ Below w0.heap.size w0 w
theorem Stands.ok {w0 w : World} {g : Nat} {d : Dk} (h : Stands w0 w g d) : DkOk d := by
  obtain ⟨own, hd, _⟩ := h
  exact hd.ok
theorem Stands.low {w0 w : World} {g : Nat} {d : Dk} (h : Stands w0 w g d) : Below w0.heap.size w0 w := by
  obtain ⟨own, _, _, hb⟩ := h
  exact hb
theorem Stands.below {w0 w w2 : World} {g : Nat} {d : Dk} (h : Stands w0 w g d) (hb : Below w.heap.size w w2) : Stands w0 w2 g d := by
  obtain ⟨own, hd, ho, hl⟩ := h
  exact ⟨own, hd.below hb, ho, below_then hl (below_size hl) hb⟩
theorem Stands.turned {w0 w w' : World} {own : Nat → Prop} {g : Nat} {d' : Dk} (ho : ∀ k, own k → w0.heap.size ≤ k) (hl : Below w0.heap.size w0 w) (ht : Turned own w w' g d') : Stands w0 w' g d' := by
  obtain ⟨own', h1, hd, hm⟩ := ht
  refine ⟨own', hd, fun k hk => ?_, hl.trans (hm.below ho hl.size)⟩
  rcases h1 k hk with h | h
  · exact ho k h
  · exact Nat.le_trans hl.size h
theorem stands_new (w0 w : World) (hl : Below w0.heap.size w0 w) (m : Nat) (h : 1 ≤ m ∧ m ≤ 4096) :
    Calls Try.prog 11 #[.int .i64 (m : Int)] w fun e w' => ∃ g, e = .returned (.tuple #[.pointer (some ⟨g, 0, none⟩), .int .i64 0]) ∧ Stands w0 w' g (newD (List.replicate m blank)) := by
  refine (new_ok w m h).mono ?_
  rintro e w' ⟨rfl, hs, hd, hb⟩
  exact ⟨_, rfl, _, hd, fun k hk => Nat.le_trans hl.size hk.1, below_then hl (below_size hl) hb⟩
theorem stands_write {w0 w w2 : World} {g : Nat} {d : Dk} (h : Stands w0 w g d) (hb : Below w.heap.size w w2) (n : Int) (ad : Addr) (c : Nat) (s : ByteArray) (had : w.heap.size ≤ ad.block) (hlt : ad.block < w2.heap.size) (hC : Kd.C (Kd.int .u8) w2 (some ad) s.size (bytesOf s)) (hroom : d.pend.length < 2199023255552) :
    Calls Try.prog 13 #[.pointer (some ⟨g, 0, none⟩), .int .i64 n, .slice (some ad) s.size c] w2 fun e w' => e = .returned (.int .i64 (writeV d n s).2) ∧ Stands w0 w' g (writeV d n s).1 := by
  obtain ⟨own, hd, ho, hl⟩ := h
  refine (write_calls w2 own g d (hd.below hb) n (some ad) c s (fun w' hk => C_block hC (hk.2 ad.block hlt (fun hh => absurd (hd.lt _ hh) (by omega)))) hroom).mono ?_
  rintro e w' ⟨rfl, ht⟩
  exact ⟨rfl, Stands.turned ho (below_then hl (below_size hl) hb) ht⟩
theorem stands_sync {w0 w : World} {g : Nat} {d : Dk} (h : Stands w0 w g d) :
    Calls Try.prog 14 #[.pointer (some ⟨g, 0, none⟩)] w fun e w' => e = .returned (.int .i64 (syncV d).2) ∧ Stands w0 w' g (syncV d).1 := by
  obtain ⟨own, hd, ho, hl⟩ := h
  refine (sync_calls w own g d hd).mono ?_
  rintro e w' ⟨rfl, ht⟩
  exact ⟨rfl, Stands.turned ho hl ht⟩
theorem stands_pending {w0 w : World} {g : Nat} {d : Dk} (h : Stands w0 w g d) :
    Calls Try.prog 20 #[.pointer (some ⟨g, 0, none⟩)] w fun e w' => e = .returned (.int .i64 (d.pend.length : Int)) ∧ w' = w := by
  obtain ⟨own, hd, ho, hl⟩ := h
  exact pending_calls w own g d hd
theorem stands_lit {w0 w : World} {g : Nat} {d : Dk} (h : Stands w0 w g d) :
    Calls Try.prog 21 #[.pointer (some ⟨g, 0, none⟩)] w fun e w' => e = .returned (.bool (!d.off)) ∧ w' = w := by
  obtain ⟨own, hd, ho, hl⟩ := h
  exact lit_calls w own g d hd
theorem stands_fuse {w0 w : World} {g : Nat} {d : Dk} (h : Stands w0 w g d) (n : Int) (hn : (Lit.int .i64 n).wf = true) :
    Calls Try.prog 17 #[.pointer (some ⟨g, 0, none⟩), .int .i64 n] w fun e w' => e = .returned (.tuple #[]) ∧ Stands w0 w' g (fuseV d n) := by
  obtain ⟨own, hd, ho, hl⟩ := h
  refine (fuse_calls w own g d hd n hn).mono ?_
  rintro e w' ⟨rfl, h1, h2⟩
  exact ⟨rfl, Stands.turned ho hl (Turned.same h1 h2)⟩
theorem stands_read {w0 w : World} {g : Nat} {d : Dk} (h : Stands w0 w g d) (n : Int) (hn : (Lit.int .i64 n).wf = true) :
    Calls Try.prog 18 #[.pointer (some ⟨g, 0, none⟩), .int .i64 n] w fun e w' => ∃ v, e = .returned (.tuple #[v, .int .i64 (readV d n).2]) ∧ Kd.R (Kd.int .u8) 5 w' w.heap.size (fun _ => True) v (bytesOf (readV d n).1) ∧ Below w.heap.size w w' := by
  obtain ⟨own, hd, ho, hl⟩ := h
  exact read_calls w own g d hd n hn
theorem stands_durable {w0 w : World} {g : Nat} {d : Dk} (h : Stands w0 w g d) :
    Calls Try.prog 16 #[.pointer (some ⟨g, 0, none⟩)] w fun e w' => ∃ v, e = .returned v ∧ Kd.R Kd.string 9 w' w.heap.size (fun _ => True) v d.lies ∧ Below w.heap.size w w' := by
  obtain ⟨own, hd, ho, hl⟩ := h
  exact durable_calls w own g d hd
/-- A page of one byte. -/
def pgc (c : Nat) : ByteArray := strOfNums (List.replicate 1024 (c : Int))
theorem pgc_size (c : Nat) : (pgc c).size = 1024 := by
  unfold pgc
  rw [strOfNums_size, List.length_replicate]
theorem pgc_bytes (c : Nat) (h : c < 256) : bytesOf (pgc c) = List.replicate 1024 (c : Int) := by
  unfold pgc bytesOf
  rw [strOfNums_data, List.map_map, List.map_replicate]
  congr 1
  show ((UInt8.ofNat ((c : Int).toNat)).toNat : Int) = c
  rw [Int.toNat_natCast, UInt8.toNat_ofNat', Nat.mod_eq_of_lt h]
theorem pgc_zero : pgc 0 = blank := by
  have e : bytesOf blank = List.replicate 1024 ((0 : Nat) : Int) := by
    unfold bytesOf blank
    rw [Array.toList_replicate, List.map_replicate]
    rfl
  rw [← str_bytes blank, e]
  rfl
theorem page_l0 (c : Int) : ∀ (n i k : Nat) (l : List Int), i + n = 1024 → n + 1 ≤ k → l.length = 1024 → l.take i = List.replicate i c → concordlaw04_page.l0 k c l (i : Int) = some (List.replicate 1024 c)
  | 0, i, k, l, hi, hk, hl, hp => by
    obtain ⟨k, rfl⟩ : ∃ j, k = j + 1 := ⟨k - 1, by omega⟩
    rw [concordlaw04_page.l0, if_neg (by omega)]
    have : i = 1024 := by omega
    rw [this, List.take_of_length_le (by omega)] at hp
    rw [hp]
  | n + 1, i, k, l, hi, hk, hl, hp => by
    obtain ⟨k, rfl⟩ : ∃ j, k = j + 1 := ⟨k - 1, by omega⟩
    rw [concordlaw04_page.l0, if_pos (by omega), if_pos (by omega), if_pos (by omega), Int.toNat_natCast]
    have w1 : wrap64 ((i : Int) + 1) = ((i + 1 : Nat) : Int) := by unfold wrap64; omega
    rw [w1]
    refine page_l0 c n (i + 1) k (l.set i c) (by omega) (by omega) (by rw [List.length_set]; exact hl) ?_
    rw [List.take_succ_eq_append_getElem (by rw [List.length_set]; omega), List.getElem_set_self, List.take_set_of_le (Nat.le_refl _), hp]
    exact List.replicate_succ'.symm
theorem page_f (c : Int) : concordlaw04_page.f 1100 c = some (List.replicate 1024 c) := by
  unfold concordlaw04_page.f
  rw [if_pos (by decide)]
  exact page_l0 c 1024 0 1100 _ (by decide) (by decide) List.length_replicate rfl
theorem page_calls (c : Nat) (h : c < 256) (w : World) : Calls Try.prog 27 #[.int .u8 (c : Int)] w fun e w' => ∃ (ad : Addr) (cp : Nat), e = .returned (.slice (some ad) 1024 cp) ∧ w.heap.size ≤ ad.block ∧ ad.block < w'.heap.size ∧ Kd.C (Kd.int .u8) w' (some ad) (pgc c).size (bytesOf (pgc c)) ∧ Below w.heap.size w w' := by
  refine (concordlaw04_page.calls 1100 (c : Int) _ w (page_f c)).mono ?_
  rintro e w' ⟨v, rfl, hr, hb⟩
  obtain ⟨A, cp, rfl⟩ := Kd.R_slice hr
  have hc := (Kd.R_reads' hr).2.2
  have h0 := (Kd.R_bound hr).1
  rw [List.length_replicate] at hc h0 ⊢
  obtain ⟨ad, rfl, _⟩ := hc.2.2 (by decide)
  obtain ⟨_, h1, h2, _⟩ := h0 ad.block rfl
  rw [← pgc_bytes c h] at hc
  exact ⟨ad, cp, rfl, h1, h2, by rw [pgc_size]; exact hc, hb⟩
end Go.Proofs.Ytjaalegkmldaeaa.My
