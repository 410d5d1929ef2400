/- A Writer in memory, what else lies there staying: Raw, Small, Text, Int, Float. -/
import Derived.Test.YtdjjpgdhnoibkaaWrF
import Derived.Test.YtdjjpgdhnoibkaaWrR
namespace Go.Proofs.Ytdjjpgdhnoibkaa.My
open Go.RowKit Go.Proofs.YtdjjpgdhnoibkaaW.PrintWords Go.Proofs.YtdjjpgdhnoibkaaW.PrintLast Go.Proofs.YtdjjpgdhnoibkaaW.PrintMore Go.Proofs.Ytdjjpgdhnoibkaa
set_option linter.unusedSimpArgs false
set_option linter.unusedVariables false
set_option maxRecDepth 100000
set_option maxHeartbeats 4000000
/-- A number to the base 128. -/
def uv : Nat → Nat → List Int
  | 0, v => [(v : Int)]
  | k + 1, v => if v < 128 then [(v : Int)] else ((v % 128 + 128 : Nat) : Int) :: uv k (v / 128)
theorem or128 : ∀ b : Nat, b < 256 → b ||| 128 = b % 128 + 128 := by decide
theorem Uint_calls (g : Nat) (v : Value) (xs : List Int) (x : Nat) (w0 w : World) (HB0 : Below w0.heap.size w0 w) (h : WS w w0.heap.size g v xs) (hl : xs.length + 20 ≤ 140737488355328) (hx : x < 18446744073709551616) :
    Calls Try.prog 110 #[.pointer (some ⟨g, 0, none⟩), .int .u64 x] w fun e w' => e = .returned (.tuple #[]) ∧ ∃ v', WS w' w0.heap.size g v' (xs ++ uv 10 x) ∧ Below w0.heap.size w0 w' ∧ Moved w w' g v v' := by
  have HS := Aside0.mk h
  have HB := Aside0.mk HB0
  clear h HB0
  go_enter Try.func110, Try.ntmps110
  go_wp2_with fail
  go_loopw [1] (fun i wr => ∃ (k y : Nat) (u : Value) (ys : List Int), k ≤ 10 ∧ y < 128 ^ k ∧ i = .int .u64 (y : Int) ∧ ys.length + k ≤ xs.length + 10 ∧ Aside0 (xs ++ uv 10 x = ys ++ uv k y) ∧ Aside0 (WS wr w0.heap.size g u ys) ∧ Aside0 (Below w0.heap.size w0 wr) ∧ Aside0 (Moved w wr g v u)) (fun i _ => (intOf i).toNat)
  case atStart => exact ⟨10, x, v, xs, by omega, by omega, rfl, by omega, ⟨rfl⟩, HS, HB, ⟨Moved.refl _ _ _⟩⟩
  case round =>
    clear HS HB
    obtain ⟨k, y, u, ys, hk, hy, rfl, hyl, HE, HW, HB, HM⟩ := hrel
    have hy64 : y < 128 ^ 10 := Nat.lt_of_lt_of_le hy (Nat.pow_le_pow_right (by omega) hk)
    obtain ⟨hg0, hblk, hR⟩ := HW.out
    have HO := Aside0.mk hR
    have BK := Aside0.mk hblk
    have hc0 : wr.cell? ⟨g, 0, none⟩ = some u := (blk_cell hblk 0).trans rfl
    obtain ⟨A, c, ev⟩ := Kd.R_slice hR
    subst ev
    clear hblk hR HW
    have hyl2 : ys.length + 1 ≤ 140737488355328 := by omega
    by_cases hlt : 128 ≤ y
    · obtain ⟨k', rfl⟩ : ∃ k', k = k' + 1 := by
        cases k with
        | zero => simp at hy; omega
        | succ k' => exact ⟨k', rfl⟩
      have hy' : y / 128 < 128 ^ k' := by rw [Nat.pow_succ] at hy; omega
      have HE2 : Aside0 (uv (k' + 1) y = ((y % 128 + 128 : Nat) : Int) :: uv k' (y / 128)) := ⟨by rw [uv, if_neg (by omega)]⟩
      clear hy
      have hbyte : Aside0 (Go.bits .or .u8 ((y : Int) % 256) 128 = ((y % 128 + 128 : Nat) : Int)) := ⟨by
        have h1 := u8_or_nat (y % 256) 128 (by omega) (by omega)
        rw [or128 _ (by omega)] at h1
        rw [show ((y : Int) % 256) = ((y % 256 : Nat) : Int) from by omega]
        rw [show y % 128 + 128 = y % 256 % 128 + 128 from by omega]
        exact h1⟩
      go_wp2_with (first | ((with_reducible refine gate_builtin (b := .append) (xs := #[.tmp 12, .tmp 16]) rfl ?_); (try (refine gate_guard (by rfl) ?_; dsimp only)); at_builtin; refine Kd.R_append (Kd.int .u8) (w0 := w0) w0.heap.size rfl (.tmp 12) (.tmp 16) 105 5 (.int .u8 0) 1 rfl Try.underlying105 infoU8 rfl (by decide) (by omega) (.slice A ys.length c) ys (Go.bits .or .u8 ((y : Int) % 256) 128) [.int .u8 (Go.bits .or .u8 ((y : Int) % 256) 128)] (fun _ => True) (fun _ => False) rfl rfl ?aP (fun _ hk => hk.elim) ?aF ?aO ?aB ?aS ?aL ?_; (case aP => exact rfl); (case aB => exact HB.out); (case aF => exact (fun _ _ => trivial)); (case aO => exact HO.out); (case aS => exact (below_size HB.out)); (case aL => omega); intro v1 w1 ho hb hg hat; obtain ⟨A1, c1, e1⟩ := Kd.R_slice ho; subst e1; have BK1 := blk_grown BK.out hg (Kd.R_ne HO.out BK.out (by decide)); have hc1 : w1.cell? ⟨g, 0, none⟩ = some (.slice A ys.length c) := (blk_cell BK1 0).trans rfl; have hf1 := blk_frozen BK1 0))
      rw [hbyte.out] at ho hat
      rw [show ys.length + 1 = (ys ++ [((y % 128 + 128 : Nat) : Int)]).length from by simp]
      refine ⟨⟨k', y / 128, _, ys ++ [((y % 128 + 128 : Nat) : Int)], by omega, hy', rfl, by rw [List.length_append]; simp; omega, ⟨by rw [HE.out, HE2.out]; simp⟩, ⟨WS_step hg0 BK1 ho⟩, ⟨below_set hb hg0⟩, ⟨HM.out.trans (Moved_step hg hat)⟩⟩, ?_⟩
      simp [intOf]
      omega
    · have HE2 : Aside0 (uv k y = [(y : Int)]) := ⟨by cases k with
        | zero => rfl
        | succ k' => rw [uv, if_pos (by omega)]⟩
      clear hy
      go_wp2_with (first | ((with_reducible refine gate_builtin (b := .append) (xs := #[.tmp 26, .tmp 29]) rfl ?_); (try (refine gate_guard (by rfl) ?_; dsimp only)); at_builtin; refine Kd.R_append (Kd.int .u8) (w0 := w0) w0.heap.size rfl (.tmp 26) (.tmp 29) 105 5 (.int .u8 0) 1 rfl Try.underlying105 infoU8 rfl (by decide) (by omega) (.slice A ys.length c) ys (y : Int) [.int .u8 (y : Int)] (fun _ => True) (fun _ => False) rfl rfl ?aP (fun _ hk => hk.elim) ?aF ?aO ?aB ?aS ?aL ?_; (case aP => exact rfl); (case aB => exact HB.out); (case aF => exact (fun _ _ => trivial)); (case aO => exact HO.out); (case aS => exact (below_size HB.out)); (case aL => omega); intro v1 w1 ho hb hg hat; obtain ⟨A1, c1, e1⟩ := Kd.R_slice ho; subst e1; have BK1 := blk_grown BK.out hg (Kd.R_ne HO.out BK.out (by decide)); have hc1 : w1.cell? ⟨g, 0, none⟩ = some (.slice A ys.length c) := (blk_cell BK1 0).trans rfl; have hf1 := blk_frozen BK1 0))
      go_end0
      rw [show ys.length + 1 = (ys ++ [(y : Int)]).length from by simp]
      refine ⟨rfl, _, ?_, below_set hb hg0, HM.out.trans (Moved_step hg hat)⟩
      rw [HE.out, HE2.out]
      exact WS_step hg0 BK1 ho
end Go.Proofs.Ytdjjpgdhnoibkaa.My
namespace Go.Proofs.Ytdjjpgdhnoibkaa.My
open Go.RowKit Go.Proofs.YtdjjpgdhnoibkaaW.PrintWords Go.Proofs.YtdjjpgdhnoibkaaW.PrintLast Go.Proofs.YtdjjpgdhnoibkaaW.PrintMore Go.Proofs.Ytdjjpgdhnoibkaa
set_option linter.unusedSimpArgs false
set_option linter.unusedVariables false
set_option maxRecDepth 100000
set_option maxHeartbeats 4000000
theorem uv_len : ∀ k v, (uv k v).length ≤ k + 1
  | 0, v => by simp [uv]
  | k + 1, v => by
    rw [uv]
    split
    · simp
    · have := uv_len k (v / 128); simp; omega
end Go.Proofs.Ytdjjpgdhnoibkaa.My
namespace Go.Proofs.Ytdjjpgdhnoibkaa.My
open Go.RowKit Go.Proofs.YtdjjpgdhnoibkaaW.PrintWords Go.Proofs.YtdjjpgdhnoibkaaW.PrintLast Go.Proofs.YtdjjpgdhnoibkaaW.PrintMore Go.Proofs.Ytdjjpgdhnoibkaa
set_option linter.unusedSimpArgs false
set_option linter.unusedVariables false
set_option maxRecDepth 100000
set_option maxHeartbeats 4000000
/-- Where the slice lies that an append of a text makes. -/
theorem append_str_at {P : Program} (w : World) (base : Nat) (t u ty e : TypeId) (i : TypeInfo) (ht : P.underlying t = some (.slice e)) (hu : P.underlying u = some .string) (hi : P.info? e = some i) (hz : i.zero = some (.int .u8 0)) (hsize : i.size = 1) (hby : i.bytes = 1) (v : Value) (n : Nat) (xs : List Value) (hown : w.ownsRow base e 1 v n xs) (s : ByteArray) (hbytes : n + s.size ≤ 140737488355328) {v' : Value} {w' : World} (hr : (Builtin.append_ #[t, u] ty #[v, .string s]).run P w = .ok v' w') : v'.ownBlock = v.ownBlock ∨ ∃ b, v'.ownBlock = some b ∧ w.heap.size ≤ b := by
  have hxl : xs.length = n := by simpa using hown.1
  have inj : ∀ {a b : Value} {x y : World}, (Result.ok a x : Result Value) = .ok b y → b = a := by
    intro a b x y h
    injection h with h1 h2
    exact h1.symm
  rcases hown.2 with ⟨rfl, rfl⟩ | ⟨g, cap, cur, rfl, hbg, hg, hnc, hcm, hcs, htake⟩
  · by_cases hm : s.size = 0
    · have hf := Lib.run_firstCells_string (P := P) w 1 s
      rw [hm] at hf
      have h2 : (Builtin.append_ #[t, u] ty #[.slice none 0 0, .string s]).run P w = .ok (.slice none 0 0) w := by
        simp [Builtin.append_, run_underlying ht, run_underlying hu, sizeOf, typeInfo, hi, hsize, Builtin.lenOf, hm, hf]
      obtain rfl := inj (h2.symm.trans hr)
      exact .inl rfl
    · have h2 := run_append_nil_string (P := P) w t u ty e i (.int .u8 0) ht hu hi hz s (by omega) (by omega) (by rw [hby]; omega)
      obtain rfl := inj (h2.symm.trans hr)
      exact .inr ⟨_, rfl, Nat.le_refl _⟩
  · by_cases hroom : n + s.size ≤ cap
    · have hcs' : cur.size = cap := by simpa using hcs
      have h2 := Lib.run_append_room_string (P := P) w t u ty e i ht hu hi hsize g n cap cur hg s hroom (by omega)
      obtain rfl := inj (h2.symm.trans hr)
      exact .inl rfl
    · have holds : ∀ j u, xs[j]? = some u → w.cell? ((⟨g, 0, none⟩ : Addr).add j) = some u := hown.cells (g := g) rfl
      have h2 := Lib.run_append_grow_string (P := P) w t u ty e i (.int .u8 0) ht hu hi hz ⟨g, 0, none⟩ n cap xs (by rw [hsize]; simpa using hxl) holds s (by omega) (by omega) (by rw [hby]; exact growslice_fits (by omega) (by omega))
      obtain rfl := inj (h2.symm.trans hr)
      exact .inr ⟨_, rfl, Nat.le_refl _⟩
section
variable {P : Program} {ops : Array Oper} {rest : List Oper} {o : Oper} {a : Act} {Q : Exit → Act → World → Prop}
theorem my_append_str {w0 W : World} (base : Nat) (hgd : o.guard = none) (s x : Operand) (t u e : TypeId)
    (ho : o.op = .call { callee := .builtin .append, args := #[s, x], argTypes := #[t, u] })
    (ht : P.underlying t = some (.slice e)) (hu : P.underlying u = some .string) (hinfo : (P.info? e).map (fun i => (i.zero, i.size, i.bytes)) = some (some (.int .u8 0), 1, 1))
    (v : Value) (xs : List Int) (y : ByteArray) (hs : a.eval s = v) (hx : a.eval x = .string y)
    (HO : W.ownsRow base e 1 v xs.length (nums .u8 xs)) (HB : Below base w0 W) (hbase : base ≤ W.heap.size) (hl : xs.length + y.size ≤ 140737488355328)
    (h : ∀ v1 w1, w1.ownsRow base e 1 v1 (xs ++ bytesOf y).length (nums .u8 (xs ++ bytesOf y)) → Below base w0 w1 → W.grownBy w1 v.ownBlock → (v1.ownBlock = v.ownBlock ∨ ∃ b, v1.ownBlock = some b ∧ W.heap.size ≤ b) → wpList P ops Q rest (a.put o.dst v1) w1) :
    wpList P ops Q (o :: rest) a W := by
  obtain ⟨i0, hi, hzz⟩ := Option.map_eq_some_iff.1 hinfo
  simp only [Prod.mk.injEq] at hzz
  obtain ⟨hz0, hz1, hz2⟩ := hzz
  refine wpList_plain hgd fun K hK => ?_
  obtain ⟨v1, w1, hr, hown, hg, _⟩ := Lib.run_append_own_string (P := P) W base t u o.type e i0 ht hu hi hz0 hz1 hz2 v xs.length (nums .u8 xs) HO y (by simp only [maxLen]; omega) hl hbase
  have hat := append_str_at W base t u o.type e i0 ht hu hi hz0 hz1 hz2 v xs.length (nums .u8 xs) HO y hl hr
  have hl2 : (xs ++ bytesOf y).length = xs.length + y.size := by rw [List.length_append, bytesOf_length]
  have hc : nums .u8 (xs ++ bytesOf y) = nums .u8 xs ++ Lib.strCells y := by
    rw [nums_append]
    congr 1
    simp [nums, bytesOf, Lib.strCells]
  unfold Oper.wp execOp
  simp only [ho, resolve, invoke, builtin, Sem.run_bind, Sem.run_pure, Result.andThen_ok, List.map_toArray, List.map_cons, List.map_nil, hs, hx, hr]
  exact hK _ _ (h v1 w1 (by rw [hl2, hc]; exact hown) (HB.grown hg hbase (own_base HO)) hg hat)
end
theorem Raw_m (g : Nat) (v : Value) (xs : List Int) (s : ByteArray) (w0 w : World) (HB0 : Below w0.heap.size w0 w) (h : WS w w0.heap.size g v xs) (hl : xs.length + s.size ≤ 140737488355328) :
    Calls Try.prog 111 #[.pointer (some ⟨g, 0, none⟩), .string s] w fun e w' => e = .returned (.tuple #[]) ∧ ∃ v', WS w' w0.heap.size g v' (xs ++ bytesOf s) ∧ Below w0.heap.size w0 w' ∧ Moved w w' g v v' := by
  obtain ⟨hg0, hblk, hR⟩ := h
  have HB := Aside0.mk HB0
  have HO := Aside0.mk hR
  have BK := Aside0.mk hblk
  have hc0 : w.cell? ⟨g, 0, none⟩ = some v := (blk_cell hblk 0).trans rfl
  obtain ⟨A, c, ev⟩ := Kd.R_slice hR
  subst ev
  clear hblk hR HB0
  go_enter Try.func111, Try.ntmps111
  go_wp2_with (first | ((with_reducible refine gate_builtin (b := .append) (xs := #[.tmp 10, .tmp 11]) rfl ?_); (try (refine gate_guard (by rfl) ?_; dsimp only)); at_builtin; refine my_append_str (w0 := w0) w0.heap.size rfl (.tmp 10) (.tmp 11) 105 9 5 rfl Try.underlying105 Try.underlying9 infoU8 (.slice A xs.length c) xs s rfl rfl (Kd.own_of_R HO.out) HB.out (below_size HB.out) hl ?_; intro v1 w1 hown hb hg hat; have ho : Kd.R (Kd.int .u8) 5 w1 w0.heap.size (fun _ => True) v1 (xs ++ bytesOf s) := Kd.R_of_own hown (fun _ _ => trivial); obtain ⟨A1, c1, e1⟩ := Kd.R_slice ho; subst e1; have BK1 := blk_grown BK.out hg (Kd.R_ne HO.out BK.out (by decide)); have hc1 : w1.cell? ⟨g, 0, none⟩ = some (.slice A xs.length c) := (blk_cell BK1 0).trans rfl; have hf1 := blk_frozen BK1 0))
  go_end0
  rw [show xs.length + (bytesOf s).length = (xs ++ bytesOf s).length from by rw [List.length_append]]
  exact ⟨rfl, _, WS_step hg0 BK1 ho, below_set hb hg0, Moved_step hg hat⟩
theorem Text_m (g : Nat) (v : Value) (xs : List Int) (s : ByteArray) (w0 w : World) (HB0 : Below w0.heap.size w0 w) (h : WS w w0.heap.size g v xs) (hl : xs.length + s.size + 20 ≤ 140737488355328) :
    Calls Try.prog 86 #[.pointer (some ⟨g, 0, none⟩), .string s] w fun e w' => e = .returned (.tuple #[]) ∧ ∃ v', WS w' w0.heap.size g v' (xs ++ uv 10 s.size ++ bytesOf s) ∧ Below w0.heap.size w0 w' ∧ Moved w w' g v v' := by
  have hlen := uv_len 10 s.size
  have hw : IntKind.u64.wrap (s.size : Int) = s.size := by rw [IntKind.wrap_u64]; omega
  go_enter Try.func86, Try.ntmps86
  go_wp2_with fail
  refine (Uint_calls g v xs s.size w0 w HB0 h (by omega) (by omega)).mono ?_
  rintro e w1 ⟨rfl, v1, h1, hb1, hm1⟩
  go_wp2_with fail
  refine (Raw_m g v1 _ s w0 w1 hb1 h1 (by rw [List.length_append]; omega)).mono ?_
  rintro e w2 ⟨rfl, v2, h2, hb2, hm2⟩
  go_wp2_with fail
  go_end0
  exact ⟨rfl, v2, h2, hb2, hm1.trans hm2⟩
end Go.Proofs.Ytdjjpgdhnoibkaa.My
