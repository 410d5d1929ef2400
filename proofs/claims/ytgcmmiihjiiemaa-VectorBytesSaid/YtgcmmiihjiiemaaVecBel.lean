/- Below's own closure. -/
import Derived.Test.YtgcmmiihjiiemaaVecWalk
namespace Go.Proofs.Ytgcmmiihjiiemaa.My
open Go.RowKit Go.Proofs.YtgcmmiihjiiemaaW.PrintWords Go.Proofs.YtgcmmiihjiiemaaW.PrintLast Go.Proofs.YtgcmmiihjiiemaaW.PrintMore Go.Proofs.Ytgcmmiihjiiemaa Go.Proofs.Ytgcmmiihjiiemaa.PVectorMax
set_option linter.unusedSimpArgs false
set_option linter.unusedVariables false
set_option maxRecDepth 100000
set_option maxHeartbeats 1600000
/-- The answer that is made: at block g. -/
def BS (w : World) (base g : Nat) (v : Bool) : Prop := base ≤ g ∧ w.heap[g]? = some (.cells #[.bool v] 4 (0, 0))
theorem bsSet {w0 w : World} {g : Nat} {v : Bool} (hb : Below w0.heap.size w0 w) (h : BS w w0.heap.size g v) (u : Bool) : BS (w.setCell ⟨g, 0, none⟩ (.bool u)) w0.heap.size g u ∧ Below w0.heap.size w0 (w.setCell ⟨g, 0, none⟩ (.bool u)) := ⟨⟨h.1, blk_set h.2 0 _⟩, below_set hb h.1⟩
theorem blA {w0 w : World} (g : Nat) (v : Bool) (HB0 : Below w0.heap.size w0 w) (h : BS w w0.heap.size g v) (bx ox : Nat) (x : Dt) (hx : DA w0 bx ox x) (hbx : bx < w0.heap.size) :
    Calls Try.prog 62 #[.pointer (some ⟨bx, ox, none⟩), .pointer none, .pointer (some ⟨g, 0, none⟩)] w fun e w' => e = .returned (.tuple #[]) ∧ BS w' w0.heap.size g false ∧ Below w0.heap.size w0 w' := by
  have hx0 := (HB0.cell (p := ⟨bx, ox, none⟩) hbx).trans hx.1
  have hx1 := (HB0.cell (p := ⟨bx, ox + 1, none⟩) hbx).trans hx.2
  clear hx
  have HB := Aside0.mk HB0
  have BK := Aside0.mk h
  have hc0 : w.cell? ⟨g, 0, none⟩ = some (.bool v) := (blk_cell h.2 0).trans rfl
  have hf0 : w.frozen? ⟨g, 0, none⟩ = false := blk_frozen h.2 0
  clear h HB0
  go_enter Try.func62, Try.ntmps62
  go_wp2_with fail
  go_quiet (fail)
  go_wp2_with fail
  go_end0
  obtain ⟨k1, k2⟩ := bsSet (pw_below_drewN HB.out nq) (show BS (w.drewN nq) w0.heap.size g v from BK.out) false
  exact ⟨rfl, k1, k2⟩
theorem blB {w0 w : World} (g : Nat) (v : Bool) (HB0 : Below w0.heap.size w0 w) (h : BS w w0.heap.size g v) (by_ oy : Nat) (y : Dt) (hy : DA w0 by_ oy y) (hby : by_ < w0.heap.size) :
    Calls Try.prog 62 #[.pointer none, .pointer (some ⟨by_, oy, none⟩), .pointer (some ⟨g, 0, none⟩)] w fun e w' => e = .returned (.tuple #[]) ∧ BS w' w0.heap.size g v ∧ Below w0.heap.size w0 w' := by
  have HB := Aside0.mk HB0
  have BK := Aside0.mk h
  have hc0 : w.cell? ⟨g, 0, none⟩ = some (.bool v) := (blk_cell h.2 0).trans rfl
  have hf0 : w.frozen? ⟨g, 0, none⟩ = false := blk_frozen h.2 0
  clear h HB0
  go_enter Try.func62, Try.ntmps62
  go_wp2_with fail
  go_quiet (fail)
  go_wp2_with fail
  go_end0
  exact ⟨rfl, BK.out, pw_below_drewN HB.out nq⟩
attribute [local go_sem high] eqA35
theorem blC {w0 w : World} (g : Nat) (v : Bool) (HB0 : Below w0.heap.size w0 w) (h : BS w w0.heap.size g v) (bx ox : Nat) (x : Dt) (hx : DA w0 bx ox x) (hbx : bx < w0.heap.size) (by_ oy : Nat) (y : Dt) (hy : DA w0 by_ oy y) (hby : by_ < w0.heap.size) (hxy : y.f1 < x.f1) :
    Calls Try.prog 62 #[.pointer (some ⟨bx, ox, none⟩), .pointer (some ⟨by_, oy, none⟩), .pointer (some ⟨g, 0, none⟩)] w fun e w' => e = .returned (.tuple #[]) ∧ BS w' w0.heap.size g false ∧ Below w0.heap.size w0 w' := by
  have hx0 := (HB0.cell (p := ⟨bx, ox, none⟩) hbx).trans hx.1
  have hx1 := (HB0.cell (p := ⟨bx, ox + 1, none⟩) hbx).trans hx.2
  have hy0 := (HB0.cell (p := ⟨by_, oy, none⟩) hby).trans hy.1
  have hy1 := (HB0.cell (p := ⟨by_, oy + 1, none⟩) hby).trans hy.2
  clear hx hy
  have HB := Aside0.mk HB0
  have BK := Aside0.mk h
  have hc0 : w.cell? ⟨g, 0, none⟩ = some (.bool v) := (blk_cell h.2 0).trans rfl
  have hf0 : w.frozen? ⟨g, 0, none⟩ = false := blk_frozen h.2 0
  clear h HB0
  have hd : decide (y.f1 < x.f1) = true := decide_eq_true hxy
  have he : (x.f1 == y.f1) = false := by rw [beq_eq_false_iff_ne]; omega
  go_enter Try.func62, Try.ntmps62
  go_wp2_with fail
  go_quiet (fail)
  go_wp2_with fail
  go_end0
  obtain ⟨k1, k2⟩ := bsSet (pw_below_drewN HB.out nq) (show BS (w.drewN nq) w0.heap.size g v from BK.out) false
  exact ⟨rfl, k1, k2⟩
theorem blD1 {w0 w : World} (g : Nat) (v : Bool) (HB0 : Below w0.heap.size w0 w) (h : BS w w0.heap.size g v) (bx ox : Nat) (x : Dt) (hx : DA w0 bx ox x) (hbx : bx < w0.heap.size) (by_ oy : Nat) (y : Dt) (hy : DA w0 by_ oy y) (hby : by_ < w0.heap.size) (hxy : ¬ y.f1 < x.f1) (q1 : x.f1 = y.f1) (q0 : x.f0 = y.f0) :
    Calls Try.prog 62 #[.pointer (some ⟨bx, ox, none⟩), .pointer (some ⟨by_, oy, none⟩), .pointer (some ⟨g, 0, none⟩)] w fun e w' => e = .returned (.tuple #[]) ∧ BS w' w0.heap.size g v ∧ Below w0.heap.size w0 w' := by
  have hx0 := (HB0.cell (p := ⟨bx, ox, none⟩) hbx).trans hx.1
  have hx1 := (HB0.cell (p := ⟨bx, ox + 1, none⟩) hbx).trans hx.2
  have hy0 := (HB0.cell (p := ⟨by_, oy, none⟩) hby).trans hy.1
  have hy1 := (HB0.cell (p := ⟨by_, oy + 1, none⟩) hby).trans hy.2
  clear hx hy
  have HB := Aside0.mk HB0
  have BK := Aside0.mk h
  have hc0 : w.cell? ⟨g, 0, none⟩ = some (.bool v) := (blk_cell h.2 0).trans rfl
  have hf0 : w.frozen? ⟨g, 0, none⟩ = false := blk_frozen h.2 0
  clear h HB0
  have hd : decide (y.f1 < x.f1) = false := decide_eq_false hxy
  have he : (x.f1 == y.f1) = true := by rw [beq_iff_eq]; exact q1
  have hg : (x.f0 == y.f0) = true := by rw [beq_iff_eq]; exact q0
  clear q1 q0 hxy
  go_enter Try.func62, Try.ntmps62
  go_wp2_with fail
  go_quiet (fail)
  go_wp2_with fail
  go_end0
  exact ⟨rfl, BK.out, pw_below_drewN HB.out nq⟩
theorem blD2 {w0 w : World} (g : Nat) (v : Bool) (HB0 : Below w0.heap.size w0 w) (h : BS w w0.heap.size g v) (bx ox : Nat) (x : Dt) (hx : DA w0 bx ox x) (hbx : bx < w0.heap.size) (by_ oy : Nat) (y : Dt) (hy : DA w0 by_ oy y) (hby : by_ < w0.heap.size) (hxy : ¬ y.f1 < x.f1) (q1 : x.f1 = y.f1) (q0 : ¬ x.f0 = y.f0) :
    Calls Try.prog 62 #[.pointer (some ⟨bx, ox, none⟩), .pointer (some ⟨by_, oy, none⟩), .pointer (some ⟨g, 0, none⟩)] w fun e w' => e = .returned (.tuple #[]) ∧ BS w' w0.heap.size g v ∧ Below w0.heap.size w0 w' := by
  have hx0 := (HB0.cell (p := ⟨bx, ox, none⟩) hbx).trans hx.1
  have hx1 := (HB0.cell (p := ⟨bx, ox + 1, none⟩) hbx).trans hx.2
  have hy0 := (HB0.cell (p := ⟨by_, oy, none⟩) hby).trans hy.1
  have hy1 := (HB0.cell (p := ⟨by_, oy + 1, none⟩) hby).trans hy.2
  clear hx hy
  have HB := Aside0.mk HB0
  have BK := Aside0.mk h
  have hc0 : w.cell? ⟨g, 0, none⟩ = some (.bool v) := (blk_cell h.2 0).trans rfl
  have hf0 : w.frozen? ⟨g, 0, none⟩ = false := blk_frozen h.2 0
  clear h HB0
  have hd : decide (y.f1 < x.f1) = false := decide_eq_false hxy
  have he : (x.f1 == y.f1) = true := by rw [beq_iff_eq]; exact q1
  have hg : (x.f0 == y.f0) = false := by rw [beq_eq_false_iff_ne]; exact q0
  clear q1 q0 hxy
  go_enter Try.func62, Try.ntmps62
  go_wp2_with fail
  go_quiet (fail)
  go_wp2_with fail
  go_end0
  exact ⟨rfl, BK.out, pw_below_drewN HB.out nq⟩
theorem blD3 {w0 w : World} (g : Nat) (v : Bool) (HB0 : Below w0.heap.size w0 w) (h : BS w w0.heap.size g v) (bx ox : Nat) (x : Dt) (hx : DA w0 bx ox x) (hbx : bx < w0.heap.size) (by_ oy : Nat) (y : Dt) (hy : DA w0 by_ oy y) (hby : by_ < w0.heap.size) (hxy : ¬ y.f1 < x.f1) (q1 : ¬ x.f1 = y.f1) :
    Calls Try.prog 62 #[.pointer (some ⟨bx, ox, none⟩), .pointer (some ⟨by_, oy, none⟩), .pointer (some ⟨g, 0, none⟩)] w fun e w' => e = .returned (.tuple #[]) ∧ BS w' w0.heap.size g v ∧ Below w0.heap.size w0 w' := by
  have hx0 := (HB0.cell (p := ⟨bx, ox, none⟩) hbx).trans hx.1
  have hx1 := (HB0.cell (p := ⟨bx, ox + 1, none⟩) hbx).trans hx.2
  have hy0 := (HB0.cell (p := ⟨by_, oy, none⟩) hby).trans hy.1
  have hy1 := (HB0.cell (p := ⟨by_, oy + 1, none⟩) hby).trans hy.2
  clear hx hy
  have HB := Aside0.mk HB0
  have BK := Aside0.mk h
  have hc0 : w.cell? ⟨g, 0, none⟩ = some (.bool v) := (blk_cell h.2 0).trans rfl
  have hf0 : w.frozen? ⟨g, 0, none⟩ = false := blk_frozen h.2 0
  clear h HB0
  have hd : decide (y.f1 < x.f1) = false := decide_eq_false hxy
  have he : (x.f1 == y.f1) = false := by rw [beq_eq_false_iff_ne]; exact q1
  clear q1 hxy
  go_enter Try.func62, Try.ntmps62
  go_wp2_with fail
  go_quiet (fail)
  go_wp2_with fail
  go_end0
  exact ⟨rfl, BK.out, pw_below_drewN HB.out nq⟩
theorem blD {w0 w : World} (g : Nat) (v : Bool) (HB0 : Below w0.heap.size w0 w) (h : BS w w0.heap.size g v) (bx ox : Nat) (x : Dt) (hx : DA w0 bx ox x) (hbx : bx < w0.heap.size) (by_ oy : Nat) (y : Dt) (hy : DA w0 by_ oy y) (hby : by_ < w0.heap.size) (hxy : ¬ y.f1 < x.f1) :
    Calls Try.prog 62 #[.pointer (some ⟨bx, ox, none⟩), .pointer (some ⟨by_, oy, none⟩), .pointer (some ⟨g, 0, none⟩)] w fun e w' => e = .returned (.tuple #[]) ∧ BS w' w0.heap.size g v ∧ Below w0.heap.size w0 w' := by
  by_cases q1 : x.f1 = y.f1
  · by_cases q0 : x.f0 = y.f0
    · exact blD1 g v HB0 h bx ox x hx hbx by_ oy y hy hby hxy q1 q0
    · exact blD2 g v HB0 h bx ox x hx hbx by_ oy y hy hby hxy q1 q0
  · exact blD3 g v HB0 h bx ox x hx hbx by_ oy y hy hby hxy q1
end Go.Proofs.Ytgcmmiihjiiemaa.My
