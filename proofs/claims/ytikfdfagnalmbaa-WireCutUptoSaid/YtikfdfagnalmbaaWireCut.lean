/- WireCut. -/
import Derived.Test.YtikfdfagnalmbaaWireBack
namespace Go.Proofs.Ytikfdfagnalmbaa.My
open Go.RowKit Go.Proofs.YtikfdfagnalmbaaW.PrintWords Go.Proofs.YtikfdfagnalmbaaW.PrintLast Go.Proofs.YtikfdfagnalmbaaW.PrintMore Go.Proofs.Ytikfdfagnalmbaa
set_option linter.unusedSimpArgs false
set_option linter.unusedVariables false
set_option maxRecDepth 100000
set_option maxHeartbeats 1600000
def CutI (w0 wr : World) (v : Value) (ys : List Item) : Prop := WS wr w0.heap.size w0.heap.size v (ys.flatMap Item.out) ∧ Below w0.heap.size w0 wr
/-- The reader of what was cut: all up to here was there, or it was short. -/
def Cut2 (w0 wr : World) (gr : Nat) (T : ByteArray) (ys : List Item) (p : Nat) (e : Int) : Prop := RS wr gr T p e ∧ p ≤ T.size ∧ ((e = 0 ∧ p = (ys.flatMap Item.outN).length) ∨ e = 10) ∧ Below w0.heap.size w0 wr ∧ w0.heap.size ≤ gr
theorem cut_facts (S : ByteArray) (c : Int) (h0 : 0 ≤ c) (h1 : c < S.size) : natsOf (S.extract 0 c.toNat) = (natsOf S).take c.toNat ∧ (S.extract 0 c.toNat).size < S.size := by
  constructor
  · rw [natsOf_extract, List.drop_zero, Nat.sub_zero]
  · rw [ByteArray.size_extract]; omega
theorem cut_step (T S : ByteArray) (ys zs : List Item) (x : Item) (rest : List Item) (p : Nat) (e : Int) (hx : x.Ok) (hf : x.fits = true) (hys : ys = zs ++ x :: rest) (hS : natsOf S = ys.flatMap Item.outN) {c : Nat} (hT : natsOf T = (natsOf S).take c) (hp : p ≤ T.size) (hpe : (e = 0 ∧ p = (zs.flatMap Item.outN).length) ∨ e = 10) :
    ∃ (bb : Bool) (q : Nat) (f : Int), x.bk T p e = (bb, q, f) ∧ q ≤ T.size ∧ ((f = 0 ∧ q = ((zs ++ [x]).flatMap Item.outN).length) ∨ f = 10) ∧ (bb = true ∨ f = 10) := by
  rcases hpe with ⟨rfl, rfl⟩ | rfl
  · have hfl : ys.flatMap Item.outN = zs.flatMap Item.outN ++ (x.outN ++ rest.flatMap Item.outN) := by rw [hys, List.flatMap_append, List.flatMap_cons]
    have hfx : (zs ++ [x]).flatMap Item.outN = zs.flatMap Item.outN ++ x.outN := by rw [List.flatMap_append, List.flatMap_singleton]
    rw [hS, hfl] at hT
    rw [hfx]
    generalize zs.flatMap Item.outN = P at *
    generalize rest.flatMap Item.outN = R at *
    have hc : (natsOf T).length = T.size := natsOf_len T
    rw [hT, List.length_take] at hc
    by_cases hfit : P.length + x.outN.length ≤ c
    · have h2 : natsOf T = P ++ (x.outN ++ R.take (c - P.length - x.outN.length)) := by
        rw [hT, List.take_append, List.take_of_length_le (by omega), List.take_append, List.take_of_length_le (by omega)]
      have hl := congrArg List.length h2
      rw [natsOf_len, List.length_append, List.length_append] at hl
      exact ⟨true, _, 0, bk_ok x hx hf P _ T h2, by omega, .inl ⟨rfl, by rw [List.length_append]⟩, .inl rfl⟩
    · have hpc : P.length ≤ c := by omega
      have h2 : natsOf T = P ++ x.outN.take (c - P.length) := by
        rw [hT, List.take_append, List.take_of_length_le (by omega), List.take_append, show c - P.length - x.outN.length = 0 by omega, List.take_zero, List.append_nil]
      have hr : x.outN.drop (c - P.length) ≠ [] := by
        intro h
        have := congrArg List.length h
        rw [List.length_drop] at this
        simp at this
        omega
      have h3 := bk_cut x hx hf P _ _ T h2 (List.take_append_drop _ _).symm hr
      exact ⟨(x.bk T P.length 0).1, P.length, 10, Prod.ext rfl h3, by omega, .inr rfl, .inr rfl⟩
  · have h3 := bk_err x T p 10 (by decide)
    exact ⟨(x.bk T p 10).1, p, 10, Prod.ext rfl h3, hp, .inr rfl, .inr rfl⟩
theorem WireCut_walk (w : World) (a : Option Addr) (cap : Nat) (xs : List Item) (hcap : xs.length ≤ cap) (hC : kItem.C w a xs.length xs) (hok : ∀ x ∈ xs, x.Ok) (hsum : (xs.map (fun x => 6 + x.s.size)).sum ≤ 1048576) (n : Int) (hn : (Lit.int .i64 n).wf = true) : Calls Try.prog 11 #[.slice a xs.length cap, .int .i64 n] w fun e w' => e = .returned (.bool true) ∧ Below w.heap.size w w' := by
  have hn2 := wf64 hn
  go_enter Try.func11, Try.ntmps11
  go_wp2_with fail
  refine (works_calls w).mono ?_
  rintro e w0 ⟨rfl, hb0⟩
  go_wp2_with fail
  refine (newWriterW _).mono ?_
  rintro e w1 ⟨rfl, hw1⟩
  have hs1 : WS w1 w0.heap.size w0.heap.size (.slice none 0 0) [] := by rw [hw1]; exact WS_new w0 _ (Nat.le_refl _)
  have hb1 : Below w0.heap.size w0 w1 := by rw [hw1]; exact (Below.refl _ _).alloc (Nat.le_refl _) _
  clear hw1
  go_wp2_with fail
  have HI : Aside0 (CutI w0 w1 (.slice none 0 0) []) := ⟨⟨hs1, hb1⟩⟩
  have HC := Aside0.mk hC
  have HO := Aside0.mk hok
  have HS := Aside0.mk hsum
  have HB0 := Aside0.mk hb0
  have hxl : xs.length ≤ 1048576 := Nat.le_trans (sum_len xs) hsum
  clear hs1 hb1 hC hok hsum hb0
  go_loopw [6] (fun i wr => ∃ (k : Nat) (v : Value), k ≤ xs.length ∧ i = .int .i64 k ∧ Aside0 (CutI w0 wr v ((xs.take k).filter Item.fits))) (fun i _ => xs.length - (intOf i).toNat)
  case atStart => exact ⟨0, .slice none 0 0, Nat.zero_le _, rfl, HI⟩
  case round =>
    clear HI
    obtain ⟨k, v, hk, rfl, HI⟩ := hrel
    by_cases hlt : k < xs.length
    · have hxk : xs[k]? = some xs[k] := List.getElem?_eq_getElem hlt
      have hx : xs[k].Ok := HO.out _ (List.getElem_mem hlt)
      have hxs : xs[k].s.size ≤ 1048576 := by have h1 := sum_mem (fun x => 6 + x.s.size) (List.getElem_mem hlt); have h2 := HS.out; omega
      have hts : xs.take (k + 1) = xs.take k ++ [xs[k]] := List.take_succ_eq_append_getElem hlt
      have hsz : (((xs.take k).filter Item.fits).flatMap Item.out).length ≤ 4194304 := by
        have h1 := out_sum ((xs.take k).filter Item.fits)
        have h2 := sum_filter (fun x => 6 + x.s.size) Item.fits (xs.take k)
        have h3 := sum_take (fun x => 6 + x.s.size) k xs
        have h4 := HS.out
        omega
      obtain ⟨b, o, rfl⟩ := item_addr HC.out k hlt
      generalize xs[k] = x at *
      have HT := Aside0.mk hts
      have HX := Aside0.mk hxk
      clear hts hxk
      obtain ⟨ys, hys⟩ : ∃ ys, ys = (xs.take k).filter Item.fits := ⟨_, rfl⟩
      rw [← hys] at HI hsz
      have HY := Aside0.mk hys
      clear hys
      have HF := fits_calls x hx wr
      obtain ⟨c0, c1, c2, c3, c4⟩ := item_at (Kd.C_below HC.out (below_then HB0.out (below_size HB0.out) HI.out.2)) k x HX.out
      cases hf : x.fits with
      | false =>
        rw [hf] at HF
        have hst : (xs.take (k + 1)).filter Item.fits = ys := by rw [HT.out, List.filter_append, HY.out, List.filter_cons_of_neg (by rw [hf]; decide), List.filter_nil, List.append_nil]
        have HN := Aside0.mk hst
        clear hst hf
        have HFF := Aside0.mk HF
        clear HF
        go_wp2_with fail
        refine HFF.out.mono ?_
        rintro e w2 ⟨rfl, hb2⟩
        have HI2 : Aside0 (CutI w0 w2 v ys) := ⟨⟨⟨HI.out.1.1, blk_below HI.out.1.2.1 hb2, Kd.R_below HI.out.1.2.2 hb2⟩, below_then HI.out.2 (below_size HI.out.2) hb2⟩⟩
        clear HI HFF hb2
        go_wp2_with fail
        go_roundw
        case rel => exact ⟨k + 1, v, by omega, by go_num, by rw [HN.out]; exact HI2⟩
        case measure => simp [intOf]; omega
      | true =>
        rw [hf] at HF
        have hst : (xs.take (k + 1)).filter Item.fits = ys ++ [x] := by rw [HT.out, List.filter_append, HY.out, List.filter_cons_of_pos hf, List.filter_nil]
        have HN := Aside0.mk hst
        clear hst hf
        have HFF := Aside0.mk HF
        clear HF
        go_wp2_with fail
        refine HFF.out.mono ?_
        rintro e w2 ⟨rfl, hb2⟩
        have HI2 : Aside0 (CutI w0 w2 v ys) := ⟨⟨⟨HI.out.1.1, blk_below HI.out.1.2.1 hb2, Kd.R_below HI.out.1.2.2 hb2⟩, below_then HI.out.2 (below_size HI.out.2) hb2⟩⟩
        clear HI HFF hb2 c0 c1 c2 c3 c4
        obtain ⟨c0, c1, c2, c3, c4⟩ := item_at (Kd.C_below HC.out (below_then HB0.out (below_size HB0.out) HI2.out.2)) k x HX.out
        go_wp2_with fail
        refine (put_calls x hx w0.heap.size v _ w0 w2 HI2.out.2 HI2.out.1 (by omega)).mono ?_
        rintro e w3 ⟨rfl, v3, hs3, hb3, hm3⟩
        have HI3 : Aside0 (CutI w0 w3 v3 (ys ++ [x])) := ⟨⟨by rw [List.flatMap_append, List.flatMap_singleton]; exact hs3, hb3⟩⟩
        clear HI2 hm3 hs3 hb3 c0 c1 c2 c3 c4
        go_wp2_with fail
        go_roundw
        case rel => exact ⟨k + 1, v3, by omega, by go_num, by rw [HN.out]; exact HI3⟩
        case measure => simp [intOf]; omega
    · obtain rfl : k = xs.length := by omega
      rw [List.take_length] at HI
      clear hlt hk
      obtain ⟨ys, hys⟩ : ∃ ys, ys = xs.filter Item.fits := ⟨_, rfl⟩
      rw [← hys] at HI
      have hsz : (ys.flatMap Item.out).length ≤ 4194304 := by
        have h1 := out_sum ys
        have h2 := sum_filter (fun x => 6 + x.s.size) Item.fits xs
        have h4 := HS.out
        rw [← hys] at h2
        omega
      have hyo : ∀ y ∈ ys, y.Ok ∧ y.fits = true := fun y hy => by
        rw [hys] at hy
        have := List.mem_filter.1 hy
        exact ⟨HO.out y this.1, this.2⟩
      have hna : natsOf (strOfNums (ys.flatMap Item.out)) = ys.flatMap Item.outN := flat_nats ys (fun y hy => (hyo y hy).1)
      have hss : (strOfNums (ys.flatMap Item.out)).size = (ys.flatMap Item.out).length := str_size _
      have HYS := Aside0.mk hys
      have HNA := Aside0.mk hna
      have HSS := Aside0.mk hss
      clear hyo hna hss hys
      obtain ⟨hs, hb⟩ := HI.out
      have SS := Aside0.mk hs
      have B := Aside0.mk hb
      clear HI hs hb
      go_wp2_with fail
      refine (Told_calls _ _ _ _ _ SS.out).mono ?_
      rintro e w2 ⟨rfl, rfl⟩
      generalize strOfNums (ys.flatMap Item.out) = S at HNA HSS ⊢
      have hss := HSS.out
      rw [← hss] at hsz
      clear hss HSS SS
      by_cases h0 : S.size = 0
      · go_wp2_with fail
        go_ret
        exact ⟨rfl, below_then HB0.out (below_size HB0.out) B.out⟩
      · obtain ⟨z, hz⟩ : ∃ z, z = Int.tmod n S.size := ⟨_, rfl⟩
        have hz1 : z < S.size := by rw [hz]; exact Int.tmod_lt_of_pos _ (by omega)
        have hz2 : -(S.size : Int) < z := by rw [hz]; exact Int.lt_tmod_of_pos _ (by omega)
        obtain ⟨T1, hT1⟩ : ∃ T, S.extract 0 (n.tmod ↑S.size).toNat = T := ⟨_, rfl⟩
        obtain ⟨T2, hT2⟩ : ∃ T, S.extract 0 (n.tmod ↑S.size + ↑S.size).toNat = T := ⟨_, rfl⟩
        have H1 := Aside0.mk hT1
        have H2 := Aside0.mk hT2
        clear hT1 hT2
        go_wp2_with fail
        all_goals
          have hzn : z = n.tmod ↑S.size := hz
          first
            | (rw [H2.out]; have hTc := cut_facts S (n.tmod ↑S.size + ↑S.size) (by omega) (by omega); rw [H2.out] at hTc; clear H1 H2; generalize T2 = T at hTc ⊢)
            | (rw [H1.out]; have hTc := cut_facts S (n.tmod ↑S.size) (by omega) (by omega); rw [H1.out] at hTc; clear H1 H2; generalize T1 = T at hTc ⊢)
          clear hz hz1 hz2 hzn
          obtain ⟨ht1, ht2⟩ := hTc
          refine (newReader T wr).mono ?_
          rintro e w2 ⟨rfl, hw2⟩
          have HI2 : Aside0 (Cut2 w0 w2 wr.heap.size T [] 0 0) := by
            rw [hw2]
            exact ⟨⟨W_push _ _ _ _, Nat.zero_le _, .inl ⟨rfl, rfl⟩, B.out.alloc (below_size B.out) _, below_size B.out⟩⟩
          have HT1 := Aside0.mk ht1
          clear hw2 B ht1
          generalize wr.heap.size = gr at HI2 ⊢
          go_wp2_with fail
          go_loopw [4, 9] (fun _ i wr => ∃ (k p : Nat) (e : Int), k ≤ xs.length ∧ i = .int .i64 k ∧ Aside0 (Cut2 w0 wr gr T ((xs.take k).filter Item.fits) p e)) (fun _ i _ => xs.length - (intOf i).toNat)
          case atStart => exact ⟨0, 0, 0, Nat.zero_le _, rfl, HI2⟩
          case round =>
            clear HI2
            obtain ⟨k, p, e, hk, rfl, HI⟩ := hrel
            by_cases hlt : k < xs.length
            · have hxk : xs[k]? = some xs[k] := List.getElem?_eq_getElem hlt
              have hx : xs[k].Ok := HO.out _ (List.getElem_mem hlt)
              have hts : xs.take (k + 1) = xs.take k ++ [xs[k]] := List.take_succ_eq_append_getElem hlt
              have hsp : xs = xs.take k ++ (xs[k] :: xs.drop (k + 1)) := by rw [← List.drop_eq_getElem_cons hlt, List.take_append_drop]
              obtain ⟨b, o, rfl⟩ := item_addr HC.out k hlt
              generalize xs[k] = x at *
              have HT := Aside0.mk hts
              have HX := Aside0.mk hxk
              clear hts hxk
              obtain ⟨zs, hzs⟩ : ∃ zs, zs = (xs.take k).filter Item.fits := ⟨_, rfl⟩
              rw [← hzs] at HI
              have hys : ys = zs ++ (if x.fits then x :: (xs.drop (k + 1)).filter Item.fits else (xs.drop (k + 1)).filter Item.fits) := by
                rw [HYS.out]
                conv => lhs; rw [hsp]
                rw [List.filter_append, ← hzs, List.filter_cons]
              have HZ := Aside0.mk hzs
              clear hzs hsp
              have HF := fits_calls x hx wr
              obtain ⟨c0, c1, c2, c3, c4⟩ := item_at (Kd.C_below HC.out (below_then HB0.out (below_size HB0.out) HI.out.2.2.2.1)) k x HX.out
              cases hf : x.fits with
              | false =>
                rw [hf] at HF
                have hst : (xs.take (k + 1)).filter Item.fits = zs := by rw [HT.out, List.filter_append, ← HZ.out, List.filter_cons_of_neg (by rw [hf]; decide), List.filter_nil, List.append_nil]
                have HN := Aside0.mk hst
                clear hst hf hys
                have HFF := Aside0.mk HF
                clear HF
                go_wp2_with fail
                refine HFF.out.mono ?_
                rintro e_ w3 ⟨rfl, hb3⟩
                have HI3 : Aside0 (Cut2 w0 w3 gr T zs p e) := ⟨⟨blk_below HI.out.1 hb3, HI.out.2.1, HI.out.2.2.1, below_then HI.out.2.2.2.1 (below_size HI.out.2.2.2.1) hb3, HI.out.2.2.2.2⟩⟩
                clear HI HFF hb3
                go_wp2_with fail
                go_roundw
                case rel => exact ⟨k + 1, p, e, by omega, by go_num, by rw [HN.out]; exact HI3⟩
                case measure => simp [intOf]; omega
              | true =>
                rw [hf] at HF
                rw [if_pos hf] at hys
                have hst : (xs.take (k + 1)).filter Item.fits = zs ++ [x] := by rw [HT.out, List.filter_append, ← HZ.out, List.filter_cons_of_pos hf, List.filter_nil]
                have HN := Aside0.mk hst
                obtain ⟨bb, q, f, hbq, hq, hqf, hef⟩ : ∃ (bb : Bool) (q : Nat) (f : Int), x.bk T p e = (bb, q, f) ∧ q ≤ T.size ∧ ((f = 0 ∧ q = ((zs ++ [x]).flatMap Item.outN).length) ∨ f = 10) ∧ (bb = true ∨ f = 10) :=
                  cut_step T S ys zs x _ p e hx hf hys HNA.out HT1.out HI.out.2.1 HI.out.2.2.1
                have hbk : ∀ W : World, RS W gr T p e → Calls Try.prog 45 #[.pointer (some ⟨gr, 0, none⟩), x.val] W fun r w' => r = .returned (.bool bb) ∧ RS w' gr T q f ∧ Alone1 W w' gr := fun W h => by
                  have h1 := back_calls x hx hf gr T p e W h HI.out.2.1 (by omega)
                  rw [hbq] at h1
                  exact h1
                have HBK := Aside0.mk hbk
                clear hst hf hys hbq hbk
                have HFF := Aside0.mk HF
                clear HF
                have HQF := Aside0.mk hqf
                clear hqf
                go_wp2_with fail
                refine HFF.out.mono ?_
                rintro e_ w3 ⟨rfl, hb3⟩
                have HI3 : Aside0 (Cut2 w0 w3 gr T zs p e) := ⟨⟨blk_below HI.out.1 hb3, HI.out.2.1, HI.out.2.2.1, below_then HI.out.2.2.2.1 (below_size HI.out.2.2.2.1) hb3, HI.out.2.2.2.2⟩⟩
                clear HI HFF hb3 c0 c1 c2 c3 c4
                obtain ⟨c0, c1, c2, c3, c4⟩ := item_at (Kd.C_below HC.out (below_then HB0.out (below_size HB0.out) HI3.out.2.2.2.1)) k x HX.out
                go_wp2_with fail
                refine (HBK.out _ HI3.out.1).mono ?_
                rintro e_ w4 ⟨rfl, hr4, ha4⟩
                have HI4 : Aside0 (Cut2 w0 w4 gr T (zs ++ [x]) q f) := ⟨⟨hr4, hq, HQF.out, below_alone1 HI3.out.2.2.2.1 ha4 HI3.out.2.2.2.2 (below_size HI3.out.2.2.2.1), HI3.out.2.2.2.2⟩⟩
                clear HI3 HBK HQF ha4 c0 c1 c2 c3 c4 hr4
                cases bb with
                | true =>
                  clear hef
                  go_wp2_with fail
                  go_roundw
                  case rel => exact ⟨k + 1, q, f, by omega, by go_num, by rw [HN.out]; exact HI4⟩
                  case measure => simp [intOf]; omega
                | false =>
                  obtain rfl : f = 10 := hef.elim (fun h => by cases h) id
                  clear hef
                  go_wp2_with fail
                  refine (Err_calls HI4.out.1).mono ?_
                  rintro e_ w5 ⟨rfl, rfl⟩
                  go_wp2_with fail
                  go_roundw
                  case rel => exact ⟨k + 1, q, 10, by omega, by go_num, by rw [HN.out]; exact HI4⟩
                  case measure => simp [intOf]; omega
            · obtain rfl : k = xs.length := by omega
              rw [List.take_length, ← HYS.out] at HI
              obtain ⟨hr, hp, hpe, hb, _⟩ := HI.out
              have he10 : e = 10 := by
                rcases hpe with ⟨_, hpl⟩ | h
                · have := congrArg List.length HNA.out
                  rw [natsOf_len] at this
                  omega
                · exact h
              subst he10
              clear HI hpe hp
              go_wp2_with fail
              refine (Err_calls hr).mono ?_
              rintro e_ w5 ⟨rfl, rfl⟩
              go_wp2_with fail
              refine (End_err hr (by decide)).mono ?_
              rintro e_ w5 ⟨rfl, m5, rfl⟩
              go_wp2_with fail
              go_ret
              exact ⟨rfl, below_then HB0.out (below_size HB0.out) (pw_below_drewN hb m5)⟩
end Go.Proofs.Ytikfdfagnalmbaa.My
