/- Facts that cast: Casts. -/
import Derived.Test.YthkoockcfnbpiaaDoorProg
import Derived.Test.YthkoockcfnbpiaaDoorWWords
import Derived.Test.YthkoockcfnbpiaaDoorWLast
import Derived.Test.YthkoockcfnbpiaaDoorW14
namespace Go.Proofs.YthkoockcfnbpiaaDoor.W15
open Go.RowKit Go.Proofs.YthkoockcfnbpiaaDoorW.PrintWords Go.Proofs.YthkoockcfnbpiaaDoorW.PrintLast Go.Proofs.YthkoockcfnbpiaaDoorW.PrintMore Go.Proofs.YthkoockcfnbpiaaDoor L1 L4 G1 G2 S1 S2 S3 S4 S5 S8 F1 S10 S11 F2 F3 W1 W2 W3 W4 W5 W6 W7 W8 W9 W10 W14
set_option linter.unusedVariables false
set_option linter.unusedSimpArgs false
/-- Numbers of facts, as whole numbers. -/
def nats (l : List Nat) : List Int := l.map fun (n : Nat) => (n : Int)
theorem nats_len (l : List Nat) : (nats l).length = l.length := by unfold nats; rw [List.length_map]
/-- How long a slice is. -/
def lenV : Value → Nat
  | .slice _ n _ => n
  | _ => 0
theorem lit_one_ (W : World) (k : Int) : Kd.R (Kd.int .i64) 3 (W.alloc (.cells #[.int .i64 k] 3)) W.heap.size (fun _ => True) (.slice (some ⟨W.heap.size, 0, none⟩) 1 1) [k] := Kd.R_of_own (own_lit W W.heap.size 3 .i64 [k] (Nat.le_refl _) (by simp)) (fun _ _ => trivial)
set_option maxHeartbeats 4000000 in
set_option maxRecDepth 100000 in
theorem casts_yes (A0 : Option Addr) (c0 : Nat) (g : List GN) (A1 : Option Addr) (c1 : Nat) (l : List FC) (k : Int) (w : World) (hK : Keys w) (hg : Kd.C P.k45 w A0 g.length g) (hgc : g.length ≤ c0) (hl : Kd.C P.k37 w A1 l.length l) (hlc : l.length ≤ c1) :
    Calls Tryd.prog 18 #[.slice A0 g.length c0, .slice A1 l.length c1, .int .i64 k] w fun e w' => e = .returned (.bool (castsP g l k)) ∧ Below w.heap.size w w' := by
  have h1 := heap_alloc_new w (.cells #[.slice A0 g.length c0] 22)
  have h2 := heap_alloc_new (w.alloc (.cells #[.slice A0 g.length c0] 22)) (.cells #[.slice A0 g.length c0, .slice A1 l.length c1] 65)
  rw [World.size_alloc] at h2
  have HB1 := Aside0.mk (below_alloc (below_alloc (Below.refl w.heap.size w) (.cells #[.slice A0 g.length c0] 22)) (.cells #[.slice A0 g.length c0, .slice A1 l.length c1] 65))
  have g0 := (blk_cell (blk_alloc h1 (.cells #[.slice A0 g.length c0, .slice A1 l.length c1] 65)) 0).trans rfl
  have x0 := (blk_cell h2 0).trans rfl
  have x1 := (blk_cell h2 1).trans rfl
  have HX := Aside0.mk (show Fx ((w.alloc (.cells #[.slice A0 g.length c0] 22)).alloc (.cells #[.slice A0 g.length c0, .slice A1 l.length c1] 65)) (w.heap.size + 1) A0 c0 g A1 c1 l from ⟨x0, x1, Kd.C_below hg HB1.out, hgc, Kd.C_below hl HB1.out, hlc⟩)
  have HK := Aside0.mk hK
  clear h1 h2 hK hg hgc hl hlc x0 x1
  go_enter Tryd.func18, Tryd.ntmps18
  go_wp2_with (fail)
  generalize (w.alloc (.cells #[.slice A0 g.length c0] 22)).alloc (.cells #[.slice A0 g.length c0, .slice A1 l.length c1] 65) = W1 at g0 HB1 HX ⊢
  try rw [World.size_alloc]
  generalize hxb : w.heap.size + 1 = xb at HX ⊢
  generalize hgb : w.heap.size = gb at g0 ⊢
  refine (has_yes xb A0 c0 g A1 c1 l k W1 (HK.out.below HB1.out) HX.out).mono ?_
  rintro e W2 ⟨rfl, hb⟩
  have HB2 := Aside0.mk (HB1.out.trans (hb.mono HB1.out.size))
  have HX2 := Aside0.mk (HX.out.below hb)
  have g2 := pw_cell_below hb g0
  clear hb g0 HX HB1
  cases hh : hasFP g l k with
  | false =>
    have HP := Aside0.mk (show castsP g l k = false by
      cases h : castsP g l k with
      | false => rfl
      | true => rw [(castsP_iff.1 h).1] at hh; cases hh)
    clear hh
    go_wp2_with (fail)
    go_ret
    exact ⟨by rw [HP.out]; first | rfl | simp [*], HB2.out⟩
  | true =>
    have hh2 := hh
    unfold hasFP at hh2
    rw [Bool.and_eq_true, decide_eq_true_eq, inP_iff] at hh2
    obtain ⟨hc, hk0, hk1⟩ := hh2
    obtain ⟨hcg, hl8, hfr⟩ := checkFP_ok hc
    obtain ⟨k, rfl⟩ := Int.eq_ofNat_of_zero_le hk0
    have HH := Aside0.mk hh
    have HC := Aside0.mk hcg
    have HL8 := Aside0.mk hl8
    have HFr := Aside0.mk hfr
    have HKl := Aside0.mk (show k < l.length by omega)
    clear hh hc hk0 hk1 hcg hl8 hfr
    have hmm := @run_makeMap Tryd.prog
    have HM0 := Aside0.mk (M2.Ms.made W2 (N := l.length) (by have := HL8.out; omega))
    obtain ⟨W3, hrun, hm3, hg3⟩ := HM0.out.put HKl.out
    have HM3 := Aside0.mk hm3
    have HG3 := Aside0.mk (show W2.grownBy W3 (some W2.heap.size) from (World.grownBy_alloc W2 _ (some W2.heap.size)).trans hg3)
    clear hm3 hg3
    go_wp2_with (fail)
    generalize hm_ : W2.heap.size = m at HM3 HG3 ⊢
    have HB3 := Aside0.mk (show Below W2.heap.size W2 (W3.alloc (.cells #[.int .i64 (k : Int)] 3)) from ⟨HG3.out.os, HG3.out.tape, HG3.out.output, Nat.le_trans HG3.out.size (by rw [World.size_alloc]; omega), fun j hj => (Below.heap_alloc W3 _ j (Nat.lt_of_lt_of_le hj HG3.out.size)).trans (HG3.out.block j hj (fun e => by cases e; omega))⟩)
    have HMV := Aside0.mk (HM3.out.kept (World.grownBy_alloc W3 (.cells #[.int .i64 (k : Int)] 3) none) (by simp))
    have HQV := Aside0.mk (Kd.Q_of_R (lit_one_ W3 (k : Int)))
    have HCs := Aside0.mk (show Cs g l k [k] (M2.put (fun _ => false) k) none from ⟨by simp [M2.put], fun i hi => by simp at hi; subst hi; exact ⟨HKl.out, by simp [M2.put]⟩, fun i hi => by simp [M2.put] at hi; subst hi; exact ⟨HKl.out, .refl⟩, fun i hi hn _ => by simp [M2.put] at hi; subst hi; simp at hn⟩)
    have HCn := Aside0.mk (show ([k] : List Nat).length ≤ M2.cnt l.length (M2.put (fun _ => false) k) by rw [M2.cnt_put _ HKl.out]; simp)
    have Hm3 := Aside0.mk (show m < W3.heap.size from HM3.out.lt)
    have Hm2 := Aside0.mk (show W2.heap.size ≤ m by omega)
    have HBs := Aside0.mk HB2.out.size
    clear hmm hrun HG3 HM3 HM0
    generalize W3.alloc (.cells #[.int .i64 (k : Int)] 3) = V at HB3 HMV HQV ⊢
    generalize W3.heap.size = b3 at HQV Hm3 ⊢
    clear hxb hgb hm_
    go_loopw [10] (fun v10 wr => ∃ (td : List Nat) (seen : Nat → Bool), Aside0 (Below W2.heap.size W2 wr) ∧ Aside0 (M2.Ms wr m l.length seen) ∧ Aside0 (Kd.Q (Kd.int .i64) 3 wr b3 (fun _ => True) v10 (nats td)) ∧ Aside0 (Cs g l k td seen none) ∧ Aside0 (td.length ≤ M2.cnt l.length seen) ∧ Aside0 (b3 ≤ wr.heap.size)) (fun v10 wr => 2 * (l.length - msz wr m) + lenV v10)
    case atStart => exact ⟨[k], _, HB3, HMV, HQV, HCs, HCn, ⟨by obtain ⟨A', c', e', _⟩ := Kd.Q_slice HQV.out; have := Kd.Q_lt HQV.out b3 rfl; omega⟩⟩
    case round =>
      clear HB3 HMV HQV HCs HCn
      obtain ⟨td, seen, HBo, HMi, HQi, HCi, HCc, HSz⟩ := hrel
      rename World => X
      have HXX := Aside0.mk (HX2.out.below HBo.out)
      have gX := pw_cell_below HBo.out g2
      have HBX := Aside0.mk (HB2.out.trans (HBo.out.mono HB2.out.size))
      have HMz := Aside0.mk (msz_of HMi.out)
      have HCl := Aside0.mk (M2.cnt_le l.length seen)
      obtain ⟨A9, c9, e9, hc9, hr9⟩ := Kd.Q_reads HQi.out
      rw [nats_len] at e9 hc9
      subst e9
      rcases td with _ | ⟨i0, td⟩
      · have e2 : (0 < (([] : List Nat).length : Int)) = False := by simp
        go_wp2_with (fail)
        go_ret
        rw [HCi.out.no]
        exact ⟨rfl, HBX.out⟩
      · have hs0 := HCi.out.todo i0 (by simp)
        have hmem : l.getD i0 zF ∈ l := by rw [List.getD_eq_getElem?_getD, List.getElem?_eq_getElem hs0.1]; exact List.getElem_mem hs0.1
        obtain ⟨a, ea, ha, hB, hfok, hon, hwl⟩ := frm_ok HC.out (HFr.out _ hmem)
        obtain ⟨adl, Aw, cw, eL, hF2⟩ := fact_at HX2.out.lr hs0.1
        have hF := hF2.below HBo.out
        have HS0 := Aside0.mk hs0
        obtain ⟨o, ho⟩ : ∃ o, o = l.getD i0 zF := ⟨_, rfl⟩
        rw [← ho] at ea hB hfok hon hwl hF hF2
        have HWs2 := Aside0.mk hF2.ws
        have HWc := Aside0.mk hF2.wc
        obtain ⟨A, B, ws⟩ := o
        dsimp only at ea hB hfok hon hwl
        subst ea
        have HOo := Aside0.mk ho
        have HA := Aside0.mk ha
        have HB_ := Aside0.mk hB
        have HOn := Aside0.mk (List.all_eq_true.1 hon)
        have HOk := Aside0.mk (show (nd g a).f0 = 8 ∨ 1 ≤ ws.length from by
          rcases hfok with h | h | ⟨k, m, h, _⟩
          · exact .inl h
          · exact .inr h.2.1
          · exact .inr h)
        have HWl := Aside0.mk hwl
        have HF := Aside0.mk hF
        have q0 := hF.c0
        have q1 := hF.c1
        have q2 := hF.c2
        obtain ⟨ad9, ea9, hm9⟩ := ints_at0 (l := nats (i0 :: td)) hr9 (by simp [nats])
        subst ea9
        have hm9' : X.cell? ad9 = some (.int .i64 (i0 : Int)) := hm9
        have e1 : ((i0 : Int) < (l.length : Int)) = True := eq_true (by omega)
        have e2 : (0 < ((i0 :: td).length : Int)) = True := eq_true (by simp)
        have hQd := Kd.Q_drop (k := 1) HQi.out (by simp [nats])
        have HCp := Aside0.mk HCi.out.pop
        have HCc2 := Aside0.mk (show td.length + 1 ≤ M2.cnt l.length seen from HCc.out)
        obtain ⟨n9, hn9⟩ : ∃ n9, n9 = (i0 :: td).length := ⟨_, rfl⟩
        rw [← hn9] at e2 hc9
        have HN9 := Aside0.mk (show n9 = td.length + 1 from hn9)
        have eL' := eL
        subst eL
        dsimp only at q0 q1 q2
        clear hs0 hmem hfok hon hwl hF hF2 ha hB hm9 hr9 ho eL'
        have hbx := heap_alloc_new X (.cells #[.int .i64 (a : Int), .int .i64 B, .slice Aw ws.length cw] 37)
        have HBx := Aside0.mk (below_alloc (Below.refl X.heap.size X) (.cells #[.int .i64 (a : Int), .int .i64 B, .slice Aw ws.length cw] 37))
        have f0 := (blk_cell hbx 0).trans rfl
        have f1 := (blk_cell hbx 1).trans rfl
        have f2 := (blk_cell hbx 2).trans rfl
        clear hbx
        have HBw := Aside0.mk (HBo.out.trans (HBx.out.mono HBo.out.size))
        have HMy := Aside0.mk (HMi.out.kept (World.grownBy_alloc X (.cells #[.int .i64 (a : Int), .int .i64 B, .slice Aw ws.length cw] 37) none) (by simp))
        obtain ⟨ks, hks⟩ : ∃ ks, ks = onP g ⟨a, B, ws⟩ := ⟨_, rfl⟩
        have HKs := Aside0.mk hks
        rw [← hks] at HOn
        have HSy := Aside0.mk (show b3 ≤ (X.alloc (.cells #[.int .i64 (a : Int), .int .i64 B, .slice Aw ws.length cw] 37)).heap.size from by rw [World.size_alloc]; have := HSz.out; omega)
        clear hks HXX gX
        by_cases hc1 : c9 = 1
        · rw [if_pos hc1] at hQd
          have HQy := Aside0.mk (Kd.Q_below hQd HBx.out)
          subst hc1
          clear hQd hc9
          have HBc0 := HBx
          go_wp2_with (fail)
          generalize X.alloc (.cells #[.int .i64 (a : Int), .int .i64 B, .slice Aw ws.length cw] 37) = Y at HBx HBw HMy HQy HSy f0 f1 f2 ⊢
          refine (dyn_yes gb A0 c0 g a Y (pw_cell_below HBw.out g2) (HX2.out.below HBw.out).gr HA.out).mono ?_
          rintro e Y2 ⟨rfl, hb2⟩
          have HBc := Aside0.mk (HBw.out.trans (hb2.mono HBw.out.size))
          have HMc := Aside0.mk (HMy.out.kept (S5.grown_of_below hb2 none) (by simp))
          have HQc := Aside0.mk (Kd.Q_below HQy.out hb2)
          have HSc := Aside0.mk (Nat.le_trans HSy.out hb2.size)
          have h0 := pw_cell_below hb2 f0
          have h1 := pw_cell_below hb2 f1
          have h2 := pw_cell_below hb2 f2
          have gY := pw_cell_below HBc.out g2
          clear hb2 f0 f1 f2 HBw HMy HQy HSy HBc0
          cases hd : dynP g a with
          | false =>
            have HCB := Aside0.mk (show castB g (l.getD i0 zF) = false by rw [← HOo.out]; unfold castB; dsimp only; rw [hd]; rfl)
            clear hd
            go_wp2_with (fail)
            have HZZ := Aside0.mk (HX2.out.below HBc.out)
            refine (on_all xb A0 c0 g a B ws Aw cw Y2 HZZ.out.z0 HZZ.out.gr HX2.out.gc (Kd.C_below HWs2.out HBc.out) HWc.out HA.out HOk.out).mono ?_
            rw [← HKs.out]
            rintro e Z ⟨Ao, co, rfl, hco, hon2, hbz⟩
            have HBz := Aside0.mk (HBc.out.trans (hbz.mono HBc.out.size))
            have HQz := Aside0.mk (Kd.Q_below HQc.out hbz)
            have HMz2 := Aside0.mk (HMc.out.kept (S5.grown_of_below hbz none) (by simp))
            have HKC := Aside0.mk (fun (W : World) (hW : Below W2.heap.size W2 W) => hon2 W (Kd.C_below HWs2.out hW))
            have HSz2 := Aside0.mk (Nat.le_trans HSc.out hbz.size)
            have HKl := Aside0.mk (show ks.length ≤ 1000000000 from by rw [HKs.out]; unfold onP; have := HWl.out; split <;> simp <;> omega)
            clear hco hon2 hbz e1 e2 q0 q1 q2 h0 h1 h2 gY hm9'
            go_wp2_with (fail)
            go_loopw [10, 56] (fun v10 v56 wr => ∃ (j : Nat) (td2 : List Nat) (seen2 : Nat → Bool), j ≤ ks.length ∧ v56 = .int .i64 j ∧ Aside0 (Below W2.heap.size W2 wr) ∧ Aside0 (M2.Ms wr m l.length seen2) ∧ Aside0 (Kd.Q (Kd.int .i64) 3 wr b3 (fun _ => True) v10 (nats td2)) ∧ Aside0 (Cs g l k td2 seen2 (some i0) ∧ (∀ y ∈ ks.take j, ∃ n : Nat, y = (n : Int) ∧ seen2 n = true) ∧ td2.length ≤ M2.cnt l.length seen2 ∧ 2 * (l.length - M2.cnt l.length seen2) + td2.length ≤ 2 * (l.length - M2.cnt l.length seen) + td.length ∧ seen2 i0 = true) ∧ Aside0 (b3 ≤ wr.heap.size)) (fun v10 v56 _ => ks.length + 1 - (intOf v56).toNat)
            case atStart => exact ⟨0, td, seen, by omega, rfl, HBz, HMz2, HQz, ⟨HCp.out, fun y hy => by simp at hy, by have := HCc2.out; omega, Nat.le_refl _, HS0.out.2⟩, HSz2⟩
            case round =>
              clear HBz HMz2 HQz HSz2
              obtain ⟨j, td2, seen2, hj, rfl, HBr, HMr, HQr, HCr, HSr⟩ := hrel
              rename World => U
              have hw : wrap64 ((j : Int) + 1) = ((j + 1 : Nat) : Int) := by have := HKl.out; unfold wrap64; omega
              by_cases hlt : j < ks.length
              · obtain ⟨adk, eK, hkm⟩ := ints_at (HKC.out U HBr.out) hlt
                subst eK
                have hyin := HOn.out (ks.getD j 0) (by rw [List.getD_eq_getElem?_getD, List.getElem?_eq_getElem hlt]; exact List.getElem_mem hlt)
                rw [inP_iff] at hyin
                obtain ⟨n, hn⟩ := Int.eq_ofNat_of_zero_le hyin.1
                rw [hn] at hkm hyin
                have HTk := Aside0.mk (show ks.take (j + 1) = ks.take j ++ [(n : Int)] by rw [take_one hlt, hn])
                have HNl := Aside0.mk (show n < l.length by omega)
                have HNo := Aside0.mk (show (n : Int) ∈ onP g (l.getD i0 zF) by
                  rw [← HOo.out, ← HKs.out, ← hn, List.getD_eq_getElem?_getD, List.getElem?_eq_getElem hlt]
                  exact List.getElem_mem hlt)
                have HLk := HMr.out.look HNl.out
                have e3 : ((j : Int) < (ks.length : Int)) = True := eq_true (by omega)
                have HLj := Aside0.mk hlt
                clear hyin hn
                cases hs : seen2 n with
                | true =>
                  rw [hs] at HLk
                  have HLk' : (Instr.lookup 79 (.map (some m)) (.int .i64 (n : Int)) false).run Tryd.prog U = .ok (.int .i64 1) U := HLk
                  have HSn := Aside0.mk hs
                  clear HLk hs
                  go_wp2_with (fail)
                  go_roundw
                  case rel => exact ⟨j + 1, td2, seen2, by omega, by first | (rw [hw]; done) | (rw [Int.natCast_add]; rfl), HBr, HMr, HQr, ⟨HCr.out.1, fun y hy => by
                    rw [HTk.out] at hy
                    rcases List.mem_append.1 hy with hy | hy
                    · exact HCr.out.2.1 y hy
                    · simp at hy
                      exact ⟨n, hy, HSn.out⟩, HCr.out.2.2⟩, HSr⟩
                  case measure => first | (rw [hw]; simp only [intOf]; omega) | (simp only [intOf]; omega)
                | false =>
                  rw [hs] at HLk
                  have HLk' : (Instr.lookup 79 (.map (some m)) (.int .i64 (n : Int)) false).run Tryd.prog U = .ok (.int .i64 0) U := HLk
                  have HSn := Aside0.mk hs
                  obtain ⟨W5, hrun5, hm5, hg5⟩ := HMr.out.put HNl.out
                  have HM5 := Aside0.mk hm5
                  have HG5 := Aside0.mk hg5
                  have HB5 := Aside0.mk (show Below W2.heap.size W2 W5 from HBr.out.grown hg5 HBr.out.size (fun k e => by have := Hm2.out; cases e; omega))
                  have HQ5 := Aside0.mk (Kd.Q_mono (ok' := fun _ => True) (Kd.Q_grown (Kd.Q_bound HQr.out) hg5 (fun k hk e => by have := Hm3.out; have := hk.2.1; cases e; omega)) (fun _ _ => trivial))
                  have HS5 := Aside0.mk (Nat.le_trans HSr.out hg5.size)
                  have HAL : Aside0 (((nats td2).length + 1) * 8 ≤ 140737488355328) := ⟨by rw [nats_len]; have := HCr.out.2.2.1; have := M2.cnt_le l.length seen2; have := HL8.out; omega⟩
                  have HCn := Aside0.mk (HCr.out.1.push HCr.out.2.2.2.2 HNl.out HNo.out)
                  have HCt := Aside0.mk (show M2.cnt l.length (M2.put seen2 n) = M2.cnt l.length seen2 + 1 by rw [M2.cnt_put _ HNl.out, if_neg (by rw [HSn.out]; simp)])
                  have HCu := Aside0.mk (M2.cnt_le l.length (M2.put seen2 n))
                  have Hm5 := Aside0.mk (show ∀ k, k = m → k < b3 from fun k e => by have := Hm3.out; omega)
                  clear HLk hs hm5 hg5
                  go_wp2_with (first | ((with_reducible refine gate_builtin (b := .append) (xs := #[.tmp 66, .tmp 68]) rfl ?_); at_builtin; refine Kd.Q_append (Kd.int .i64) (w0 := W5) b3 rfl (.tmp 66) (.tmp 68) 30 3 (.int .i64 0) 8 rfl Tryd.underlying30 infoI rfl (by decide) (by omega) u10 (nats td2) (n : Int) [.int .i64 (n : Int)] (fun _ => True) (fun _ => False) rfl rfl rfl (fun _ hk => hk.elim) (fun _ _ => trivial) HQ5.out (Below.refl _ _) HS5.out HAL.out ?_; intro v9 W9 ho hb hg9 hat9))
                  have hbq : ∀ k, u10.ownBlock = some k → b3 ≤ k := fun k hk => Kd.Q_base HQ5.out k hk
                  have HB9 := Aside0.mk (HB5.out.grown hg9 HB5.out.size (fun k e => by have := hbq k e; have := Hm3.out; have := Hm2.out; omega))
                  have HM9 := Aside0.mk (HM5.out.kept hg9 (fun e => by have := hbq m e.symm; have := Hm3.out; omega))
                  have HQ9 := Aside0.mk (show Kd.Q (Kd.int .i64) 3 W9 b3 (fun _ => True) v9 (nats (td2 ++ [n])) from by
                    have : nats (td2 ++ [n]) = nats td2 ++ [(n : Int)] := by simp [nats]
                    rw [this]
                    exact ho)
                  have HS9 := Aside0.mk (Nat.le_trans HS5.out hg9.size)
                  have hlt2 := HLj.out
                  clear ho hb hg9 hat9 hbq
                  go_wp2_with (fail)
                  go_roundw
                  case rel => exact ⟨j + 1, td2 ++ [n], M2.put seen2 n, by omega, by first | (rw [hw]; done) | (rw [Int.natCast_add]; rfl), HB9, HM9, HQ9, ⟨HCn.out, fun y hy => by
                    rw [HTk.out] at hy
                    rcases List.mem_append.1 hy with hy | hy
                    · obtain ⟨m', e, hm'⟩ := HCr.out.2.1 y hy
                      exact ⟨m', e, by unfold M2.put; rw [hm']; simp⟩
                    · simp at hy
                      exact ⟨n, hy, by simp [M2.put]⟩, by rw [HCt.out]; simp; have := HCr.out.2.2.1; omega, by rw [HCt.out]; simp; have := HCr.out.2.2.2.1; have := HCu.out; rw [HCt.out] at this; omega, by unfold M2.put; rw [HCr.out.2.2.2.2]; simp⟩, HS9⟩
                  case measure => first | (rw [hw]; simp only [intOf]; omega) | (simp only [intOf]; omega)
              · obtain rfl : j = ks.length := by omega
                have hcr := HCr.out
                rw [List.take_length] at hcr
                have HClo := Aside0.mk (hcr.1.close HCB.out (by rw [← HOo.out, ← HKs.out]; exact hcr.2.1))
                have HMe := Aside0.mk (msz_of HMr.out)
                clear hcr
                obtain ⟨A8, c8, e8, hc8, hr8⟩ := Kd.Q_reads HQr.out
                rw [nats_len] at e8
                have HE8 := Aside0.mk e8
                clear hr8 hc8 e8
                go_wp2_with (fail)
                go_roundw
                case rel => exact ⟨td2, seen2, HBr, HMr, HQr, HClo, ⟨HCr.out.2.2.1⟩, HSr⟩
                case measure =>
                  rw [HE8.out, HMe.out, HMz.out]
                  simp only [lenV]
                  have := HCr.out.2.2.2.1
                  have := HN9.out
                  have := HCl.out
                  omega
          | true =>
            have HD := Aside0.mk hd
            clear hd
            go_wp2_with (fail)
            refine (members_yes A0 c0 g B Y2 (HX2.out.below HBc.out).gr HX2.out.gc (members_small HC.out)).mono ?_
            rintro e Y3 ⟨v, rfl, hr, hb3⟩
            obtain ⟨A6, c6, rfl, hc6, hr6⟩ := Kd.R_reads hr
            have HDs := Aside0.mk (dyns_yes gb A0 c0 g A6 c6 (membersP g B) Y3 (pw_cell_below hb3 gY) ((HX2.out.below HBc.out).below hb3).gr hr6 hc6 (fun y hy => by have := members_in HC.out HB_.out.1 HB_.out.2 y hy; exact ⟨this.1, this.2.1⟩))
            have HBd := Aside0.mk (HBc.out.trans (hb3.mono HBc.out.size))
            have HMd := Aside0.mk (HMc.out.kept (S5.grown_of_below hb3 none) (by simp))
            have HQd := Aside0.mk (Kd.Q_below HQc.out hb3)
            have HSd := Aside0.mk (Nat.le_trans HSc.out hb3.size)
            have h0 := pw_cell_below hb3 h0
            have h1 := pw_cell_below hb3 h1
            have h2 := pw_cell_below hb3 h2
            clear hr hr6 hc6 hb3 HBc HMc HQc HSc
            go_wp2_with (fail)
            refine HDs.out.mono ?_
            rintro e Y4 ⟨rfl, hb4⟩
            have HBc := Aside0.mk (HBd.out.trans (hb4.mono HBd.out.size))
            have HMc := Aside0.mk (HMd.out.kept (S5.grown_of_below hb4 none) (by simp))
            have HQc := Aside0.mk (Kd.Q_below HQd.out hb4)
            have HSc := Aside0.mk (Nat.le_trans HSd.out hb4.size)
            have h0 := pw_cell_below hb4 h0
            have h1 := pw_cell_below hb4 h1
            have h2 := pw_cell_below hb4 h2
            clear hb4 HDs
            cases hm : (membersP g B).any (dynP g) with
            | false =>
              have HY := Aside0.mk (HCi.out.yes HH.out HS0.out.2 (by rw [← HOo.out]; unfold castB; dsimp only; rw [HD.out, hm]; rfl))
              clear hm
              go_wp2_with (fail)
              go_ret
              rw [HY.out]
              exact ⟨rfl, HB2.out.trans (HBc.out.mono HB2.out.size)⟩
            | true =>
              have HCB := Aside0.mk (show castB g (l.getD i0 zF) = false by rw [← HOo.out]; unfold castB; dsimp only; rw [HD.out, hm]; rfl)
              clear hm
              go_wp2_with (fail)
              have HZZ := Aside0.mk (HX2.out.below HBc.out)
              refine (on_all xb A0 c0 g a B ws Aw cw Y4 HZZ.out.z0 HZZ.out.gr HX2.out.gc (Kd.C_below HWs2.out HBc.out) HWc.out HA.out HOk.out).mono ?_
              rw [← HKs.out]
              rintro e Z ⟨Ao, co, rfl, hco, hon2, hbz⟩
              have HBz := Aside0.mk (HBc.out.trans (hbz.mono HBc.out.size))
              have HQz := Aside0.mk (Kd.Q_below HQc.out hbz)
              have HMz2 := Aside0.mk (HMc.out.kept (S5.grown_of_below hbz none) (by simp))
              have HKC := Aside0.mk (fun (W : World) (hW : Below W2.heap.size W2 W) => hon2 W (Kd.C_below HWs2.out hW))
              have HSz2 := Aside0.mk (Nat.le_trans HSc.out hbz.size)
              have HKl := Aside0.mk (show ks.length ≤ 1000000000 from by rw [HKs.out]; unfold onP; have := HWl.out; split <;> simp <;> omega)
              clear hco hon2 hbz e1 e2 q0 q1 q2 h0 h1 h2 gY hm9'
              go_wp2_with (fail)
              go_loopw [10, 56] (fun v10 v56 wr => ∃ (j : Nat) (td2 : List Nat) (seen2 : Nat → Bool), j ≤ ks.length ∧ v56 = .int .i64 j ∧ Aside0 (Below W2.heap.size W2 wr) ∧ Aside0 (M2.Ms wr m l.length seen2) ∧ Aside0 (Kd.Q (Kd.int .i64) 3 wr b3 (fun _ => True) v10 (nats td2)) ∧ Aside0 (Cs g l k td2 seen2 (some i0) ∧ (∀ y ∈ ks.take j, ∃ n : Nat, y = (n : Int) ∧ seen2 n = true) ∧ td2.length ≤ M2.cnt l.length seen2 ∧ 2 * (l.length - M2.cnt l.length seen2) + td2.length ≤ 2 * (l.length - M2.cnt l.length seen) + td.length ∧ seen2 i0 = true) ∧ Aside0 (b3 ≤ wr.heap.size)) (fun v10 v56 _ => ks.length + 1 - (intOf v56).toNat)
              case atStart => exact ⟨0, td, seen, by omega, rfl, HBz, HMz2, HQz, ⟨HCp.out, fun y hy => by simp at hy, by have := HCc2.out; omega, Nat.le_refl _, HS0.out.2⟩, HSz2⟩
              case round =>
                clear HBz HMz2 HQz HSz2
                obtain ⟨j, td2, seen2, hj, rfl, HBr, HMr, HQr, HCr, HSr⟩ := hrel
                rename World => U
                have hw : wrap64 ((j : Int) + 1) = ((j + 1 : Nat) : Int) := by have := HKl.out; unfold wrap64; omega
                by_cases hlt : j < ks.length
                · obtain ⟨adk, eK, hkm⟩ := ints_at (HKC.out U HBr.out) hlt
                  subst eK
                  have hyin := HOn.out (ks.getD j 0) (by rw [List.getD_eq_getElem?_getD, List.getElem?_eq_getElem hlt]; exact List.getElem_mem hlt)
                  rw [inP_iff] at hyin
                  obtain ⟨n, hn⟩ := Int.eq_ofNat_of_zero_le hyin.1
                  rw [hn] at hkm hyin
                  have HTk := Aside0.mk (show ks.take (j + 1) = ks.take j ++ [(n : Int)] by rw [take_one hlt, hn])
                  have HNl := Aside0.mk (show n < l.length by omega)
                  have HNo := Aside0.mk (show (n : Int) ∈ onP g (l.getD i0 zF) by
                    rw [← HOo.out, ← HKs.out, ← hn, List.getD_eq_getElem?_getD, List.getElem?_eq_getElem hlt]
                    exact List.getElem_mem hlt)
                  have HLk := HMr.out.look HNl.out
                  have e3 : ((j : Int) < (ks.length : Int)) = True := eq_true (by omega)
                  have HLj := Aside0.mk hlt
                  clear hyin hn
                  cases hs : seen2 n with
                  | true =>
                    rw [hs] at HLk
                    have HLk' : (Instr.lookup 79 (.map (some m)) (.int .i64 (n : Int)) false).run Tryd.prog U = .ok (.int .i64 1) U := HLk
                    have HSn := Aside0.mk hs
                    clear HLk hs
                    go_wp2_with (fail)
                    go_roundw
                    case rel => exact ⟨j + 1, td2, seen2, by omega, by first | (rw [hw]; done) | (rw [Int.natCast_add]; rfl), HBr, HMr, HQr, ⟨HCr.out.1, fun y hy => by
                      rw [HTk.out] at hy
                      rcases List.mem_append.1 hy with hy | hy
                      · exact HCr.out.2.1 y hy
                      · simp at hy
                        exact ⟨n, hy, HSn.out⟩, HCr.out.2.2⟩, HSr⟩
                    case measure => first | (rw [hw]; simp only [intOf]; omega) | (simp only [intOf]; omega)
                  | false =>
                    rw [hs] at HLk
                    have HLk' : (Instr.lookup 79 (.map (some m)) (.int .i64 (n : Int)) false).run Tryd.prog U = .ok (.int .i64 0) U := HLk
                    have HSn := Aside0.mk hs
                    obtain ⟨W5, hrun5, hm5, hg5⟩ := HMr.out.put HNl.out
                    have HM5 := Aside0.mk hm5
                    have HG5 := Aside0.mk hg5
                    have HB5 := Aside0.mk (show Below W2.heap.size W2 W5 from HBr.out.grown hg5 HBr.out.size (fun k e => by have := Hm2.out; cases e; omega))
                    have HQ5 := Aside0.mk (Kd.Q_mono (ok' := fun _ => True) (Kd.Q_grown (Kd.Q_bound HQr.out) hg5 (fun k hk e => by have := Hm3.out; have := hk.2.1; cases e; omega)) (fun _ _ => trivial))
                    have HS5 := Aside0.mk (Nat.le_trans HSr.out hg5.size)
                    have HAL : Aside0 (((nats td2).length + 1) * 8 ≤ 140737488355328) := ⟨by rw [nats_len]; have := HCr.out.2.2.1; have := M2.cnt_le l.length seen2; have := HL8.out; omega⟩
                    have HCn := Aside0.mk (HCr.out.1.push HCr.out.2.2.2.2 HNl.out HNo.out)
                    have HCt := Aside0.mk (show M2.cnt l.length (M2.put seen2 n) = M2.cnt l.length seen2 + 1 by rw [M2.cnt_put _ HNl.out, if_neg (by rw [HSn.out]; simp)])
                    have HCu := Aside0.mk (M2.cnt_le l.length (M2.put seen2 n))
                    have Hm5 := Aside0.mk (show ∀ k, k = m → k < b3 from fun k e => by have := Hm3.out; omega)
                    clear HLk hs hm5 hg5
                    go_wp2_with (first | ((with_reducible refine gate_builtin (b := .append) (xs := #[.tmp 66, .tmp 68]) rfl ?_); at_builtin; refine Kd.Q_append (Kd.int .i64) (w0 := W5) b3 rfl (.tmp 66) (.tmp 68) 30 3 (.int .i64 0) 8 rfl Tryd.underlying30 infoI rfl (by decide) (by omega) u10 (nats td2) (n : Int) [.int .i64 (n : Int)] (fun _ => True) (fun _ => False) rfl rfl rfl (fun _ hk => hk.elim) (fun _ _ => trivial) HQ5.out (Below.refl _ _) HS5.out HAL.out ?_; intro v9 W9 ho hb hg9 hat9))
                    have hbq : ∀ k, u10.ownBlock = some k → b3 ≤ k := fun k hk => Kd.Q_base HQ5.out k hk
                    have HB9 := Aside0.mk (HB5.out.grown hg9 HB5.out.size (fun k e => by have := hbq k e; have := Hm3.out; have := Hm2.out; omega))
                    have HM9 := Aside0.mk (HM5.out.kept hg9 (fun e => by have := hbq m e.symm; have := Hm3.out; omega))
                    have HQ9 := Aside0.mk (show Kd.Q (Kd.int .i64) 3 W9 b3 (fun _ => True) v9 (nats (td2 ++ [n])) from by
                      have : nats (td2 ++ [n]) = nats td2 ++ [(n : Int)] := by simp [nats]
                      rw [this]
                      exact ho)
                    have HS9 := Aside0.mk (Nat.le_trans HS5.out hg9.size)
                    have hlt2 := HLj.out
                    clear ho hb hg9 hat9 hbq
                    go_wp2_with (fail)
                    go_roundw
                    case rel => exact ⟨j + 1, td2 ++ [n], M2.put seen2 n, by omega, by first | (rw [hw]; done) | (rw [Int.natCast_add]; rfl), HB9, HM9, HQ9, ⟨HCn.out, fun y hy => by
                      rw [HTk.out] at hy
                      rcases List.mem_append.1 hy with hy | hy
                      · obtain ⟨m', e, hm'⟩ := HCr.out.2.1 y hy
                        exact ⟨m', e, by unfold M2.put; rw [hm']; simp⟩
                      · simp at hy
                        exact ⟨n, hy, by simp [M2.put]⟩, by rw [HCt.out]; simp; have := HCr.out.2.2.1; omega, by rw [HCt.out]; simp; have := HCr.out.2.2.2.1; have := HCu.out; rw [HCt.out] at this; omega, by unfold M2.put; rw [HCr.out.2.2.2.2]; simp⟩, HS9⟩
                    case measure => first | (rw [hw]; simp only [intOf]; omega) | (simp only [intOf]; omega)
                · obtain rfl : j = ks.length := by omega
                  have hcr := HCr.out
                  rw [List.take_length] at hcr
                  have HClo := Aside0.mk (hcr.1.close HCB.out (by rw [← HOo.out, ← HKs.out]; exact hcr.2.1))
                  have HMe := Aside0.mk (msz_of HMr.out)
                  clear hcr
                  obtain ⟨A8, c8, e8, hc8, hr8⟩ := Kd.Q_reads HQr.out
                  rw [nats_len] at e8
                  have HE8 := Aside0.mk e8
                  clear hr8 hc8 e8
                  go_wp2_with (fail)
                  go_roundw
                  case rel => exact ⟨td2, seen2, HBr, HMr, HQr, HClo, ⟨HCr.out.2.2.1⟩, HSr⟩
                  case measure =>
                    rw [HE8.out, HMe.out, HMz.out]
                    simp only [lenV]
                    have := HCr.out.2.2.2.1
                    have := HN9.out
                    have := HCl.out
                    omega
        · rw [if_neg hc1] at hQd
          have HQy := Aside0.mk (Kd.Q_below hQd HBx.out)
          clear hQd
          have HBc0 := HBx
          go_wp2_with (fail)
          generalize X.alloc (.cells #[.int .i64 (a : Int), .int .i64 B, .slice Aw ws.length cw] 37) = Y at HBx HBw HMy HQy HSy f0 f1 f2 ⊢
          refine (dyn_yes gb A0 c0 g a Y (pw_cell_below HBw.out g2) (HX2.out.below HBw.out).gr HA.out).mono ?_
          rintro e Y2 ⟨rfl, hb2⟩
          have HBc := Aside0.mk (HBw.out.trans (hb2.mono HBw.out.size))
          have HMc := Aside0.mk (HMy.out.kept (S5.grown_of_below hb2 none) (by simp))
          have HQc := Aside0.mk (Kd.Q_below HQy.out hb2)
          have HSc := Aside0.mk (Nat.le_trans HSy.out hb2.size)
          have h0 := pw_cell_below hb2 f0
          have h1 := pw_cell_below hb2 f1
          have h2 := pw_cell_below hb2 f2
          have gY := pw_cell_below HBc.out g2
          clear hb2 f0 f1 f2 HBw HMy HQy HSy HBc0
          cases hd : dynP g a with
          | false =>
            have HCB := Aside0.mk (show castB g (l.getD i0 zF) = false by rw [← HOo.out]; unfold castB; dsimp only; rw [hd]; rfl)
            clear hd
            go_wp2_with (fail)
            have HZZ := Aside0.mk (HX2.out.below HBc.out)
            refine (on_all xb A0 c0 g a B ws Aw cw Y2 HZZ.out.z0 HZZ.out.gr HX2.out.gc (Kd.C_below HWs2.out HBc.out) HWc.out HA.out HOk.out).mono ?_
            rw [← HKs.out]
            rintro e Z ⟨Ao, co, rfl, hco, hon2, hbz⟩
            have HBz := Aside0.mk (HBc.out.trans (hbz.mono HBc.out.size))
            have HQz := Aside0.mk (Kd.Q_below HQc.out hbz)
            have HMz2 := Aside0.mk (HMc.out.kept (S5.grown_of_below hbz none) (by simp))
            have HKC := Aside0.mk (fun (W : World) (hW : Below W2.heap.size W2 W) => hon2 W (Kd.C_below HWs2.out hW))
            have HSz2 := Aside0.mk (Nat.le_trans HSc.out hbz.size)
            have HKl := Aside0.mk (show ks.length ≤ 1000000000 from by rw [HKs.out]; unfold onP; have := HWl.out; split <;> simp <;> omega)
            clear hco hon2 hbz e1 e2 q0 q1 q2 h0 h1 h2 gY hm9'
            go_wp2_with (fail)
            go_loopw [10, 56] (fun v10 v56 wr => ∃ (j : Nat) (td2 : List Nat) (seen2 : Nat → Bool), j ≤ ks.length ∧ v56 = .int .i64 j ∧ Aside0 (Below W2.heap.size W2 wr) ∧ Aside0 (M2.Ms wr m l.length seen2) ∧ Aside0 (Kd.Q (Kd.int .i64) 3 wr b3 (fun _ => True) v10 (nats td2)) ∧ Aside0 (Cs g l k td2 seen2 (some i0) ∧ (∀ y ∈ ks.take j, ∃ n : Nat, y = (n : Int) ∧ seen2 n = true) ∧ td2.length ≤ M2.cnt l.length seen2 ∧ 2 * (l.length - M2.cnt l.length seen2) + td2.length ≤ 2 * (l.length - M2.cnt l.length seen) + td.length ∧ seen2 i0 = true) ∧ Aside0 (b3 ≤ wr.heap.size)) (fun v10 v56 _ => ks.length + 1 - (intOf v56).toNat)
            case atStart => exact ⟨0, td, seen, by omega, rfl, HBz, HMz2, HQz, ⟨HCp.out, fun y hy => by simp at hy, by have := HCc2.out; omega, Nat.le_refl _, HS0.out.2⟩, HSz2⟩
            case round =>
              clear HBz HMz2 HQz HSz2
              obtain ⟨j, td2, seen2, hj, rfl, HBr, HMr, HQr, HCr, HSr⟩ := hrel
              rename World => U
              have hw : wrap64 ((j : Int) + 1) = ((j + 1 : Nat) : Int) := by have := HKl.out; unfold wrap64; omega
              by_cases hlt : j < ks.length
              · obtain ⟨adk, eK, hkm⟩ := ints_at (HKC.out U HBr.out) hlt
                subst eK
                have hyin := HOn.out (ks.getD j 0) (by rw [List.getD_eq_getElem?_getD, List.getElem?_eq_getElem hlt]; exact List.getElem_mem hlt)
                rw [inP_iff] at hyin
                obtain ⟨n, hn⟩ := Int.eq_ofNat_of_zero_le hyin.1
                rw [hn] at hkm hyin
                have HTk := Aside0.mk (show ks.take (j + 1) = ks.take j ++ [(n : Int)] by rw [take_one hlt, hn])
                have HNl := Aside0.mk (show n < l.length by omega)
                have HNo := Aside0.mk (show (n : Int) ∈ onP g (l.getD i0 zF) by
                  rw [← HOo.out, ← HKs.out, ← hn, List.getD_eq_getElem?_getD, List.getElem?_eq_getElem hlt]
                  exact List.getElem_mem hlt)
                have HLk := HMr.out.look HNl.out
                have e3 : ((j : Int) < (ks.length : Int)) = True := eq_true (by omega)
                have HLj := Aside0.mk hlt
                clear hyin hn
                cases hs : seen2 n with
                | true =>
                  rw [hs] at HLk
                  have HLk' : (Instr.lookup 79 (.map (some m)) (.int .i64 (n : Int)) false).run Tryd.prog U = .ok (.int .i64 1) U := HLk
                  have HSn := Aside0.mk hs
                  clear HLk hs
                  go_wp2_with (fail)
                  go_roundw
                  case rel => exact ⟨j + 1, td2, seen2, by omega, by first | (rw [hw]; done) | (rw [Int.natCast_add]; rfl), HBr, HMr, HQr, ⟨HCr.out.1, fun y hy => by
                    rw [HTk.out] at hy
                    rcases List.mem_append.1 hy with hy | hy
                    · exact HCr.out.2.1 y hy
                    · simp at hy
                      exact ⟨n, hy, HSn.out⟩, HCr.out.2.2⟩, HSr⟩
                  case measure => first | (rw [hw]; simp only [intOf]; omega) | (simp only [intOf]; omega)
                | false =>
                  rw [hs] at HLk
                  have HLk' : (Instr.lookup 79 (.map (some m)) (.int .i64 (n : Int)) false).run Tryd.prog U = .ok (.int .i64 0) U := HLk
                  have HSn := Aside0.mk hs
                  obtain ⟨W5, hrun5, hm5, hg5⟩ := HMr.out.put HNl.out
                  have HM5 := Aside0.mk hm5
                  have HG5 := Aside0.mk hg5
                  have HB5 := Aside0.mk (show Below W2.heap.size W2 W5 from HBr.out.grown hg5 HBr.out.size (fun k e => by have := Hm2.out; cases e; omega))
                  have HQ5 := Aside0.mk (Kd.Q_mono (ok' := fun _ => True) (Kd.Q_grown (Kd.Q_bound HQr.out) hg5 (fun k hk e => by have := Hm3.out; have := hk.2.1; cases e; omega)) (fun _ _ => trivial))
                  have HS5 := Aside0.mk (Nat.le_trans HSr.out hg5.size)
                  have HAL : Aside0 (((nats td2).length + 1) * 8 ≤ 140737488355328) := ⟨by rw [nats_len]; have := HCr.out.2.2.1; have := M2.cnt_le l.length seen2; have := HL8.out; omega⟩
                  have HCn := Aside0.mk (HCr.out.1.push HCr.out.2.2.2.2 HNl.out HNo.out)
                  have HCt := Aside0.mk (show M2.cnt l.length (M2.put seen2 n) = M2.cnt l.length seen2 + 1 by rw [M2.cnt_put _ HNl.out, if_neg (by rw [HSn.out]; simp)])
                  have HCu := Aside0.mk (M2.cnt_le l.length (M2.put seen2 n))
                  have Hm5 := Aside0.mk (show ∀ k, k = m → k < b3 from fun k e => by have := Hm3.out; omega)
                  clear HLk hs hm5 hg5
                  go_wp2_with (first | ((with_reducible refine gate_builtin (b := .append) (xs := #[.tmp 66, .tmp 68]) rfl ?_); at_builtin; refine Kd.Q_append (Kd.int .i64) (w0 := W5) b3 rfl (.tmp 66) (.tmp 68) 30 3 (.int .i64 0) 8 rfl Tryd.underlying30 infoI rfl (by decide) (by omega) u10 (nats td2) (n : Int) [.int .i64 (n : Int)] (fun _ => True) (fun _ => False) rfl rfl rfl (fun _ hk => hk.elim) (fun _ _ => trivial) HQ5.out (Below.refl _ _) HS5.out HAL.out ?_; intro v9 W9 ho hb hg9 hat9))
                  have hbq : ∀ k, u10.ownBlock = some k → b3 ≤ k := fun k hk => Kd.Q_base HQ5.out k hk
                  have HB9 := Aside0.mk (HB5.out.grown hg9 HB5.out.size (fun k e => by have := hbq k e; have := Hm3.out; have := Hm2.out; omega))
                  have HM9 := Aside0.mk (HM5.out.kept hg9 (fun e => by have := hbq m e.symm; have := Hm3.out; omega))
                  have HQ9 := Aside0.mk (show Kd.Q (Kd.int .i64) 3 W9 b3 (fun _ => True) v9 (nats (td2 ++ [n])) from by
                    have : nats (td2 ++ [n]) = nats td2 ++ [(n : Int)] := by simp [nats]
                    rw [this]
                    exact ho)
                  have HS9 := Aside0.mk (Nat.le_trans HS5.out hg9.size)
                  have hlt2 := HLj.out
                  clear ho hb hg9 hat9 hbq
                  go_wp2_with (fail)
                  go_roundw
                  case rel => exact ⟨j + 1, td2 ++ [n], M2.put seen2 n, by omega, by first | (rw [hw]; done) | (rw [Int.natCast_add]; rfl), HB9, HM9, HQ9, ⟨HCn.out, fun y hy => by
                    rw [HTk.out] at hy
                    rcases List.mem_append.1 hy with hy | hy
                    · obtain ⟨m', e, hm'⟩ := HCr.out.2.1 y hy
                      exact ⟨m', e, by unfold M2.put; rw [hm']; simp⟩
                    · simp at hy
                      exact ⟨n, hy, by simp [M2.put]⟩, by rw [HCt.out]; simp; have := HCr.out.2.2.1; omega, by rw [HCt.out]; simp; have := HCr.out.2.2.2.1; have := HCu.out; rw [HCt.out] at this; omega, by unfold M2.put; rw [HCr.out.2.2.2.2]; simp⟩, HS9⟩
                  case measure => first | (rw [hw]; simp only [intOf]; omega) | (simp only [intOf]; omega)
              · obtain rfl : j = ks.length := by omega
                have hcr := HCr.out
                rw [List.take_length] at hcr
                have HClo := Aside0.mk (hcr.1.close HCB.out (by rw [← HOo.out, ← HKs.out]; exact hcr.2.1))
                have HMe := Aside0.mk (msz_of HMr.out)
                clear hcr
                obtain ⟨A8, c8, e8, hc8, hr8⟩ := Kd.Q_reads HQr.out
                rw [nats_len] at e8
                have HE8 := Aside0.mk e8
                clear hr8 hc8 e8
                go_wp2_with (fail)
                go_roundw
                case rel => exact ⟨td2, seen2, HBr, HMr, HQr, HClo, ⟨HCr.out.2.2.1⟩, HSr⟩
                case measure =>
                  rw [HE8.out, HMe.out, HMz.out]
                  simp only [lenV]
                  have := HCr.out.2.2.2.1
                  have := HN9.out
                  have := HCl.out
                  omega
          | true =>
            have HD := Aside0.mk hd
            clear hd
            go_wp2_with (fail)
            refine (members_yes A0 c0 g B Y2 (HX2.out.below HBc.out).gr HX2.out.gc (members_small HC.out)).mono ?_
            rintro e Y3 ⟨v, rfl, hr, hb3⟩
            obtain ⟨A6, c6, rfl, hc6, hr6⟩ := Kd.R_reads hr
            have HDs := Aside0.mk (dyns_yes gb A0 c0 g A6 c6 (membersP g B) Y3 (pw_cell_below hb3 gY) ((HX2.out.below HBc.out).below hb3).gr hr6 hc6 (fun y hy => by have := members_in HC.out HB_.out.1 HB_.out.2 y hy; exact ⟨this.1, this.2.1⟩))
            have HBd := Aside0.mk (HBc.out.trans (hb3.mono HBc.out.size))
            have HMd := Aside0.mk (HMc.out.kept (S5.grown_of_below hb3 none) (by simp))
            have HQd := Aside0.mk (Kd.Q_below HQc.out hb3)
            have HSd := Aside0.mk (Nat.le_trans HSc.out hb3.size)
            have h0 := pw_cell_below hb3 h0
            have h1 := pw_cell_below hb3 h1
            have h2 := pw_cell_below hb3 h2
            clear hr hr6 hc6 hb3 HBc HMc HQc HSc
            go_wp2_with (fail)
            refine HDs.out.mono ?_
            rintro e Y4 ⟨rfl, hb4⟩
            have HBc := Aside0.mk (HBd.out.trans (hb4.mono HBd.out.size))
            have HMc := Aside0.mk (HMd.out.kept (S5.grown_of_below hb4 none) (by simp))
            have HQc := Aside0.mk (Kd.Q_below HQd.out hb4)
            have HSc := Aside0.mk (Nat.le_trans HSd.out hb4.size)
            have h0 := pw_cell_below hb4 h0
            have h1 := pw_cell_below hb4 h1
            have h2 := pw_cell_below hb4 h2
            clear hb4 HDs
            cases hm : (membersP g B).any (dynP g) with
            | false =>
              have HY := Aside0.mk (HCi.out.yes HH.out HS0.out.2 (by rw [← HOo.out]; unfold castB; dsimp only; rw [HD.out, hm]; rfl))
              clear hm
              go_wp2_with (fail)
              go_ret
              rw [HY.out]
              exact ⟨rfl, HB2.out.trans (HBc.out.mono HB2.out.size)⟩
            | true =>
              have HCB := Aside0.mk (show castB g (l.getD i0 zF) = false by rw [← HOo.out]; unfold castB; dsimp only; rw [HD.out, hm]; rfl)
              clear hm
              go_wp2_with (fail)
              have HZZ := Aside0.mk (HX2.out.below HBc.out)
              refine (on_all xb A0 c0 g a B ws Aw cw Y4 HZZ.out.z0 HZZ.out.gr HX2.out.gc (Kd.C_below HWs2.out HBc.out) HWc.out HA.out HOk.out).mono ?_
              rw [← HKs.out]
              rintro e Z ⟨Ao, co, rfl, hco, hon2, hbz⟩
              have HBz := Aside0.mk (HBc.out.trans (hbz.mono HBc.out.size))
              have HQz := Aside0.mk (Kd.Q_below HQc.out hbz)
              have HMz2 := Aside0.mk (HMc.out.kept (S5.grown_of_below hbz none) (by simp))
              have HKC := Aside0.mk (fun (W : World) (hW : Below W2.heap.size W2 W) => hon2 W (Kd.C_below HWs2.out hW))
              have HSz2 := Aside0.mk (Nat.le_trans HSc.out hbz.size)
              have HKl := Aside0.mk (show ks.length ≤ 1000000000 from by rw [HKs.out]; unfold onP; have := HWl.out; split <;> simp <;> omega)
              clear hco hon2 hbz e1 e2 q0 q1 q2 h0 h1 h2 gY hm9'
              go_wp2_with (fail)
              go_loopw [10, 56] (fun v10 v56 wr => ∃ (j : Nat) (td2 : List Nat) (seen2 : Nat → Bool), j ≤ ks.length ∧ v56 = .int .i64 j ∧ Aside0 (Below W2.heap.size W2 wr) ∧ Aside0 (M2.Ms wr m l.length seen2) ∧ Aside0 (Kd.Q (Kd.int .i64) 3 wr b3 (fun _ => True) v10 (nats td2)) ∧ Aside0 (Cs g l k td2 seen2 (some i0) ∧ (∀ y ∈ ks.take j, ∃ n : Nat, y = (n : Int) ∧ seen2 n = true) ∧ td2.length ≤ M2.cnt l.length seen2 ∧ 2 * (l.length - M2.cnt l.length seen2) + td2.length ≤ 2 * (l.length - M2.cnt l.length seen) + td.length ∧ seen2 i0 = true) ∧ Aside0 (b3 ≤ wr.heap.size)) (fun v10 v56 _ => ks.length + 1 - (intOf v56).toNat)
              case atStart => exact ⟨0, td, seen, by omega, rfl, HBz, HMz2, HQz, ⟨HCp.out, fun y hy => by simp at hy, by have := HCc2.out; omega, Nat.le_refl _, HS0.out.2⟩, HSz2⟩
              case round =>
                clear HBz HMz2 HQz HSz2
                obtain ⟨j, td2, seen2, hj, rfl, HBr, HMr, HQr, HCr, HSr⟩ := hrel
                rename World => U
                have hw : wrap64 ((j : Int) + 1) = ((j + 1 : Nat) : Int) := by have := HKl.out; unfold wrap64; omega
                by_cases hlt : j < ks.length
                · obtain ⟨adk, eK, hkm⟩ := ints_at (HKC.out U HBr.out) hlt
                  subst eK
                  have hyin := HOn.out (ks.getD j 0) (by rw [List.getD_eq_getElem?_getD, List.getElem?_eq_getElem hlt]; exact List.getElem_mem hlt)
                  rw [inP_iff] at hyin
                  obtain ⟨n, hn⟩ := Int.eq_ofNat_of_zero_le hyin.1
                  rw [hn] at hkm hyin
                  have HTk := Aside0.mk (show ks.take (j + 1) = ks.take j ++ [(n : Int)] by rw [take_one hlt, hn])
                  have HNl := Aside0.mk (show n < l.length by omega)
                  have HNo := Aside0.mk (show (n : Int) ∈ onP g (l.getD i0 zF) by
                    rw [← HOo.out, ← HKs.out, ← hn, List.getD_eq_getElem?_getD, List.getElem?_eq_getElem hlt]
                    exact List.getElem_mem hlt)
                  have HLk := HMr.out.look HNl.out
                  have e3 : ((j : Int) < (ks.length : Int)) = True := eq_true (by omega)
                  have HLj := Aside0.mk hlt
                  clear hyin hn
                  cases hs : seen2 n with
                  | true =>
                    rw [hs] at HLk
                    have HLk' : (Instr.lookup 79 (.map (some m)) (.int .i64 (n : Int)) false).run Tryd.prog U = .ok (.int .i64 1) U := HLk
                    have HSn := Aside0.mk hs
                    clear HLk hs
                    go_wp2_with (fail)
                    go_roundw
                    case rel => exact ⟨j + 1, td2, seen2, by omega, by first | (rw [hw]; done) | (rw [Int.natCast_add]; rfl), HBr, HMr, HQr, ⟨HCr.out.1, fun y hy => by
                      rw [HTk.out] at hy
                      rcases List.mem_append.1 hy with hy | hy
                      · exact HCr.out.2.1 y hy
                      · simp at hy
                        exact ⟨n, hy, HSn.out⟩, HCr.out.2.2⟩, HSr⟩
                    case measure => first | (rw [hw]; simp only [intOf]; omega) | (simp only [intOf]; omega)
                  | false =>
                    rw [hs] at HLk
                    have HLk' : (Instr.lookup 79 (.map (some m)) (.int .i64 (n : Int)) false).run Tryd.prog U = .ok (.int .i64 0) U := HLk
                    have HSn := Aside0.mk hs
                    obtain ⟨W5, hrun5, hm5, hg5⟩ := HMr.out.put HNl.out
                    have HM5 := Aside0.mk hm5
                    have HG5 := Aside0.mk hg5
                    have HB5 := Aside0.mk (show Below W2.heap.size W2 W5 from HBr.out.grown hg5 HBr.out.size (fun k e => by have := Hm2.out; cases e; omega))
                    have HQ5 := Aside0.mk (Kd.Q_mono (ok' := fun _ => True) (Kd.Q_grown (Kd.Q_bound HQr.out) hg5 (fun k hk e => by have := Hm3.out; have := hk.2.1; cases e; omega)) (fun _ _ => trivial))
                    have HS5 := Aside0.mk (Nat.le_trans HSr.out hg5.size)
                    have HAL : Aside0 (((nats td2).length + 1) * 8 ≤ 140737488355328) := ⟨by rw [nats_len]; have := HCr.out.2.2.1; have := M2.cnt_le l.length seen2; have := HL8.out; omega⟩
                    have HCn := Aside0.mk (HCr.out.1.push HCr.out.2.2.2.2 HNl.out HNo.out)
                    have HCt := Aside0.mk (show M2.cnt l.length (M2.put seen2 n) = M2.cnt l.length seen2 + 1 by rw [M2.cnt_put _ HNl.out, if_neg (by rw [HSn.out]; simp)])
                    have HCu := Aside0.mk (M2.cnt_le l.length (M2.put seen2 n))
                    have Hm5 := Aside0.mk (show ∀ k, k = m → k < b3 from fun k e => by have := Hm3.out; omega)
                    clear HLk hs hm5 hg5
                    go_wp2_with (first | ((with_reducible refine gate_builtin (b := .append) (xs := #[.tmp 66, .tmp 68]) rfl ?_); at_builtin; refine Kd.Q_append (Kd.int .i64) (w0 := W5) b3 rfl (.tmp 66) (.tmp 68) 30 3 (.int .i64 0) 8 rfl Tryd.underlying30 infoI rfl (by decide) (by omega) u10 (nats td2) (n : Int) [.int .i64 (n : Int)] (fun _ => True) (fun _ => False) rfl rfl rfl (fun _ hk => hk.elim) (fun _ _ => trivial) HQ5.out (Below.refl _ _) HS5.out HAL.out ?_; intro v9 W9 ho hb hg9 hat9))
                    have hbq : ∀ k, u10.ownBlock = some k → b3 ≤ k := fun k hk => Kd.Q_base HQ5.out k hk
                    have HB9 := Aside0.mk (HB5.out.grown hg9 HB5.out.size (fun k e => by have := hbq k e; have := Hm3.out; have := Hm2.out; omega))
                    have HM9 := Aside0.mk (HM5.out.kept hg9 (fun e => by have := hbq m e.symm; have := Hm3.out; omega))
                    have HQ9 := Aside0.mk (show Kd.Q (Kd.int .i64) 3 W9 b3 (fun _ => True) v9 (nats (td2 ++ [n])) from by
                      have : nats (td2 ++ [n]) = nats td2 ++ [(n : Int)] := by simp [nats]
                      rw [this]
                      exact ho)
                    have HS9 := Aside0.mk (Nat.le_trans HS5.out hg9.size)
                    have hlt2 := HLj.out
                    clear ho hb hg9 hat9 hbq
                    go_wp2_with (fail)
                    go_roundw
                    case rel => exact ⟨j + 1, td2 ++ [n], M2.put seen2 n, by omega, by first | (rw [hw]; done) | (rw [Int.natCast_add]; rfl), HB9, HM9, HQ9, ⟨HCn.out, fun y hy => by
                      rw [HTk.out] at hy
                      rcases List.mem_append.1 hy with hy | hy
                      · obtain ⟨m', e, hm'⟩ := HCr.out.2.1 y hy
                        exact ⟨m', e, by unfold M2.put; rw [hm']; simp⟩
                      · simp at hy
                        exact ⟨n, hy, by simp [M2.put]⟩, by rw [HCt.out]; simp; have := HCr.out.2.2.1; omega, by rw [HCt.out]; simp; have := HCr.out.2.2.2.1; have := HCu.out; rw [HCt.out] at this; omega, by unfold M2.put; rw [HCr.out.2.2.2.2]; simp⟩, HS9⟩
                    case measure => first | (rw [hw]; simp only [intOf]; omega) | (simp only [intOf]; omega)
                · obtain rfl : j = ks.length := by omega
                  have hcr := HCr.out
                  rw [List.take_length] at hcr
                  have HClo := Aside0.mk (hcr.1.close HCB.out (by rw [← HOo.out, ← HKs.out]; exact hcr.2.1))
                  have HMe := Aside0.mk (msz_of HMr.out)
                  clear hcr
                  obtain ⟨A8, c8, e8, hc8, hr8⟩ := Kd.Q_reads HQr.out
                  rw [nats_len] at e8
                  have HE8 := Aside0.mk e8
                  clear hr8 hc8 e8
                  go_wp2_with (fail)
                  go_roundw
                  case rel => exact ⟨td2, seen2, HBr, HMr, HQr, HClo, ⟨HCr.out.2.2.1⟩, HSr⟩
                  case measure =>
                    rw [HE8.out, HMe.out, HMz.out]
                    simp only [lenV]
                    have := HCr.out.2.2.2.1
                    have := HN9.out
                    have := HCl.out
                    omega
end Go.Proofs.YthkoockcfnbpiaaDoor.W15
