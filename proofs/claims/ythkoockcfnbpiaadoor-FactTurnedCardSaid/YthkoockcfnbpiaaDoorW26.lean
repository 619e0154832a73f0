/- FactTurned walked: it answers true, of all graphs, pairs and numbers. -/
import Derived.Test.YthkoockcfnbpiaaDoorProg
import Derived.Test.YthkoockcfnbpiaaDoorWWords
import Derived.Test.YthkoockcfnbpiaaDoorWLast
import Derived.Test.YthkoockcfnbpiaaDoorW26a
namespace Go.Proofs.YthkoockcfnbpiaaDoor.W26
open Go.RowKit Go.Proofs.YthkoockcfnbpiaaDoorW.PrintWords Go.Proofs.YthkoockcfnbpiaaDoorW.PrintLast Go.Proofs.YthkoockcfnbpiaaDoorW.PrintMore Go.Proofs.YthkoockcfnbpiaaDoor S1 L1 G1 G2 S3 S5 S7 S8 S9 S10 F1 F2 F3 F4 W10 W13 W17 W18 W19 W20 W21 W22 W11 W12 W23b W26a
set_option linter.unusedVariables false
set_option linter.unusedSimpArgs false
def ft12.T12 : Bool × List (List Nat × List Nat) := (true, [([], []), ([0], [0]), ([], []), ([2], [2]), ([], []), ([4], [4]), ([], []), ([6], [6]), ([7], [7]), ([5, 8], [5, 8]), ([9], [9]), ([1, 3, 0, 1, 2, 3, 4, 5, 6, 7, 8, 9, 10], [1, 3]), ([11, 10, 9, 0, 1, 2, 3, 4, 5, 6, 7, 8, 9, 10], [10, 11])])
def ft12.B12 : List Nat := [0, 1, 0, 4, 0, 16, 0, 64, 192, 496, 1008, 2047, 4095]
theorem ft12.tab12 : rtab .any (opsOf Tryd.f6 12) = ft12.T12 := by kernel_rfl
theorem ft12.bits12 : waitsOk ft12.T12.2 ft12.B12 = true := by kernel_rfl
set_option maxHeartbeats 16000000 in
set_option maxRecDepth 100000 in
theorem turned_walk (A : Option Addr) (c : Nat) (l : List GN) (A1 : Option Addr) (c1 : Nat) (ps0 : List (Int × Int)) (t0 t1 t2 : Int) (w : World) (hK : Keys w) (hr : Kd.C P.k45 w A l.length l) (hc : l.length ≤ c) (hf : Kd.C kP w A1 ps0.length ps0) (hfc : ps0.length ≤ c1) :
    Calls Tryd.prog 6 #[.slice A l.length c, .slice A1 ps0.length c1, .agg #[.int .i64 t0, .int .i64 t1, .int .i64 t2]] w fun e w' => e = .returned (.bool true) ∧ Below w.heap.size w w' := by
  have hblk := heap_alloc_new w (.cells #[.int .i64 t0, .int .i64 t1, .int .i64 t2] 49)
  have hbl := below_alloc (Below.refl w.heap.size w) (.cells #[.int .i64 t0, .int .i64 t1, .int .i64 t2] 49)
  have HK := Aside0.mk (hK.below hbl)
  have HR := Aside0.mk (And.intro (Kd.C_below hr hbl) hc)
  have HF := Aside0.mk (And.intro (Kd.C_below hf hbl) hfc)
  have HB0 := Aside0.mk hbl
  have HX := Aside0.mk hblk
  clear hK hr hc hf hfc hblk hbl
  go_enter Tryd.func6, Tryd.ntmps6
  go_wp2_with (fail)
  obtain ⟨qb, hqb⟩ : ∃ q, q = w.heap.size := ⟨_, rfl⟩
  rw [← hqb] at HX ⊢
  clear hqb
  generalize w.alloc (.cells #[.int .i64 t0, .int .i64 t1, .int .i64 t2] 49) = W1 at HK HR HF HB0 HX ⊢
  refine (fine_yes A c l W1 HK.out HR.out.1 HR.out.2).mono ?_
  rintro e W2 ⟨⟨B, d, q, rfl, hq, hd, h16, hck⟩, hb⟩
  have HB2 := Aside0.mk hb
  have HX2 := Aside0.mk (blk_below HX.out hb)
  have HQ := Aside0.mk hq
  have HD := Aside0.mk (And.intro hd h16)
  have HCk := Aside0.mk hck
  clear hq hd hb hck h16
  by_cases hq0 : q.length = 0
  · go_wp2_with (fail)
    refine (works_yes W2 (HK.out.below HB2.out)).mono ?_
    rintro e W3 ⟨rfl, hb⟩
    have HB3 := Aside0.mk (HB2.out.trans (hb.mono HB2.out.size))
    clear hb
    go_wp2_with (fail)
    first | go_ret | go_ret2
    exact ⟨rfl, HB0.out.trans (HB3.out.mono HB0.out.size)⟩
  · have hqz : ((q.length : Int) == 0) = false := by rw [beq_eq_false_iff_ne]; omega
    have hqp : 0 < q.length := by omega
    have HC0 := Aside0.mk (HCk.out (fun e => by rw [e] at hqp; exact absurd hqp (Nat.lt_irrefl 0)))
    clear hq0
    go_wp2_with (fail)
    refine (pairs_yes B d q.length A1 c1 ps0 W2 hqp (by have := HD.out.2; omega) (Kd.C_below HF.out.1 HB2.out) HF.out.2).mono ?_
    rintro e W3 ⟨⟨B1, d1, ps, rfl, hp, hd1, h8, hin⟩, hb⟩
    have HB3 := Aside0.mk (HB2.out.trans (hb.mono HB2.out.size))
    have HX3 := Aside0.mk (blk_below HX2.out hb)
    have HQ3 := Aside0.mk (Kd.C_below HQ.out hb)
    have HP3 := Aside0.mk hp
    have HD1 := Aside0.mk (And.intro hd1 h8)
    have HIn := Aside0.mk hin
    clear hp hd1 h8 hin hb HQ
    go_wp2_with (fail)
    have HBQ := Aside0.mk (HB0.out.trans (HB3.out.mono HB0.out.size))
    clear hqz
    refine (finds_yes B d q B1 d1 ps W3 (HK.out.below HB3.out) HQ3.out HD.out.1 HD.out.2 HP3.out HD1.out.1 (by have := HD1.out.2; omega)).mono ?_
    rintro e Y ⟨hf, hb⟩
    have HBy := Aside0.mk (HB3.out.trans (hb.mono HB3.out.size))
    have HQy := Aside0.mk (Kd.C_below HQ3.out hb)
    have HXy := Aside0.mk (blk_below HX3.out hb)
    have HKy := Aside0.mk (HK.out.below HBy.out)
    have HBY := Aside0.mk (HB0.out.trans (HBy.out.mono HB0.out.size))
    clear hb HQ3 HP3 HX HX2 HX3 HBQ
    rcases find_cases HC0.out HIn.out hf with ⟨hal, rfl⟩ | ⟨hal, fs, ks, hfn, hkl, _, vl, va, rfl, hvl, hva⟩
    · clear hal hf
      dsimp only
      go_wp2_with (fail)
      refine (works_yes Y HKy.out).mono ?_
      rintro e Z ⟨rfl, hb⟩
      have HBz := Aside0.mk (HBY.out.trans (hb.mono HBY.out.size))
      clear hb
      go_wp2_with (fail)
      first | go_ret | go_ret2
      exact ⟨rfl, HBz.out⟩
    · obtain ⟨A5, c5, rfl, hc5, hC5⟩ := Kd.R_reads hvl
      have HFn := Aside0.mk hfn
      have HC5 := Aside0.mk (And.intro hC5 hc5)
      have hfl : fs.length ≤ 256 := Nat.le_trans hfn.good.len (Nat.mul_le_mul HD.out.2 HD.out.2)
      clear hal hf hfn hkl hvl hva hC5 hc5
      dsimp only
      by_cases h0 : fs.length = 0
      · have h0b : ((fs.length : Int) == 0) = true := by rw [h0]; rfl
        clear h0
        go_wp2_with (fail)
        refine (works_yes Y HKy.out).mono ?_
        rintro e Z ⟨rfl, hb⟩
        have HBz := Aside0.mk (HBY.out.trans (hb.mono HBY.out.size))
        clear hb
        go_wp2_with (fail)
        first | go_ret | go_ret2
        exact ⟨rfl, HBz.out⟩
      · have h0b : ((fs.length : Int) == 0) = false := by rw [beq_eq_false_iff_ne]; omega
        have hfp : 0 < fs.length := by omega
        clear h0
        go_wp2_with (fail)
        clear h0b
        refine (copy_yes A5 c5 fs Y HC5.out.1 HC5.out.2 (by omega) (fun f hf => (frm_ok HC0.out (((HFn.out.all HC0.out hf).by_ HC0.out).2.1)).choose_spec.2.2.2.2.2)).mono ?_
        rintro e Z ⟨vm, rfl, hvm, hb⟩
        obtain ⟨gm, cm, rfl, hgm, _, _⟩ := Kd.R_form hvm hfp
        have HBZ := Aside0.mk (HBY.out.trans (hb.mono HBY.out.size))
        have hbZ := hb
        have hxz := blk_below HXy.out hb
        have HM := Aside0.mk hvm
        have HSz := Aside0.mk (show w.heap.size ≤ Y.heap.size from HBY.out.size)
        have u0 := (blk_cell hxz 0).trans rfl
        have HXz := Aside0.mk hxz
        clear hb hvm hgm hxz HXy HBZ
        go_wp2_with (fail)
        refine (bring_yes t0 (fs.length : Int) _ (by omega) (by omega)).mono ?_
        rintro e Z' ⟨k, rfl, ⟨hk0, hk1⟩, e0⟩
        obtain rfl : Z = Z' := e0.symm
        obtain ⟨k, rfl⟩ := Int.eq_ofNat_of_zero_le hk0
        have hkl : k < fs.length := by omega
        clear hk0 hk1
        obtain ⟨v2, z0, z1, z2, hv2, _⟩ := own_fact HM.out k hkl
        obtain ⟨Aw, cw, rfl⟩ := Kd.R_slice hv2
        obtain ⟨o, ho⟩ : ∃ o, o = fs.getD k P.z37 := ⟨_, rfl⟩
        rw [← ho] at z0 z1 z2 hv2
        have hq := heap_alloc_new Z (.cells #[.int .i64 o.f0, .int .i64 o.f1, .slice Aw o.f2.length cw] 37)
        have hbx := below_alloc (Below.refl Z.heap.size Z) (.cells #[.int .i64 o.f0, .int .i64 o.f1, .slice Aw o.f2.length cw] 37)
        have hkm : k ≤ 1000 := by omega
        have u1 := pw_cell_below hbx ((blk_cell HXz.out 1).trans rfl)
        have u2 := pw_cell_below hbx ((blk_cell HXz.out 2).trans rfl)
        have HM1 := Aside0.mk (Kd.R_below (Kd.R_mono (ok' := fun k => k < Z.heap.size) (Kd.R_bound HM.out) (fun k hk => hk.2.2.1)) hbx)
        have HYV := Aside0.mk (hbZ.trans (hbx.mono hbZ.size))
        have HV1 := Aside0.mk (Kd.R_below hv2 hbx)
        have HZs := Aside0.mk (show Y.heap.size ≤ Z.heap.size by have := Kd.R_lt HM.out gm rfl; have := Kd.R_base HM.out gm rfl; omega)
        have n2 := (blk_cell hq 2).trans rfl
        have HQb := Aside0.mk hq
        have HOl := Aside0.mk (show o.f2.length ≤ 1000000000 from by
          rw [ho, List.getD_eq_getElem?_getD, List.getElem?_eq_getElem hkl]
          exact (frm_ok HC0.out (((HFn.out.all HC0.out (List.getElem_mem hkl)).by_ HC0.out).2.1)).choose_spec.2.2.2.2.2)
        clear hv2 hq hbx ho u0 hbZ
        go_wp2_with (fail)
        generalize Z.alloc (.cells #[.int .i64 o.f0, .int .i64 o.f1, .slice Aw o.f2.length cw] 37) = V at u1 u2 n2 HM1 HV1 HYV HQb ⊢
        obtain ⟨fb, hfb⟩ : ∃ fb, fb = Z.heap.size := ⟨_, rfl⟩
        rw [← hfb] at n2 HQb HZs HM1 ⊢
        clear hfb
        have HGm := Aside0.mk (show Y.heap.size ≤ gm from Kd.R_base HM.out gm rfl)
        clear z0 z1 z2 HM HXz
        refine (bring_yes t1 (wrap64 ((o.f2.length : Int) + 2)) V (by have := HOl.out; unfold wrap64; omega) (by have := HOl.out; unfold wrap64; omega)).mono ?_
        rintro e V' ⟨wv, rfl, ⟨hw0, hw1⟩, e0⟩
        obtain rfl : V = V' := e0.symm
        have hw2 : wv < (o.f2.length : Int) + 2 := by have := HOl.out; unfold wrap64 at hw1; omega
        clear hw1 u1
        by_cases hz0 : wv = 0
        · subst hz0
          clear hw0 hw2
          go_wp2_with (fail)
          refine (bring_yes t2 (q.length : Int) V (by omega) (by have := HD.out.2; omega)).mono ?_
          rintro e V' ⟨a', rfl, ⟨ha0, ha1⟩, e0⟩
          obtain rfl : V = V' := e0.symm
          have HM2 := Aside0.mk (Kd.R_mono (ok' := fun _ => True) (Kd.R_far HM1.out (p := ⟨fb, 0, none⟩) (fun k hk => Nat.ne_of_lt hk) (.int .i64 a')) (fun _ _ => trivial))
          have HV2 := Aside0.mk (Kd.R_set HV1.out HQb.out (by decide) 0 (.int .i64 a'))
          have hq2 := blk_put HQb.out 0 (.int .i64 a') rfl
          have n1 := (blk_cell HQb.out 0).trans rfl
          have f1 := blk_frozen HQb.out 0
          have HY2 := Aside0.mk (below_set (j := 0) (v := .int .i64 a') HYV.out (Nat.le_trans HZs.out (Nat.le_refl _)))
          obtain ⟨_, _, _, _, _, cur, hcur, hcs⟩ := own_fact HM2.out k hkl
          obtain ⟨c0_, c1_, c2_, s0, r0, s1, r1, s2, r2⟩ := storeO3 (o := k * 3) hcur hcs (.int .i64 a') (.int .i64 o.f1)
          have n0 := (blk_cell hq2 0).trans rfl
          have n1' := (blk_cell hq2 1).trans rfl
          have n2' := (blk_cell hq2 2).trans rfl
          clear hcur hcs hq2 ha0 ha1 u2 n2
          go_wp2_with (fail)
          clear s0 r0 s1 r1 s2 r2 n0 n1' n2' n1 f1
          have HM3 := Aside0.mk (put_fact HM2.out k hkl a' o.f1 HV2.out)
          have HY3 := Aside0.mk (below_set (j := k * 3 + 2) (v := .slice Aw o.f2.length cw) (below_set (j := k * 3 + 1) (v := .int .i64 o.f1) (below_set (j := k * 3) (v := .int .i64 a') HY2.out HGm.out) HGm.out) HGm.out)
          have HLn := Aside0.mk (show (fs.set k ⟨a', o.f1, o.f2⟩).length = fs.length from List.length_set)
          generalize fs.set k ⟨a', o.f1, o.f2⟩ = m2 at HM3 HLn
          generalize (((V.setCell ⟨fb, 0, none⟩ (.int .i64 a')).setCell ⟨gm, k * 3, none⟩ (.int .i64 a')).setCell ⟨gm, k * 3 + 1, none⟩ (.int .i64 o.f1)).setCell ⟨gm, k * 3 + 2, none⟩ (.slice Aw o.f2.length cw) = U at HM3 HY3 ⊢
          clear HM1 HM2 HV1 HV2 HQb HYV HY2 HZs HGm
          have HKU := Aside0.mk (HKy.out.below HY3.out)
          have HQU := Aside0.mk (Kd.C_below HQy.out HY3.out)
          have HBU := Aside0.mk (HBY.out.trans (HY3.out.mono HBY.out.size))
          obtain ⟨hmn, hmc, hmC⟩ := Kd.R_reads' HM3.out
          have HCm := Aside0.mk hmC
          rw [hmn] at hmc hfl hfp hkl ⊢
          clear hmC HM3 HY3 HLn hmn HQy HKy HBY
          refine (first_yes B d q (some ⟨gm, 0, none⟩) cm m2 U HKU.out HQU.out HD.out.1 HCm.out hmc).mono ?_
          rintro e U2 ⟨rfl, hb⟩
          have HK2 := Aside0.mk (HKU.out.below hb)
          have HQ2 := Aside0.mk (Kd.C_below HQU.out hb)
          have HB2' := Aside0.mk (HBU.out.trans (hb.mono HBU.out.size))
          have HC2 := Aside0.mk (Kd.C_below HCm.out hb)
          clear hb HKU HQU HBU HCm
          obtain ⟨F, hFe⟩ : ∃ F, F = firstP q m2 := ⟨_, rfl⟩
          have HFe := Aside0.mk hFe
          rw [← hFe]
          clear hFe
          dsimp only
          by_cases hz : F.2 = 0
          · have HR := Aside0.mk (firstP_rng (g := q) (l := m2) (by rw [← HFe.out]; exact hz))
            rw [← HFe.out] at HR
            have hb0 : (F.2 != 0) = false := by rw [hz]; rfl
            clear hz
            go_wp2_with (fail)
            clear hb0
            go_loopw [16] (fun v16 wr => ∃ n : Nat, n ≤ m2.length ∧ v16 = .int .i64 n ∧ Aside0 (Below U2.heap.size U2 wr)) (fun v16 _ => m2.length + 1 - (intOf v16).toNat)
            case atStart => exact ⟨0, by omega, rfl, ⟨Below.refl _ _⟩⟩
            case round =>
              rename World => X
              obtain ⟨n, hn, rfl, HBx⟩ := hrel
              have HBX := Aside0.mk (HB2'.out.trans (HBx.out.mono HB2'.out.size))
              by_cases hlt : n < m2.length
              · have hwn := wrap_up hlt (show m2.length ≤ 9223372036854775807 by omega)
                by_cases hm : F.1 = -1
                · have hm1 : (F.1 == -1) = true := by rw [hm]; rfl
                  have HH := Aside0.mk (HR.out.2.2.1 n hlt (.inl hm))
                  clear hm
                  go_wp2_with (fail)
                  refine (holds_at_yes B d q (some ⟨gm, 0, none⟩) cm m2 (n : Int) X (HK2.out.below HBx.out) (Kd.C_below HQ2.out HBx.out) HD.out.1 (Kd.C_below HC2.out HBx.out) hmc).mono ?_
                  rintro e X2 ⟨rfl, hb⟩
                  rw [HH.out]
                  have HBy2 := Aside0.mk (HBx.out.trans (hb.mono HBx.out.size))
                  clear hb
                  go_wp2_with (fail)
                  go_roundw
                  case rel => exact ⟨n + 1, by omega, by first | (rw [hwn]; done) | (rw [Int.natCast_add]; rfl), HBy2⟩
                  case measure => first | (rw [hwn]; simp only [intOf]; omega) | (simp only [intOf]; omega)
                · have hm1 : (F.1 == -1) = false := by rw [beq_eq_false_iff_ne]; exact hm
                  clear hm
                  by_cases hlf : (n : Int) < F.1
                  · have HH := Aside0.mk (HR.out.2.2.1 n hlt (.inr hlf))
                    go_wp2_with (fail)
                    refine (holds_at_yes B d q (some ⟨gm, 0, none⟩) cm m2 (n : Int) X (HK2.out.below HBx.out) (Kd.C_below HQ2.out HBx.out) HD.out.1 (Kd.C_below HC2.out HBx.out) hmc).mono ?_
                    rintro e X2 ⟨rfl, hb⟩
                    rw [HH.out]
                    have HBy2 := Aside0.mk (HBx.out.trans (hb.mono HBx.out.size))
                    clear hb
                    go_wp2_with (fail)
                    go_roundw
                    case rel => exact ⟨n + 1, by omega, by first | (rw [hwn]; done) | (rw [Int.natCast_add]; rfl), HBy2⟩
                    case measure => first | (rw [hwn]; simp only [intOf]; omega) | (simp only [intOf]; omega)
                  · go_wp2_with (fail)
                    go_roundw
                    case rel => exact ⟨n + 1, by omega, by first | (rw [hwn]; done) | (rw [Int.natCast_add]; rfl), HBx⟩
                    case measure => first | (rw [hwn]; simp only [intOf]; omega) | (simp only [intOf]; omega)
              · by_cases hm : F.1 = -1
                · have hm1 : (F.1 == -1) = true := by rw [hm]; rfl
                  clear hm
                  go_wp2_with (fail)
                  refine (works_yes X (HK2.out.below HBx.out)).mono ?_
                  rintro e X2 ⟨rfl, hb⟩
                  have HBy2 := Aside0.mk (HBX.out.trans (hb.mono HBX.out.size))
                  clear hb
                  go_wp2_with (fail)
                  first | go_ret | go_ret2
                  exact ⟨rfl, HBy2.out⟩
                · have hm1 : (F.1 == -1) = false := by rw [beq_eq_false_iff_ne]; exact hm
                  have HH := Aside0.mk (HR.out.2.2.2 (by have := HR.out.2.1; omega))
                  clear hm
                  go_wp2_with (fail)
                  refine (holds_at_yes B d q (some ⟨gm, 0, none⟩) cm m2 F.1 X (HK2.out.below HBx.out) (Kd.C_below HQ2.out HBx.out) HD.out.1 (Kd.C_below HC2.out HBx.out) hmc).mono ?_
                  rintro e X2 ⟨rfl, hb⟩
                  rw [HH.out]
                  have HBy2 := Aside0.mk (HBX.out.trans (hb.mono HBX.out.size))
                  have HKy2 := Aside0.mk ((HK2.out.below HBx.out).below hb)
                  clear hb
                  go_wp2_with (fail)
                  refine (works_yes X2 HKy2.out).mono ?_
                  rintro e X3 ⟨rfl, hb⟩
                  have HBy3 := Aside0.mk (HBy2.out.trans (hb.mono HBy2.out.size))
                  clear hb
                  go_wp2_with (fail)
                  first | go_ret | go_ret2
                  exact ⟨rfl, HBy3.out⟩
          · obtain ⟨hF2, hno⟩ := firstP_bad (g := q) (l := m2) HC0.out (by omega) (by rw [← HFe.out]; exact hz)
            rw [← HFe.out] at hF2
            rw [hF2]
            have HH := Aside0.mk (hno (k : Int))
            clear hz hF2 hno
            go_wp2_with (fail)
            refine (holds_at_yes B d q (some ⟨gm, 0, none⟩) cm m2 (k : Int) U2 HK2.out HQ2.out HD.out.1 HC2.out hmc).mono ?_
            rintro e X2 ⟨rfl, hb⟩
            rw [HH.out]
            have HBy2 := Aside0.mk (HB2'.out.trans (hb.mono HB2'.out.size))
            have HKy2 := Aside0.mk (HK2.out.below hb)
            clear hb
            go_wp2_with (fail)
            refine (works_yes X2 HKy2.out).mono ?_
            rintro e X3 ⟨rfl, hb⟩
            have HBy3 := Aside0.mk (HBy2.out.trans (hb.mono HBy2.out.size))
            clear hb
            go_wp2_with (fail)
            first | go_ret | go_ret2
            exact ⟨rfl, HBy3.out⟩
        · by_cases hz1 : wv = 1
          · subst hz1
            clear hw0 hw2 hz0
            go_wp2_with (fail)
            refine (bring_yes t2 (q.length : Int) V (by omega) (by have := HD.out.2; omega)).mono ?_
            rintro e V' ⟨b', rfl, ⟨ha0, ha1⟩, e0⟩
            obtain rfl : V = V' := e0.symm
            have HM2 := Aside0.mk (Kd.R_mono (ok' := fun _ => True) (Kd.R_far HM1.out (p := ⟨fb, 1, none⟩) (fun k hk => Nat.ne_of_lt hk) (.int .i64 b')) (fun _ _ => trivial))
            have HV2 := Aside0.mk (Kd.R_set HV1.out HQb.out (by decide) 1 (.int .i64 b'))
            have hq2 := blk_put HQb.out 1 (.int .i64 b') rfl
            have n1 := (blk_cell HQb.out 1).trans rfl
            have f1 := blk_frozen HQb.out 1
            have HY2 := Aside0.mk (below_set (j := 1) (v := .int .i64 b') HYV.out (Nat.le_trans HZs.out (Nat.le_refl _)))
            obtain ⟨_, _, _, _, _, cur, hcur, hcs⟩ := own_fact HM2.out k hkl
            obtain ⟨c0_, c1_, c2_, s0, r0, s1, r1, s2, r2⟩ := storeO3 (o := k * 3) hcur hcs (.int .i64 o.f0) (.int .i64 b')
            have n0 := (blk_cell hq2 0).trans rfl
            have n1' := (blk_cell hq2 1).trans rfl
            have n2' := (blk_cell hq2 2).trans rfl
            clear hcur hcs hq2 ha0 ha1 u2 n2
            go_wp2_with (fail)
            clear s0 r0 s1 r1 s2 r2 n0 n1' n2' n1 f1
            have HM3 := Aside0.mk (put_fact HM2.out k hkl o.f0 b' HV2.out)
            have HY3 := Aside0.mk (below_set (j := k * 3 + 2) (v := .slice Aw o.f2.length cw) (below_set (j := k * 3 + 1) (v := .int .i64 b') (below_set (j := k * 3) (v := .int .i64 o.f0) HY2.out HGm.out) HGm.out) HGm.out)
            have HLn := Aside0.mk (show (fs.set k ⟨o.f0, b', o.f2⟩).length = fs.length from List.length_set)
            generalize fs.set k ⟨o.f0, b', o.f2⟩ = m2 at HM3 HLn
            generalize (((V.setCell ⟨fb, 1, none⟩ (.int .i64 b')).setCell ⟨gm, k * 3, none⟩ (.int .i64 o.f0)).setCell ⟨gm, k * 3 + 1, none⟩ (.int .i64 b')).setCell ⟨gm, k * 3 + 2, none⟩ (.slice Aw o.f2.length cw) = U at HM3 HY3 ⊢
            clear HM1 HM2 HV1 HV2 HQb HYV HY2 HZs HGm
            have HKU := Aside0.mk (HKy.out.below HY3.out)
            have HQU := Aside0.mk (Kd.C_below HQy.out HY3.out)
            have HBU := Aside0.mk (HBY.out.trans (HY3.out.mono HBY.out.size))
            obtain ⟨hmn, hmc, hmC⟩ := Kd.R_reads' HM3.out
            have HCm := Aside0.mk hmC
            rw [hmn] at hmc hfl hfp hkl ⊢
            clear hmC HM3 HY3 HLn hmn HQy HKy HBY
            refine (first_yes B d q (some ⟨gm, 0, none⟩) cm m2 U HKU.out HQU.out HD.out.1 HCm.out hmc).mono ?_
            rintro e U2 ⟨rfl, hb⟩
            have HK2 := Aside0.mk (HKU.out.below hb)
            have HQ2 := Aside0.mk (Kd.C_below HQU.out hb)
            have HB2' := Aside0.mk (HBU.out.trans (hb.mono HBU.out.size))
            have HC2 := Aside0.mk (Kd.C_below HCm.out hb)
            clear hb HKU HQU HBU HCm
            obtain ⟨F, hFe⟩ : ∃ F, F = firstP q m2 := ⟨_, rfl⟩
            have HFe := Aside0.mk hFe
            rw [← hFe]
            clear hFe
            dsimp only
            by_cases hz : F.2 = 0
            · have HR := Aside0.mk (firstP_rng (g := q) (l := m2) (by rw [← HFe.out]; exact hz))
              rw [← HFe.out] at HR
              have hb0 : (F.2 != 0) = false := by rw [hz]; rfl
              clear hz
              go_wp2_with (fail)
              clear hb0
              go_loopw [16] (fun v16 wr => ∃ n : Nat, n ≤ m2.length ∧ v16 = .int .i64 n ∧ Aside0 (Below U2.heap.size U2 wr)) (fun v16 _ => m2.length + 1 - (intOf v16).toNat)
              case atStart => exact ⟨0, by omega, rfl, ⟨Below.refl _ _⟩⟩
              case round =>
                rename World => X
                obtain ⟨n, hn, rfl, HBx⟩ := hrel
                have HBX := Aside0.mk (HB2'.out.trans (HBx.out.mono HB2'.out.size))
                by_cases hlt : n < m2.length
                · have hwn := wrap_up hlt (show m2.length ≤ 9223372036854775807 by omega)
                  by_cases hm : F.1 = -1
                  · have hm1 : (F.1 == -1) = true := by rw [hm]; rfl
                    have HH := Aside0.mk (HR.out.2.2.1 n hlt (.inl hm))
                    clear hm
                    go_wp2_with (fail)
                    refine (holds_at_yes B d q (some ⟨gm, 0, none⟩) cm m2 (n : Int) X (HK2.out.below HBx.out) (Kd.C_below HQ2.out HBx.out) HD.out.1 (Kd.C_below HC2.out HBx.out) hmc).mono ?_
                    rintro e X2 ⟨rfl, hb⟩
                    rw [HH.out]
                    have HBy2 := Aside0.mk (HBx.out.trans (hb.mono HBx.out.size))
                    clear hb
                    go_wp2_with (fail)
                    go_roundw
                    case rel => exact ⟨n + 1, by omega, by first | (rw [hwn]; done) | (rw [Int.natCast_add]; rfl), HBy2⟩
                    case measure => first | (rw [hwn]; simp only [intOf]; omega) | (simp only [intOf]; omega)
                  · have hm1 : (F.1 == -1) = false := by rw [beq_eq_false_iff_ne]; exact hm
                    clear hm
                    by_cases hlf : (n : Int) < F.1
                    · have HH := Aside0.mk (HR.out.2.2.1 n hlt (.inr hlf))
                      go_wp2_with (fail)
                      refine (holds_at_yes B d q (some ⟨gm, 0, none⟩) cm m2 (n : Int) X (HK2.out.below HBx.out) (Kd.C_below HQ2.out HBx.out) HD.out.1 (Kd.C_below HC2.out HBx.out) hmc).mono ?_
                      rintro e X2 ⟨rfl, hb⟩
                      rw [HH.out]
                      have HBy2 := Aside0.mk (HBx.out.trans (hb.mono HBx.out.size))
                      clear hb
                      go_wp2_with (fail)
                      go_roundw
                      case rel => exact ⟨n + 1, by omega, by first | (rw [hwn]; done) | (rw [Int.natCast_add]; rfl), HBy2⟩
                      case measure => first | (rw [hwn]; simp only [intOf]; omega) | (simp only [intOf]; omega)
                    · go_wp2_with (fail)
                      go_roundw
                      case rel => exact ⟨n + 1, by omega, by first | (rw [hwn]; done) | (rw [Int.natCast_add]; rfl), HBx⟩
                      case measure => first | (rw [hwn]; simp only [intOf]; omega) | (simp only [intOf]; omega)
                · by_cases hm : F.1 = -1
                  · have hm1 : (F.1 == -1) = true := by rw [hm]; rfl
                    clear hm
                    go_wp2_with (fail)
                    refine (works_yes X (HK2.out.below HBx.out)).mono ?_
                    rintro e X2 ⟨rfl, hb⟩
                    have HBy2 := Aside0.mk (HBX.out.trans (hb.mono HBX.out.size))
                    clear hb
                    go_wp2_with (fail)
                    first | go_ret | go_ret2
                    exact ⟨rfl, HBy2.out⟩
                  · have hm1 : (F.1 == -1) = false := by rw [beq_eq_false_iff_ne]; exact hm
                    have HH := Aside0.mk (HR.out.2.2.2 (by have := HR.out.2.1; omega))
                    clear hm
                    go_wp2_with (fail)
                    refine (holds_at_yes B d q (some ⟨gm, 0, none⟩) cm m2 F.1 X (HK2.out.below HBx.out) (Kd.C_below HQ2.out HBx.out) HD.out.1 (Kd.C_below HC2.out HBx.out) hmc).mono ?_
                    rintro e X2 ⟨rfl, hb⟩
                    rw [HH.out]
                    have HBy2 := Aside0.mk (HBX.out.trans (hb.mono HBX.out.size))
                    have HKy2 := Aside0.mk ((HK2.out.below HBx.out).below hb)
                    clear hb
                    go_wp2_with (fail)
                    refine (works_yes X2 HKy2.out).mono ?_
                    rintro e X3 ⟨rfl, hb⟩
                    have HBy3 := Aside0.mk (HBy2.out.trans (hb.mono HBy2.out.size))
                    clear hb
                    go_wp2_with (fail)
                    first | go_ret | go_ret2
                    exact ⟨rfl, HBy3.out⟩
            · obtain ⟨hF2, hno⟩ := firstP_bad (g := q) (l := m2) HC0.out (by omega) (by rw [← HFe.out]; exact hz)
              rw [← HFe.out] at hF2
              rw [hF2]
              have HH := Aside0.mk (hno (k : Int))
              clear hz hF2 hno
              go_wp2_with (fail)
              refine (holds_at_yes B d q (some ⟨gm, 0, none⟩) cm m2 (k : Int) U2 HK2.out HQ2.out HD.out.1 HC2.out hmc).mono ?_
              rintro e X2 ⟨rfl, hb⟩
              rw [HH.out]
              have HBy2 := Aside0.mk (HB2'.out.trans (hb.mono HB2'.out.size))
              have HKy2 := Aside0.mk (HK2.out.below hb)
              clear hb
              go_wp2_with (fail)
              refine (works_yes X2 HKy2.out).mono ?_
              rintro e X3 ⟨rfl, hb⟩
              have HBy3 := Aside0.mk (HBy2.out.trans (hb.mono HBy2.out.size))
              clear hb
              go_wp2_with (fail)
              first | go_ret | go_ret2
              exact ⟨rfl, HBy3.out⟩
          · obtain ⟨j, hj⟩ := Int.eq_ofNat_of_zero_le (show 0 ≤ wv - 2 by omega)
            have hjl : j < o.f2.length := by omega
            have ej : wrap64 (wv - 2) = (j : Int) := by have := HOl.out; unfold wrap64; omega
            have b0 : (wv == 0) = false := by rw [beq_eq_false_iff_ne]; exact hz0
            have b1 : (wv == 1) = false := by rw [beq_eq_false_iff_ne]; exact hz1
            obtain ⟨gw, cw', e', hgw1, hgw2, cgw, hgw⟩ := Kd.R_form HV1.out (by omega)
            clear hgw1 hgw2
            cases e'
            obtain ⟨y0e, y0f⟩ := Kd.R_celln (0 : Int) HV1.out (j : Int) (Int.natCast_nonneg _) (Int.ofNat_lt.2 hjl)
            rw [Int.toNat_natCast] at y0e y0f
            generalize rdOf (0 : Int) o.f2 (j : Int) = y0 at y0e
            have y0c : V.drew.cell? ⟨gw, j, none⟩ = some (.int .i64 y0) := y0e
            have y0z : V.drew.frozen? ⟨gw, j, none⟩ = false := y0f
            have u2d := drew_cell u2
            have n2d := drew_cell n2
            have HM1d := Aside0.mk (Kd.R_mono (ok' := fun _ => True) (Kd.R_drew HM1.out) (fun _ _ => trivial))
            have HV1d := Aside0.mk (Kd.R_drew HV1.out)
            have HYVd := Aside0.mk (below_drew HYV.out)
            have hqd := Aside0.mk (blk_drew HQb.out)
            have hgd := Aside0.mk (blk_drew hgw)
            have HGw := Aside0.mk (show Y.heap.size ≤ gw from Kd.R_base HV1.out gw rfl)
            clear hz0 hz1 hw0 hw2 hj y0e y0f u2 n2 hgw HM1 HV1 HYV HQb
            go_wp2_with (fail)
            refine start_ (n := 13) (S := fun w' => w'.cell? ⟨qb, 2, none⟩ = some (.int .i64 t2) ∧ w'.cell? ⟨fb, 2, none⟩ = some (.slice (some ⟨gw, 0, none⟩) o.f2.length cw) ∧ w'.cell? ⟨gw, j, none⟩ = some (.int .i64 y0) ∧ w'.frozen? ⟨gw, j, none⟩ = false) (ds := [12]) #[φ,φ,φ,φ,φ,φ,φ,φ,φ,φ,φ,φ,φ] (by kernel_rfl) rfl rfl ⟨u2d, n2d, y0c, y0z⟩ (fun hHeld => ?_)
            generalize V.drew = V1 at u2d n2d y0c y0z HM1d HV1d HYVd hqd hgd hHeld ⊢
            refine with_tabW ft12.tab12 ft12.bits12 (fun HT_ HW_ => ?_)
            refine pure_ (i := 0) (N := some 59) (v := ?_) (a' := ?_) #[τ,φ,φ,φ,φ,φ,φ,φ,φ,φ,φ,φ,φ] rfl rfl (any_of HT_.out (by kernel_rfl)) (fun _ _ _ h => h) (Or.inl ⟨by rfl, ?_⟩) ?_ ?_
            rotate_left; (intro w'; go_simp; with_reducible rfl); rotate_left; (simp only [Act.put, zz1, zz2, zz3, i64_w, i32_w]; rfl)
            refine pure_ (i := 2) (N := some 61) (v := ?_) (a' := ?_) #[τ,φ,τ,φ,φ,φ,φ,φ,φ,φ,φ,φ,φ] rfl rfl (any_of HT_.out (by kernel_rfl)) (fun _ _ _ h => h) (Or.inl ⟨by rfl, ?_⟩) ?_ ?_
            rotate_left; (intro w'; go_simp; with_reducible rfl); rotate_left; (simp only [Act.put, zz1, zz2, zz3, i64_w, i32_w]; rfl)
            refine pure_ (i := 3) (N := some 62) (v := ?_) (a' := ?_) #[τ,φ,τ,τ,φ,φ,φ,φ,φ,φ,φ,φ,φ] rfl rfl (any_of HT_.out (by kernel_rfl)) (fun _ _ _ h => h) (Or.inl ⟨by rfl, ?_⟩) ?_ ?_
            rotate_left; (intro w'; go_simp; with_reducible rfl); rotate_left; (simp only [Act.put, zz1, zz2, zz3, i64_w, i32_w]; rfl)
            refine pure_ (i := 4) (N := some 63) (v := ?_) (a' := ?_) #[τ,φ,τ,τ,τ,φ,φ,φ,φ,φ,φ,φ,φ] rfl rfl (any_of HT_.out (by kernel_rfl)) (fun _ _ _ h => h) (Or.inl ⟨by rfl, ?_⟩) ?_ ?_
            rotate_left; (intro w'; go_simp; with_reducible rfl); rotate_left; (simp only [Act.put, zz1, zz2, zz3, i64_w, i32_w]; rfl)
            refine pure_ (i := 6) (N := some 65) (v := ?_) (a' := ?_) #[τ,φ,τ,τ,τ,φ,τ,φ,φ,φ,φ,φ,φ] rfl rfl (any_of HT_.out (by kernel_rfl)) (fun _ _ _ h => h) (Or.inl ⟨by rfl, ?_⟩) ?_ ?_
            rotate_left; (intro w'; go_simp; with_reducible rfl); rotate_left; (simp only [Act.put, zz1, zz2, zz3, i64_w, i32_w]; rfl)
            refine pure_ (i := 7) (N := some 66) (v := ?_) (a' := ?_) #[τ,φ,τ,τ,τ,φ,τ,τ,φ,φ,φ,φ,φ] rfl rfl (any_of HT_.out (by kernel_rfl)) (fun _ _ _ h => h) (Or.inl ⟨by rfl, ?_⟩) ?_ ?_
            rotate_left; (intro w'; go_simp; with_reducible rfl); rotate_left; (simp only [Act.put, zz1, zz2, zz3, i64_w, i32_w]; rfl)
            refine pure_ (i := 8) (N := some 67) (v := ?_) (a' := ?_) #[τ,φ,τ,τ,τ,φ,τ,τ,τ,φ,φ,φ,φ] rfl rfl (any_of HT_.out (by kernel_rfl)) (fun _ _ _ h => h) (Or.inl ⟨by rfl, ?_⟩) ?_ ?_
            rotate_left; (intro w'; go_simp; with_reducible rfl); rotate_left; (simp only [Act.put, zz1, zz2, zz3, i64_w, i32_w]; rfl)
            refine take_ (i := 1) (N := some 60) (v := ?_) (a' := ?_) #[τ,τ,τ,τ,τ,φ,τ,τ,τ,φ,φ,φ,φ] rfl rfl (take_ofW HT_.out HW_.out (by kernel_rfl)) (fun _ _ _ h => h) (Or.inl ⟨by rfl, ?_⟩) hHeld ?_ ?_
            rotate_left; (rintro w' ⟨s0, s1, s2, s3⟩; go_simp; with_reducible rfl); rotate_left; (simp only [Act.put, zz1, zz2, zz3, i64_w, i32_w]; rfl)
            refine take_ (i := 5) (N := some 64) (v := ?_) (a' := ?_) #[τ,τ,τ,τ,τ,τ,τ,τ,τ,φ,φ,φ,φ] rfl rfl (take_ofW HT_.out HW_.out (by kernel_rfl)) (fun _ _ _ h => h) (Or.inl ⟨by rfl, ?_⟩) hHeld ?_ ?_
            rotate_left; (rintro w' ⟨s0, s1, s2, s3⟩; go_simp; with_reducible rfl); rotate_left; (simp only [Act.put, zz1, zz2, zz3, i64_w, i32_w]; rfl)
            refine one_ (i := 9) (N := some 68) #[τ,τ,τ,τ,τ,τ,τ,τ,τ,τ,φ,φ,φ] rfl rfl (one_of HT_.out (by kernel_rfl)) (by decide) (fun K hK => ?_)
            refine goes_ Tryd.func14 (by kernel_rfl) rfl #[.int .i64 t2, .int .i64 (wrap64 ((fs.length : Int) + 1))] (by rfl) rfl rfl (by simp only [List.map_toArray, List.map_cons, List.map_nil]; rfl) ?_
            with_reducible refine (bring_yes t2 (wrap64 ((fs.length : Int) + 1)) V1 (by unfold wrap64; omega) (by unfold wrap64; omega)).mono ?_
            rintro e Vb ⟨tb, rfl, htb, e0⟩
            refine ⟨_, rfl, ?_⟩
            subst e0
            clear htb
            refine hK.out _ _ ⟨u2d, n2d, y0c, y0z⟩ (fun hHeld => ?_)
            clear hK K
            refine norm_ (a' := ?_) ?_ ?_
            rotate_left
            · show Act.put _ (some 68) _ = _
              simp only [Act.put, zz1, zz2, zz3, i64_w, i32_w]
              rfl
            refine pure_ (i := 10) (N := some 69) (v := ?_) (a' := ?_) #[τ,τ,τ,τ,τ,τ,τ,τ,τ,τ,τ,φ,φ] rfl rfl (any_of HT_.out (by kernel_rfl)) (fun _ _ _ h => h) (Or.inl ⟨by rfl, ?_⟩) ?_ ?_
            rotate_left; (intro w'; go_simp; with_reducible rfl); rotate_left; (simp only [Act.put, zz1, zz2, zz3, i64_w, i32_w]; rfl)
            refine pure_ (i := 11) (N := some 70) (v := ?_) (a' := ?_) #[τ,τ,τ,τ,τ,τ,τ,τ,τ,τ,τ,τ,φ] rfl rfl (any_of HT_.out (by kernel_rfl)) (fun _ _ _ h => h) (Or.inl ⟨by rfl, ?_⟩) ?_ ?_
            rotate_left; (intro w'; go_simp; with_reducible rfl); rotate_left; (simp only [Act.put, zz1, zz2, zz3, i64_w, i32_w]; rfl)
            refine last_ (i := 12) (N := none) #[τ,τ,τ,τ,τ,τ,τ,τ,τ,τ,τ,τ,τ] rfl rfl (one_of HT_.out (by kernel_rfl)) (by decide) (fun K hK => ?_)
            refine skip_ (w1 := ?_) (by rfl) rfl ?_ ?_
            rotate_left
            · go_simp
              rfl
            refine hK.out _ _ ?_
            clear hK K
            refine done_ (done_of HT_.out (by kernel_rfl)) ?_
            obtain ⟨fs2, hfs2, hm2⟩ := R_facts_after HM1d.out hgd.out j (wrap64 (tb - 1))
            obtain ⟨ws2, hws2, hv2⟩ := R_ints_after HV1d.out gw j (wrap64 (tb - 1))
            have HM2 := Aside0.mk hm2
            have HV2 := Aside0.mk hv2
            have hq2 := (blk_far hqd.out (p := ⟨gw, j, none⟩) (fun e => by
              have h2 := hqd.out
              rw [show fb = gw from e] at h2
              have := h2.symm.trans hgd.out
              simp at this) (.int .i64 (wrap64 (tb - 1))))
            have hk2 : k < fs2.length := by rw [hfs2]; exact hkl
            have HY2 := Aside0.mk (below_set (j := j) (v := .int .i64 (wrap64 (tb - 1))) HYVd.out HGw.out)
            obtain ⟨_, _, _, _, _, cur, hcur, hcs⟩ := own_fact HM2.out k hk2
            obtain ⟨c0_, c1_, c2_, s0, r0, s1, r1, s2, r2⟩ := storeO3 (o := k * 3) hcur hcs (.int .i64 o.f0) (.int .i64 o.f1)
            have n0 := (blk_cell hq2 0).trans rfl
            have n1' := (blk_cell hq2 1).trans rfl
            have n2' := (blk_cell hq2 2).trans rfl
            have hfk2 : k < fs.length := hkl
            clear hcur hcs hq2 hm2 hv2 y0c y0z u2d n2d hHeld
            go_wp2_with (fail)
            clear s0 r0 s1 r1 s2 r2 n0 n1' n2'
            have HM3 := Aside0.mk (put_fact HM2.out k hk2 o.f0 o.f1 HV2.out)
            have HY3 := Aside0.mk (below_set (j := k * 3 + 2) (v := .slice (some ⟨gw, 0, none⟩) o.f2.length cw) (below_set (j := k * 3 + 1) (v := .int .i64 o.f1) (below_set (j := k * 3) (v := .int .i64 o.f0) HY2.out HGm.out) HGm.out) HGm.out)
            have HLn := Aside0.mk (show (fs2.set k ⟨o.f0, o.f1, ws2⟩).length = fs.length by rw [List.length_set, hfs2])
            generalize fs2.set k ⟨o.f0, o.f1, ws2⟩ = m2 at HM3 HLn
            generalize ((((Vb.setCell ⟨gw, j, none⟩ (.int .i64 (wrap64 (tb - 1)))).setCell ⟨gm, k * 3, none⟩ (.int .i64 o.f0)).setCell ⟨gm, k * 3 + 1, none⟩ (.int .i64 o.f1)).setCell ⟨gm, k * 3 + 2, none⟩ (.slice (some ⟨gw, 0, none⟩) o.f2.length cw)) = U at HM3 HY3 ⊢
            clear HM1d HM2 HV1d HV2 HYVd HY2 HZs HGm hqd hgd HGw b0 b1 ej hfs2 hws2 hk2 hfk2 hjl
            have HKU := Aside0.mk (HKy.out.below HY3.out)
            have HQU := Aside0.mk (Kd.C_below HQy.out HY3.out)
            have HBU := Aside0.mk (HBY.out.trans (HY3.out.mono HBY.out.size))
            obtain ⟨hmn, hmc, hmC⟩ := Kd.R_reads' HM3.out
            have HCm := Aside0.mk hmC
            rw [hmn] at hmc hfl hfp hkl ⊢
            clear hmC HM3 HY3 HLn hmn HQy HKy HBY
            refine (first_yes B d q (some ⟨gm, 0, none⟩) cm m2 U HKU.out HQU.out HD.out.1 HCm.out hmc).mono ?_
            rintro e U2 ⟨rfl, hb⟩
            have HK2 := Aside0.mk (HKU.out.below hb)
            have HQ2 := Aside0.mk (Kd.C_below HQU.out hb)
            have HB2' := Aside0.mk (HBU.out.trans (hb.mono HBU.out.size))
            have HC2 := Aside0.mk (Kd.C_below HCm.out hb)
            clear hb HKU HQU HBU HCm
            obtain ⟨F, hFe⟩ : ∃ F, F = firstP q m2 := ⟨_, rfl⟩
            have HFe := Aside0.mk hFe
            rw [← hFe]
            clear hFe
            dsimp only
            by_cases hz : F.2 = 0
            · have HR := Aside0.mk (firstP_rng (g := q) (l := m2) (by rw [← HFe.out]; exact hz))
              rw [← HFe.out] at HR
              have hb0 : (F.2 != 0) = false := by rw [hz]; rfl
              clear hz
              go_wp2_with (fail)
              clear hb0
              go_loopw [16] (fun v16 wr => ∃ n : Nat, n ≤ m2.length ∧ v16 = .int .i64 n ∧ Aside0 (Below U2.heap.size U2 wr)) (fun v16 _ => m2.length + 1 - (intOf v16).toNat)
              case atStart => exact ⟨0, by omega, rfl, ⟨Below.refl _ _⟩⟩
              case round =>
                rename World => X
                obtain ⟨n, hn, rfl, HBx⟩ := hrel
                have HBX := Aside0.mk (HB2'.out.trans (HBx.out.mono HB2'.out.size))
                by_cases hlt : n < m2.length
                · have hwn := wrap_up hlt (show m2.length ≤ 9223372036854775807 by omega)
                  by_cases hm : F.1 = -1
                  · have hm1 : (F.1 == -1) = true := by rw [hm]; rfl
                    have HH := Aside0.mk (HR.out.2.2.1 n hlt (.inl hm))
                    clear hm
                    go_wp2_with (fail)
                    refine (holds_at_yes B d q (some ⟨gm, 0, none⟩) cm m2 (n : Int) X (HK2.out.below HBx.out) (Kd.C_below HQ2.out HBx.out) HD.out.1 (Kd.C_below HC2.out HBx.out) hmc).mono ?_
                    rintro e X2 ⟨rfl, hb⟩
                    rw [HH.out]
                    have HBy2 := Aside0.mk (HBx.out.trans (hb.mono HBx.out.size))
                    clear hb
                    go_wp2_with (fail)
                    go_roundw
                    case rel => exact ⟨n + 1, by omega, by first | (rw [hwn]; done) | (rw [Int.natCast_add]; rfl), HBy2⟩
                    case measure => first | (rw [hwn]; simp only [intOf]; omega) | (simp only [intOf]; omega)
                  · have hm1 : (F.1 == -1) = false := by rw [beq_eq_false_iff_ne]; exact hm
                    clear hm
                    by_cases hlf : (n : Int) < F.1
                    · have HH := Aside0.mk (HR.out.2.2.1 n hlt (.inr hlf))
                      go_wp2_with (fail)
                      refine (holds_at_yes B d q (some ⟨gm, 0, none⟩) cm m2 (n : Int) X (HK2.out.below HBx.out) (Kd.C_below HQ2.out HBx.out) HD.out.1 (Kd.C_below HC2.out HBx.out) hmc).mono ?_
                      rintro e X2 ⟨rfl, hb⟩
                      rw [HH.out]
                      have HBy2 := Aside0.mk (HBx.out.trans (hb.mono HBx.out.size))
                      clear hb
                      go_wp2_with (fail)
                      go_roundw
                      case rel => exact ⟨n + 1, by omega, by first | (rw [hwn]; done) | (rw [Int.natCast_add]; rfl), HBy2⟩
                      case measure => first | (rw [hwn]; simp only [intOf]; omega) | (simp only [intOf]; omega)
                    · go_wp2_with (fail)
                      go_roundw
                      case rel => exact ⟨n + 1, by omega, by first | (rw [hwn]; done) | (rw [Int.natCast_add]; rfl), HBx⟩
                      case measure => first | (rw [hwn]; simp only [intOf]; omega) | (simp only [intOf]; omega)
                · by_cases hm : F.1 = -1
                  · have hm1 : (F.1 == -1) = true := by rw [hm]; rfl
                    clear hm
                    go_wp2_with (fail)
                    refine (works_yes X (HK2.out.below HBx.out)).mono ?_
                    rintro e X2 ⟨rfl, hb⟩
                    have HBy2 := Aside0.mk (HBX.out.trans (hb.mono HBX.out.size))
                    clear hb
                    go_wp2_with (fail)
                    first | go_ret | go_ret2
                    exact ⟨rfl, HBy2.out⟩
                  · have hm1 : (F.1 == -1) = false := by rw [beq_eq_false_iff_ne]; exact hm
                    have HH := Aside0.mk (HR.out.2.2.2 (by have := HR.out.2.1; omega))
                    clear hm
                    go_wp2_with (fail)
                    refine (holds_at_yes B d q (some ⟨gm, 0, none⟩) cm m2 F.1 X (HK2.out.below HBx.out) (Kd.C_below HQ2.out HBx.out) HD.out.1 (Kd.C_below HC2.out HBx.out) hmc).mono ?_
                    rintro e X2 ⟨rfl, hb⟩
                    rw [HH.out]
                    have HBy2 := Aside0.mk (HBX.out.trans (hb.mono HBX.out.size))
                    have HKy2 := Aside0.mk ((HK2.out.below HBx.out).below hb)
                    clear hb
                    go_wp2_with (fail)
                    refine (works_yes X2 HKy2.out).mono ?_
                    rintro e X3 ⟨rfl, hb⟩
                    have HBy3 := Aside0.mk (HBy2.out.trans (hb.mono HBy2.out.size))
                    clear hb
                    go_wp2_with (fail)
                    first | go_ret | go_ret2
                    exact ⟨rfl, HBy3.out⟩
            · obtain ⟨hF2, hno⟩ := firstP_bad (g := q) (l := m2) HC0.out (by omega) (by rw [← HFe.out]; exact hz)
              rw [← HFe.out] at hF2
              rw [hF2]
              have HH := Aside0.mk (hno (k : Int))
              clear hz hF2 hno
              go_wp2_with (fail)
              refine (holds_at_yes B d q (some ⟨gm, 0, none⟩) cm m2 (k : Int) U2 HK2.out HQ2.out HD.out.1 HC2.out hmc).mono ?_
              rintro e X2 ⟨rfl, hb⟩
              rw [HH.out]
              have HBy2 := Aside0.mk (HB2'.out.trans (hb.mono HB2'.out.size))
              have HKy2 := Aside0.mk (HK2.out.below hb)
              clear hb
              go_wp2_with (fail)
              refine (works_yes X2 HKy2.out).mono ?_
              rintro e X3 ⟨rfl, hb⟩
              have HBy3 := Aside0.mk (HBy2.out.trans (hb.mono HBy2.out.size))
              clear hb
              go_wp2_with (fail)
              first | go_ret | go_ret2
              exact ⟨rfl, HBy3.out⟩
end Go.Proofs.YthkoockcfnbpiaaDoor.W26
