/- FactCasts walked: it answers true, of all graphs and pairs. -/
import Derived.Test.YthkoockcfnbpiaaDoorProg
import Derived.Test.YthkoockcfnbpiaaDoorWWords
import Derived.Test.YthkoockcfnbpiaaDoorWLast
import Derived.Test.YthkoockcfnbpiaaDoorW26a
namespace Go.Proofs.YthkoockcfnbpiaaDoor.W25
open Go.RowKit Go.Proofs.YthkoockcfnbpiaaDoorW.PrintWords Go.Proofs.YthkoockcfnbpiaaDoorW.PrintLast Go.Proofs.YthkoockcfnbpiaaDoorW.PrintMore Go.Proofs.YthkoockcfnbpiaaDoor S1 L1 G1 G2 S3 S5 S7 S8 S9 S10 F1 F2 F3 F4 W10 W13 W15 W17 W18 W19 W20 W21 W22 W23b
set_option linter.unusedVariables false
set_option linter.unusedSimpArgs false
/-- No node is a TDyn. -/
def noneB (g : List GN) : Bool := g.all fun x => x.f0 != 1
theorem noneB_take {g : List GN} {i : Nat} (hi : i < g.length) : noneB (g.take (i + 1)) = (noneB (g.take i) && ((nd g (i : Int)).f0 != 1)) := by
  unfold noneB nd
  rw [List.take_add_one, List.all_append, Int.toNat_natCast, List.getD_eq_getElem?_getD, List.getElem?_eq_getElem hi]
  simp
theorem noneB_ne {g : List GN} (h : noneB g = true) (n : Int) (h0 : 0 ≤ n) (h1 : n < g.length) : (nd g n).f0 ≠ 1 := by
  have := List.all_eq_true.1 h _ (nd_mem h0 h1)
  simpa using this
theorem anyD_take {g : List GN} {m : List Int} {i : Nat} (hi : i < m.length) : (m.take (i + 1)).any (dynP g) = ((m.take i).any (dynP g) || dynP g (rd m (i : Int))) := by
  unfold rd
  rw [List.take_add_one, List.any_append, Int.toNat_natCast, List.getD_eq_getElem?_getD, List.getElem?_eq_getElem hi]
  simp
/-- What is known of a fact that is found. -/
theorem fnd_fact {g : List GN} (hc : checkP g = 0) (h16 : g.length ≤ 16) {l : List FC} {ks : List Int} {ps : List (Int × Int)} (h : Fnd g [] l ks ps) {k : Nat} (hk : k < l.length) {f : FC} (hf : f = P.rd_T37 l (k : Int)) :
    ∃ a b : Nat, f.f0 = (a : Int) ∧ f.f1 = (b : Int) ∧ a < g.length ∧ b < g.length ∧ (noneB g = true → castsP g l (k : Int) = false) ∧ ((nd g (a : Int)).f0 = 1 → castsP g l (k : Int) = !(membersP g (b : Int)).any (dynP g)) ∧
      ((nd g (a : Int)).f0 = 1 → noneB g = false) ∧ (castsP g l (k : Int) = false → ∀ n : Nat, n < f.f2.length → (0 < n ∨ (nd g (a : Int)).f0 = 8) → castsP g l (rd f.f2 (n : Int)) = false) := by
  have hfk : l[(k : Int).toNat]? = some f := by
    rw [hf]
    unfold P.rd_T37
    rw [Int.toNat_natCast, List.getD_eq_getElem?_getD, List.getElem?_eq_getElem hk]
    rfl
  have hm : f ∈ l := List.mem_of_getElem? hfk
  have hd := h.all hc hm
  have hp := hd.pr
  obtain ⟨a, ha⟩ := Int.eq_ofNat_of_zero_le hp.a0
  obtain ⟨b, hb⟩ := Int.eq_ofNat_of_zero_le hp.b0
  have ha1 := hp.a1
  have hb1 := hp.b1
  dsimp only at ha hb ha1 hb1
  have hk0 : hasFP g l (k : Int) = true := has_of (h.check hc h16) (by omega) (by omega)
  refine ⟨a, b, ha, hb, by omega, by omega, fun hn => ?_, fun h1 => ?_, fun h1 => ?_, fun hcf n hn hor => ?_⟩
  · exact casts_none (noneB_ne hn) fun f hf => ⟨(h.all hc hf).pr.a0, (h.all hc hf).pr.a1⟩
  · rw [← ha] at h1
    rw [← hb]
    exact casts_dyn hk0 hfk h1 (done_dyn hc hd h1)
  · cases hn : noneB g with
    | false => rfl
    | true => exact absurd h1 (noneB_ne hn _ (by omega) (by omega))
  · refine casts_on hk0 hfk ?_ hcf
    unfold onP rd
    rw [ha, Int.toNat_natCast, List.getD_eq_getElem?_getD, List.getElem?_eq_getElem hn]
    show f.f2[n] ∈ _
    split
    · exact List.getElem_mem hn
    · rename_i h8
      have hn0 : 0 < n := by
        rcases hor with h | h
        · exact h
        · exact absurd h h8
      obtain ⟨m, rfl⟩ : ∃ m, n = m + 1 := ⟨n - 1, by omega⟩
      rw [List.mem_iff_getElem?]
      exact ⟨m, by rw [List.getElem?_drop, show 1 + m = m + 1 by omega, List.getElem?_eq_getElem hn]⟩
set_option maxHeartbeats 16000000 in
set_option maxRecDepth 100000 in
theorem casts_walk (A : Option Addr) (c : Nat) (l : List GN) (A1 : Option Addr) (c1 : Nat) (ps0 : List (Int × Int)) (w : World) (hK : Keys w) (hr : Kd.C P.k45 w A l.length l) (hc : l.length ≤ c) (hf : Kd.C kP w A1 ps0.length ps0) (hfc : ps0.length ≤ c1) :
    Calls Tryd.prog 5 #[.slice A l.length c, .slice A1 ps0.length c1] w fun e w' => e = .returned (.bool true) ∧ Below w.heap.size w w' := by
  have HK := Aside0.mk hK
  have HR := Aside0.mk (And.intro hr hc)
  have HF := Aside0.mk (And.intro hf hfc)
  clear hK hr hc hf hfc
  go_enter Tryd.func5, Tryd.ntmps5
  go_wp2_with (fail)
  refine (fine_yes A c l w HK.out HR.out.1 HR.out.2).mono ?_
  rintro e W2 ⟨⟨B, d, q, rfl, hq, hd, h16, hck⟩, hb⟩
  have HB2 := Aside0.mk hb
  have HQ := Aside0.mk hq
  have HD := Aside0.mk (And.intro hd h16)
  have HCk := Aside0.mk hck
  clear hq hd hb hck h16
  by_cases hq0 : q.length = 0
  · go_wp2_with (fail)
    refine (works_yes W2 (HK.out.below HB2.out)).mono ?_
    rintro e W3 ⟨rfl, hb⟩
    have HB3 := Aside0.mk (HB2.out.trans (hb.mono HB2.out.size))
    clear hb
    go_wp2_with (fail)
    first | go_ret | go_ret2
    exact ⟨rfl, HB3.out⟩
  · have hqz : ((q.length : Int) == 0) = false := by rw [beq_eq_false_iff_ne]; omega
    have hqp : 0 < q.length := by omega
    have HC0 := Aside0.mk (HCk.out (fun e => by rw [e] at hqp; exact absurd hqp (Nat.lt_irrefl 0)))
    clear hq0
    go_wp2_with (fail)
    clear hqz
    refine (pairs_yes B d q.length A1 c1 ps0 W2 hqp (by have := HD.out.2; omega) (Kd.C_below HF.out.1 HB2.out) HF.out.2).mono ?_
    rintro e W3 ⟨⟨B1, d1, ps, rfl, hp, hd1, h8, hin⟩, hb⟩
    have HB3 := Aside0.mk (HB2.out.trans (hb.mono HB2.out.size))
    have HQ3 := Aside0.mk (Kd.C_below HQ.out hb)
    have HP3 := Aside0.mk hp
    have HD1 := Aside0.mk (And.intro hd1 h8)
    have HIn := Aside0.mk hin
    clear hp hd1 h8 hin hb HQ
    go_wp2_with (fail)
    refine (finds_yes B d q B1 d1 ps W3 (HK.out.below HB3.out) HQ3.out HD.out.1 HD.out.2 HP3.out HD1.out.1 (by have := HD1.out.2; omega)).mono ?_
    rintro e Y ⟨hf, hb⟩
    have HBy := Aside0.mk (HB3.out.trans (hb.mono HB3.out.size))
    have HQy := Aside0.mk (Kd.C_below HQ3.out hb)
    clear hb HQ3 HP3
    rcases find_cases HC0.out HIn.out hf with ⟨hal, rfl⟩ | ⟨hal, fs, ks, hfn, hkl, _, vl, va, rfl, hvl, hva⟩
    · clear hal hf
      dsimp only
      go_wp2_with (fail)
      refine (works_yes Y (HK.out.below HBy.out)).mono ?_
      rintro e Z ⟨rfl, hb⟩
      have HBz := Aside0.mk (HBy.out.trans (hb.mono HBy.out.size))
      clear hb
      go_wp2_with (fail)
      first | go_ret | go_ret2
      exact ⟨rfl, HBz.out⟩
    · obtain ⟨A5, c5, rfl, hc5, hC5⟩ := Kd.R_reads hvl
      have HFn := Aside0.mk hfn
      have HC5 := Aside0.mk (And.intro hC5 hc5)
      have hfl : fs.length ≤ 256 := Nat.le_trans hfn.good.len (Nat.mul_le_mul HD.out.2 HD.out.2)
      have hql : q.length ≤ 16 := HD.out.2
      clear hal hf hfn hkl hvl hva hC5 hc5
      dsimp only
      go_wp2_with (fail)
      go_loopw [8, 9] (fun v8 v9 wr => ∃ i : Nat, i ≤ q.length ∧ v9 = .int .i64 i ∧ v8 = .bool (noneB (q.take i)) ∧ wr = Y) (fun _ v9 _ => q.length + 1 - (intOf v9).toNat)
      case atStart => exact ⟨0, by omega, rfl, rfl, rfl⟩
      case round =>
        obtain ⟨i, hi, rfl, rfl, rfl⟩ := hrel
        rename World => Y
        by_cases hlt : i < q.length
        · have hwi : wrap64 ((i : Int) + 1) = ((i + 1 : Nat) : Int) := by unfold wrap64; omega
          have HTk := Aside0.mk (noneB_take hlt)
          cases hn : noneB (q.take i) with
          | false =>
            rw [hn] at HTk
            clear hn
            go_wp2_with (fail)
            go_roundw
            case rel => exact ⟨i + 1, by omega, by first | (rw [hwi]; done) | (rw [Int.natCast_add]; rfl), by rw [HTk.out]; rfl, trivial⟩
            case measure => first | (rw [hwi]; simp only [intOf]; omega) | (simp only [intOf]; omega)
          | true =>
            rw [hn] at HTk
            obtain ⟨ad, eA, z0⟩ := g_at HQy.out i hlt
            subst eA
            generalize nd q (i : Int) = x at z0 HTk
            clear hn
            go_wp2_with (fail)
            go_roundw
            case rel => exact ⟨i + 1, by omega, by first | (rw [hwi]; done) | (rw [Int.natCast_add]; rfl), by rw [HTk.out]; rfl, trivial⟩
            case measure => first | (rw [hwi]; simp only [intOf]; omega) | (simp only [intOf]; omega)
        · obtain rfl : i = q.length := by omega
          rw [List.take_length]
          clear hlt hi
          obtain ⟨N, hN⟩ : ∃ N, N = noneB q := ⟨_, rfl⟩
          have HN := Aside0.mk hN
          rw [← hN]
          clear hN
          go_wp2_with (fail)
          go_loopw [10] (fun v10 wr => ∃ k : Nat, k ≤ fs.length ∧ v10 = .int .i64 k ∧ Aside0 (Below Y.heap.size Y wr)) (fun v10 _ => fs.length + 1 - (intOf v10).toNat)
          case atStart => exact ⟨0, by omega, rfl, ⟨Below.refl _ _⟩⟩
          case round =>
            rename World => X
            obtain ⟨k, hk, rfl, HBx⟩ := hrel
            have HBX := Aside0.mk (HBy.out.trans (HBx.out.mono HBy.out.size))
            by_cases hlt : k < fs.length
            · have hwk : wrap64 ((k : Int) + 1) = ((k + 1 : Nat) : Int) := by unfold wrap64; omega
              obtain ⟨f, hfe⟩ : ∃ f, f = P.rd_T37 fs (k : Int) := ⟨_, rfl⟩
              obtain ⟨a, b, ea, eb, ha, hb, H1, H2, H3, H4⟩ := fnd_fact HC0.out HD.out.2 HFn.out hlt hfe
              obtain ⟨ad5, Aw, cw, e5, x0, x1, x2, HWs⟩ := f_at3 (Kd.C_below HC5.out.1 HBx.out) k hlt
              subst e5
              rw [← hfe] at x0 x1 x2 HWs
              rw [ea] at x0
              rw [eb] at x1
              obtain ⟨ws, hwse⟩ : ∃ ws, ws = f.f2 := ⟨_, rfl⟩
              rw [← hwse] at x2 HWs H4
              obtain ⟨ad, eA, z0⟩ := g_at (Kd.C_below HQy.out HBx.out) a ha
              subst eA
              obtain ⟨x, hx⟩ : ∃ x, x = nd q (a : Int) := ⟨_, rfl⟩
              rw [← hx] at z0 H2 H3 H4
              obtain ⟨I, hI⟩ : ∃ I, I = castsP q fs (k : Int) := ⟨_, rfl⟩
              rw [← hI] at H1 H2 H4
              rw [← HN.out] at H1 H3
              have HI := Aside0.mk hI
              have HM := Aside0.mk (members_in HC0.out (n := (b : Int)) (by omega) (by omega))
              have HMs := Aside0.mk (members_small HC0.out)
              replace H1 := Aside0.mk H1
              replace H2 := Aside0.mk H2
              replace H3 := Aside0.mk H3
              replace H4 := Aside0.mk H4
              clear hfe ea eb hwse hx hI
              go_wp2_with (fail)
              rename (0 ≤ (a : Int) ∧ ¬q.length ≤ a) => hbad
              clear hbad
              refine (casts_yes (some ad) d q (some ad5) c5 fs (k : Int) X (HK.out.below HBX.out) (Kd.C_below HQy.out HBx.out) HD.out.1 (Kd.C_below HC5.out.1 HBx.out) HC5.out.2).mono ?_
              rintro e X2 ⟨rfl, hb2⟩
              rw [← HI.out]
              have HB2x := Aside0.mk (HBx.out.trans (hb2.mono HBx.out.size))
              replace x0 := pw_cell_below hb2 x0
              replace x1 := pw_cell_below hb2 x1
              replace x2 := pw_cell_below hb2 x2
              replace z0 := pw_cell_below hb2 z0
              have HWs2 := Aside0.mk (Kd.C_below HWs.out.2 hb2)
              clear hb2 HBX HWs
              go_wp2_with (fail)
              refine (members_yes (some ad) d q (b : Int) X2 (Kd.C_below HQy.out HB2x.out) HD.out.1 HMs.out).mono ?_
              rintro e X3 ⟨vm, rfl, hvm, hb3⟩
              obtain ⟨Am, cm, rfl, hcm, hCm⟩ := Kd.R_reads hvm
              have HB3x := Aside0.mk (HB2x.out.trans (hb3.mono HB2x.out.size))
              replace x0 := pw_cell_below hb3 x0
              replace x1 := pw_cell_below hb3 x1
              replace x2 := pw_cell_below hb3 x2
              replace z0 := pw_cell_below hb3 z0
              have HWs3 := Aside0.mk (Kd.C_below HWs2.out hb3)
              have HCm := Aside0.mk hCm
              obtain ⟨m, hm⟩ : ∃ m, m = membersP q (b : Int) := ⟨_, rfl⟩
              rw [← hm] at HCm HM H2 hcm ⊢
              clear hb3 HB2x HWs2 hvm hCm hm
              go_wp2_with (fail)
              go_loopw [13, 14] (fun v13 v14 wr => ∃ j : Nat, j ≤ m.length ∧ v14 = .int .i64 j ∧ v13 = .bool ((m.take j).any (dynP q)) ∧ wr = X3) (fun _ v14 _ => m.length + 1 - (intOf v14).toNat)
              case atStart => exact ⟨0, by omega, rfl, rfl, rfl⟩
              case round =>
                obtain ⟨j, hj, rfl, rfl, rfl⟩ := hrel
                rename World => X3
                by_cases hltj : j < m.length
                · have hwj := wrap_up hltj HCm.out.2.1
                  have HTk := Aside0.mk (anyD_take (g := q) hltj)
                  cases hn : (m.take j).any (dynP q) with
                  | true =>
                    rw [hn] at HTk
                    clear hn
                    go_wp2_with (fail)
                    go_roundw
                    case rel => exact ⟨j + 1, by omega, by first | (rw [hwj]; done) | (rw [Int.natCast_add]; rfl), by rw [HTk.out]; rfl, trivial⟩
                    case measure => first | (rw [hwj]; simp only [intOf]; omega) | (simp only [intOf]; omega)
                  | false =>
                    rw [hn] at HTk
                    obtain ⟨adm, em, y0⟩ := i_at HCm.out j hltj
                    subst em
                    have hin := HM.out (rd m (j : Int)) (by
                      unfold rd
                      rw [Int.toNat_natCast, List.getD_eq_getElem?_getD, List.getElem?_eq_getElem hltj]
                      exact List.getElem_mem _)
                    generalize rd m (j : Int) = y at y0 hin HTk
                    obtain ⟨hin0, hin1, hin2⟩ := hin
                    obtain ⟨y, rfl⟩ := Int.eq_ofNat_of_zero_le hin0
                    have hyq : y < q.length := by omega
                    obtain ⟨adq, eA, u0⟩ := g_at (Kd.C_below HQy.out HB3x.out) y hyq
                    cases eA
                    have HDy := Aside0.mk (show dynP q (y : Int) = ((nd q (y : Int)).f0 == 1) from rfl)
                    rw [HDy.out] at HTk
                    generalize nd q (y : Int) = x5 at u0 HTk
                    clear hn hin0 hin1 hin2 HDy
                    go_wp2_with (fail)
                    go_roundw
                    case rel => exact ⟨j + 1, by omega, by first | (rw [hwj]; done) | (rw [Int.natCast_add]; rfl), by rw [HTk.out]; rfl, trivial⟩
                    case measure => first | (rw [hwj]; simp only [intOf]; omega) | (simp only [intOf]; omega)
                · obtain rfl : j = m.length := by omega
                  rw [List.take_length]
                  obtain ⟨Fr, hFr⟩ : ∃ Fr, Fr = m.any (dynP q) := ⟨_, rfl⟩
                  have HFr := Aside0.mk hFr
                  rw [← hFr]
                  clear hltj hj hFr
                  by_cases h1 : x.f0 = 1
                  · have hx1 : (x.f0 == 1) = true := by simp [h1]
                    have hIF := H2.out h1
                    rw [← HFr.out] at hIF
                    obtain rfl := H3.out h1
                    subst hIF
                    clear h1
                    cases Fr with
                    | true =>
                      simp only [Bool.not_true]
                      go_wp2_with (fail)
                      go_roundw
                      case rel => exact ⟨k + 1, by omega, by first | (rw [hwk]; done) | (rw [Int.natCast_add]; rfl), HB3x⟩
                      case measure => first | (rw [hwk]; simp only [intOf]; omega) | (simp only [intOf]; omega)
                    | false =>
                      simp only [Bool.not_false]
                      go_wp2_with (fail)
                      go_roundw
                      case rel => exact ⟨k + 1, by omega, by first | (rw [hwk]; done) | (rw [Int.natCast_add]; rfl), HB3x⟩
                      case measure => first | (rw [hwk]; simp only [intOf]; omega) | (simp only [intOf]; omega)
                  · have hx1 : (x.f0 == 1) = false := by simp [h1]
                    clear h1
                    cases I with
                    | true =>
                      obtain rfl : N = false := by
                        cases N with
                        | false => rfl
                        | true => exact absurd (H1.out rfl) (by simp)
                      go_wp2_with (fail)
                      go_roundw
                      case rel => exact ⟨k + 1, by omega, by first | (rw [hwk]; done) | (rw [Int.natCast_add]; rfl), HB3x⟩
                      case measure => first | (rw [hwk]; simp only [intOf]; omega) | (simp only [intOf]; omega)
                    | false =>
                      have HWy := Aside0.mk (H4.out rfl)
                      cases N with
                      | false =>
                        go_wp2_with (fail)
                        have HAll := Aside0.mk (And.intro hwk (And.intro hk (And.intro hfl hql)))
                        clear hx1 hwk hk hfl hql hb hcm hqp x1
                        go_loopw [16] (fun v16 wr => ∃ n : Nat, n ≤ ws.length ∧ v16 = .int .i64 n ∧ Aside0 (Below X3.heap.size X3 wr)) (fun v16 _ => ws.length + 1 - (intOf v16).toNat)
                        case atStart => exact ⟨0, by omega, rfl, ⟨Below.refl _ _⟩⟩
                        case round =>
                          rename World => V
                          obtain ⟨n, hn, rfl, HBr⟩ := hrel
                          have HBv := Aside0.mk (HB3x.out.trans (HBr.out.mono HB3x.out.size))
                          replace x0 := pw_cell_below HBr.out x0
                          replace x2 := pw_cell_below HBr.out x2
                          replace z0 := pw_cell_below HBr.out z0
                          by_cases hltn : n < ws.length
                          · have hwn := wrap_up hltn HWs3.out.2.1
                            obtain ⟨adw, ew, y0⟩ := i_at (Kd.C_below HWs3.out HBr.out) n hltn
                            subst ew
                            have HWn := Aside0.mk (HWy.out n hltn)
                            generalize rd ws (n : Int) = t at y0 HWn
                            by_cases hn0 : 0 < n
                            · have HCn := Aside0.mk (HWn.out (.inl hn0))
                              have p1 := eq_true hn0
                              have p0 : (n = 0) = False := eq_false (Nat.pos_iff_ne_zero.1 hn0)
                              clear hn0
                              go_wp2_with (fail)
                              clear p0 p1
                              refine (casts_yes (some ad) d q (some ad5) c5 fs t V (HK.out.below (HBy.out.trans (HBv.out.mono HBy.out.size))) (Kd.C_below HQy.out HBv.out) HD.out.1 (Kd.C_below HC5.out.1 HBv.out) HC5.out.2).mono ?_
                              rintro e V2 ⟨rfl, hbv⟩
                              rw [HCn.out]
                              have HBv2 := Aside0.mk (HBv.out.trans (hbv.mono HBv.out.size))
                              have HBr2 := Aside0.mk (HBr.out.trans (hbv.mono HBr.out.size))
                              clear hbv
                              go_wp2_with (fail)
                              go_roundw
                              case rel => exact ⟨n + 1, by omega, by first | (rw [hwn]; done) | (rw [Int.natCast_add]; rfl), HBr2⟩
                              case measure => first | (rw [hwn]; simp only [intOf]; omega) | (simp only [intOf]; omega)
                            · obtain rfl : n = 0 := Nat.eq_zero_of_not_pos hn0
                              rw [S3.add_zero_] at y0
                              clear hn0
                              by_cases h8 : x.f0 = 8
                              · have HCn := Aside0.mk (HWn.out (.inr h8))
                                have hx8 : (x.f0 == 8) = true := by simp [h8]
                                clear h8
                                go_wp2_with (fail)
                                refine (casts_yes (some ad) d q (some ad5) c5 fs t V (HK.out.below (HBy.out.trans (HBv.out.mono HBy.out.size))) (Kd.C_below HQy.out HBv.out) HD.out.1 (Kd.C_below HC5.out.1 HBv.out) HC5.out.2).mono ?_
                                rintro e V2 ⟨rfl, hbv⟩
                                rw [HCn.out]
                                have HBv2 := Aside0.mk (HBv.out.trans (hbv.mono HBv.out.size))
                                have HBr2 := Aside0.mk (HBr.out.trans (hbv.mono HBr.out.size))
                                clear hbv
                                go_wp2_with (fail)
                                go_roundw
                                case rel => exact ⟨1, by omega, by first | rfl | (rw [hwn]; done) | (rw [Int.natCast_add]; rfl), HBr2⟩
                                case measure => first | (rw [hwn]; simp only [intOf]; omega) | (simp only [intOf]; omega)
                              · have hx8 : (x.f0 == 8) = false := by simp [h8]
                                clear h8
                                go_wp2_with (fail)
                                go_roundw
                                case rel => exact ⟨1, by omega, by first | rfl | (rw [hwn]; done) | (rw [Int.natCast_add]; rfl), HBr⟩
                                case measure => first | (rw [hwn]; simp only [intOf]; omega) | (simp only [intOf]; omega)
                          · go_wp2_with (fail)
                            obtain ⟨⟨hwk, hk, hfl, hql⟩⟩ := HAll
                            go_roundw
                            case rel => exact ⟨k + 1, by omega, by first | (rw [hwk]; done) | (rw [Int.natCast_add]; rfl), HBv⟩
                            case measure => first | (rw [hwk]; simp only [intOf]; omega) | (simp only [intOf]; omega)
                      | true =>
                        go_wp2_with (fail)
                        have HAll := Aside0.mk (And.intro hwk (And.intro hk (And.intro hfl hql)))
                        clear hx1 hwk hk hfl hql hb hcm hqp x1
                        go_loopw [16] (fun v16 wr => ∃ n : Nat, n ≤ ws.length ∧ v16 = .int .i64 n ∧ Aside0 (Below X3.heap.size X3 wr)) (fun v16 _ => ws.length + 1 - (intOf v16).toNat)
                        case atStart => exact ⟨0, by omega, rfl, ⟨Below.refl _ _⟩⟩
                        case round =>
                          rename World => V
                          obtain ⟨n, hn, rfl, HBr⟩ := hrel
                          have HBv := Aside0.mk (HB3x.out.trans (HBr.out.mono HB3x.out.size))
                          replace x0 := pw_cell_below HBr.out x0
                          replace x2 := pw_cell_below HBr.out x2
                          replace z0 := pw_cell_below HBr.out z0
                          by_cases hltn : n < ws.length
                          · have hwn := wrap_up hltn HWs3.out.2.1
                            obtain ⟨adw, ew, y0⟩ := i_at (Kd.C_below HWs3.out HBr.out) n hltn
                            subst ew
                            have HWn := Aside0.mk (HWy.out n hltn)
                            generalize rd ws (n : Int) = t at y0 HWn
                            by_cases hn0 : 0 < n
                            · have HCn := Aside0.mk (HWn.out (.inl hn0))
                              have p1 := eq_true hn0
                              have p0 : (n = 0) = False := eq_false (Nat.pos_iff_ne_zero.1 hn0)
                              clear hn0
                              go_wp2_with (fail)
                              clear p0 p1
                              refine (casts_yes (some ad) d q (some ad5) c5 fs t V (HK.out.below (HBy.out.trans (HBv.out.mono HBy.out.size))) (Kd.C_below HQy.out HBv.out) HD.out.1 (Kd.C_below HC5.out.1 HBv.out) HC5.out.2).mono ?_
                              rintro e V2 ⟨rfl, hbv⟩
                              rw [HCn.out]
                              have HBv2 := Aside0.mk (HBv.out.trans (hbv.mono HBv.out.size))
                              have HBr2 := Aside0.mk (HBr.out.trans (hbv.mono HBr.out.size))
                              clear hbv
                              go_wp2_with (fail)
                              go_roundw
                              case rel => exact ⟨n + 1, by omega, by first | (rw [hwn]; done) | (rw [Int.natCast_add]; rfl), HBr2⟩
                              case measure => first | (rw [hwn]; simp only [intOf]; omega) | (simp only [intOf]; omega)
                            · obtain rfl : n = 0 := Nat.eq_zero_of_not_pos hn0
                              rw [S3.add_zero_] at y0
                              clear hn0
                              by_cases h8 : x.f0 = 8
                              · have HCn := Aside0.mk (HWn.out (.inr h8))
                                have hx8 : (x.f0 == 8) = true := by simp [h8]
                                clear h8
                                go_wp2_with (fail)
                                refine (casts_yes (some ad) d q (some ad5) c5 fs t V (HK.out.below (HBy.out.trans (HBv.out.mono HBy.out.size))) (Kd.C_below HQy.out HBv.out) HD.out.1 (Kd.C_below HC5.out.1 HBv.out) HC5.out.2).mono ?_
                                rintro e V2 ⟨rfl, hbv⟩
                                rw [HCn.out]
                                have HBv2 := Aside0.mk (HBv.out.trans (hbv.mono HBv.out.size))
                                have HBr2 := Aside0.mk (HBr.out.trans (hbv.mono HBr.out.size))
                                clear hbv
                                go_wp2_with (fail)
                                go_roundw
                                case rel => exact ⟨1, by omega, by first | rfl | (rw [hwn]; done) | (rw [Int.natCast_add]; rfl), HBr2⟩
                                case measure => first | (rw [hwn]; simp only [intOf]; omega) | (simp only [intOf]; omega)
                              · have hx8 : (x.f0 == 8) = false := by simp [h8]
                                clear h8
                                go_wp2_with (fail)
                                go_roundw
                                case rel => exact ⟨1, by omega, by first | rfl | (rw [hwn]; done) | (rw [Int.natCast_add]; rfl), HBr⟩
                                case measure => first | (rw [hwn]; simp only [intOf]; omega) | (simp only [intOf]; omega)
                          · go_wp2_with (fail)
                            obtain ⟨⟨hwk, hk, hfl, hql⟩⟩ := HAll
                            go_roundw
                            case rel => exact ⟨k + 1, by omega, by first | (rw [hwk]; done) | (rw [Int.natCast_add]; rfl), HBv⟩
                            case measure => first | (rw [hwk]; simp only [intOf]; omega) | (simp only [intOf]; omega)
            · go_wp2_with (fail)
              refine (works_yes X (HK.out.below HBX.out)).mono ?_
              rintro e Z ⟨rfl, hb⟩
              have HBz := Aside0.mk (HBX.out.trans (hb.mono HBX.out.size))
              clear hb
              go_wp2_with (fail)
              first | go_ret | go_ret2
              exact ⟨rfl, HBz.out⟩
end Go.Proofs.YthkoockcfnbpiaaDoor.W25
