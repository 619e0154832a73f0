/- FactNeeded walked: it answers true, of all graphs, pairs and numbers. -/
import Derived.Test.YthkoockcfnbpiaaDoorProg
import Derived.Test.YthkoockcfnbpiaaDoorWWords
import Derived.Test.YthkoockcfnbpiaaDoorWLast
import Derived.Test.YthkoockcfnbpiaaDoorW26a
import Derived.Test.YthkoockcfnbpiaaDoorF5
namespace Go.Proofs.YthkoockcfnbpiaaDoor.W27
open Go.RowKit Go.Proofs.YthkoockcfnbpiaaDoorW.PrintWords Go.Proofs.YthkoockcfnbpiaaDoorW.PrintLast Go.Proofs.YthkoockcfnbpiaaDoorW.PrintMore Go.Proofs.YthkoockcfnbpiaaDoor S1 L1 G1 G2 S3 S5 S7 S8 S9 S10 F1 F2 F3 F4 W10 W13 W17 W18 W19 W20 W21 W22 W1 W11 W12 W15 W23b W26a F5
set_option linter.unusedVariables false
set_option linter.unusedSimpArgs false
theorem hal_ {t2 td n w s1 s : Nat} (h1 : t2 ≤ td + n) (hn : n < w) (h2 : s1 + (w + 1) = s) (h3 : s + (td + 1) ≤ 256000001000) : (t2 + 1) * 8 ≤ 140737488355328 := by omega
theorem fnd_places {g : List GN} (hc : checkP g = 0) {l : List FC} {ks : List Int} {ps : List (Int × Int)} (h : Fnd g [] l ks ps) {k : Nat} (hk : k < l.length) {f : FC} (hf : f = P.rd_T37 l (k : Int)) :
    ∃ a b : Nat, f.f0 = (a : Int) ∧ f.f1 = (b : Int) ∧ a < g.length ∧ b < g.length ∧ (onP g f).all (inP l.length) = true := by
  have hm : f ∈ l := by
    rw [hf]
    unfold P.rd_T37
    rw [Int.toNat_natCast, List.getD_eq_getElem?_getD, List.getElem?_eq_getElem hk]
    exact List.getElem_mem hk
  have hd := h.all hc hm
  have hp := hd.pr
  obtain ⟨a, ha⟩ := Int.eq_ofNat_of_zero_le hp.a0
  obtain ⟨b, hb⟩ := Int.eq_ofNat_of_zero_le hp.b0
  have ha1 := hp.a1
  have hb1 := hp.b1
  dsimp only at ha hb ha1 hb1
  exact ⟨a, b, ha, hb, by omega, by omega, hd.inn⟩
theorem allM_of_take {g : List GN} {ps : List (Int × Int)} {k : Nat} (h : allM g ps = true) : allM g (ps.take k) = true := by
  unfold allM at h ⊢
  rw [List.all_eq_true] at h ⊢
  exact fun p hp => h p (List.mem_of_mem_take hp)
def cellV (W : World) (v : Value) (i : Nat) : Option Value := match v with
  | .slice (some a) _ _ => W.cell? (a.add i)
  | _ => none
noncomputable def smuW (l : List FC) (W : World) (v : Value) : Nat := ((List.range l.length).map fun i => @ite _ (cellV W v i = some (.int .i64 1)) (Classical.propDecidable _) 0 ((l.getD i zF).f2.length + 1)).sum
theorem smuW_of {l : List FC} {W : World} {A : Option Addr} {n c base : Nat} {ok : Nat → Prop} {sn : List Int} (h : Kd.R (Kd.int .i64) 3 W base ok (.slice A n c) sn) (hl : sn.length = l.length) : smuW l W (.slice A n c) = smu l sn := by
  unfold smuW smu
  obtain ⟨hn, _, hC⟩ := Kd.R_reads' h
  congr 1
  apply List.map_congr_left
  intro i hi
  rw [List.mem_range] at hi
  obtain ⟨ad, e, y⟩ := i_at hC i (by omega)
  subst e
  have hc : cellV W (.slice (some ad) n c) i = some (.int .i64 (rd sn (i : Int))) := y
  rw [hc]
  have hr : rd sn (i : Int) = sn.getD i 0 := by unfold rd; rw [Int.toNat_natCast]
  rw [hr]
  by_cases h1 : sn.getD i 0 = 1
  · rw [h1, if_pos rfl, if_pos (by unfold seenB; simp only [h1]; rfl)]
  · rw [if_neg (by intro e; simp at e; exact h1 e), if_neg (by unfold seenB; simpa using h1)]
theorem smu_le' {l : List FC} {B : Nat} (h : ∀ f ∈ l, f.f2.length + 1 ≤ B) (sn : List Int) : smu l sn ≤ l.length * B := by
  unfold smu
  have key : ∀ n, n ≤ l.length → ((List.range n).map fun i => if seenB sn i then 0 else (l.getD i zF).f2.length + 1).sum ≤ n * B := by
    intro n
    induction n with
    | zero => intro _; simp
    | succ n ih =>
      intro hn
      have h1 := ih (by omega)
      rw [List.range_succ, List.map_append, List.sum_append, Nat.succ_mul]
      simp only [List.map_cons, List.map_nil, List.sum_cons, List.sum_nil, Nat.add_zero]
      have h2 : (l.getD n zF).f2.length + 1 ≤ B := by
        rw [List.getD_eq_getElem?_getD, List.getElem?_eq_getElem (show n < l.length by omega)]
        exact h _ (List.getElem_mem _)
      refine Nat.add_le_add h1 ?_
      split
      · exact Nat.zero_le _
      · exact h2
  exact key l.length (Nat.le_refl _)
theorem smu_le {l : List FC} (h : ∀ f ∈ l, f.f2.length ≤ 1000000000) (hl : l.length ≤ 256) (sn : List Int) : smu l sn ≤ 256 * (1000000000 + 1) :=
  Nat.le_trans (smu_le' (B := 1000000000 + 1) (fun f hf => Nat.succ_le_succ (h f hf)) sn) (Nat.mul_le_mul_right _ hl)
theorem seen_nat {l : List Int} (h : ∀ k ∈ l, ∃ i : Nat, k = (i : Int)) : nats (l.map Int.toNat) = l := by
  unfold nats
  rw [List.map_map]
  conv => rhs; rw [← List.map_id l]
  apply List.map_congr_left
  intro k hk
  obtain ⟨i, rfl⟩ := h k hk
  simp
set_option maxHeartbeats 16000000 in
set_option maxRecDepth 100000 in
theorem needed_walk (A : Option Addr) (c : Nat) (l : List GN) (A1 : Option Addr) (c1 : Nat) (ps0 : List (Int × Int)) (many : Int) (w : World) (hK : Keys w) (hr : Kd.C P.k45 w A l.length l) (hc : l.length ≤ c) (hf : Kd.C kP w A1 ps0.length ps0) (hfc : ps0.length ≤ c1) :
    Calls Tryd.prog 4 #[.slice A l.length c, .slice A1 ps0.length c1, .int .i64 many] w fun e w' => e = .returned (.bool true) ∧ Below w.heap.size w w' := by
  have HK := Aside0.mk hK
  have HR := Aside0.mk (And.intro hr hc)
  have HF := Aside0.mk (And.intro hf hfc)
  clear hK hr hc hf hfc
  go_enter Tryd.func4, Tryd.ntmps4
  go_wp2_with (fail)
  refine (fine_yes A c l w HK.out HR.out.1 HR.out.2).mono ?_
  rintro e W2 ⟨⟨B, d, q, rfl, hq, hd, h16, hck⟩, hb⟩
  have HB2 := Aside0.mk hb
  have HQ := Aside0.mk hq
  have HD := Aside0.mk (And.intro hd h16)
  have HCk := Aside0.mk hck
  clear hq hd hb hck h16
  by_cases hq0 : q.length = 0
  · go_wp2_with (fail)
    refine (works_yes W2 (HK.out.below HB2.out)).mono ?_
    rintro e W3 ⟨rfl, hb⟩
    have HB3 := Aside0.mk (HB2.out.trans (hb.mono HB2.out.size))
    clear hb
    go_wp2_with (fail)
    first | go_ret | go_ret2
    exact ⟨rfl, HB3.out⟩
  · have hqz : ((q.length : Int) == 0) = false := by rw [beq_eq_false_iff_ne]; omega
    have hqp : 0 < q.length := by omega
    have HC0 := Aside0.mk (HCk.out (fun e => by rw [e] at hqp; exact absurd hqp (Nat.lt_irrefl 0)))
    clear hq0
    go_wp2_with (fail)
    refine (pairs_yes B d q.length A1 c1 ps0 W2 hqp (by have := HD.out.2; omega) (Kd.C_below HF.out.1 HB2.out) HF.out.2).mono ?_
    rintro e W3 ⟨⟨B1, d1, ps, rfl, hp, hd1, h8, hin⟩, hb⟩
    have HB3 := Aside0.mk (HB2.out.trans (hb.mono HB2.out.size))
    have HQ3 := Aside0.mk (Kd.C_below HQ.out hb)
    have HP3 := Aside0.mk hp
    have HD1 := Aside0.mk (And.intro hd1 h8)
    have HIn := Aside0.mk hin
    clear hp hd1 h8 hin hb HQ
    clear hqz
    go_wp2_with (fail)
    refine (bring_yes many (wrap64 ((ps.length : Int) + 1)) W3 (by have := HD1.out.2; unfold wrap64; omega) (by have := HD1.out.2; unfold wrap64; omega)).mono ?_
    rintro e W3' ⟨kk, rfl, ⟨hk0, hk1⟩, e0⟩
    obtain rfl : W3 = W3' := e0.symm
    obtain ⟨k, rfl⟩ := Int.eq_ofNat_of_zero_le hk0
    have hkp : k ≤ ps.length := by have := HD1.out.2; unfold wrap64 at hk1; omega
    clear hk0 hk1
    go_wp2_with (fail)
    refine (finds_yes B d q B1 d1 ps W3 (HK.out.below HB3.out) HQ3.out HD.out.1 HD.out.2 HP3.out HD1.out.1 (by have := HD1.out.2; omega)).mono ?_
    rintro e Y ⟨hf, hb⟩
    have HBy := Aside0.mk (HB3.out.trans (hb.mono HB3.out.size))
    have HQy := Aside0.mk (Kd.C_below HQ3.out hb)
    have HPy := Aside0.mk (Kd.C_below HP3.out hb)
    clear hb HQ3 HP3
    rcases find_cases HC0.out HIn.out hf with ⟨hal, rfl⟩ | ⟨hal, fs, ks, hfn, hkl, hee, vl, va, rfl, hvl, hva⟩
    · clear hal hf
      dsimp only
      go_wp2_with (fail)
      refine (works_yes Y (HK.out.below HBy.out)).mono ?_
      rintro e Z ⟨rfl, hb⟩
      have HBz := Aside0.mk (HBy.out.trans (hb.mono HBy.out.size))
      clear hb
      go_wp2_with (fail)
      first | go_ret | go_ret2
      exact ⟨rfl, HBz.out⟩
    · obtain ⟨A5, c5, rfl, hc5, hC5⟩ := Kd.R_reads hvl
      obtain ⟨A6, c6, rfl, hc6, hC6⟩ := Kd.R_reads hva
      have HFn := Aside0.mk hfn
      have HKl := Aside0.mk hkl
      have HAl := Aside0.mk hal
      have HEe := Aside0.mk hee
      have HC5 := Aside0.mk (And.intro hC5 hc5)
      have HC6 := Aside0.mk (And.intro hC6 hc6)
      have hfl : fs.length ≤ 256 := Nat.le_trans hfn.good.len (Nat.mul_le_mul HD.out.2 HD.out.2)
      rw [hkl]
      clear hal hf hfn hkl hvl hva hC5 hc5 hC6 hc6 hee
      dsimp only
      obtain ⟨i2, hi2, hia, hib, hic⟩ := info_parts infoP2
      clear hia hib hic
      have hcutP := cut_to (P := Tryd.prog) 23 28 .i64 Tryd.underlying23 hi2 B1 ps.length d1 (k : Int) (Int.natCast_nonneg _) (by omega) HD1.out.1
      simp only [Int.toNat_natCast] at hcutP
      have hpl : (ps.take k).length = k := by rw [List.length_take]; omega
      have HF := Aside0.mk (finds_yes B d q B1 d1 (ps.take k) Y (HK.out.below HBy.out) HQy.out HD.out.1 HD.out.2 (Kd.C_take HPy.out hkp) (by rw [hpl]; exact Nat.le_trans hkp HD1.out.1) (by rw [hpl]; have := HD1.out.2; omega))
      rw [hpl] at HF
      have HPl := Aside0.mk hpl
      clear hi2 hpl
      go_wp2_with (fail)
      clear hcutP
      refine HF.out.mono ?_
      rintro e Z ⟨hf, hb⟩
      have HBz := Aside0.mk (HBy.out.trans (hb.mono HBy.out.size))
      have HQz := Aside0.mk (Kd.C_below HQy.out hb)
      have HCz := Aside0.mk (Kd.C_below HC5.out.1 hb)
      have HDz := Aside0.mk (Kd.C_below HC6.out.1 hb)
      clear hb HQy HPy HF
      rcases find_cases HC0.out (fun p hp => HIn.out p (List.mem_of_mem_take hp)) hf with ⟨hal, rfl⟩ | ⟨hal2, fs2, ks2, hfn2, hkl2, hee2, vl2, va2, rfl, hvl2, hva2⟩
      · rw [allM_of_take HAl.out] at hal
        cases hal
      · obtain ⟨A7, c7, rfl, hc7, hC7⟩ := Kd.R_reads hvl2
        obtain ⟨A8, c8, rfl, hc8, hC8⟩ := Kd.R_reads hva2
        clear hal2
        have HC7 := Aside0.mk hC7
        have HC8 := Aside0.mk hC8
        obtain ⟨t1, t2, t3⟩ := finds_take HC0.out (ps := ps) (fun p hp => pr_of (HIn.out p hp) (List.all_eq_true.1 HAl.out p hp)) k
        have e1 : fs = (findsP (pickN q) q ps).2 := congrArg Prod.fst HEe.out
        have e2 : ks = (findsP (pickN q) q ps).1 := congrArg Prod.snd HEe.out
        have e3 : fs2 = (findsP (pickN q) q (ps.take k)).2 := congrArg Prod.fst hee2
        have e4 : ks2 = (findsP (pickN q) q (ps.take k)).1 := congrArg Prod.snd hee2
        rw [← e1, ← e3] at t1
        rw [← e1, ← e3] at t2
        rw [← e2, ← e4, HPl.out] at t3
        rw [HPl.out] at hkl2
        have HT1 := Aside0.mk t1
        have HT3 := Aside0.mk t3
        have HKl2 := Aside0.mk hkl2
        rw [hkl2]
        clear hf hfn2 hkl2 hee2 hvl2 hva2 hC7 hC8 hc7 hc8 e1 e2 e3 e4 t1 t3 HF
        dsimp only
        obtain ⟨i2, hi2, hia, hib, hic⟩ := info_parts infoF
        clear hia hib hic
        obtain ⟨i3, hi3, hia, hib, hic⟩ := info_parts infoI
        clear hia hib hic
        have hcutL := cut_to (P := Tryd.prog) 29 37 .i64 Tryd.underlying29 hi2 A5 fs.length c5 (fs2.length : Int) (Int.natCast_nonneg _) (by omega) HC5.out.2
        have hcutA := cut_to (P := Tryd.prog) 30 3 .i64 Tryd.underlying30 hi3 A6 ps.length c6 (k : Int) (Int.natCast_nonneg _) (by omega) (by rw [← HKl.out]; exact HC6.out.2)
        simp only [Int.toNat_natCast] at hcutL hcutA
        have HS1 := Aside0.mk (same_yes A5 A7 c5 c7 fs2 Z (by have := Kd.C_take HCz.out t2; rw [← HT1.out] at this; exact this) HC7.out)
        have g1 : ((fs.length : Int) < (fs2.length : Int)) = False := eq_false (by omega)
        clear hi2 hi3
        go_wp2_with (fail)
        refine HS1.out.mono ?_
        rintro e Z2 ⟨rfl, hb⟩
        have HB2z := Aside0.mk (HBz.out.trans (hb.mono HBz.out.size))
        have HQ2 := Aside0.mk (Kd.C_below HQz.out hb)
        have HC2 := Aside0.mk (Kd.C_below HCz.out hb)
        have HD2 := Aside0.mk (Kd.C_below HDz.out hb)
        have HC8' := Aside0.mk (Kd.C_below HC8.out hb)
        clear hb HS1 HQz HCz HDz HC8 HC7 g1
        have HS2 := Aside0.mk (eqints_yes A6 A8 c6 c8 ks2 Z2 (by have := Kd.C_take HD2.out (show k ≤ ks.length by rw [HKl.out]; exact hkp); rw [← HT3.out] at this; exact this) HC8'.out)
        rw [HKl2.out] at HS2
        go_wp2_with (fail)
        clear hcutL hcutA
        refine HS2.out.mono ?_
        rintro e Z3 ⟨rfl, hb⟩
        have HB3z := Aside0.mk (HB2z.out.trans (hb.mono HB2z.out.size))
        have HQ3 := Aside0.mk (Kd.C_below HQ2.out hb)
        have HC3 := Aside0.mk (Kd.C_below HC2.out hb)
        have HD3 := Aside0.mk (Kd.C_below HD2.out hb)
        clear hb HS2 HQ2 HC2 HD2 HC8' t2 HT1 HT3 HKl2 HPl HEe HAl hkp HB2z HBz
        go_wp2_with (first | (at_make; refine Kd.R_make (Kd.int .i64) (w0 := Z3) Z3.heap.size 3 rfl rfl 30 (.tmp 96) (.tmp 96) rfl (fs.length : Int) rfl rfl Tryd.underlying30 (.int .i64 0) 8 infoI rfl (by decide) (by decide) 0 (ok := fun _ => True) (okp := fun _ => False) rfl (fun _ h => h.elim) trivial (by omega) (by omega) (Below.refl _ _) (Nat.le_refl _) ?_; intro v7 W7 ho hb hg7 hat; have HO7 := Aside0.mk ho; have HB7 := Aside0.mk hb; clear ho hb hg7 hat))
        rw [Int.toNat_natCast] at HO7
        obtain ⟨AS, cS, eS⟩ := Kd.R_slice HO7.out
        rw [List.length_replicate] at eS
        subst eS
        have HC6w := Aside0.mk (Kd.C_below HD3.out HB7.out)
        have HCI := Aside0.mk (copyints_yes A6 c6 ks W7 HC6w.out (by rw [HKl.out]; have := HD1.out.2; omega))
        rw [HKl.out] at HCI
        go_wp2_with (fail)
        refine HCI.out.mono ?_
        rintro e V ⟨vT, rfl, hT, hb⟩
        have hbZ : Below Z3.heap.size Z3 V := HB7.out.trans (hb.mono HB7.out.size)
        have HBv := Aside0.mk hbZ
        obtain ⟨b3, hb3⟩ : ∃ b3, b3 = W7.heap.size := ⟨_, rfl⟩
        have HSv := Aside0.mk (show Kd.R (Kd.int .i64) 3 V Z3.heap.size (fun k => k < b3) (.slice AS fs.length cS) (List.replicate fs.length 0) from by
          rw [hb3]
          exact Kd.R_below (Kd.R_mono (Kd.R_bound HO7.out) (fun k hk => hk.2.2.1)) hb)
        rw [← hb3] at hT
        have HTv := Aside0.mk (show Kd.Q (Kd.int .i64) 3 V b3 (fun _ => True) vT (nats (ks.map Int.toNat)) from by
          rw [seen_nat (fun k hk => by
            have := inP_iff.1 (List.all_eq_true.1 HFn.out.inn k hk)
            exact ⟨k.toNat, by omega⟩)]
          exact Kd.Q_of_R hT)
        have HB3 := Aside0.mk (show b3 ≤ V.heap.size ∧ Z3.heap.size ≤ b3 from by rw [hb3]; exact ⟨hb.size, HB7.out.size⟩)
        have HFl := Aside0.mk (show ∀ f ∈ fs, f.f2.length ≤ 1000000000 from fun f hf => (frm_ok HC0.out (((HFn.out.all HC0.out hf).by_ HC0.out).2.1)).choose_spec.2.2.2.2.2)
        have HNd := Aside0.mk (show Nd q fs ks (ks.map Int.toNat) (List.replicate fs.length 0) none from by
          refine ⟨by simp, fun i hi => ?_, fun k hk => ?_, fun i hi hs => ?_⟩
          · obtain ⟨k, hk, rfl⟩ := List.mem_map.1 hi
            have := inP_iff.1 (List.all_eq_true.1 HFn.out.inn k hk)
            omega
          · have := inP_iff.1 (List.all_eq_true.1 HFn.out.inn k hk)
            exact ⟨k.toNat, by omega, .inr (List.mem_map.2 ⟨k, hk, rfl⟩)⟩
          · unfold seenB at hs
            rw [List.getD_eq_getElem?_getD, List.getElem?_replicate, if_pos hi] at hs
            simp at hs)
        have HMu := Aside0.mk (show smu fs (List.replicate fs.length 0) + (ks.map Int.toNat).length ≤ 256000001000 from by
          have := smu_le HFl.out hfl (List.replicate fs.length 0)
          have h2 := HKl.out
          have h3 := HD1.out.2
          rw [List.length_map]
          omega)
        clear hb hbZ hT hb3 HO7 HCI HC6w HB7 HD3 HC6
        have HBV := Aside0.mk (HB3z.out.trans (HBv.out.mono HB3z.out.size))
        go_wp2_with (fail)
        go_loopw [15] (fun v15 wr => ∃ (td : List Nat) (sn : List Int), Aside0 (Below Z3.heap.size Z3 wr) ∧ Aside0 (Kd.R (Kd.int .i64) 3 wr Z3.heap.size (fun k => k < b3) (.slice AS fs.length cS) sn) ∧ Aside0 (Kd.Q (Kd.int .i64) 3 wr b3 (fun _ => True) v15 (nats td)) ∧ Aside0 (Nd q fs ks td sn none) ∧ Aside0 (b3 ≤ wr.heap.size) ∧ Aside0 (smu fs sn + td.length ≤ 256000001000)) (fun v15 wr => smuW fs wr (.slice AS fs.length cS) + lenV v15)
        case atStart => exact ⟨_, _, HBv, HSv, HTv, HNd, ⟨HB3.out.1⟩, HMu⟩
        case round =>
          clear HBv HSv HTv HNd HMu HBV
          obtain ⟨td, sn, HBo, HSo, HQi, HNi, HSz, HMi⟩ := hrel
          rename World => X
          obtain ⟨A9, c9, e9, hc9, hr9⟩ := Kd.Q_reads HQi.out
          rw [nats_len] at e9 hc9
          subst e9
          rcases td with _ | ⟨i, td⟩
          · have e2 : (0 < (([] : List Nat).length : Int)) = False := by simp
            have HAll := Aside0.mk (HNi.out.all HFn.out)
            have HLs := Aside0.mk HNi.out.len
            clear hr9 hc9
            go_wp2_with (fail)
            clear e2
            go_loopw [18] (fun v18 wr => ∃ i : Nat, i ≤ fs.length ∧ v18 = .int .i64 i ∧ wr = X) (fun v18 _ => fs.length + 1 - (intOf v18).toNat)
            case atStart => exact ⟨0, by omega, rfl, rfl⟩
            case round =>
              obtain ⟨i, hi, rfl, rfl⟩ := hrel
              rename World => X
              by_cases hlt : i < fs.length
              · have hwi := wrap_up hlt (show fs.length ≤ 9223372036854775807 by omega)
                obtain ⟨hn1, _, hC1⟩ := Kd.R_reads' HSo.out
                obtain ⟨ads, es, y0⟩ := i_at hC1 i (by rw [HLs.out]; exact hlt)
                subst es
                have hse : rd sn (i : Int) = 1 := by
                  have := HAll.out i hlt
                  unfold seenB at this
                  unfold rd
                  rw [Int.toNat_natCast]
                  simpa using this
                rw [hse] at y0
                clear hn1 hC1 hse
                go_wp2_with (fail)
                go_roundw
                case rel => exact ⟨i + 1, by omega, by first | (rw [hwi]; done) | (rw [Int.natCast_add]; rfl), trivial⟩
                case measure => first | (rw [hwi]; simp only [intOf]; omega) | (simp only [intOf]; omega)
              · go_wp2_with (fail)
                refine (works_yes X (HK.out.below (HB3z.out.trans (HBo.out.mono HB3z.out.size)))).mono ?_
                rintro e X2 ⟨rfl, hb⟩
                have HBe := Aside0.mk ((HB3z.out.trans (HBo.out.mono HB3z.out.size)).trans (hb.mono (HB3z.out.trans (HBo.out.mono HB3z.out.size)).size))
                clear hb
                go_wp2_with (fail)
                first | go_ret | go_ret2
                exact ⟨rfl, HBe.out⟩
          · have hil : i < fs.length := HNi.out.todo i (by simp)
            obtain ⟨ad9, ea9, hm9⟩ := ints_at0 (l := nats (i :: td)) hr9 (by simp [nats])
            subst ea9
            have hm9' : X.cell? ad9 = some (.int .i64 (i : Int)) := hm9
            obtain ⟨i3, hi3, hia, hsz3, hic⟩ := info_parts infoI
            clear hia hic
            have hcutD := cut_from (P := Tryd.prog) 30 3 .i64 Tryd.underlying30 hi3 1 hsz3 (some ad9) (i :: td).length c9 (1 : Int) (by decide) (by rw [List.length_cons]; omega)
            have hQd := Kd.Q_drop (k := 1) HQi.out (by simp [nats])
            rw [show (1 : Int).toNat = 1 from rfl] at hcutD
            obtain ⟨vD, hvD⟩ : ∃ vD, vD = (.slice (if c9 = 1 then some ad9 else (some ad9).map (·.add (1 * 1))) ((i :: td).length - 1) (c9 - 1) : Value) := ⟨_, rfl⟩
            rw [← hvD] at hcutD
            have hQd2 : Kd.Q (Kd.int .i64) 3 X b3 (fun _ => True) vD (nats td) := by rw [hvD]; exact hQd
            have HQd := Aside0.mk hQd2
            have HLd := Aside0.mk (show lenV vD = td.length by rw [hvD]; show (i :: td).length - 1 = td.length; simp)
            obtain ⟨n9, hn9⟩ : ∃ n9, n9 = (i :: td).length := ⟨_, rfl⟩
            have HN9 := Aside0.mk (show n9 = td.length + 1 from hn9)
            rw [← hn9] at hcutD hc9 ⊢
            have e2 : (0 < (n9 : Int)) = True := eq_true (by rw [hn9]; simp)
            have e3 : (0 < n9) = True := eq_true (by rw [hn9]; simp)
            have e4 : (n9 = 0) = False := eq_false (by rw [hn9]; simp)
            have HMz := Aside0.mk (smuW_of HSo.out HNi.out.len)
            have hns : sn.length = fs.length := HNi.out.len
            obtain ⟨sb, cS', eS', hsb1, hsb2, cells, hsbh⟩ := Kd.R_form HSo.out (by omega)
            injection eS' with hi1 hi2 hi3
            subst hi1
            subst hi3
            clear hi2
            have HSb := Aside0.mk (show sb < b3 from HSo.out.1 sb rfl)
            obtain ⟨y0, y0f⟩ := Kd.R_celln (0 : Int) HSo.out (i : Int) (Int.natCast_nonneg _) (by omega)
            rw [Int.toNat_natCast] at y0 y0f
            have HSn := Aside0.mk (show rdOf (0 : Int) sn (i : Int) = 1 ↔ seenB sn i = true from by
              unfold seenB
              show sn.getD (i : Int).toNat 0 = 1 ↔ _
              rw [Int.toNat_natCast]
              simp)
            generalize rdOf (0 : Int) sn (i : Int) = y at y0 HSn
            have HNs := Aside0.mk hns
            clear hm9 hr9 hi3 hsz3 hQd hQd2 hvD hn9 hsb1 hsb2 hsbh hns
            have dl1 : (fs.length ≤ i) = False := eq_false (Nat.not_le.2 hil)
            have dl2 : ((i : Int) < 0) = False := eq_false (Int.not_lt.2 (Int.natCast_nonneg i))
            by_cases hy : y = 1
            · subst hy
              have HNk := Aside0.mk (HNi.out.skip (HSn.out.1 rfl))
              clear y0f
              go_wp2_with (fail)
              clear e2 e3 e4 dl1 dl2
              go_roundw
              case rel => exact ⟨td, sn, HBo, HSo, HQd, HNk, HSz, ⟨by have := HMi.out; simp at this; omega⟩⟩
              case measure =>
                rw [HLd.out]
                show _ + td.length < _ + lenV (.slice (some ad9) n9 c9)
                simp only [lenV]
                have := HN9.out
                omega
            · have hyb : (y == 1) = false := by rw [beq_eq_false_iff_ne]; exact hy
              have HSf := Aside0.mk (show seenB sn i = false from by
                cases hs : seenB sn i with
                | false => rfl
                | true => exact absurd (HSn.out.2 hs) hy)
              clear hy
              have HNm := Aside0.mk HNi.out.mark
              have HS1 := Aside0.mk (Kd.R_putn HSo.out (i : Int) 1)
              rw [Int.toNat_natCast] at HS1
              have HQ1 := Aside0.mk (Kd.Q_mono (ok' := fun _ => True) (Kd.Q_far (Kd.Q_bound HQd.out) (p := ⟨sb, i, none⟩) (fun k hk e => by have := HSb.out; have h2 := hk.2.1; rw [show k = sb from e] at h2; omega) (.int .i64 1)) (fun _ _ => trivial))
              have HB1 := Aside0.mk (below_set (j := i) (v := .int .i64 1) HBo.out (show Z3.heap.size ≤ sb from Kd.R_base HSo.out sb rfl))
              have HZ1 := Aside0.mk (show b3 ≤ (X.setCell ⟨sb, i, none⟩ (.int .i64 1)).heap.size from by rw [(store_same X ⟨sb, i, none⟩ (.int .i64 1)).2.2.2]; exact HSz.out)
              have HMs := Aside0.mk (smu_set HNs.out hil HSf.out)
              obtain ⟨f, hf⟩ : ∃ f, f = P.rd_T37 fs (i : Int) := ⟨_, rfl⟩
              have hfz : fs.getD i zF = f := by rw [hf]; unfold P.rd_T37; rw [Int.toNat_natCast]; rfl
              obtain ⟨a, b, ea, eb, ha, hb, hon⟩ := fnd_places HC0.out HFn.out hil hf
              obtain ⟨ad5, Aw, cw, e5, x0, x1, x2, HWs⟩ := f_at3 (Kd.C_below HC3.out HB1.out) i hil
              subst e5
              rw [← hf] at x0 x1 x2 HWs
              rw [ea] at x0
              obtain ⟨ad, eA, z0⟩ := g_at (Kd.C_below HQ3.out HB1.out) a ha
              subst eA
              obtain ⟨x, hx⟩ : ∃ x, x = nd q (a : Int) := ⟨_, rfl⟩
              rw [← hx] at z0
              obtain ⟨ws, hws⟩ : ∃ ws, ws = f.f2 := ⟨_, rfl⟩
              rw [← hws] at x2 HWs
              have HWz := Aside0.mk (show (fs.getD i zF).f2 = ws by rw [hfz, hws])
              have HCt := Aside0.mk (show ∀ n : Nat, Cnt q (fs.getD i zF) n ↔ (0 < n ∨ x.f0 = 8) from fun n => by
                unfold Cnt
                rw [hfz, ea, hx])
              have HOn := Aside0.mk (show ∀ n : Nat, n < ws.length → (0 < n ∨ x.f0 = 8) → ∃ j : Nat, rd ws (n : Int) = (j : Int) ∧ j < fs.length from fun n hn hor => by
                have hmem : rd ws (n : Int) ∈ onP q f := by
                  unfold onP rd
                  rw [ea, Int.toNat_natCast, List.getD_eq_getElem?_getD, List.getElem?_eq_getElem hn]
                  show ws[n] ∈ _
                  rw [← hx, ← hws]
                  split
                  · exact List.getElem_mem hn
                  · rename_i h8
                    have hn0 : 0 < n := by
                      rcases hor with h | h
                      · exact h
                      · exact absurd h h8
                    obtain ⟨m, rfl⟩ : ∃ m, n = m + 1 := ⟨n - 1, by omega⟩
                    rw [List.mem_iff_getElem?]
                    exact ⟨m, by rw [List.getElem?_drop, show 1 + m = m + 1 by omega, List.getElem?_eq_getElem hn]⟩
                have := inP_iff.1 (List.all_eq_true.1 hon _ hmem)
                exact ⟨(rd ws (n : Int)).toNat, by omega, by omega⟩)
              have HMq := Aside0.mk (show smu fs (sn.set i 1) + (ws.length + 1) = smu fs sn by have := HMs.out; rw [HWz.out] at this; exact this)
              have HMi2 := Aside0.mk (show smu fs sn + (td.length + 1) ≤ 256000001000 from HMi.out)
              have HPk := Aside0.mk (show P.rd_T37 fs (i : Int) = f ∧ f.f0 = (a : Int) ∧ f.f2 = ws ∧ nd q (a : Int) = x from ⟨hf.symm, ea, hws.symm, hx.symm⟩)
              clear hf hfz ea eb hb hon hx hws
              go_wp2_with (fail)
              clear y0 y0f hyb e2 e3 e4 hcutD hm9' x1 dl1 dl2
              generalize X.setCell ⟨sb, i, none⟩ (.int .i64 1) = X1 at x0 x2 z0 HS1 HQ1 HB1 HZ1 HWs ⊢
              obtain ⟨sn1, hsn1⟩ : ∃ sn1, sn1 = sn.set i 1 := ⟨_, rfl⟩
              rw [← hsn1] at HS1 HNm HMq
              clear hsn1 hc9
              go_loopw [15, 17] (fun v15 v17 wr => ∃ (n : Nat) (td2 : List Nat), n ≤ ws.length ∧ v17 = .int .i64 n ∧ Aside0 (Below X1.heap.size X1 wr ∨ True) ∧ Aside0 (Below Z3.heap.size Z3 wr) ∧ Aside0 (Kd.R (Kd.int .i64) 3 wr Z3.heap.size (fun k => k < b3) (.slice (some ⟨sb, 0, none⟩) fs.length cS) sn1) ∧ Aside0 (Kd.Q (Kd.int .i64) 3 wr b3 (fun _ => True) v15 (nats td2)) ∧ Aside0 (b3 ≤ wr.heap.size) ∧ Aside0 (Nd q fs ks td2 sn1 (some i) ∧ (∀ m, m < n → (0 < m ∨ x.f0 = 8) → ∃ j : Nat, rd ws (m : Int) = (j : Int) ∧ (seenB sn1 j = true ∨ j ∈ td2)) ∧ td2.length ≤ td.length + n)) (fun _ v17 _ => ws.length + 1 - (intOf v17).toNat)
              case atStart => exact ⟨0, td, by omega, rfl, ⟨.inr trivial⟩, HB1, HS1, HQ1, HZ1, ⟨HNm.out, fun m hm => by omega, by omega⟩⟩
              case round =>
                clear x0 x2 z0
                rename World => U
                obtain ⟨n, td2, hn, rfl, htr, HBu, HSu, HQu, HZu, HIn⟩ := hrel
                clear htr
                obtain ⟨ad5', Aw', cw', e5, x0, x1, x2, HWu⟩ := f_at3 (Kd.C_below HC3.out HBu.out) i hil
                cases e5
                rw [HPk.out.1] at x0 x2 HWu
                rw [HPk.out.2.1] at x0
                rw [HPk.out.2.2.1] at x2 HWu
                obtain ⟨ad', eA, z0⟩ := g_at (Kd.C_below HQ3.out HBu.out) a ha
                cases eA
                rw [HPk.out.2.2.2] at z0
                clear x1
                by_cases hltn : n < ws.length
                · have hwn := wrap_up hltn HWu.out.2.2.1
                  obtain ⟨adw, ew, y0⟩ := i_at HWu.out.2 n hltn
                  subst ew
                  have HOk := Aside0.mk (HOn.out n hltn)
                  obtain ⟨t, ht⟩ : ∃ t, t = rd ws (n : Int) := ⟨_, rfl⟩
                  rw [← ht] at y0 HOk
                  have HRd := Aside0.mk ht
                  clear ht
                  obtain ⟨A8, c8, e8, hc8, hr8⟩ := Kd.Q_reads HQu.out
                  clear hc8 hr8 e8
                  by_cases hn0 : 0 < n
                  · obtain ⟨j, rfl, hj⟩ := HOk.out (.inl hn0)
                    have hhn := hn0
                    have p1 := eq_true hn0
                    have p0 : (n = 0) = False := eq_false (Nat.pos_iff_ne_zero.1 hn0)
                    clear hn0
                    have HAL : Aside0 (((nats td2).length + 1) * 8 ≤ 140737488355328) := ⟨by rw [nats_len]; exact hal_ HIn.out.2.2 hltn HMq.out HMi2.out⟩
                    have HHn := Aside0.mk hhn
                    have HJ := Aside0.mk hj
                    clear hhn hj
                    go_wp2_with (first | ((with_reducible refine gate_builtin (b := .append) (xs := #[.tmp 166, .tmp 175]) rfl ?_); at_builtin; refine Kd.Q_append (Kd.int .i64) (w0 := U) b3 rfl (.tmp 166) (.tmp 175) 30 3 (.int .i64 0) 8 rfl Tryd.underlying30 infoI rfl (by decide) (by omega) u15 (nats td2) (j : Int) [.int .i64 (j : Int)] (fun _ => True) (fun _ => False) rfl rfl rfl (fun _ hk => hk.elim) (fun _ _ => trivial) HQu.out (Below.refl _ _) HZu.out HAL.out ?_; intro v9 W9 ho hb hg9 hat9))
                    have hbq : ∀ k, u15.ownBlock = some k → b3 ≤ k := fun k hk => Kd.Q_base HQu.out k hk
                    have HB9 := Aside0.mk (HBu.out.grown hg9 HBu.out.size (fun k e => Nat.le_trans HB3.out.2 (hbq k e)))
                    have HS9 := Aside0.mk (Kd.R_grown HSu.out hg9 (fun k hk e => Nat.lt_irrefl k (Nat.lt_of_lt_of_le hk (hbq k e.symm))))
                    have HQ9 := Aside0.mk (show Kd.Q (Kd.int .i64) 3 W9 b3 (fun _ => True) v9 (nats (td2 ++ [j])) from by
                      have : nats (td2 ++ [j]) = nats td2 ++ [(j : Int)] := by simp [nats]
                      rw [this]
                      exact ho)
                    have HZ9 := Aside0.mk (Nat.le_trans HZu.out hg9.size)
                    clear ho hb hg9 hat9 hbq p0 p1
                    go_wp2_with (fail)
                    go_roundw
                    case rel => exact ⟨n + 1, td2 ++ [j], by omega, by first | rfl | (rw [hwn]; done) | (rw [Int.natCast_add]; rfl), ⟨.inr trivial⟩, HB9, HS9, HQ9, HZ9, ⟨HIn.out.1.push HJ.out, fun m hm hc => by
                      by_cases he : m = n
                      · subst he
                        exact ⟨j, HRd.out.symm, .inr (by simp)⟩
                      · obtain ⟨y, ey, hy⟩ := HIn.out.2.1 m (by omega) hc
                        exact ⟨y, ey, hy.imp id (fun h => by simp [h])⟩, by rw [List.length_append]; have := HIn.out.2.2; simp; omega⟩⟩
                    case measure => first | (rw [hwn]; simp only [intOf]; omega) | (simp only [intOf]; omega)
                  · obtain rfl : n = 0 := Nat.eq_zero_of_not_pos hn0
                    rw [S3.add_zero_] at y0
                    clear hn0
                    by_cases h8 : x.f0 = 8
                    · obtain ⟨j, rfl, hj⟩ := HOk.out (.inr h8)
                      have hhn := h8
                      have hx8 : (x.f0 == 8) = true := by simp [h8]
                      clear h8
                      have HAL : Aside0 (((nats td2).length + 1) * 8 ≤ 140737488355328) := ⟨by rw [nats_len]; exact hal_ HIn.out.2.2 hltn HMq.out HMi2.out⟩
                      have HHn := Aside0.mk hhn
                      have HJ := Aside0.mk hj
                      clear hhn hj
                      go_wp2_with (first | ((with_reducible refine gate_builtin (b := .append) (xs := #[.tmp 166, .tmp 175]) rfl ?_); at_builtin; refine Kd.Q_append (Kd.int .i64) (w0 := U) b3 rfl (.tmp 166) (.tmp 175) 30 3 (.int .i64 0) 8 rfl Tryd.underlying30 infoI rfl (by decide) (by omega) u15 (nats td2) (j : Int) [.int .i64 (j : Int)] (fun _ => True) (fun _ => False) rfl rfl rfl (fun _ hk => hk.elim) (fun _ _ => trivial) HQu.out (Below.refl _ _) HZu.out HAL.out ?_; intro v9 W9 ho hb hg9 hat9))
                      have hbq : ∀ k, u15.ownBlock = some k → b3 ≤ k := fun k hk => Kd.Q_base HQu.out k hk
                      have HB9 := Aside0.mk (HBu.out.grown hg9 HBu.out.size (fun k e => Nat.le_trans HB3.out.2 (hbq k e)))
                      have HS9 := Aside0.mk (Kd.R_grown HSu.out hg9 (fun k hk e => Nat.lt_irrefl k (Nat.lt_of_lt_of_le hk (hbq k e.symm))))
                      have HQ9 := Aside0.mk (show Kd.Q (Kd.int .i64) 3 W9 b3 (fun _ => True) v9 (nats (td2 ++ [j])) from by
                        have : nats (td2 ++ [j]) = nats td2 ++ [(j : Int)] := by simp [nats]
                        rw [this]
                        exact ho)
                      have HZ9 := Aside0.mk (Nat.le_trans HZu.out hg9.size)
                      clear ho hb hg9 hat9 hbq hx8
                      go_wp2_with (fail)
                      go_roundw
                      case rel => exact ⟨1, td2 ++ [j], by omega, by first | rfl | (rw [hwn]; done) | (rw [Int.natCast_add]; rfl), ⟨.inr trivial⟩, HB9, HS9, HQ9, HZ9, ⟨HIn.out.1.push HJ.out, fun m hm hc => by
                        by_cases he : m = 0
                        · subst he
                          exact ⟨j, HRd.out.symm, .inr (by simp)⟩
                        · obtain ⟨y, ey, hy⟩ := HIn.out.2.1 m (by omega) hc
                          exact ⟨y, ey, hy.imp id (fun h => by simp [h])⟩, by rw [List.length_append]; have := HIn.out.2.2; simp; omega⟩⟩
                      case measure => first | (rw [hwn]; simp only [intOf]; omega) | (simp only [intOf]; omega)
                    · have hx8 : (x.f0 == 8) = false := by simp [h8]
                      have H8 := Aside0.mk h8
                      clear h8
                      go_wp2_with (fail)
                      clear hx8
                      go_roundw
                      case rel => exact ⟨1, td2, by omega, by first | rfl | (rw [hwn]; done), ⟨.inr trivial⟩, HBu, HSu, HQu, HZu, ⟨HIn.out.1, fun m hm hc => by
                        obtain rfl : m = 0 := by omega
                        rcases hc with hc | hc
                        · exact absurd hc (Nat.lt_irrefl 0)
                        · exact absurd hc H8.out, by have := HIn.out.2.2; omega⟩⟩
                      case measure => first | (rw [hwn]; simp only [intOf]; omega) | (simp only [intOf]; omega)
                · obtain ⟨A8, c8, e8, hc8, hr8⟩ := Kd.Q_reads HQu.out
                  rw [nats_len] at e8
                  have HE8 := Aside0.mk e8
                  have HMe := Aside0.mk (smuW_of HSu.out HIn.out.1.len)
                  have hnw : n = ws.length := by omega
                  have HNc := Aside0.mk (HIn.out.1.close (fun m hm hc => by
                    rw [HWz.out] at hm ⊢
                    exact HIn.out.2.1 m (by rw [hnw]; exact hm) ((HCt.out m).1 hc)))
                  have HTl := Aside0.mk (show smu fs sn1 + td2.length ≤ 256000001000 from by have := HIn.out.2.2; have := HMq.out; have := HMi2.out; omega)
                  have HTm := Aside0.mk (show smu fs sn1 + td2.length < smu fs sn + (td.length + 1) from by have := HIn.out.2.2; have := HMq.out; omega)
                  clear hc8 hr8 e8 hnw
                  go_wp2_with (fail)
                  go_roundw
                  case rel => exact ⟨td2, sn1, HBu, HSu, HQu, HNc, HZu, HTl⟩
                  case measure =>
                    rw [HE8.out, HMe.out, HMz.out]
                    simp only [lenV]
                    have := HTm.out
                    have := HN9.out
                    omega
end Go.Proofs.YthkoockcfnbpiaaDoor.W27
