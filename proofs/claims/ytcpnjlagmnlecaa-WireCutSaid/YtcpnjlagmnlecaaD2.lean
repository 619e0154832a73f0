/- WireCut walked. -/
import Derived.Test.YtcpnjlagmnlecaaProg
import Derived.Below
import Derived.Deep.Draws
import Derived.Deep.AppendLies
import Derived.Maps.AppendAt
import Derived.OwnWalk
import Derived.Laws.BytesArg
import Derived.Laws.MakeOwn
import Derived.Laws.OwnMore
import Derived.Deep.OwnRows
import Derived.Tactics
import Derived.Lib.ConvBytes
import Derived.Laws.Slices
import Derived.WalkKit
import Derived.KernelRfl
import Derived.RowKit3
import Derived.Deep.LoopGhost
import Derived.Deep.QuietTactic
import Derived.BigQuiet
import Derived.WideLaws
import Derived.Deep.DeepCutAuto
import Derived.Deep.CutBlock
import Derived.Deep.RegionHeld3
import Derived.Laws.Rows
import Derived.Lib.AppendStr
import Derived.ArgAppend
import Derived.Laws.IdiomCopy
import Derived.OrdersHeld
import Derived.Laws.BitsLemmas
import Derived.RowKit
import Derived.WalkSpells
import Derived.Laws.CopyOwn
import Derived.Test.YtcpnjlagmnlecaaWWords
import Derived.Test.YtcpnjlagmnlecaaWLast
import Derived.Test.YtcpnjlagmnlecaaWMore
import Derived.Test.YtcpnjlagmnlecaaD1
import Derived.Test.YtcpnjlagmnlecaaC5
import Derived.Test.YtcpnjlagmnlecaaB2
namespace Go.Proofs.Ytcpnjlagmnlecaa.D2
open Go.RowKit Go.Proofs.YtcpnjlagmnlecaaW.PrintWords Go.Proofs.YtcpnjlagmnlecaaW.PrintLast Go.Proofs.YtcpnjlagmnlecaaW.PrintMore Go.Proofs.Ytcpnjlagmnlecaa Go.Proofs.Ytcpnjlagmnlecaa.A2 Go.Proofs.Ytcpnjlagmnlecaa.A3 Go.Proofs.Ytcpnjlagmnlecaa.A4 Go.Proofs.Ytcpnjlagmnlecaa.A5 Go.Proofs.Ytcpnjlagmnlecaa.A6 Go.Proofs.Ytcpnjlagmnlecaa.B2 Go.Proofs.Ytcpnjlagmnlecaa.B3 Go.Proofs.Ytcpnjlagmnlecaa.C1 Go.Proofs.Ytcpnjlagmnlecaa.C2 Go.Proofs.Ytcpnjlagmnlecaa.C3 Go.Proofs.Ytcpnjlagmnlecaa.C4 Go.Proofs.Ytcpnjlagmnlecaa.C6 Go.Proofs.Ytcpnjlagmnlecaa.D1
set_option linter.unusedVariables false
set_option linter.unusedSimpArgs false
theorem left_st (lo g : Nat) (b : List Int) (w : World) (h : Rd w lo g b 3) :
    Calls Try.prog 29 #[.pointer (some ⟨g, 0, none⟩)] w fun en w' => en = .returned (.int .i64 0) ∧ w = w' := left_yes lo g b 3 w h
theorem end_st (lo g : Nat) (b : List Int) (w : World) (h : Rd w lo g b 3) :
    Calls Try.prog 32 #[.pointer (some ⟨g, 0, none⟩)] w fun en w' => en = .returned (.int .i64 3) ∧ Rd w' lo g b 3 ∧ Kp w w' g := end_yes lo g b 3 w h
theorem keep_other {W wr w1 : World} {base : Nat} {v u v1 : Value} {x y : List Int} (hr : Kd.R (Kd.int .u8) 5 W wr.heap.size (fun _ => True) v x) (he : Kd.R (Kd.int .i64) 3 wr base (fun _ => True) u y) (hg : W.grownBy w1 u.ownBlock) (hat : v1.ownBlock = u.ownBlock ∨ ∃ b, v1.ownBlock = some b ∧ W.heap.size ≤ b) (hb : base ≤ wr.heap.size) : Kd.R (Kd.int .u8) 5 w1 base (fun q => some q ≠ v1.ownBlock) v x := by
  have hu : ∀ q, u.ownBlock = some q → q < wr.heap.size := by
    obtain ⟨_, inner, hown, _⟩ := he
    exact fun q hq => own_lt hown q hq
  have h1 := Kd.R_grown (Kd.R_bound hr) hg (fun q hq e => by
    have := hu q e.symm
    have := hq.2.1
    omega)
  refine Kd.R_lower (Kd.R_mono h1 (fun q hq e => ?_)) hb
  rcases hat with h2 | ⟨b, h2, h3⟩
  · rw [h2] at e
    have := hu q e.symm
    have := hq.2.1
    omega
  · rw [h2] at e
    injection e with e
    have := hq.2.2.1
    omega
set_option maxHeartbeats 8000000 in
set_option maxRecDepth 100000 in
theorem cut_walk (A0 : Option Addr) (c0 : Nat) (l : List H.S57) (n1 : Int) (w : World) (hr0 : Kd.C H.k57 w A0 l.length l) (hc0 : l.length ≤ c0) :
    Calls Try.prog 8 #[.slice A0 l.length c0, .int .i64 n1] w fun e w' => e = .returned (.bool true) ∧ Below w.heap.size w w' := by
  have HR0 := Aside0.mk hr0
  have HC0 := Aside0.mk hc0
  obtain ⟨i0, hi0, _, hsz0, _⟩ := info_parts A4.info5
  have HI := Aside0.mk hi0
  have HZ := Aside0.mk hsz0
  clear hr0 hc0 hi0 hsz0
  go_enter Try.func8, Try.ntmps8
  go_wp2_with (fail)
  go_loopw [5, 6, 7] (fun v5 v6 v7 wr => ∃ (k : Nat) (Ab : Option Addr) (cb : Nat), k ≤ l.length ∧ k ≤ 20 ∧ v5 = .slice Ab (pre l k).length cb ∧ v7 = .int .i64 k ∧ Aside0 (Kd.R (Kd.int .u8) 5 wr w.heap.size (fun q => some q ≠ v6.ownBlock) (.slice Ab (pre l k).length cb) (pre l k)) ∧ Aside0 (Kd.R (Kd.int .i64) 3 wr w.heap.size (fun _ => True) v6 (endsOf l k)) ∧ Aside0 (Below w.heap.size w wr)) (fun _ _ v7 _ => 31 - (intOf v7).toNat)
  case atStart => exact ⟨0, none, 0, by omega, by omega, rfl, rfl, ⟨Kd.R_nil _ _ _ _ _⟩, ⟨Kd.R_nil _ _ _ _ _⟩, ⟨Below.refl _ _⟩⟩
  case round =>
    obtain ⟨k, Ab, cb, hkl, hk30, rfl, rfl, HRx, HEx, HBx⟩ := hrel
    by_cases h1 : k < l.length
    · by_cases h2 : k < 20
      · obtain ⟨ad, A3, c3, eA, q0, q1, q2, q3, hl3, hC3⟩ := H.at_T57 HR0.out (k : Int) (by omega) (by omega)
        cases eA
        have hps := pre_succ l k h1
        have hpl := pre_len l k (by omega)
        have hpl2 := pre_len l (k + 1) (by omega)
        obtain ⟨x, hx⟩ : ∃ x, x = H.rd_T57 l (k : Int) := ⟨_, rfl⟩
        rw [← hx] at q0 q1 q2 q3 hl3 hC3 hps
        simp only [Int.toNat_natCast] at q0 q1 q2 q3
        have p0 := (HBx.out.cell (World.block_lt_of_cell? w _ q0)).trans q0
        have p1 := (HBx.out.cell (World.block_lt_of_cell? w _ q1)).trans q1
        have p2 := (HBx.out.cell (World.block_lt_of_cell? w _ q2)).trans q2
        have p3 := (HBx.out.cell (World.block_lt_of_cell? w _ q3)).trans q3
        have HC3 := Aside0.mk (Kd.C_below hC3 HBx.out)
        have HL3 := Aside0.mk hl3
        obtain ⟨B, hB⟩ : ∃ B, B = pre l k := ⟨_, rfl⟩
        obtain ⟨Cc, hCc⟩ : ∃ Cc, Cc = B ++ thing x := ⟨_, rfl⟩
        have HCB := Aside0.mk (show Cc = pre l (k + 1) by rw [hCc, hB, hps])
        have HBl := Aside0.mk (show B.length + 1000000000 < 140737488355328 by rw [hB]; omega)
        have HPt := Aside0.mk (show putP B x = (Cc, 0) by rw [hCc]; exact put_thing B x)
        have HEs := Aside0.mk (show endsOf l k ++ [(Cc.length : Int)] = endsOf l (k + 1) by rw [ends_succ, HCB.out])
        have HEl := Aside0.mk (show (endsOf l k).length ≤ 20 by rw [ends_len]; omega)
        rw [← hB] at HRx ⊢
        clear q0 q1 q2 q3 hl3 hC3 hps hpl hpl2 hB hCc hx
        go_wp2_with (fail)
        refine (put_own Ab cb B x A3 c3 wr (Kd.R_reads' HRx.out).2.2 (Kd.R_reads' HRx.out).2.1 HC3.out HL3.out HBl.out).mono ?_
        rw [HPt.out]
        rintro e w3 ⟨v3, rfl, hr, hb⟩
        obtain ⟨Ac, cc, rfl⟩ := Kd.R_slice hr
        have HO3 := Aside0.mk hr
        have HE3 := Aside0.mk (Kd.R_below HEx.out hb)
        have HB3 := Aside0.mk (HBx.out.trans (hb.mono HBx.out.size))
        clear hr hb
        go_wp2_with (at_builtin; refine Kd.R_append (Kd.int .i64) (w0 := w) w.heap.size rfl (.tmp 35) (.tmp 38) 31 3 (.int .i64 0) 8 rfl Try.underlying31 A6.info3 rfl (by decide) (by omega) u6 (endsOf l k) (Cc.length : Int) [.int .i64 (Cc.length : Int)] (fun _ => True) (fun _ => False) rfl rfl rfl (fun _ hk => hk.elim) (fun _ _ => trivial) HE3.out HB3.out HB3.out.size (by have := HEl.out; omega) ?_; intro v1 w4 ho hb hg hat; rw [HEs.out] at ho; have HE4 := Aside0.mk ho; have HR4 := Aside0.mk (keep_other HO3.out HEx.out hg hat HBx.out.size); have HB4 := Aside0.mk hb; clear ho hb hg hat)
        go_roundw
        case rel => exact ⟨k + 1, Ac, cc, by omega, by omega, by rw [← HCB.out], by rw [Int.natCast_add]; rfl, by rw [← HCB.out]; exact HR4, HE4, HB4⟩
        case measure => simp only [intOf]; omega
      · obtain rfl : k = 20 := by omega
        obtain ⟨Ae, ce, rfl⟩ := Kd.R_slice HEx.out
        have HEc0 := (Kd.R_reads' HEx.out).2.2
        rw [ends_len] at HEc0 ⊢
        have HEc := Aside0.mk HEc0
        clear HEc0
        have hpl := pre_len l 20 (by omega)
        have HOk := Aside0.mk (pre_okB l 20)
        obtain ⟨B, hB⟩ : ∃ B, B = pre l 20 := ⟨_, rfl⟩
        have HkL := Aside0.mk (show 20 ≤ l.length by omega)
        have Hk3 := Aside0.mk (show 20 ≤ 20 by omega)
        have HBe := Aside0.mk hB
        rw [← hB] at HRx hpl HOk ⊢
        clear hB
        have hbr := bring_f n1 ((B.length : Int) + 1) (by omega) (by omega)
        obtain ⟨K, hK⟩ : ∃ K : Nat, bringI n1 ((B.length : Int) + 1) = (K : Int) := ⟨(bringI n1 ((B.length : Int) + 1)).toNat, by omega⟩
        rw [hK] at hbr
        have HBr := Aside0.mk hbr.1
        have hKB : K ≤ B.length := by omega
        have hw1 : wrap64 ((B.length : Int) + 1) = (B.length : Int) + 1 := by unfold wrap64; omega
        obtain ⟨hcut4, hA4, hC4⟩ := print_take_of (P := Try.prog) (Value.int .u8) 0 22 5 .i64 Try.underlying22 HI.out HZ.out Ab cb B (K : Int) (Int.natCast_nonneg _) (by omega) (Kd.R_reads' HRx.out).2.1
        simp only [Int.toNat_natCast] at hcut4 hA4 hC4
        have HA4 := Aside0.mk (Kd.C_of_reads (h1 := fun _ => rfl) (hA4 wr (Kd.reads_of_C (Kd.R_reads' HRx.out).2.2)))
        have HC4 := Aside0.mk hC4
        have HLt := Aside0.mk (show (B.take K).length = K by rw [List.length_take]; omega)
        have HOt := Aside0.mk (okB_take HOk.out K)
        have HKB := Aside0.mk hKB
        have HLs := Aside0.mk (show (B.take K).length < 140737488355328 by rw [HLt.out]; omega)
        have HPl := Aside0.mk hpl
        obtain ⟨T, hT⟩ : ∃ T, T = B.take K := ⟨_, rfl⟩
        rw [← hT] at hcut4 HA4 HC4 HLt HOt HLs
        rw [HLt.out] at hcut4
        have HTe := Aside0.mk hT
        clear hA4 hC4 hbr hK hT
        go_wp2_with (fail)
        refine (H.armillaryref00_Bring.calls n1 ((B.length : Int) + 1) K wr HBr.out).mono ?_
        rintro e w5 ⟨rfl, ⟨nd, rfl⟩⟩
        have HB5 := Aside0.mk (pw_below_drewN HBx.out nd)
        have HB5r := Aside0.mk (pw_below_drewN (Below.refl wr.heap.size wr) nd)
        clear hpl hKB
        go_wp2_with (fail)
        rw [← HLt.out]
        refine (newReader_yes Ab cb T _ (Kd.C_below HA4.out HB5r.out) HC4.out HLs.out HOt.out).mono ?_
        rintro e w7 ⟨g, rfl, hg, hr, hb⟩
        have HR7 := Aside0.mk (show ((pre l 0).length ≤ K ∧ Rd w7 (wr.drewN nd).heap.size g (cutAt l 20 K 0) 0) ∨ (K < (pre l 0).length ∧ ∃ bb, Rd w7 (wr.drewN nd).heap.size g bb 3) from .inl ⟨Nat.zero_le _, by rw [cut_zero, ← HBe.out, ← HTe.out]; exact hr⟩)
        have HGg := Aside0.mk hg
        have HB7 := Aside0.mk hb
        have HE7 := Aside0.mk (Kd.C_below HEc.out HB5r.out)
        clear hg hr hb
        obtain ⟨w6, hw6⟩ : ∃ w6, w6 = wr.drewN nd := ⟨_, rfl⟩
        rw [← hw6] at HR7 HGg HB7 HE7 HB5
        clear hw6
        rw [HLt.out]
        go_wp2_with (fail)
        go_loopw [12] (fun v12 wr => ∃ i : Nat, i ≤ 20 ∧ v12 = .int .i64 i ∧ Aside0 (((pre l i).length ≤ K ∧ Rd wr w6.heap.size g (cutAt l 20 K i) 0) ∨ (K < (pre l i).length ∧ ∃ bb, Rd wr w6.heap.size g bb 3)) ∧ Aside0 (Below w6.heap.size w6 wr)) (fun v12 _ => 31 - (intOf v12).toNat)
        case atStart => exact ⟨0, by omega, rfl, HR7, HB7⟩
        case round =>
          obtain ⟨i, hik, rfl, HRq, HBq⟩ := hrel
          have HBw := Aside0.mk (HB5.out.trans (HBq.out.mono HB5.out.size))
          have HGw := Aside0.mk (Nat.le_trans HB5.out.size HGg.out)
          by_cases hi : i < 20
          · have hi20 : i < 20 := by have := Hk3.out; omega
            obtain ⟨ad, A3, c3, eA, q0, q1, q2, q3, hl3, hC3⟩ := H.at_T57 HR0.out (i : Int) (by omega) (by have := HkL.out; omega)
            cases eA
            obtain ⟨ad2, eA2, r0⟩ := Kd.at_int HE7.out (i : Int) (by omega) (by omega)
            cases eA2
            rw [ends_at l 20 i hi] at r0
            have hmono := pre_mono l i (by have := HkL.out; omega)
            have hwh := cut_whole l 20 K i hi HkL.out
            have hpt := cut_part l 20 K i hi HkL.out
            obtain ⟨x, hx⟩ : ∃ x, x = H.rd_T57 l (i : Int) := ⟨_, rfl⟩
            rw [← hx] at q0 q1 q2 q3 hl3 hC3 hwh hpt
            simp only [Int.toNat_natCast] at q0 q1 q2 q3 r0
            have p0 := (HBw.out.cell (World.block_lt_of_cell? w _ q0)).trans q0
            have p1 := (HBw.out.cell (World.block_lt_of_cell? w _ q1)).trans q1
            have p2 := (HBw.out.cell (World.block_lt_of_cell? w _ q2)).trans q2
            have p3 := (HBw.out.cell (World.block_lt_of_cell? w _ q3)).trans q3
            have r1 := (HBq.out.cell (World.block_lt_of_cell? w6 _ r0)).trans r0
            have HC3 := Aside0.mk hC3
            have HL3 := Aside0.mk hl3
            by_cases hA : (pre l (i + 1)).length ≤ K
            · have HRr := Aside0.mk (show Rd wr w6.heap.size g (thing x ++ cutAt l 20 K (i + 1)) 0 by
                rcases HRq.out with ⟨_, h⟩ | ⟨h, _⟩
                · rw [← hwh hA]; exact h
                · omega)
              have HA := Aside0.mk hA
              obtain ⟨en, hen⟩ : ∃ en, en = (pre l (i + 1)).length := ⟨_, rfl⟩
              rw [← hen] at r1 hA
              clear q0 q1 q2 q3 hl3 hC3 hx r0 hmono hwh hpt hen
              go_wp2_with (fail)
              refine (got_yes w6.heap.size g _ 0 x A3 c3 w wr HRr.out HC3.out HL3.out HBw.out HGw.out).mono ?_
              rw [(got_back x (cutAt l 20 K (i + 1))).2]
              rintro e w8 ⟨r8, rfl, hg8, hr8, hk8⟩
              obtain rfl := hg8 (got_back x (cutAt l 20 K (i + 1))).1
              have HR8 := Aside0.mk hr8
              have HB8 := Aside0.mk (HBq.out.trans (hk8.low.mono HGg.out))
              clear hg8 hr8 hk8
              go_wp2_with (fail)
              refine (err_yes _ g _ 0 _ HR8.out).mono ?_
              rintro e w9 ⟨rfl, rfl⟩
              go_wp2_with (fail)
              go_roundw
              case rel => exact ⟨i + 1, by omega, by rw [Int.natCast_add]; rfl, ⟨.inl ⟨HA.out, HR8.out⟩⟩, HB8⟩
              case measure => simp only [intOf]; omega
            · have HRr := Aside0.mk (show ∃ bb e0, Rd wr w6.heap.size g bb e0 ∧ (gotS x (bb, e0)).2 = 3 by
                rcases HRq.out with ⟨h0, h⟩ | ⟨_, bb, h⟩
                · obtain ⟨j, hj, ej⟩ := hpt h0 (by omega)
                  rw [ej] at h
                  exact ⟨_, 0, h, got_ct x j hj⟩
                · exact ⟨bb, 3, h, by rw [got_st]⟩)
              have HA := Aside0.mk (show K < (pre l (i + 1)).length by omega)
              obtain ⟨en, hen⟩ : ∃ en, en = (pre l (i + 1)).length := ⟨_, rfl⟩
              rw [← hen] at r1 hA
              obtain ⟨b0, e0, hR0, hG0⟩ := HRr.out
              have HRs := Aside0.mk hR0
              have HGs := Aside0.mk hG0
              clear q0 q1 q2 q3 hl3 hC3 hx r0 hmono hwh hpt hen hR0 hG0 HRr
              go_wp2_with (fail)
              refine (got_yes w6.heap.size g b0 e0 x A3 c3 w wr HRs.out HC3.out HL3.out HBw.out HGw.out).mono ?_
              rw [HGs.out]
              obtain ⟨bb, hbb⟩ : ∃ bb, bb = (gotS x (b0, e0)).1 := ⟨_, rfl⟩
              rw [← hbb]
              rintro e w8 ⟨r8, rfl, _, hr8, hk8⟩
              have HR8 := Aside0.mk hr8
              have HB8 := Aside0.mk (HBq.out.trans (hk8.low.mono HGg.out))
              clear hr8 hk8 hbb
              go_wp2_with (fail)
              refine (err_yes _ g _ 3 _ HR8.out).mono ?_
              rintro e w9 ⟨rfl, rfl⟩
              go_wp2_with (fail)
              refine (left_st _ g bb _ HR8.out).mono ?_
              rintro e w9 ⟨rfl, rfl⟩
              go_wp2_with (fail)
              refine (num_at _ g bb 3 _ HR8.out _ _ _ (num_st bb)).mono ?_
              rintro e w10 ⟨rfl, hr, hk⟩
              have HR10 := Aside0.mk hr
              have HB10 := Aside0.mk (HB8.out.trans (hk.low.mono HGg.out))
              clear hr hk
              go_wp2_with (fail)
              refine (text_at _ g bb 3 _ HR10.out _ _ _ (text_st bb)).mono ?_
              rintro e w11 ⟨rfl, hr, hk⟩
              have HR11 := Aside0.mk hr
              have HB11 := Aside0.mk (HB10.out.trans (hk.low.mono HGg.out))
              clear hr hk
              go_wp2_with (fail)
              refine (nums_at _ g bb 3 _ HR11.out _ _ _ (list_st _ bb)).mono ?_
              rintro e w12 ⟨A8, c8, rfl, _, _, hr, hk⟩
              have HR12 := Aside0.mk hr
              have HB12 := Aside0.mk (HB11.out.trans (hk.low.mono HGg.out))
              clear hr hk
              go_wp2_with (fail)
              refine (texts_at _ g bb 3 _ HR12.out _ _ _ (list_st _ bb)).mono ?_
              rintro e w13 ⟨A9, c9, rfl, _, _, hr, hk⟩
              have HR13 := Aside0.mk hr
              have HB13 := Aside0.mk (HB12.out.trans (hk.low.mono HGg.out))
              clear hr hk
              go_wp2_with (fail)
              refine (end_st _ g bb _ HR13.out).mono ?_
              rintro e w14 ⟨rfl, hr, hk⟩
              have HR14 := Aside0.mk hr
              have HB14 := Aside0.mk (HB13.out.trans (hk.low.mono HGg.out))
              clear hr hk
              go_wp2_with (fail)
              go_roundw
              case rel => exact ⟨i + 1, by omega, by rw [Int.natCast_add]; rfl, ⟨.inr ⟨HA.out, bb, HR14.out⟩⟩, HB14⟩
              case measure => simp only [intOf]; omega
          · obtain rfl : i = 20 := by omega
            go_wp2_with (fail)
            refine (armillarylaw01_works.calls true wr rfl).mono ?_
            rintro e w9 ⟨rfl, hb⟩
            have HB9 := Aside0.mk (HBw.out.trans (hb.mono HBw.out.size))
            go_wp2_with (fail)
            go_ret
            exact ⟨rfl, HB9.out⟩
    · obtain rfl : k = l.length := by omega
      obtain ⟨Ae, ce, rfl⟩ := Kd.R_slice HEx.out
      have HEc0 := (Kd.R_reads' HEx.out).2.2
      rw [ends_len] at HEc0 ⊢
      have HEc := Aside0.mk HEc0
      clear HEc0
      have hpl := pre_len l l.length (by omega)
      have HOk := Aside0.mk (pre_okB l l.length)
      obtain ⟨B, hB⟩ : ∃ B, B = pre l l.length := ⟨_, rfl⟩
      have HkL := Aside0.mk (show l.length ≤ l.length by omega)
      have Hk3 := Aside0.mk (show l.length ≤ 20 by omega)
      have HBe := Aside0.mk hB
      rw [← hB] at HRx hpl HOk ⊢
      clear hB
      have hbr := bring_f n1 ((B.length : Int) + 1) (by omega) (by omega)
      obtain ⟨K, hK⟩ : ∃ K : Nat, bringI n1 ((B.length : Int) + 1) = (K : Int) := ⟨(bringI n1 ((B.length : Int) + 1)).toNat, by omega⟩
      rw [hK] at hbr
      have HBr := Aside0.mk hbr.1
      have hKB : K ≤ B.length := by omega
      have hw1 : wrap64 ((B.length : Int) + 1) = (B.length : Int) + 1 := by unfold wrap64; omega
      obtain ⟨hcut4, hA4, hC4⟩ := print_take_of (P := Try.prog) (Value.int .u8) 0 22 5 .i64 Try.underlying22 HI.out HZ.out Ab cb B (K : Int) (Int.natCast_nonneg _) (by omega) (Kd.R_reads' HRx.out).2.1
      simp only [Int.toNat_natCast] at hcut4 hA4 hC4
      have HA4 := Aside0.mk (Kd.C_of_reads (h1 := fun _ => rfl) (hA4 wr (Kd.reads_of_C (Kd.R_reads' HRx.out).2.2)))
      have HC4 := Aside0.mk hC4
      have HLt := Aside0.mk (show (B.take K).length = K by rw [List.length_take]; omega)
      have HOt := Aside0.mk (okB_take HOk.out K)
      have HKB := Aside0.mk hKB
      have HLs := Aside0.mk (show (B.take K).length < 140737488355328 by rw [HLt.out]; omega)
      have HPl := Aside0.mk hpl
      obtain ⟨T, hT⟩ : ∃ T, T = B.take K := ⟨_, rfl⟩
      rw [← hT] at hcut4 HA4 HC4 HLt HOt HLs
      rw [HLt.out] at hcut4
      have HTe := Aside0.mk hT
      clear hA4 hC4 hbr hK hT
      go_wp2_with (fail)
      refine (H.armillaryref00_Bring.calls n1 ((B.length : Int) + 1) K wr HBr.out).mono ?_
      rintro e w5 ⟨rfl, ⟨nd, rfl⟩⟩
      have HB5 := Aside0.mk (pw_below_drewN HBx.out nd)
      have HB5r := Aside0.mk (pw_below_drewN (Below.refl wr.heap.size wr) nd)
      clear hpl hKB
      go_wp2_with (fail)
      rw [← HLt.out]
      refine (newReader_yes Ab cb T _ (Kd.C_below HA4.out HB5r.out) HC4.out HLs.out HOt.out).mono ?_
      rintro e w7 ⟨g, rfl, hg, hr, hb⟩
      have HR7 := Aside0.mk (show ((pre l 0).length ≤ K ∧ Rd w7 (wr.drewN nd).heap.size g (cutAt l l.length K 0) 0) ∨ (K < (pre l 0).length ∧ ∃ bb, Rd w7 (wr.drewN nd).heap.size g bb 3) from .inl ⟨Nat.zero_le _, by rw [cut_zero, ← HBe.out, ← HTe.out]; exact hr⟩)
      have HGg := Aside0.mk hg
      have HB7 := Aside0.mk hb
      have HE7 := Aside0.mk (Kd.C_below HEc.out HB5r.out)
      clear hg hr hb
      obtain ⟨w6, hw6⟩ : ∃ w6, w6 = wr.drewN nd := ⟨_, rfl⟩
      rw [← hw6] at HR7 HGg HB7 HE7 HB5
      clear hw6
      rw [HLt.out]
      go_wp2_with (fail)
      go_loopw [12] (fun v12 wr => ∃ i : Nat, i ≤ l.length ∧ v12 = .int .i64 i ∧ Aside0 (((pre l i).length ≤ K ∧ Rd wr w6.heap.size g (cutAt l l.length K i) 0) ∨ (K < (pre l i).length ∧ ∃ bb, Rd wr w6.heap.size g bb 3)) ∧ Aside0 (Below w6.heap.size w6 wr)) (fun v12 _ => 31 - (intOf v12).toNat)
      case atStart => exact ⟨0, by omega, rfl, HR7, HB7⟩
      case round =>
        obtain ⟨i, hik, rfl, HRq, HBq⟩ := hrel
        have HBw := Aside0.mk (HB5.out.trans (HBq.out.mono HB5.out.size))
        have HGw := Aside0.mk (Nat.le_trans HB5.out.size HGg.out)
        by_cases hi : i < l.length
        · have hi20 : i < 20 := by have := Hk3.out; omega
          obtain ⟨ad, A3, c3, eA, q0, q1, q2, q3, hl3, hC3⟩ := H.at_T57 HR0.out (i : Int) (by omega) (by have := HkL.out; omega)
          cases eA
          obtain ⟨ad2, eA2, r0⟩ := Kd.at_int HE7.out (i : Int) (by omega) (by omega)
          cases eA2
          rw [ends_at l l.length i hi] at r0
          have hmono := pre_mono l i (by have := HkL.out; omega)
          have hwh := cut_whole l l.length K i hi HkL.out
          have hpt := cut_part l l.length K i hi HkL.out
          obtain ⟨x, hx⟩ : ∃ x, x = H.rd_T57 l (i : Int) := ⟨_, rfl⟩
          rw [← hx] at q0 q1 q2 q3 hl3 hC3 hwh hpt
          simp only [Int.toNat_natCast] at q0 q1 q2 q3 r0
          have p0 := (HBw.out.cell (World.block_lt_of_cell? w _ q0)).trans q0
          have p1 := (HBw.out.cell (World.block_lt_of_cell? w _ q1)).trans q1
          have p2 := (HBw.out.cell (World.block_lt_of_cell? w _ q2)).trans q2
          have p3 := (HBw.out.cell (World.block_lt_of_cell? w _ q3)).trans q3
          have r1 := (HBq.out.cell (World.block_lt_of_cell? w6 _ r0)).trans r0
          have HC3 := Aside0.mk hC3
          have HL3 := Aside0.mk hl3
          by_cases hA : (pre l (i + 1)).length ≤ K
          · have HRr := Aside0.mk (show Rd wr w6.heap.size g (thing x ++ cutAt l l.length K (i + 1)) 0 by
              rcases HRq.out with ⟨_, h⟩ | ⟨h, _⟩
              · rw [← hwh hA]; exact h
              · omega)
            have HA := Aside0.mk hA
            obtain ⟨en, hen⟩ : ∃ en, en = (pre l (i + 1)).length := ⟨_, rfl⟩
            rw [← hen] at r1 hA
            clear q0 q1 q2 q3 hl3 hC3 hx r0 hmono hwh hpt hen
            go_wp2_with (fail)
            refine (got_yes w6.heap.size g _ 0 x A3 c3 w wr HRr.out HC3.out HL3.out HBw.out HGw.out).mono ?_
            rw [(got_back x (cutAt l l.length K (i + 1))).2]
            rintro e w8 ⟨r8, rfl, hg8, hr8, hk8⟩
            obtain rfl := hg8 (got_back x (cutAt l l.length K (i + 1))).1
            have HR8 := Aside0.mk hr8
            have HB8 := Aside0.mk (HBq.out.trans (hk8.low.mono HGg.out))
            clear hg8 hr8 hk8
            go_wp2_with (fail)
            refine (err_yes _ g _ 0 _ HR8.out).mono ?_
            rintro e w9 ⟨rfl, rfl⟩
            go_wp2_with (fail)
            go_roundw
            case rel => exact ⟨i + 1, by omega, by rw [Int.natCast_add]; rfl, ⟨.inl ⟨HA.out, HR8.out⟩⟩, HB8⟩
            case measure => simp only [intOf]; omega
          · have HRr := Aside0.mk (show ∃ bb e0, Rd wr w6.heap.size g bb e0 ∧ (gotS x (bb, e0)).2 = 3 by
              rcases HRq.out with ⟨h0, h⟩ | ⟨_, bb, h⟩
              · obtain ⟨j, hj, ej⟩ := hpt h0 (by omega)
                rw [ej] at h
                exact ⟨_, 0, h, got_ct x j hj⟩
              · exact ⟨bb, 3, h, by rw [got_st]⟩)
            have HA := Aside0.mk (show K < (pre l (i + 1)).length by omega)
            obtain ⟨en, hen⟩ : ∃ en, en = (pre l (i + 1)).length := ⟨_, rfl⟩
            rw [← hen] at r1 hA
            obtain ⟨b0, e0, hR0, hG0⟩ := HRr.out
            have HRs := Aside0.mk hR0
            have HGs := Aside0.mk hG0
            clear q0 q1 q2 q3 hl3 hC3 hx r0 hmono hwh hpt hen hR0 hG0 HRr
            go_wp2_with (fail)
            refine (got_yes w6.heap.size g b0 e0 x A3 c3 w wr HRs.out HC3.out HL3.out HBw.out HGw.out).mono ?_
            rw [HGs.out]
            obtain ⟨bb, hbb⟩ : ∃ bb, bb = (gotS x (b0, e0)).1 := ⟨_, rfl⟩
            rw [← hbb]
            rintro e w8 ⟨r8, rfl, _, hr8, hk8⟩
            have HR8 := Aside0.mk hr8
            have HB8 := Aside0.mk (HBq.out.trans (hk8.low.mono HGg.out))
            clear hr8 hk8 hbb
            go_wp2_with (fail)
            refine (err_yes _ g _ 3 _ HR8.out).mono ?_
            rintro e w9 ⟨rfl, rfl⟩
            go_wp2_with (fail)
            refine (left_st _ g bb _ HR8.out).mono ?_
            rintro e w9 ⟨rfl, rfl⟩
            go_wp2_with (fail)
            refine (num_at _ g bb 3 _ HR8.out _ _ _ (num_st bb)).mono ?_
            rintro e w10 ⟨rfl, hr, hk⟩
            have HR10 := Aside0.mk hr
            have HB10 := Aside0.mk (HB8.out.trans (hk.low.mono HGg.out))
            clear hr hk
            go_wp2_with (fail)
            refine (text_at _ g bb 3 _ HR10.out _ _ _ (text_st bb)).mono ?_
            rintro e w11 ⟨rfl, hr, hk⟩
            have HR11 := Aside0.mk hr
            have HB11 := Aside0.mk (HB10.out.trans (hk.low.mono HGg.out))
            clear hr hk
            go_wp2_with (fail)
            refine (nums_at _ g bb 3 _ HR11.out _ _ _ (list_st _ bb)).mono ?_
            rintro e w12 ⟨A8, c8, rfl, _, _, hr, hk⟩
            have HR12 := Aside0.mk hr
            have HB12 := Aside0.mk (HB11.out.trans (hk.low.mono HGg.out))
            clear hr hk
            go_wp2_with (fail)
            refine (texts_at _ g bb 3 _ HR12.out _ _ _ (list_st _ bb)).mono ?_
            rintro e w13 ⟨A9, c9, rfl, _, _, hr, hk⟩
            have HR13 := Aside0.mk hr
            have HB13 := Aside0.mk (HB12.out.trans (hk.low.mono HGg.out))
            clear hr hk
            go_wp2_with (fail)
            refine (end_st _ g bb _ HR13.out).mono ?_
            rintro e w14 ⟨rfl, hr, hk⟩
            have HR14 := Aside0.mk hr
            have HB14 := Aside0.mk (HB13.out.trans (hk.low.mono HGg.out))
            clear hr hk
            go_wp2_with (fail)
            go_roundw
            case rel => exact ⟨i + 1, by omega, by rw [Int.natCast_add]; rfl, ⟨.inr ⟨HA.out, bb, HR14.out⟩⟩, HB14⟩
            case measure => simp only [intOf]; omega
        · obtain rfl : i = l.length := by omega
          go_wp2_with (fail)
          refine (armillarylaw01_works.calls true wr rfl).mono ?_
          rintro e w9 ⟨rfl, hb⟩
          have HB9 := Aside0.mk (HBw.out.trans (hb.mono HBw.out.size))
          go_wp2_with (fail)
          go_ret
          exact ⟨rfl, HB9.out⟩
end Go.Proofs.Ytcpnjlagmnlecaa.D2
