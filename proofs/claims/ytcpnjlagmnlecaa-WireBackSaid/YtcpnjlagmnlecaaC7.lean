/- WireBack walked. -/
import Derived.Test.YtcpnjlagmnlecaaProg
import Derived.Below
import Derived.Deep.Draws
import Derived.Deep.AppendLies
import Derived.Maps.AppendAt
import Derived.OwnWalk
import Derived.Laws.BytesArg
import Derived.Laws.MakeOwn
import Derived.Laws.OwnMore
import Derived.Deep.OwnRows
import Derived.Tactics
import Derived.Lib.ConvBytes
import Derived.Laws.Slices
import Derived.WalkKit
import Derived.KernelRfl
import Derived.RowKit3
import Derived.Deep.LoopGhost
import Derived.Deep.QuietTactic
import Derived.BigQuiet
import Derived.WideLaws
import Derived.Deep.DeepCutAuto
import Derived.Deep.CutBlock
import Derived.Deep.RegionHeld3
import Derived.Laws.Rows
import Derived.Lib.AppendStr
import Derived.ArgAppend
import Derived.Laws.IdiomCopy
import Derived.OrdersHeld
import Derived.Laws.BitsLemmas
import Derived.RowKit
import Derived.WalkSpells
import Derived.Laws.CopyOwn
import Derived.Test.YtcpnjlagmnlecaaWWords
import Derived.Test.YtcpnjlagmnlecaaWLast
import Derived.Test.YtcpnjlagmnlecaaWMore
import Derived.Test.YtcpnjlagmnlecaaC6
import Derived.Test.YtcpnjlagmnlecaaC5
import Derived.Test.YtcpnjlagmnlecaaB2
namespace Go.Proofs.Ytcpnjlagmnlecaa.C7
open Go.RowKit Go.Proofs.YtcpnjlagmnlecaaW.PrintWords Go.Proofs.YtcpnjlagmnlecaaW.PrintLast Go.Proofs.YtcpnjlagmnlecaaW.PrintMore Go.Proofs.Ytcpnjlagmnlecaa Go.Proofs.Ytcpnjlagmnlecaa.A2 Go.Proofs.Ytcpnjlagmnlecaa.A3 Go.Proofs.Ytcpnjlagmnlecaa.A4 Go.Proofs.Ytcpnjlagmnlecaa.A5 Go.Proofs.Ytcpnjlagmnlecaa.A6 Go.Proofs.Ytcpnjlagmnlecaa.B2 Go.Proofs.Ytcpnjlagmnlecaa.B3 Go.Proofs.Ytcpnjlagmnlecaa.C1 Go.Proofs.Ytcpnjlagmnlecaa.C2 Go.Proofs.Ytcpnjlagmnlecaa.C3 Go.Proofs.Ytcpnjlagmnlecaa.C4 Go.Proofs.Ytcpnjlagmnlecaa.C6
set_option linter.unusedVariables false
set_option linter.unusedSimpArgs false
def wbk.T3 : Bool × List (List Nat × List Nat) := (true, [([], []), ([], []), ([1], [1]), ([2], [2]), ([0, 3], [0, 3]), ([], []), ([], []), ([6], [6]), ([7], [7]), ([5, 8], [5, 8]), ([4, 0, 1, 2, 3, 4], [0, 1, 4]), ([9, 10, 0, 1, 2, 3, 4, 5, 6, 7, 8, 9, 10], [5, 6, 9])])
def wbk.B3 : List Nat := [0, 0, 2, 6, 15, 0, 0, 64, 192, 480, 31, 2047]
theorem wbk.tab3 : rtab .any (opsOf Try.f7 3) = wbk.T3 := by kernel_rfl
theorem wbk.bits3 : waitsOk wbk.T3.2 wbk.B3 = true := by kernel_rfl
theorem left_at (lo g : Nat) (b : List Int) (w : World) (h : Rd w lo g b 0) :
    Calls Try.prog 29 #[.pointer (some ⟨g, 0, none⟩)] w fun en w' => en = .returned (.int .i64 b.length) ∧ w = w' := left_yes lo g b 0 w h
theorem end_at (lo g : Nat) (b : List Int) (e : Int) (w : World) (h : Rd w lo g b 0) (he : ended b 0 = e) :
    Calls Try.prog 32 #[.pointer (some ⟨g, 0, none⟩)] w fun en w' => en = .returned (.int .i64 e) ∧ Rd w' lo g b e ∧ Kp w w' g := by
  have := end_yes lo g b 0 w h
  rwa [he] at this
set_option maxHeartbeats 8000000 in
set_option maxRecDepth 100000 in
theorem back_walk (A0 : Option Addr) (c0 : Nat) (l : List H.S57) (A1 : Option Addr) (c1 : Nat) (l1 : List Int) (A2 : Option Addr) (c2 : Nat) (l2 : List Int) (w : World) (hr0 : Kd.C H.k57 w A0 l.length l) (hc0 : l.length ≤ c0) (hr1 : Kd.C (Kd.int .u8) w A1 l1.length l1) (hc1 : l1.length ≤ c1) (ho1 : okB l1 = true) (hr2 : Kd.C (Kd.int .u8) w A2 l2.length l2) (hc2 : l2.length ≤ c2) (ho2 : okB l2 = true) :
    Calls Try.prog 7 #[.slice A0 l.length c0, .slice A1 l1.length c1, .slice A2 l2.length c2] w fun e w' => e = .returned (.bool true) ∧ Below w.heap.size w w' := by
  have HR0 := Aside0.mk hr0
  have HC0 := Aside0.mk hc0
  obtain ⟨j1, hj1⟩ : ∃ j_ : Int, (mn (l1.length : Int) 20) = j_ := ⟨_, rfl⟩
  have b1 : 0 ≤ j1 := by rw [← hj1]; unfold mn; (repeat' split) <;> omega
  have b2 : j1 ≤ (l1.length : Int) := by rw [← hj1]; unfold mn; (repeat' split) <;> omega
  have b3 : j1 ≤ 20 := by rw [← hj1]; unfold mn; (repeat' split) <;> omega
  have hj1_ : (if 20 < (l1.length : Int) then 20 else (l1.length : Int)) = j1 := hj1
  obtain ⟨j2, hj2⟩ : ∃ j_ : Int, (mn (l2.length : Int) 20) = j_ := ⟨_, rfl⟩
  have b4 : 0 ≤ j2 := by rw [← hj2]; unfold mn; (repeat' split) <;> omega
  have b5 : j2 ≤ (l2.length : Int) := by rw [← hj2]; unfold mn; (repeat' split) <;> omega
  have b6 : j2 ≤ 20 := by rw [← hj2]; unfold mn; (repeat' split) <;> omega
  have hj2_ : (if 20 < (l2.length : Int) then 20 else (l2.length : Int)) = j2 := hj2
  obtain ⟨i0, hi0, _, hsz0, _⟩ := info_parts A4.info5
  have HI := Aside0.mk hi0
  have HZ := Aside0.mk hsz0
  obtain ⟨hcut1, hA1, hC1⟩ := print_take_of (P := Try.prog) (Value.int .u8) 0 22 5 .i64 Try.underlying22 hi0 hsz0 A1 c1 l1 j1 b1 b2 hc1
  obtain ⟨hcut2, hA2, hC2⟩ := print_take_of (P := Try.prog) (Value.int .u8) 0 22 5 .i64 Try.underlying22 hi0 hsz0 A2 c2 l2 j2 b4 b5 hc2
  have HRa := Aside0.mk (Kd.C_of_reads (h1 := fun _ => rfl) (hA1 w (Kd.reads_of_C hr1)))
  have HRb := Aside0.mk (Kd.C_of_reads (h1 := fun _ => rfl) (hA2 w (Kd.reads_of_C hr2)))
  have HCa := Aside0.mk hC1
  have HCb := Aside0.mk hC2
  have hL1 : (l1.take j1.toNat).length = j1.toNat := by rw [List.length_take]; omega
  have hL2 : (l2.take j2.toNat).length = j2.toNat := by rw [List.length_take]; omega
  have HOa := Aside0.mk (okB_take ho1 j1.toNat)
  have HOb := Aside0.mk (okB_take ho2 j2.toNat)
  have HLa20 := Aside0.mk (show (l1.take j1.toNat).length ≤ 20 by omega)
  have HLb20 := Aside0.mk (show (l2.take j2.toNat).length ≤ 20 by omega)
  have b1e := eq_true b1
  have b2e := eq_true b2
  have b4e := eq_true b4
  have b5e := eq_true b5
  clear b1 b2 b3 b4 b5 b6 hr0 hc0 hr1 hc1 hr2 hc2 ho1 ho2 hA1 hA2 hC1 hC2 hi0 hsz0 hj1 hj2
  obtain ⟨ah, hah⟩ : ∃ t, t = l1.take j1.toNat := ⟨_, rfl⟩
  obtain ⟨bh, hbh⟩ : ∃ t, t = l2.take j2.toNat := ⟨_, rfl⟩
  rw [← hah] at HRa HCa HOa HLa20 hL1 
  rw [← hbh] at HRb HCb HOb HLb20 hL2
  have HL1 := Aside0.mk hL1
  have HL2 := Aside0.mk hL2
  clear hL1 hL2 hah hbh
  have HCp := Aside0.mk (show H.armillaryref00_CopyBytes.f ah = some ah by unfold H.armillaryref00_CopyBytes.f; rw [if_pos (by have := HLa20.out; simp; omega), List.nil_append])
  go_enter Try.func7, Try.ntmps7
  go_wp2_with (fail)
  refine (armillarylaw01_works.calls true w rfl).mono ?_
  rintro e w1 ⟨rfl, hb⟩
  have HB1 := Aside0.mk hb
  have HB1d := Aside0.mk (below_drew1 hb)
  clear hb
  go_wp2_with (fail)
  refine start_ (n := 12) (S := fun w' => True) (ds := []) #[false, false, false, false, false, false, false, false, false, false, false, false] (by kernel_rfl) rfl rfl trivial (fun hHeld => ?_)
  refine with_tabW wbk.tab3 wbk.bits3 (fun HT_ HW_ => ?_)
  refine pure_ (i := 0) (N := some 16) (v := ?_) (a' := ?_) #[true, false, false, false, false, false, false, false, false, false, false, false] rfl rfl (any_of HT_.out (by kernel_rfl)) (fun _ _ _ h => h) (Or.inl ⟨by rfl, ?_⟩) ?_ ?_
  rotate_left
  · intro w'
    go_simp
    with_reducible rfl
  rotate_left
  · simp only [Act.put, List.setIfInBounds_toArray, List.set_cons_zero, List.set_cons_succ, i64_w, i32_w]
    rfl
  refine pure_ (i := 1) (N := some 17) (v := ?_) (a' := ?_) #[true, true, false, false, false, false, false, false, false, false, false, false] rfl rfl (any_of HT_.out (by kernel_rfl)) (fun _ _ _ h => h) (Or.inl ⟨by rfl, ?_⟩) ?_ ?_
  rotate_left
  · intro w'
    go_simp
    with_reducible rfl
  rotate_left
  · simp only [Act.put, List.setIfInBounds_toArray, List.set_cons_zero, List.set_cons_succ, i64_w, i32_w]
    rfl
  refine pure_ (i := 2) (N := some 18) (v := ?_) (a' := ?_) #[true, true, true, false, false, false, false, false, false, false, false, false] rfl rfl (any_of HT_.out (by kernel_rfl)) (fun _ _ _ h => h) (Or.inl ⟨by rfl, ?_⟩) ?_ ?_
  rotate_left
  · intro w'
    go_simp
    with_reducible rfl
  rotate_left
  · simp only [Act.put, List.setIfInBounds_toArray, List.set_cons_zero, List.set_cons_succ, i64_w, i32_w]
    rfl
  refine pure_ (i := 3) (N := some 19) (v := ?_) (a' := ?_) #[true, true, true, true, false, false, false, false, false, false, false, false] rfl rfl (any_of HT_.out (by kernel_rfl)) (fun _ _ _ h => h) (Or.inl ⟨by rfl, ?_⟩) ?_ ?_
  rotate_left
  · intro w'
    go_simp
    with_reducible rfl
  rotate_left
  · simp only [Act.put, List.setIfInBounds_toArray, List.set_cons_zero, List.set_cons_succ, i64_w, i32_w]
    rfl
  refine pure_ (i := 4) (N := some 20) (v := ?_) (a' := ?_) #[true, true, true, true, true, false, false, false, false, false, false, false] rfl rfl (any_of HT_.out (by kernel_rfl)) (fun _ _ _ h => h) (Or.inl ⟨by rfl, ?_⟩) ?_ ?_
  rotate_left
  · intro w'
    go_simp
    with_reducible rfl
  rotate_left
  · simp only [Act.put, List.setIfInBounds_toArray, List.set_cons_zero, List.set_cons_succ, i64_w, i32_w]
    rfl
  refine pure_ (i := 5) (N := some 21) (v := ?_) (a' := ?_) #[true, true, true, true, true, true, false, false, false, false, false, false] rfl rfl (any_of HT_.out (by kernel_rfl)) (fun _ _ _ h => h) (Or.inl ⟨by rfl, ?_⟩) ?_ ?_
  rotate_left
  · intro w'
    go_simp
    with_reducible rfl
  rotate_left
  · simp only [Act.put, List.setIfInBounds_toArray, List.set_cons_zero, List.set_cons_succ, i64_w, i32_w]
    rfl
  refine pure_ (i := 6) (N := some 22) (v := ?_) (a' := ?_) #[true, true, true, true, true, true, true, false, false, false, false, false] rfl rfl (any_of HT_.out (by kernel_rfl)) (fun _ _ _ h => h) (Or.inl ⟨by rfl, ?_⟩) ?_ ?_
  rotate_left
  · intro w'
    go_simp
    with_reducible rfl
  rotate_left
  · simp only [Act.put, List.setIfInBounds_toArray, List.set_cons_zero, List.set_cons_succ, i64_w, i32_w]
    rfl
  refine pure_ (i := 7) (N := some 23) (v := ?_) (a' := ?_) #[true, true, true, true, true, true, true, true, false, false, false, false] rfl rfl (any_of HT_.out (by kernel_rfl)) (fun _ _ _ h => h) (Or.inl ⟨by rfl, ?_⟩) ?_ ?_
  rotate_left
  · intro w'
    go_simp
    with_reducible rfl
  rotate_left
  · simp only [Act.put, List.setIfInBounds_toArray, List.set_cons_zero, List.set_cons_succ, i64_w, i32_w]
    rfl
  refine pure_ (i := 8) (N := some 24) (v := ?_) (a' := ?_) #[true, true, true, true, true, true, true, true, true, false, false, false] rfl rfl (any_of HT_.out (by kernel_rfl)) (fun _ _ _ h => h) (Or.inl ⟨by rfl, ?_⟩) ?_ ?_
  rotate_left
  · intro w'
    go_simp
    with_reducible rfl
  rotate_left
  · simp only [Act.put, List.setIfInBounds_toArray, List.set_cons_zero, List.set_cons_succ, i64_w, i32_w]
    rfl
  refine pure_ (i := 9) (N := some 25) (v := ?_) (a' := ?_) #[true, true, true, true, true, true, true, true, true, true, false, false] rfl rfl (any_of HT_.out (by kernel_rfl)) (fun _ _ _ h => h) (Or.inl ⟨by rfl, ?_⟩) ?_ ?_
  rotate_left
  · intro w'
    go_simp
    with_reducible rfl
  rotate_left
  · simp only [Act.put, List.setIfInBounds_toArray, List.set_cons_zero, List.set_cons_succ, i64_w, i32_w]
    rfl
  refine pure_ (i := 10) (N := some 1) (v := ?_) (a' := ?_) #[true, true, true, true, true, true, true, true, true, true, true, false] rfl rfl (any_of HT_.out (by kernel_rfl)) (fun _ _ _ h => h) (Or.inl ⟨by rfl, ?_⟩) ?_ ?_
  rotate_left
  · intro w'
    go_simp
    with_reducible rfl
  rotate_left
  · simp only [Act.put, List.setIfInBounds_toArray, List.set_cons_zero, List.set_cons_succ, i64_w, i32_w]
    rfl
  refine pure_ (i := 11) (N := some 2) (v := ?_) (a' := ?_) #[true, true, true, true, true, true, true, true, true, true, true, true] rfl rfl (any_of HT_.out (by kernel_rfl)) (fun _ _ _ h => h) (Or.inl ⟨by rfl, ?_⟩) ?_ ?_
  rotate_left
  · intro w'
    go_simp
    with_reducible rfl
  rotate_left
  · simp only [Act.put, List.setIfInBounds_toArray, List.set_cons_zero, List.set_cons_succ, i64_w, i32_w]
    rfl
  refine done_ (done_of HT_.out (by kernel_rfl)) ?_
  rw [← HL1.out, ← HL2.out]
  clear hHeld HT_ HW_ hcut1 hcut2 b1e b2e b4e b5e hj1_ hj2_
  go_wp2_with (fail)
  refine (H.armillaryref00_CopyBytes.calls A1 c1 ah ah _ (Kd.C_below HRa.out HB1d.out) HCa.out HCp.out).mono ?_
  rintro e w2 ⟨v2, rfl, ho, hb⟩
  obtain ⟨Ai, ci, rfl⟩ := Kd.R_slice ho
  have HO2 := Aside0.mk (Kd.R_lower ho HB1d.out.size)
  have HB2 := Aside0.mk (HB1d.out.trans (hb.mono HB1d.out.size))
  clear ho hb
  go_wp2_with (fail)
  go_loopw [7, 8] (fun v7 v8 wr => ∃ (k : Nat) (Ab : Option Addr) (cb : Nat), k ≤ l.length ∧ k ≤ 30 ∧ v7 = .slice Ab (ah ++ pre l k).length cb ∧ v8 = .int .i64 k ∧ Aside0 (Kd.R (Kd.int .u8) 5 wr w.heap.size (fun _ => True) (.slice Ab (ah ++ pre l k).length cb) (ah ++ pre l k)) ∧ Aside0 (Below w.heap.size w wr)) (fun _ v8 _ => 31 - (intOf v8).toNat)
  case atStart => exact ⟨0, Ai, ci, by omega, by omega, by rw [show ah ++ pre l 0 = ah from List.append_nil ah], rfl, by rw [show ah ++ pre l 0 = ah from List.append_nil ah]; exact HO2, HB2⟩
  case round =>
    obtain ⟨k, Ab, cb, hkl, hk30, rfl, rfl, HRx, HBx⟩ := hrel
    by_cases h1 : k < l.length
    · by_cases h2 : k < 30
      · obtain ⟨ad, A3, c3, eA, q0, q1, q2, q3, hl3, hC3⟩ := H.at_T57 HR0.out (k : Int) (by omega) (by omega)
        cases eA
        have hps := pre_succ l k h1
        have hpl := pre_len l k hk30
        obtain ⟨x, hx⟩ : ∃ x, x = H.rd_T57 l (k : Int) := ⟨_, rfl⟩
        rw [← hx] at q0 q1 q2 q3 hl3 hC3 hps
        simp only [Int.toNat_natCast] at q0 q1 q2 q3
        have p0 := (HBx.out.cell (World.block_lt_of_cell? w _ q0)).trans q0
        have p1 := (HBx.out.cell (World.block_lt_of_cell? w _ q1)).trans q1
        have p2 := (HBx.out.cell (World.block_lt_of_cell? w _ q2)).trans q2
        have p3 := (HBx.out.cell (World.block_lt_of_cell? w _ q3)).trans q3
        have HC3 := Aside0.mk (Kd.C_below hC3 HBx.out)
        have HL3 := Aside0.mk hl3
        obtain ⟨B, hB⟩ : ∃ B, B = ah ++ pre l k := ⟨_, rfl⟩
        obtain ⟨Cc, hCc⟩ : ∃ Cc, Cc = B ++ thing x := ⟨_, rfl⟩
        have HCB := Aside0.mk (show Cc = ah ++ pre l (k + 1) by rw [hCc, hB, hps, List.append_assoc])
        have HBl := Aside0.mk (show B.length + 1000000000 < 140737488355328 by rw [hB, List.length_append]; have := HLa20.out; omega)
        have d1 : B.length < Cc.length := by rw [hCc, List.length_append]; have := thing_ne x; omega
        have HTk := Aside0.mk (show Cc.take B.length = B by rw [hCc, List.take_left])
        have HPt := Aside0.mk (show putP B x = (Cc, 0) by rw [hCc]; exact put_thing B x)
        have HBC := Aside0.mk (show B.length ≤ Cc.length by rw [hCc, List.length_append]; omega)
        rw [← hB] at HRx ⊢
        clear q0 q1 q2 q3 hl3 hC3 hps hpl hB hCc hx
        have HK := Aside0.mk (And.intro h1 h2)
        go_wp2_with (fail)
        refine (put_own Ab cb B x A3 c3 wr (Kd.R_reads' HRx.out).2.2 (Kd.R_reads' HRx.out).2.1 HC3.out HL3.out HBl.out).mono ?_
        rw [HPt.out]
        rintro e w3 ⟨v3, rfl, hr, hb⟩
        obtain ⟨Ac, cc, rfl⟩ := Kd.R_slice hr
        have HO3 := Aside0.mk (Kd.R_lower hr HBx.out.size)
        have HR3 := Aside0.mk (Kd.R_below HRx.out hb)
        have HB3 := Aside0.mk (HBx.out.trans (hb.mono HBx.out.size))
        have hr_ : Kd.R (Kd.int .u8) 5 w3 wr.heap.size (fun _ => True) (.slice Ac Cc.length cc) Cc := hr
        obtain ⟨hcut3, hA3, hC3⟩ := print_take_of (P := Try.prog) (Value.int .u8) 0 22 5 .i64 Try.underlying22 HI.out HZ.out Ac cc Cc (B.length : Int) (Int.natCast_nonneg _) (by have := HBC.out; omega) (Kd.R_reads' hr_).2.1
        simp only [Int.toNat_natCast] at hcut3 hA3 hC3
        rw [HTk.out] at hcut3 hA3 hC3
        have HA3 := Aside0.mk (Kd.C_of_reads (h1 := fun _ => rfl) (hA3 w3 (Kd.reads_of_C (Kd.R_reads' hr_).2.2)))
        have HC3x := Aside0.mk hC3
        clear hr hb hr_ hA3 hC3
        go_wp2_with (fail)
        refine (H.armillaryref00_EqBytes.calls Ac cc B Ab cb B true w3 HA3.out HC3x.out (Kd.R_reads' HR3.out).2.2 (Kd.R_reads' HR3.out).2.1 (congrArg some (beq_self_eq_true _))).mono ?_
        rintro e w4 ⟨rfl, ⟨nd, rfl⟩⟩
        go_wp2_with (fail)
        go_roundw
        case rel => exact ⟨k + 1, Ac, cc, by omega, by omega, by rw [← HCB.out], by rw [Int.natCast_add]; rfl, by rw [← HCB.out]; exact ⟨Kd.R_drewN HO3.out nd⟩, ⟨pw_below_drewN HB3.out nd⟩⟩
        case measure => simp only [intOf]; omega
      · obtain rfl : k = 30 := by omega
        obtain ⟨B, hB⟩ : ∃ B, B = ah ++ pre l 30 := ⟨_, rfl⟩
        obtain ⟨T, hT⟩ : ∃ T, T = pre l 30 := ⟨_, rfl⟩
        have hBa : ¬ B.length < ah.length := by rw [hB, List.length_append]; omega
        have hTl : T.length ≤ 60000000 := by rw [hT]; exact pre_len l _ (by omega)
        have HDr := Aside0.mk (show B.drop ah.length = T by rw [hB, hT, List.drop_left])
        have HOT := Aside0.mk (show okB (T ++ bh) = true by rw [hT]; exact okB_app (pre_okB l _) HOb.out)
        have HTl := Aside0.mk hTl
        obtain ⟨Z, hZt⟩ : ∃ Z, Z = T ++ bh := ⟨_, rfl⟩
        have HZt := Aside0.mk hZt
        have HZl := Aside0.mk (show Z.length < 140737488355328 by rw [hZt, List.length_append]; have := HLb20.out; omega)
        rw [← hZt] at HOT
        clear hZt
        have HTr := Aside0.mk (show rest l 30 0 = T from hT.symm)
        have HkL := Aside0.mk (show 30 ≤ l.length by omega)
        have Hk3 := Aside0.mk (show 30 ≤ 30 by omega)
        rw [← hB] at HRx ⊢
        obtain ⟨Ad, hcut4, hA4, hC4⟩ := print_drop_of (P := Try.prog) (Value.int .u8) 0 22 5 .i64 Try.underlying22 HI.out HZ.out Ab cb B (ah.length : Int) (Int.natCast_nonneg _) (by omega) (Kd.R_reads' HRx.out).2.1
        simp only [Int.toNat_natCast] at hcut4 hA4 hC4
        rw [HDr.out] at hcut4 hA4 hC4
        have HA4 := Aside0.mk (Kd.C_of_reads (h1 := fun _ => rfl) (hA4 wr (Kd.reads_of_C (Kd.R_reads' HRx.out).2.2)))
        have HC4 := Aside0.mk hC4
        have HCT := Aside0.mk (show H.armillaryref00_CopyBytes.f T = some T by unfold H.armillaryref00_CopyBytes.f; rw [if_pos (by have := HTl.out; simp only [List.length_nil]; omega), List.nil_append])
        clear hA4 hC4 hB hT hTl
        go_wp2_with (fail)
        refine (H.armillaryref00_CopyBytes.calls Ad (cb - ah.length) T T wr HA4.out HC4.out HCT.out).mono ?_
        rintro e w5 ⟨v5, rfl, ho, hb⟩
        have HO5 := Aside0.mk (Kd.R_lower ho HBx.out.size)
        have HB5 := Aside0.mk (HBx.out.trans (hb.mono HBx.out.size))
        clear ho hb
        have HRb5 := Aside0.mk (Kd.C_below HRb.out HB5.out)
        go_wp2_with (at_builtin; refine Kd.R_append_rows (Kd.int .u8) (w0 := w) w.heap.size rfl (.tmp 75) (.tmp 76) 22 5 (.int .u8 0) 1 rfl Try.underlying22 A8.info5 rfl (by decide) (by omega) v5 T bh A2 bh.length c2 (fun _ => True) (fun _ => False) rfl rfl HO5.out HRb5.out (fun _ _ h => h) (fun _ h => h.elim) (fun _ _ => trivial) HB5.out HB5.out.size (by have := HTl.out; have := HLb20.out; omega) ?_; intro v6 w6 ho hb hg hat; rw [← HZt.out] at ho; obtain ⟨Af, cf, rfl⟩ := Kd.R_slice ho; have HO6 := Aside0.mk ho; have HB6 := Aside0.mk hb; clear ho hb hg hat)
        refine (newReader_yes Af cf Z w6 (Kd.R_reads' HO6.out).2.2 (Kd.R_reads' HO6.out).2.1 HZl.out HOT.out).mono ?_
        rintro e w7 ⟨g, rfl, hg, hr, hb⟩
        have HR7 := Aside0.mk (show Rd w7 w6.heap.size g (rest l 30 0 ++ bh) 0 by rw [HTr.out, ← HZt.out]; exact hr)
        have HGw := Aside0.mk (Nat.le_trans HB6.out.size hg)
        have HB7 := Aside0.mk (HB6.out.trans (hb.mono HB6.out.size))
        clear hg hr hb
        go_wp2_with (fail)
        go_loopw [12] (fun v12 wr => ∃ i : Nat, i ≤ 30 ∧ v12 = .int .i64 i ∧ Aside0 (Rd wr w6.heap.size g (rest l 30 i ++ bh) 0) ∧ Aside0 (Below w.heap.size w wr)) (fun v12 _ => 31 - (intOf v12).toNat)
        case atStart => exact ⟨0, by omega, rfl, HR7, HB7⟩
        case round =>
          obtain ⟨i, hik, rfl, HRq, HBq⟩ := hrel
          by_cases hi : i < 30
          · have g1 : i < l.length := by have := HkL.out; omega
            have g2 : i < 30 := by have := Hk3.out; omega
            obtain ⟨ad, A3, c3, eA, q0, q1, q2, q3, hl3, hC3⟩ := H.at_T57 HR0.out (i : Int) (by omega) (by omega)
            cases eA
            have hrs := rest_succ l 30 i hi HkL.out
            obtain ⟨x, hx⟩ : ∃ x, x = H.rd_T57 l (i : Int) := ⟨_, rfl⟩
            rw [← hx] at q0 q1 q2 q3 hl3 hC3 hrs
            simp only [Int.toNat_natCast] at q0 q1 q2 q3
            have p0 := (HBq.out.cell (World.block_lt_of_cell? w _ q0)).trans q0
            have p1 := (HBq.out.cell (World.block_lt_of_cell? w _ q1)).trans q1
            have p2 := (HBq.out.cell (World.block_lt_of_cell? w _ q2)).trans q2
            have p3 := (HBq.out.cell (World.block_lt_of_cell? w _ q3)).trans q3
            have HC3 := Aside0.mk hC3
            have HL3 := Aside0.mk hl3
            have HRr := Aside0.mk (show Rd wr w6.heap.size g (thing x ++ (rest l 30 (i + 1) ++ bh)) 0 by rw [← List.append_assoc, ← hrs]; exact HRq.out)
            clear q0 q1 q2 q3 hl3 hC3 hrs hx
            go_wp2_with (fail)
            refine (got_yes w6.heap.size g _ 0 x A3 c3 w wr HRr.out HC3.out HL3.out HBq.out HGw.out).mono ?_
            rw [(got_back x (rest l 30 (i + 1) ++ bh)).2]
            rintro e w8 ⟨r8, rfl, hg8, hr8, hk8⟩
            obtain rfl := hg8 (got_back x (rest l 30 (i + 1) ++ bh)).1
            have HR8 := Aside0.mk hr8
            have HB8 := Aside0.mk (HBq.out.trans (hk8.low.mono HGw.out))
            clear hg8 hr8 hk8
            go_wp2_with (fail)
            go_roundw
            case rel => exact ⟨i + 1, by omega, by rw [Int.natCast_add]; rfl, HR8, HB8⟩
            case measure => simp only [intOf]; omega
          · obtain rfl : i = 30 := by omega
            rw [rest_end, List.nil_append] at HRq
            by_cases hb0 : 0 < bh.length
            · have HEn := Aside0.mk (show ended bh 0 = 4 by unfold ended; rw [if_pos rfl]; rw [if_neg (by rintro rfl; exact absurd hb0 (by decide))])
              go_wp2_with (fail)
              refine (left_at _ g bh _ HRq.out).mono ?_
              rintro e w21 ⟨rfl, rfl⟩
              go_wp2_with (fail)
              refine (err_yes _ g _ 0 _ HRq.out).mono ?_
              rintro e w22 ⟨rfl, rfl⟩
              go_wp2_with (fail)
              refine (end_at _ g bh 4 _ HRq.out HEn.out).mono ?_
              rintro e w23 ⟨rfl, hre, hke⟩
              have HRe := Aside0.mk hre
              have HKe := Aside0.mk hke
              clear hre hke
              go_wp2_with (fail)
              refine (err_yes _ g _ _ _ HRe.out).mono ?_
              rintro e w24 ⟨rfl, rfl⟩
              go_wp2_with (fail)
              go_ret
              exact ⟨by simp, HBq.out.trans ((HKe.out.below (Nat.le_refl _)).mono HGw.out)⟩
            · have HEn := Aside0.mk (show ended bh 0 = 0 by unfold ended; rw [if_pos rfl]; rw [if_pos (List.length_eq_zero_iff.1 (by omega))])
              go_wp2_with (fail)
              refine (left_at _ g bh _ HRq.out).mono ?_
              rintro e w21 ⟨rfl, rfl⟩
              go_wp2_with (fail)
              refine (err_yes _ g _ 0 _ HRq.out).mono ?_
              rintro e w22 ⟨rfl, rfl⟩
              go_wp2_with (fail)
              refine (end_at _ g bh 0 _ HRq.out HEn.out).mono ?_
              rintro e w23 ⟨rfl, hre, hke⟩
              have HRe := Aside0.mk hre
              have HKe := Aside0.mk hke
              clear hre hke
              go_wp2_with (fail)
              refine (err_yes _ g _ _ _ HRe.out).mono ?_
              rintro e w24 ⟨rfl, rfl⟩
              go_wp2_with (fail)
              go_ret
              exact ⟨by simp, HBq.out.trans ((HKe.out.below (Nat.le_refl _)).mono HGw.out)⟩
    · obtain rfl : k = l.length := by omega
      obtain ⟨B, hB⟩ : ∃ B, B = ah ++ pre l l.length := ⟨_, rfl⟩
      obtain ⟨T, hT⟩ : ∃ T, T = pre l l.length := ⟨_, rfl⟩
      have hBa : ¬ B.length < ah.length := by rw [hB, List.length_append]; omega
      have hTl : T.length ≤ 60000000 := by rw [hT]; exact pre_len l _ (by omega)
      have HDr := Aside0.mk (show B.drop ah.length = T by rw [hB, hT, List.drop_left])
      have HOT := Aside0.mk (show okB (T ++ bh) = true by rw [hT]; exact okB_app (pre_okB l _) HOb.out)
      have HTl := Aside0.mk hTl
      obtain ⟨Z, hZt⟩ : ∃ Z, Z = T ++ bh := ⟨_, rfl⟩
      have HZt := Aside0.mk hZt
      have HZl := Aside0.mk (show Z.length < 140737488355328 by rw [hZt, List.length_append]; have := HLb20.out; omega)
      rw [← hZt] at HOT
      clear hZt
      have HTr := Aside0.mk (show rest l l.length 0 = T from hT.symm)
      have HkL := Aside0.mk (show l.length ≤ l.length by omega)
      have Hk3 := Aside0.mk (show l.length ≤ 30 by omega)
      rw [← hB] at HRx ⊢
      obtain ⟨Ad, hcut4, hA4, hC4⟩ := print_drop_of (P := Try.prog) (Value.int .u8) 0 22 5 .i64 Try.underlying22 HI.out HZ.out Ab cb B (ah.length : Int) (Int.natCast_nonneg _) (by omega) (Kd.R_reads' HRx.out).2.1
      simp only [Int.toNat_natCast] at hcut4 hA4 hC4
      rw [HDr.out] at hcut4 hA4 hC4
      have HA4 := Aside0.mk (Kd.C_of_reads (h1 := fun _ => rfl) (hA4 wr (Kd.reads_of_C (Kd.R_reads' HRx.out).2.2)))
      have HC4 := Aside0.mk hC4
      have HCT := Aside0.mk (show H.armillaryref00_CopyBytes.f T = some T by unfold H.armillaryref00_CopyBytes.f; rw [if_pos (by have := HTl.out; simp only [List.length_nil]; omega), List.nil_append])
      clear hA4 hC4 hB hT hTl
      go_wp2_with (fail)
      refine (H.armillaryref00_CopyBytes.calls Ad (cb - ah.length) T T wr HA4.out HC4.out HCT.out).mono ?_
      rintro e w5 ⟨v5, rfl, ho, hb⟩
      have HO5 := Aside0.mk (Kd.R_lower ho HBx.out.size)
      have HB5 := Aside0.mk (HBx.out.trans (hb.mono HBx.out.size))
      clear ho hb
      have HRb5 := Aside0.mk (Kd.C_below HRb.out HB5.out)
      go_wp2_with (at_builtin; refine Kd.R_append_rows (Kd.int .u8) (w0 := w) w.heap.size rfl (.tmp 75) (.tmp 76) 22 5 (.int .u8 0) 1 rfl Try.underlying22 A8.info5 rfl (by decide) (by omega) v5 T bh A2 bh.length c2 (fun _ => True) (fun _ => False) rfl rfl HO5.out HRb5.out (fun _ _ h => h) (fun _ h => h.elim) (fun _ _ => trivial) HB5.out HB5.out.size (by have := HTl.out; have := HLb20.out; omega) ?_; intro v6 w6 ho hb hg hat; rw [← HZt.out] at ho; obtain ⟨Af, cf, rfl⟩ := Kd.R_slice ho; have HO6 := Aside0.mk ho; have HB6 := Aside0.mk hb; clear ho hb hg hat)
      refine (newReader_yes Af cf Z w6 (Kd.R_reads' HO6.out).2.2 (Kd.R_reads' HO6.out).2.1 HZl.out HOT.out).mono ?_
      rintro e w7 ⟨g, rfl, hg, hr, hb⟩
      have HR7 := Aside0.mk (show Rd w7 w6.heap.size g (rest l l.length 0 ++ bh) 0 by rw [HTr.out, ← HZt.out]; exact hr)
      have HGw := Aside0.mk (Nat.le_trans HB6.out.size hg)
      have HB7 := Aside0.mk (HB6.out.trans (hb.mono HB6.out.size))
      clear hg hr hb
      go_wp2_with (fail)
      go_loopw [12] (fun v12 wr => ∃ i : Nat, i ≤ l.length ∧ v12 = .int .i64 i ∧ Aside0 (Rd wr w6.heap.size g (rest l l.length i ++ bh) 0) ∧ Aside0 (Below w.heap.size w wr)) (fun v12 _ => 31 - (intOf v12).toNat)
      case atStart => exact ⟨0, by omega, rfl, HR7, HB7⟩
      case round =>
        obtain ⟨i, hik, rfl, HRq, HBq⟩ := hrel
        by_cases hi : i < l.length
        · have g1 : i < l.length := by have := HkL.out; omega
          have g2 : i < 30 := by have := Hk3.out; omega
          obtain ⟨ad, A3, c3, eA, q0, q1, q2, q3, hl3, hC3⟩ := H.at_T57 HR0.out (i : Int) (by omega) (by omega)
          cases eA
          have hrs := rest_succ l l.length i hi HkL.out
          obtain ⟨x, hx⟩ : ∃ x, x = H.rd_T57 l (i : Int) := ⟨_, rfl⟩
          rw [← hx] at q0 q1 q2 q3 hl3 hC3 hrs
          simp only [Int.toNat_natCast] at q0 q1 q2 q3
          have p0 := (HBq.out.cell (World.block_lt_of_cell? w _ q0)).trans q0
          have p1 := (HBq.out.cell (World.block_lt_of_cell? w _ q1)).trans q1
          have p2 := (HBq.out.cell (World.block_lt_of_cell? w _ q2)).trans q2
          have p3 := (HBq.out.cell (World.block_lt_of_cell? w _ q3)).trans q3
          have HC3 := Aside0.mk hC3
          have HL3 := Aside0.mk hl3
          have HRr := Aside0.mk (show Rd wr w6.heap.size g (thing x ++ (rest l l.length (i + 1) ++ bh)) 0 by rw [← List.append_assoc, ← hrs]; exact HRq.out)
          clear q0 q1 q2 q3 hl3 hC3 hrs hx
          go_wp2_with (fail)
          refine (got_yes w6.heap.size g _ 0 x A3 c3 w wr HRr.out HC3.out HL3.out HBq.out HGw.out).mono ?_
          rw [(got_back x (rest l l.length (i + 1) ++ bh)).2]
          rintro e w8 ⟨r8, rfl, hg8, hr8, hk8⟩
          obtain rfl := hg8 (got_back x (rest l l.length (i + 1) ++ bh)).1
          have HR8 := Aside0.mk hr8
          have HB8 := Aside0.mk (HBq.out.trans (hk8.low.mono HGw.out))
          clear hg8 hr8 hk8
          go_wp2_with (fail)
          go_roundw
          case rel => exact ⟨i + 1, by omega, by rw [Int.natCast_add]; rfl, HR8, HB8⟩
          case measure => simp only [intOf]; omega
        · obtain rfl : i = l.length := by omega
          rw [rest_end, List.nil_append] at HRq
          by_cases hb0 : 0 < bh.length
          · have HEn := Aside0.mk (show ended bh 0 = 4 by unfold ended; rw [if_pos rfl]; rw [if_neg (by rintro rfl; exact absurd hb0 (by decide))])
            go_wp2_with (fail)
            refine (left_at _ g bh _ HRq.out).mono ?_
            rintro e w21 ⟨rfl, rfl⟩
            go_wp2_with (fail)
            refine (err_yes _ g _ 0 _ HRq.out).mono ?_
            rintro e w22 ⟨rfl, rfl⟩
            go_wp2_with (fail)
            refine (end_at _ g bh 4 _ HRq.out HEn.out).mono ?_
            rintro e w23 ⟨rfl, hre, hke⟩
            have HRe := Aside0.mk hre
            have HKe := Aside0.mk hke
            clear hre hke
            go_wp2_with (fail)
            refine (err_yes _ g _ _ _ HRe.out).mono ?_
            rintro e w24 ⟨rfl, rfl⟩
            go_wp2_with (fail)
            go_ret
            exact ⟨by simp, HBq.out.trans ((HKe.out.below (Nat.le_refl _)).mono HGw.out)⟩
          · have HEn := Aside0.mk (show ended bh 0 = 0 by unfold ended; rw [if_pos rfl]; rw [if_pos (List.length_eq_zero_iff.1 (by omega))])
            go_wp2_with (fail)
            refine (left_at _ g bh _ HRq.out).mono ?_
            rintro e w21 ⟨rfl, rfl⟩
            go_wp2_with (fail)
            refine (err_yes _ g _ 0 _ HRq.out).mono ?_
            rintro e w22 ⟨rfl, rfl⟩
            go_wp2_with (fail)
            refine (end_at _ g bh 0 _ HRq.out HEn.out).mono ?_
            rintro e w23 ⟨rfl, hre, hke⟩
            have HRe := Aside0.mk hre
            have HKe := Aside0.mk hke
            clear hre hke
            go_wp2_with (fail)
            refine (err_yes _ g _ _ _ HRe.out).mono ?_
            rintro e w24 ⟨rfl, rfl⟩
            go_wp2_with (fail)
            go_ret
            exact ⟨by simp, HBq.out.trans ((HKe.out.below (Nat.le_refl _)).mono HGw.out)⟩
end Go.Proofs.Ytcpnjlagmnlecaa.C7
