/- WireReads walked. -/
import Derived.Test.YtcpnjlagmnlecaaProg
import Derived.Below
import Derived.Deep.Draws
import Derived.Deep.AppendLies
import Derived.Maps.AppendAt
import Derived.OwnWalk
import Derived.Laws.BytesArg
import Derived.Laws.MakeOwn
import Derived.Laws.OwnMore
import Derived.Deep.OwnRows
import Derived.Tactics
import Derived.Lib.ConvBytes
import Derived.Laws.Slices
import Derived.WalkKit
import Derived.KernelRfl
import Derived.RowKit3
import Derived.Deep.LoopGhost
import Derived.Deep.QuietTactic
import Derived.BigQuiet
import Derived.WideLaws
import Derived.Deep.DeepCutAuto
import Derived.Deep.CutBlock
import Derived.Deep.RegionHeld3
import Derived.Laws.Rows
import Derived.Lib.AppendStr
import Derived.ArgAppend
import Derived.Laws.IdiomCopy
import Derived.OrdersHeld
import Derived.Laws.BitsLemmas
import Derived.RowKit
import Derived.WalkSpells
import Derived.Laws.CopyOwn
import Derived.Test.YtcpnjlagmnlecaaWWords
import Derived.Test.YtcpnjlagmnlecaaWLast
import Derived.Test.YtcpnjlagmnlecaaWMore
import Derived.Test.YtcpnjlagmnlecaaB2
import Derived.Test.YtcpnjlagmnlecaaB3
import Derived.Test.YtcpnjlagmnlecaaWTab
import Derived.Test.YtcpnjlagmnlecaaPureWireSums
namespace Go.Proofs.Ytcpnjlagmnlecaa.B4
open Go.RowKit Go.Proofs.YtcpnjlagmnlecaaW.PrintWords Go.Proofs.YtcpnjlagmnlecaaW.PrintLast Go.Proofs.YtcpnjlagmnlecaaW.PrintMore Go.Proofs.Ytcpnjlagmnlecaa Go.Proofs.Ytcpnjlagmnlecaa.A2 Go.Proofs.Ytcpnjlagmnlecaa.A3 Go.Proofs.Ytcpnjlagmnlecaa.A4 Go.Proofs.Ytcpnjlagmnlecaa.A5 Go.Proofs.Ytcpnjlagmnlecaa.A6 Go.Proofs.Ytcpnjlagmnlecaa.A7 Go.Proofs.Ytcpnjlagmnlecaa.A11 Go.Proofs.Ytcpnjlagmnlecaa.B2 Go.Proofs.Ytcpnjlagmnlecaa.B3
set_option linter.unusedVariables false
set_option linter.unusedSimpArgs false
def rdl.T10 : Bool × List (List Nat × List Nat) := (true, [([], []), ([], []), ([], []), ([], []), ([2, 3], [2, 3]), ([4], [4]), ([0, 1, 5], [0, 1, 5]), ([6], [6]), ([7, 6], [7]), ([8], [8]), ([9, 8, 8], [8, 9]), ([8], [8]), ([11, 10, 8], [8, 11]), ([10, 12, 8], [8, 10, 12]), ([8, 13], [8, 13]), ([14, 12], [14]), ([15], [15]), ([16, 15, 15], [15, 16]), ([15], [15]), ([18, 15], [15, 18]), ([19, 15], [15, 19]), ([20, 15], [15, 20]), ([17, 21, 15], [15, 17, 21]), ([15, 22], [15, 22])])
def rdl.B10 : List Nat := [0, 0, 0, 0, 12, 28, 63, 127, 255, 511, 1023, 511, 4095, 8191, 16383, 32767, 65535, 131071, 65535, 327679, 851967, 1900543, 4194303, 8388607]
theorem rdl.tab10 : rtab .any (opsOf Try.f6 10) = rdl.T10 := by kernel_rfl
theorem rdl.bits10 : waitsOk rdl.T10.2 rdl.B10 = true := by kernel_rfl
theorem tdrew {W : World} {L1 g1 L2 g2 : Nat} {s : List Int × Int} (h : Two W L1 g1 L2 g2 s) : Two W.drew L1 g1 L2 g2 s :=
  ⟨h.r.below (below_drew1 (Below.refl _ _)), h.m.below (below_drew1 (Below.refl _ _)), h.apart, h.low⟩
theorem tset {W : World} {L1 g1 L2 g2 : Nat} {s : List Int × Int} (h : Two W L1 g1 L2 g2 s) (g j : Nat) (v : Value) (hg : g < L1) (hl : L1 ≤ g1) : Two (W.setCell ⟨g, j, none⟩ v) L1 g1 L2 g2 s :=
  ⟨h.r.keep ((Kp.refl W g).set j v) (by omega) (.inl hg), h.m.keep ((Kp.refl W g).set j v) (by have := h.apart; have := h.low; omega) (.inl (by have := h.apart; omega)), h.apart, h.low⟩
theorem okB_take {l : List Int} (h : okB l = true) (n : Nat) : okB (l.take n) = true := by
  unfold okB at h ⊢
  rw [List.all_eq_true] at h ⊢
  exact fun x hx => h x (List.mem_of_mem_take hx)
set_option maxHeartbeats 8000000 in
set_option maxRecDepth 100000 in
theorem reads_walk (A0 : Option Addr) (c0 : Nat) (l0 : List Int) (A1 : Option Addr) (c1 : Nat) (l1 : List Int) (w : World) (hr0 : Kd.C (Kd.int .u8) w A0 l0.length l0) (hc0 : l0.length ≤ c0) (ho : okB l0 = true) (hr1 : Kd.C (Kd.int .i64) w A1 l1.length l1) (hc1 : l1.length ≤ c1) :
    Calls Try.prog 6 #[.slice A0 l0.length c0, .slice A1 l1.length c1] w fun e w' => e = .returned (.bool true) ∧ Below w.heap.size w w' := by
  have HR0 := Aside0.mk hr0
  have HC0 := Aside0.mk hc0
  have HR1 := Aside0.mk hr1
  have HC1 := Aside0.mk hc1
  clear hr0 hc0 hr1 hc1
  have HB := Aside0.mk (Below.refl w.heap.size w)
  obtain ⟨ji4, hji4⟩ : ∃ j_ : Int, (mn (l0.length : Int) 600) = j_ := ⟨_, rfl⟩
  have b1 : 0 ≤ ji4 := by rw [← hji4]; unfold mn; (repeat' split) <;> omega
  have b2 : ji4 ≤ (l0.length : Int) := by rw [← hji4]; unfold mn; (repeat' split) <;> omega
  have b3 : ji4 ≤ 600 := by rw [← hji4]; unfold mn; (repeat' split) <;> omega
  have hji4_ : (if 600 < (l0.length : Int) then 600 else (l0.length : Int)) = ji4 := hji4
  have c5b1 : decide (0 ≤ ji4) = true := decide_eq_true b1
  have c6b1 : decide (ji4 ≤ (l0.length : Int)) = true := decide_eq_true b2
  have hL : (l0.take ji4.toNat).length = ji4.toNat := by rw [List.length_take]; omega
  have HL6 := Aside0.mk (show (l0.take ji4.toNat).length ≤ 600 by omega)
  have HOk := Aside0.mk (okB_take ho ji4.toNat)
  clear ho
  obtain ⟨i016, hi016, _, hsz16, _⟩ := info_parts info5
  obtain ⟨hcut16, hA16, hC16⟩ := print_take_of (P := Try.prog) (Value.int .u8) 0 22 5 .i64 Try.underlying22 hi016 hsz16 A0 c0 l0 (ji4) b1 b2 HC0.out
  have HR133 := Aside0.mk (Kd.C_of_reads (h1 := fun _ => rfl) (hA16 _ (Kd.reads_of_C HR0.out)))
  have HC133 := Aside0.mk hC16
  clear hA16 hC16 hi016 hsz16
  have b1e := eq_true b1
  have b2e := eq_true b2
  clear b1 b2 b3
  obtain ⟨t, ht⟩ : ∃ t, t = l0.take ji4.toNat := ⟨_, rfl⟩
  rw [← ht] at HL6 HOk HR133 HC133 hL
  have A7 := Aside0.mk (show H.armillaryref00_CopyBytes.f t = some t by unfold H.armillaryref00_CopyBytes.f; rw [if_pos (by have := HL6.out; simp; omega), List.nil_append])
  have HLt := Aside0.mk hL
  clear hL
  clear ht
  go_enter Try.func6, Try.ntmps6
  go_wp2_with (first | (go_at_call 10; rw [← HLt.out]; refine (H.armillaryref00_CopyBytes.calls A0 c0 t t _ HR133.out HC133.out A7.out).mono ?_; rintro e w17 ⟨v135, rfl, ho0, hb⟩; have HO := Aside0.mk ho0; have HB1 := Aside0.mk hb; clear ho0 hb; obtain ⟨Ai, ci, ei⟩ := Kd.R_slice HO.out; subst ei) | (go_at_call 26; refine (newReader_yes Ai ci t _ (Kd.R_reads' HO.out).2.2 (Kd.R_reads' HO.out).2.1 (by have := HL6.out; omega) HOk.out).mono ?_; rintro e w18 ⟨g1, rfl, hg1, hr1, hb⟩; have HG1 := Aside0.mk hg1; have HRd := Aside0.mk hr1; have HB2 := Aside0.mk hb; clear hg1 hr1 hb) | (go_at_call 27; refine (rnew Ai ci t w18 (Kd.R_reads' (Kd.R_below HO.out HB2.out)).2.2 (Kd.R_reads' HO.out).2.1 (by have := HL6.out; omega) HOk.out).mono ?_; rintro e w19 ⟨g2, rfl, hg2, hr2, hb⟩; have HT0 := Aside0.mk (show Two w19 w17.heap.size g1 w18.heap.size g2 (t, 0) from ⟨HRd.out.below hb, hr2, HRd.out.lt, hg2⟩); have HO3 := Aside0.mk (Kd.R_below (Kd.R_below HO.out HB2.out) hb); have HB3 := Aside0.mk ((HB1.out.trans (HB2.out.mono HB1.out.size)).trans (hb.mono (Nat.le_trans HB1.out.size HB2.out.size))); clear hg2 hr2 hb))
  have HAi := Aside0.mk (R_at2 HO.out)
  clear HR0 HC0 HB hji4 hji4_ c5b1 c6b1 hcut16 b1e b2e HC133 HR133 A7 HLt HRd
  go_loopw [8] (fun v8 wr => ∃ (k : Nat) (x : List Int), k ≤ t.length ∧ v8 = .int .i64 k ∧ Aside0 (Kd.R (Kd.int .u8) 5 wr w.heap.size (fun _ => True) (.slice Ai t.length ci) x) ∧ Aside0 (Two wr w17.heap.size g1 w18.heap.size g2 (t, 0)) ∧ Aside0 (Below w.heap.size w wr)) (fun v8 _ => t.length - (intOf v8).toNat)
  case atStart => exact ⟨0, t, by omega, rfl, HO3, HT0, HB3⟩
  case round =>
    obtain ⟨k, x, hk, rfl, HOx, HTx, HBx⟩ := hrel
    by_cases hlt : k < t.length
    · have hxl : t.length = x.length := (Kd.R_reads' HOx.out).1
      obtain ⟨go, co, eo, gb, gl, cl, hG⟩ := Kd.R_form HOx.out (by omega)
      injection eo with ea en ec
      subst ea
      subst ec
      clear en
      have HGo := Aside0.mk (HAi.out _ rfl)
      obtain ⟨hx, hf⟩ := Kd.R_celln 0 HOx.out (k : Int) (by omega) (by omega)
      have HP := Aside0.mk (Kd.R_putn HOx.out (k : Int) (bits .xor .u8 (rd x k) 90))
      simp only [Int.toNat_natCast] at hx hf HP
      clear hG gl cl
      go_wp2
      have hl6 := HL6.out
      have hw : wrap64 ((k : Int) + 1) = ((k + 1 : Nat) : Int) := by unfold wrap64; omega
      go_roundw
      case rel => exact ⟨k + 1, _, by omega, by rw [hw], HP, ⟨tset HTx.out go k _ HGo.out.2 HG1.out⟩, ⟨HBx.out.setCell gb _⟩⟩
      case measure => rw [hw]; simp only [intOf]; omega
    · obtain rfl : k = t.length := by omega
      clear hk hlt
      go_wp2
      go_loopw [9] (fun v9 wq => ∃ (k : Nat) (s : List Int × Int), v9 = .int .i64 k ∧ k ≤ 30 ∧ Aside0 (Two wq w17.heap.size g1 w18.heap.size g2 s) ∧ Aside0 (Below w.heap.size w wq)) (fun v9 _ => 31 - (intOf v9).toNat)
      case atStart => exact ⟨0, _, rfl, by omega, HTx, HBx⟩
      case round =>
        obtain ⟨k, s, rfl, hk, HTy, HBy⟩ := hrel
        have HGw := Aside0.mk (Nat.le_trans HB1.out.size HG1.out)
        by_cases h1 : k < l1.length
        · by_cases h2 : k < 30
          · obtain ⟨ad, ea, hx⟩ := Kd.at_int HR1.out k (by omega) (by omega)
            cases ea
            have hx2 : wr.cell? (ad.add k) = some (.int .i64 (rd l1 k)) := (HBy.out.cell (World.block_lt_of_cell? w _ hx)).trans hx
            have hx3 : wr.drew.cell? (ad.add k) = some (.int .i64 (rd l1 k)) := hx2
            have HT0 := Aside0.mk (tdrew HTy.out)
            have HB0 := Aside0.mk (below_drew1 HBy.out)
            clear hx HTx HBx
            go_wp2
            refine start_ (n := 24) (S := fun w' => True) (ds := []) #[false, false, false, false, false, false, false, false, false, false, false, false, false, false, false, false, false, false, false, false, false, false, false, false] (by kernel_rfl) rfl rfl trivial (fun hHeld => ?_)
            refine with_tabW rdl.tab10 rdl.bits10 (fun HT_ HW_ => ?_)
            refine pure_ (i := 0) (N := some 44) (v := ?_) (a' := ?_) #[true, false, false, false, false, false, false, false, false, false, false, false, false, false, false, false, false, false, false, false, false, false, false, false] rfl rfl (any_of HT_.out (by kernel_rfl)) (fun _ _ _ h => h) (Or.inl ⟨by rfl, ?_⟩) ?_ ?_
            rotate_left
            · intro w'
              go_simp
              with_reducible rfl
            rotate_left
            · simp only [Act.put, List.setIfInBounds_toArray, List.set_cons_zero, List.set_cons_succ, i64_w, i32_w]
              rfl
            refine pure_ (i := 1) (N := some 45) (v := ?_) (a' := ?_) #[true, true, false, false, false, false, false, false, false, false, false, false, false, false, false, false, false, false, false, false, false, false, false, false] rfl rfl (any_of HT_.out (by kernel_rfl)) (fun _ _ _ h => h) (Or.inl ⟨by rfl, ?_⟩) ?_ ?_
            rotate_left
            · intro w'
              go_simp
              with_reducible rfl
            rotate_left
            · simp only [Act.put, List.setIfInBounds_toArray, List.set_cons_zero, List.set_cons_succ, i64_w, i32_w]
              rfl
            refine pure_ (i := 2) (N := some 46) (v := ?_) (a' := ?_) #[true, true, true, false, false, false, false, false, false, false, false, false, false, false, false, false, false, false, false, false, false, false, false, false] rfl rfl (any_of HT_.out (by kernel_rfl)) (fun _ _ _ h => h) (Or.inl ⟨by rfl, ?_⟩) ?_ ?_
            rotate_left
            · intro w'
              go_simp
              with_reducible rfl
            rotate_left
            · simp only [Act.put, List.setIfInBounds_toArray, List.set_cons_zero, List.set_cons_succ, i64_w, i32_w]
              rfl
            refine pure_ (i := 3) (N := some 47) (v := ?_) (a' := ?_) #[true, true, true, true, false, false, false, false, false, false, false, false, false, false, false, false, false, false, false, false, false, false, false, false] rfl rfl (any_of HT_.out (by kernel_rfl)) (fun _ _ _ h => h) (Or.inl ⟨by rfl, ?_⟩) ?_ ?_
            rotate_left
            · intro w'
              go_simp
              with_reducible rfl
            rotate_left
            · simp only [Act.put, List.setIfInBounds_toArray, List.set_cons_zero, List.set_cons_succ, i64_w, i32_w]
              rfl
            refine pure_ (i := 4) (N := some 48) (v := ?_) (a' := ?_) #[true, true, true, true, true, false, false, false, false, false, false, false, false, false, false, false, false, false, false, false, false, false, false, false] rfl rfl (any_of HT_.out (by kernel_rfl)) (fun _ _ _ h => h) (Or.inl ⟨by rfl, ?_⟩) ?_ ?_
            rotate_left
            · intro w'
              go_simp
              with_reducible rfl
            rotate_left
            · simp only [Act.put, List.setIfInBounds_toArray, List.set_cons_zero, List.set_cons_succ, i64_w, i32_w]
              rfl
            refine one_ (i := 5) (N := some 49) #[true, true, true, true, true, true, false, false, false, false, false, false, false, false, false, false, false, false, false, false, false, false, false, false] rfl rfl (one_of HT_.out (by kernel_rfl)) (by decide) (fun K hK => ?_)
            refine value_ (w1 := ?_) (v := ?_) (by rfl) rfl ?_ ?_
            rotate_left 2
            · go_simp
              constructor
              · rfl
              · rfl
            refine hK.out _ _ trivial (fun hHeld => ?_)
            clear hK K
            refine norm_ (a' := ?_) ?_ ?_
            rotate_left
            · show Act.put _ (some 49) _ = _
              simp only [Act.put, List.setIfInBounds_toArray, List.set_cons_zero, List.set_cons_succ, i64_w, i32_w]
              rfl
            refine one_ (i := 6) (N := some 50) #[true, true, true, true, true, true, true, false, false, false, false, false, false, false, false, false, false, false, false, false, false, false, false, false] rfl rfl (one_of HT_.out (by kernel_rfl)) (by decide) (fun K hK => ?_)
            refine goes_ Try.func28 (by kernel_rfl) rfl #[.pointer (some ⟨g1, 0, none⟩), .pointer (some ⟨g2, 0, none⟩), .int .i64 (rd l1 k)] (by rfl) rfl rfl (by simp only [List.map_toArray, List.map_cons, List.map_nil]; rfl) ?_
            with_reducible refine (read_yes _ g1 _ g2 s (rd l1 k) _ HT0.out).mono ?_
            rintro e w2 ⟨rfl, ⟨s1, hT1⟩, hb⟩
            refine ⟨_, rfl, ?_⟩
            have HT1 := Aside0.mk hT1
            have HB2 := Aside0.mk (HB0.out.trans (hb.mono HGw.out))
            have hE1 : w2.cell? ⟨g2, 1, none⟩ = some (.int .i64 s1.2) := hT1.m.cell1
            clear hT1 hb
            refine hK.out _ _ trivial (fun hHeld => ?_)
            clear hK K
            refine norm_ (a' := ?_) ?_ ?_
            rotate_left
            · show Act.put _ (some 50) _ = _
              simp only [Act.put, List.setIfInBounds_toArray, List.set_cons_zero, List.set_cons_succ, i64_w, i32_w]
              rfl
            refine pure_ (i := 7) (N := some 51) (v := ?_) (a' := ?_) #[true, true, true, true, true, true, true, true, false, false, false, false, false, false, false, false, false, false, false, false, false, false, false, false] rfl rfl (any_of HT_.out (by kernel_rfl)) (fun _ _ _ h => h) (Or.inl ⟨by rfl, ?_⟩) ?_ ?_
            rotate_left
            · intro w'
              go_simp
              with_reducible rfl
            rotate_left
            · simp only [Act.put, List.setIfInBounds_toArray, List.set_cons_zero, List.set_cons_succ, i64_w, i32_w]
              rfl
            refine pure_ (i := 8) (N := some 52) (v := ?_) (a' := ?_) #[true, true, true, true, true, true, true, true, true, false, false, false, false, false, false, false, false, false, false, false, false, false, false, false] rfl rfl (any_of HT_.out (by kernel_rfl)) (fun _ _ _ h => h) (Or.inl ⟨by rfl, ?_⟩) ?_ ?_
            rotate_left
            · intro w'
              go_simp
              with_reducible rfl
            rotate_left
            · simp only [Act.put, List.setIfInBounds_toArray, List.set_cons_zero, List.set_cons_succ, i64_w, i32_w]
              rfl
            refine pure_ (i := 9) (N := some 53) (v := ?_) (a' := ?_) #[true, true, true, true, true, true, true, true, true, true, false, false, false, false, false, false, false, false, false, false, false, false, false, false] rfl rfl (any_of HT_.out (by kernel_rfl)) (fun _ _ _ h => h) (Or.inl ⟨by rfl, ?_⟩) ?_ ?_
            rotate_left
            · intro w'
              go_simp
              with_reducible rfl
            rotate_left
            · simp only [Act.put, List.setIfInBounds_toArray, List.set_cons_zero, List.set_cons_succ, i64_w, i32_w]
              rfl
            refine pure_ (i := 11) (N := some 55) (v := ?_) (a' := ?_) #[true, true, true, true, true, true, true, true, true, true, false, true, false, false, false, false, false, false, false, false, false, false, false, false] rfl rfl (any_of HT_.out (by kernel_rfl)) (fun _ _ _ h => h) (Or.inl ⟨by rfl, ?_⟩) ?_ ?_
            rotate_left
            · intro w'
              go_simp
              with_reducible rfl
            rotate_left
            · simp only [Act.put, List.setIfInBounds_toArray, List.set_cons_zero, List.set_cons_succ, i64_w, i32_w]
              rfl
            refine one_ (i := 10) (N := some 54) #[true, true, true, true, true, true, true, true, true, true, true, true, false, false, false, false, false, false, false, false, false, false, false, false] rfl rfl (one_of HT_.out (by kernel_rfl)) (by decide) (fun K hK => ?_)
            refine goes_ Try.func29 (by kernel_rfl) rfl #[.pointer (some ⟨g1, 0, none⟩)] (by rfl) rfl rfl (by simp only [List.map_toArray, List.map_cons, List.map_nil]; rfl) ?_
            with_reducible refine (left_yes _ g1 s1.1 s1.2 w2 HT1.out.r).mono ?_
            rintro e w3 ⟨rfl, rfl⟩
            refine ⟨_, rfl, ?_⟩
            refine hK.out _ _ trivial (fun hHeld => ?_)
            clear hK K
            refine norm_ (a' := ?_) ?_ ?_
            rotate_left
            · show Act.put _ (some 54) _ = _
              simp only [Act.put, List.setIfInBounds_toArray, List.set_cons_zero, List.set_cons_succ, i64_w, i32_w]
              rfl
            refine one_ (i := 12) (N := some 56) #[true, true, true, true, true, true, true, true, true, true, true, true, true, false, false, false, false, false, false, false, false, false, false, false] rfl rfl (one_of HT_.out (by kernel_rfl)) (by decide) (fun K hK => ?_)
            refine goes_ Try.func30 (by kernel_rfl) rfl #[.pointer (some ⟨g2, 0, none⟩)] (by rfl) rfl rfl (by simp only [List.map_toArray, List.map_cons, List.map_nil]; rfl) ?_
            with_reducible refine (rleft _ g2 s1.1 s1.2 _ HT1.out.m).mono ?_
            rintro e w4 ⟨rfl, rfl⟩
            refine ⟨_, rfl, ?_⟩
            refine hK.out _ _ trivial (fun hHeld => ?_)
            clear hK K
            refine norm_ (a' := ?_) ?_ ?_
            rotate_left
            · show Act.put _ (some 56) _ = _
              simp only [Act.put, List.setIfInBounds_toArray, List.set_cons_zero, List.set_cons_succ, i64_w, i32_w]
              rfl
            refine pure_ (i := 13) (N := some 57) (v := ?_) (a' := ?_) #[true, true, true, true, true, true, true, true, true, true, true, true, true, true, false, false, false, false, false, false, false, false, false, false] rfl rfl (any_of HT_.out (by kernel_rfl)) (fun _ _ _ h => h) (Or.inl ⟨by rfl, ?_⟩) ?_ ?_
            rotate_left
            · intro w'
              go_simp
              with_reducible rfl
            rotate_left
            · simp only [Act.put, List.setIfInBounds_toArray, List.set_cons_zero, List.set_cons_succ, i64_w, i32_w]
              rfl
            refine pure_ (i := 14) (N := some 58) (v := ?_) (a' := ?_) #[true, true, true, true, true, true, true, true, true, true, true, true, true, true, true, false, false, false, false, false, false, false, false, false] rfl rfl (any_of HT_.out (by kernel_rfl)) (fun _ _ _ h => h) (Or.inl ⟨by rfl, ?_⟩) ?_ ?_
            rotate_left
            · intro w'
              go_simp
              with_reducible rfl
            rotate_left
            · simp only [Act.put, List.setIfInBounds_toArray, List.set_cons_zero, List.set_cons_succ, i64_w, i32_w]
              rfl
            refine pure_ (i := 15) (N := some 59) (v := ?_) (a' := ?_) #[true, true, true, true, true, true, true, true, true, true, true, true, true, true, true, true, false, false, false, false, false, false, false, false] rfl rfl (any_of HT_.out (by kernel_rfl)) (fun _ _ _ h => h) (Or.inl ⟨by rfl, ?_⟩) ?_ ?_
            rotate_left
            · intro w'
              go_simp
              with_reducible rfl
            rotate_left
            · simp only [Act.put, List.setIfInBounds_toArray, List.set_cons_zero, List.set_cons_succ, i64_w, i32_w]
              rfl
            refine pure_ (i := 16) (N := some 60) (v := ?_) (a' := ?_) #[true, true, true, true, true, true, true, true, true, true, true, true, true, true, true, true, true, false, false, false, false, false, false, false] rfl rfl (any_of HT_.out (by kernel_rfl)) (fun _ _ _ h => h) (Or.inl ⟨by rfl, ?_⟩) ?_ ?_
            rotate_left
            · intro w'
              go_simp
              with_reducible rfl
            rotate_left
            · simp only [Act.put, List.setIfInBounds_toArray, List.set_cons_zero, List.set_cons_succ, i64_w, i32_w]
              rfl
            refine pure_ (i := 18) (N := some 62) (v := ?_) (a' := ?_) #[true, true, true, true, true, true, true, true, true, true, true, true, true, true, true, true, true, false, true, false, false, false, false, false] rfl rfl (any_of HT_.out (by kernel_rfl)) (fun _ _ _ h => h) (Or.inl ⟨by rfl, ?_⟩) ?_ ?_
            rotate_left
            · intro w'
              go_simp
              with_reducible rfl
            rotate_left
            · simp only [Act.put, List.setIfInBounds_toArray, List.set_cons_zero, List.set_cons_succ, i64_w, i32_w]
              rfl
            refine pure_ (i := 19) (N := some 63) (v := ?_) (a' := ?_) #[true, true, true, true, true, true, true, true, true, true, true, true, true, true, true, true, true, false, true, true, false, false, false, false] rfl rfl (any_of HT_.out (by kernel_rfl)) (fun _ _ _ h => h) (Or.inl ⟨by rfl, ?_⟩) ?_ ?_
            rotate_left
            · intro w'
              go_simp
              with_reducible rfl
            rotate_left
            · simp only [Act.put, List.setIfInBounds_toArray, List.set_cons_zero, List.set_cons_succ, i64_w, i32_w]
              rfl
            refine pure_ (i := 20) (N := some 64) (v := ?_) (a' := ?_) #[true, true, true, true, true, true, true, true, true, true, true, true, true, true, true, true, true, false, true, true, true, false, false, false] rfl rfl (any_of HT_.out (by kernel_rfl)) (fun _ _ _ h => h) (Or.inl ⟨by rfl, ?_⟩) ?_ ?_
            rotate_left
            · intro w'
              go_simp
              with_reducible rfl
            rotate_left
            · simp only [Act.put, List.setIfInBounds_toArray, List.set_cons_zero, List.set_cons_succ, i64_w, i32_w]
              rfl
            refine join_ (σ := Unit) 2 #[true, true, true, true, true, true, true, true, true, true, true, true, true, true, true, true, true, true, true, true, true, true, false, false] (fun _ => [(61, .int .i64 s1.2), (65, .int .i64 s1.2)]) (fun _ w9 => w9 = w2) ?_ ?_
            rotate_left
            · intro hCont
              refine two_ (i := 17) (j := 21) (Ni := some 61) (Nj := some 65) #[true, true, true, true, true, true, true, true, true, true, true, true, true, true, true, true, true, true, true, true, true, false, false, false] #[true, true, true, true, true, true, true, true, true, true, true, true, true, true, true, true, true, false, true, true, true, true, false, false] rfl rfl rfl rfl (two_of HT_.out (by kernel_rfl)) (by decide) (by decide) (fun K hK => ?_) (fun K hK => ?_)
              · skip
                refine goes_ Try.func31 (by kernel_rfl) rfl #[.pointer (some ⟨g1, 0, none⟩)] (by rfl) rfl rfl (by simp only [List.map_toArray, List.map_cons, List.map_nil]; rfl) ?_
                with_reducible refine (err_yes _ g1 s1.1 s1.2 w2 HT1.out.r).mono ?_
                rintro e w5 ⟨rfl, rfl⟩
                refine ⟨_, rfl, ?_⟩
                refine hK.out _ _ trivial (fun hHeld => ?_)
                clear hK K
                refine norm_ (a' := ?_) ?_ ?_
                rotate_left
                · show Act.put _ (some 61) _ = _
                  simp only [Act.put, List.setIfInBounds_toArray, List.set_cons_zero, List.set_cons_succ, i64_w, i32_w]
                  rfl
                refine one_ (i := 21) (N := some 65) #[true, true, true, true, true, true, true, true, true, true, true, true, true, true, true, true, true, true, true, true, true, true, false, false] rfl rfl (one_of HT_.out (by kernel_rfl)) (by decide) (fun K hK => ?_)
                refine value_ (w1 := ?_) (v := ?_) (by rfl) rfl ?_ ?_
                rotate_left 2
                · go_simp
                  constructor
                  · rfl
                  · rfl
                refine hK.out _ _ trivial (fun hHeld => ?_)
                clear hK K
                refine norm_ (a' := ?_) ?_ ?_
                rotate_left
                · show Act.put _ (some 65) _ = _
                  simp only [Act.put, List.setIfInBounds_toArray, List.set_cons_zero, List.set_cons_succ, i64_w, i32_w]
                  rfl
                exact norm_ (by simp only [putAll, Act.put, List.setIfInBounds_toArray, List.set_cons_zero, List.set_cons_succ]) (hCont () _ rfl)
              · skip
                refine value_ (w1 := ?_) (v := ?_) (by rfl) rfl ?_ ?_
                rotate_left 2
                · go_simp
                  constructor
                  · rfl
                  · rfl
                refine hK.out _ _ trivial (fun hHeld => ?_)
                clear hK K
                refine norm_ (a' := ?_) ?_ ?_
                rotate_left
                · show Act.put _ (some 65) _ = _
                  simp only [Act.put, List.setIfInBounds_toArray, List.set_cons_zero, List.set_cons_succ, i64_w, i32_w]
                  rfl
                refine one_ (i := 17) (N := some 61) #[true, true, true, true, true, true, true, true, true, true, true, true, true, true, true, true, true, true, true, true, true, true, false, false] rfl rfl (one_of HT_.out (by kernel_rfl)) (by decide) (fun K hK => ?_)
                refine goes_ Try.func31 (by kernel_rfl) rfl #[.pointer (some ⟨g1, 0, none⟩)] (by rfl) rfl rfl (by simp only [List.map_toArray, List.map_cons, List.map_nil]; rfl) ?_
                with_reducible refine (err_yes _ g1 s1.1 s1.2 w2 HT1.out.r).mono ?_
                rintro e w5 ⟨rfl, rfl⟩
                refine ⟨_, rfl, ?_⟩
                refine hK.out _ _ trivial (fun hHeld => ?_)
                clear hK K
                refine norm_ (a' := ?_) ?_ ?_
                rotate_left
                · show Act.put _ (some 61) _ = _
                  simp only [Act.put, List.setIfInBounds_toArray, List.set_cons_zero, List.set_cons_succ, i64_w, i32_w]
                  rfl
                exact norm_ (by simp only [putAll, Act.put, List.setIfInBounds_toArray, List.set_cons_zero, List.set_cons_succ]) (hCont () _ rfl)
            rintro _ w9 rfl
            have hHeld : True := trivial
            refine norm_ (a' := ?_) ?_ ?_
            rotate_left
            · simp only [putAll, Act.put, List.setIfInBounds_toArray, List.set_cons_zero, List.set_cons_succ]
              rfl
            refine pure_ (i := 22) (N := some 66) (v := ?_) (a' := ?_) #[true, true, true, true, true, true, true, true, true, true, true, true, true, true, true, true, true, true, true, true, true, true, true, false] rfl rfl (any_of HT_.out (by kernel_rfl)) (fun _ _ _ h => h) (Or.inl ⟨by rfl, ?_⟩) ?_ ?_
            rotate_left
            · intro w'
              go_simp
              with_reducible rfl
            rotate_left
            · simp only [Act.put, List.setIfInBounds_toArray, List.set_cons_zero, List.set_cons_succ, i64_w, i32_w]
              rfl
            refine pure_ (i := 23) (N := some 67) (v := ?_) (a' := ?_) #[true, true, true, true, true, true, true, true, true, true, true, true, true, true, true, true, true, true, true, true, true, true, true, true] rfl rfl (any_of HT_.out (by kernel_rfl)) (fun _ _ _ h => h) (Or.inl ⟨by rfl, ?_⟩) ?_ ?_
            rotate_left
            · intro w'
              go_simp
              with_reducible rfl
            rotate_left
            · simp only [Act.put, List.setIfInBounds_toArray, List.set_cons_zero, List.set_cons_succ, i64_w, i32_w]
              rfl
            refine done_ (done_of HT_.out (by kernel_rfl)) ?_
            go_wp2
            go_roundw
            case rel => exact ⟨k + 1, s1, by rw [Int.natCast_add]; rfl, by omega, HT1, HB2⟩
            case measure => simp only [intOf]; omega
          · obtain rfl : k = 30 := by omega
            go_wp2_with (first | (go_at_call 32; refine (end_yes _ _ _ _ wr HTy.out.r).mono ?_; rintro e w5 ⟨rfl, hr, hk⟩; have HRe := Aside0.mk hr; have HKe := Aside0.mk hk; have HMe := Aside0.mk (Rm.keep HTy.out.m hk (by have := HTy.out.apart; have := HTy.out.low; omega) (by have := HTy.out.apart; omega)); clear hr hk) | (go_at_call 33; refine (rend _ _ _ _ w5 HMe.out).mono ?_; rintro e w6 ⟨rfl, hr, hk⟩; have HBe := Aside0.mk (HBy.out.trans ((HKe.out.below (Nat.le_refl _)).trans (hk.below (by have := HTy.out.apart; have := HTy.out.low; omega)) |>.mono HGw.out)); clear hr hk) | (go_at_call 14; refine (armillarylaw01_works.calls true w6 rfl).mono ?_; rintro e w7 ⟨rfl, hb⟩; have HBf := Aside0.mk (HBe.out.trans (hb.mono HBe.out.size)); clear hb))
            go_ret
            exact ⟨rfl, HBf.out⟩
        · by_cases h2 : k < 30
          · go_wp2_with (first | (go_at_call 32; refine (end_yes _ _ _ _ wr HTy.out.r).mono ?_; rintro e w5 ⟨rfl, hr, hk⟩; have HRe := Aside0.mk hr; have HKe := Aside0.mk hk; have HMe := Aside0.mk (Rm.keep HTy.out.m hk (by have := HTy.out.apart; have := HTy.out.low; omega) (by have := HTy.out.apart; omega)); clear hr hk) | (go_at_call 33; refine (rend _ _ _ _ w5 HMe.out).mono ?_; rintro e w6 ⟨rfl, hr, hk⟩; have HBe := Aside0.mk (HBy.out.trans ((HKe.out.below (Nat.le_refl _)).trans (hk.below (by have := HTy.out.apart; have := HTy.out.low; omega)) |>.mono HGw.out)); clear hr hk) | (go_at_call 14; refine (armillarylaw01_works.calls true w6 rfl).mono ?_; rintro e w7 ⟨rfl, hb⟩; have HBf := Aside0.mk (HBe.out.trans (hb.mono HBe.out.size)); clear hb))
            go_ret
            exact ⟨rfl, HBf.out⟩
          · obtain rfl : k = 30 := by omega
            go_wp2_with (first | (go_at_call 32; refine (end_yes _ _ _ _ wr HTy.out.r).mono ?_; rintro e w5 ⟨rfl, hr, hk⟩; have HRe := Aside0.mk hr; have HKe := Aside0.mk hk; have HMe := Aside0.mk (Rm.keep HTy.out.m hk (by have := HTy.out.apart; have := HTy.out.low; omega) (by have := HTy.out.apart; omega)); clear hr hk) | (go_at_call 33; refine (rend _ _ _ _ w5 HMe.out).mono ?_; rintro e w6 ⟨rfl, hr, hk⟩; have HBe := Aside0.mk (HBy.out.trans ((HKe.out.below (Nat.le_refl _)).trans (hk.below (by have := HTy.out.apart; have := HTy.out.low; omega)) |>.mono HGw.out)); clear hr hk) | (go_at_call 14; refine (armillarylaw01_works.calls true w6 rfl).mono ?_; rintro e w7 ⟨rfl, hb⟩; have HBf := Aside0.mk (HBe.out.trans (hb.mono HBe.out.size)); clear hb))
            go_ret
            exact ⟨rfl, HBf.out⟩
theorem reads_row (a0 : Option Addr) (len0 cap0 : Nat) (z0 : List Int) (a1 : Option Addr) (len1 cap1 : Nat) (z1 : List Int) (w : World) (w0 : (a0 = none ∧ len0 = 0 ∧ cap0 = 0 ∧ z0 = []) ∨ ∃ x, a0 = some x ∧ len0 ≤ cap0 ∧ cap0 ≤ maxLen ∧ z0.length = cap0 ∧ (∀ i, i < z0.length → w.cell? (x.add i) = some (.int .u8 (z0.getD i 0))) ∧ ∀ n ∈ z0, (Lit.int .u8 n).wf = true) (y0 : len0 * 1 ≤ 140737488351232) (w1 : (a1 = none ∧ len1 = 0 ∧ cap1 = 0 ∧ z1 = []) ∨ ∃ x, a1 = some x ∧ len1 ≤ cap1 ∧ cap1 ≤ maxLen ∧ z1.length = cap1 ∧ (∀ i, i < z1.length → w.cell? (x.add i) = some (.int .i64 (z1.getD i 0))) ∧ ∀ n ∈ z1, (Lit.int .i64 n).wf = true) (y1 : len1 * 8 ≤ 140737488351232) :
    Calls Try.prog 6 #[.slice a0 len0 cap0, .slice a1 len1 cap1] w fun e w' => e = .returned (.bool true) ∧ Below w.heap.size w w' := by
  obtain ⟨l0, rfl, hr0, hm0, hw0, hc0⟩ := ReadsInt.ofRowC w0
  obtain ⟨l1, rfl, hr1, hm1, hw1, hc1⟩ := ReadsInt.ofRowC w1
  exact reads_walk _ _ l0 _ _ l1 w (Kd.C_of_reads (d := (0 : Int)) (h1 := fun _ => rfl) hr0) hc0 (Pure.ok_of_wf hw0) (Kd.C_of_reads (d := (0 : Int)) (h1 := fun _ => rfl) hr1) hc1
end Go.Proofs.Ytcpnjlagmnlecaa.B4
