/- Facts: what is asked of each; check, has, Check, First, Holds. -/
import Derived.Test.YthkoockcfnbpiaaDoorProg
import Derived.Test.YthkoockcfnbpiaaDoorWWords
import Derived.Test.YthkoockcfnbpiaaDoorWLast
import Derived.Test.YthkoockcfnbpiaaDoorW8
namespace Go.Proofs.YthkoockcfnbpiaaDoor.W9
open Go.RowKit Go.Proofs.YthkoockcfnbpiaaDoorW.PrintWords Go.Proofs.YthkoockcfnbpiaaDoorW.PrintLast Go.Proofs.YthkoockcfnbpiaaDoorW.PrintMore Go.Proofs.YthkoockcfnbpiaaDoor L1 L4 G1 G2 S0 S1 S2 S3 S4 S5 S8 F1 W1 F2 F3 W2 W3 W4 W5 W6 W7 W8
set_option linter.unusedVariables false
set_option linter.unusedSimpArgs false
set_option maxHeartbeats 4000000 in
set_option maxRecDepth 100000 in
theorem ck_index (gb : Nat) (A1 : Option Addr) (c1 : Nat) (l : List FC) (w : World) (R : Nat → World → Prop) (T : Nat → World → Prop) (hC : ∀ i W, R i W → Kd.C P.k37 W A1 l.length l) (hc : l.length ≤ c1)
    (hcl : ∀ i W Aw cw, i < l.length → R i W → Kd.C (Kd.int .i64) W Aw (l.getD i zF).f2.length (l.getD i zF).f2 → (l.getD i zF).f2.length ≤ cw → Calls Tryd.prog 48 #[.agg #[.int .i64 (l.getD i zF).f0, .int .i64 (l.getD i zF).f1, .slice Aw (l.getD i zF).f2.length cw], .pointer (some ⟨gb, 0, none⟩)] W fun e W' => (e = .returned (.bool true) ∧ T i W') ∨ (e = .returned (.bool false) ∧ R (i + 1) W')) (hR : R 0 w) :
    Calls Tryd.prog 32 #[.slice A1 l.length c1, .func (.func 48) #[] #[.pointer (some ⟨gb, 0, none⟩)]] w fun e w' => (∃ n : Nat, n < l.length ∧ e = .returned (.int .i64 (n : Int)) ∧ T n w') ∨ (e = .returned (.int .i64 (-1)) ∧ R l.length w') := by
  have HC := Aside0.mk hC
  have Hc := Aside0.mk hc
  have HL := Aside0.mk (hC 0 w hR).2.1
  have HCl := Aside0.mk hcl
  have HR := Aside0.mk hR
  clear hC hc hcl hR
  go_enter Tryd.func32, Tryd.ntmps32
  go_wp2_with (fail)
  go_loopw [8] (fun v8 wr => ∃ i : Nat, i ≤ l.length ∧ v8 = .int .i64 i ∧ Aside0 (R i wr)) (fun v8 _ => l.length + 1 - (intOf v8).toNat)
  case atStart => exact ⟨0, by omega, rfl, HR⟩
  case round =>
    obtain ⟨i, hi, rfl, HRi⟩ := hrel
    by_cases hlt : i < l.length
    · obtain ⟨ad, Aw, cw, ea, hF⟩ := fact_at (HC.out i wr HRi.out) hlt
      cases ea
      have HCl2 := Aside0.mk (HCl.out i wr Aw cw hlt HRi.out hF.ws hF.wc)
      have q0 := hF.c0
      have q1 := hF.c1
      have q2 := hF.c2
      have HLt := Aside0.mk hlt
      have e1 : ((i : Int) < (l.length : Int)) = True := eq_true (by omega)
      generalize l.getD i zF = o at q0 q1 q2 HCl2
      have hL := HL.out
      have hw : wrap64 ((i : Int) + 1) = ((i + 1 : Nat) : Int) := by unfold wrap64; omega
      clear hF
      go_wp2_with (fail)
      refine HCl2.out.mono ?_
      rintro e w' (⟨rfl, ht⟩ | ⟨rfl, hr⟩)
      · have HT := Aside0.mk ht
        clear ht
        go_wp2_with (fail)
        go_ret
        exact .inl ⟨i, HLt.out, rfl, HT.out⟩
      · have HR2 := Aside0.mk hr
        clear hr
        go_wp2_with (fail)
        go_roundw
        case rel => exact ⟨i + 1, by omega, by first | (rw [hw]; done) | (rw [Int.natCast_add]; rfl), HR2⟩
        case measure => first | (rw [hw]; simp only [intOf]; omega) | (simp only [intOf]; omega)
    · obtain rfl : i = l.length := by omega
      go_wp2_with (fail)
      go_ret
      exact .inr ⟨rfl, HRi.out⟩
set_option maxHeartbeats 4000000 in
set_option maxRecDepth 100000 in
theorem fs_index (gb : Nat) (A1 : Option Addr) (c1 : Nat) (l : List FC) (w : World) (R : Nat → World → Prop) (T : Nat → World → Prop) (hC : ∀ i W, R i W → Kd.C P.k37 W A1 l.length l) (hc : l.length ≤ c1)
    (hcl : ∀ i W Aw cw, i < l.length → R i W → Kd.C (Kd.int .i64) W Aw (l.getD i zF).f2.length (l.getD i zF).f2 → (l.getD i zF).f2.length ≤ cw → Calls Tryd.prog 33 #[.agg #[.int .i64 (l.getD i zF).f0, .int .i64 (l.getD i zF).f1, .slice Aw (l.getD i zF).f2.length cw], .pointer (some ⟨gb, 0, none⟩)] W fun e W' => (e = .returned (.bool true) ∧ T i W') ∨ (e = .returned (.bool false) ∧ R (i + 1) W')) (hR : R 0 w) :
    Calls Tryd.prog 32 #[.slice A1 l.length c1, .func (.func 33) #[] #[.pointer (some ⟨gb, 0, none⟩)]] w fun e w' => (∃ n : Nat, n < l.length ∧ e = .returned (.int .i64 (n : Int)) ∧ T n w') ∨ (e = .returned (.int .i64 (-1)) ∧ R l.length w') := by
  have HC := Aside0.mk hC
  have Hc := Aside0.mk hc
  have HL := Aside0.mk (hC 0 w hR).2.1
  have HCl := Aside0.mk hcl
  have HR := Aside0.mk hR
  clear hC hc hcl hR
  go_enter Tryd.func32, Tryd.ntmps32
  go_wp2_with (fail)
  go_loopw [8] (fun v8 wr => ∃ i : Nat, i ≤ l.length ∧ v8 = .int .i64 i ∧ Aside0 (R i wr)) (fun v8 _ => l.length + 1 - (intOf v8).toNat)
  case atStart => exact ⟨0, by omega, rfl, HR⟩
  case round =>
    obtain ⟨i, hi, rfl, HRi⟩ := hrel
    by_cases hlt : i < l.length
    · obtain ⟨ad, Aw, cw, ea, hF⟩ := fact_at (HC.out i wr HRi.out) hlt
      cases ea
      have HCl2 := Aside0.mk (HCl.out i wr Aw cw hlt HRi.out hF.ws hF.wc)
      have q0 := hF.c0
      have q1 := hF.c1
      have q2 := hF.c2
      have HLt := Aside0.mk hlt
      have e1 : ((i : Int) < (l.length : Int)) = True := eq_true (by omega)
      generalize l.getD i zF = o at q0 q1 q2 HCl2
      have hL := HL.out
      have hw : wrap64 ((i : Int) + 1) = ((i + 1 : Nat) : Int) := by unfold wrap64; omega
      clear hF
      go_wp2_with (fail)
      refine HCl2.out.mono ?_
      rintro e w' (⟨rfl, ht⟩ | ⟨rfl, hr⟩)
      · have HT := Aside0.mk ht
        clear ht
        go_wp2_with (fail)
        go_ret
        exact .inl ⟨i, HLt.out, rfl, HT.out⟩
      · have HR2 := Aside0.mk hr
        clear hr
        go_wp2_with (fail)
        go_roundw
        case rel => exact ⟨i + 1, by omega, by first | (rw [hw]; done) | (rw [Int.natCast_add]; rfl), HR2⟩
        case measure => first | (rw [hw]; simp only [intOf]; omega) | (simp only [intOf]; omega)
    · obtain rfl : i = l.length := by omega
      go_wp2_with (fail)
      go_ret
      exact .inr ⟨rfl, HRi.out⟩
set_option maxHeartbeats 4000000 in
set_option maxRecDepth 100000 in
theorem ck1_yes (gb xb : Nat) (A0 : Option Addr) (c0 : Nat) (g : List GN) (A1 : Option Addr) (c1 : Nat) (l : List FC) (A B : Int) (ws : List Int) (Aw : Option Addr) (cw : Nat) (w : World) (h0 : w.cell? ⟨gb, 0, none⟩ = some (.pointer (some ⟨xb, 0, none⟩))) (hx : Fx w xb A0 c0 g A1 c1 l) (hw : Kd.C (Kd.int .i64) w Aw ws.length ws) (hwc : ws.length ≤ cw) (hc : checkP g = 0) :
    Calls Tryd.prog 48 #[.agg #[.int .i64 A, .int .i64 B, .slice Aw ws.length cw], .pointer (some ⟨gb, 0, none⟩)] w fun e w' => e = .returned (.bool (!frmP g l.length ⟨A, B, ws⟩)) ∧ Below w.heap.size w w' := by
  have hbk := heap_alloc_new w (.cells #[.int .i64 A, .int .i64 B, .slice Aw ws.length cw] 37)
  have y0 := (blk_cell hbk 0).trans rfl
  have y1 := (blk_cell hbk 1).trans rfl
  have y2 := (blk_cell hbk 2).trans rfl
  have HB1 := Aside0.mk (below_alloc (Below.refl w.heap.size w) (.cells #[.int .i64 A, .int .i64 B, .slice Aw ws.length cw] 37))
  have g0 := pw_cell_below HB1.out h0
  have HF := Aside0.mk (formed_yes xb A0 c0 g A1 c1 l A B ws Aw cw _ (hx.below HB1.out) (Kd.C_below hw HB1.out) hwc hc)
  clear hbk h0 hx hw hwc hc
  go_enter Tryd.func48, Tryd.ntmps48
  go_wp2_with (fail)
  generalize w.alloc (.cells #[.int .i64 A, .int .i64 B, .slice Aw ws.length cw] 37) = W1 at y0 y1 y2 HB1 g0 HF ⊢
  refine HF.out.mono ?_
  rintro e W2 ⟨rfl, hb⟩
  have HB2 := Aside0.mk (HB1.out.trans (hb.mono HB1.out.size))
  clear hb
  go_wp2_with (fail)
  go_ret
  exact ⟨rfl, HB2.out⟩
set_option maxHeartbeats 4000000 in
set_option maxRecDepth 100000 in
theorem fs1_yes (gb xb : Nat) (A0 : Option Addr) (c0 : Nat) (g : List GN) (A1 : Option Addr) (c1 : Nat) (l : List FC) (a : Nat) (b : Int) (ws : List Int) (Aw : Option Addr) (cw : Nat) (w : World) (h0 : w.cell? ⟨gb, 0, none⟩ = some (.pointer (some ⟨xb, 0, none⟩))) (hx : Fx w xb A0 c0 g A1 c1 l) (hw : Kd.C (Kd.int .i64) w Aw ws.length ws) (hwc : ws.length ≤ cw) (ha : a < g.length) (hc : checkP g = 0)
    (hrs : RiseP (nd g a).f3) (hf : Fok g a b ws) (hon : (onP g ⟨a, b, ws⟩).all (inP l.length) = true) (hl : l.length ≤ 1000000000) (hwl : ws.length ≤ 1000000000) :
    Calls Tryd.prog 33 #[.agg #[.int .i64 a, .int .i64 b, .slice Aw ws.length cw], .pointer (some ⟨gb, 0, none⟩)] w fun e w' => e = .returned (.bool (!holdsP g l ⟨a, b, ws⟩)) ∧ Below w.heap.size w w' := by
  have hbk := heap_alloc_new w (.cells #[.int .i64 a, .int .i64 b, .slice Aw ws.length cw] 37)
  have y0 := (blk_cell hbk 0).trans rfl
  have y1 := (blk_cell hbk 1).trans rfl
  have y2 := (blk_cell hbk 2).trans rfl
  have HB1 := Aside0.mk (below_alloc (Below.refl w.heap.size w) (.cells #[.int .i64 a, .int .i64 b, .slice Aw ws.length cw] 37))
  have g0 := pw_cell_below HB1.out h0
  have HF := Aside0.mk (holds_yes xb A0 c0 g A1 c1 l a b ws Aw cw _ (hx.below HB1.out) (Kd.C_below hw HB1.out) hwc ha hc hrs hf hon hl hwl)
  clear hbk h0 hx hw hwc hc ha hrs hf hon hl hwl
  go_enter Tryd.func33, Tryd.ntmps33
  go_wp2_with (fail)
  generalize w.alloc (.cells #[.int .i64 a, .int .i64 b, .slice Aw ws.length cw] 37) = W1 at y0 y1 y2 HB1 g0 HF ⊢
  refine HF.out.mono ?_
  rintro e W2 ⟨rfl, hb⟩
  have HB2 := Aside0.mk (HB1.out.trans (hb.mono HB1.out.size))
  clear hb
  go_wp2_with (fail)
  go_ret
  exact ⟨rfl, HB2.out⟩
theorem all_take {l : List FC} {p : FC → Bool} {i : Nat} (hi : i < l.length) : (l.take (i + 1)).all p = ((l.take i).all p && p (l.getD i zF)) := by
  rw [List.take_add_one, List.getElem?_eq_getElem hi, List.all_append, List.getD_eq_getElem?_getD, List.getElem?_eq_getElem hi]
  simp
theorem all_of_take {l : List FC} {p : FC → Bool} {i : Nat} (hi : i < l.length) (h : p (l.getD i zF) = false) : l.all p = false := by
  rw [← Bool.not_eq_true, List.all_eq_true]
  intro hall
  have := hall (l.getD i zF) (by rw [List.getD_eq_getElem?_getD, List.getElem?_eq_getElem hi]; exact List.getElem_mem hi)
  rw [h] at this
  cases this
set_option maxHeartbeats 4000000 in
set_option maxRecDepth 100000 in
theorem ck_contains (gb xb : Nat) (A0 : Option Addr) (c0 : Nat) (g : List GN) (A1 : Option Addr) (c1 : Nat) (l : List FC) (w : World) (h0 : w.cell? ⟨gb, 0, none⟩ = some (.pointer (some ⟨xb, 0, none⟩))) (hx : Fx w xb A0 c0 g A1 c1 l) (hc : checkP g = 0) :
    Calls Tryd.prog 47 #[.slice A1 l.length c1, .func (.func 48) #[] #[.pointer (some ⟨gb, 0, none⟩)]] w fun e w' => e = .returned (.bool (!l.all (frmP g l.length))) ∧ Below w.heap.size w w' := by
  have HI := Aside0.mk (ck_index gb A1 c1 l w (fun i W => Below w.heap.size w W ∧ (l.take i).all (frmP g l.length) = true) (fun _ W => Below w.heap.size w W ∧ l.all (frmP g l.length) = false) (fun i W h => Kd.C_below hx.lr h.1) hx.lc (fun i W Aw cw hi hR hw hwc => by
    refine (ck1_yes gb xb A0 c0 g A1 c1 l (l.getD i zF).f0 (l.getD i zF).f1 (l.getD i zF).f2 Aw cw W (pw_cell_below hR.1 h0) (hx.below hR.1) hw hwc hc).mono ?_
    rintro e W' ⟨rfl, hb⟩
    cases hp : frmP g l.length ⟨(l.getD i zF).f0, (l.getD i zF).f1, (l.getD i zF).f2⟩ with
    | true => exact .inr ⟨rfl, hR.1.trans (hb.mono hR.1.size), by rw [all_take hi, hR.2]; exact hp⟩
    | false => exact .inl ⟨rfl, hR.1.trans (hb.mono hR.1.size), all_of_take hi hp⟩) ⟨Below.refl _ _, rfl⟩)
  clear h0 hx hc
  go_enter Tryd.func47, Tryd.ntmps47
  go_wp2_with (fail)
  refine HI.out.mono ?_
  rintro e w' (⟨n, hn, rfl, hb, hall⟩ | ⟨rfl, hb, hall⟩)
  · have HB := Aside0.mk hb
    have HA := Aside0.mk hall
    clear hb hall
    go_wp2_with (fail)
    go_ret
    rw [HA.out]
    exact ⟨by first | rfl | simp, HB.out⟩
  · have HB := Aside0.mk hb
    have HA := Aside0.mk hall
    clear hb hall
    go_wp2_with (fail)
    go_ret
    have h := HA.out
    rw [List.take_length] at h
    rw [h]
    exact ⟨rfl, HB.out⟩
set_option maxHeartbeats 4000000 in
set_option maxRecDepth 100000 in
theorem check_facts_yes (xb : Nat) (A0 : Option Addr) (c0 : Nat) (g : List GN) (A1 : Option Addr) (c1 : Nat) (l : List FC) (w : World) (hK : Keys w) (hx : Fx w xb A0 c0 g A1 c1 l) :
    Calls Tryd.prog 31 #[.pointer (some ⟨xb, 0, none⟩)] w fun e w' => e = .returned (.int .i64 (checkFP g l)) ∧ Below w.heap.size w w' := by
  have hbk := heap_alloc_new w (.cells #[.pointer (some ⟨xb, 0, none⟩)] 73)
  have y0 := (blk_cell hbk 0).trans rfl
  have HB1 := Aside0.mk (below_alloc (Below.refl w.heap.size w) (.cells #[.pointer (some ⟨xb, 0, none⟩)] 73))
  have z0 := pw_cell_below HB1.out hx.z0
  have z1 := pw_cell_below HB1.out hx.z1
  have HX := Aside0.mk hx
  have HK := Aside0.mk hK
  clear hbk hx hK
  go_enter Tryd.func31, Tryd.ntmps31
  go_wp2_with (fail)
  generalize w.alloc (.cells #[.pointer (some ⟨xb, 0, none⟩)] 73) = W1 at y0 HB1 z0 z1 ⊢
  refine (check_yes A0 c0 g W1 (HK.out.below HB1.out) (HX.out.below HB1.out).gr HX.out.gc).mono ?_
  rintro e W2 ⟨rfl, hb⟩
  have HB2 := Aside0.mk (HB1.out.trans (hb.mono HB1.out.size))
  have x0 := pw_cell_below hb y0
  have x1 := (HX.out.below HB2.out).z1
  clear hb y0 z0 z1 HB1
  by_cases hc : checkP g = 0
  · have hcb : (checkP g != 0) = false := by simp [hc]
    have HC := Aside0.mk hc
    clear hc
    by_cases hl : 8000 < l.length
    · have e1 : (8000 < (l.length : Int)) = True := eq_true (by omega)
      have HP := Aside0.mk (show checkFP g l = 5 by unfold checkFP; rw [if_neg (by rw [HC.out]; simp), if_pos hl])
      clear hl
      go_wp2_with (fail)
      go_ret
      rw [HP.out]
      exact ⟨rfl, HB2.out⟩
    · have e1 : (8000 < (l.length : Int)) = False := eq_false (by omega)
      have HP := Aside0.mk (show checkFP g l = if l.all (frmP g l.length) then 0 else 2 by unfold checkFP; rw [if_neg (by rw [HC.out]; simp), if_neg hl])
      clear hl
      go_wp2_with (fail)
      refine (ck_contains w.heap.size xb A0 c0 g A1 c1 l W2 x0 (HX.out.below HB2.out) HC.out).mono ?_
      rintro e W3 ⟨rfl, hb⟩
      have HB3 := Aside0.mk (HB2.out.trans (hb.mono HB2.out.size))
      clear hb
      cases hall : l.all (frmP g l.length) with
      | true =>
        rw [hall] at HP
        go_wp2_with (fail)
        go_ret
        rw [HP.out]
        exact ⟨rfl, HB3.out⟩
      | false =>
        rw [hall] at HP
        go_wp2_with (fail)
        go_ret
        rw [HP.out]
        exact ⟨rfl, HB3.out⟩
  · have hcb : (checkP g != 0) = true := by simpa using hc
    have HP := Aside0.mk (show checkFP g l = checkP g from if_pos hc)
    clear hc
    go_wp2_with (fail)
    go_ret
    rw [HP.out]
    exact ⟨rfl, HB2.out⟩
set_option maxHeartbeats 4000000 in
set_option maxRecDepth 100000 in
theorem has_yes (xb : Nat) (A0 : Option Addr) (c0 : Nat) (g : List GN) (A1 : Option Addr) (c1 : Nat) (l : List FC) (k : Int) (w : World) (hK : Keys w) (hx : Fx w xb A0 c0 g A1 c1 l) :
    Calls Tryd.prog 37 #[.pointer (some ⟨xb, 0, none⟩), .int .i64 k] w fun e w' => e = .returned (.bool (hasFP g l k)) ∧ Below w.heap.size w w' := by
  have HX := Aside0.mk hx
  have HK := Aside0.mk hK
  clear hx hK
  go_enter Tryd.func37, Tryd.ntmps37
  go_wp2_with (fail)
  refine (check_facts_yes xb A0 c0 g A1 c1 l w HK.out HX.out).mono ?_
  rintro e W2 ⟨rfl, hb⟩
  have HB2 := Aside0.mk hb
  have x1 := (HX.out.below hb).z1
  clear hb
  by_cases hc : checkFP g l = 0
  · have hcb : (checkFP g l == 0) = true := by simp [hc]
    by_cases h0 : 0 ≤ k
    · have e0 : (0 ≤ k) = True := eq_true h0
      by_cases h1 : k < l.length
      · have e1 : (k < (l.length : Int)) = True := eq_true h1
        have HP := Aside0.mk (show hasFP g l k = true by unfold hasFP; rw [decide_eq_true hc]; simp [inP_iff]; omega)
        clear hc h0 h1
        go_wp2_with (fail)
        go_ret
        exact ⟨by rw [HP.out]; first | rfl | simp [*], HB2.out⟩
      · have e1 : (k < (l.length : Int)) = False := eq_false h1
        have HP := Aside0.mk (show hasFP g l k = false by unfold hasFP inP; simp [h1])
        clear hc h0 h1
        go_wp2_with (fail)
        go_ret
        exact ⟨by rw [HP.out]; first | rfl | simp [*], HB2.out⟩
    · have e0 : (0 ≤ k) = False := eq_false h0
      have HP := Aside0.mk (show hasFP g l k = false by unfold hasFP inP; simp [h0])
      clear hc h0
      go_wp2_with (fail)
      go_ret
      exact ⟨by rw [HP.out]; first | rfl | simp [*], HB2.out⟩
  · have hcb : (checkFP g l == 0) = false := by simpa using hc
    have HP := Aside0.mk (show hasFP g l k = false by unfold hasFP; rw [decide_eq_false hc]; rfl)
    clear hc
    go_wp2_with (fail)
    go_ret
    exact ⟨by rw [HP.out]; first | rfl | simp [*], HB2.out⟩
end Go.Proofs.YthkoockcfnbpiaaDoor.W9
