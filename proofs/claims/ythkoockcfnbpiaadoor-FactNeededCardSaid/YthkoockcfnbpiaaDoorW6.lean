/- Facts: rules, by. -/
import Derived.Test.YthkoockcfnbpiaaDoorProg
import Derived.Test.YthkoockcfnbpiaaDoorWWords
import Derived.Test.YthkoockcfnbpiaaDoorWLast
import Derived.Test.YthkoockcfnbpiaaDoorW5
namespace Go.Proofs.YthkoockcfnbpiaaDoor.W6
open Go.RowKit Go.Proofs.YthkoockcfnbpiaaDoorW.PrintWords Go.Proofs.YthkoockcfnbpiaaDoorW.PrintLast Go.Proofs.YthkoockcfnbpiaaDoorW.PrintMore Go.Proofs.YthkoockcfnbpiaaDoor L1 L4 G1 G2 S0 S1 S2 S3 S4 S5 S8 F1 W1 F2 W2 W3 W4 W5
set_option linter.unusedVariables false
set_option linter.unusedSimpArgs false
set_option maxHeartbeats 4000000 in
set_option maxRecDepth 100000 in
theorem rules_yes (xb : Nat) (w : World) :
    Calls Tryd.prog 64 #[.pointer (some ⟨xb, 0, none⟩)] w fun e w' => e = .returned (.agg #[.func (.func 72) #[.pointer (some ⟨xb, 0, none⟩)] #[], .func (.func 73) #[.pointer (some ⟨xb, 0, none⟩)] #[], .func (.func 74) #[.pointer (some ⟨xb, 0, none⟩)] #[], .func (.func 75) #[.pointer (some ⟨xb, 0, none⟩)] #[]]) ∧ Below w.heap.size w w' := by
  go_enter Tryd.func64, Tryd.ntmps64
  go_wp2_with (fail)
  have hb := below_alloc (Below.refl w.heap.size w) (.cells #[.func (.func 72) #[.pointer (some ⟨xb, 0, none⟩)] #[], .func (.func 73) #[.pointer (some ⟨xb, 0, none⟩)] #[], .func (.func 74) #[.pointer (some ⟨xb, 0, none⟩)] #[], .func (.func 75) #[.pointer (some ⟨xb, 0, none⟩)] #[]] 105)
  have h1 := heap_alloc_new w (.cells #[.func (.func 72) #[.pointer (some ⟨xb, 0, none⟩)] #[], .func (.func 73) #[.pointer (some ⟨xb, 0, none⟩)] #[], .func (.func 74) #[.pointer (some ⟨xb, 0, none⟩)] #[], .func (.func 75) #[.pointer (some ⟨xb, 0, none⟩)] #[]] 105)
  generalize w.alloc (.cells #[.func (.func 72) #[.pointer (some ⟨xb, 0, none⟩)] #[], .func (.func 73) #[.pointer (some ⟨xb, 0, none⟩)] #[], .func (.func 74) #[.pointer (some ⟨xb, 0, none⟩)] #[], .func (.func 75) #[.pointer (some ⟨xb, 0, none⟩)] #[]] 105) = W at hb h1 ⊢
  have q0 := (blk_cell h1 0).trans rfl
  have q1 := (blk_cell h1 1).trans rfl
  have q2 := (blk_cell h1 2).trans rfl
  have q3 := (blk_cell h1 3).trans rfl
  refine bodyPost_ret (v := .agg #[.func (.func 72) #[.pointer (some ⟨xb, 0, none⟩)] #[], .func (.func 73) #[.pointer (some ⟨xb, 0, none⟩)] #[], .func (.func 74) #[.pointer (some ⟨xb, 0, none⟩)] #[], .func (.func 75) #[.pointer (some ⟨xb, 0, none⟩)] #[]]) ?_ rfl ⟨rfl, hb⟩
  unfold results
  rw [show Tryd.f64.results = #[ResultVar.cell 2 105] from rfl]
  go_simp
/-- A fact is of the form that its rule wants. -/
def Fok (g : List GN) (a : Nat) (b : Int) (ws : List Int) : Prop :=
  (nd g a).f0 = 8 ∨ ((nd g a).f0 = 9 ∧ 0 < ws.length ∧ ws.getD 0 0 = -1) ∨
  ∃ k m : Nat, 0 < ws.length ∧ ws.getD 0 0 = (k : Int) ∧ k < (membersP g b).length ∧ (membersP g b).getD k 0 = (m : Int) ∧ m < g.length
set_option maxHeartbeats 4000000 in
set_option maxRecDepth 100000 in
theorem by_yes (xb : Nat) (A0 : Option Addr) (c0 : Nat) (g : List GN) (a : Nat) (b : Int) (ws : List Int) (Aw : Option Addr) (cw : Nat) (w : World) (hz : w.cell? ⟨xb, 0, none⟩ = some (.slice A0 g.length c0)) (hg : Kd.C P.k45 w A0 g.length g) (hgc : g.length ≤ c0) (hw : Kd.C (Kd.int .i64) w Aw ws.length ws) (hwc : ws.length ≤ cw) (ha : a < g.length) (hc : checkP g = 0) (hrs : RiseP (nd g a).f3) (hf : Fok g a b ws) :
    Calls Tryd.prog 46 #[.pointer (some ⟨xb, 0, none⟩), .agg #[.int .i64 a, .int .i64 b, .slice Aw ws.length cw]] w fun e w' => ∃ v, e = .returned (.tuple #[v, .bool (byP g ⟨a, b, ws⟩).2]) ∧ Kd.R kP 72 w' w.heap.size (fun _ => True) v (byP g ⟨a, b, ws⟩).1 ∧ Below w.heap.size w w' := by
  have hbk := heap_alloc_new w (.cells #[.int .i64 a, .int .i64 b, .slice Aw ws.length cw] 37)
  have y0 : (w.alloc (.cells #[.int .i64 a, .int .i64 b, .slice Aw ws.length cw] 37)).cell? ⟨w.heap.size, 0, none⟩ = some (.int .i64 a) := (blk_cell hbk 0).trans rfl
  have y1 : (w.alloc (.cells #[.int .i64 a, .int .i64 b, .slice Aw ws.length cw] 37)).cell? ⟨w.heap.size, 1, none⟩ = some (.int .i64 b) := (blk_cell hbk 1).trans rfl
  have y2 : (w.alloc (.cells #[.int .i64 a, .int .i64 b, .slice Aw ws.length cw] 37)).cell? ⟨w.heap.size, 2, none⟩ = some (.slice Aw ws.length cw) := (blk_cell hbk 2).trans rfl
  have HB1 := Aside0.mk (below_alloc (Below.refl w.heap.size w) (.cells #[.int .i64 a, .int .i64 b, .slice Aw ws.length cw] 37))
  clear hbk
  have HZ := Aside0.mk hz
  have HG := Aside0.mk hg
  have HGc := Aside0.mk hgc
  have HW := Aside0.mk hw
  have HWc := Aside0.mk hwc
  have HA := Aside0.mk ha
  have HC := Aside0.mk hc
  have HRs := Aside0.mk hrs
  have HF := Aside0.mk hf
  clear hz hg hgc hw hwc ha hc hrs hf
  go_enter Tryd.func46, Tryd.ntmps46
  go_wp2_with (fail)
  generalize w.alloc (.cells #[.int .i64 a, .int .i64 b, .slice Aw ws.length cw] 37) = W1 at y0 y1 y2 HB1 ⊢
  refine (rules_yes xb W1).mono ?_
  rintro e V ⟨rfl, hbv⟩
  have HBV := Aside0.mk (HB1.out.trans (hbv.mono HB1.out.size))
  have x0 := pw_cell_below hbv y0
  have x1 := pw_cell_below hbv y1
  have x2 := pw_cell_below hbv y2
  clear hbv y0 y1 y2 HB1
  go_wp2_with (fail)
  have ix0 : ∀ W : World, (Instr.index 105 (.agg #[.func (.func 72) #[.pointer (some ⟨xb, 0, none⟩)] #[], .func (.func 73) #[.pointer (some ⟨xb, 0, none⟩)] #[], .func (.func 74) #[.pointer (some ⟨xb, 0, none⟩)] #[], .func (.func 75) #[.pointer (some ⟨xb, 0, none⟩)] #[]]) (.int .i64 0)).run Tryd.prog W = .ok (.func (.func 72) #[.pointer (some ⟨xb, 0, none⟩)] #[]) W := fun _ => by kernel_rfl
  have ix1 : ∀ W : World, (Instr.index 105 (.agg #[.func (.func 72) #[.pointer (some ⟨xb, 0, none⟩)] #[], .func (.func 73) #[.pointer (some ⟨xb, 0, none⟩)] #[], .func (.func 74) #[.pointer (some ⟨xb, 0, none⟩)] #[], .func (.func 75) #[.pointer (some ⟨xb, 0, none⟩)] #[]]) (.int .i64 1)).run Tryd.prog W = .ok (.func (.func 73) #[.pointer (some ⟨xb, 0, none⟩)] #[]) W := fun _ => by kernel_rfl
  have ix2 : ∀ W : World, (Instr.index 105 (.agg #[.func (.func 72) #[.pointer (some ⟨xb, 0, none⟩)] #[], .func (.func 73) #[.pointer (some ⟨xb, 0, none⟩)] #[], .func (.func 74) #[.pointer (some ⟨xb, 0, none⟩)] #[], .func (.func 75) #[.pointer (some ⟨xb, 0, none⟩)] #[]]) (.int .i64 2)).run Tryd.prog W = .ok (.func (.func 74) #[.pointer (some ⟨xb, 0, none⟩)] #[]) W := fun _ => by kernel_rfl
  have ix3 : ∀ W : World, (Instr.index 105 (.agg #[.func (.func 72) #[.pointer (some ⟨xb, 0, none⟩)] #[], .func (.func 73) #[.pointer (some ⟨xb, 0, none⟩)] #[], .func (.func 74) #[.pointer (some ⟨xb, 0, none⟩)] #[], .func (.func 75) #[.pointer (some ⟨xb, 0, none⟩)] #[]]) (.int .i64 3)).run Tryd.prog W = .ok (.func (.func 75) #[.pointer (some ⟨xb, 0, none⟩)] #[]) W := fun _ => by kernel_rfl
  go_loopw [13] (fun v13 wr => ∃ i : Nat, i ≤ 3 ∧ v13 = .int .i64 i ∧ Aside0 (Below V.heap.size V wr) ∧ Aside0 ((1 ≤ i → (nd g a).f0 ≠ 8) ∧ (2 ≤ i → ¬ ((nd g a).f0 = 9 ∧ ws.getD 0 0 = -1)) ∧ (3 ≤ i → (nd g a).f0 ≠ 1 ∧ (chosenN g ⟨a, b, ws⟩).f0 ≠ 1))) (fun v13 _ => 5 - (intOf v13).toNat)
  case atStart => exact ⟨0, by omega, rfl, ⟨Below.refl _ _⟩, ⟨fun h => by omega, fun h => by omega, fun h => by omega⟩⟩
  case round =>
    obtain ⟨i, hi, rfl, HBo, HI⟩ := hrel
    rename World => X
    have HBX := Aside0.mk (HBV.out.trans (HBo.out.mono HBV.out.size))
    have z0 := pw_cell_below HBo.out x0
    have z1 := pw_cell_below HBo.out x1
    have z2 := pw_cell_below HBo.out x2
    have HZX := Aside0.mk (pw_cell_below HBX.out HZ.out)
    have HGX := Aside0.mk (Kd.C_below HG.out HBX.out)
    have HWX := Aside0.mk (Kd.C_below HW.out HBX.out)
    rcases i with _ | _ | _ | _ | i
    · clear HI
      by_cases h8 : (nd g a).f0 = 8
      · have HH := Aside0.mk h8
        have HS := Aside0.mk (members_small HC.out _ (nd_mem (g := g) (k := (a : Int)) (by omega) (by have := HA.out; omega)))
        clear h8
        go_wp2_with (fail)
        refine (union_yes xb A0 c0 g a b ws Aw cw X HZX.out HGX.out HGc.out HWX.out HWc.out HA.out HH.out HS.out).mono ?_
        rintro e Y ⟨v, rfl, hr, hby⟩
        have HR := Aside0.mk hr
        have HY := Aside0.mk hby
        clear hr hby
        go_wp2_with (fail)
        go_ret2
        rw [show byP g ⟨a, b, ws⟩ = ((nd g a).f4.map fun m => (m, b), true) from if_pos HH.out]
        exact ⟨_, rfl, Kd.R_lower HR.out HBX.out.size, HBX.out.trans (HY.out.mono HBX.out.size)⟩
      · have HH := Aside0.mk h8
        clear h8
        go_wp2_with (fail)
        refine (union_no xb A0 c0 g a b ws Aw cw X HZX.out HGX.out HGc.out HWX.out HWc.out HA.out HH.out).mono ?_
        rintro e Y ⟨v, rfl, hr, hby⟩
        have HY := Aside0.mk (HBo.out.trans (hby.mono HBo.out.size))
        clear hr hby
        go_wp2_with (fail)
        go_roundw
        case rel => exact ⟨1, by omega, rfl, HY, ⟨fun _ => HH.out, fun h => by omega, fun h => by omega⟩⟩
        case measure => simp only [intOf]; omega
    · have H8 := Aside0.mk (HI.out.1 (by omega))
      clear HI
      by_cases h9 : (nd g a).f0 = 9 ∧ ws.getD 0 0 = -1
      · have HH := Aside0.mk h9
        have HL := Aside0.mk (show 0 < ws.length from by
          rcases HF.out with h | h | ⟨k, m, h, hk, _⟩
          · exact absurd h H8.out
          · exact h.2.1
          · exact h)
        have HV := Aside0.mk (show 0 < (nd g a).f4.length from by
          rw [((check_ok HC.out).2 _ (nd_mem (g := g) (k := (a : Int)) (by omega) (by have := HA.out; omega))).var h9.1]
          omega)
        clear h9
        go_wp2_with (fail)
        refine (bound_yes xb A0 c0 g a b ws Aw cw X HZX.out HGX.out HGc.out HWX.out HWc.out HA.out HH.out.1 HL.out HH.out.2 HV.out).mono ?_
        rintro e Y ⟨v, rfl, hr, hby⟩
        have HR := Aside0.mk hr
        have HY := Aside0.mk hby
        clear hr hby
        go_wp2_with (fail)
        go_ret2
        rw [show byP g ⟨a, b, ws⟩ = ([((nd g a).f4.getD 0 0, b)], true) by unfold byP; dsimp only; rw [if_neg H8.out, if_pos HH.out]]
        exact ⟨_, rfl, Kd.R_lower HR.out HBX.out.size, HBX.out.trans (HY.out.mono HBX.out.size)⟩
      · have HH := Aside0.mk h9
        have HL := Aside0.mk (show (nd g a).f0 ≠ 9 ∨ (0 < ws.length ∧ ws.getD 0 0 ≠ -1) from by
          by_cases h : (nd g a).f0 = 9
          · rcases HF.out with h' | h' | ⟨k, m, h', hk, _⟩
            · exact absurd h' H8.out
            · exact absurd ⟨h, h'.2.2⟩ h9
            · exact .inr ⟨h', fun e => h9 ⟨h, e⟩⟩
          · exact .inl h)
        clear h9
        go_wp2_with (fail)
        refine (bound_no xb A0 c0 g a b ws Aw cw X HZX.out HGX.out HGc.out HWX.out HWc.out HA.out HL.out).mono ?_
        rintro e Y ⟨v, rfl, hr, hby⟩
        have HY := Aside0.mk (HBo.out.trans (hby.mono HBo.out.size))
        clear hr hby
        go_wp2_with (fail)
        go_roundw
        case rel => exact ⟨2, by omega, rfl, HY, ⟨fun _ => H8.out, fun _ => HH.out, fun h => by omega⟩⟩
        case measure => simp only [intOf]; omega
    · have H8 := Aside0.mk (HI.out.1 (by omega))
      have H9 := Aside0.mk (HI.out.2.1 (by omega))
      clear HI
      by_cases h1 : (nd g a).f0 = 1
      · have HH := Aside0.mk h1
        clear h1
        go_wp2_with (fail)
        refine (loose_dyn xb A0 c0 g a b ws Aw cw X HZX.out HGX.out HGc.out HWX.out HWc.out HA.out HH.out).mono ?_
        rintro e Y ⟨v, rfl, hr, hby⟩
        have HR := Aside0.mk hr
        have HY := Aside0.mk hby
        clear hr hby
        go_wp2_with (fail)
        go_ret2
        rw [show byP g ⟨a, b, ws⟩ = ([], true) by unfold byP; dsimp only; rw [if_neg H8.out, if_neg H9.out, if_pos (.inl HH.out)]]
        exact ⟨_, rfl, Kd.R_lower HR.out HBX.out.size, HBX.out.trans (HY.out.mono HBX.out.size)⟩
      · have HH := Aside0.mk h1
        have hkm : ∃ k m : Nat, 0 < ws.length ∧ ws.getD 0 0 = (k : Int) ∧ k < (membersP g b).length ∧ (membersP g b).getD k 0 = (m : Int) ∧ m < g.length := by
          rcases HF.out with h' | h' | h'
          · exact absurd h' H8.out
          · exact absurd ⟨h'.1, h'.2.2⟩ H9.out
          · exact h'
        obtain ⟨k, m, f1, f2, f3, f4, f5⟩ := hkm
        have HKM := Aside0.mk (And.intro f1 (And.intro f2 (And.intro f3 (And.intro f4 f5))))
        have HCN := Aside0.mk (show chosenN g ⟨a, b, ws⟩ = nd g m by show nd g ((membersP g b).getD (ws.getD 0 0).toNat 0) = _; rw [f2, Int.toNat_natCast, f4])
        clear h1 f1 f2 f3 f4 f5
        by_cases ht : (nd g m).f0 = 1
        · have HTt := Aside0.mk ht
          clear ht
          go_wp2_with (fail)
          refine (loose_other xb A0 c0 g a b ws Aw cw X HZX.out HGX.out HGc.out HWX.out HWc.out HA.out HH.out HC.out k m HKM.out.1 HKM.out.2.1 HKM.out.2.2.1 HKM.out.2.2.2.1 HKM.out.2.2.2.2).mono ?_
          rw [decide_eq_true HTt.out]
          rintro e Y ⟨v, rfl, hr, hby⟩
          have HR := Aside0.mk hr
          have HY := Aside0.mk hby
          clear hr hby
          go_wp2_with (fail)
          go_ret2
          rw [show byP g ⟨a, b, ws⟩ = ([], true) by unfold byP; dsimp only; rw [if_neg H8.out, if_neg H9.out, if_pos (.inr (by rw [HCN.out]; exact HTt.out))]]
          exact ⟨_, rfl, Kd.R_lower HR.out HBX.out.size, HBX.out.trans (HY.out.mono HBX.out.size)⟩
        · have HTt := Aside0.mk ht
          clear ht
          go_wp2_with (fail)
          refine (loose_other xb A0 c0 g a b ws Aw cw X HZX.out HGX.out HGc.out HWX.out HWc.out HA.out HH.out HC.out k m HKM.out.1 HKM.out.2.1 HKM.out.2.2.1 HKM.out.2.2.2.1 HKM.out.2.2.2.2).mono ?_
          rw [decide_eq_false HTt.out]
          rintro e Y ⟨v, rfl, hr, hby⟩
          have HY := Aside0.mk (HBo.out.trans (hby.mono HBo.out.size))
          clear hr hby
          go_wp2_with (fail)
          go_roundw
          case rel => exact ⟨3, by omega, rfl, HY, ⟨fun _ => H8.out, fun _ => H9.out, fun _ => ⟨HH.out, by rw [HCN.out]; exact HTt.out⟩⟩⟩
          case measure => simp only [intOf]; omega
    · have H8 := Aside0.mk (HI.out.1 (by omega))
      have H9 := Aside0.mk (HI.out.2.1 (by omega))
      have H1 := Aside0.mk (HI.out.2.2 (by omega))
      clear HI
      have hkm : ∃ k m : Nat, 0 < ws.length ∧ ws.getD 0 0 = (k : Int) ∧ k < (membersP g b).length ∧ (membersP g b).getD k 0 = (m : Int) ∧ m < g.length := by
        rcases HF.out with h' | h' | h'
        · exact absurd h' H8.out
        · exact absurd ⟨h'.1, h'.2.2⟩ H9.out
        · exact h'
      obtain ⟨k, m, f1, f2, f3, f4, f5⟩ := hkm
      have HKM := Aside0.mk (And.intro f1 (And.intro f2 (And.intro f3 (And.intro f4 f5))))
      have HCN := Aside0.mk (show chosenN g ⟨a, b, ws⟩ = nd g m by show nd g ((membersP g b).getD (ws.getD 0 0).toNat 0) = _; rw [f2, Int.toNat_natCast, f4])
      clear f1 f2 f3 f4 f5
      go_wp2_with (fail)
      refine (plain_yes xb A0 c0 g a b ws Aw cw X HZX.out HGX.out HGc.out HWX.out HWc.out HA.out HC.out k m HKM.out.1 HKM.out.2.1 HKM.out.2.2.1 HKM.out.2.2.2.1 HKM.out.2.2.2.2 HRs.out).mono ?_
      rintro e Y ⟨v, rfl, hr, hby⟩
      have HR := Aside0.mk hr
      have HY := Aside0.mk hby
      clear hr hby
      go_wp2_with (fail)
      go_ret2
      rw [show byP g ⟨a, b, ws⟩ = plainP (nd g a) (nd g m) by unfold byP; dsimp only; rw [if_neg H8.out, if_neg H9.out, if_neg (by rintro (h | h); exact H1.out.1 h; exact H1.out.2 h), HCN.out]]
      exact ⟨_, rfl, Kd.R_lower HR.out HBX.out.size, HBX.out.trans (HY.out.mono HBX.out.size)⟩
    · omega
end Go.Proofs.YthkoockcfnbpiaaDoor.W6
