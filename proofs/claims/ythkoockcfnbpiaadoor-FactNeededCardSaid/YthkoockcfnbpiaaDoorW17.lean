/- Lists that are alike: Equal, EqInts, Same; CopyInts, Bring. -/
import Derived.Test.YthkoockcfnbpiaaDoorProg
import Derived.Test.YthkoockcfnbpiaaDoorWWords
import Derived.Test.YthkoockcfnbpiaaDoorWLast
import Derived.Test.YthkoockcfnbpiaaDoorW16
import Derived.Test.YthkoockcfnbpiaaDoorW1
namespace Go.Proofs.YthkoockcfnbpiaaDoor.W17
open Go.RowKit Go.Proofs.YthkoockcfnbpiaaDoorW.PrintWords Go.Proofs.YthkoockcfnbpiaaDoorW.PrintLast Go.Proofs.YthkoockcfnbpiaaDoorW.PrintMore Go.Proofs.YthkoockcfnbpiaaDoor L1 G1 G2 S3 F1 W1 C1 W16
set_option linter.unusedVariables false
set_option linter.unusedSimpArgs false
theorem rng_up {x : Int} {n : Nat} (h : 0 ≤ x ∧ x ≤ n) (hlt : x < n) (hn : n ≤ 9223372036854775807) : 0 ≤ wrap64 (x + 1) ∧ wrap64 (x + 1) ≤ n := by unfold wrap64; omega
theorem meas_up {x : Int} {n : Nat} (h : 0 ≤ x ∧ x ≤ n) (hlt : x < n) (hn : n ≤ 9223372036854775807) : n + 1 - (intOf (.int .i64 (wrap64 (x + 1)))).toNat < n + 1 - (intOf (.int .i64 x)).toNat := by
  show n + 1 - (wrap64 (x + 1)).toNat < n + 1 - x.toNat
  unfold wrap64
  omega
theorem rng_end {x : Int} {n : Nat} (h : 0 ≤ x ∧ x ≤ n) (hlt : ¬ x < n) : x = n := by omega
theorem lt_f (n : Nat) : ((n : Int) < (n : Int)) = False := eq_false (by omega)
set_option maxHeartbeats 4000000 in
set_option maxRecDepth 100000 in
theorem equal_yes (A0 A1 : Option Addr) (c0 c1 : Nat) (l : List Int) (w : World) (h0 : Kd.C (Kd.int .i64) w A0 l.length l) (h1 : Kd.C (Kd.int .i64) w A1 l.length l) :
    Calls Tryd.prog 50 #[.slice A0 l.length c0, .slice A1 l.length c1] w fun e w' => e = .returned (.bool true) ∧ Below w.heap.size w w' := by
  have HR0 := Aside0.mk h0
  have HR1 := Aside0.mk h1
  have HL := Aside0.mk h0.2.1
  clear h0 h1
  have e0 : ((l.length : Int) != (l.length : Int)) = false := by simp
  go_enter Tryd.func50, Tryd.ntmps50
  go_wp2_with (fail)
  clear e0
  go_loopw [13] (fun v13 wr => ∃ x : Int, v13 = .int .i64 x ∧ (0 ≤ x ∧ x ≤ l.length) ∧ Aside0 (Below w.heap.size w wr)) (fun v13 _ => l.length + 1 - (intOf v13).toNat)
  case atStart => exact ⟨0, rfl, ⟨Int.le_refl _, Int.natCast_nonneg _⟩, ⟨Below.refl _ _⟩⟩
  case round =>
    obtain ⟨x, rfl, hx, HB⟩ := hrel
    rename World => X
    by_cases hlt : x < l.length
    · obtain ⟨ad0, e0', x0⟩ := Kd.at_int (Kd.C_below HR0.out HB.out) x hx.1 hlt
      obtain ⟨ad1, e1', x1⟩ := Kd.at_int (Kd.C_below HR1.out HB.out) x hx.1 hlt
      subst e0' e1'
      have hr := Aside0.mk (rng_up hx hlt HL.out)
      have hm := Aside0.mk (meas_up hx hlt HL.out)
      have p1 := eq_true hlt
      have p2 := eq_true hx.1
      have p3 : (rd l x != rd l x) = false := by simp
      clear hx hlt
      go_wp2_with (fail)
      repeat (go_quiet (fail); try go_wp2_with (fail))
      go_roundw
      case rel => exact ⟨wrap64 (x + 1), rfl, hr.out, ⟨pw_below_drewN HB.out _⟩⟩
      case measure => exact hm.out
    · obtain rfl := rng_end hx hlt
      clear hlt hx
      have p1 := lt_f l.length
      go_wp2_with (fail)
      go_ret
      exact ⟨rfl, HB.out⟩
set_option maxHeartbeats 4000000 in
set_option maxRecDepth 100000 in
theorem eqints_yes (A0 A1 : Option Addr) (c0 c1 : Nat) (l : List Int) (w : World) (h0 : Kd.C (Kd.int .i64) w A0 l.length l) (h1 : Kd.C (Kd.int .i64) w A1 l.length l) :
    Calls Tryd.prog 16 #[.slice A0 l.length c0, .slice A1 l.length c1] w fun e w' => e = .returned (.bool true) ∧ Below w.heap.size w w' := by
  have HR0 := Aside0.mk h0
  have HR1 := Aside0.mk h1
  have HL := Aside0.mk h0.2.1
  clear h0 h1
  have e0 : ((l.length : Int) != (l.length : Int)) = false := by simp
  go_enter Tryd.func16, Tryd.ntmps16
  go_wp2_with (fail)
  clear e0
  go_loopw [5] (fun v13 wr => ∃ x : Int, v13 = .int .i64 x ∧ (0 ≤ x ∧ x ≤ l.length) ∧ Aside0 (Below w.heap.size w wr)) (fun v13 _ => l.length + 1 - (intOf v13).toNat)
  case atStart => exact ⟨0, rfl, ⟨Int.le_refl _, Int.natCast_nonneg _⟩, ⟨Below.refl _ _⟩⟩
  case round =>
    obtain ⟨x, rfl, hx, HB⟩ := hrel
    rename World => X
    by_cases hlt : x < l.length
    · obtain ⟨ad0, e0', x0⟩ := Kd.at_int (Kd.C_below HR0.out HB.out) x hx.1 hlt
      obtain ⟨ad1, e1', x1⟩ := Kd.at_int (Kd.C_below HR1.out HB.out) x hx.1 hlt
      subst e0' e1'
      have hr := Aside0.mk (rng_up hx hlt HL.out)
      have hm := Aside0.mk (meas_up hx hlt HL.out)
      have p1 := eq_true hlt
      have p2 := eq_true hx.1
      have p3 : (rd l x != rd l x) = false := by simp
      clear hx hlt
      go_wp2_with (fail)
      repeat (go_quiet (fail); try go_wp2_with (fail))
      go_roundw
      case rel => exact ⟨wrap64 (x + 1), rfl, hr.out, ⟨pw_below_drewN HB.out _⟩⟩
      case measure => exact hm.out
    · obtain rfl := rng_end hx hlt
      clear hlt hx
      have p1 := lt_f l.length
      go_wp2_with (fail)
      go_ret
      exact ⟨rfl, HB.out⟩
set_option maxHeartbeats 4000000 in
set_option maxRecDepth 100000 in
theorem alike_yes (a b : Int) (A0 A1 : Option Addr) (c0 c1 : Nat) (l : List Int) (w : World) (h0 : Kd.C (Kd.int .i64) w A0 l.length l) (h1 : Kd.C (Kd.int .i64) w A1 l.length l) :
    Calls Tryd.prog 36 #[.agg #[.int .i64 a, .int .i64 b, .slice A0 l.length c0], .agg #[.int .i64 a, .int .i64 b, .slice A1 l.length c1]] w fun e w' => e = .returned (.bool true) ∧ Below w.heap.size w w' := by
  have g0 := allocs_get [.cells #[.int .i64 a, .int .i64 b, .slice A0 l.length c0] 37, .cells #[.int .i64 a, .int .i64 b, .slice A1 l.length c1] 37] w 0 _ _ rfl
  have g1 := allocs_get [.cells #[.int .i64 a, .int .i64 b, .slice A0 l.length c0] 37, .cells #[.int .i64 a, .int .i64 b, .slice A1 l.length c1] 37] w 1 _ _ rfl
  have hb := allocs_new w [.cells #[.int .i64 a, .int .i64 b, .slice A0 l.length c0] 37, .cells #[.int .i64 a, .int .i64 b, .slice A1 l.length c1] 37]
  simp only [allocs, Nat.add_zero] at g0 g1 hb
  have y0 := (blk_cell g0 0).trans rfl
  have y1 := (blk_cell g0 1).trans rfl
  have y2 := (blk_cell g0 2).trans rfl
  have z0 := (blk_cell g1 0).trans rfl
  have z1 := (blk_cell g1 1).trans rfl
  have z2 := (blk_cell g1 2).trans rfl
  have HB := Aside0.mk hb
  have HR0 := Aside0.mk (Kd.C_below h0 hb)
  have HR1 := Aside0.mk (Kd.C_below h1 hb)
  clear g0 g1 hb h0 h1
  go_enter Tryd.func36, Tryd.ntmps36
  go_wp2_with (fail)
  refine (equal_yes A0 A1 c0 c1 l _ HR0.out HR1.out).mono ?_
  rintro e w' ⟨rfl, hb⟩
  have HB2 := Aside0.mk (HB.out.trans (hb.mono HB.out.size))
  clear hb y0 y1 y2 z0 z1 z2
  go_wp2_with (fail)
  go_ret
  exact ⟨rfl, HB2.out⟩
set_option maxHeartbeats 4000000 in
set_option maxRecDepth 100000 in
theorem eqf_yes (A0 A1 : Option Addr) (c0 c1 : Nat) (l : List FC) (w : World) (h0 : Kd.C P.k37 w A0 l.length l) (h1 : Kd.C P.k37 w A1 l.length l) :
    Calls Tryd.prog 35 #[.slice A0 l.length c0, .slice A1 l.length c1, .func (.func 36) #[] #[]] w fun e w' => e = .returned (.bool true) ∧ Below w.heap.size w w' := by
  have HR0 := Aside0.mk h0
  have HR1 := Aside0.mk h1
  have HL := Aside0.mk h0.2.1
  clear h0 h1
  have e0 : ((l.length : Int) != (l.length : Int)) = false := by simp
  go_enter Tryd.func35, Tryd.ntmps35
  go_wp2_with (fail)
  clear e0
  go_loopw [17] (fun v13 wr => ∃ x : Int, v13 = .int .i64 x ∧ (0 ≤ x ∧ x ≤ l.length) ∧ Aside0 (Below w.heap.size w wr)) (fun v13 _ => l.length + 1 - (intOf v13).toNat)
  case atStart => exact ⟨0, rfl, ⟨Int.le_refl _, Int.natCast_nonneg _⟩, ⟨Below.refl _ _⟩⟩
  case round =>
    obtain ⟨x, rfl, hx, HB⟩ := hrel
    rename World => X
    by_cases hlt : x < l.length
    · obtain ⟨ad0, B0, d0, e0', x0, x1, x2, -, HC0⟩ := P.at_T37 (Kd.C_below HR0.out HB.out) x hx.1 hlt
      obtain ⟨ad1, B1, d1, e1', z0, z1, z2, -, HC1⟩ := P.at_T37 (Kd.C_below HR1.out HB.out) x hx.1 hlt
      subst e0' e1'
      have hr := Aside0.mk (rng_up hx hlt HL.out)
      have hm := Aside0.mk (meas_up hx hlt HL.out)
      generalize P.rd_T37 l x = o at x0 x1 x2 z0 z1 z2 HC0 HC1
      have hbx := below_alloc (Below.refl X.heap.size X) (.cells #[.int .i64 o.f0, .int .i64 o.f1, .slice B0 o.f2.length d0] 37)
      have w0 := pw_cell_below hbx z0
      have w1 := pw_cell_below hbx z1
      have w2 := pw_cell_below hbx z2
      have hb2 := allocs_new X [.cells #[.int .i64 o.f0, .int .i64 o.f1, .slice B0 o.f2.length d0] 37, .cells #[.int .i64 o.f0, .int .i64 o.f1, .slice B1 o.f2.length d1] 37]
      have g0 := allocs_get [.cells #[.int .i64 o.f0, .int .i64 o.f1, .slice B0 o.f2.length d0] 37, .cells #[.int .i64 o.f0, .int .i64 o.f1, .slice B1 o.f2.length d1] 37] X 0 _ _ rfl
      have g1 := allocs_get [.cells #[.int .i64 o.f0, .int .i64 o.f1, .slice B0 o.f2.length d0] 37, .cells #[.int .i64 o.f0, .int .i64 o.f1, .slice B1 o.f2.length d1] 37] X 1 _ _ rfl
      simp only [allocs, Nat.add_zero] at g0 g1 hb2
      have u0 := (blk_cell g0 0).trans rfl
      have u1 := (blk_cell g0 1).trans rfl
      have u2 := (blk_cell g0 2).trans rfl
      have v0 := (blk_cell g1 0).trans rfl
      have v1 := (blk_cell g1 1).trans rfl
      have v2 := (blk_cell g1 2).trans rfl
      have HD0 := Aside0.mk (Kd.C_below HC0 hb2)
      have HD1 := Aside0.mk (Kd.C_below HC1 hb2)
      have HB2 := Aside0.mk (HB.out.trans (hb2.mono HB.out.size))
      have p1 := eq_true hlt
      have p2 := eq_true hx.1
      clear hx hlt hbx hb2 g0 g1 HC0 HC1 z0 z1 z2
      go_wp2_with (fail)
      refine (alike_yes o.f0 o.f1 B0 B1 d0 d1 o.f2 _ HD0.out HD1.out).mono ?_
      rintro e w' ⟨rfl, hb⟩
      have HB3 := Aside0.mk (HB2.out.trans (hb.mono HB2.out.size))
      clear hb u0 u1 u2 v0 v1 v2 x0 x1 x2 w0 w1 w2
      go_wp2_with (fail)
      go_roundw
      case rel => exact ⟨wrap64 (x + 1), rfl, hr.out, HB3⟩
      case measure => exact hm.out
    · obtain rfl := rng_end hx hlt
      clear hlt hx
      have p1 := lt_f l.length
      go_wp2_with (fail)
      go_ret
      exact ⟨rfl, HB.out⟩
set_option maxHeartbeats 4000000 in
set_option maxRecDepth 100000 in
theorem same_yes (A0 A1 : Option Addr) (c0 c1 : Nat) (l : List FC) (w : World) (h0 : Kd.C P.k37 w A0 l.length l) (h1 : Kd.C P.k37 w A1 l.length l) :
    Calls Tryd.prog 15 #[.slice A0 l.length c0, .slice A1 l.length c1] w fun e w' => e = .returned (.bool true) ∧ Below w.heap.size w w' := by
  have HR0 := Aside0.mk h0
  have HR1 := Aside0.mk h1
  clear h0 h1
  go_enter Tryd.func15, Tryd.ntmps15
  go_wp2_with (fail)
  refine (eqf_yes A0 A1 c0 c1 l w HR0.out HR1.out).mono ?_
  rintro e w' ⟨rfl, hb⟩
  have HB := Aside0.mk hb
  clear hb
  go_wp2_with (fail)
  go_ret
  exact ⟨rfl, HB.out⟩
set_option maxHeartbeats 4000000 in
set_option maxRecDepth 100000 in
theorem copyints_yes (A : Option Addr) (c : Nat) (l : List Int) (w : World) (hr : Kd.C (Kd.int .i64) w A l.length l) (hl : l.length ≤ 1000000000) :
    Calls Tryd.prog 17 #[.slice A l.length c] w fun e w' => ∃ v, e = .returned v ∧ Kd.R (Kd.int .i64) 3 w' w.heap.size (fun _ => True) v l ∧ Below w.heap.size w w' := by
  have HR0 := Aside0.mk hr
  have LMc2 := Aside0.mk hl
  have HB := Aside0.mk (Below.refl w.heap.size w)
  clear hr hl
  go_enter Tryd.func17, Tryd.ntmps17
  go_wp2_with (first | ((with_reducible refine gate_builtin (b := .append) (xs := #[.tmp 4, .tmp 5]) rfl ?_); at_builtin; refine Kd.R_append_rows (Kd.int .i64) (w0 := w) w.heap.size rfl (.tmp 4) (.tmp 5) 30 3 (.int .i64 0) 8 rfl Tryd.underlying30 infoI rfl (by decide) (by omega) (.slice none 0 0) ([] : List Int) l _ _ _ (fun _ => True) (fun _ => False) rfl rfl ?aO ?aR (fun _ _ h => h) (fun _ h => h.elim) ?aF ?aB ?aS ?aL ?_; (case aR => exact HR0.out); (case aB => exact HB.out); (case aF => exact (fun _ _ => trivial)); (case aO => exact (Kd.R_nil _ _ _ _ (fun _ => True))); (case aS => exact Nat.le_refl _); (case aL => have := LMc2.out; simp; omega); intro v102 w3 ho hb hg hat; have n0_ := Aside0.mk (hb); have n1_ := Aside0.mk (ho); clear HB; have HB := n0_; have HO103 := n1_; clear n0_ n1_; clear ho hb hg hat))
  go_ret
  exact ⟨_, rfl, by simpa using HO103.out, HB.out⟩
theorem bring_rng (y n : Int) (h0 : 0 < n) (h1 : n ≤ 2000000000) : (Int.tmod y n < 0 → 0 ≤ wrap64 (Int.tmod y n + n) ∧ wrap64 (Int.tmod y n + n) < n) ∧ (¬ Int.tmod y n < 0 → 0 ≤ Int.tmod y n ∧ Int.tmod y n < n) := by
  have h2 := Int.tmod_lt_of_pos y h0
  have h3 := Int.lt_tmod_of_pos y h0
  unfold wrap64
  omega
theorem bring_yes (y n : Int) (w : World) (hn : 0 < n) (hn2 : n ≤ 2000000000) :
    Calls Tryd.prog 14 #[.int .i64 y, .int .i64 n] w fun e w' => ∃ t, e = .returned (.int .i64 t) ∧ (0 ≤ t ∧ t < n) ∧ w' = w := by
  have HR := Aside0.mk (bring_rng y n hn hn2)
  have c3 : ¬ n = 0 := by omega
  have c3b0 : (n == 0) = false := beq_eq_false_iff_ne.mpr c3
  have c3b1 : (n != 0) = true := bne_iff_ne.mpr c3
  clear hn hn2
  by_cases c4 : (Int.tmod y n) < 0
  · have HT := Aside0.mk (HR.out.1 c4)
    have c4b0 : decide ((Int.tmod y n) < 0) = true := decide_eq_true c4
    clear c4 HR
    go_enter Tryd.func14, Tryd.ntmps14
    go_wp2
    go_ret
    exact ⟨_, rfl, HT.out, rfl⟩
  · have HT := Aside0.mk (HR.out.2 c4)
    have c4b0 : decide ((Int.tmod y n) < 0) = false := decide_eq_false c4
    clear c4 HR
    go_enter Tryd.func14, Tryd.ntmps14
    go_wp2
    go_ret
    exact ⟨_, rfl, HT.out, rfl⟩
end Go.Proofs.YthkoockcfnbpiaaDoor.W17
