/- fine, Copy, pairsOf. -/
import Derived.Test.YthkoockcfnbpiaaDoorProg
import Derived.Test.YthkoockcfnbpiaaDoorWWords
import Derived.Test.YthkoockcfnbpiaaDoorWLast
import Derived.Test.YthkoockcfnbpiaaDoorW20
namespace Go.Proofs.YthkoockcfnbpiaaDoor.W21
open Go.RowKit Go.Proofs.YthkoockcfnbpiaaDoorW.PrintWords Go.Proofs.YthkoockcfnbpiaaDoorW.PrintLast Go.Proofs.YthkoockcfnbpiaaDoorW.PrintMore Go.Proofs.YthkoockcfnbpiaaDoor S1 L1 G1 G2 S3 S8 S10 F1 W1 W11 W12 W16 W17 W19 W20
set_option linter.unusedVariables false
set_option linter.unusedSimpArgs false
set_option maxHeartbeats 4000000 in
set_option maxRecDepth 100000 in
theorem fine_yes (A : Option Addr) (c : Nat) (l : List GN) (w : World) (hK : Keys w) (hr : Kd.C P.k45 w A l.length l) (hc : l.length ≤ c) :
    Calls Tryd.prog 8 #[.slice A l.length c] w fun e w' => (∃ B d q, e = .returned (.slice B q.length d) ∧ Kd.C P.k45 w' B q.length q ∧ q.length ≤ d ∧ q.length ≤ 16 ∧ (q ≠ [] → checkP q = 0)) ∧ Below w.heap.size w w' := by
  have HK := Aside0.mk hK
  have HR := Aside0.mk hr
  have HC := Aside0.mk hc
  clear hK hr hc
  go_enter Tryd.func8, Tryd.ntmps8
  go_wp2_with (fail)
  refine (cut_yes A c l w HR.out HC.out).mono ?_
  rintro e W1 ⟨⟨B, d, q, rfl, hq, hd, h16⟩, hb⟩
  have HQ := Aside0.mk (And.intro hq (And.intro hd h16))
  have HB := Aside0.mk hb
  clear hq hd h16 hb
  go_wp2_with (fail)
  refine (check_yes B d q W1 (HK.out.below HB.out) HQ.out.1 HQ.out.2.1).mono ?_
  rintro e W2 ⟨rfl, hb⟩
  have HB2 := Aside0.mk (HB.out.trans (hb.mono HB.out.size))
  have HQ2 := Aside0.mk (Kd.C_below HQ.out.1 hb)
  clear hb
  by_cases hz : checkP q = 0
  · have hb0 : (checkP q != 0) = false := by simp [hz]
    have HZ := Aside0.mk hz
    clear hz
    go_wp2_with (fail)
    go_ret
    exact ⟨⟨B, d, q, rfl, HQ2.out, HQ.out.2.1, HQ.out.2.2, fun _ => HZ.out⟩, HB2.out⟩
  · have hb0 : (checkP q != 0) = true := by simpa using hz
    clear hz
    go_wp2_with (fail)
    go_ret
    exact ⟨⟨none, 0, [], rfl, C_none _ _, Nat.le_refl _, by decide, fun h => absurd rfl h⟩, HB2.out⟩
theorem take_up {α : Type} (l : List α) (d : α) {x : Int} (h0 : 0 ≤ x) (h1 : x < l.length) (h2 : wrap64 (x + 1) = x + 1) : l.take (wrap64 (x + 1)).toNat = l.take x.toNat ++ [l.getD x.toNat d] := by
  rw [h2, show (x + 1).toNat = x.toNat + 1 by omega, List.take_add_one, List.getD_eq_getElem?_getD, List.getElem?_eq_getElem (show x.toNat < l.length by omega)]
  rfl
theorem rng_up2 {x : Int} {n : Nat} (h : 0 ≤ x ∧ x ≤ n) (hlt : x < n) (hn : n ≤ 9223372036854775807) : wrap64 (x + 1) = x + 1 := by unfold wrap64; omega
set_option maxHeartbeats 8000000 in
set_option maxRecDepth 100000 in
theorem copy_yes (A : Option Addr) (c : Nat) (l : List FC) (w : World) (hr : Kd.C P.k37 w A l.length l) (hc : l.length ≤ c) (hl : l.length ≤ 1000000000) (hs : ∀ f ∈ l, f.f2.length ≤ 1000000000) :
    Calls Tryd.prog 20 #[.slice A l.length c] w fun e w' => ∃ v, e = .returned v ∧ Kd.R P.k37 37 w' w.heap.size (fun _ => True) v l ∧ Below w.heap.size w w' := by
  have HC := Aside0.mk hr
  have Hc := Aside0.mk hc
  have HL := Aside0.mk hl
  have HS := Aside0.mk hs
  have HN := Aside0.mk hr.2.1
  clear hr hc hl hs
  go_enter Tryd.func20, Tryd.ntmps20
  go_wp2_with (fail)
  go_loopw [7, 2] (fun v7 v2 wr => ∃ x : Int, v7 = .int .i64 x ∧ (0 ≤ x ∧ x ≤ l.length) ∧ Aside0 (Kd.R P.k37 37 wr w.heap.size (fun _ => True) v2 (l.take x.toNat)) ∧ Aside0 (Below w.heap.size w wr)) (fun v7 _ _ => l.length + 1 - (intOf v7).toNat)
  case atStart => exact ⟨0, rfl, ⟨Int.le_refl _, Int.natCast_nonneg _⟩, ⟨Kd.R_nil _ _ _ _ _⟩, ⟨Below.refl _ _⟩⟩
  case round =>
    obtain ⟨x, rfl, hx, HR, HB⟩ := hrel
    rename World => X
    by_cases hlt : x < l.length
    · have hr := Aside0.mk (rng_up hx hlt HN.out)
      have hm := Aside0.mk (meas_up hx hlt HN.out)
      have HTk := Aside0.mk (take_up l P.z37 hx.1 hlt (rng_up2 hx hlt HN.out))
      obtain ⟨ad, Aw, cw, eA, y0, y1, y2, hcw, hws⟩ := P.at_T37 (Kd.C_below HC.out HB.out) x hx.1 hlt
      subst eA
      have HOl := Aside0.mk (show (P.rd_T37 l x).f2.length ≤ 1000000000 from HS.out _ (by
        unfold P.rd_T37
        rw [List.getD_eq_getElem?_getD, List.getElem?_eq_getElem (show x.toNat < l.length by omega)]
        exact List.getElem_mem _))
      rw [show l.getD x.toNat P.z37 = P.rd_T37 l x from rfl] at HTk
      generalize P.rd_T37 l x = o at y0 y1 y2 hcw hws HOl HTk
      have hq := heap_alloc_new X (.cells #[.int .i64 o.f0, .int .i64 o.f1, .slice Aw o.f2.length cw] 37)
      have hbx := below_alloc (Below.refl X.heap.size X) (.cells #[.int .i64 o.f0, .int .i64 o.f1, .slice Aw o.f2.length cw] 37)
      obtain ⟨b0, hb0⟩ : ∃ b0, b0 = X.heap.size := ⟨_, rfl⟩
      have HBb := Aside0.mk (show w.heap.size ≤ b0 by rw [hb0]; exact HB.out.size)
      have HLt := Aside0.mk (show ∀ k, u2.ownBlock = some k → k < b0 by rw [hb0]; exact R_lt HR.out)
      have HR1 := Aside0.mk (Kd.R_below HR.out hbx)
      have HB1 := Aside0.mk (HB.out.trans (hbx.mono HB.out.size))
      have HW1 := Aside0.mk (Kd.C_below hws hbx)
      have HBx := Aside0.mk hbx
      have HAL := Aside0.mk (show ((l.take x.toNat).length + 1) * 40 ≤ 140737488355328 by rw [List.length_take]; have := HL.out; omega)
      have z0 := (blk_cell hq 0).trans rfl
      have z1 := (blk_cell hq 1).trans rfl
      have z2 := (blk_cell hq 2).trans rfl
      have HQ := Aside0.mk hq
      have HCw := Aside0.mk hcw
      have p1 := eq_true hlt
      have p2 := eq_true hx.1
      clear hlt hx hcw hws hq hbx
      go_wp2_with (fail)
      generalize X.alloc (.cells #[.int .i64 o.f0, .int .i64 o.f1, .slice Aw o.f2.length cw] 37) = W1 at z0 z1 z2 HR1 HB1 HW1 HQ HBx ⊢
      refine (clone_yes Aw cw o.f2 W1 HW1.out HCw.out HOl.out).mono ?_
      rintro e W2 ⟨v, rfl, ho, hb⟩
      obtain ⟨A7, c7, e7⟩ := Kd.R_slice ho
      subst e7
      have hq2 := blk_below HQ.out hb
      have x2 : W2.cell? ⟨X.heap.size, 2, none⟩ = some (.slice Aw o.f2.length cw) := (blk_cell hq2 2).trans rfl
      have f2 : W2.frozen? ⟨X.heap.size, 2, none⟩ = false := blk_frozen hq2 2
      have hq3 := blk_put hq2 2 (.slice A7 o.f2.length c7) rfl
      have n0 := (blk_cell hq3 0).trans rfl
      have n1 := (blk_cell hq3 1).trans rfl
      have n2 := (blk_cell hq3 2).trans rfl
      have hbs := below_set (w := X) (g := X.heap.size) (j := 2) (v := .slice A7 o.f2.length c7) (HBx.out.trans (hb.mono HBx.out.size)) (Nat.le_refl _)
      have HR3 := Aside0.mk (Kd.R_below HR.out hbs)
      have HB3 := Aside0.mk (HB.out.trans (hbs.mono HB.out.size))
      have HO3 := Aside0.mk (Kd.R_set (Kd.R_lower ho (show b0 ≤ W1.heap.size by rw [hb0]; exact HBx.out.size)) hq2 (by decide) 2 (.slice A7 o.f2.length c7))
      have HLt2 := HLt.out
      clear ho hb hq2 hq3 hbs z0 z1 z2
      go_wp2_with (first | ((with_reducible refine gate_builtin (b := .append) (xs := #[.tmp 15, .tmp 17]) rfl ?_); at_builtin; refine Kd.R_append P.k37 (w0 := w) w.heap.size rfl (.tmp 15) (.tmp 17) 29 37 (.agg #[.int .i64 0, .int .i64 0, .slice none 0 0]) 40 rfl Tryd.underlying29 infoF rfl (by decide) (by omega) u2 (l.take x.toNat) o [.int .i64 o.f0, .int .i64 o.f1, .slice A7 o.f2.length c7] (fun _ => True) (fun k => b0 ≤ k) rfl (congrArg (fun n => Value.slice (some ⟨n, 0, none⟩) 1 1) (store_same W2 ⟨X.heap.size, 2, none⟩ (.slice A7 o.f2.length c7)).2.2.2.symm) (P.k37_mkM _ _ _ _ (R_fresh HO3.out HBb.out)) (fun k hk => ⟨trivial, fun e => by have := HLt2 k e.symm; omega⟩) (fun _ _ => trivial) HR3.out HB3.out HB3.out.size HAL.out ?_; intro v9 W9 ho hb hg9 hat9; have HO9 := Aside0.mk ho; have HB9 := Aside0.mk hb; clear ho hb hg9 hat9))
      go_roundw
      case rel => exact ⟨wrap64 (x + 1), rfl, hr.out, ⟨by rw [HTk.out]; exact HO9.out⟩, HB9⟩
      case measure => exact hm.out
    · obtain rfl := rng_end hx hlt
      have p1 := lt_f l.length
      rw [Int.toNat_natCast, List.take_length] at HR
      clear hlt hx
      go_wp2_with (fail)
      go_ret
      exact ⟨_, rfl, HR.out, HB.out⟩
end Go.Proofs.YthkoockcfnbpiaaDoor.W21
