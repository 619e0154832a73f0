/- All: the table of what may stand for what. -/
import Derived.Test.YtgppcpghpeenhaaDoorProg
import Derived.Test.YtgppcpghpeenhaaDoorWWords
import Derived.Test.YtgppcpghpeenhaaDoorWLast
import Derived.Test.YtgppcpghpeenhaaDoorR2
namespace Go.Proofs.YtgppcpghpeenhaaDoor.R5
open Go.RowKit Go.Proofs.YtgppcpghpeenhaaDoorW.PrintWords Go.Proofs.YtgppcpghpeenhaaDoorW.PrintLast Go.Proofs.YtgppcpghpeenhaaDoorW.PrintMore Go.Proofs.YtgppcpghpeenhaaDoor L1 L3 L4 G1 G2 S0 S1 S2 S3 S4 S5 S6 S7 S8 S9 S10 R1 R2
set_option linter.unusedVariables false
set_option linter.unusedSimpArgs false
/-- May a stand for b, as a Boolean. -/
noncomputable def subB (st : Bool) (g : List GN) (a b : Nat) : Bool := @decide (Sub st g a b) (Classical.propDecidable _)
theorem subB_iff (st : Bool) (g : List GN) (a b : Nat) : subB st g a b = true ↔ Sub st g a b := by
  unfold subB
  exact @decide_eq_true_iff _ (Classical.propDecidable _)
/-- The first n rows of the table. -/
noncomputable def tabN (st : Bool) (g : List GN) (n : Nat) : List (List Bool) := (List.range n).map fun a => (List.range g.length).map (subB st g a)
theorem tabN_succ (st : Bool) (g : List GN) (n : Nat) : tabN st g (n + 1) = tabN st g n ++ [(List.range g.length).map (subB st g n)] := by
  simp [tabN, List.range_succ]
theorem tabN_len (st : Bool) (g : List GN) (n : Nat) : (tabN st g n).length = n := by simp [tabN]
theorem info4 : (Tryd.prog.info? 4).map (fun i => (i.zero, i.size, i.bytes)) = some (some (.bool false), 1, 1) := by kernel_rfl
theorem info45 : (Tryd.prog.info? 29).map (fun i => (i.zero, i.size, i.bytes)) = some (some (.slice none 0 0), 1, 24) := by kernel_rfl
theorem prodr_succ (i : Nat) (r : List Nat) : prod (List.range (i + 1)) r = prod (List.range i) r ++ r.map fun b => (i, b) := by
  simp [prod, List.range_succ, List.flatMap_append]
theorem mapr_succ (x j : Nat) : (List.range (j + 1)).map (fun b => (x, b)) = (List.range j).map (fun b => (x, b)) ++ [(x, j)] := by
  simp [List.range_succ]
theorem set_map (f : Nat → Bool) (n j : Nat) (hj : j < n) : ((List.range j).map f ++ List.replicate (n - j) false).set j (f j) = (List.range (j + 1)).map f ++ List.replicate (n - (j + 1)) false := by
  rw [List.set_append]
  rw [if_neg (by simp)]
  simp only [List.length_map, List.length_range, Nat.sub_self]
  obtain ⟨m, hm⟩ : ∃ m, n - j = m + 1 := ⟨n - j - 1, by omega⟩
  rw [hm, List.replicate_succ, List.set_cons_zero, List.range_succ, List.map_append, show n - (j + 1) = m by omega]
  simp
def AllP (st : Bool) (g : List GN) (e : Ending) (w' : World) : Prop :=
  (checkP g = 0 ∧ ∃ A c, e = .returned (.tuple #[.slice A g.length c, .int .i64 0]) ∧ Kd.C (Kd.slice 4 Kd.bool) w' A g.length (tabN st g g.length) ∧ g.length ≤ c) ∨ (checkP g ≠ 0 ∧ e = .returned (.tuple #[.slice none 0 0, .int .i64 (checkP g)]))
set_option maxHeartbeats 8000000 in
set_option maxRecDepth 100000 in
theorem all_yes (A0 : Option Addr) (c0 : Nat) (g : List GN) (st : Bool) (w : World) (hK : Keys w) (hg : Kd.C P.k33 w A0 g.length g) (hgc : g.length ≤ c0) :
    Calls Tryd.prog 5 #[.slice A0 g.length c0, .bool st] w fun e w' => AllP st g e w' ∧ Below w.heap.size w w' := by
  have HK := Aside0.mk hK
  have HG := Aside0.mk hg
  have HGc := Aside0.mk hgc
  clear hK hg hgc
  go_enter Tryd.func5, Tryd.ntmps5
  go_wp2_with (fail)
  refine (check_yes A0 c0 g w HK.out HG.out HGc.out).mono ?_
  rintro e W1 ⟨rfl, hb⟩
  have HB1 := Aside0.mk hb
  clear hb
  by_cases hc : checkP g = 0
  · have HC := Aside0.mk hc
    have hcb : (checkP g != 0) = false := by simp [hc]
    have HN2 := Aside0.mk (check_ok hc).1
    clear hc
    go_wp2_with (fail)
    refine (of_yes A0 c0 g st none 0 [] W1 (HK.out.below HB1.out) (Kd.C_below HG.out HB1.out) HGc.out (Kd.C_nil _ _) (Nat.le_refl _)).mono ?_
    rintro e V ⟨hb3, ⟨hof, sb, m, rfl, hS⟩ | ⟨hof, rfl⟩⟩
    · have HB3 := Aside0.mk (HB1.out.trans (hb3.mono HB1.out.size))
      have HS3 := Aside0.mk hS
      have hl9 : g.length ≤ 9223372036854775807 := by have := HN2.out; omega
      clear hof hb3 hS
      go_wp2_with (fail)
      go_loopw [9, 28] (fun v9 v28 wr => ∃ i : Nat, i ≤ g.length ∧ v28 = .int .i64 i ∧ Aside0 (Kd.R kP 49 wr V.heap.size (fun _ => True) v9 (ints (prod (List.range i) (List.range g.length)))) ∧ Aside0 (Below V.heap.size V wr)) (fun v9 v28 _ => g.length + 1 - (intOf v28).toNat)
      case atStart => exact ⟨0, by omega, rfl, ⟨Kd.R_nil _ _ _ _ _⟩, ⟨Below.refl _ _⟩⟩
      case round =>
        obtain ⟨i, hi, rfl, HRo, HBo⟩ := hrel
        by_cases hlt : i < g.length
        · go_wp2_with (fail)
          go_loopw [9, 33] (fun v9 v33 wx => ∃ j : Nat, j ≤ g.length ∧ v33 = .int .i64 j ∧ Aside0 (Kd.R kP 49 wx V.heap.size (fun _ => True) v9 (ints (prod (List.range i) (List.range g.length) ++ (List.range j).map fun b => (i, b)))) ∧ Aside0 (Below V.heap.size V wx)) (fun v9 v33 _ => g.length + 1 - (intOf v33).toNat)
          case atStart => exact ⟨0, by omega, rfl, ⟨by simpa using HRo.out⟩, HBo⟩
          case round =>
            clear HRo HBo
            obtain ⟨j, hj, rfl, HRo, HBo⟩ := hrel
            by_cases hlj : j < g.length
            · rename World => X
              have HAL : Aside0 (((ints (prod (List.range i) (List.range g.length) ++ (List.range j).map fun b => (i, b))).length + 1) * 16 ≤ 140737488355328) := ⟨by
                rw [ints_len, List.length_append, prod_len, List.length_map, List.length_range, List.length_range, List.length_range]
                have h1 := HN2.out
                have h2 : i * g.length ≤ 2000 * 2000 := Nat.mul_le_mul (by omega) h1
                omega⟩
              have hw : wrap64 ((j : Int) + 1) = ((j + 1 : Nat) : Int) := by unfold wrap64; omega
              go_wp2_with (first | ((with_reducible refine gate_builtin (b := .append) (xs := #[.tmp 36, .tmp 40]) rfl ?_); at_builtin; refine Kd.R_append kP (w0 := V) V.heap.size rfl (.tmp 36) (.tmp 40) 47 49 (.agg #[.int .i64 0, .int .i64 0]) 16 rfl Tryd.underlying47 infoP rfl (by decide) (by omega) u9 _ ((i : Int), (j : Int)) [.int .i64 i, .int .i64 j] (fun _ => True) (fun _ => False) rfl rfl (kP_mkM _ _ _ _) (fun _ hk => hk.elim) (fun _ _ => trivial) HRo.out HBo.out HBo.out.size HAL.out ?_; intro v9 W9 ho hb hg9 hat9))
              have HO := Aside0.mk (show Kd.R kP 49 W9 V.heap.size (fun _ => True) v9 (ints (prod (List.range i) (List.range g.length) ++ (List.range (j + 1)).map fun b => (i, b))) by
                rw [mapr_succ]
                unfold ints at ho ⊢
                rw [← List.append_assoc, List.map_append]
                exact ho)
              have HB9 := Aside0.mk hb
              clear ho hb hg9 hat9
              go_wp2_with (fail)
              go_roundw
              case rel => exact ⟨j + 1, by omega, by first | (rw [hw]; done) | (rw [Int.natCast_add]; rfl), HO, HB9⟩
              case measure => first | (rw [hw]; simp only [intOf]; omega) | (simp only [intOf]; omega)
            · obtain rfl : j = g.length := by omega
              have hw : wrap64 ((i : Int) + 1) = ((i + 1 : Nat) : Int) := by unfold wrap64; omega
              go_wp2_with (fail)
              go_roundw
              case rel => exact ⟨i + 1, by omega, by first | (rw [hw]; done) | (rw [Int.natCast_add]; rfl), ⟨by rw [prodr_succ]; exact HRo.out⟩, HBo⟩
              case measure => first | (rw [hw]; simp only [intOf]; omega) | (simp only [intOf]; omega)
        · obtain rfl : i = g.length := by omega
          rename World => X
          obtain ⟨A9, c9, rfl, hc9, hr9⟩ := Kd.R_reads HRo.out
          have HSX := Aside0.mk (Sv.below HS3.out HBo.out)
          have HRb := Aside0.mk (Kd.R_bound HRo.out)
          have HC9 := Aside0.mk hc9
          have HVm := Aside0.mk HS3.out.mp.lt
          clear hr9 hc9
          go_wp2_with (fail)
          rw [ints_len]
          refine (solve_yes W1 X sb m A0 c0 g st F2.none_ HSX.out (Inv.none_ st g) A9 c9 (prod (List.range g.length) (List.range g.length)) (fun p hp => ⟨List.mem_range.1 (mem_prod.1 hp).1, List.mem_range.1 (mem_prod.1 hp).2⟩) (fun W' hg => by
            have h1 := (Kd.R_reads' (Kd.R_grown HRb.out hg (fun k hk e => by have h1 := hk.2.1; have h2 := HVm.out; cases e; omega))).2.2
            rw [ints_len] at h1
            exact h1) (by have := HC9.out; rw [ints_len] at this; exact this)).mono ?_
          rintro e W5 ⟨rfl, f, hm5, hg5, hen, hkn⟩
          have HKn := Aside0.mk (show ∀ a < g.length, ∀ b < g.length, decide (0 < vl (f a b)) = subB st g a b from fun a ha b hb => by
            have hk := hkn (a, b) (mem_prod.2 ⟨List.mem_range.2 ha, List.mem_range.2 hb⟩)
            have h1 := hen.sub hk
            rw [← subB_iff] at h1
            cases hfx : f a b with
            | none => exact absurd hfx hk
            | some v =>
              rw [hfx] at h1
              cases v with
              | true => rw [h1.1 rfl]; rfl
              | false => cases hs : subB st g a b with
                | false => rfl
                | true => exact absurd (h1.2 hs) (by simp))
          have HS5 := Aside0.mk (HSX.out.grown hg5 hm5)
          have HB5 := Aside0.mk (HB1.out.trans (HS5.out.old.mono HB1.out.size))
          clear hm5 hg5 hen hkn
          go_wp2_with (fail)
          go_loopw [4, 49] (fun v4 v49 wr => ∃ i : Nat, i ≤ g.length ∧ v49 = .int .i64 i ∧ Aside0 (Kd.R (Kd.slice 4 Kd.bool) 29 wr W5.heap.size (fun _ => True) v4 (tabN st g i)) ∧ Aside0 (Below W5.heap.size W5 wr)) (fun v4 v49 _ => g.length + 1 - (intOf v49).toNat)
          case atStart => exact ⟨0, by omega, rfl, ⟨Kd.R_nil _ _ _ _ _⟩, ⟨Below.refl _ _⟩⟩
          case round =>
            rename World => Y
            obtain ⟨i, hi, rfl, HOi, HBi⟩ := hrel
            have HBY := Aside0.mk (HB5.out.trans (HBi.out.mono HB5.out.size))
            by_cases hlt : i < g.length
            · have HRp := Aside0.mk (show List.replicate ((g.length : Int)).toNat false = (List.range 0).map (subB st g i) ++ List.replicate (g.length - 0) false by simp)
              go_wp2_with (first | (at_make; refine Kd.R_make Kd.bool (w0 := Y) Y.heap.size 4 rfl rfl 29 (.tmp 53) (.tmp 53) rfl (g.length : Int) rfl rfl Tryd.underlying29 (.bool false) 1 info4 rfl (by decide) (by decide) false (ok := fun k => Y.heap.size ≤ k) (okp := fun _ => False) rfl (fun _ h => h.elim) (Nat.le_refl _) (by omega) (by have := HN2.out; omega) (Below.refl _ _) (Nat.le_refl _) ?_; intro v7 W7 ho hb hg7 hat; rw [HRp.out] at ho; have HO7 := Aside0.mk ho; have HB7 := Aside0.mk hb; clear ho hb hg7 hat))
              obtain ⟨A7, c7, rfl⟩ := Kd.R_slice HO7.out
              have hlen7 : ((List.range 0).map (subB st g i) ++ List.replicate (g.length - 0) false).length = g.length := by simp
              rw [hlen7] at HO7 ⊢
              go_wp2_with (fail)
              go_loopw [57] (fun v57 wx => ∃ j : Nat, j ≤ g.length ∧ v57 = .int .i64 j ∧ Aside0 (Kd.R Kd.bool 4 wx Y.heap.size (fun k => Y.heap.size ≤ k) (.slice A7 g.length c7) ((List.range j).map (subB st g i) ++ List.replicate (g.length - j) false)) ∧ Aside0 (Below Y.heap.size Y wx)) (fun v57 _ => g.length + 1 - (intOf v57).toNat)
              case atStart => exact ⟨0, by omega, rfl, HO7, HB7⟩
              case round =>
                clear HO7 HB7
                rename World => Z
                obtain ⟨j, hj, rfl, HO7, HB7⟩ := hrel
                have HBZ := Aside0.mk (HBi.out.trans (HB7.out.mono HBi.out.size))
                have HSZ := Aside0.mk (Sv.below HS5.out HBZ.out)
                by_cases hlj : j < g.length
                · obtain ⟨g7, cap7, e7, hg7, hgl7, hcl7⟩ := Kd.R_form HO7.out (by simp; omega)
                  rw [show ((List.range j).map (subB st g i) ++ List.replicate (g.length - j) false).length = g.length by simp; omega] at e7
                  cases e7
                  have z2 := HSZ.out.z2
                  have HLk := HSZ.out.mp.look (a := i) (b := j) hlt hlj
                  have HKn2 := Aside0.mk (HKn.out i hlt j hlj)
                  have HSet := Aside0.mk (set_map (subB st g i) g.length j hlj)
                  obtain ⟨hx, hf⟩ := Kd.R_celln false HO7.out (j : Int) (by omega) (by omega)
                  have HP := Aside0.mk (Kd.R_putn HO7.out (j : Int) (decide (0 < vl (f i j))))
                  have HB8 := Aside0.mk (HB7.out.setCell (p := ⟨g7, j, none⟩) hg7 (.bool (decide (0 < vl (f i j)))))
                  have hw : wrap64 ((j : Int) + 1) = ((j + 1 : Nat) : Int) := by unfold wrap64; omega
                  rw [Int.toNat_natCast] at hx hf HP
                  rw [HKn2.out, HSet.out] at HP
                  rw [HKn2.out] at HB8
                  generalize f i j = fij at HLk HKn2
                  clear hcl7
                  go_wp2_with (fail)
                  go_roundw
                  case rel => rw [HKn2.out]; exact ⟨j + 1, by omega, by first | (rw [hw]; done) | (rw [Int.natCast_add]; rfl), HP, HB8⟩
                  case measure => first | (rw [hw]; simp only [intOf]; omega) | (simp only [intOf]; omega)
                · obtain rfl : j = g.length := by omega
                  have hw : wrap64 ((i : Int) + 1) = ((i + 1 : Nat) : Int) := by unfold wrap64; omega
                  have HRow := Aside0.mk (show Kd.R Kd.bool 4 Z Y.heap.size (fun k => Y.heap.size ≤ k) (.slice A7 g.length c7) ((List.range g.length).map (subB st g i)) by
                    have := HO7.out
                    rw [Nat.sub_self, List.replicate_zero, List.append_nil] at this
                    exact this)
                  have HOz := Aside0.mk (Kd.R_below HOi.out HB7.out)
                  have HLt := Aside0.mk (Kd.R_lt HOi.out)
                  go_wp2_with (first | ((with_reducible refine gate_builtin (b := .append) (xs := #[.tmp 73, .tmp 75]) rfl ?_); at_builtin; refine Kd.R_append (Kd.slice 4 Kd.bool) (w0 := W5) W5.heap.size rfl (.tmp 73) (.tmp 75) 25 29 (.slice none 0 0) 24 rfl Tryd.underlying25 info45 rfl (by decide) (by omega) u4 _ ((List.range g.length).map (subB st g i)) [.slice A7 g.length c7] (fun _ => True) (fun k => Y.heap.size ≤ k) rfl rfl (Kd.M_row (Kd.R_lower HRow.out HBi.out.size)) (fun k hk => ⟨trivial, fun e => by have := HLt.out k e.symm; omega⟩) (fun _ _ => trivial) HOz.out HBZ.out HBZ.out.size (by rw [tabN_len]; have := HN2.out; omega) ?_; intro v9 W9 ho hb hg9 hat9))
                  have HO := Aside0.mk (show Kd.R (Kd.slice 4 Kd.bool) 29 W9 W5.heap.size (fun _ => True) v9 (tabN st g (i + 1)) by rw [tabN_succ]; exact ho)
                  have HB9 := Aside0.mk hb
                  clear ho hb hg9 hat9
                  go_wp2_with (fail)
                  go_roundw
                  case rel => exact ⟨i + 1, by omega, by first | (rw [hw]; done) | (rw [Int.natCast_add]; rfl), HO, HB9⟩
                  case measure => first | (rw [hw]; simp only [intOf]; omega) | (simp only [intOf]; omega)
            · obtain rfl : i = g.length := by omega
              obtain ⟨A9, c9, rfl, hc9, hr9⟩ := Kd.R_reads HOi.out
              rw [tabN_len] at hc9 hr9 ⊢
              have HR9 := Aside0.mk hr9
              have HC9 := Aside0.mk hc9
              clear hr9 hc9
              go_wp2_with (fail)
              go_ret2
              exact ⟨.inl ⟨HC.out, _, _, rfl, HR9.out, HC9.out⟩, HBY.out⟩
    · exact absurd hof (by unfold ofP; rw [decide_eq_true HC.out]; simp)
  · have hcb : (checkP g != 0) = true := by simp [hc]
    have HF := Aside0.mk hc
    clear hc
    go_wp2_with (fail)
    go_ret2
    exact ⟨.inr ⟨HF.out, rfl⟩, HB1.out⟩
end Go.Proofs.YtgppcpghpeenhaaDoor.R5
