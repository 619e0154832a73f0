-- Written by a program of this session (hyb.py) that runs the kit's printer with some functions given.
import Derived.Test.YtgllcpimkjlklaaDoorPx0
namespace Go.Proofs.YtgllcpimkjlklaaDoor.P
open Go.RowKit  Go.Proofs.YtgllcpimkjlklaaDoorW.PrintWords Go.Proofs.YtgllcpimkjlklaaDoorW.PrintLast Go.Proofs.YtgllcpimkjlklaaDoorW.PrintMore
attribute [local go_sem] max2_int min2_int max_two min_two max_three min_three max_four min_four   -- for this text's walks alone
set_option linter.unusedVariables false
set_option linter.unusedSimpArgs false

/-! ### armillaryref00_CopyTexts: function 46 -/
def armillaryref00_CopyTexts.f (l0 : List ByteArray) : Option (List ByteArray) := if ([] : List ByteArray).length + l0.length < 8796093022208 then (some (([] : List ByteArray) ++ l0)) else (none)
set_option maxHeartbeats 8000000 in
set_option maxRecDepth 100000 in
theorem armillaryref00_CopyTexts.calls (A0 : Option Addr) (c0 : Nat) (l0 : List ByteArray) (r : List ByteArray) (w : World) (hr0 : Kd.C Kd.string w A0 l0.length l0) (hc0 : l0.length ≤ c0) (h : armillaryref00_CopyTexts.f l0 = some r) :
    Calls Tryd.prog 46 #[.slice A0 l0.length c0] w fun e w' => ∃ v0_ : Value, e = .returned (v0_) ∧ Kd.R Kd.string 9 w' w.heap.size (fun _ => True) v0_ r ∧ Below w.heap.size w w' := by
  have HR0 := Aside0.mk hr0
  have HC0 := Aside0.mk hc0
  clear hr0 hc0
  have HB := Aside0.mk (Below.refl w.heap.size w)
  have H : (if ([] : List ByteArray).length + l0.length < 8796093022208 then (some (([] : List ByteArray) ++ l0)) else (none)) = some r := h
  clear h
  by_cases c2 : ([] : List ByteArray).length + l0.length < 8796093022208
  · rw [if_pos c2] at H
    have LMc2 := Aside0.mk c2
    clear c2
    obtain ⟨y101, hy101⟩ : ∃ y_ : List ByteArray, y_ = (([] : List ByteArray) ++ l0) := ⟨_, rfl⟩
    replace H : (some y101) = some r := by first | (rw [hy101]; with_reducible exact H) | (have H2_ := (Option.bind_some _ _).symm.trans H; rw [hy101]; with_reducible exact H2_) | (have H2_ := (Option.bind_some _ _).symm.trans H; with_reducible exact H2_) | with_reducible exact H | (rw [hy101]; exact H) | exact H
    have Ny101 := Aside0.mk hy101
    clear hy101
    obtain rfl := Option.some.inj H
    go_enter Tryd.func46, Tryd.ntmps46
    go_wp2_with (first | ((with_reducible refine gate_builtin (b := .append) (xs := #[.tmp 4, .tmp 5]) rfl ?_); at_builtin; refine Kd.R_append_rows Kd.string (w0 := w) w.heap.size rfl (.tmp 4) (.tmp 5) 35 9 (.string ⟨#[]⟩) 16 rfl Tryd.underlying35 info9 rfl (by decide) (by omega) (.slice none 0 0) ([] : List ByteArray) l0 _ _ _ (fun _ => True) (fun _ => False) rfl rfl ?aO ?aR (fun _ _ h => h) (fun _ h => h.elim) ?aF ?aB ?aS ?aL ?_; (case aR => repeat (first | exact HR0.out | (with_reducible refine Kd.C_alloc ?_ _) | (with_reducible refine Kd.C_drewN ?_ _) | (with_reducible refine Kd.C_drew ?_))); (case aB => exact (by repeat (first | (with_reducible first | exact HB.out | apply below_alloc | apply pw_below_drewN | apply below_drew1) | exact HB.out))); (case aF => exact (fun _ _ => trivial)); (case aO => exact ((Kd.R_nil _ _ _ _ (fun _ => True)))); (case aS => exact (below_size (by repeat (first | (with_reducible first | exact HB.out | apply below_alloc | apply pw_below_drewN | apply below_drew1) | exact HB.out)))); (case aL => have := LMc2.out; omega); intro v102 w3 ho hb hg hat; rw [← Ny101.out] at ho; have n0_ := Aside0.mk (hb); have n1_ := Aside0.mk (ho); clear HB; have HB := n0_; have HO103 := n1_; clear n0_ n1_; clear ho hb hg hat))
    go_ret
    exact ⟨_, by first | rfl | (simp [errW_none, errW_some] <;> rfl) | (simp [*, errW_none, errW_some] <;> rfl), by (with_reducible repeat (first | apply Kd.R_alloc | apply Kd.R_drewN | apply Kd.R_drew)); exact HO103.out, by repeat (first | (with_reducible first | exact HB.out | apply below_alloc | apply pw_below_drewN | apply below_drew1) | exact HB.out)⟩
  · rw [if_neg c2] at H
    exact absurd H (by simp)

/-! ### armillaryref00_CopyInts: function 47 -/
def armillaryref00_CopyInts.f (l0 : List Int) : Option (List Int) := if ([] : List Int).length + l0.length < 17592186044416 then (some (([] : List Int) ++ l0)) else (none)
set_option maxHeartbeats 8000000 in
set_option maxRecDepth 100000 in
theorem armillaryref00_CopyInts.calls (A0 : Option Addr) (c0 : Nat) (l0 : List Int) (r : List Int) (w : World) (hr0 : Kd.C (Kd.int .i64) w A0 l0.length l0) (hc0 : l0.length ≤ c0) (h : armillaryref00_CopyInts.f l0 = some r) :
    Calls Tryd.prog 47 #[.slice A0 l0.length c0] w fun e w' => ∃ v0_ : Value, e = .returned (v0_) ∧ Kd.R (Kd.int .i64) 3 w' w.heap.size (fun _ => True) v0_ r ∧ Below w.heap.size w w' := by
  have HR0 := Aside0.mk hr0
  have HC0 := Aside0.mk hc0
  clear hr0 hc0
  have HB := Aside0.mk (Below.refl w.heap.size w)
  have H : (if ([] : List Int).length + l0.length < 17592186044416 then (some (([] : List Int) ++ l0)) else (none)) = some r := h
  clear h
  by_cases c2 : ([] : List Int).length + l0.length < 17592186044416
  · rw [if_pos c2] at H
    have LMc2 := Aside0.mk c2
    clear c2
    obtain ⟨y104, hy104⟩ : ∃ y_ : List Int, y_ = (([] : List Int) ++ l0) := ⟨_, rfl⟩
    replace H : (some y104) = some r := by first | (rw [hy104]; with_reducible exact H) | (have H2_ := (Option.bind_some _ _).symm.trans H; rw [hy104]; with_reducible exact H2_) | (have H2_ := (Option.bind_some _ _).symm.trans H; with_reducible exact H2_) | with_reducible exact H | (rw [hy104]; exact H) | exact H
    have Ny104 := Aside0.mk hy104
    clear hy104
    obtain rfl := Option.some.inj H
    go_enter Tryd.func47, Tryd.ntmps47
    go_wp2_with (first | ((with_reducible refine gate_builtin (b := .append) (xs := #[.tmp 4, .tmp 5]) rfl ?_); at_builtin; refine Kd.R_append_rows (Kd.int .i64) (w0 := w) w.heap.size rfl (.tmp 4) (.tmp 5) 23 3 (.int .i64 0) 8 rfl Tryd.underlying23 info3 rfl (by decide) (by omega) (.slice none 0 0) ([] : List Int) l0 _ _ _ (fun _ => True) (fun _ => False) rfl rfl ?aO ?aR (fun _ _ h => h) (fun _ h => h.elim) ?aF ?aB ?aS ?aL ?_; (case aR => repeat (first | exact HR0.out | (with_reducible refine Kd.C_alloc ?_ _) | (with_reducible refine Kd.C_drewN ?_ _) | (with_reducible refine Kd.C_drew ?_))); (case aB => exact (by repeat (first | (with_reducible first | exact HB.out | apply below_alloc | apply pw_below_drewN | apply below_drew1) | exact HB.out))); (case aF => exact (fun _ _ => trivial)); (case aO => exact ((Kd.R_nil _ _ _ _ (fun _ => True)))); (case aS => exact (below_size (by repeat (first | (with_reducible first | exact HB.out | apply below_alloc | apply pw_below_drewN | apply below_drew1) | exact HB.out)))); (case aL => have := LMc2.out; omega); intro v105 w3 ho hb hg hat; rw [← Ny104.out] at ho; have n0_ := Aside0.mk (hb); have n1_ := Aside0.mk (ho); clear HB; have HB := n0_; have HO106 := n1_; clear n0_ n1_; clear ho hb hg hat))
    go_ret
    exact ⟨_, by first | rfl | (simp [errW_none, errW_some] <;> rfl) | (simp [*, errW_none, errW_some] <;> rfl), by (with_reducible repeat (first | apply Kd.R_alloc | apply Kd.R_drewN | apply Kd.R_drew)); exact HO106.out, by repeat (first | (with_reducible first | exact HB.out | apply below_alloc | apply pw_below_drewN | apply below_drew1) | exact HB.out)⟩
  · rw [if_neg c2] at H
    exact absurd H (by simp)

/-! ### armillaryref06_Copy: function 20 -/
def armillaryref06_Copy.l0 : Nat → List (S37) → List (S37) → Int → Option ((List (S37)))
  | 0, _, _, _ => none
  | k + 1, x0, x3, x4 => if x4 < (x0.length : Int) then (if 0 ≤ x4 then ((armillaryref00_CopyTexts.f ((rd_T37 x0 x4).f3)).bind fun t109 => ((armillaryref00_CopyInts.f ((rd_T37 x0 x4).f4)).bind fun t112 => (if x3.length < 1759218604441 then (armillaryref06_Copy.l0 k x0 (x3 ++ [(⟨(rd_T37 x0 x4).f0, (rd_T37 x0 x4).f1, (rd_T37 x0 x4).f2, t109, t112⟩ : S37)]) (wrap64 (x4 + 1))) else (none)))) else (none)) else (some x3)
def armillaryref06_Copy.f (k : Nat) (l0 : List (S37)) : Option ((List (S37))) := armillaryref06_Copy.l0 k l0 ([] : List (S37)) 0
theorem armillaryref06_Copy.mono_l : ∀ k, (∀ y0 y1 y2, LeO (armillaryref06_Copy.l0 k y0 y1 y2) (armillaryref06_Copy.l0 (k + 1) y0 y1 y2))
  | 0 => fun _ _ _ r h => by simp [armillaryref06_Copy.l0] at h
  | k + 1 => by
    have ih0 := armillaryref06_Copy.mono_l k
    · intro y0 y1 y2
      unfold armillaryref06_Copy.l0
      repeat' first
      | (with_reducible exact ih0 _ _ _)
      | (with_reducible exact LeO.refl _)
      | (with_reducible exact LeO.none _)
      | (with_reducible refine LeO.ite ?_ ?_)
      | (with_reducible refine LeO.bind ?_ (fun _ => ?_))
      | exact ih0 _ _ _
      | exact LeO.none _
      | refine LeO.ite ?_ ?_
      | refine LeO.bind ?_ (fun _ => ?_)
theorem armillaryref06_Copy.mono : ∀ a0 k, LeO (armillaryref06_Copy.f k a0) (armillaryref06_Copy.f (k + 1) a0) := by
  intro a0 k
  have ih0 := armillaryref06_Copy.mono_l k
  unfold armillaryref06_Copy.f
  repeat' first
      | (with_reducible exact ih0 _ _ _)
      | (with_reducible exact LeO.refl _)
      | (with_reducible exact LeO.none _)
      | (with_reducible refine LeO.ite ?_ ?_)
      | (with_reducible refine LeO.bind ?_ (fun _ => ?_))
      | exact ih0 _ _ _
      | exact LeO.none _
      | refine LeO.ite ?_ ?_
      | refine LeO.bind ?_ (fun _ => ?_)
set_option maxHeartbeats 8000000 in
set_option maxRecDepth 100000 in
theorem armillaryref06_Copy.calls (k : Nat) (A0 : Option Addr) (c0 : Nat) (l0 : List (S37)) (r : List (S37)) (w : World) (hr0 : Kd.C k37 w A0 l0.length l0) (hc0 : l0.length ≤ c0) (h : armillaryref06_Copy.f k l0 = some r) :
    Calls Tryd.prog 20 #[.slice A0 l0.length c0] w fun e w' => ∃ v0_ : Value, e = .returned (v0_) ∧ Kd.S k37 37 w' w.heap.size (fun _ => True) v0_ r ∧ Below w.heap.size w w' := by
  have hu37 := Tryd.underlying37
  have HR0 := Aside0.mk hr0
  have HC0 := Aside0.mk hc0
  clear hr0 hc0
  have HB := Aside0.mk (Below.refl w.heap.size w)
  have H : (armillaryref06_Copy.l0 k l0 ([] : List (S37)) 0) = some r := h
  clear h
  have H' := Aside0.mk H
  clear H
  go_enter Tryd.func20, Tryd.ntmps20
  go_wp2
  go_loopg [3, 4] k (fun kq v3 v4 w' => ∃ (x3_1 : List (S37)) (x4_1 : Int), v4 = .int .i64 x4_1 ∧ Aside0 (armillaryref06_Copy.l0 kq l0 x3_1 x4_1 = some r) ∧ Aside0 (kq ≤ k) ∧ Aside0 (Kd.S k37 37 w' w.heap.size (fun _ => True) v3 x3_1) ∧ Aside0 (Below w.heap.size w w'))
  case atStart => exact ⟨(([] : List (S37))), (0), (by first | rfl | (simp; done) | (simp [*]; done)), H', ⟨Nat.le_refl _⟩, ⟨by first | exact Kd.S_nil _ _ _ _ _ | exact Kd.N_nil _ _ _ _ _ | exact Kd.V_nil _ _ _ _ _ | exact Kd.Q_nil _ _ _ _ _ | exact Kd.R_nil _ _ _ _ _⟩, ⟨by repeat (first | (with_reducible first | exact HB.out | apply below_alloc | apply pw_below_drewN | apply below_drew1) | exact HB.out)⟩⟩
  case round =>
    clear H'
    obtain ⟨x3_1, x4_1, rfl, HA, HK1, HO_3, HB⟩ := hrel
    cases gk with
    | zero => exact absurd HA.out (by simp [armillaryref06_Copy.l0])
    | succ k1 =>
      have H := HA.out
      clear HA
      simp only [armillaryref06_Copy.l0] at H
      by_cases c2 : x4_1 < (l0.length : Int)
      · rw [if_pos c2] at H
        have c2b0 : decide (x4_1 < (l0.length : Int)) = true := decide_eq_true c2
        clear c2
        by_cases c3 : 0 ≤ x4_1
        · rw [if_pos c3] at H
          have c3b0 : decide (0 ≤ x4_1) = true := decide_eq_true c3
          clear c3
          replace H := Option.bind_eq_some_iff.mp H
          obtain ⟨t109, A40, H⟩ := H
          replace H : ((armillaryref00_CopyInts.f ((rd_T37 l0 x4_1).f4)).bind fun t112 => (if x3_1.length < 1759218604441 then (armillaryref06_Copy.l0 k1 l0 (x3_1 ++ [(⟨(rd_T37 l0 x4_1).f0, (rd_T37 l0 x4_1).f1, (rd_T37 l0 x4_1).f2, t109, t112⟩ : S37)]) (wrap64 (x4_1 + 1))) else (none))) = some r := H
          have A4 := Aside0.mk A40
          clear A40
          replace H := Option.bind_eq_some_iff.mp H
          obtain ⟨t112, A50, H⟩ := H
          replace H : (if x3_1.length < 1759218604441 then (armillaryref06_Copy.l0 k1 l0 (x3_1 ++ [(⟨(rd_T37 l0 x4_1).f0, (rd_T37 l0 x4_1).f1, (rd_T37 l0 x4_1).f2, t109, t112⟩ : S37)]) (wrap64 (x4_1 + 1))) else (none)) = some r := H
          have A5 := Aside0.mk A50
          clear A50
          by_cases c6 : x3_1.length < 1759218604441
          · rw [if_pos c6] at H
            have LMc6 := Aside0.mk c6
            clear c6
            obtain ⟨y115, hy115⟩ : ∃ y_ : List (S37), y_ = (x3_1 ++ [(⟨(rd_T37 l0 x4_1).f0, (rd_T37 l0 x4_1).f1, (rd_T37 l0 x4_1).f2, t109, t112⟩ : S37)]) := ⟨_, rfl⟩
            replace H : (armillaryref06_Copy.l0 k1 l0 y115 (wrap64 (x4_1 + 1))) = some r := by first | (rw [hy115]; with_reducible exact H) | (have H2_ := (Option.bind_some _ _).symm.trans H; rw [hy115]; with_reducible exact H2_) | (have H2_ := (Option.bind_some _ _).symm.trans H; with_reducible exact H2_) | with_reducible exact H | (rw [hy115]; exact H) | exact H
            have Ny115 := Aside0.mk hy115
            clear hy115
            have H' := Aside0.mk H
            clear H
            have p107 : 0 ≤ (x4_1 : Int) := of_decide_eq_true (by first | (with_reducible assumption) | assumption)
            have q107 : x4_1 < (l0.length : Int) := of_decide_eq_true (by first | (with_reducible assumption) | assumption)
            obtain ⟨ad107, A107_3, c107_3, A107_4, c107_4, e107, hx107_0, hx107_1, hx107_2, hx107_3, hx107_4, hl107_3, hi107_3, hl107_4, hi107_4⟩ := at_T37 HR0.out x4_1 p107 q107
            cases e107
            replace hx107_0 := (HB.out.cell (World.block_lt_of_cell? w _ hx107_0)).trans hx107_0
            replace hx107_1 := (HB.out.cell (World.block_lt_of_cell? w _ hx107_1)).trans hx107_1
            replace hx107_2 := (HB.out.cell (World.block_lt_of_cell? w _ hx107_2)).trans hx107_2
            replace hx107_3 := (HB.out.cell (World.block_lt_of_cell? w _ hx107_3)).trans hx107_3
            replace hx107_4 := (HB.out.cell (World.block_lt_of_cell? w _ hx107_4)).trans hx107_4
            have HR107_3 := Aside0.mk hi107_3
            have HC107_3 := Aside0.mk hl107_3
            clear hi107_3 hl107_3
            have HR107_4 := Aside0.mk hi107_4
            have HC107_4 := Aside0.mk hl107_4
            clear hi107_4 hl107_4
            replace p107 := eq_true p107
            replace q107 := eq_true q107
            go_wp2_with (first | ((with_reducible refine gate_dst (N := 5) rfl ?_); refine box_event ?hg (N := 5) ?hd (cs := #[.int .i64 0, .int .i64 0, .string (⟨#[]⟩ : ByteArray), .slice none 0 0, .slice none 0 0]) (t := 37) ?hr ?_; (case hd => rfl); (case hg => rfl); (case hr => first | (go_simp; done) | (go_simp; rfl)); intro gb108 hg w7 hbox hb; have n0_ := Aside0.mk (Kd.S_below (Kd.S_elderB (by (with_reducible repeat (first | apply Kd.S_alloc | apply Kd.S_drewN | apply Kd.S_drew)); exact HO_3.out) gb108 (Nat.le_of_eq hg.symm)) hb); have n1_ := Aside0.mk (below_step (by repeat (first | (with_reducible first | exact HB.out | apply below_alloc | apply pw_below_drewN | apply below_drew1) | exact HB.out)) hb); have n2_ := Aside0.mk (hbox); have n3_ := Aside0.mk ((by rw [hg]; exact (below_size (by repeat (first | (with_reducible first | exact HB.out | apply below_alloc | apply pw_below_drewN | apply below_drew1) | exact HB.out))) : w.heap.size ≤ gb108)); have n4_ := Aside0.mk ((by rw [hg]; exact (below_size (by repeat (first | (with_reducible first | exact HB.out | apply below_alloc | apply pw_below_drewN | apply below_drew1) | exact HB.out))) : w.heap.size ≤ gb108)); clear HO_3; clear HB; have HO_3 := n0_; have HB := n1_; have BK108 := n2_; have GW108 := n3_; have GE108 := n4_; clear n0_ n1_ n2_ n3_ n4_; clear hb hbox hg; have hcz8_0 : w7.cell? ⟨gb108, 0, none⟩ = some (.int .i64 0) := (blk_cell BK108.out 0).trans rfl; have hcz8_1 : w7.cell? ⟨gb108, 1, none⟩ = some (.int .i64 0) := (blk_cell BK108.out 1).trans rfl; have hcz8_2 : w7.cell? ⟨gb108, 2, none⟩ = some (.string (⟨#[]⟩ : ByteArray)) := (blk_cell BK108.out 2).trans rfl; have hcz8_3 : w7.cell? ⟨gb108, 3, none⟩ = some (.slice none 0 0) := (blk_cell BK108.out 3).trans rfl; have hcz8_4 : w7.cell? ⟨gb108, 4, none⟩ = some (.slice none 0 0) := (blk_cell BK108.out 4).trans rfl; have hfz8_0 := blk_frozen BK108.out 0; have hfz8_1 := blk_frozen BK108.out 1; have hfz8_2 := blk_frozen BK108.out 2; have hfz8_3 := blk_frozen BK108.out 3; have hfz8_4 := blk_frozen BK108.out 4) | ((with_reducible refine gate_callee (f := 46) rfl ?_); refine goesL_ (some 18) rfl rfl Tryd.func46 (by kernel_rfl) rfl #[.slice A107_3 ((rd_T37 l0 x4_1).f3).length c107_3] rfl (by (try simp only [List.map_toArray, List.map_cons, List.map_nil]); first | done | rfl | (simp only [List.length_drop, List.length_take]; rfl)) ?_; (with_reducible refine (armillaryref00_CopyTexts.calls _ _ ((rd_T37 l0 x4_1).f3) t109 _ ?side1 ?side2 A4.out).mono ?_); (case side1 => exact Kd.C_below HR107_3.out (by repeat (first | (with_reducible first | exact HB.out | apply below_alloc | apply pw_below_drewN | apply below_drew1 | refine below_set ?_ GE108.out) | exact HB.out))); (case side2 => exact HC107_3.out); rintro e w9 ⟨v110, rfl, ho0, hb⟩; refine ⟨_, rfl, ?_⟩; have n0_ := Aside0.mk (Kd.S_elder' (by (with_reducible repeat (first | apply Kd.S_alloc | apply Kd.S_drewN | apply Kd.S_drew)); exact (Kd.S_mono (Kd.S_far (p := ⟨gb108, 4, none⟩) (Kd.S_far (p := ⟨gb108, 3, none⟩) (Kd.S_far (p := ⟨gb108, 2, none⟩) (Kd.S_far (p := ⟨gb108, 1, none⟩) (Kd.S_far (p := ⟨gb108, 0, none⟩) (Kd.S_mono HO_3.out (fun k_ hk => (⟨hk, hk.2⟩ : _ ∧ k_ ≠ gb108))) (fun _ hk => hk.2) (.int .i64 ((rd_T37 l0 x4_1).f0))) (fun _ hk => hk.2) (.int .i64 ((rd_T37 l0 x4_1).f1))) (fun _ hk => hk.2) (.string ((rd_T37 l0 x4_1).f2))) (fun _ hk => hk.2) (.slice A107_3 ((rd_T37 l0 x4_1).f3).length c107_3)) (fun _ hk => hk.2) (.slice A107_4 ((rd_T37 l0 x4_1).f4).length c107_4)) (fun _ h_ => h_.1))) (Kd.R_base ho0) hb); have n1_ := Aside0.mk (Kd.R_lower ho0 (below_size (by repeat (first | (with_reducible first | exact HB.out | apply below_alloc | apply pw_below_drewN | apply below_drew1 | refine below_set ?_ GE108.out) | exact HB.out)))); have n2_ := Aside0.mk (blk_below (g := gb108) (o := .cells #[.int .i64 ((rd_T37 l0 x4_1).f0), .int .i64 ((rd_T37 l0 x4_1).f1), .string ((rd_T37 l0 x4_1).f2), .slice A107_3 ((rd_T37 l0 x4_1).f3).length c107_3, .slice A107_4 ((rd_T37 l0 x4_1).f4).length c107_4] 37 (0, 0)) (by (with_reducible repeat (first | refine blk_drewN ?_ _ | refine blk_drew ?_ | refine blk_alloc ?_ _)); refine blk_put (cs := #[.int .i64 ((rd_T37 l0 x4_1).f0), .int .i64 ((rd_T37 l0 x4_1).f1), .string ((rd_T37 l0 x4_1).f2), .slice A107_3 ((rd_T37 l0 x4_1).f3).length c107_3, .slice none 0 0]) ?_ 4 _ rfl; (with_reducible repeat (first | refine blk_drewN ?_ _ | refine blk_drew ?_ | refine blk_alloc ?_ _)); refine blk_put (cs := #[.int .i64 ((rd_T37 l0 x4_1).f0), .int .i64 ((rd_T37 l0 x4_1).f1), .string ((rd_T37 l0 x4_1).f2), .slice none 0 0, .slice none 0 0]) ?_ 3 _ rfl; (with_reducible repeat (first | refine blk_drewN ?_ _ | refine blk_drew ?_ | refine blk_alloc ?_ _)); refine blk_put (cs := #[.int .i64 ((rd_T37 l0 x4_1).f0), .int .i64 ((rd_T37 l0 x4_1).f1), .string (⟨#[]⟩ : ByteArray), .slice none 0 0, .slice none 0 0]) ?_ 2 _ rfl; (with_reducible repeat (first | refine blk_drewN ?_ _ | refine blk_drew ?_ | refine blk_alloc ?_ _)); refine blk_put (cs := #[.int .i64 ((rd_T37 l0 x4_1).f0), .int .i64 0, .string (⟨#[]⟩ : ByteArray), .slice none 0 0, .slice none 0 0]) ?_ 1 _ rfl; (with_reducible repeat (first | refine blk_drewN ?_ _ | refine blk_drew ?_ | refine blk_alloc ?_ _)); refine blk_put (cs := #[.int .i64 0, .int .i64 0, .string (⟨#[]⟩ : ByteArray), .slice none 0 0, .slice none 0 0]) ?_ 0 _ rfl; (with_reducible repeat (first | refine blk_drewN ?_ _ | refine blk_drew ?_ | refine blk_alloc ?_ _)); exact BK108.out) hb); have n3_ := Aside0.mk (below_step (by repeat (first | (with_reducible first | exact HB.out | apply below_alloc | apply pw_below_drewN | apply below_drew1 | refine below_set ?_ GE108.out) | exact HB.out)) hb); clear HO_3; clear BK108; clear HB; have HO_3 := n0_; have HO111 := n1_; have BK108 := n2_; have HB := n3_; clear n0_ n1_ n2_ n3_; (try clear hb); (try clear hb2); (try clear hk); (try clear hi); (try clear ho0); obtain ⟨Ao10, co10, eo10⟩ := Kd.R_slice HO111.out; subst eo10; have hcz11_0 : w9.cell? ⟨gb108, 0, none⟩ = some (.int .i64 ((rd_T37 l0 x4_1).f0)) := (blk_cell BK108.out 0).trans rfl; have hcz11_1 : w9.cell? ⟨gb108, 1, none⟩ = some (.int .i64 ((rd_T37 l0 x4_1).f1)) := (blk_cell BK108.out 1).trans rfl; have hcz11_2 : w9.cell? ⟨gb108, 2, none⟩ = some (.string ((rd_T37 l0 x4_1).f2)) := (blk_cell BK108.out 2).trans rfl; have hcz11_3 : w9.cell? ⟨gb108, 3, none⟩ = some (.slice A107_3 ((rd_T37 l0 x4_1).f3).length c107_3) := (blk_cell BK108.out 3).trans rfl; have hcz11_4 : w9.cell? ⟨gb108, 4, none⟩ = some (.slice A107_4 ((rd_T37 l0 x4_1).f4).length c107_4) := (blk_cell BK108.out 4).trans rfl; have hfz11_0 := blk_frozen BK108.out 0; have hfz11_1 := blk_frozen BK108.out 1; have hfz11_2 := blk_frozen BK108.out 2; have hfz11_3 := blk_frozen BK108.out 3; have hfz11_4 := blk_frozen BK108.out 4) | ((with_reducible refine gate_callee (f := 47) rfl ?_); refine goesL_ (some 22) rfl rfl Tryd.func47 (by kernel_rfl) rfl #[.slice A107_4 ((rd_T37 l0 x4_1).f4).length c107_4] rfl (by (try simp only [List.map_toArray, List.map_cons, List.map_nil]); first | done | rfl | (simp only [List.length_drop, List.length_take]; rfl)) ?_; (with_reducible refine (armillaryref00_CopyInts.calls _ _ ((rd_T37 l0 x4_1).f4) t112 _ ?side1 ?side2 A5.out).mono ?_); (case side1 => exact Kd.C_below HR107_4.out (by repeat (first | (with_reducible first | exact HB.out | apply below_alloc | apply pw_below_drewN | apply below_drew1 | refine below_set ?_ GE108.out) | exact HB.out))); (case side2 => exact HC107_4.out); rintro e w12 ⟨v113, rfl, ho0, hb⟩; refine ⟨_, rfl, ?_⟩; have n0_ := Aside0.mk (Kd.S_elder' (by (with_reducible repeat (first | apply Kd.S_alloc | apply Kd.S_drewN | apply Kd.S_drew)); exact (Kd.S_mono (Kd.S_far (p := ⟨gb108, 3, none⟩) (Kd.S_mono HO_3.out (fun k_ hk => (⟨hk, hk.1.2⟩ : _ ∧ k_ ≠ gb108))) (fun _ hk => hk.2) (.slice Ao10 t109.length co10)) (fun _ h_ => h_.1))) (Kd.R_base ho0) hb); have n1_ := Aside0.mk (Kd.R_below (by (with_reducible repeat (first | apply Kd.R_alloc | apply Kd.R_drewN | apply Kd.R_drew)); exact (Kd.R_mono (Kd.R_far (p := ⟨gb108, 3, none⟩) (Kd.R_types HO111.out BK108.out (by decide)) (fun _ hk => hk.2) (.slice Ao10 t109.length co10)) (fun _ h_ => h_.1))) hb); have n2_ := Aside0.mk (Kd.R_lower ho0 (below_size (by repeat (first | (with_reducible first | exact HB.out | apply below_alloc | apply pw_below_drewN | apply below_drew1 | refine below_set ?_ GE108.out) | exact HB.out)))); have n3_ := Aside0.mk (blk_below (g := gb108) (o := .cells #[.int .i64 ((rd_T37 l0 x4_1).f0), .int .i64 ((rd_T37 l0 x4_1).f1), .string ((rd_T37 l0 x4_1).f2), .slice Ao10 t109.length co10, .slice A107_4 ((rd_T37 l0 x4_1).f4).length c107_4] 37 (0, 0)) (by (with_reducible repeat (first | refine blk_drewN ?_ _ | refine blk_drew ?_ | refine blk_alloc ?_ _)); refine blk_put (cs := #[.int .i64 ((rd_T37 l0 x4_1).f0), .int .i64 ((rd_T37 l0 x4_1).f1), .string ((rd_T37 l0 x4_1).f2), .slice A107_3 ((rd_T37 l0 x4_1).f3).length c107_3, .slice A107_4 ((rd_T37 l0 x4_1).f4).length c107_4]) ?_ 3 _ rfl; (with_reducible repeat (first | refine blk_drewN ?_ _ | refine blk_drew ?_ | refine blk_alloc ?_ _)); exact BK108.out) hb); have n4_ := Aside0.mk (below_step (by repeat (first | (with_reducible first | exact HB.out | apply below_alloc | apply pw_below_drewN | apply below_drew1 | refine below_set ?_ GE108.out) | exact HB.out)) hb); clear HO_3; clear HO111; clear BK108; clear HB; have HO_3 := n0_; have HO111 := n1_; have HO114 := n2_; have BK108 := n3_; have HB := n4_; clear n0_ n1_ n2_ n3_ n4_; (try clear hb); (try clear hb2); (try clear hk); (try clear hi); (try clear ho0); obtain ⟨Ao13, co13, eo13⟩ := Kd.R_slice HO114.out; subst eo13; have hcz14_0 : w12.cell? ⟨gb108, 0, none⟩ = some (.int .i64 ((rd_T37 l0 x4_1).f0)) := (blk_cell BK108.out 0).trans rfl; have hcz14_1 : w12.cell? ⟨gb108, 1, none⟩ = some (.int .i64 ((rd_T37 l0 x4_1).f1)) := (blk_cell BK108.out 1).trans rfl; have hcz14_2 : w12.cell? ⟨gb108, 2, none⟩ = some (.string ((rd_T37 l0 x4_1).f2)) := (blk_cell BK108.out 2).trans rfl; have hcz14_3 : w12.cell? ⟨gb108, 3, none⟩ = some (.slice Ao10 t109.length co10) := (blk_cell BK108.out 3).trans rfl; have hcz14_4 : w12.cell? ⟨gb108, 4, none⟩ = some (.slice A107_4 ((rd_T37 l0 x4_1).f4).length c107_4) := (blk_cell BK108.out 4).trans rfl; have hfz14_0 := blk_frozen BK108.out 0; have hfz14_1 := blk_frozen BK108.out 1; have hfz14_2 := blk_frozen BK108.out 2; have hfz14_3 := blk_frozen BK108.out 3; have hfz14_4 := blk_frozen BK108.out 4) | ((with_reducible refine gate_store (t := 23) (p := 23) rfl ?_); refine store_event (t := 23) (p := 23) (v := ?vo_w15) (w1 := (w12.setCell ⟨gb108, 4, none⟩ (.slice Ao13 t112.length co13))) ?hg ?ho ?hn ?hr ?_; (case ho => rfl); (case hg => rfl); (case hn => rfl); (case hr => first | (go_simp; done) | (go_simp; rfl)); intro w15 hw; have n0_ : Aside0 (Kd.S k37 37 w15 w.heap.size (fun k_ => some k_ ≠ (.slice Ao10 t109.length co10 : Value).ownBlock ∧ some k_ ≠ (.slice Ao13 t112.length co13 : Value).ownBlock ∧ k_ ≠ gb108) u3 x3_1) := ⟨(by rw [hw]; exact (by (with_reducible repeat (first | apply Kd.S_alloc | apply Kd.S_drewN | apply Kd.S_drew)); exact Kd.S_mono (Kd.S_far (p := ⟨gb108, 4, none⟩) (Kd.S_mono HO_3.out (fun k_ hk => (⟨hk, hk.1.1.2⟩ : _ ∧ k_ ≠ gb108))) (fun _ hk => hk.2) (.slice Ao13 t112.length co13)) (fun _ hk => ⟨hk.1.1.2, ⟨hk.1.2, hk.1.1.1.2⟩⟩)))⟩; have n1_ : Aside0 (Kd.R Kd.string 9 w15 w.heap.size (fun _ => True) (.slice Ao10 t109.length co10) t109) := ⟨(by rw [hw]; exact (by (with_reducible repeat (first | apply Kd.R_alloc | apply Kd.R_drewN | apply Kd.R_drew)); exact Kd.R_mono (Kd.R_far (p := ⟨gb108, 4, none⟩) (Kd.R_types HO111.out BK108.out (by decide)) (fun _ hk => hk.2) (.slice Ao13 t112.length co13)) (fun _ hk => trivial)))⟩; have n2_ : Aside0 (Kd.R (Kd.int .i64) 3 w15 w.heap.size (fun _ => True) (.slice Ao13 t112.length co13) t112) := ⟨(by rw [hw]; exact (by (with_reducible repeat (first | apply Kd.R_alloc | apply Kd.R_drewN | apply Kd.R_drew)); exact Kd.R_mono (Kd.R_far (p := ⟨gb108, 4, none⟩) (Kd.R_types HO114.out BK108.out (by decide)) (fun _ hk => hk.2) (.slice Ao13 t112.length co13)) (fun _ hk => trivial)))⟩; have n3_ : Aside0 (w15.heap[gb108]? = some (.cells #[.int .i64 ((rd_T37 l0 x4_1).f0), .int .i64 ((rd_T37 l0 x4_1).f1), .string ((rd_T37 l0 x4_1).f2), .slice Ao10 t109.length co10, .slice Ao13 t112.length co13] 37 (0, 0))) := ⟨(by rw [hw]; exact (by (with_reducible repeat (first | refine blk_drewN ?_ _ | refine blk_drew ?_ | refine blk_alloc ?_ _)); refine blk_put (cs := #[.int .i64 ((rd_T37 l0 x4_1).f0), .int .i64 ((rd_T37 l0 x4_1).f1), .string ((rd_T37 l0 x4_1).f2), .slice Ao10 t109.length co10, .slice A107_4 ((rd_T37 l0 x4_1).f4).length c107_4]) ?_ 4 _ rfl; (with_reducible repeat (first | refine blk_drewN ?_ _ | refine blk_drew ?_ | refine blk_alloc ?_ _)); exact BK108.out))⟩; have n4_ : Aside0 (Below w.heap.size w w15) := ⟨(by rw [hw]; exact (by repeat (first | (with_reducible first | exact HB.out | apply below_alloc | apply pw_below_drewN | apply below_drew1 | refine below_set ?_ GE108.out) | exact HB.out)))⟩; clear hw; clear HO_3; clear HO111; clear HO114; clear BK108; clear HB; have HO_3 := n0_; have HO111 := n1_; have HO114 := n2_; have BK108 := n3_; have HB := n4_; clear n0_ n1_ n2_ n3_ n4_; have hcz16_0 : w15.cell? ⟨gb108, 0, none⟩ = some (.int .i64 ((rd_T37 l0 x4_1).f0)) := (blk_cell BK108.out 0).trans rfl; have hcz16_1 : w15.cell? ⟨gb108, 1, none⟩ = some (.int .i64 ((rd_T37 l0 x4_1).f1)) := (blk_cell BK108.out 1).trans rfl; have hcz16_2 : w15.cell? ⟨gb108, 2, none⟩ = some (.string ((rd_T37 l0 x4_1).f2)) := (blk_cell BK108.out 2).trans rfl; have hcz16_3 : w15.cell? ⟨gb108, 3, none⟩ = some (.slice Ao10 t109.length co10) := (blk_cell BK108.out 3).trans rfl; have hcz16_4 : w15.cell? ⟨gb108, 4, none⟩ = some (.slice Ao13 t112.length co13) := (blk_cell BK108.out 4).trans rfl; have hfz16_0 := blk_frozen BK108.out 0; have hfz16_1 := blk_frozen BK108.out 1; have hfz16_2 := blk_frozen BK108.out 2; have hfz16_3 := blk_frozen BK108.out 3; have hfz16_4 := blk_frozen BK108.out 4) | ((with_reducible refine gate_builtin (b := .append) (xs := #[.tmp 24, .tmp 26]) rfl ?_); at_builtin; refine Kd.S_append k37 (w0 := w) w.heap.size rfl (.tmp 24) (.tmp 26) 22 37 (.agg #[(.int .i64 0), (.int .i64 0), (.string ⟨#[]⟩), (.slice none 0 0), (.slice none 0 0)]) 80 rfl Tryd.underlying22 info37 rfl (by decide) (by omega) u3 x3_1 (⟨(rd_T37 l0 x4_1).f0, (rd_T37 l0 x4_1).f1, (rd_T37 l0 x4_1).f2, t109, t112⟩ : S37) [.int .i64 ((rd_T37 l0 x4_1).f0), .int .i64 ((rd_T37 l0 x4_1).f1), .string ((rd_T37 l0 x4_1).f2), .slice Ao10 t109.length co10, .slice Ao13 t112.length co13] (fun k_ => k_ ≠ gb108) (fun k_ => some k_ = (.slice Ao10 t109.length co10 : Value).ownBlock ∨ some k_ = (.slice Ao13 t112.length co13 : Value).ownBlock) rfl rfl ?aP (fun k_ hk_ => hk_.elim (fun h_ => ((Kd.R_mono (ok' := fun k_ => ((fun k_ => k_ ≠ gb108)) k_ ∧ some k_ ≠ (u3 : Value).ownBlock) (Kd.R_types (Kd.R_apart' (HO111.out) (Kd.S_typed HO_3.out) (by decide)) BK108.out (by decide)) (fun k_ hk => ⟨hk.2, hk.1.2⟩))).1 k_ h_.symm) (fun h_ => ((Kd.R_mono (ok' := fun k_ => ((fun k_ => k_ ≠ gb108)) k_ ∧ some k_ ≠ (u3 : Value).ownBlock) (Kd.R_types (Kd.R_apart' (HO114.out) (Kd.S_typed HO_3.out) (by decide)) BK108.out (by decide)) (fun k_ hk => ⟨hk.2, hk.1.2⟩))).1 k_ h_.symm)) ?aF ?aO ?aB ?aS ?aL ?_; (case aP => exact k37_mkM _ _ _ (⟨(rd_T37 l0 x4_1).f0, (rd_T37 l0 x4_1).f1, (rd_T37 l0 x4_1).f2, t109, t112⟩ : S37) (Kd.R_mono (Kd.R_tight rfl (Kd.R_mono (ok' := fun k_ => ((fun k_ => k_ ≠ gb108)) k_ ∧ some k_ ≠ (u3 : Value).ownBlock) (Kd.R_types (Kd.R_apart' (HO111.out) (Kd.S_typed HO_3.out) (by decide)) BK108.out (by decide)) (fun k_ hk => ⟨hk.2, hk.1.2⟩))) (fun _ h_ => Or.inl h_)) (Kd.R_mono (Kd.R_tight rfl (Kd.R_mono (ok' := fun k_ => ((fun k_ => k_ ≠ gb108)) k_ ∧ some k_ ≠ (u3 : Value).ownBlock) (Kd.R_types (Kd.R_apart' (HO114.out) (Kd.S_typed HO_3.out) (by decide)) BK108.out (by decide)) (fun k_ hk => ⟨hk.2, hk.1.2⟩))) (fun _ h_ => Or.inr (h_)))); (case aB => exact (by repeat (first | (with_reducible first | exact HB.out | apply below_alloc | apply pw_below_drewN | apply below_drew1 | refine below_set ?_ GE108.out) | exact HB.out))); (case aF => exact (fun k_ hk => Kd.freshB (g := gb108) (o := .cells #[.int .i64 ((rd_T37 l0 x4_1).f0), .int .i64 ((rd_T37 l0 x4_1).f1), .string ((rd_T37 l0 x4_1).f2), .slice Ao10 t109.length co10, .slice Ao13 t112.length co13] 37 (0, 0)) (by (with_reducible repeat (first | refine blk_drewN ?_ _ | refine blk_drew ?_ | refine blk_alloc ?_ _)); exact BK108.out) k_ hk)); (case aO => exact (by (with_reducible repeat (first | apply Kd.S_alloc | apply Kd.S_drewN | apply Kd.S_drew)); exact Kd.S_mono HO_3.out (fun k_ hk => ⟨hk.2.2, fun e_ => e_.elim (fun h_ => hk.1 h_) (fun h_ => hk.2.1 h_)⟩))); (case aS => exact (below_size (by repeat (first | (with_reducible first | exact HB.out | apply below_alloc | apply pw_below_drewN | apply below_drew1 | refine below_set ?_ GE108.out) | exact HB.out)))); (case aL => have := LMc6.out; omega); intro v116 w17 ho hb hg hat; rw [← Ny115.out] at ho; have n0_ := Aside0.mk (blk_grown (g := gb108) (o := .cells #[.int .i64 ((rd_T37 l0 x4_1).f0), .int .i64 ((rd_T37 l0 x4_1).f1), .string ((rd_T37 l0 x4_1).f2), .slice Ao10 t109.length co10, .slice Ao13 t112.length co13] 37 (0, 0)) (by (with_reducible repeat (first | refine blk_drewN ?_ _ | refine blk_drew ?_ | refine blk_alloc ?_ _)); exact BK108.out) hg (Kd.S_away HO_3.out (fun _ hk => hk.2.2))); have n1_ := Aside0.mk (hb); have n2_ := Aside0.mk (ho); clear BK108; clear HB; clear HO_3; clear HO111; clear HO114; have BK108 := n0_; have HB := n1_; have HO117 := n2_; clear n0_ n1_ n2_; clear ho hb hg hat))
            go_roundg k1
            case measure => have := HK1.out; omega
            case rel => exact ⟨(y115), (wrap64 (x4_1 + 1)), (by first | rfl | (simp; done) | (simp [*]; done)), H', ⟨by have := HK1.out; omega⟩, ⟨by (with_reducible repeat (first | apply Kd.S_alloc | apply Kd.S_drewN | apply Kd.S_drew)); exact Kd.S_mono HO117.out (fun _ hk => trivial)⟩, ⟨by repeat (first | (with_reducible first | exact HB.out | apply below_alloc | apply pw_below_drewN | apply below_drew1 | refine below_set ?_ GE108.out) | exact HB.out)⟩⟩
          · rw [if_neg c6] at H
            exact absurd H (by simp)
        · rw [if_neg c3] at H
          exact absurd H (by simp)
      · rw [if_neg c2] at H
        have c2b0 : decide (x4_1 < (l0.length : Int)) = false := decide_eq_false c2
        clear c2
        obtain rfl := Option.some.inj H
        go_wp2
        go_ret
        exact ⟨_, by first | rfl | (simp [errW_none, errW_some] <;> rfl) | (simp [*, errW_none, errW_some] <;> rfl), by (with_reducible repeat (first | apply Kd.S_alloc | apply Kd.S_drewN | apply Kd.S_drew)); exact HO_3.out, by repeat (first | (with_reducible first | exact HB.out | apply below_alloc | apply pw_below_drewN | apply below_drew1) | exact HB.out)⟩

/-! ### armillarylaw08_cut: function 11 -/
def armillarylaw08_cut.l0 : Nat → List (S37) → Int → Option ((List (S37)))
  | 0, _, _ => none
  | k + 1, x0, x3 => if x3 < (x0.length : Int) then (if 0 ≤ x3 then (if 0 ≤ (mn (((rd_T37 x0 x3).f3).length : Int) 20) then (if (mn (((rd_T37 x0 x3).f3).length : Int) 20) ≤ (((rd_T37 x0 x3).f3).length : Int) then (if 0 ≤ (mn (((rd_T37 x0 x3).f4).length : Int) 40) then (if (mn (((rd_T37 x0 x3).f4).length : Int) 40) ≤ (((rd_T37 x0 x3).f4).length : Int) then (if 0 ≤ (mn (((rd_T37 x0 x3).f2).size : Int) 30) then (if (mn (((rd_T37 x0 x3).f2).size : Int) 30) ≤ (((rd_T37 x0 x3).f2).size : Int) then (armillarylaw08_cut.l0 k (x0.set (x3 : Int).toNat (⟨(rd_T37 x0 x3).f0, (rd_T37 x0 x3).f1, ((rd_T37 x0 x3).f2).extract 0 ((mn (((rd_T37 x0 x3).f2).size : Int) 30) : Int).toNat, (((rd_T37 x0 x3).f3).take ((mn (((rd_T37 x0 x3).f3).length : Int) 20) : Int).toNat), (((rd_T37 x0 x3).f4).take ((mn (((rd_T37 x0 x3).f4).length : Int) 40) : Int).toNat)⟩ : S37)) (wrap64 (x3 + 1))) else (none)) else (none)) else (none)) else (none)) else (none)) else (none)) else (none)) else (some x0)
def armillarylaw08_cut.f (k : Nat) (l0 : List (S37)) : Option ((List (S37))) := if 0 ≤ (mn (l0.length : Int) 30) then (if (mn (l0.length : Int) 30) ≤ (l0.length : Int) then ((armillaryref06_Copy.f k (l0.take ((mn (l0.length : Int) 30) : Int).toNat)).bind fun t122 => (armillarylaw08_cut.l0 k t122 0)) else (none)) else (none)
theorem armillarylaw08_cut.mono_l : ∀ k, (∀ y0 y1, LeO (armillarylaw08_cut.l0 k y0 y1) (armillarylaw08_cut.l0 (k + 1) y0 y1))
  | 0 => fun _ _ r h => by simp [armillarylaw08_cut.l0] at h
  | k + 1 => by
    have ih0 := armillarylaw08_cut.mono_l k
    · intro y0 y1
      unfold armillarylaw08_cut.l0
      repeat' first
      | (with_reducible exact ih0 _ _)
      | (with_reducible exact armillaryref06_Copy.mono _ _)
      | (with_reducible exact LeO.refl _)
      | (with_reducible exact LeO.none _)
      | (with_reducible refine LeO.ite ?_ ?_)
      | (with_reducible refine LeO.bind ?_ (fun _ => ?_))
      | exact ih0 _ _
      | exact armillaryref06_Copy.mono _ _
      | exact LeO.none _
      | refine LeO.ite ?_ ?_
      | refine LeO.bind ?_ (fun _ => ?_)
theorem armillarylaw08_cut.mono : ∀ a0 k, LeO (armillarylaw08_cut.f k a0) (armillarylaw08_cut.f (k + 1) a0) := by
  intro a0 k
  have ih0 := armillarylaw08_cut.mono_l k
  unfold armillarylaw08_cut.f
  repeat' first
      | (with_reducible exact ih0 _ _)
      | (with_reducible exact armillaryref06_Copy.mono _ _)
      | (with_reducible exact LeO.refl _)
      | (with_reducible exact LeO.none _)
      | (with_reducible refine LeO.ite ?_ ?_)
      | (with_reducible refine LeO.bind ?_ (fun _ => ?_))
      | exact ih0 _ _
      | exact armillaryref06_Copy.mono _ _
      | exact LeO.none _
      | refine LeO.ite ?_ ?_
      | refine LeO.bind ?_ (fun _ => ?_)
def armillarylaw08_cut.T6 : Bool × List (List Nat × List Nat) := (true, [([], []), ([0], [0]), ([], []), ([2], [2]), ([3], [3]), ([4], [4]), ([1, 5], [1, 5]), ([], []), ([7], [7]), ([], []), ([9], [9]), ([10], [10]), ([11], [11]), ([8, 12], [8, 12]), ([], []), ([14], [14]), ([], []), ([16], [16]), ([17], [17]), ([18], [18]), ([15, 19], [15, 19]), ([0, 1, 2, 3, 4, 5, 6, 7, 8, 9, 10, 14, 15, 16, 17], []), ([21, 6, 0, 1, 2, 3, 4, 5, 6, 7, 8, 9, 10, 14, 15, 16, 17], [6, 21]), ([0, 1, 2, 3, 4, 5, 6, 7, 8, 9, 10, 11, 12, 13, 14, 15, 16, 17, 21, 22], []), ([23, 13, 22, 0, 1, 2, 3, 4, 5, 6, 7, 8, 9, 10, 11, 12, 13, 14, 15, 16, 17, 21, 22], [13, 23]), ([0, 1, 2, 3, 4, 5, 6, 7, 8, 9, 10, 11, 12, 13, 14, 15, 16, 17, 18, 19, 20, 21, 22, 23, 24], []), ([25, 20, 24, 0, 1, 2, 3, 4, 5, 6, 7, 8, 9, 10, 11, 12, 13, 14, 15, 16, 17, 18, 19, 20, 21, 22, 23, 24], [20, 25])])
def armillarylaw08_cut.B6 : List Nat := [0, 1, 0, 4, 12, 28, 63, 0, 128, 0, 512, 1536, 3584, 8064, 0, 16384, 0, 65536, 196608, 458752, 1032192, 247807, 2344959, 6553599, 14942207, 33554431, 67108863]
theorem armillarylaw08_cut.tab6 : rtab .any (opsOf Tryd.f11 6) = armillarylaw08_cut.T6 := by kernel_rfl
theorem armillarylaw08_cut.bits6 : waitsOk armillarylaw08_cut.T6.2 armillarylaw08_cut.B6 = true := by kernel_rfl
set_option maxHeartbeats 8000000 in
set_option maxRecDepth 100000 in
theorem armillarylaw08_cut.calls (k : Nat) (A0 : Option Addr) (c0 : Nat) (l0 : List (S37)) (r : List (S37)) (w : World) (hr0 : Kd.C k37 w A0 l0.length l0) (hc0 : l0.length ≤ c0) (h : armillarylaw08_cut.f k l0 = some r) :
    Calls Tryd.prog 11 #[.slice A0 l0.length c0] w fun e w' => ∃ v0_ : Value, e = .returned (v0_) ∧ Kd.N k37 37 w' w.heap.size (fun k_ => (w.heap.size ≤ k_)) v0_ r ∧ Below w.heap.size w w' := by
  have hu37 := Tryd.underlying37
  have HR0 := Aside0.mk hr0
  have HC0 := Aside0.mk hc0
  clear hr0 hc0
  have HB := Aside0.mk (Below.refl w.heap.size w)
  have H : (if 0 ≤ (mn (l0.length : Int) 30) then (if (mn (l0.length : Int) 30) ≤ (l0.length : Int) then ((armillaryref06_Copy.f k (l0.take ((mn (l0.length : Int) 30) : Int).toNat)).bind fun t122 => (armillarylaw08_cut.l0 k t122 0)) else (none)) else (none)) = some r := h
  clear h
  obtain ⟨ji2, hji2⟩ : ∃ j_ : Int, (mn (l0.length : Int) 30) = j_ := ⟨_, rfl⟩
  replace H : (if 0 ≤ (ji2) then (if (ji2) ≤ (l0.length : Int) then ((armillaryref06_Copy.f k (l0.take ((ji2) : Int).toNat)).bind fun t122 => (armillarylaw08_cut.l0 k t122 0)) else (none)) else (none)) = some r := by first | (rw [hji2] at H; exact H) | (simp only [hji2] at H ⊢; exact H)
  (try (have hji2h : ji2 ≤ 30 := by (rw [← hji2]; unfold mn; (repeat' split) <;> omega)))
  (try (have hji2g : ji2 ≤ 64 := by omega))
  (try (have hji2l : 0 ≤ ji2 := by (rw [← hji2]; unfold mn; (repeat' split) <;> omega)))
  (try (have hji2m : 0 ≤ ji2 := by omega))
  have hji2_ : (if 30 < (l0.length : Int) then 30 else (l0.length : Int)) = ji2 := hji2
  by_cases c3 : 0 ≤ (ji2)
  · rw [if_pos c3] at H
    have c3b0 := eq_true c3
    have c3b1 : decide (0 ≤ (ji2)) = true := decide_eq_true c3
    clear c3
    by_cases c4 : (ji2) ≤ (l0.length : Int)
    · rw [if_pos c4] at H
      have c4b0 := eq_true c4
      have c4b1 : decide ((ji2) ≤ (l0.length : Int)) = true := decide_eq_true c4
      clear c4
      obtain ⟨y118, hy118⟩ : ∃ y_ : List (S37), y_ = (l0.take ((ji2) : Int).toNat) := ⟨_, rfl⟩
      replace H : ((armillaryref06_Copy.f k y118).bind fun t122 => (armillarylaw08_cut.l0 k t122 0)) = some r := by first | (rw [hy118]; with_reducible exact H) | (have H2_ := (Option.bind_some _ _).symm.trans H; rw [hy118]; with_reducible exact H2_) | (have H2_ := (Option.bind_some _ _).symm.trans H; with_reducible exact H2_) | with_reducible exact H | (rw [hy118]; exact H) | exact H
      have Ny118 := Aside0.mk hy118
      clear hy118
      replace H := Option.bind_eq_some_iff.mp H
      obtain ⟨t122, A50, H⟩ := H
      replace H : (armillarylaw08_cut.l0 k t122 0) = some r := H
      have A5 := Aside0.mk A50
      clear A50
      have H' := Aside0.mk H
      clear H
      have q6 : ((ji2) : Int) ≤ ((l0.length : Int) : Int) := of_decide_eq_true (by first | (with_reducible assumption) | assumption)
      obtain ⟨i06, hi06, _, hsz6, _⟩ := info_parts info37
      have hroom6 : l0.length ≤ c0 := HC0.out
      have hC6 : Kd.C k37 _ A0 l0.length l0 := HR0.out
      have hcut6 := cut_to (P := Tryd.prog) 22 37 .i64 Tryd.underlying22 hi06 A0 l0.length c0 (ji2) (of_decide_eq_true (by first | (with_reducible assumption) | assumption)) q6 hroom6
      have hr6 := Kd.C_take (m := ((ji2) : Int).toNat) hC6 (by omega)
      have hy6 : y118.length = ((ji2) : Int).toNat := (by rw [Ny118.out, List.length_take]; omega)
      rw [← Ny118.out] at hr6
      rw [← hy6] at hcut6
      have HR121 := Aside0.mk hr6
      have HC121 := Aside0.mk (show y118.length ≤ c0 from by omega)
      clear hr6 hC6 hroom6 hi06 hsz6
      have KY6 := Aside0.mk hy6
      clear hy6
      replace q6 := eq_true q6
      go_enter Tryd.func11, Tryd.ntmps11
      go_wp2_with (first | ((with_reducible refine gate_callee (f := 20) rfl ?_); refine goesL_ (some 10) rfl rfl Tryd.func20 (by kernel_rfl) rfl #[.slice A0 y118.length c0] rfl (by (try simp only [List.map_toArray, List.map_cons, List.map_nil]); first | done | rfl | (simp only [List.length_drop, List.length_take]; rfl)) ?_; (with_reducible refine (armillaryref06_Copy.calls k _ _ y118 t122 _ ?side1 ?side2 A5.out).mono ?_); (case side1 => repeat (first | exact HR121.out | (with_reducible refine Kd.C_alloc ?_ _) | (with_reducible refine Kd.C_drewN ?_ _) | (with_reducible refine Kd.C_drew ?_))); (case side2 => exact HC121.out); rintro e w7 ⟨v123, rfl, ho0, hb⟩; refine ⟨_, rfl, ?_⟩; have n0_ := Aside0.mk (Kd.N_lower (Kd.N_mono (ok' := fun k_ => (w.heap.size ≤ k_)) (Kd.S_N (Kd.S_bound ho0)) (fun k_ hk_ => (Nat.le_trans (below_size (by repeat (first | (with_reducible first | exact HB.out | apply below_alloc | apply pw_below_drewN | apply below_drew1) | exact HB.out))) hk_.2.1))) (below_size (by repeat (first | (with_reducible first | exact HB.out | apply below_alloc | apply pw_below_drewN | apply below_drew1) | exact HB.out)))); have n1_ := Aside0.mk (below_step (by repeat (first | (with_reducible first | exact HB.out | apply below_alloc | apply pw_below_drewN | apply below_drew1) | exact HB.out)) hb); clear HB; have HO124 := n0_; have HB := n1_; clear n0_ n1_; (try clear hb); (try clear hb2); (try clear hk); (try clear hi); (try clear ho0)))
      go_loopg [3] k (fun kq v3 w' => ∃ (x0_1 : List (S37)) (x3_1 : Int), v3 = .int .i64 x3_1 ∧ Aside0 (armillarylaw08_cut.l0 kq x0_1 x3_1 = some r) ∧ Aside0 (kq ≤ k) ∧ Aside0 (Kd.N k37 37 w' w.heap.size (fun k_ => (w.heap.size ≤ k_)) v123 x0_1) ∧ Aside0 (Below w.heap.size w w'))
      case atStart => exact ⟨(t122), (0), (by first | rfl | (simp; done) | (simp [*]; done)), H', ⟨Nat.le_refl _⟩, ⟨by (with_reducible repeat (first | apply Kd.N_alloc | apply Kd.N_drewN | apply Kd.N_drew)); exact HO124.out⟩, ⟨by repeat (first | (with_reducible first | exact HB.out | apply below_alloc | apply pw_below_drewN | apply below_drew1) | exact HB.out)⟩⟩
      case round =>
        clear H'
        try clear c1
        try clear c2
        try clear p2
        try clear c3
        try clear c3b0
        try clear c3b1
        try clear c4
        try clear c4b0
        try clear c4b1
        try clear q6
        try clear q6
        obtain ⟨x0_1, x3_1, rfl, HA, HK1, HO_0, HB⟩ := hrel
        cases gk with
        | zero => exact absurd HA.out (by simp [armillarylaw08_cut.l0])
        | succ k1 =>
          have H := HA.out
          clear HA
          simp only [armillarylaw08_cut.l0] at H
          by_cases c8 : x3_1 < (x0_1.length : Int)
          · rw [if_pos c8] at H
            have c8b0 : decide (x3_1 < (x0_1.length : Int)) = true := decide_eq_true c8
            clear c8
            by_cases c9 : 0 ≤ x3_1
            · rw [if_pos c9] at H
              have c9b0 : decide (0 ≤ x3_1) = true := decide_eq_true c9
              clear c9
              obtain ⟨ji10, hji10⟩ : ∃ j_ : Int, (mn (((rd_T37 x0_1 x3_1).f3).length : Int) 20) = j_ := ⟨_, rfl⟩
              replace H : (if 0 ≤ (ji10) then (if (ji10) ≤ (((rd_T37 x0_1 x3_1).f3).length : Int) then (if 0 ≤ (mn (((rd_T37 x0_1 x3_1).f4).length : Int) 40) then (if (mn (((rd_T37 x0_1 x3_1).f4).length : Int) 40) ≤ (((rd_T37 x0_1 x3_1).f4).length : Int) then (if 0 ≤ (mn (((rd_T37 x0_1 x3_1).f2).size : Int) 30) then (if (mn (((rd_T37 x0_1 x3_1).f2).size : Int) 30) ≤ (((rd_T37 x0_1 x3_1).f2).size : Int) then (armillarylaw08_cut.l0 k1 (x0_1.set (x3_1 : Int).toNat (⟨(rd_T37 x0_1 x3_1).f0, (rd_T37 x0_1 x3_1).f1, ((rd_T37 x0_1 x3_1).f2).extract 0 ((mn (((rd_T37 x0_1 x3_1).f2).size : Int) 30) : Int).toNat, (((rd_T37 x0_1 x3_1).f3).take ((ji10) : Int).toNat), (((rd_T37 x0_1 x3_1).f4).take ((mn (((rd_T37 x0_1 x3_1).f4).length : Int) 40) : Int).toNat)⟩ : S37)) (wrap64 (x3_1 + 1))) else (none)) else (none)) else (none)) else (none)) else (none)) else (none)) = some r := by first | (rw [hji10] at H; exact H) | (simp only [hji10] at H ⊢; exact H)
              have hji10_ : (if 20 < (((rd_T37 x0_1 x3_1).f3).length : Int) then 20 else (((rd_T37 x0_1 x3_1).f3).length : Int)) = ji10 := hji10
              by_cases c11 : 0 ≤ (ji10)
              · rw [if_pos c11] at H
                have c11b0 := eq_true c11
                have c11b1 : decide (0 ≤ (ji10)) = true := decide_eq_true c11
                clear c11
                by_cases c12 : (ji10) ≤ (((rd_T37 x0_1 x3_1).f3).length : Int)
                · rw [if_pos c12] at H
                  have c12b0 := eq_true c12
                  have c12b1 : decide ((ji10) ≤ (((rd_T37 x0_1 x3_1).f3).length : Int)) = true := decide_eq_true c12
                  clear c12
                  obtain ⟨y127, hy127⟩ : ∃ y_ : List ByteArray, y_ = (((rd_T37 x0_1 x3_1).f3).take ((ji10) : Int).toNat) := ⟨_, rfl⟩
                  replace H : (if 0 ≤ (mn (((rd_T37 x0_1 x3_1).f4).length : Int) 40) then (if (mn (((rd_T37 x0_1 x3_1).f4).length : Int) 40) ≤ (((rd_T37 x0_1 x3_1).f4).length : Int) then (if 0 ≤ (mn (((rd_T37 x0_1 x3_1).f2).size : Int) 30) then (if (mn (((rd_T37 x0_1 x3_1).f2).size : Int) 30) ≤ (((rd_T37 x0_1 x3_1).f2).size : Int) then (armillarylaw08_cut.l0 k1 (x0_1.set (x3_1 : Int).toNat (⟨(rd_T37 x0_1 x3_1).f0, (rd_T37 x0_1 x3_1).f1, ((rd_T37 x0_1 x3_1).f2).extract 0 ((mn (((rd_T37 x0_1 x3_1).f2).size : Int) 30) : Int).toNat, y127, (((rd_T37 x0_1 x3_1).f4).take ((mn (((rd_T37 x0_1 x3_1).f4).length : Int) 40) : Int).toNat)⟩ : S37)) (wrap64 (x3_1 + 1))) else (none)) else (none)) else (none)) else (none)) = some r := by first | (rw [hy127]; with_reducible exact H) | (have H2_ := (Option.bind_some _ _).symm.trans H; rw [hy127]; with_reducible exact H2_) | (have H2_ := (Option.bind_some _ _).symm.trans H; with_reducible exact H2_) | with_reducible exact H | (rw [hy127]; exact H) | exact H
                  have Ny127 := Aside0.mk hy127
                  clear hy127
                  obtain ⟨ji13, hji13⟩ : ∃ j_ : Int, (mn (((rd_T37 x0_1 x3_1).f4).length : Int) 40) = j_ := ⟨_, rfl⟩
                  replace H : (if 0 ≤ (ji13) then (if (ji13) ≤ (((rd_T37 x0_1 x3_1).f4).length : Int) then (if 0 ≤ (mn (((rd_T37 x0_1 x3_1).f2).size : Int) 30) then (if (mn (((rd_T37 x0_1 x3_1).f2).size : Int) 30) ≤ (((rd_T37 x0_1 x3_1).f2).size : Int) then (armillarylaw08_cut.l0 k1 (x0_1.set (x3_1 : Int).toNat (⟨(rd_T37 x0_1 x3_1).f0, (rd_T37 x0_1 x3_1).f1, ((rd_T37 x0_1 x3_1).f2).extract 0 ((mn (((rd_T37 x0_1 x3_1).f2).size : Int) 30) : Int).toNat, y127, (((rd_T37 x0_1 x3_1).f4).take ((ji13) : Int).toNat)⟩ : S37)) (wrap64 (x3_1 + 1))) else (none)) else (none)) else (none)) else (none)) = some r := by first | (rw [hji13] at H; exact H) | (simp only [hji13] at H ⊢; exact H)
                  have hji13_ : (if 40 < (((rd_T37 x0_1 x3_1).f4).length : Int) then 40 else (((rd_T37 x0_1 x3_1).f4).length : Int)) = ji13 := hji13
                  by_cases c14 : 0 ≤ (ji13)
                  · rw [if_pos c14] at H
                    have c14b0 := eq_true c14
                    have c14b1 : decide (0 ≤ (ji13)) = true := decide_eq_true c14
                    clear c14
                    by_cases c15 : (ji13) ≤ (((rd_T37 x0_1 x3_1).f4).length : Int)
                    · rw [if_pos c15] at H
                      have c15b0 := eq_true c15
                      have c15b1 : decide ((ji13) ≤ (((rd_T37 x0_1 x3_1).f4).length : Int)) = true := decide_eq_true c15
                      clear c15
                      obtain ⟨y132, hy132⟩ : ∃ y_ : List Int, y_ = (((rd_T37 x0_1 x3_1).f4).take ((ji13) : Int).toNat) := ⟨_, rfl⟩
                      replace H : (if 0 ≤ (mn (((rd_T37 x0_1 x3_1).f2).size : Int) 30) then (if (mn (((rd_T37 x0_1 x3_1).f2).size : Int) 30) ≤ (((rd_T37 x0_1 x3_1).f2).size : Int) then (armillarylaw08_cut.l0 k1 (x0_1.set (x3_1 : Int).toNat (⟨(rd_T37 x0_1 x3_1).f0, (rd_T37 x0_1 x3_1).f1, ((rd_T37 x0_1 x3_1).f2).extract 0 ((mn (((rd_T37 x0_1 x3_1).f2).size : Int) 30) : Int).toNat, y127, y132⟩ : S37)) (wrap64 (x3_1 + 1))) else (none)) else (none)) = some r := by first | (rw [hy132]; with_reducible exact H) | (have H2_ := (Option.bind_some _ _).symm.trans H; rw [hy132]; with_reducible exact H2_) | (have H2_ := (Option.bind_some _ _).symm.trans H; with_reducible exact H2_) | with_reducible exact H | (rw [hy132]; exact H) | exact H
                      have Ny132 := Aside0.mk hy132
                      clear hy132
                      obtain ⟨ji16, hji16⟩ : ∃ j_ : Int, (mn (((rd_T37 x0_1 x3_1).f2).size : Int) 30) = j_ := ⟨_, rfl⟩
                      replace H : (if 0 ≤ (ji16) then (if (ji16) ≤ (((rd_T37 x0_1 x3_1).f2).size : Int) then (armillarylaw08_cut.l0 k1 (x0_1.set (x3_1 : Int).toNat (⟨(rd_T37 x0_1 x3_1).f0, (rd_T37 x0_1 x3_1).f1, ((rd_T37 x0_1 x3_1).f2).extract 0 ((ji16) : Int).toNat, y127, y132⟩ : S37)) (wrap64 (x3_1 + 1))) else (none)) else (none)) = some r := by first | (rw [hji16] at H; exact H) | (simp only [hji16] at H ⊢; exact H)
                      have hji16_ : (if 30 < (((rd_T37 x0_1 x3_1).f2).size : Int) then 30 else (((rd_T37 x0_1 x3_1).f2).size : Int)) = ji16 := hji16
                      by_cases c17 : 0 ≤ (ji16)
                      · rw [if_pos c17] at H
                        have c17b0 := eq_true c17
                        have c17b1 : decide (0 ≤ (ji16)) = true := decide_eq_true c17
                        clear c17
                        by_cases c18 : (ji16) ≤ (((rd_T37 x0_1 x3_1).f2).size : Int)
                        · rw [if_pos c18] at H
                          have c18b0 := eq_true c18
                          have c18b1 : decide ((ji16) ≤ (((rd_T37 x0_1 x3_1).f2).size : Int)) = true := decide_eq_true c18
                          clear c18
                          obtain ⟨y137, hy137⟩ : ∃ y_ : List (S37), y_ = (x0_1.set (x3_1 : Int).toNat (⟨(rd_T37 x0_1 x3_1).f0, (rd_T37 x0_1 x3_1).f1, ((rd_T37 x0_1 x3_1).f2).extract 0 ((ji16) : Int).toNat, y127, y132⟩ : S37)) := ⟨_, rfl⟩
                          replace H : (armillarylaw08_cut.l0 k1 y137 (wrap64 (x3_1 + 1))) = some r := by first | (rw [hy137]; with_reducible exact H) | (have H2_ := (Option.bind_some _ _).symm.trans H; rw [hy137]; with_reducible exact H2_) | (have H2_ := (Option.bind_some _ _).symm.trans H; with_reducible exact H2_) | with_reducible exact H | (rw [hy137]; exact H) | exact H
                          have Ny137 := Aside0.mk hy137
                          clear hy137
                          have H' := Aside0.mk H
                          clear H
                          obtain ⟨Ao20, co20, eo20⟩ := Kd.N_slice HO_0.out
                          subst eo20
                          have p125 : 0 ≤ (x3_1 : Int) := of_decide_eq_true (by first | (with_reducible assumption) | assumption)
                          have q125 : x3_1 < (x0_1.length : Int) := of_decide_eq_true (by first | (with_reducible assumption) | assumption)
                          obtain ⟨ad125, A125_3, c125_3, A125_4, c125_4, e125, hx125_0, hx125_1, hx125_2, hx125_3, hx125_4, hl125_3, hi125_3, hl125_4, hi125_4⟩ := at_T37 (Kd.N_reads' HO_0.out).2.2 x3_1 p125 q125
                          cases e125
                          obtain ⟨ce125, hce125, hMe125, hcc125⟩ := Kd.N_get HO_0.out z37 x3_1 p125 (by first | exact q125 | exact of_decide_eq_true (by first | (with_reducible assumption) | assumption) | (have e_ := (Kd.N_reads' HO_0.out).1; omega))
                          obtain ⟨ua125_3, uc125_3, ua125_4, uc125_4, rfl, ul125_3, ge125_3, ul125_4, ge125_4⟩ := k37_openF hMe125
                          have hv125_3 := hcc125 3 _ rfl
                          rw [add_field _ _ 3 (by omega)] at hv125_3
                          replace hv125_3 := Option.some.inj (hv125_3.symm.trans hx125_3)
                          injection hv125_3 with hva_ hvn_ hvc_
                          rw [hva_] at ge125_3
                          rw [hvc_] at ul125_3
                          have HL125_3 := Aside0.mk (show Kd.V Kd.string 9 _ w.heap.size _ _ ((rd_T37 x0_1 x3_1).f3) from Kd.V_mk ul125_3 ge125_3)
                          clear hva_ hvn_ hvc_ ge125_3 ul125_3
                          have hv125_4 := hcc125 4 _ rfl
                          rw [add_field _ _ 4 (by omega)] at hv125_4
                          replace hv125_4 := Option.some.inj (hv125_4.symm.trans hx125_4)
                          injection hv125_4 with hva_ hvn_ hvc_
                          rw [hva_] at ge125_4
                          rw [hvc_] at ul125_4
                          have HL125_4 := Aside0.mk (show Kd.V (Kd.int .i64) 3 _ w.heap.size _ _ ((rd_T37 x0_1 x3_1).f4) from Kd.V_mk ul125_4 ge125_4)
                          clear hva_ hvn_ hvc_ ge125_4 ul125_4
                          clear hcc125 hce125
                          have HR125_3 := Aside0.mk hi125_3
                          have HC125_3 := Aside0.mk hl125_3
                          clear hi125_3 hl125_3
                          have HR125_4 := Aside0.mk hi125_4
                          have HC125_4 := Aside0.mk hl125_4
                          clear hi125_4 hl125_4
                          replace p125 := eq_true p125
                          replace q125 := eq_true q125
                          try go_wp2_with (first | ((with_reducible refine gate_dst (N := 4) rfl ?_); refine box_event ?hg (N := 4) ?hd (cs := #[.int .i64 0, .int .i64 0, .string (⟨#[]⟩ : ByteArray), .slice none 0 0, .slice none 0 0]) (t := 37) ?hr ?_; (case hd => rfl); (case hg => rfl); (case hr => first | (go_simp; done) | (go_simp; rfl)); intro gb126 hg w21 hbox hb; have n0_ := Aside0.mk (Kd.N_below (Kd.N_elderB (by (with_reducible repeat (first | apply Kd.N_alloc | apply Kd.N_drewN | apply Kd.N_drew)); exact HO_0.out) gb126 (Nat.le_of_eq hg.symm)) hb); have n1_ := Aside0.mk (Kd.V_below (Kd.V_elderB (by (with_reducible repeat (first | apply Kd.V_alloc | apply Kd.V_drewN | apply Kd.V_drew)); exact HL125_3.out) gb126 (Nat.le_of_eq hg.symm)) hb); have n2_ := Aside0.mk (Kd.V_below (Kd.V_elderB (by (with_reducible repeat (first | apply Kd.V_alloc | apply Kd.V_drewN | apply Kd.V_drew)); exact HL125_4.out) gb126 (Nat.le_of_eq hg.symm)) hb); have n3_ := Aside0.mk (Kd.C_below (by repeat (first | (with_reducible exact HR125_3.out) | (with_reducible refine Kd.C_alloc ?_ _) | (with_reducible refine Kd.C_drewN ?_ _) | (with_reducible refine Kd.C_drew ?_) | exact HR125_3.out)) hb); have n4_ := Aside0.mk (Kd.C_below (by repeat (first | (with_reducible exact HR125_4.out) | (with_reducible refine Kd.C_alloc ?_ _) | (with_reducible refine Kd.C_drewN ?_ _) | (with_reducible refine Kd.C_drew ?_) | exact HR125_4.out)) hb); have n5_ := Aside0.mk (below_step (by repeat (first | (with_reducible first | exact HB.out | apply below_alloc | apply pw_below_drewN | apply below_drew1) | exact HB.out)) hb); have n6_ := Aside0.mk (hbox); have n7_ := Aside0.mk ((by rw [hg]; exact (below_size (by repeat (first | (with_reducible first | exact HB.out | apply below_alloc | apply pw_below_drewN | apply below_drew1) | exact HB.out))) : w.heap.size ≤ gb126)); have n8_ := Aside0.mk ((by rw [hg]; exact (below_size (by repeat (first | (with_reducible first | exact HB.out | apply below_alloc | apply pw_below_drewN | apply below_drew1) | exact HB.out))) : w.heap.size ≤ gb126)); clear HO_0; clear HL125_3; clear HL125_4; clear HR125_3; clear HR125_4; clear HB; have HO_0 := n0_; have HL125_3 := n1_; have HL125_4 := n2_; have HR125_3 := n3_; have HR125_4 := n4_; have HB := n5_; have BK126 := n6_; have GW126 := n7_; have GE126 := n8_; clear n0_ n1_ n2_ n3_ n4_ n5_ n6_ n7_ n8_; clear hb hbox hg; have hcz22_0 : w21.cell? ⟨gb126, 0, none⟩ = some (.int .i64 0) := (blk_cell BK126.out 0).trans rfl; have hcz22_1 : w21.cell? ⟨gb126, 1, none⟩ = some (.int .i64 0) := (blk_cell BK126.out 1).trans rfl; have hcz22_2 : w21.cell? ⟨gb126, 2, none⟩ = some (.string (⟨#[]⟩ : ByteArray)) := (blk_cell BK126.out 2).trans rfl; have hcz22_3 : w21.cell? ⟨gb126, 3, none⟩ = some (.slice none 0 0) := (blk_cell BK126.out 3).trans rfl; have hcz22_4 : w21.cell? ⟨gb126, 4, none⟩ = some (.slice none 0 0) := (blk_cell BK126.out 4).trans rfl; have hfz22_0 := blk_frozen BK126.out 0; have hfz22_1 := blk_frozen BK126.out 1; have hfz22_2 := blk_frozen BK126.out 2; have hfz22_3 := blk_frozen BK126.out 3; have hfz22_4 := blk_frozen BK126.out 4))
                          have n0_ : Aside0 (Kd.N k37 37 (((((w21.setCell ⟨gb126, 0, none⟩ (.int .i64 ((rd_T37 x0_1 x3_1).f0))).setCell ⟨gb126, 1, none⟩ (.int .i64 ((rd_T37 x0_1 x3_1).f1))).setCell ⟨gb126, 2, none⟩ (.string ((rd_T37 x0_1 x3_1).f2))).setCell ⟨gb126, 3, none⟩ (.slice A125_3 ((rd_T37 x0_1 x3_1).f3).length c125_3)).setCell ⟨gb126, 4, none⟩ (.slice A125_4 ((rd_T37 x0_1 x3_1).f4).length c125_4)) w.heap.size (fun k_ => (w.heap.size ≤ k_) ∧ k_ ≠ gb126) (.slice (some ad125) x0_1.length co20) x0_1) := ⟨by (with_reducible repeat (first | apply Kd.N_alloc | apply Kd.N_drewN | apply Kd.N_drew)); exact Kd.N_mono (Kd.N_far (p := ⟨gb126, 4, none⟩) (Kd.N_far (p := ⟨gb126, 3, none⟩) (Kd.N_far (p := ⟨gb126, 2, none⟩) (Kd.N_far (p := ⟨gb126, 1, none⟩) (Kd.N_far (p := ⟨gb126, 0, none⟩) (Kd.N_mono HO_0.out (fun k_ hk => (⟨hk, hk.2⟩ : _ ∧ k_ ≠ gb126))) (fun _ hk => hk.2) (.int .i64 ((rd_T37 x0_1 x3_1).f0))) (fun _ hk => hk.2) (.int .i64 ((rd_T37 x0_1 x3_1).f1))) (fun _ hk => hk.2) (.string ((rd_T37 x0_1 x3_1).f2))) (fun _ hk => hk.2) (.slice A125_3 ((rd_T37 x0_1 x3_1).f3).length c125_3)) (fun _ hk => hk.2) (.slice A125_4 ((rd_T37 x0_1 x3_1).f4).length c125_4)) (fun _ hk => ⟨hk.1.1, hk.1.2⟩)⟩
                          have n1_ : Aside0 (Kd.V Kd.string 9 (((((w21.setCell ⟨gb126, 0, none⟩ (.int .i64 ((rd_T37 x0_1 x3_1).f0))).setCell ⟨gb126, 1, none⟩ (.int .i64 ((rd_T37 x0_1 x3_1).f1))).setCell ⟨gb126, 2, none⟩ (.string ((rd_T37 x0_1 x3_1).f2))).setCell ⟨gb126, 3, none⟩ (.slice A125_3 ((rd_T37 x0_1 x3_1).f3).length c125_3)).setCell ⟨gb126, 4, none⟩ (.slice A125_4 ((rd_T37 x0_1 x3_1).f4).length c125_4)) w.heap.size (fun k_ => (w.heap.size ≤ k_) ∧ some k_ ≠ (.slice (some ad125) x0_1.length co20 : Value).ownBlock ∧ k_ ≠ gb126) (.slice A125_3 ((rd_T37 x0_1 x3_1).f3).length c125_3) ((rd_T37 x0_1 x3_1).f3)) := ⟨by (with_reducible repeat (first | apply Kd.V_alloc | apply Kd.V_drewN | apply Kd.V_drew)); exact Kd.V_mono (Kd.V_far (p := ⟨gb126, 4, none⟩) (Kd.V_far (p := ⟨gb126, 3, none⟩) (Kd.V_far (p := ⟨gb126, 2, none⟩) (Kd.V_far (p := ⟨gb126, 1, none⟩) (Kd.V_far (p := ⟨gb126, 0, none⟩) (Kd.V_mono HL125_3.out (fun k_ hk => (⟨hk, hk.2⟩ : _ ∧ k_ ≠ gb126))) (fun _ hk => hk.2) (.int .i64 ((rd_T37 x0_1 x3_1).f0))) (fun _ hk => hk.2) (.int .i64 ((rd_T37 x0_1 x3_1).f1))) (fun _ hk => hk.2) (.string ((rd_T37 x0_1 x3_1).f2))) (fun _ hk => hk.2) (.slice A125_3 ((rd_T37 x0_1 x3_1).f3).length c125_3)) (fun _ hk => hk.2) (.slice A125_4 ((rd_T37 x0_1 x3_1).f4).length c125_4)) (fun _ hk => ⟨hk.1.1.1, ⟨hk.1.1.2, hk.1.2⟩⟩)⟩
                          have n2_ : Aside0 (Kd.V (Kd.int .i64) 3 (((((w21.setCell ⟨gb126, 0, none⟩ (.int .i64 ((rd_T37 x0_1 x3_1).f0))).setCell ⟨gb126, 1, none⟩ (.int .i64 ((rd_T37 x0_1 x3_1).f1))).setCell ⟨gb126, 2, none⟩ (.string ((rd_T37 x0_1 x3_1).f2))).setCell ⟨gb126, 3, none⟩ (.slice A125_3 ((rd_T37 x0_1 x3_1).f3).length c125_3)).setCell ⟨gb126, 4, none⟩ (.slice A125_4 ((rd_T37 x0_1 x3_1).f4).length c125_4)) w.heap.size (fun k_ => (w.heap.size ≤ k_) ∧ some k_ ≠ (.slice (some ad125) x0_1.length co20 : Value).ownBlock ∧ k_ ≠ gb126) (.slice A125_4 ((rd_T37 x0_1 x3_1).f4).length c125_4) ((rd_T37 x0_1 x3_1).f4)) := ⟨by (with_reducible repeat (first | apply Kd.V_alloc | apply Kd.V_drewN | apply Kd.V_drew)); exact Kd.V_mono (Kd.V_far (p := ⟨gb126, 4, none⟩) (Kd.V_far (p := ⟨gb126, 3, none⟩) (Kd.V_far (p := ⟨gb126, 2, none⟩) (Kd.V_far (p := ⟨gb126, 1, none⟩) (Kd.V_far (p := ⟨gb126, 0, none⟩) (Kd.V_mono HL125_4.out (fun k_ hk => (⟨hk, hk.2⟩ : _ ∧ k_ ≠ gb126))) (fun _ hk => hk.2) (.int .i64 ((rd_T37 x0_1 x3_1).f0))) (fun _ hk => hk.2) (.int .i64 ((rd_T37 x0_1 x3_1).f1))) (fun _ hk => hk.2) (.string ((rd_T37 x0_1 x3_1).f2))) (fun _ hk => hk.2) (.slice A125_3 ((rd_T37 x0_1 x3_1).f3).length c125_3)) (fun _ hk => hk.2) (.slice A125_4 ((rd_T37 x0_1 x3_1).f4).length c125_4)) (fun _ hk => ⟨hk.1.1.1, ⟨hk.1.1.2, hk.1.2⟩⟩)⟩
                          have n3_ : Aside0 ((((((w21.setCell ⟨gb126, 0, none⟩ (.int .i64 ((rd_T37 x0_1 x3_1).f0))).setCell ⟨gb126, 1, none⟩ (.int .i64 ((rd_T37 x0_1 x3_1).f1))).setCell ⟨gb126, 2, none⟩ (.string ((rd_T37 x0_1 x3_1).f2))).setCell ⟨gb126, 3, none⟩ (.slice A125_3 ((rd_T37 x0_1 x3_1).f3).length c125_3)).setCell ⟨gb126, 4, none⟩ (.slice A125_4 ((rd_T37 x0_1 x3_1).f4).length c125_4)).heap[gb126]? = some (.cells #[.int .i64 ((rd_T37 x0_1 x3_1).f0), .int .i64 ((rd_T37 x0_1 x3_1).f1), .string ((rd_T37 x0_1 x3_1).f2), .slice A125_3 ((rd_T37 x0_1 x3_1).f3).length c125_3, .slice A125_4 ((rd_T37 x0_1 x3_1).f4).length c125_4] 37 (0, 0))) := ⟨by (with_reducible repeat (first | refine blk_drewN ?_ _ | refine blk_drew ?_ | refine blk_alloc ?_ _)); refine blk_put (cs := #[.int .i64 ((rd_T37 x0_1 x3_1).f0), .int .i64 ((rd_T37 x0_1 x3_1).f1), .string ((rd_T37 x0_1 x3_1).f2), .slice A125_3 ((rd_T37 x0_1 x3_1).f3).length c125_3, .slice none 0 0]) ?_ 4 _ rfl; (with_reducible repeat (first | refine blk_drewN ?_ _ | refine blk_drew ?_ | refine blk_alloc ?_ _)); refine blk_put (cs := #[.int .i64 ((rd_T37 x0_1 x3_1).f0), .int .i64 ((rd_T37 x0_1 x3_1).f1), .string ((rd_T37 x0_1 x3_1).f2), .slice none 0 0, .slice none 0 0]) ?_ 3 _ rfl; (with_reducible repeat (first | refine blk_drewN ?_ _ | refine blk_drew ?_ | refine blk_alloc ?_ _)); refine blk_put (cs := #[.int .i64 ((rd_T37 x0_1 x3_1).f0), .int .i64 ((rd_T37 x0_1 x3_1).f1), .string (⟨#[]⟩ : ByteArray), .slice none 0 0, .slice none 0 0]) ?_ 2 _ rfl; (with_reducible repeat (first | refine blk_drewN ?_ _ | refine blk_drew ?_ | refine blk_alloc ?_ _)); refine blk_put (cs := #[.int .i64 ((rd_T37 x0_1 x3_1).f0), .int .i64 0, .string (⟨#[]⟩ : ByteArray), .slice none 0 0, .slice none 0 0]) ?_ 1 _ rfl; (with_reducible repeat (first | refine blk_drewN ?_ _ | refine blk_drew ?_ | refine blk_alloc ?_ _)); refine blk_put (cs := #[.int .i64 0, .int .i64 0, .string (⟨#[]⟩ : ByteArray), .slice none 0 0, .slice none 0 0]) ?_ 0 _ rfl; (with_reducible repeat (first | refine blk_drewN ?_ _ | refine blk_drew ?_ | refine blk_alloc ?_ _)); exact BK126.out⟩
                          have n4_ : Aside0 (Below w.heap.size w (((((w21.setCell ⟨gb126, 0, none⟩ (.int .i64 ((rd_T37 x0_1 x3_1).f0))).setCell ⟨gb126, 1, none⟩ (.int .i64 ((rd_T37 x0_1 x3_1).f1))).setCell ⟨gb126, 2, none⟩ (.string ((rd_T37 x0_1 x3_1).f2))).setCell ⟨gb126, 3, none⟩ (.slice A125_3 ((rd_T37 x0_1 x3_1).f3).length c125_3)).setCell ⟨gb126, 4, none⟩ (.slice A125_4 ((rd_T37 x0_1 x3_1).f4).length c125_4))) := ⟨by repeat (first | (with_reducible first | exact HB.out | apply below_alloc | apply pw_below_drewN | apply below_drew1 | refine below_set ?_ GE126.out) | exact HB.out)⟩
                          (try clear HO_0)
                          (try clear HL125_3)
                          (try clear HL125_4)
                          (try clear BK126)
                          (try clear HB)
                          generalize (((((w21.setCell ⟨gb126, 0, none⟩ (.int .i64 ((rd_T37 x0_1 x3_1).f0))).setCell ⟨gb126, 1, none⟩ (.int .i64 ((rd_T37 x0_1 x3_1).f1))).setCell ⟨gb126, 2, none⟩ (.string ((rd_T37 x0_1 x3_1).f2))).setCell ⟨gb126, 3, none⟩ (.slice A125_3 ((rd_T37 x0_1 x3_1).f3).length c125_3)).setCell ⟨gb126, 4, none⟩ (.slice A125_4 ((rd_T37 x0_1 x3_1).f4).length c125_4)) = w23 at n0_ n1_ n2_ n3_ n4_ ⊢
                          have HO_0 := n0_
                          have HL125_3 := n1_
                          have HL125_4 := n2_
                          have BK126 := n3_
                          have HB := n4_
                          clear n0_ n1_ n2_ n3_ n4_
                          have n0_ := Aside0.mk (Kd.N_drew HO_0.out)
                          have n1_ := Aside0.mk (Kd.V_drew HL125_3.out)
                          have n2_ := Aside0.mk (Kd.V_drew HL125_4.out)
                          have n3_ := Aside0.mk (blk_drew BK126.out)
                          have n4_ := Aside0.mk (below_drew1 HB.out)
                          clear HO_0
                          clear HL125_3
                          clear HL125_4
                          clear BK126
                          clear HB
                          have HO_0 := n0_
                          have HL125_3 := n1_
                          have HL125_4 := n2_
                          have BK126 := n3_
                          have HB := n4_
                          clear n0_ n1_ n2_ n3_ n4_
                          have q25 : ((ji10) : Int) ≤ ((((rd_T37 x0_1 x3_1).f3).length : Int) : Int) := of_decide_eq_true (by first | (with_reducible assumption) | assumption)
                          obtain ⟨i025, hi025, _, hsz25, _⟩ := info_parts info9
                          have hroom25 : ((rd_T37 x0_1 x3_1).f3).length ≤ c125_3 := HC125_3.out
                          have hC25 : Kd.F Kd.string _ _ A125_3 ((rd_T37 x0_1 x3_1).f3).length ((rd_T37 x0_1 x3_1).f3) := (Kd.V_at (base := w.heap.size) HL125_3.out).2.2
                          have hcut25 := cut_to (P := Tryd.prog) 35 9 .i64 Tryd.underlying35 hi025 A125_3 ((rd_T37 x0_1 x3_1).f3).length c125_3 (ji10) (of_decide_eq_true (by first | (with_reducible assumption) | assumption)) q25 hroom25
                          have hr25 := Kd.F_take (m := ((ji10) : Int).toNat) hC25 (by omega)
                          have hy25 : y127.length = ((ji10) : Int).toNat := (by rw [Ny127.out, List.length_take]; omega)
                          rw [← Ny127.out] at hr25
                          rw [← hy25] at hcut25
                          have HO131 := Aside0.mk (show Kd.V Kd.string 9 _ w.heap.size _ (.slice A125_3 y127.length c125_3) y127 from Kd.V_mk (by omega) hr25)
                          have HC131 := Aside0.mk (show y127.length ≤ c125_3 from by omega)
                          clear hr25 hC25 hroom25 hi025 hsz25
                          have KY25 := Aside0.mk hy25
                          clear hy25
                          replace q25 := eq_true q25
                          have q26 : ((ji13) : Int) ≤ ((((rd_T37 x0_1 x3_1).f4).length : Int) : Int) := of_decide_eq_true (by first | (with_reducible assumption) | assumption)
                          obtain ⟨i026, hi026, _, hsz26, _⟩ := info_parts info3
                          have hroom26 : ((rd_T37 x0_1 x3_1).f4).length ≤ c125_4 := HC125_4.out
                          have hC26 : Kd.F (Kd.int .i64) _ _ A125_4 ((rd_T37 x0_1 x3_1).f4).length ((rd_T37 x0_1 x3_1).f4) := (Kd.V_at (base := w.heap.size) HL125_4.out).2.2
                          have hcut26 := cut_to (P := Tryd.prog) 23 3 .i64 Tryd.underlying23 hi026 A125_4 ((rd_T37 x0_1 x3_1).f4).length c125_4 (ji13) (of_decide_eq_true (by first | (with_reducible assumption) | assumption)) q26 hroom26
                          have hr26 := Kd.F_take (m := ((ji13) : Int).toNat) hC26 (by omega)
                          have hy26 : y132.length = ((ji13) : Int).toNat := (by rw [Ny132.out, List.length_take]; omega)
                          rw [← Ny132.out] at hr26
                          rw [← hy26] at hcut26
                          have HO136 := Aside0.mk (show Kd.V (Kd.int .i64) 3 _ w.heap.size _ (.slice A125_4 y132.length c125_4) y132 from Kd.V_mk (by omega) hr26)
                          have HC136 := Aside0.mk (show y132.length ≤ c125_4 from by omega)
                          clear hr26 hC26 hroom26 hi026 hsz26
                          have KY26 := Aside0.mk hy26
                          clear hy26
                          replace q26 := eq_true q26
                          refine start_ (n := 27) (S := fun w' => w'.cell? ⟨gb126, 0, none⟩ = some (.int .i64 ((rd_T37 x0_1 x3_1).f0)) ∧ w'.cell? ⟨gb126, 1, none⟩ = some (.int .i64 ((rd_T37 x0_1 x3_1).f1)) ∧ w'.cell? ⟨gb126, 2, none⟩ = some (.string ((rd_T37 x0_1 x3_1).f2)) ∧ w'.cell? ⟨gb126, 3, none⟩ = some (.slice A125_3 ((rd_T37 x0_1 x3_1).f3).length c125_3) ∧ w'.cell? ⟨gb126, 4, none⟩ = some (.slice A125_4 ((rd_T37 x0_1 x3_1).f4).length c125_4)) (ds := [22, 24, 26]) #[false, false, false, false, false, false, false, false, false, false, false, false, false, false, false, false, false, false, false, false, false, false, false, false, false, false, false] (by kernel_rfl) rfl rfl ⟨(blk_cell BK126.out 0).trans rfl, (blk_cell BK126.out 1).trans rfl, (blk_cell BK126.out 2).trans rfl, (blk_cell BK126.out 3).trans rfl, (blk_cell BK126.out 4).trans rfl⟩ (fun hHeld => ?_); refine with_tabW armillarylaw08_cut.tab6 armillarylaw08_cut.bits6 (fun HT_ HW_ => ?_)
                          generalize w23.drew = w24 at HO_0 HL125_3 HL125_4 BK126 HB HO131 HO136 hHeld ⊢
                          refine pure_ (i := 0) (N := some 21) (v := ?_) (a' := ?_) #[true, false, false, false, false, false, false, false, false, false, false, false, false, false, false, false, false, false, false, false, false, false, false, false, false, false, false] rfl rfl (any_of HT_.out (by kernel_rfl)) (fun _ _ _ h => h) (Or.inl ⟨by rfl, ?_⟩) ?_ ?_
                          rotate_left
                          · intro w'
                            go_simp
                            with_reducible rfl
                          rotate_left
                          · simp only [Act.put, List.setIfInBounds_toArray, List.set_cons_zero, List.set_cons_succ, i64_w, i32_w]
                            rfl
                          refine pure_ (i := 2) (N := some 23) (v := ?_) (a' := ?_) #[true, false, true, false, false, false, false, false, false, false, false, false, false, false, false, false, false, false, false, false, false, false, false, false, false, false, false] rfl rfl (any_of HT_.out (by kernel_rfl)) (fun _ _ _ h => h) (Or.inl ⟨by rfl, ?_⟩) ?_ ?_
                          rotate_left
                          · intro w'
                            go_simp
                            with_reducible rfl
                          rotate_left
                          · simp only [Act.put, List.setIfInBounds_toArray, List.set_cons_zero, List.set_cons_succ, i64_w, i32_w]
                            rfl
                          refine pure_ (i := 7) (N := some 28) (v := ?_) (a' := ?_) #[true, false, true, false, false, false, false, true, false, false, false, false, false, false, false, false, false, false, false, false, false, false, false, false, false, false, false] rfl rfl (any_of HT_.out (by kernel_rfl)) (fun _ _ _ h => h) (Or.inl ⟨by rfl, ?_⟩) ?_ ?_
                          rotate_left
                          · intro w'
                            go_simp
                            with_reducible rfl
                          rotate_left
                          · simp only [Act.put, List.setIfInBounds_toArray, List.set_cons_zero, List.set_cons_succ, i64_w, i32_w]
                            rfl
                          refine pure_ (i := 9) (N := some 30) (v := ?_) (a' := ?_) #[true, false, true, false, false, false, false, true, false, true, false, false, false, false, false, false, false, false, false, false, false, false, false, false, false, false, false] rfl rfl (any_of HT_.out (by kernel_rfl)) (fun _ _ _ h => h) (Or.inl ⟨by rfl, ?_⟩) ?_ ?_
                          rotate_left
                          · intro w'
                            go_simp
                            with_reducible rfl
                          rotate_left
                          · simp only [Act.put, List.setIfInBounds_toArray, List.set_cons_zero, List.set_cons_succ, i64_w, i32_w]
                            rfl
                          refine pure_ (i := 14) (N := some 35) (v := ?_) (a' := ?_) #[true, false, true, false, false, false, false, true, false, true, false, false, false, false, true, false, false, false, false, false, false, false, false, false, false, false, false] rfl rfl (any_of HT_.out (by kernel_rfl)) (fun _ _ _ h => h) (Or.inl ⟨by rfl, ?_⟩) ?_ ?_
                          rotate_left
                          · intro w'
                            go_simp
                            with_reducible rfl
                          rotate_left
                          · simp only [Act.put, List.setIfInBounds_toArray, List.set_cons_zero, List.set_cons_succ, i64_w, i32_w]
                            rfl
                          refine pure_ (i := 16) (N := some 37) (v := ?_) (a' := ?_) #[true, false, true, false, false, false, false, true, false, true, false, false, false, false, true, false, true, false, false, false, false, false, false, false, false, false, false] rfl rfl (any_of HT_.out (by kernel_rfl)) (fun _ _ _ h => h) (Or.inl ⟨by rfl, ?_⟩) ?_ ?_
                          rotate_left
                          · intro w'
                            go_simp
                            with_reducible rfl
                          rotate_left
                          · simp only [Act.put, List.setIfInBounds_toArray, List.set_cons_zero, List.set_cons_succ, i64_w, i32_w]
                            rfl
                          refine take_ (i := 1) (N := some 22) (v := ?_) (a' := ?_) #[true, true, true, false, false, false, false, true, false, true, false, false, false, false, true, false, true, false, false, false, false, false, false, false, false, false, false] rfl rfl (take_ofW HT_.out HW_.out (by kernel_rfl)) (fun _ _ _ h => h) (Or.inl ⟨by rfl, ?_⟩) hHeld ?_ ?_
                          rotate_left
                          · rintro w' ⟨s0, s1, s2, s3, s4⟩
                            go_simp
                            with_reducible rfl
                          rotate_left
                          · simp only [Act.put, List.setIfInBounds_toArray, List.set_cons_zero, List.set_cons_succ, i64_w, i32_w]
                            rfl
                          refine take_ (i := 3) (N := some 24) (v := ?_) (a' := ?_) #[true, true, true, true, false, false, false, true, false, true, false, false, false, false, true, false, true, false, false, false, false, false, false, false, false, false, false] rfl rfl (take_ofW HT_.out HW_.out (by kernel_rfl)) (fun _ _ _ h => h) (Or.inl ⟨by rfl, ?_⟩) hHeld ?_ ?_
                          rotate_left
                          · rintro w' ⟨s0, s1, s2, s3, s4⟩
                            go_simp
                            with_reducible rfl
                          rotate_left
                          · simp only [Act.put, List.setIfInBounds_toArray, List.set_cons_zero, List.set_cons_succ, i64_w, i32_w]
                            rfl
                          refine pure_ (i := 4) (N := some 25) (v := ?_) (a' := ?_) #[true, true, true, true, true, false, false, true, false, true, false, false, false, false, true, false, true, false, false, false, false, false, false, false, false, false, false] rfl rfl (any_of HT_.out (by kernel_rfl)) (fun _ _ _ h => h) (Or.inl ⟨by rfl, ?_⟩) ?_ ?_
                          rotate_left
                          · intro w'
                            go_simp
                            with_reducible rfl
                          rotate_left
                          · simp only [Act.put, List.setIfInBounds_toArray, List.set_cons_zero, List.set_cons_succ, i64_w, i32_w]
                            rfl
                          refine pure_ (i := 5) (N := some 26) (v := ?_) (a' := ?_) #[true, true, true, true, true, true, false, true, false, true, false, false, false, false, true, false, true, false, false, false, false, false, false, false, false, false, false] rfl rfl (any_of HT_.out (by kernel_rfl)) (fun _ _ _ h => h) (Or.inl ⟨by rfl, ?_⟩) ?_ ?_
                          rotate_left
                          · intro w'
                            go_simp
                            with_reducible rfl
                          rotate_left
                          · simp only [Act.put, List.setIfInBounds_toArray, List.set_cons_zero, List.set_cons_succ, i64_w, i32_w]
                            rfl
                          refine pure_ (i := 6) (N := some 27) (v := ?_) (a' := ?_) #[true, true, true, true, true, true, true, true, false, true, false, false, false, false, true, false, true, false, false, false, false, false, false, false, false, false, false] rfl rfl (any_of HT_.out (by kernel_rfl)) (fun _ _ _ h => h) (Or.inl ⟨by rfl, ?_⟩) ?_ ?_
                          rotate_left
                          · intro w'
                            go_simp
                            with_reducible rfl
                          rotate_left
                          · simp only [Act.put, List.setIfInBounds_toArray, List.set_cons_zero, List.set_cons_succ, i64_w, i32_w]
                            rfl
                          refine take_ (i := 8) (N := some 29) (v := ?_) (a' := ?_) #[true, true, true, true, true, true, true, true, true, true, false, false, false, false, true, false, true, false, false, false, false, false, false, false, false, false, false] rfl rfl (take_ofW HT_.out HW_.out (by kernel_rfl)) (fun _ _ _ h => h) (Or.inl ⟨by rfl, ?_⟩) hHeld ?_ ?_
                          rotate_left
                          · rintro w' ⟨s0, s1, s2, s3, s4⟩
                            go_simp
                            with_reducible rfl
                          rotate_left
                          · simp only [Act.put, List.setIfInBounds_toArray, List.set_cons_zero, List.set_cons_succ, i64_w, i32_w]
                            rfl
                          refine take_ (i := 10) (N := some 31) (v := ?_) (a' := ?_) #[true, true, true, true, true, true, true, true, true, true, true, false, false, false, true, false, true, false, false, false, false, false, false, false, false, false, false] rfl rfl (take_ofW HT_.out HW_.out (by kernel_rfl)) (fun _ _ _ h => h) (Or.inl ⟨by rfl, ?_⟩) hHeld ?_ ?_
                          rotate_left
                          · rintro w' ⟨s0, s1, s2, s3, s4⟩
                            go_simp
                            with_reducible rfl
                          rotate_left
                          · simp only [Act.put, List.setIfInBounds_toArray, List.set_cons_zero, List.set_cons_succ, i64_w, i32_w]
                            rfl
                          refine pure_ (i := 11) (N := some 32) (v := ?_) (a' := ?_) #[true, true, true, true, true, true, true, true, true, true, true, true, false, false, true, false, true, false, false, false, false, false, false, false, false, false, false] rfl rfl (any_of HT_.out (by kernel_rfl)) (fun _ _ _ h => h) (Or.inl ⟨by rfl, ?_⟩) ?_ ?_
                          rotate_left
                          · intro w'
                            go_simp
                            with_reducible rfl
                          rotate_left
                          · simp only [Act.put, List.setIfInBounds_toArray, List.set_cons_zero, List.set_cons_succ, i64_w, i32_w]
                            rfl
                          refine pure_ (i := 12) (N := some 33) (v := ?_) (a' := ?_) #[true, true, true, true, true, true, true, true, true, true, true, true, true, false, true, false, true, false, false, false, false, false, false, false, false, false, false] rfl rfl (any_of HT_.out (by kernel_rfl)) (fun _ _ _ h => h) (Or.inl ⟨by rfl, ?_⟩) ?_ ?_
                          rotate_left
                          · intro w'
                            go_simp
                            with_reducible rfl
                          rotate_left
                          · simp only [Act.put, List.setIfInBounds_toArray, List.set_cons_zero, List.set_cons_succ, i64_w, i32_w]
                            rfl
                          refine pure_ (i := 13) (N := some 34) (v := ?_) (a' := ?_) #[true, true, true, true, true, true, true, true, true, true, true, true, true, true, true, false, true, false, false, false, false, false, false, false, false, false, false] rfl rfl (any_of HT_.out (by kernel_rfl)) (fun _ _ _ h => h) (Or.inl ⟨by rfl, ?_⟩) ?_ ?_
                          rotate_left
                          · intro w'
                            go_simp
                            with_reducible rfl
                          rotate_left
                          · simp only [Act.put, List.setIfInBounds_toArray, List.set_cons_zero, List.set_cons_succ, i64_w, i32_w]
                            rfl
                          refine take_ (i := 15) (N := some 36) (v := ?_) (a' := ?_) #[true, true, true, true, true, true, true, true, true, true, true, true, true, true, true, true, true, false, false, false, false, false, false, false, false, false, false] rfl rfl (take_ofW HT_.out HW_.out (by kernel_rfl)) (fun _ _ _ h => h) (Or.inl ⟨by rfl, ?_⟩) hHeld ?_ ?_
                          rotate_left
                          · rintro w' ⟨s0, s1, s2, s3, s4⟩
                            go_simp
                            with_reducible rfl
                          rotate_left
                          · simp only [Act.put, List.setIfInBounds_toArray, List.set_cons_zero, List.set_cons_succ, i64_w, i32_w]
                            rfl
                          refine take_ (i := 17) (N := some 38) (v := ?_) (a' := ?_) #[true, true, true, true, true, true, true, true, true, true, true, true, true, true, true, true, true, true, false, false, false, false, false, false, false, false, false] rfl rfl (take_ofW HT_.out HW_.out (by kernel_rfl)) (fun _ _ _ h => h) (Or.inl ⟨by rfl, ?_⟩) hHeld ?_ ?_
                          rotate_left
                          · rintro w' ⟨s0, s1, s2, s3, s4⟩
                            go_simp
                            with_reducible rfl
                          rotate_left
                          · simp only [Act.put, List.setIfInBounds_toArray, List.set_cons_zero, List.set_cons_succ, i64_w, i32_w]
                            rfl
                          refine pure_ (i := 18) (N := some 39) (v := ?_) (a' := ?_) #[true, true, true, true, true, true, true, true, true, true, true, true, true, true, true, true, true, true, true, false, false, false, false, false, false, false, false] rfl rfl (any_of HT_.out (by kernel_rfl)) (fun _ _ _ h => h) (Or.inl ⟨by rfl, ?_⟩) ?_ ?_
                          rotate_left
                          · intro w'
                            go_simp
                            with_reducible rfl
                          rotate_left
                          · simp only [Act.put, List.setIfInBounds_toArray, List.set_cons_zero, List.set_cons_succ, i64_w, i32_w]
                            rfl
                          refine pure_ (i := 19) (N := some 40) (v := ?_) (a' := ?_) #[true, true, true, true, true, true, true, true, true, true, true, true, true, true, true, true, true, true, true, true, false, false, false, false, false, false, false] rfl rfl (any_of HT_.out (by kernel_rfl)) (fun _ _ _ h => h) (Or.inl ⟨by rfl, ?_⟩) ?_ ?_
                          rotate_left
                          · intro w'
                            go_simp
                            with_reducible rfl
                          rotate_left
                          · simp only [Act.put, List.setIfInBounds_toArray, List.set_cons_zero, List.set_cons_succ, i64_w, i32_w]
                            rfl
                          refine pure_ (i := 20) (N := some 41) (v := ?_) (a' := ?_) #[true, true, true, true, true, true, true, true, true, true, true, true, true, true, true, true, true, true, true, true, true, false, false, false, false, false, false] rfl rfl (any_of HT_.out (by kernel_rfl)) (fun _ _ _ h => h) (Or.inl ⟨by rfl, ?_⟩) ?_ ?_
                          rotate_left
                          · intro w'
                            go_simp
                            with_reducible rfl
                          rotate_left
                          · simp only [Act.put, List.setIfInBounds_toArray, List.set_cons_zero, List.set_cons_succ, i64_w, i32_w]
                            rfl
                          refine pure_ (i := 21) (N := some 42) (v := ?_) (a' := ?_) #[true, true, true, true, true, true, true, true, true, true, true, true, true, true, true, true, true, true, true, true, true, true, false, false, false, false, false] rfl rfl (any_of HT_.out (by kernel_rfl)) (fun _ _ _ h => h) (Or.inl ⟨by rfl, ?_⟩) ?_ ?_
                          rotate_left
                          · intro w'
                            go_simp
                            with_reducible rfl
                          rotate_left
                          · simp only [Act.put, List.setIfInBounds_toArray, List.set_cons_zero, List.set_cons_succ, i64_w, i32_w]
                            rfl
                          refine last_ (i := 22) (N := none) #[true, true, true, true, true, true, true, true, true, true, true, true, true, true, true, true, true, true, true, true, true, true, true, false, false, false, false] rfl rfl (one_of HT_.out (by kernel_rfl)) (by decide) (fun K hK => ?_)
                          have hs27 : w24.cell? ⟨gb126, 3, none⟩ = some (.slice A125_3 ((rd_T37 x0_1 x3_1).f3).length c125_3) := (blk_cell BK126.out 3).trans rfl
                          have hfs27 := blk_frozen BK126.out 3
                          refine skip_ (w1 := ?_) (by rfl) rfl ?_ ?_
                          rotate_left
                          · go_simp
                            rfl
                          refine hK.out _ _ ?_
                          clear hK K
                          refine pure_ (i := 23) (N := some 43) (v := ?_) (a' := ?_) #[true, true, true, true, true, true, true, true, true, true, true, true, true, true, true, true, true, true, true, true, true, true, true, true, false, false, false] rfl rfl (any_of HT_.out (by kernel_rfl)) (fun _ _ _ h => h) (Or.inl ⟨by rfl, ?_⟩) ?_ ?_
                          rotate_left
                          · intro w'
                            go_simp
                            with_reducible rfl
                          rotate_left
                          · simp only [Act.put, List.setIfInBounds_toArray, List.set_cons_zero, List.set_cons_succ, i64_w, i32_w]
                            rfl
                          refine last_ (i := 24) (N := none) #[true, true, true, true, true, true, true, true, true, true, true, true, true, true, true, true, true, true, true, true, true, true, true, true, true, false, false] rfl rfl (one_of HT_.out (by kernel_rfl)) (by decide) (fun K hK => ?_)
                          have hs28 : w24.cell? ⟨gb126, 4, none⟩ = some (.slice A125_4 ((rd_T37 x0_1 x3_1).f4).length c125_4) := (blk_cell BK126.out 4).trans rfl
                          have hfs28 := blk_frozen BK126.out 4
                          refine skip_ (w1 := ?_) (by rfl) rfl ?_ ?_
                          rotate_left
                          · go_simp
                            rfl
                          refine hK.out _ _ ?_
                          clear hK K
                          refine pure_ (i := 25) (N := some 44) (v := ?_) (a' := ?_) #[true, true, true, true, true, true, true, true, true, true, true, true, true, true, true, true, true, true, true, true, true, true, true, true, true, true, false] rfl rfl (any_of HT_.out (by kernel_rfl)) (fun _ _ _ h => h) (Or.inl ⟨by rfl, ?_⟩) ?_ ?_
                          rotate_left
                          · intro w'
                            go_simp
                            with_reducible rfl
                          rotate_left
                          · simp only [Act.put, List.setIfInBounds_toArray, List.set_cons_zero, List.set_cons_succ, i64_w, i32_w]
                            rfl
                          refine last_ (i := 26) (N := none) #[true, true, true, true, true, true, true, true, true, true, true, true, true, true, true, true, true, true, true, true, true, true, true, true, true, true, true] rfl rfl (one_of HT_.out (by kernel_rfl)) (by decide) (fun K hK => ?_)
                          have hs29 : w24.cell? ⟨gb126, 2, none⟩ = some (.string ((rd_T37 x0_1 x3_1).f2)) := (blk_cell BK126.out 2).trans rfl
                          have hfs29 := blk_frozen BK126.out 2
                          refine skip_ (w1 := ?_) (by rfl) rfl ?_ ?_
                          rotate_left
                          · go_simp
                            rfl
                          refine hK.out _ _ ?_
                          clear hK K
                          refine done_ (done_of HT_.out (by kernel_rfl)) ?_
                          have n0_ : Aside0 (Kd.N k37 37 (((w24.setCell ⟨gb126, 3, none⟩ (.slice A125_3 y127.length c125_3)).setCell ⟨gb126, 4, none⟩ (.slice A125_4 y132.length c125_4)).setCell ⟨gb126, 2, none⟩ (.string (((rd_T37 x0_1 x3_1).f2).extract 0 ((ji16) : Int).toNat))) w.heap.size (fun k_ => (w.heap.size ≤ k_) ∧ k_ ≠ gb126) (.slice (some ad125) x0_1.length co20) x0_1) := ⟨by (with_reducible repeat (first | apply Kd.N_alloc | apply Kd.N_drewN | apply Kd.N_drew)); exact Kd.N_mono (Kd.N_far (p := ⟨gb126, 2, none⟩) (Kd.N_far (p := ⟨gb126, 4, none⟩) (Kd.N_far (p := ⟨gb126, 3, none⟩) (Kd.N_mono HO_0.out (fun k_ hk => (⟨hk, hk.2⟩ : _ ∧ k_ ≠ gb126))) (fun _ hk => hk.2) (.slice A125_3 y127.length c125_3)) (fun _ hk => hk.2) (.slice A125_4 y132.length c125_4)) (fun _ hk => hk.2) (.string (((rd_T37 x0_1 x3_1).f2).extract 0 ((ji16) : Int).toNat))) (fun _ hk => ⟨hk.1.1, hk.1.2⟩)⟩
                          have n1_ : Aside0 (Kd.V Kd.string 9 (((w24.setCell ⟨gb126, 3, none⟩ (.slice A125_3 y127.length c125_3)).setCell ⟨gb126, 4, none⟩ (.slice A125_4 y132.length c125_4)).setCell ⟨gb126, 2, none⟩ (.string (((rd_T37 x0_1 x3_1).f2).extract 0 ((ji16) : Int).toNat))) w.heap.size (fun k_ => (w.heap.size ≤ k_) ∧ some k_ ≠ (.slice (some ad125) x0_1.length co20 : Value).ownBlock ∧ k_ ≠ gb126) (.slice A125_3 ((rd_T37 x0_1 x3_1).f3).length c125_3) ((rd_T37 x0_1 x3_1).f3)) := ⟨by (with_reducible repeat (first | apply Kd.V_alloc | apply Kd.V_drewN | apply Kd.V_drew)); exact Kd.V_mono (Kd.V_far (p := ⟨gb126, 2, none⟩) (Kd.V_far (p := ⟨gb126, 4, none⟩) (Kd.V_far (p := ⟨gb126, 3, none⟩) (Kd.V_mono HL125_3.out (fun k_ hk => (⟨hk, hk.2.2⟩ : _ ∧ k_ ≠ gb126))) (fun _ hk => hk.2) (.slice A125_3 y127.length c125_3)) (fun _ hk => hk.2) (.slice A125_4 y132.length c125_4)) (fun _ hk => hk.2) (.string (((rd_T37 x0_1 x3_1).f2).extract 0 ((ji16) : Int).toNat))) (fun _ hk => ⟨hk.1.1, ⟨hk.1.2.1, hk.1.2.2⟩⟩)⟩
                          have n2_ : Aside0 (Kd.V (Kd.int .i64) 3 (((w24.setCell ⟨gb126, 3, none⟩ (.slice A125_3 y127.length c125_3)).setCell ⟨gb126, 4, none⟩ (.slice A125_4 y132.length c125_4)).setCell ⟨gb126, 2, none⟩ (.string (((rd_T37 x0_1 x3_1).f2).extract 0 ((ji16) : Int).toNat))) w.heap.size (fun k_ => (w.heap.size ≤ k_) ∧ some k_ ≠ (.slice (some ad125) x0_1.length co20 : Value).ownBlock ∧ k_ ≠ gb126) (.slice A125_4 ((rd_T37 x0_1 x3_1).f4).length c125_4) ((rd_T37 x0_1 x3_1).f4)) := ⟨by (with_reducible repeat (first | apply Kd.V_alloc | apply Kd.V_drewN | apply Kd.V_drew)); exact Kd.V_mono (Kd.V_far (p := ⟨gb126, 2, none⟩) (Kd.V_far (p := ⟨gb126, 4, none⟩) (Kd.V_far (p := ⟨gb126, 3, none⟩) (Kd.V_mono HL125_4.out (fun k_ hk => (⟨hk, hk.2.2⟩ : _ ∧ k_ ≠ gb126))) (fun _ hk => hk.2) (.slice A125_3 y127.length c125_3)) (fun _ hk => hk.2) (.slice A125_4 y132.length c125_4)) (fun _ hk => hk.2) (.string (((rd_T37 x0_1 x3_1).f2).extract 0 ((ji16) : Int).toNat))) (fun _ hk => ⟨hk.1.1, ⟨hk.1.2.1, hk.1.2.2⟩⟩)⟩
                          have n3_ : Aside0 (Kd.V Kd.string 9 (((w24.setCell ⟨gb126, 3, none⟩ (.slice A125_3 y127.length c125_3)).setCell ⟨gb126, 4, none⟩ (.slice A125_4 y132.length c125_4)).setCell ⟨gb126, 2, none⟩ (.string (((rd_T37 x0_1 x3_1).f2).extract 0 ((ji16) : Int).toNat))) w.heap.size (fun k_ => (w.heap.size ≤ k_) ∧ some k_ ≠ (.slice (some ad125) x0_1.length co20 : Value).ownBlock ∧ k_ ≠ gb126) (.slice A125_3 y127.length c125_3) y127) := ⟨by (with_reducible repeat (first | apply Kd.V_alloc | apply Kd.V_drewN | apply Kd.V_drew)); exact Kd.V_mono (Kd.V_far (p := ⟨gb126, 2, none⟩) (Kd.V_far (p := ⟨gb126, 4, none⟩) (Kd.V_far (p := ⟨gb126, 3, none⟩) (Kd.V_mono HO131.out (fun k_ hk => (⟨hk, hk.2.2⟩ : _ ∧ k_ ≠ gb126))) (fun _ hk => hk.2) (.slice A125_3 y127.length c125_3)) (fun _ hk => hk.2) (.slice A125_4 y132.length c125_4)) (fun _ hk => hk.2) (.string (((rd_T37 x0_1 x3_1).f2).extract 0 ((ji16) : Int).toNat))) (fun _ hk => ⟨hk.1.1, ⟨hk.1.2.1, hk.1.2.2⟩⟩)⟩
                          have n4_ : Aside0 (Kd.V (Kd.int .i64) 3 (((w24.setCell ⟨gb126, 3, none⟩ (.slice A125_3 y127.length c125_3)).setCell ⟨gb126, 4, none⟩ (.slice A125_4 y132.length c125_4)).setCell ⟨gb126, 2, none⟩ (.string (((rd_T37 x0_1 x3_1).f2).extract 0 ((ji16) : Int).toNat))) w.heap.size (fun k_ => (w.heap.size ≤ k_) ∧ some k_ ≠ (.slice (some ad125) x0_1.length co20 : Value).ownBlock ∧ k_ ≠ gb126) (.slice A125_4 y132.length c125_4) y132) := ⟨by (with_reducible repeat (first | apply Kd.V_alloc | apply Kd.V_drewN | apply Kd.V_drew)); exact Kd.V_mono (Kd.V_far (p := ⟨gb126, 2, none⟩) (Kd.V_far (p := ⟨gb126, 4, none⟩) (Kd.V_far (p := ⟨gb126, 3, none⟩) (Kd.V_mono HO136.out (fun k_ hk => (⟨hk, hk.2.2⟩ : _ ∧ k_ ≠ gb126))) (fun _ hk => hk.2) (.slice A125_3 y127.length c125_3)) (fun _ hk => hk.2) (.slice A125_4 y132.length c125_4)) (fun _ hk => hk.2) (.string (((rd_T37 x0_1 x3_1).f2).extract 0 ((ji16) : Int).toNat))) (fun _ hk => ⟨hk.1.1, ⟨hk.1.2.1, hk.1.2.2⟩⟩)⟩
                          have n5_ : Aside0 ((((w24.setCell ⟨gb126, 3, none⟩ (.slice A125_3 y127.length c125_3)).setCell ⟨gb126, 4, none⟩ (.slice A125_4 y132.length c125_4)).setCell ⟨gb126, 2, none⟩ (.string (((rd_T37 x0_1 x3_1).f2).extract 0 ((ji16) : Int).toNat))).heap[gb126]? = some (.cells #[.int .i64 ((rd_T37 x0_1 x3_1).f0), .int .i64 ((rd_T37 x0_1 x3_1).f1), .string (((rd_T37 x0_1 x3_1).f2).extract 0 ((ji16) : Int).toNat), .slice A125_3 y127.length c125_3, .slice A125_4 y132.length c125_4] 37 (0, 0))) := ⟨by (with_reducible repeat (first | refine blk_drewN ?_ _ | refine blk_drew ?_ | refine blk_alloc ?_ _)); refine blk_put (cs := #[.int .i64 ((rd_T37 x0_1 x3_1).f0), .int .i64 ((rd_T37 x0_1 x3_1).f1), .string ((rd_T37 x0_1 x3_1).f2), .slice A125_3 y127.length c125_3, .slice A125_4 y132.length c125_4]) ?_ 2 _ rfl; (with_reducible repeat (first | refine blk_drewN ?_ _ | refine blk_drew ?_ | refine blk_alloc ?_ _)); refine blk_put (cs := #[.int .i64 ((rd_T37 x0_1 x3_1).f0), .int .i64 ((rd_T37 x0_1 x3_1).f1), .string ((rd_T37 x0_1 x3_1).f2), .slice A125_3 y127.length c125_3, .slice A125_4 ((rd_T37 x0_1 x3_1).f4).length c125_4]) ?_ 4 _ rfl; (with_reducible repeat (first | refine blk_drewN ?_ _ | refine blk_drew ?_ | refine blk_alloc ?_ _)); refine blk_put (cs := #[.int .i64 ((rd_T37 x0_1 x3_1).f0), .int .i64 ((rd_T37 x0_1 x3_1).f1), .string ((rd_T37 x0_1 x3_1).f2), .slice A125_3 ((rd_T37 x0_1 x3_1).f3).length c125_3, .slice A125_4 ((rd_T37 x0_1 x3_1).f4).length c125_4]) ?_ 3 _ rfl; (with_reducible repeat (first | refine blk_drewN ?_ _ | refine blk_drew ?_ | refine blk_alloc ?_ _)); exact BK126.out⟩
                          have n6_ : Aside0 (Below w.heap.size w (((w24.setCell ⟨gb126, 3, none⟩ (.slice A125_3 y127.length c125_3)).setCell ⟨gb126, 4, none⟩ (.slice A125_4 y132.length c125_4)).setCell ⟨gb126, 2, none⟩ (.string (((rd_T37 x0_1 x3_1).f2).extract 0 ((ji16) : Int).toNat)))) := ⟨by repeat (first | (with_reducible first | exact HB.out | apply below_alloc | apply pw_below_drewN | apply below_drew1 | refine below_set ?_ GE126.out) | exact HB.out)⟩
                          (try clear HO_0)
                          (try clear HL125_3)
                          (try clear HL125_4)
                          (try clear HO131)
                          (try clear HO136)
                          (try clear BK126)
                          (try clear HB)
                          generalize (((w24.setCell ⟨gb126, 3, none⟩ (.slice A125_3 y127.length c125_3)).setCell ⟨gb126, 4, none⟩ (.slice A125_4 y132.length c125_4)).setCell ⟨gb126, 2, none⟩ (.string (((rd_T37 x0_1 x3_1).f2).extract 0 ((ji16) : Int).toNat))) = w30 at n0_ n1_ n2_ n3_ n4_ n5_ n6_ ⊢
                          have HO_0 := n0_
                          have HL125_3 := n1_
                          have HL125_4 := n2_
                          have HO131 := n3_
                          have HO136 := n4_
                          have BK126 := n5_
                          have HB := n6_
                          clear n0_ n1_ n2_ n3_ n4_ n5_ n6_
                          have hcz31_0 : w30.cell? ⟨gb126, 0, none⟩ = some (.int .i64 ((rd_T37 x0_1 x3_1).f0)) := (blk_cell BK126.out 0).trans rfl
                          have hcz31_1 : w30.cell? ⟨gb126, 1, none⟩ = some (.int .i64 ((rd_T37 x0_1 x3_1).f1)) := (blk_cell BK126.out 1).trans rfl
                          have hcz31_2 : w30.cell? ⟨gb126, 2, none⟩ = some (.string (((rd_T37 x0_1 x3_1).f2).extract 0 ((ji16) : Int).toNat)) := (blk_cell BK126.out 2).trans rfl
                          have hcz31_3 : w30.cell? ⟨gb126, 3, none⟩ = some (.slice A125_3 y127.length c125_3) := (blk_cell BK126.out 3).trans rfl
                          have hcz31_4 : w30.cell? ⟨gb126, 4, none⟩ = some (.slice A125_4 y132.length c125_4) := (blk_cell BK126.out 4).trans rfl
                          have hfz31_0 := blk_frozen BK126.out 0
                          have hfz31_1 := blk_frozen BK126.out 1
                          have hfz31_2 := blk_frozen BK126.out 2
                          have hfz31_3 := blk_frozen BK126.out 3
                          have hfz31_4 := blk_frozen BK126.out 4
                          have p19 : 0 ≤ (x3_1 : Int) := of_decide_eq_true (by first | (with_reducible assumption) | assumption)
                          have q19 : (x3_1 : Int) < ((x0_1.length : Int) : Int) := of_decide_eq_true (by first | (with_reducible assumption) | assumption)
                          obtain ⟨go19, co19, eo19, gb19, gl19, cl19, HG19⟩ := Kd.N_form HO_0.out (by omega)
                          (first | cases eo19 | (injection eo19 with ea_ en_ ec_; (first | subst ea_ | (injection ea_ with ea_; subst ea_)); subst ec_; clear en_))
                          have GB19 := Aside0.mk gb19
                          have GG19 := Aside0.mk HG19
                          clear gb19 gl19 HG19
                          (first | simp only [add_plain] at hx125_0 | skip)
                          (first | simp only [add_plain] at hx125_1 | skip)
                          (first | simp only [add_plain] at hx125_2 | skip)
                          (first | simp only [add_plain] at hx125_3 | skip)
                          (first | simp only [add_plain] at hx125_4 | skip)
                          obtain ⟨ce19, hcl19, hM19, hcc19, hfr19⟩ := Kd.N_elem HO_0.out z37 (x3_1 : Int) p19 q19
                          obtain ⟨ua19_3, uc19_3, ua19_4, uc19_4, rfl, ul19_3, ge19_3, ul19_4, ge19_4⟩ := k37_openF hM19
                          have hx19_0 : w30.cell? ⟨go19, (x3_1 : Int).toNat * 5, none⟩ = some (.int .i64 ((rd_T37 x0_1 x3_1).f0)) := hcc19 0 _ rfl
                          have hx19_1 : w30.cell? ⟨go19, (x3_1 : Int).toNat * 5 + 1, none⟩ = some (.int .i64 ((rd_T37 x0_1 x3_1).f1)) := hcc19 1 _ rfl
                          have hx19_2 : w30.cell? ⟨go19, (x3_1 : Int).toNat * 5 + 2, none⟩ = some (.string ((rd_T37 x0_1 x3_1).f2)) := hcc19 2 _ rfl
                          have hx19_3 : w30.cell? ⟨go19, (x3_1 : Int).toNat * 5 + 3, none⟩ = some (.slice ua19_3 ((rd_T37 x0_1 x3_1).f3).length uc19_3) := hcc19 3 _ rfl
                          have hx19_4 : w30.cell? ⟨go19, (x3_1 : Int).toNat * 5 + 4, none⟩ = some (.slice ua19_4 ((rd_T37 x0_1 x3_1).f4).length uc19_4) := hcc19 4 _ rfl
                          have hf19_0 : w30.frozen? ⟨go19, (x3_1 : Int).toNat * 5, none⟩ = false := hfr19 0
                          have hf19_1 : w30.frozen? ⟨go19, (x3_1 : Int).toNat * 5 + 1, none⟩ = false := hfr19 1
                          have hf19_2 : w30.frozen? ⟨go19, (x3_1 : Int).toNat * 5 + 2, none⟩ = false := hfr19 2
                          have hf19_3 : w30.frozen? ⟨go19, (x3_1 : Int).toNat * 5 + 3, none⟩ = false := hfr19 3
                          have hf19_4 : w30.frozen? ⟨go19, (x3_1 : Int).toNat * 5 + 4, none⟩ = false := hfr19 4
                          clear hcl19 hcc19 hfr19 hM19
                          replace p19 := eq_true p19
                          replace q19 := eq_true q19
                          have HX32 := Aside0.mk (show Kd.N k37 37 w30 w.heap.size (fun k_ => (w.heap.size ≤ k_) ∧ k_ ≠ gb126) (.slice (some ⟨go19, 0, none⟩) x0_1.length co20) x0_1 from (by (with_reducible repeat (first | apply Kd.N_alloc | apply Kd.N_drewN | apply Kd.N_drew)); exact HO_0.out))
                          obtain ⟨ce32, hcl32, hM32, hcc32, hfr32⟩ := Kd.N_elem HX32.out z37 (x3_1 : Int) (of_decide_eq_true (by first | (with_reducible assumption) | assumption)) (by have h_ : (x3_1 : Int) < ((x0_1.length : Int) : Int) := of_decide_eq_true (by first | (with_reducible assumption) | assumption); first | exact h_ | (have e_ := (Kd.N_reads' HO_0.out).1; omega) | simpa using h_)
                          obtain ⟨ua32_3, uc32_3, ua32_4, uc32_4, rfl, ul32_3, ge32_3, ul32_4, ge32_4⟩ := k37_openF hM32
                          have HP32 := Kd.N_seg HX32.out (x3_1 : Int) (of_decide_eq_true (by first | (with_reducible assumption) | assumption)) (by have h_ : (x3_1 : Int) < ((x0_1.length : Int) : Int) := of_decide_eq_true (by first | (with_reducible assumption) | assumption); first | exact h_ | (have e_ := (Kd.N_reads' HO_0.out).1; omega) | simpa using h_) (seg := [.int .i64 ((rd_T37 x0_1 x3_1).f0), .int .i64 ((rd_T37 x0_1 x3_1).f1), .string (((rd_T37 x0_1 x3_1).f2).extract 0 ((ji16) : Int).toNat), .slice A125_3 y127.length c125_3, .slice A125_4 y132.length c125_4]) (j := 0) hcl32 hcc32 (show 5 ≤ 5 from by decide) (x' := (⟨(rd_T37 x0_1 x3_1).f0, (rd_T37 x0_1 x3_1).f1, ((rd_T37 x0_1 x3_1).f2).extract 0 ((ji16) : Int).toNat, y127, y132⟩ : S37)) (k37_mkF _ _ (⟨(rd_T37 x0_1 x3_1).f0, (rd_T37 x0_1 x3_1).f1, ((rd_T37 x0_1 x3_1).f2).extract 0 ((ji16) : Int).toNat, y127, y132⟩ : S37) (Kd.V_reads' (Kd.V_mono (ok' := (fun k_ => ((fun k_ => (w.heap.size ≤ k_) ∧ k_ ≠ gb126)) k_ ∧ k_ ≠ go19)) (HO131.out) (fun k_ hk => ⟨⟨hk.1, hk.2.2⟩, fun e_ => (hk.2.1) (by rw [e_]; rfl)⟩))).2.1 (Kd.V_F (Kd.V_mono (ok' := (fun k_ => ((fun k_ => (w.heap.size ≤ k_) ∧ k_ ≠ gb126)) k_ ∧ k_ ≠ go19)) (HO131.out) (fun k_ hk => ⟨⟨hk.1, hk.2.2⟩, fun e_ => (hk.2.1) (by rw [e_]; rfl)⟩))) (Kd.V_reads' (Kd.V_mono (ok' := (fun k_ => ((fun k_ => (w.heap.size ≤ k_) ∧ k_ ≠ gb126)) k_ ∧ k_ ≠ go19)) (HO136.out) (fun k_ hk => ⟨⟨hk.1, hk.2.2⟩, fun e_ => (hk.2.1) (by rw [e_]; rfl)⟩))).2.1 (Kd.V_F (Kd.V_mono (ok' := (fun k_ => ((fun k_ => (w.heap.size ≤ k_) ∧ k_ ≠ gb126)) k_ ∧ k_ ≠ go19)) (HO136.out) (fun k_ hk => ⟨⟨hk.1, hk.2.2⟩, fun e_ => (hk.2.1) (by rw [e_]; rfl)⟩)))) (fun _ hk => hk)
                          have hx32_0 := hcc32 0 _ rfl
                          (try simp only [show (k37).sz = 5 from rfl, Nat.mul_one, Nat.add_zero] at hx32_0)
                          have hf32_0 := hfr32 0
                          (try simp only [show (k37).sz = 5 from rfl, Nat.mul_one, Nat.add_zero] at hf32_0)
                          have hx32_1 := hcc32 1 _ rfl
                          (try simp only [show (k37).sz = 5 from rfl, Nat.mul_one, Nat.add_zero] at hx32_1)
                          have hf32_1 := hfr32 1
                          (try simp only [show (k37).sz = 5 from rfl, Nat.mul_one, Nat.add_zero] at hf32_1)
                          have hx32_2 := hcc32 2 _ rfl
                          (try simp only [show (k37).sz = 5 from rfl, Nat.mul_one, Nat.add_zero] at hx32_2)
                          have hf32_2 := hfr32 2
                          (try simp only [show (k37).sz = 5 from rfl, Nat.mul_one, Nat.add_zero] at hf32_2)
                          have hx32_3 := hcc32 3 _ rfl
                          (try simp only [show (k37).sz = 5 from rfl, Nat.mul_one, Nat.add_zero] at hx32_3)
                          have hf32_3 := hfr32 3
                          (try simp only [show (k37).sz = 5 from rfl, Nat.mul_one, Nat.add_zero] at hf32_3)
                          have hx32_4 := hcc32 4 _ rfl
                          (try simp only [show (k37).sz = 5 from rfl, Nat.mul_one, Nat.add_zero] at hx32_4)
                          have hf32_4 := hfr32 4
                          (try simp only [show (k37).sz = 5 from rfl, Nat.mul_one, Nat.add_zero] at hf32_4)
                          clear hcl32 hcc32 hfr32 hM32
                          try go_wp2_with (first | ((with_reducible refine gate_store (t := 37) (p := 48) rfl ?_); refine store_event (t := 37) (p := 48) (v := ?vo_w33) (w1 := (((((w30.setCell ⟨go19, (x3_1 : Int).toNat * 5, none⟩ (.int .i64 ((rd_T37 x0_1 x3_1).f0))).setCell ⟨go19, (x3_1 : Int).toNat * 5 + 1, none⟩ (.int .i64 ((rd_T37 x0_1 x3_1).f1))).setCell ⟨go19, (x3_1 : Int).toNat * 5 + 2, none⟩ (.string (((rd_T37 x0_1 x3_1).f2).extract 0 ((ji16) : Int).toNat))).setCell ⟨go19, (x3_1 : Int).toNat * 5 + 3, none⟩ (.slice A125_3 y127.length c125_3)).setCell ⟨go19, (x3_1 : Int).toNat * 5 + 4, none⟩ (.slice A125_4 y132.length c125_4))) ?hg ?ho ?hn ?hr ?_; (case ho => rfl); (case hg => rfl); (case hn => rfl); (case hr => first | (go_simp; done) | (go_simp; rfl)); intro w33 hw; have hg : w30.grownBy w33 (some go19) := (by rw [hw]; exact HP32.2); have hp_ : Kd.N k37 37 w33 w.heap.size (fun k_ => (w.heap.size ≤ k_) ∧ k_ ≠ gb126) (.slice (some ⟨go19, 0, none⟩) x0_1.length co20) y137 := (by rw [hw, Ny137.out]; exact HP32.1); clear HP32; have n0_ := Aside0.mk (hp_); have n1_ := Aside0.mk (Kd.V_afterv (v := (.slice (some ⟨go19, 0, none⟩) x0_1.length co20)) (v1 := (.slice (some ⟨go19, 0, none⟩) x0_1.length co20)) (ok := (fun k_ => (w.heap.size ≤ k_) ∧ k_ ≠ gb126)) (by (with_reducible repeat (first | apply Kd.V_alloc | apply Kd.V_drewN | apply Kd.V_drew)); exact Kd.V_mono HL125_3.out (fun _ hk => ⟨⟨hk.1, hk.2.2⟩, hk.2.1⟩)) hg (.inl rfl)); have n2_ := Aside0.mk (Kd.V_afterv (v := (.slice (some ⟨go19, 0, none⟩) x0_1.length co20)) (v1 := (.slice (some ⟨go19, 0, none⟩) x0_1.length co20)) (ok := (fun k_ => (w.heap.size ≤ k_) ∧ k_ ≠ gb126)) (by (with_reducible repeat (first | apply Kd.V_alloc | apply Kd.V_drewN | apply Kd.V_drew)); exact Kd.V_mono HL125_4.out (fun _ hk => ⟨⟨hk.1, hk.2.2⟩, hk.2.1⟩)) hg (.inl rfl)); have n3_ := Aside0.mk (blk_grown (g := gb126) (o := .cells #[.int .i64 ((rd_T37 x0_1 x3_1).f0), .int .i64 ((rd_T37 x0_1 x3_1).f1), .string (((rd_T37 x0_1 x3_1).f2).extract 0 ((ji16) : Int).toNat), .slice A125_3 y127.length c125_3, .slice A125_4 y132.length c125_4] 37 (0, 0)) (by (with_reducible repeat (first | refine blk_drewN ?_ _ | refine blk_drew ?_ | refine blk_alloc ?_ _)); exact BK126.out) hg (Kd.N_away HO_0.out (fun _ hk => hk.2))); have n4_ := Aside0.mk (Kd.V_afterv (v := (.slice (some ⟨go19, 0, none⟩) x0_1.length co20)) (v1 := (.slice (some ⟨go19, 0, none⟩) x0_1.length co20)) (ok := (fun k_ => (w.heap.size ≤ k_) ∧ k_ ≠ gb126)) (by (with_reducible repeat (first | apply Kd.V_alloc | apply Kd.V_drewN | apply Kd.V_drew)); exact Kd.V_mono HO131.out (fun _ hk => ⟨⟨hk.1, hk.2.2⟩, hk.2.1⟩)) hg (.inl rfl)); have n5_ := Aside0.mk (Kd.V_afterv (v := (.slice (some ⟨go19, 0, none⟩) x0_1.length co20)) (v1 := (.slice (some ⟨go19, 0, none⟩) x0_1.length co20)) (ok := (fun k_ => (w.heap.size ≤ k_) ∧ k_ ≠ gb126)) (by (with_reducible repeat (first | apply Kd.V_alloc | apply Kd.V_drewN | apply Kd.V_drew)); exact Kd.V_mono HO136.out (fun _ hk => ⟨⟨hk.1, hk.2.2⟩, hk.2.1⟩)) hg (.inl rfl)); have n6_ := Aside0.mk ((by rw [hw]; exact below_set (below_set (below_set (below_set (below_set (HB.out) GB19.out) GB19.out) GB19.out) GB19.out) GB19.out : Below w.heap.size w w33)); clear HO_0; clear HL125_3; clear HL125_4; clear BK126; clear HO131; clear HO136; clear HB; have HO_0 := n0_; have HL125_3 := n1_; have HL125_4 := n2_; have BK126 := n3_; have HO131 := n4_; have HO136 := n5_; have HB := n6_; clear n0_ n1_ n2_ n3_ n4_ n5_ n6_; clear hg hw hp_))
                          go_roundg k1
                          case measure => have := HK1.out; omega
                          case rel => exact ⟨(y137), (wrap64 (x3_1 + 1)), (by first | rfl | (simp; done) | (simp [*]; done)), H', ⟨by have := HK1.out; omega⟩, ⟨by (with_reducible repeat (first | apply Kd.N_alloc | apply Kd.N_drewN | apply Kd.N_drew)); exact Kd.N_mono HO_0.out (fun _ hk => hk.1)⟩, ⟨by repeat (first | (with_reducible first | exact HB.out | apply below_alloc | apply pw_below_drewN | apply below_drew1 | refine below_set ?_ GE126.out) | exact HB.out)⟩⟩
                        · rw [if_neg c18] at H
                          exact absurd H (by simp)
                      · rw [if_neg c17] at H
                        exact absurd H (by simp)
                    · rw [if_neg c15] at H
                      exact absurd H (by simp)
                  · rw [if_neg c14] at H
                    exact absurd H (by simp)
                · rw [if_neg c12] at H
                  exact absurd H (by simp)
              · rw [if_neg c11] at H
                exact absurd H (by simp)
            · rw [if_neg c9] at H
              exact absurd H (by simp)
          · rw [if_neg c8] at H
            have c8b0 : decide (x3_1 < (x0_1.length : Int)) = false := decide_eq_false c8
            clear c8
            obtain rfl := Option.some.inj H
            obtain ⟨Ao34, co34, eo34⟩ := Kd.N_slice HO_0.out
            subst eo34
            go_wp2
            go_ret
            exact ⟨_, by first | rfl | (simp [errW_none, errW_some] <;> rfl) | (simp only [← hji2]; first | rfl | (simp [errW_none, errW_some] <;> rfl)) | (simp [*, errW_none, errW_some] <;> rfl), by (with_reducible repeat (first | apply Kd.N_alloc | apply Kd.N_drewN | apply Kd.N_drew)); exact HO_0.out, by repeat (first | (with_reducible first | exact HB.out | apply below_alloc | apply pw_below_drewN | apply below_drew1) | exact HB.out)⟩
    · rw [if_neg c4] at H
      exact absurd H (by simp)
  · rw [if_neg c3] at H
    exact absurd H (by simp)

-- NOT PRINTED: function 60 (slices_IndexFunc_int_int)

-- NOT PRINTED: function 37 (slices_ContainsFunc_int_int)

-- NOT PRINTED: function 68 (lex_IsKey)

-- NOT PRINTED: function 135 (slices_IndexFunc_func_byte_bool_func_byte_bool)

-- NOT PRINTED: function 127 (slices_ContainsFunc_func_byte_bool_func_byte_bool)

-- NOT PRINTED: function 107 (lex_formed)

/-! ### lex_small: function 108 -/
def lex_small.f (a0 : Int) : Option (Bool) := if a0 ≥ 97 then (some (decide (a0 ≤ 122))) else (some false)
set_option maxHeartbeats 8000000 in
set_option maxRecDepth 100000 in
theorem lex_small.calls (a0 : Int) (r : Bool) (w : World) (h : lex_small.f a0 = some r) :
    Calls Tryd.prog 108 #[.int .u8 a0] w fun e w' => e = .returned (.bool r) ∧ Drawn0 w w' := by
  have H : (if a0 ≥ 97 then (some (decide (a0 ≤ 122))) else (some false)) = some r := h
  clear h
  by_cases c2 : a0 ≥ 97
  · rw [if_pos c2] at H
    have c2b0 : decide (97 ≤ a0) = true := decide_eq_true c2
    clear c2
    obtain rfl := Option.some.inj H
    go_enter Tryd.func108, Tryd.ntmps108
    go_wp2
    go_ret
    exact ⟨by first | rfl | (simp; done) | (simp [*]; done), by repeat (first | exact Drawn0.refl _ | apply Drawn0.step)⟩
  · rw [if_neg c2] at H
    have c2b0 : decide (97 ≤ a0) = false := decide_eq_false c2
    clear c2
    obtain rfl := Option.some.inj H
    go_enter Tryd.func108, Tryd.ntmps108
    go_wp2
    go_ret
    exact ⟨by first | rfl | (simp; done) | (simp [*]; done), by repeat (first | exact Drawn0.refl _ | apply Drawn0.step)⟩

/-! ### lex_digit: function 109 -/
def lex_digit.f (a0 : Int) : Option (Bool) := if a0 ≥ 48 then (some (decide (a0 ≤ 57))) else (some false)
set_option maxHeartbeats 8000000 in
set_option maxRecDepth 100000 in
theorem lex_digit.calls (a0 : Int) (r : Bool) (w : World) (h : lex_digit.f a0 = some r) :
    Calls Tryd.prog 109 #[.int .u8 a0] w fun e w' => e = .returned (.bool r) ∧ Drawn0 w w' := by
  have H : (if a0 ≥ 48 then (some (decide (a0 ≤ 57))) else (some false)) = some r := h
  clear h
  by_cases c2 : a0 ≥ 48
  · rw [if_pos c2] at H
    have c2b0 : decide (48 ≤ a0) = true := decide_eq_true c2
    clear c2
    obtain rfl := Option.some.inj H
    go_enter Tryd.func109, Tryd.ntmps109
    go_wp2
    go_ret
    exact ⟨by first | rfl | (simp; done) | (simp [*]; done), by repeat (first | exact Drawn0.refl _ | apply Drawn0.step)⟩
  · rw [if_neg c2] at H
    have c2b0 : decide (48 ≤ a0) = false := decide_eq_false c2
    clear c2
    obtain rfl := Option.some.inj H
    go_enter Tryd.func109, Tryd.ntmps109
    go_wp2
    go_ret
    exact ⟨by first | rfl | (simp; done) | (simp [*]; done), by repeat (first | exact Drawn0.refl _ | apply Drawn0.step)⟩

/-! ### lex_score: function 110 -/
def lex_score.f (a0 : Int) : Option (Bool) := some (a0 == 95)
set_option maxHeartbeats 8000000 in
set_option maxRecDepth 100000 in
theorem lex_score.calls (a0 : Int) (r : Bool) (w : World) (h : lex_score.f a0 = some r) :
    Calls Tryd.prog 110 #[.int .u8 a0] w fun e w' => e = .returned (.bool r) ∧ Drawn0 w w' := by
  have H : (some (a0 == 95)) = some r := h
  clear h
  obtain rfl := Option.some.inj H
  go_enter Tryd.func110, Tryd.ntmps110
  go_wp2
  go_ret
  exact ⟨by first | rfl | (simp; done) | (simp [*]; done), by repeat (first | exact Drawn0.refl _ | apply Drawn0.step)⟩

-- NOT PRINTED: function 90 (lex_tagged)

-- NOT PRINTED: function 67 (lex_IsName)

-- NOT PRINTED: function 69 (slices_IsSortedFunc_string_string)

-- NOT PRINTED: function 92 (slices_IndexFunc_string_string)

-- NOT PRINTED: function 72 (slices_ContainsFunc_string_string)

-- NOT PRINTED: function 51 (graph_may)

-- NOT PRINTED: function 29 (graph_Check)

-- NOT PRINTED: function 35 (sub_of)

-- NOT PRINTED: function 58 (sub_solver_granted)

-- NOT PRINTED: function 44 (slices_Clone_int_int)

-- NOT PRINTED: function 18 (graph_Members)

-- NOT PRINTED: function 59 (sub_solver_holds)

-- NOT PRINTED: function 36 (sub_solver_solve)

-- NOT PRINTED: function 12 (sub_Least)

/-! ### armillaryref02_keys: function 103 -/
def armillaryref02_keys.f  : Option (List ByteArray) := some (([(⟨#[109, 111, 100, 117, 108, 101]⟩ : ByteArray), (⟨#[105, 109, 112, 111, 114, 116]⟩ : ByteArray), (⟨#[116, 121, 112, 101]⟩ : ByteArray), (⟨#[102, 110]⟩ : ByteArray), (⟨#[108, 101, 116]⟩ : ByteArray), (⟨#[105, 110]⟩ : ByteArray), (⟨#[105, 102]⟩ : ByteArray), (⟨#[116, 104, 101, 110]⟩ : ByteArray), (⟨#[101, 108, 115, 101]⟩ : ByteArray), (⟨#[105, 115]⟩ : ByteArray), (⟨#[97, 115]⟩ : ByteArray), (⟨#[116, 114, 117, 101]⟩ : ByteArray), (⟨#[102, 97, 108, 115, 101]⟩ : ByteArray), (⟨#[110, 117, 108, 108]⟩ : ByteArray), (⟨#[100, 121, 110]⟩ : ByteArray), (⟨#[98, 111, 111, 108]⟩ : ByteArray), (⟨#[105, 110, 116]⟩ : ByteArray), (⟨#[114, 101, 99]⟩ : ByteArray)] : List ByteArray))
set_option maxHeartbeats 8000000 in
set_option maxRecDepth 100000 in
theorem armillaryref02_keys.calls  (r : List ByteArray) (w : World) (h : armillaryref02_keys.f  = some r) :
    Calls Tryd.prog 103 #[] w fun e w' => ∃ v0_ : Value, e = .returned (v0_) ∧ Kd.R Kd.string 9 w' w.heap.size (fun _ => True) v0_ r ∧ Below w.heap.size w w' := by
  have HB := Aside0.mk (Below.refl w.heap.size w)
  have H : (some (([(⟨#[109, 111, 100, 117, 108, 101]⟩ : ByteArray), (⟨#[105, 109, 112, 111, 114, 116]⟩ : ByteArray), (⟨#[116, 121, 112, 101]⟩ : ByteArray), (⟨#[102, 110]⟩ : ByteArray), (⟨#[108, 101, 116]⟩ : ByteArray), (⟨#[105, 110]⟩ : ByteArray), (⟨#[105, 102]⟩ : ByteArray), (⟨#[116, 104, 101, 110]⟩ : ByteArray), (⟨#[101, 108, 115, 101]⟩ : ByteArray), (⟨#[105, 115]⟩ : ByteArray), (⟨#[97, 115]⟩ : ByteArray), (⟨#[116, 114, 117, 101]⟩ : ByteArray), (⟨#[102, 97, 108, 115, 101]⟩ : ByteArray), (⟨#[110, 117, 108, 108]⟩ : ByteArray), (⟨#[100, 121, 110]⟩ : ByteArray), (⟨#[98, 111, 111, 108]⟩ : ByteArray), (⟨#[105, 110, 116]⟩ : ByteArray), (⟨#[114, 101, 99]⟩ : ByteArray)] : List ByteArray))) = some r := h
  clear h
  obtain ⟨y142, hy142⟩ : ∃ y_ : List ByteArray, y_ = (([(⟨#[109, 111, 100, 117, 108, 101]⟩ : ByteArray), (⟨#[105, 109, 112, 111, 114, 116]⟩ : ByteArray), (⟨#[116, 121, 112, 101]⟩ : ByteArray), (⟨#[102, 110]⟩ : ByteArray), (⟨#[108, 101, 116]⟩ : ByteArray), (⟨#[105, 110]⟩ : ByteArray), (⟨#[105, 102]⟩ : ByteArray), (⟨#[116, 104, 101, 110]⟩ : ByteArray), (⟨#[101, 108, 115, 101]⟩ : ByteArray), (⟨#[105, 115]⟩ : ByteArray), (⟨#[97, 115]⟩ : ByteArray), (⟨#[116, 114, 117, 101]⟩ : ByteArray), (⟨#[102, 97, 108, 115, 101]⟩ : ByteArray), (⟨#[110, 117, 108, 108]⟩ : ByteArray), (⟨#[100, 121, 110]⟩ : ByteArray), (⟨#[98, 111, 111, 108]⟩ : ByteArray), (⟨#[105, 110, 116]⟩ : ByteArray), (⟨#[114, 101, 99]⟩ : ByteArray)] : List ByteArray)) := ⟨_, rfl⟩
  replace H : (some y142) = some r := by first | (rw [hy142]; with_reducible exact H) | (have H2_ := (Option.bind_some _ _).symm.trans H; rw [hy142]; with_reducible exact H2_) | (have H2_ := (Option.bind_some _ _).symm.trans H; with_reducible exact H2_) | with_reducible exact H | (rw [hy142]; exact H) | exact H
  have Ny142 := Aside0.mk hy142
  clear hy142
  obtain rfl := Option.some.inj H
  go_enter Tryd.func103, Tryd.ntmps103
  go_wp2_with (first | ((with_reducible refine gate_dst (N := 1) rfl ?_); refine Kd.R_lit Kd.string _ 9 ?hg (N := 1) ?hd (xs := ([(⟨#[109, 111, 100, 117, 108, 101]⟩ : ByteArray), (⟨#[105, 109, 112, 111, 114, 116]⟩ : ByteArray), (⟨#[116, 121, 112, 101]⟩ : ByteArray), (⟨#[102, 110]⟩ : ByteArray), (⟨#[108, 101, 116]⟩ : ByteArray), (⟨#[105, 110]⟩ : ByteArray), (⟨#[105, 102]⟩ : ByteArray), (⟨#[116, 104, 101, 110]⟩ : ByteArray), (⟨#[101, 108, 115, 101]⟩ : ByteArray), (⟨#[105, 115]⟩ : ByteArray), (⟨#[97, 115]⟩ : ByteArray), (⟨#[116, 114, 117, 101]⟩ : ByteArray), (⟨#[102, 97, 108, 115, 101]⟩ : ByteArray), (⟨#[110, 117, 108, 108]⟩ : ByteArray), (⟨#[100, 121, 110]⟩ : ByteArray), (⟨#[98, 111, 111, 108]⟩ : ByteArray), (⟨#[105, 110, 116]⟩ : ByteArray), (⟨#[114, 101, 99]⟩ : ByteArray)] : List ByteArray)) (inner := [.string (⟨#[109, 111, 100, 117, 108, 101]⟩ : ByteArray), .string (⟨#[105, 109, 112, 111, 114, 116]⟩ : ByteArray), .string (⟨#[116, 121, 112, 101]⟩ : ByteArray), .string (⟨#[102, 110]⟩ : ByteArray), .string (⟨#[108, 101, 116]⟩ : ByteArray), .string (⟨#[105, 110]⟩ : ByteArray), .string (⟨#[105, 102]⟩ : ByteArray), .string (⟨#[116, 104, 101, 110]⟩ : ByteArray), .string (⟨#[101, 108, 115, 101]⟩ : ByteArray), .string (⟨#[105, 115]⟩ : ByteArray), .string (⟨#[97, 115]⟩ : ByteArray), .string (⟨#[116, 114, 117, 101]⟩ : ByteArray), .string (⟨#[102, 97, 108, 115, 101]⟩ : ByteArray), .string (⟨#[110, 117, 108, 108]⟩ : ByteArray), .string (⟨#[100, 121, 110]⟩ : ByteArray), .string (⟨#[98, 111, 111, 108]⟩ : ByteArray), .string (⟨#[105, 110, 116]⟩ : ByteArray), .string (⟨#[114, 101, 99]⟩ : ByteArray)]) (ok := fun _ => True) (okp := fun _ => True) ?hr ?hp (fun _ hk => hk) trivial (Below.refl _ _) (Nat.le_refl _) (by simp) ?_; (case hd => rfl); (case hg => rfl); (case hr => first | (go_simp; done) | (go_simp; rfl)); (case hp => exact (Reps.one (show Kd.M Kd.string _ _ _ (⟨#[109, 111, 100, 117, 108, 101]⟩ : ByteArray) [.string (⟨#[109, 111, 100, 117, 108, 101]⟩ : ByteArray)] from rfl) (Reps.one (show Kd.M Kd.string _ _ _ (⟨#[105, 109, 112, 111, 114, 116]⟩ : ByteArray) [.string (⟨#[105, 109, 112, 111, 114, 116]⟩ : ByteArray)] from rfl) (Reps.one (show Kd.M Kd.string _ _ _ (⟨#[116, 121, 112, 101]⟩ : ByteArray) [.string (⟨#[116, 121, 112, 101]⟩ : ByteArray)] from rfl) (Reps.one (show Kd.M Kd.string _ _ _ (⟨#[102, 110]⟩ : ByteArray) [.string (⟨#[102, 110]⟩ : ByteArray)] from rfl) (Reps.one (show Kd.M Kd.string _ _ _ (⟨#[108, 101, 116]⟩ : ByteArray) [.string (⟨#[108, 101, 116]⟩ : ByteArray)] from rfl) (Reps.one (show Kd.M Kd.string _ _ _ (⟨#[105, 110]⟩ : ByteArray) [.string (⟨#[105, 110]⟩ : ByteArray)] from rfl) (Reps.one (show Kd.M Kd.string _ _ _ (⟨#[105, 102]⟩ : ByteArray) [.string (⟨#[105, 102]⟩ : ByteArray)] from rfl) (Reps.one (show Kd.M Kd.string _ _ _ (⟨#[116, 104, 101, 110]⟩ : ByteArray) [.string (⟨#[116, 104, 101, 110]⟩ : ByteArray)] from rfl) (Reps.one (show Kd.M Kd.string _ _ _ (⟨#[101, 108, 115, 101]⟩ : ByteArray) [.string (⟨#[101, 108, 115, 101]⟩ : ByteArray)] from rfl) (Reps.one (show Kd.M Kd.string _ _ _ (⟨#[105, 115]⟩ : ByteArray) [.string (⟨#[105, 115]⟩ : ByteArray)] from rfl) (Reps.one (show Kd.M Kd.string _ _ _ (⟨#[97, 115]⟩ : ByteArray) [.string (⟨#[97, 115]⟩ : ByteArray)] from rfl) (Reps.one (show Kd.M Kd.string _ _ _ (⟨#[116, 114, 117, 101]⟩ : ByteArray) [.string (⟨#[116, 114, 117, 101]⟩ : ByteArray)] from rfl) (Reps.one (show Kd.M Kd.string _ _ _ (⟨#[102, 97, 108, 115, 101]⟩ : ByteArray) [.string (⟨#[102, 97, 108, 115, 101]⟩ : ByteArray)] from rfl) (Reps.one (show Kd.M Kd.string _ _ _ (⟨#[110, 117, 108, 108]⟩ : ByteArray) [.string (⟨#[110, 117, 108, 108]⟩ : ByteArray)] from rfl) (Reps.one (show Kd.M Kd.string _ _ _ (⟨#[100, 121, 110]⟩ : ByteArray) [.string (⟨#[100, 121, 110]⟩ : ByteArray)] from rfl) (Reps.one (show Kd.M Kd.string _ _ _ (⟨#[98, 111, 111, 108]⟩ : ByteArray) [.string (⟨#[98, 111, 111, 108]⟩ : ByteArray)] from rfl) (Reps.one (show Kd.M Kd.string _ _ _ (⟨#[105, 110, 116]⟩ : ByteArray) [.string (⟨#[105, 110, 116]⟩ : ByteArray)] from rfl) (Reps.one (show Kd.M Kd.string _ _ _ (⟨#[114, 101, 99]⟩ : ByteArray) [.string (⟨#[114, 101, 99]⟩ : ByteArray)] from rfl) (Reps.none _ _)))))))))))))))))))); intro v143 w1 ho2 hb hg_ hnew_; clear hg_ hnew_; (first | rw [← Ny142.out] at ho2 | (simp only [Int.reduceToNat] at ho2; rw [← Ny142.out] at ho2)); have n0_ := Aside0.mk (Kd.R_lower ho2 (below_size (by repeat (first | (with_reducible first | exact HB.out | apply below_alloc | apply pw_below_drewN | apply below_drew1) | exact HB.out)))); have n1_ := Aside0.mk (below_step (by repeat (first | (with_reducible first | exact HB.out | apply below_alloc | apply pw_below_drewN | apply below_drew1) | exact HB.out)) hb); clear HB; have HO144 := n0_; have HB := n1_; clear n0_ n1_; clear hb ho2))
  go_ret
  exact ⟨_, by first | rfl | (simp [errW_none, errW_some] <;> rfl) | (simp [*, errW_none, errW_some] <;> rfl), by (with_reducible repeat (first | apply Kd.R_alloc | apply Kd.R_drewN | apply Kd.R_drew)); exact HO144.out, by repeat (first | (with_reducible first | exact HB.out | apply below_alloc | apply pw_below_drewN | apply below_drew1) | exact HB.out)⟩

end Go.Proofs.YtgllcpimkjlklaaDoor.P
