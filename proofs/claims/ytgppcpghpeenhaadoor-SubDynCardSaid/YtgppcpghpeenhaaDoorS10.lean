/- asked, May, Strict, Pick. -/
import Derived.Test.YtgppcpghpeenhaaDoorProg
import Derived.Test.YtgppcpghpeenhaaDoorWWords
import Derived.Test.YtgppcpghpeenhaaDoorWLast
import Derived.Test.YtgppcpghpeenhaaDoorS9
namespace Go.Proofs.YtgppcpghpeenhaaDoor.S10
open Go.RowKit Go.Proofs.YtgppcpghpeenhaaDoorW.PrintWords Go.Proofs.YtgppcpghpeenhaaDoorW.PrintLast Go.Proofs.YtgppcpghpeenhaaDoorW.PrintMore Go.Proofs.YtgppcpghpeenhaaDoor L1 L3 L4 G1 G2 S0 S1 S2 S3 S4 S5 S6 S7 S8 S9
set_option linter.unusedVariables false
set_option linter.unusedSimpArgs false
theorem lit_P (W : World) (x : Int × Int) : Kd.R kP 49 (W.alloc (.cells #[.int .i64 x.1, .int .i64 x.2] 49)) W.heap.size (fun _ => True) (.slice (some ⟨W.heap.size, 0, none⟩) 1 1) [x] := by
  refine ⟨fun _ _ => trivial, [.int .i64 x.1, .int .i64 x.2], ?_, by simp; rfl, fun j p hj => ?_⟩
  · have h := World.ownsRow_lit (base := W.heap.size) (e := 49) (size := 2) W #[.int .i64 x.1, .int .i64 x.2] 1 (Nat.le_refl _) (by decide) (by simp)
    exact h
  · rcases j with _ | j
    · simp at hj
      subst hj
      exact kP_mkM _ _ _ _
    · simp at hj
theorem ofP_two {g : List GN} {a b : Int} (h : ofP g [a, b] = true) : checkP g = 0 ∧ (0 ≤ a ∧ a < g.length) ∧ (0 ≤ b ∧ b < g.length) := by
  unfold ofP outP at h
  simp at h
  omega
def MayP (st : Bool) (g : List GN) (a b : Int) : Prop := ofP g [a, b] = true ∧ Sub st g a.toNat b.toNat
/-- What May and Strict tell. -/
noncomputable def mayB (st : Bool) (g : List GN) (a b : Int) : Bool := @decide (MayP st g a b) (Classical.propDecidable _)
theorem mayB_iff (st : Bool) (g : List GN) (a b : Int) : mayB st g a b = true ↔ MayP st g a b := by
  unfold mayB
  exact @decide_eq_true_iff _ (Classical.propDecidable _)
theorem mayB_of {st : Bool} {g : List GN} {a b : Int} {r : Bool} (h : r = true ↔ MayP st g a b) : r = mayB st g a b := by
  cases r with
  | true => exact ((mayB_iff st g a b).2 (h.1 rfl)).symm
  | false => cases hm : mayB st g a b with
    | false => rfl
    | true => exact absurd (h.2 ((mayB_iff st g a b).1 hm)) (by simp)
def ak5.T5 : Bool × List (List Nat × List Nat) := (true, [([], []), ([0], [0]), ([1], [1]), ([2], [2]), ([], []), ([3, 4], [3, 4]), ([5], [5]), ([6, 0, 1, 2, 3, 4, 5, 6], [6])])
def ak5.B5 : List Nat := [0, 1, 3, 7, 0, 31, 63, 127]
theorem ak5.tab5 : rtab .any (opsOf Tryd.f35 5) = ak5.T5 := by kernel_rfl
theorem ak5.bits5 : waitsOk ak5.T5.2 ak5.B5 = true := by kernel_rfl
set_option maxHeartbeats 4000000 in
set_option maxRecDepth 100000 in
theorem asked_yes (A0 : Option Addr) (c0 : Nat) (g : List GN) (st : Bool) (a b : Int) (w : World) (hK : Keys w) (hg : Kd.C P.k33 w A0 g.length g) (hgc : g.length ≤ c0) :
    Calls Tryd.prog 35 #[.slice A0 g.length c0, .bool st, .agg #[.int .i64 a, .int .i64 b]] w fun e w' => e = .returned (.bool (mayB st g a b)) ∧ Below w.heap.size w w' := by
  have HK := Aside0.mk hK
  have HG := Aside0.mk hg
  have HGc := Aside0.mk hgc
  have hblk := heap_alloc_new w (.cells #[.int .i64 a, .int .i64 b] 49)
  have y0 : (w.alloc (.cells #[.int .i64 a, .int .i64 b] 49)).cell? ⟨w.heap.size, 0, none⟩ = some (.int .i64 a) := (blk_cell hblk 0).trans rfl
  have y1 : (w.alloc (.cells #[.int .i64 a, .int .i64 b] 49)).cell? ⟨w.heap.size, 1, none⟩ = some (.int .i64 b) := (blk_cell hblk 1).trans rfl
  have HB1 := Aside0.mk (below_alloc (Below.refl w.heap.size w) (.cells #[.int .i64 a, .int .i64 b] 49))
  have hlt1 : (w.alloc (.cells #[.int .i64 a, .int .i64 b] 49)).heap.size = w.heap.size + 1 := by rw [World.size_alloc]
  clear hK hg hgc hblk
  go_enter Tryd.func35, Tryd.ntmps35
  go_wp2_with (fail)
  generalize w.alloc (.cells #[.int .i64 a, .int .i64 b] 49) = W1 at y0 y1 HB1 hlt1 ⊢
  have hr : Kd.R (Kd.int .i64) 3 (W1.alloc (.cells #[.int .i64 a, .int .i64 b] 3)) W1.heap.size (fun _ => True) (.slice (some ⟨W1.heap.size, 0, none⟩) 2 2) [a, b] := Kd.R_of_own (own_lit W1 W1.heap.size 3 .i64 [a, b] (Nat.le_refl _) (by simp)) (fun _ _ => trivial)
  have HB2 := Aside0.mk (below_alloc HB1.out (.cells #[.int .i64 a, .int .i64 b] 3))
  have y0' := pw_cell_below (below_alloc (Below.refl W1.heap.size W1) (.cells #[.int .i64 a, .int .i64 b] 3)) y0
  have y1' := pw_cell_below (below_alloc (Below.refl W1.heap.size W1) (.cells #[.int .i64 a, .int .i64 b] 3)) y1
  have hlt2 : w.heap.size < (W1.alloc (.cells #[.int .i64 a, .int .i64 b] 3)).heap.size := by rw [World.size_alloc]; omega
  have hr2 : Kd.C (Kd.int .i64) (W1.alloc (.cells #[.int .i64 a, .int .i64 b] 3)) (some ⟨w.heap.size + 1, 0, none⟩) 2 [a, b] := by rw [← hlt1]; exact (Kd.R_reads' hr).2.2
  have hone : some w.heap.size ≠ none := by simp
  clear y0 y1 hr
  generalize W1.alloc (.cells #[.int .i64 a, .int .i64 b] 3) = W2 at y0' y1' HB2 hr2 hlt2 ⊢
  refine (of_yes A0 c0 g st (some ⟨w.heap.size + 1, 0, none⟩) 2 [a, b] W2 (HK.out.below HB2.out) (Kd.C_below HG.out HB2.out) HGc.out hr2 (Nat.le_refl _)).mono ?_
  rintro e W3 ⟨hb3, ⟨hof, sb, m, rfl, hS⟩ | ⟨hof, rfl⟩⟩
  · have HOf := Aside0.mk hof
    have HS := Aside0.mk hS
    obtain ⟨h1, h2, h3⟩ := ofP_two hof
    have HB3 := Aside0.mk (HB2.out.trans (hb3.mono HB2.out.size))
    have y0 := pw_cell_below hb3 y0'
    have y1 := pw_cell_below hb3 y1'
    have hnm : some w.heap.size ≠ some m := fun e => by have := hS.hm; cases e; omega
    clear hof hS hb3 y0' y1' hr2 hone
    obtain ⟨x, rfl⟩ := Int.eq_ofNat_of_zero_le h2.1
    obtain ⟨y, rfl⟩ := Int.eq_ofNat_of_zero_le h3.1
    have HX := Aside0.mk (show x < g.length by omega)
    have HY := Aside0.mk (show y < g.length by omega)
    have HL := Aside0.mk (lit_P W3 ((x : Int), (y : Int)))
    have HS4 := Aside0.mk (HS.out.alloc (.cells #[.int .i64 x, .int .i64 y] 49))
    have HG4 := Aside0.mk (World.grownBy_alloc W3 (.cells #[.int .i64 x, .int .i64 y] 49) (some m))
    have HM3 := Aside0.mk HS.out.mp.lt
    have HNm := Aside0.mk hnm
    clear h1 h2 h3 hnm
    go_wp2_with (fail)
    refine (solve_yes W2 (W3.alloc (.cells #[.int .i64 x, .int .i64 y] 49)) sb m A0 c0 g st F2.none_ HS4.out (Inv.none_ st g) (some ⟨W3.heap.size, 0, none⟩) 1 [(x, y)] (fun p hp => by simp at hp; subst hp; exact ⟨HX.out, HY.out⟩) (fun W' hg => (Kd.R_reads' (Kd.R_grown (Kd.R_bound HL.out) hg (fun k hk e => by have h1 := hk.2.1; have h2 := HM3.out; cases e; omega))).2.2) (Nat.le_refl _)).mono ?_
    rintro e W5 ⟨rfl, f, hm5, hg5, hen, hkn⟩
    have hk0 := hkn (x, y) (by simp)
    have HEn := Aside0.mk hen
    have HKn := Aside0.mk hk0
    have HG5 := Aside0.mk (HG4.out.trans hg5)
    have HS5 := Aside0.mk (HS4.out.grown hg5 hm5)
    have HM5 := Aside0.mk hm5
    have z2 := HS5.out.z2
    have y0' := HG5.out.cell y0 HNm.out
    have y1' := HG5.out.cell y1 HNm.out
    have HLk := Aside0.mk (hm5.drew.look HX.out HY.out)
    have HBe := Aside0.mk (HB2.out.trans (HS5.out.old.mono HB2.out.size))
    have HAns := Aside0.mk (show decide (0 < vl (f x y)) = mayB st g x y from mayB_of (by
      rw [decide_eq_true_iff]
      have h1 := hen.sub hk0
      unfold MayP
      simp only [Int.toNat_natCast]
      rw [← h1]
      have h2 := HOf.out
      cases hfx : f x y with
      | none => exact absurd hfx hk0
      | some v => cases v <;> simp [vl, h2]))
    clear hen hkn hk0 hm5 hg5 y0 y1
    generalize f x y = fxy at HLk HAns HKn
    go_wp2_with (fail)
    refine start_ (n := 8) (S := fun w' => w'.cell? ⟨sb, 2, none⟩ = some (.map (some m)) ∧ w'.cell? ⟨w.heap.size, 0, none⟩ = some (.int .i64 x) ∧ w'.cell? ⟨w.heap.size, 1, none⟩ = some (.int .i64 y) ∧ (Instr.lookup 51 (.map (some m)) (.agg #[.int .i64 x, .int .i64 y]) false).run Tryd.prog w' = .ok (.int .i64 (vl fxy)) w') (ds := []) #[φ,φ,φ,φ,φ,φ,φ,φ] (by kernel_rfl) rfl rfl ⟨z2, y0', y1', HLk.out⟩ (fun hHeld => ?_)
    refine with_tabW ak5.tab5 ak5.bits5 (fun HT_ HW_ => ?_)
    refine pure_ (i := 0) (N := some 26) (v := ?_) (a' := ?_) #[τ,φ,φ,φ,φ,φ,φ,φ] rfl rfl (any_of HT_.out (by kernel_rfl)) (fun _ _ _ h => h) (Or.inl ⟨by rfl, ?_⟩) ?_ ?_
    rotate_left; (intro w'; go_simp; with_reducible rfl); rotate_left; (simp only [Act.put, zz1, zz2, zz3, i64_w, i32_w]; rfl)
    refine pure_ (i := 1) (N := some 27) (v := ?_) (a' := ?_) #[τ,τ,φ,φ,φ,φ,φ,φ] rfl rfl (any_of HT_.out (by kernel_rfl)) (fun _ _ _ h => h) (Or.inl ⟨by rfl, ?_⟩) ?_ ?_
    rotate_left; (intro w'; go_simp; with_reducible rfl); rotate_left; (simp only [Act.put, zz1, zz2, zz3, i64_w, i32_w]; rfl)
    refine pure_ (i := 2) (N := some 28) (v := ?_) (a' := ?_) #[τ,τ,τ,φ,φ,φ,φ,φ] rfl rfl (any_of HT_.out (by kernel_rfl)) (fun _ _ _ h => h) (Or.inl ⟨by rfl, ?_⟩) ?_ ?_
    rotate_left; (intro w'; go_simp; with_reducible rfl); rotate_left; (simp only [Act.put, zz1, zz2, zz3, i64_w, i32_w]; rfl)
    refine take_ (i := 3) (N := some 29) (v := ?_) (a' := ?_) #[τ,τ,τ,τ,φ,φ,φ,φ] rfl rfl (take_ofW HT_.out HW_.out (by kernel_rfl)) (fun _ _ _ h => h) (Or.inl ⟨by rfl, ?_⟩) hHeld ?_ ?_
    rotate_left; (rintro w' ⟨s0, s1, s2, s3⟩; go_simp; with_reducible rfl); rotate_left; (simp only [Act.put, zz1, zz2, zz3, i64_w, i32_w]; rfl)
    refine take_ (i := 4) (N := some 30) (v := ?_) (a' := ?_) #[τ,τ,τ,τ,τ,φ,φ,φ] rfl rfl (take_ofW HT_.out HW_.out (by kernel_rfl)) (fun _ _ _ h => h) (Or.inl ⟨by rfl, ?_⟩) hHeld ?_ ?_
    rotate_left; (rintro w' ⟨s0, s1, s2, s3⟩; go_simp; with_reducible rfl); rotate_left; (simp only [Act.put, zz1, zz2, zz3, i64_w, i32_w]; rfl)
    refine take_ (i := 5) (N := some 31) (v := ?_) (a' := ?_) #[τ,τ,τ,τ,τ,τ,φ,φ] rfl rfl (take_ofW HT_.out HW_.out (by kernel_rfl)) (fun _ _ _ h => h) (Or.inl ⟨by rfl, ?_⟩) hHeld ?_ ?_
    rotate_left; (rintro w' ⟨s0, s1, s2, s3⟩; go_simp; with_reducible rfl); rotate_left; (simp only [Act.put, zz1, zz2, zz3, i64_w, i32_w]; rfl)
    refine pure_ (i := 6) (N := some 32) (v := ?_) (a' := ?_) #[τ,τ,τ,τ,τ,τ,τ,φ] rfl rfl (any_of HT_.out (by kernel_rfl)) (fun _ _ _ h => h) (Or.inl ⟨by rfl, ?_⟩) ?_ ?_
    rotate_left; (intro w'; go_simp; with_reducible rfl); rotate_left; (simp only [Act.put, zz1, zz2, zz3, i64_w, i32_w]; rfl)
    refine pure_ (i := 7) (N := some 6) (v := ?_) (a' := ?_) #[τ,τ,τ,τ,τ,τ,τ,τ] rfl rfl (any_of HT_.out (by kernel_rfl)) (fun _ _ _ h => h) (Or.inl ⟨by rfl, ?_⟩) ?_ ?_
    rotate_left; (intro w'; go_simp; with_reducible rfl); rotate_left; (simp only [Act.put, zz1, zz2, zz3, i64_w, i32_w]; rfl)
    refine done_ (done_of HT_.out (by kernel_rfl)) ?_
    go_wp2_with (fail)
    go_ret
    exact ⟨by rw [← HAns.out]; rfl, HBe.out.drew⟩
  · have HF := Aside0.mk (show false = mayB st g a b from mayB_of (by
      unfold MayP
      rw [hof]
      simp))
    have HB3 := Aside0.mk (HB2.out.trans (hb3.mono HB2.out.size))
    clear hof hb3 hr2 y0' y1'
    go_wp2_with (fail)
    go_ret
    exact ⟨by rw [← HF.out]; rfl, HB3.out⟩
set_option maxRecDepth 100000 in
theorem may_yes (A0 : Option Addr) (c0 : Nat) (g : List GN) (a b : Int) (w : World) (hK : Keys w) (hg : Kd.C P.k33 w A0 g.length g) (hgc : g.length ≤ c0) :
    Calls Tryd.prog 20 #[.slice A0 g.length c0, .int .i64 a, .int .i64 b] w fun e w' => e = .returned (.bool (mayB false g a b)) ∧ Below w.heap.size w w' := by
  have HA := Aside0.mk (asked_yes A0 c0 g false a b w hK hg hgc)
  clear hK hg hgc
  go_enter Tryd.func20, Tryd.ntmps20
  go_wp2_with (fail)
  refine HA.out.mono ?_
  rintro e w' ⟨rfl, hb⟩
  have HB := Aside0.mk hb
  clear hb
  go_wp2_with (fail)
  go_ret
  exact ⟨rfl, HB.out⟩
set_option maxRecDepth 100000 in
theorem strict_yes (A0 : Option Addr) (c0 : Nat) (g : List GN) (a b : Int) (w : World) (hK : Keys w) (hg : Kd.C P.k33 w A0 g.length g) (hgc : g.length ≤ c0) :
    Calls Tryd.prog 21 #[.slice A0 g.length c0, .int .i64 a, .int .i64 b] w fun e w' => e = .returned (.bool (mayB true g a b)) ∧ Below w.heap.size w w' := by
  have HA := Aside0.mk (asked_yes A0 c0 g true a b w hK hg hgc)
  clear hK hg hgc
  go_enter Tryd.func21, Tryd.ntmps21
  go_wp2_with (fail)
  refine HA.out.mono ?_
  rintro e w' ⟨rfl, hb⟩
  have HB := Aside0.mk hb
  clear hb
  go_wp2_with (fail)
  go_ret
  exact ⟨rfl, HB.out⟩
end Go.Proofs.YtgppcpghpeenhaaDoor.S10
