/- Facts in memory of their own, of which one is written. -/
import Derived.Test.YthkoockcfnbpiaaDoorProg
import Derived.Test.YthkoockcfnbpiaaDoorWWords
import Derived.Test.YthkoockcfnbpiaaDoorWLast
import Derived.Test.YthkoockcfnbpiaaDoorW21
import Derived.Test.YthkoockcfnbpiaaDoorF4
import Derived.Test.YthkoockcfnbpiaaDoorW18
import Derived.Deep.Slices
namespace Go.Proofs.YthkoockcfnbpiaaDoor.W22
open Go.RowKit Go.Proofs.YthkoockcfnbpiaaDoorW.PrintWords Go.Proofs.YthkoockcfnbpiaaDoorW.PrintLast Go.Proofs.YthkoockcfnbpiaaDoorW.PrintMore Go.Proofs.YthkoockcfnbpiaaDoor S1 L1 G1 G2 S3 S8 S10 F1 F3 W1 W11 W12 W16 W17 W19 W20 W21
set_option linter.unusedVariables false
set_option linter.unusedSimpArgs false
theorem infoP2 : (Tryd.prog.info? 28).map (fun i => (i.zero, i.size, i.bytes)) = some (some (.agg #[.int .i64 0, .int .i64 0]), 2, 16) := by kernel_rfl
def po5.T5 : Bool × List (List Nat × List Nat) := (true, [([], []), ([], []), ([], []), ([1, 2], [1, 2]), ([3], [3]), ([4], [4]), ([], []), ([6], [6]), ([5, 7], [5, 7]), ([], []), ([], []), ([9, 10], [9, 10]), ([11], [11]), ([12], [12]), ([], []), ([14], [14]), ([13, 15, 8], [13, 15]), ([8, 16], [8, 16]), ([17], [17]), ([0, 18, 16], [0, 18]), ([19, 19, 0, 1, 2, 3, 4, 5, 6, 7, 8, 9, 10, 11, 12, 13, 14, 15, 16, 17, 18, 19], [0, 19])])
def po5.B5 : List Nat := [0, 0, 0, 6, 14, 30, 0, 64, 254, 0, 0, 1536, 3584, 7680, 0, 16384, 65534, 131070, 262142, 524287, 1048575]
theorem po5.tab5 : rtab .any (opsOf Tryd.f10 5) = po5.T5 := by kernel_rfl
theorem po5.bits5 : waitsOk po5.T5.2 po5.B5 = true := by kernel_rfl
set_option maxHeartbeats 8000000 in
set_option maxRecDepth 100000 in
theorem pairs_yes (A0 : Option Addr) (c0 n : Nat) (A : Option Addr) (c : Nat) (l : List (Int × Int)) (w : World) (hn : 0 < n) (hn2 : n ≤ 2000) (hr : Kd.C kP w A l.length l) (hc : l.length ≤ c) :
    Calls Tryd.prog 10 #[.slice A0 n c0, .slice A l.length c] w fun e w' => (∃ B d ps, e = .returned (.slice B ps.length d) ∧ Kd.C kP w' B ps.length ps ∧ ps.length ≤ d ∧ ps.length ≤ 8 ∧ ∀ p ∈ ps, (inP n p.1 && inP n p.2) = true) ∧ Below w.heap.size w w' := by
  have HC := Aside0.mk hr
  have Hc := Aside0.mk hc
  have HN := Aside0.mk (show 0 < (n : Int) ∧ (n : Int) ≤ 2000000000 by omega)
  clear hr hc hn hn2
  go_enter Tryd.func10, Tryd.ntmps10
  go_wp2_with (fail)
  go_loopw [5, 6] (fun v5 v6 wr => ∃ (x : Int) (r : List (Int × Int)), v6 = .int .i64 x ∧ (0 ≤ x ∧ x ≤ 8) ∧ Aside0 (Kd.R kP 28 wr w.heap.size (fun _ => True) v5 r) ∧ Aside0 (Below w.heap.size w wr) ∧ Aside0 ((r.length : Int) = x ∧ ∀ p ∈ r, (inP n p.1 && inP n p.2) = true)) (fun _ v6 _ => ((8 : Int) + 1).toNat - (intOf v6).toNat)
  case atStart => exact ⟨0, [], rfl, ⟨Int.le_refl _, by decide⟩, ⟨Kd.R_nil _ _ _ _ _⟩, ⟨Below.refl _ _⟩, ⟨rfl, fun p hp => by cases hp⟩⟩
  case round =>
    obtain ⟨x, r, rfl, hx, HR, HB, HL⟩ := hrel
    rename World => X
    by_cases h1 : x < (l.length : Int)
    · by_cases h2 : x < 8
      · have hr := Aside0.mk (rng_to hx.1 h2 (by decide))
        have hm := Aside0.mk (meas_to hx.1 h2 (by decide))
        obtain ⟨ad, eA, y0, y1⟩ := at_P (Kd.C_below HC.out (below_drew HB.out)) x hx.1 h1
        subst eA
        generalize l.getD x.toNat (0, 0) = p at y0 y1
        have HAL := Aside0.mk (show (r.length + 1) * 16 ≤ 140737488355328 by have := HL.out.1; omega)
        have HR1 := Aside0.mk (Kd.R_drew HR.out)
        have HB1 := Aside0.mk (below_drew HB.out)
        have p1 := eq_true h1
        have p2 := eq_true h2
        have p3 := eq_true hx.1
        clear hx h1 h2
        go_wp2_with (fail)
        refine start_ (n := 21) (S := fun w' => w'.cell? (ad.add (x.toNat * 2)) = some (.int .i64 p.1) ∧ w'.cell? ⟨(ad.add (x.toNat * 2)).block, (ad.add (x.toNat * 2)).off + 1, none⟩ = some (.int .i64 p.2)) (ds := [19]) #[φ,φ,φ,φ,φ,φ,φ,φ,φ,φ,φ,φ,φ,φ,φ,φ,φ,φ,φ,φ,φ] (by kernel_rfl) rfl rfl ⟨y0, y1⟩ (fun hHeld => ?_)
        generalize X.drew = X1 at y0 y1 HR1 HB1 hHeld ⊢
        refine with_tabW po5.tab5 po5.bits5 (fun HT_ HW_ => ?_)
        refine pure_ (i := 0) (N := some 17) (v := ?_) (a' := ?_) #[τ,φ,φ,φ,φ,φ,φ,φ,φ,φ,φ,φ,φ,φ,φ,φ,φ,φ,φ,φ,φ] rfl rfl (any_of HT_.out (by kernel_rfl)) (fun _ _ _ h => h) (Or.inl ⟨by rfl, ?_⟩) ?_ ?_
        rotate_left; (intro w'; go_simp; with_reducible rfl); rotate_left; (simp only [Act.put, zz1, zz2, zz3, i64_w, i32_w]; rfl)
        refine pure_ (i := 1) (N := some 18) (v := ?_) (a' := ?_) #[τ,τ,φ,φ,φ,φ,φ,φ,φ,φ,φ,φ,φ,φ,φ,φ,φ,φ,φ,φ,φ] rfl rfl (any_of HT_.out (by kernel_rfl)) (fun _ _ _ h => h) (Or.inl ⟨by rfl, ?_⟩) ?_ ?_
        rotate_left; (intro w'; go_simp; with_reducible rfl); rotate_left; (simp only [Act.put, zz1, zz2, zz3, i64_w, i32_w]; rfl)
        refine pure_ (i := 2) (N := some 19) (v := ?_) (a' := ?_) #[τ,τ,τ,φ,φ,φ,φ,φ,φ,φ,φ,φ,φ,φ,φ,φ,φ,φ,φ,φ,φ] rfl rfl (any_of HT_.out (by kernel_rfl)) (fun _ _ _ h => h) (Or.inl ⟨by rfl, ?_⟩) ?_ ?_
        rotate_left; (intro w'; go_simp; with_reducible rfl); rotate_left; (simp only [Act.put, zz1, zz2, zz3, i64_w, i32_w]; rfl)
        refine pure_ (i := 3) (N := some 20) (v := ?_) (a' := ?_) #[τ,τ,τ,τ,φ,φ,φ,φ,φ,φ,φ,φ,φ,φ,φ,φ,φ,φ,φ,φ,φ] rfl rfl (any_of HT_.out (by kernel_rfl)) (fun _ _ _ h => h) (Or.inl ⟨by rfl, ?_⟩) ?_ ?_
        rotate_left; (intro w'; go_simp; with_reducible rfl); rotate_left; (simp only [Act.put, zz1, zz2, zz3, i64_w, i32_w]; rfl)
        refine pure_ (i := 4) (N := some 21) (v := ?_) (a' := ?_) #[τ,τ,τ,τ,τ,φ,φ,φ,φ,φ,φ,φ,φ,φ,φ,φ,φ,φ,φ,φ,φ] rfl rfl (any_of HT_.out (by kernel_rfl)) (fun _ _ _ h => h) (Or.inl ⟨by rfl, ?_⟩) ?_ ?_
        rotate_left; (intro w'; go_simp; with_reducible rfl); rotate_left; (simp only [Act.put, zz1, zz2, zz3, i64_w, i32_w]; rfl)
        refine pure_ (i := 6) (N := some 23) (v := ?_) (a' := ?_) #[τ,τ,τ,τ,τ,φ,τ,φ,φ,φ,φ,φ,φ,φ,φ,φ,φ,φ,φ,φ,φ] rfl rfl (any_of HT_.out (by kernel_rfl)) (fun _ _ _ h => h) (Or.inl ⟨by rfl, ?_⟩) ?_ ?_
        rotate_left; (intro w'; go_simp; with_reducible rfl); rotate_left; (simp only [Act.put, zz1, zz2, zz3, i64_w, i32_w]; rfl)
        refine pure_ (i := 7) (N := some 24) (v := ?_) (a' := ?_) #[τ,τ,τ,τ,τ,φ,τ,τ,φ,φ,φ,φ,φ,φ,φ,φ,φ,φ,φ,φ,φ] rfl rfl (any_of HT_.out (by kernel_rfl)) (fun _ _ _ h => h) (Or.inl ⟨by rfl, ?_⟩) ?_ ?_
        rotate_left; (intro w'; go_simp; with_reducible rfl); rotate_left; (simp only [Act.put, zz1, zz2, zz3, i64_w, i32_w]; rfl)
        refine pure_ (i := 9) (N := some 26) (v := ?_) (a' := ?_) #[τ,τ,τ,τ,τ,φ,τ,τ,φ,τ,φ,φ,φ,φ,φ,φ,φ,φ,φ,φ,φ] rfl rfl (any_of HT_.out (by kernel_rfl)) (fun _ _ _ h => h) (Or.inl ⟨by rfl, ?_⟩) ?_ ?_
        rotate_left; (intro w'; go_simp; with_reducible rfl); rotate_left; (simp only [Act.put, zz1, zz2, zz3, i64_w, i32_w]; rfl)
        refine pure_ (i := 10) (N := some 27) (v := ?_) (a' := ?_) #[τ,τ,τ,τ,τ,φ,τ,τ,φ,τ,τ,φ,φ,φ,φ,φ,φ,φ,φ,φ,φ] rfl rfl (any_of HT_.out (by kernel_rfl)) (fun _ _ _ h => h) (Or.inl ⟨by rfl, ?_⟩) ?_ ?_
        rotate_left; (intro w'; go_simp; with_reducible rfl); rotate_left; (simp only [Act.put, zz1, zz2, zz3, i64_w, i32_w]; rfl)
        refine pure_ (i := 11) (N := some 28) (v := ?_) (a' := ?_) #[τ,τ,τ,τ,τ,φ,τ,τ,φ,τ,τ,τ,φ,φ,φ,φ,φ,φ,φ,φ,φ] rfl rfl (any_of HT_.out (by kernel_rfl)) (fun _ _ _ h => h) (Or.inl ⟨by rfl, ?_⟩) ?_ ?_
        rotate_left; (intro w'; go_simp; with_reducible rfl); rotate_left; (simp only [Act.put, zz1, zz2, zz3, i64_w, i32_w]; rfl)
        refine pure_ (i := 12) (N := some 29) (v := ?_) (a' := ?_) #[τ,τ,τ,τ,τ,φ,τ,τ,φ,τ,τ,τ,τ,φ,φ,φ,φ,φ,φ,φ,φ] rfl rfl (any_of HT_.out (by kernel_rfl)) (fun _ _ _ h => h) (Or.inl ⟨by rfl, ?_⟩) ?_ ?_
        rotate_left; (intro w'; go_simp; with_reducible rfl); rotate_left; (simp only [Act.put, zz1, zz2, zz3, i64_w, i32_w]; rfl)
        refine pure_ (i := 14) (N := some 31) (v := ?_) (a' := ?_) #[τ,τ,τ,τ,τ,φ,τ,τ,φ,τ,τ,τ,τ,φ,τ,φ,φ,φ,φ,φ,φ] rfl rfl (any_of HT_.out (by kernel_rfl)) (fun _ _ _ h => h) (Or.inl ⟨by rfl, ?_⟩) ?_ ?_
        rotate_left; (intro w'; go_simp; with_reducible rfl); rotate_left; (simp only [Act.put, zz1, zz2, zz3, i64_w, i32_w]; rfl)
        refine pure_ (i := 15) (N := some 32) (v := ?_) (a' := ?_) #[τ,τ,τ,τ,τ,φ,τ,τ,φ,τ,τ,τ,τ,φ,τ,τ,φ,φ,φ,φ,φ] rfl rfl (any_of HT_.out (by kernel_rfl)) (fun _ _ _ h => h) (Or.inl ⟨by rfl, ?_⟩) ?_ ?_
        rotate_left; (intro w'; go_simp; with_reducible rfl); rotate_left; (simp only [Act.put, zz1, zz2, zz3, i64_w, i32_w]; rfl)
        refine take_ (i := 5) (N := some 22) (v := ?_) (a' := ?_) #[τ,τ,τ,τ,τ,τ,τ,τ,φ,τ,τ,τ,τ,φ,τ,τ,φ,φ,φ,φ,φ] rfl rfl (take_ofW HT_.out HW_.out (by kernel_rfl)) (fun _ _ _ h => h) (Or.inl ⟨by rfl, ?_⟩) hHeld ?_ ?_
        rotate_left; (rintro w' ⟨s0, s1⟩; go_simp; with_reducible rfl); rotate_left; (simp only [Act.put, zz1, zz2, zz3, i64_w, i32_w]; rfl)
        refine take_ (i := 13) (N := some 30) (v := ?_) (a' := ?_) #[τ,τ,τ,τ,τ,τ,τ,τ,φ,τ,τ,τ,τ,τ,τ,τ,φ,φ,φ,φ,φ] rfl rfl (take_ofW HT_.out HW_.out (by kernel_rfl)) (fun _ _ _ h => h) (Or.inl ⟨by rfl, ?_⟩) hHeld ?_ ?_
        rotate_left; (rintro w' ⟨s0, s1⟩; go_simp; with_reducible rfl); rotate_left; (simp only [Act.put, zz1, zz2, zz3, i64_w, i32_w]; rfl)
        refine one_ (i := 8) (N := some 25) #[τ,τ,τ,τ,τ,τ,τ,τ,τ,τ,τ,τ,τ,τ,τ,τ,φ,φ,φ,φ,φ] rfl rfl (one_of HT_.out (by kernel_rfl)) (by decide) (fun K hK => ?_)
        refine goes_ Tryd.func14 (by kernel_rfl) rfl #[.int .i64 p.1, .int .i64 (n : Int)] (by rfl) rfl rfl (by simp only [List.map_toArray, List.map_cons, List.map_nil]; rfl) ?_
        with_reducible refine (bring_yes p.1 (n : Int) X1 HN.out.1 HN.out.2).mono ?_
        rintro e XA ⟨a, rfl, ha, e0⟩
        refine ⟨_, rfl, ?_⟩
        subst e0
        refine hK.out _ _ ⟨y0, y1⟩ (fun hHeld => ?_)
        clear hK K
        refine norm_ (a' := ?_) ?_ ?_
        rotate_left
        · show Act.put _ (some 25) _ = _
          simp only [Act.put, zz1, zz2, zz3, i64_w, i32_w]
          rfl
        refine one_ (i := 16) (N := some 33) #[τ,τ,τ,τ,τ,τ,τ,τ,τ,τ,τ,τ,τ,τ,τ,τ,τ,φ,φ,φ,φ] rfl rfl (one_of HT_.out (by kernel_rfl)) (by decide) (fun K hK => ?_)
        refine goes_ Tryd.func14 (by kernel_rfl) rfl #[.int .i64 p.2, .int .i64 (n : Int)] (by rfl) rfl rfl (by simp only [List.map_toArray, List.map_cons, List.map_nil]; rfl) ?_
        with_reducible refine (bring_yes p.2 (n : Int) _ HN.out.1 HN.out.2).mono ?_
        rintro e XB ⟨b, rfl, hb, e0⟩
        refine ⟨_, rfl, ?_⟩
        subst e0
        refine hK.out _ _ ⟨y0, y1⟩ (fun hHeld => ?_)
        clear hK K
        refine norm_ (a' := ?_) ?_ ?_
        rotate_left
        · show Act.put _ (some 33) _ = _
          simp only [Act.put, zz1, zz2, zz3, i64_w, i32_w]
          rfl
        refine pure_ (i := 17) (N := some 34) (v := ?_) (a' := ?_) #[τ,τ,τ,τ,τ,τ,τ,τ,τ,τ,τ,τ,τ,τ,τ,τ,τ,τ,φ,φ,φ] rfl rfl (any_of HT_.out (by kernel_rfl)) (fun _ _ _ h => h) (Or.inl ⟨by rfl, ?_⟩) ?_ ?_
        rotate_left; (intro w'; go_simp; with_reducible rfl); rotate_left; (simp only [Act.put, zz1, zz2, zz3, i64_w, i32_w]; rfl)
        refine one_ (i := 18) (N := some 35) #[τ,τ,τ,τ,τ,τ,τ,τ,τ,τ,τ,τ,τ,τ,τ,τ,τ,τ,τ,φ,φ] rfl rfl (one_of HT_.out (by kernel_rfl)) (by decide) (fun K hK => ?_)
        refine value_ (w1 := ?_) (v := ?_) (by rfl) rfl ?_ ?_
        rotate_left 2
        · go_simp
          constructor
          · rfl
          · rfl
        refine hK.out _ _ ⟨pw_cell_below (below_alloc (Below.refl _ _) _) y0, pw_cell_below (below_alloc (Below.refl _ _) _) y1⟩ (fun hHeld => ?_)
        clear hK K
        refine norm_ (a' := ?_) ?_ ?_
        rotate_left
        · show Act.put _ (some 35) _ = _
          simp only [Act.put, zz1, zz2, zz3, i64_w, i32_w]
          rfl
        refine last_ (i := 19) (N := some 36) #[τ,τ,τ,τ,τ,τ,τ,τ,τ,τ,τ,τ,τ,τ,τ,τ,τ,τ,τ,τ,φ] rfl rfl (one_of HT_.out (by kernel_rfl)) (by decide) (fun K hK => ?_)
        refine Kd.R_append_step kP (w0 := w) w.heap.size (by rfl) (.tmp 17) (.tmp 35) 23 28 (.agg #[.int .i64 0, .int .i64 0]) 16 rfl Tryd.underlying23 infoP2 rfl (by decide) (by omega) u5 r (a, b) [.int .i64 a, .int .i64 b] (fun _ => True) (fun _ => False) rfl rfl (kP_mkM _ _ _ (a, b)) (fun _ hk => hk.elim) (fun _ _ => trivial) HR1.out HB1.out HB1.out.size HAL.out ?_
        intro v9 W9 ho hb9 hg9 hat9
        have HO9 := Aside0.mk ho
        have HB9 := Aside0.mk hb9
        clear ho hb9 hg9 hat9
        refine hK.out _ _ ?_
        clear hK K
        refine norm_ (a' := ?_) ?_ ?_
        rotate_left
        · show Act.put _ (some 36) _ = _
          simp only [Act.put, zz1, zz2, zz3, i64_w, i32_w]
          rfl
        refine pure_ (i := 20) (N := some 5) (v := ?_) (a' := ?_) #[τ,τ,τ,τ,τ,τ,τ,τ,τ,τ,τ,τ,τ,τ,τ,τ,τ,τ,τ,τ,τ] rfl rfl (any_of HT_.out (by kernel_rfl)) (fun _ _ _ h => h) (Or.inl ⟨by rfl, ?_⟩) ?_ ?_
        rotate_left; (intro w'; go_simp; with_reducible rfl); rotate_left; (simp only [Act.put, zz1, zz2, zz3, i64_w, i32_w]; rfl)
        refine done_ (done_of HT_.out (by kernel_rfl)) ?_
        have HAB := Aside0.mk (And.intro ha hb)
        clear ha hb
        go_wp2_with (fail)
        go_roundw
        case rel => exact ⟨wrap64 (x + 1), r ++ [(a, b)], rfl, ⟨hr.out.1, hr.out.2.1⟩, HO9, HB9, ⟨by rw [hr.out.2.2, List.length_append]; have := HL.out.1; simp; omega, fun q hq => by
          rcases List.mem_append.1 hq with hq | hq
          · exact HL.out.2 q hq
          · simp at hq
            subst hq
            rw [Bool.and_eq_true, inP_iff, inP_iff]
            exact HAB.out⟩⟩
        case measure => exact hm.out
      · have p1 := eq_true h1
        have p2 := eq_false h2
        obtain ⟨B, d, rfl, hd, hC⟩ := Kd.R_reads HR.out
        have HQ := Aside0.mk (And.intro hd hC)
        clear h1 h2 hd hC
        go_wp2_with (fail)
        go_ret
        exact ⟨⟨B, d, r, rfl, HQ.out.2, HQ.out.1, by have := HL.out.1; omega, HL.out.2⟩, HB.out⟩
    · have p1 := eq_false h1
      obtain ⟨B, d, rfl, hd, hC⟩ := Kd.R_reads HR.out
      have HQ := Aside0.mk (And.intro hd hC)
      clear h1 hd hC
      go_wp2_with (fail)
      go_ret
      exact ⟨⟨B, d, r, rfl, HQ.out.2, HQ.out.1, by have := HL.out.1; omega, HL.out.2⟩, HB.out⟩
end Go.Proofs.YthkoockcfnbpiaaDoor.W22
namespace Go.Proofs.YthkoockcfnbpiaaDoor.W23b
open Go.RowKit Go.Proofs.YthkoockcfnbpiaaDoorW.PrintWords Go.Proofs.YthkoockcfnbpiaaDoorW.PrintLast Go.Proofs.YthkoockcfnbpiaaDoorW.PrintMore Go.Proofs.YthkoockcfnbpiaaDoor S1 L1 G1 G2 S3 S5 S7 S8 S9 S10 F1 F2 F3 F4 W10 W13 W17 W18 W19 W20 W21 W22
set_option linter.unusedVariables false
set_option linter.unusedSimpArgs false
theorem may_of {g : List GN} {p : Int × Int} (hc : checkP g = 0) (h : Pr g p) : mayB false g p.1 p.2 = true := (mayB_iff false g p.1 p.2).2 ⟨ofP_in hc h.a0 h.a1 h.b0 h.b1, h.sub⟩
/-- All pairs may. -/
noncomputable def allM (g : List GN) (ps : List (Int × Int)) : Bool := ps.all fun p => mayB false g p.1 p.2
theorem allM_take {g : List GN} {ps : List (Int × Int)} {i : Nat} (hi : i < ps.length) : allM g (ps.take (i + 1)) = (allM g (ps.take i) && mayB false g (ps.getD i (0, 0)).1 (ps.getD i (0, 0)).2) := by
  unfold allM
  rw [List.take_add_one, List.all_append, List.getD_eq_getElem?_getD, List.getElem?_eq_getElem hi]
  simp
/-- What Find answers of places of a graph that may be. -/
theorem find_cases {g : List GN} {ps : List (Int × Int)} {w w' : World} {e : Ending} (hc : checkP g = 0) (hin : ∀ p ∈ ps, (inP g.length p.1 && inP g.length p.2) = true) (h : FindP g ps w e w') :
    (allM g ps = false ∧ e = .returned (.tuple #[.slice none 0 0, .slice none 0 0, .int .i64 160])) ∨
    (allM g ps = true ∧ ∃ l ks, Fnd g [] l ks ps ∧ ks.length = ps.length ∧ (l, ks) = ((findsP (pickN g) g ps).2, (findsP (pickN g) g ps).1) ∧ ∃ vl va, e = .returned (.tuple #[vl, va, .int .i64 0]) ∧ Kd.R P.k37 37 w' w.heap.size (fun _ => True) vl l ∧ Kd.R (Kd.int .i64) 3 w' w.heap.size (fun _ => True) va ks) := by
  rcases h with ⟨h1, _⟩ | ⟨_, ⟨p, hp, h1⟩, _⟩ | ⟨_, _, ⟨p, hp, h1⟩, h2⟩ | ⟨_, h1, vl, va, h2, h3, h4⟩
  · exact absurd hc h1
  · rw [hin p hp] at h1
    cases h1
  · refine .inl ⟨?_, h2⟩
    cases ha : allM g ps with
    | false => rfl
    | true =>
      unfold allM at ha
      rw [List.all_eq_true.1 ha p hp] at h1
      cases h1
  · have hf := finds_ok hc h1
    refine .inr ⟨?_, _, _, hf, ?_, rfl, vl, va, h2, h3, h4⟩
    · unfold allM
      rw [List.all_eq_true]
      exact fun p hp => may_of hc (h1 p hp)
    · have := congrArg List.length hf.tgt
      rwa [List.length_map] at this
/-- The number of a pair's fact, and the fact. -/
theorem fnd_at {g : List GN} {l : List FC} {ks : List Int} {ps : List (Int × Int)} (h : Fnd g [] l ks ps) (hk : ks.length = ps.length) {i : Nat} (hi : i < ps.length) :
    ∃ k : Nat, k < l.length ∧ ks.getD i 0 = (k : Int) ∧ (P.rd_T37 l (k : Int)).f0 = (ps.getD i (0, 0)).1 ∧ (P.rd_T37 l (k : Int)).f1 = (ps.getD i (0, 0)).2 := by
  have hik : i < ks.length := by omega
  have h1 := inP_iff.1 (List.all_eq_true.1 h.inn _ (List.getElem_mem hik))
  obtain ⟨k, hke⟩ := Int.eq_ofNat_of_zero_le h1.1
  have hp : (ks.map (pairOf l))[i]? = ps[i]? := by rw [h.tgt]
  rw [List.getElem?_map, List.getElem?_eq_getElem hik, List.getElem?_eq_getElem hi] at hp
  have hpe := Option.some.inj hp
  refine ⟨k, by omega, ?_, ?_, ?_⟩
  · rw [List.getD_eq_getElem?_getD, List.getElem?_eq_getElem hik]
    exact hke
  · rw [List.getD_eq_getElem?_getD, List.getElem?_eq_getElem hi]
    show _ = ps[i].1
    rw [← hpe, hke]
    rfl
  · rw [List.getD_eq_getElem?_getD, List.getElem?_eq_getElem hi]
    show _ = ps[i].2
    rw [← hpe, hke]
    rfl
theorem nodup_at {l : List FC} (h : (l.map fun f => (f.f0, f.f1)).Nodup) {i k : Nat} (hi : i < l.length) (hk : k < i) : (P.rd_T37 l (i : Int)).f0 = (P.rd_T37 l (k : Int)).f0 → (P.rd_T37 l (i : Int)).f1 = (P.rd_T37 l (k : Int)).f1 → False := by
  intro h1 h2
  unfold P.rd_T37 at h1 h2
  rw [Int.toNat_natCast, Int.toNat_natCast, List.getD_eq_getElem?_getD, List.getD_eq_getElem?_getD, List.getElem?_eq_getElem hi, List.getElem?_eq_getElem (show k < l.length by omega)] at h1 h2
  have := (List.pairwise_iff_getElem.1 h) k i (by rw [List.length_map]; omega) (by rw [List.length_map]; omega) hk
  simp only [List.getElem_map] at this
  exact this (by rw [show l[k].f0 = l[i].f0 from h1.symm, show l[k].f1 = l[i].f1 from h2.symm])
/-- A node's kind in memory. -/
theorem g_at {w : World} {A : Option Addr} {g : List GN} (h : Kd.C P.k45 w A g.length g) (a : Nat) (ha : a < g.length) : ∃ ad, A = some ad ∧ w.cell? (ad.add (a * 5)) = some (.int .i64 (nd g (a : Int)).f0) := by
  obtain ⟨ad, A3, c3, A4, c4, eA, z0, _⟩ := P.at_T45 h (a : Int) (Int.natCast_nonneg _) (Int.ofNat_lt.2 ha)
  rw [Int.toNat_natCast] at z0
  exact ⟨ad, eA, z0⟩
/-- A fact in memory. -/
theorem f_at {w : World} {A : Option Addr} {l : List FC} (h : Kd.C P.k37 w A l.length l) (k : Nat) (hk : k < l.length) : ∃ ad, A = some ad ∧ w.cell? (ad.add (k * 3)) = some (.int .i64 (P.rd_T37 l (k : Int)).f0) ∧ w.cell? ⟨(ad.add (k * 3)).block, (ad.add (k * 3)).off + 1, none⟩ = some (.int .i64 (P.rd_T37 l (k : Int)).f1) := by
  obtain ⟨ad, Aw, cw, eA, x0, x1, _⟩ := P.at_T37 h (k : Int) (Int.natCast_nonneg _) (Int.ofNat_lt.2 hk)
  rw [Int.toNat_natCast] at x0 x1
  exact ⟨ad, eA, x0, x1⟩
theorem f_at3 {w : World} {A : Option Addr} {l : List FC} (h : Kd.C P.k37 w A l.length l) (k : Nat) (hk : k < l.length) : ∃ ad Aw cw, A = some ad ∧ w.cell? (ad.add (k * 3)) = some (.int .i64 (P.rd_T37 l (k : Int)).f0) ∧ w.cell? ⟨(ad.add (k * 3)).block, (ad.add (k * 3)).off + 1, none⟩ = some (.int .i64 (P.rd_T37 l (k : Int)).f1) ∧
    w.cell? ⟨(ad.add (k * 3)).block, (ad.add (k * 3)).off + 2, none⟩ = some (.slice Aw (P.rd_T37 l (k : Int)).f2.length cw) ∧ Aside0 ((P.rd_T37 l (k : Int)).f2.length ≤ cw ∧ Kd.C (Kd.int .i64) w Aw (P.rd_T37 l (k : Int)).f2.length (P.rd_T37 l (k : Int)).f2) := by
  obtain ⟨ad, Aw, cw, eA, x0, x1, x2, h1, h2⟩ := P.at_T37 h (k : Int) (Int.natCast_nonneg _) (Int.ofNat_lt.2 hk)
  rw [Int.toNat_natCast] at x0 x1 x2
  exact ⟨ad, Aw, cw, eA, x0, x1, x2, ⟨h1, h2⟩⟩
theorem i_at {w : World} {A : Option Addr} {l : List Int} (h : Kd.C (Kd.int .i64) w A l.length l) (k : Nat) (hk : k < l.length) : ∃ ad, A = some ad ∧ w.cell? (ad.add k) = some (.int .i64 (rd l (k : Int))) := by
  obtain ⟨ad, e, y⟩ := Kd.at_int h (k : Int) (Int.natCast_nonneg _) (Int.ofNat_lt.2 hk)
  rw [Int.toNat_natCast] at y
  exact ⟨ad, e, y⟩
theorem p_at {w : World} {A : Option Addr} {l : List (Int × Int)} (h : Kd.C kP w A l.length l) (k : Nat) (hk : k < l.length) : ∃ ad, A = some ad ∧ w.cell? (ad.add (k * 2)) = some (.int .i64 (l.getD k (0, 0)).1) ∧ w.cell? ⟨(ad.add (k * 2)).block, (ad.add (k * 2)).off + 1, none⟩ = some (.int .i64 (l.getD k (0, 0)).2) := by
  obtain ⟨ad, e, y0, y1⟩ := at_P h (k : Int) (Int.natCast_nonneg _) (Int.ofNat_lt.2 hk)
  rw [Int.toNat_natCast] at y0 y1
  exact ⟨ad, e, y0, y1⟩
theorem wrap_up {i n : Nat} (h : i < n) (hn : n ≤ 9223372036854775807) : wrap64 ((i : Int) + 1) = ((i + 1 : Nat) : Int) := by unfold wrap64; omega
end Go.Proofs.YthkoockcfnbpiaaDoor.W23b
namespace Go.Proofs.YthkoockcfnbpiaaDoor.W26a
open Go.RowKit Go.Proofs.YthkoockcfnbpiaaDoorW.PrintWords Go.Proofs.YthkoockcfnbpiaaDoorW.PrintLast Go.Proofs.YthkoockcfnbpiaaDoorW.PrintMore Go.Proofs.YthkoockcfnbpiaaDoor S1 L1 G1 G2 S3 S5 S7 S8 S9 S10 F1 F2 F3 F4 W10 W13 W17 W18 W19 W20 W21 W22 W23b
set_option linter.unusedVariables false
set_option linter.unusedSimpArgs false
theorem R_ints_after {W : World} {e base : Nat} {ok : Nat → Prop} {v : Value} {xs : List Int} (h : Kd.R (Kd.int .i64) e W base ok v xs) (gw i : Nat) (y : Int) : ∃ xs' : List Int, xs'.length = xs.length ∧ Kd.R (Kd.int .i64) e (W.setCell ⟨gw, i, none⟩ (.int .i64 y)) base ok v xs' := by
  obtain ⟨inner, _, ho⟩ := Kd.R_own h
  rcases ho with ⟨rfl, hn⟩ | ⟨g, cap, cur, rfl, _, hb, _⟩
  · have : xs = [] := List.eq_nil_of_length_eq_zero hn
    subst this
    exact ⟨[], rfl, Kd.R_nil _ _ _ _ _⟩
  · by_cases hg : g = gw
    · subst hg
      have := Kd.R_putn h (i : Int) y
      rw [Int.toNat_natCast] at this
      exact ⟨_, List.length_set, this⟩
    · exact ⟨xs, rfl, Kd.R_of_own (own_setCell (Kd.own_of_R h) (p := ⟨gw, i, none⟩) (fun e => hg (by simp [Value.ownBlock] at e; exact e.symm)) _) h.1⟩
instance : Inhabited FC := ⟨P.z37⟩
theorem R_facts_after {W : World} {base : Nat} {ok : Nat → Prop} {v : Value} {fs : List FC} (h : Kd.R P.k37 37 W base ok v fs) {gw : Nat} {c : Array Value} (hb : W.heap[gw]? = some (.cells c 3 (0, 0))) (i : Nat) (y : Int) :
    ∃ fs' : List FC, fs'.length = fs.length ∧ Kd.R P.k37 37 (W.setCell ⟨gw, i, none⟩ (.int .i64 y)) base ok v fs' := by
  obtain ⟨hok, inner, ho, hr⟩ := h
  have ho' := own_setCell ho (p := ⟨gw, i, none⟩) (own_ne ho hb (by decide)) (.int .i64 y)
  obtain ⟨f, hf⟩ := Go.Deep.choose_lt (n := fs.length) (p := fun j (x : FC) => P.k37.M (W.setCell ⟨gw, i, none⟩ (.int .i64 y)) base (fun k => ok k ∧ some k ≠ v.ownBlock) x ((inner.drop (j * 3)).take 3)) (fun j hj => by
    have hm := hr.2 j _ (List.getElem?_eq_getElem hj)
    obtain ⟨v2, e, h2⟩ := P.k37_openM hm
    obtain ⟨ws, _, h3⟩ := R_ints_after h2 gw i y
    refine ⟨⟨fs[j].f0, fs[j].f1, ws⟩, ?_⟩
    have e' : (inner.drop (j * 3)).take 3 = [.int .i64 fs[j].f0, .int .i64 fs[j].f1, v2] := e
    rw [e']
    exact P.k37_mkM _ _ _ ⟨fs[j].f0, fs[j].f1, ws⟩ h3)
  have hlen : ((List.range fs.length).map f).length = fs.length := by simp
  refine ⟨(List.range fs.length).map f, hlen, hok, inner, ?_, ?_, fun j p hj => ?_⟩
  · rw [hlen]
    exact ho'
  · rw [hlen]
    exact hr.1
  · have hjl : j < fs.length := by
      have := (List.getElem?_eq_some_iff.1 hj).1
      rwa [hlen] at this
    rw [List.getElem?_map, List.getElem?_range hjl] at hj
    obtain rfl := Option.some.inj hj
    exact hf j hjl
/-- A fact of facts of one's own: its cells, and the row of its numbers. -/
theorem own_fact {W : World} {base g n cap : Nat} {fs : List FC} (h : Kd.R P.k37 37 W base (fun _ => True) (.slice (some ⟨g, 0, none⟩) n cap) fs) (k : Nat) (hk : k < fs.length) :
    ∃ v2, W.cell? ⟨g, k * 3, none⟩ = some (.int .i64 (fs.getD k P.z37).f0) ∧ W.cell? ⟨g, k * 3 + 1, none⟩ = some (.int .i64 (fs.getD k P.z37).f1) ∧ W.cell? ⟨g, k * 3 + 2, none⟩ = some v2 ∧
      Kd.R (Kd.int .i64) 3 W base (fun k => k ≠ g) v2 (fs.getD k P.z37).f2 ∧ ∃ cur, W.heap[g]? = some (.cells cur 37 (0, 0)) ∧ k * 3 + 3 ≤ cur.size := by
  obtain ⟨hn, hnc, _⟩ := Kd.R_reads' h
  obtain ⟨c, hcl, hM, hcc, _⟩ := Kd.R_elem h P.z37 (k : Int) (Int.natCast_nonneg _) (by omega)
  rw [Int.toNat_natCast] at hM hcc
  obtain ⟨v2, rfl, h2⟩ := P.k37_openM hM
  refine ⟨v2, hcc 0 _ rfl, hcc 1 _ rfl, hcc 2 _ rfl, Kd.R_mono h2 (fun k hk => hk.2), ?_⟩
  obtain ⟨_, inner, ho, hr⟩ := h
  rcases ho with ⟨_, ⟨hv, _⟩ | ⟨g', cap', cur, hv, _, hh, hnc', hcm, hcs, _⟩⟩
  · cases hv
  · injection hv with ha _ hc
    injection ha with ha
    injection ha with hg
    subst hg; subst hc
    refine ⟨cur, hh, ?_⟩
    have h1 : cur.size = cap * 3 := hcs
    omega
/-- A fact is written whole. -/
theorem put_fact {W : World} {base g n cap : Nat} {fs : List FC} (h : Kd.R P.k37 37 W base (fun _ => True) (.slice (some ⟨g, 0, none⟩) n cap) fs) (k : Nat) (hk : k < fs.length) (a b : Int) {v2 : Value} {ws : List Int} (hw : Kd.R (Kd.int .i64) 3 W base (fun k => k ≠ g) v2 ws) :
    Kd.R P.k37 37 (((W.setCell ⟨g, k * 3, none⟩ (.int .i64 a)).setCell ⟨g, k * 3 + 1, none⟩ (.int .i64 b)).setCell ⟨g, k * 3 + 2, none⟩ v2) base (fun _ => True) (.slice (some ⟨g, 0, none⟩) n cap) (fs.set k ⟨a, b, ws⟩) := by
  obtain ⟨hn, hnc, _⟩ := Kd.R_reads' h
  obtain ⟨c, hcl, hM, hcc, _⟩ := Kd.R_elem h P.z37 (k : Int) (Int.natCast_nonneg _) (by omega)
  rw [Int.toNat_natCast] at hcc
  have hc3 : c.length = 3 := hcl
  have hseg := Kd.R_seg (okp := fun k => k ≠ g) h (k : Int) (Int.natCast_nonneg _) (by omega) (c := c) (seg := [.int .i64 a, .int .i64 b, v2]) (j := 0) (x' := ⟨a, b, ws⟩) hcl (by rw [Int.toNat_natCast]; exact hcc) (by show 0 + 3 ≤ 3; omega) (by
    rw [List.take_zero, List.drop_eq_nil_of_le (by show c.length ≤ 0 + 3; omega), List.nil_append, List.append_nil]
    exact P.k37_mkM W base _ ⟨a, b, ws⟩ hw) (fun k hk => ⟨trivial, hk⟩)
  rw [Int.toNat_natCast] at hseg
  exact hseg.1
end Go.Proofs.YthkoockcfnbpiaaDoor.W26a
