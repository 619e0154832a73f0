/- few, cut and fine: facts, 30 at most; a graph of 16 nodes at most that may be, or none. -/
import Derived.Test.YthkoockcfnbpiaaDoorProg
import Derived.Test.YthkoockcfnbpiaaDoorWWords
import Derived.Test.YthkoockcfnbpiaaDoorWLast
import Derived.Test.YthkoockcfnbpiaaDoorW17
import Derived.Test.YthkoockcfnbpiaaDoorW12
namespace Go.Proofs.YthkoockcfnbpiaaDoor.W19
open Go.RowKit Go.Proofs.YthkoockcfnbpiaaDoorW.PrintWords Go.Proofs.YthkoockcfnbpiaaDoorW.PrintLast Go.Proofs.YthkoockcfnbpiaaDoorW.PrintMore Go.Proofs.YthkoockcfnbpiaaDoor L1 G1 G2 S3 F1 W1 W11 W12 W17
attribute [local go_sem] max2_int min2_int max_two min_two
set_option linter.unusedVariables false
set_option linter.unusedSimpArgs false
theorem R_fresh {α : Type} {d : Kd α} {e : TypeId} {W : World} {base b0 : Nat} {v : Value} {xs : List α} (h : d.R e W b0 (fun _ => True) v xs) (hb : base ≤ b0) : d.R e W base (fun k => b0 ≤ k) v xs := Kd.R_lower (Kd.R_mono (Kd.R_bound h) (fun k hk => hk.2.1)) hb
theorem R_lt {α : Type} {d : Kd α} {e : TypeId} {W : World} {base : Nat} {ok : Nat → Prop} {v : Value} {xs : List α} (h : d.R e W base ok v xs) : ∀ k, v.ownBlock = some k → k < W.heap.size := fun k hk => by
  obtain ⟨inner, ho⟩ := Kd.R_own h
  exact (World.ownsRow.lt ho k hk).2
/-- The lesser of a length and a bound. -/
theorem cut_of (n : Nat) (b : Int) (h : 0 ≤ b) : ∃ j : Nat, (if b < (n : Int) then b else (n : Int)) = (j : Int) ∧ j ≤ n ∧ (j : Int) ≤ b := by
  split
  · exact ⟨b.toNat, by omega, by omega, by omega⟩
  · exact ⟨n, rfl, Nat.le_refl _, by omega⟩
theorem rng_to {x b : Int} (h : 0 ≤ x) (hlt : x < b) (hb : b ≤ 100) : 0 ≤ wrap64 (x + 1) ∧ wrap64 (x + 1) ≤ b ∧ wrap64 (x + 1) = x + 1 := by unfold wrap64; omega
theorem meas_to {x b : Int} (h : 0 ≤ x) (hlt : x < b) (hb : b ≤ 100) : (b + 1).toNat - (intOf (.int .i64 (wrap64 (x + 1)))).toNat < (b + 1).toNat - (intOf (.int .i64 x)).toNat := by
  show (b + 1).toNat - (wrap64 (x + 1)).toNat < (b + 1).toNat - x.toNat
  unfold wrap64
  omega
def fw5.T5 : Bool × List (List Nat × List Nat) := (true, [([], []), ([], []), ([], []), ([1, 2], [1, 2]), ([3], [3]), ([4], [4]), ([], []), ([], []), ([6, 7], [6, 7]), ([8], [8]), ([9], [9]), ([], []), ([], []), ([11, 12], [11, 12]), ([13], [13]), ([14], [14]), ([], []), ([], []), ([16, 17], [16, 17]), ([18], [18]), ([19], [19]), ([20], [20]), ([21], [21]), ([15, 22], [15, 22]), ([23], [23]), ([5, 10, 24], [5, 10, 24]), ([25], [25]), ([0, 26, 24], [0, 26]), ([27, 27, 0, 1, 2, 3, 4, 5, 6, 7, 8, 9, 10, 11, 12, 13, 14, 15, 16, 17, 18, 19, 20, 21, 22, 23, 24, 25, 26, 27], [0, 27])])
def fw5.B5 : List Nat := [0, 0, 0, 6, 14, 30, 0, 0, 192, 448, 960, 0, 0, 6144, 14336, 30720, 0, 0, 196608, 458752, 983040, 2031616, 4128768, 8386560, 16775168, 33554430, 67108862, 134217727, 268435455]
theorem fw5.tab5 : rtab .any (opsOf Tryd.f22 5) = fw5.T5 := by kernel_rfl
theorem fw5.bits5 : waitsOk fw5.T5.2 fw5.B5 = true := by kernel_rfl
set_option maxHeartbeats 8000000 in
set_option maxRecDepth 100000 in
theorem few_yes (A : Option Addr) (c : Nat) (l : List FC) (w : World) (hr : Kd.C P.k37 w A l.length l) (hc : l.length ≤ c) :
    Calls Tryd.prog 22 #[.slice A l.length c] w fun e w' => (∃ B d q, e = .returned (.slice B q.length d) ∧ Kd.C P.k37 w' B q.length q ∧ q.length ≤ d ∧ q.length ≤ 30) ∧ Below w.heap.size w w' := by
  have HC := Aside0.mk hr
  have Hc := Aside0.mk hc
  clear hr hc
  go_enter Tryd.func22, Tryd.ntmps22
  go_wp2_with (fail)
  go_loopw [3, 4] (fun v3 v4 wr => ∃ (x : Int) (r : List FC), v4 = .int .i64 x ∧ (0 ≤ x ∧ x ≤ 30) ∧ Aside0 (Kd.R P.k37 37 wr w.heap.size (fun _ => True) v3 r) ∧ Aside0 (Below w.heap.size w wr) ∧ Aside0 ((r.length : Int) = x)) (fun _ v4 _ => ((30 : Int) + 1).toNat - (intOf v4).toNat)
  case atStart => exact ⟨0, [], rfl, ⟨Int.le_refl _, by decide⟩, ⟨Kd.R_nil _ _ _ _ _⟩, ⟨Below.refl _ _⟩, ⟨rfl⟩⟩
  case round =>
    obtain ⟨x, r, rfl, hx, HR, HB, HL⟩ := hrel
    rename World => X
    by_cases h1 : x < (l.length : Int)
    · by_cases h2 : x < 30
      · have hr := Aside0.mk (rng_to hx.1 h2 (by decide))
        have hm := Aside0.mk (meas_to hx.1 h2 (by decide))
        obtain ⟨ad, Aw, cw, eA, y0, y1, y2, hcw, hws⟩ := P.at_T37 (Kd.C_below HC.out (below_drew HB.out)) x hx.1 h1
        subst eA
        generalize P.rd_T37 l x = o at y0 y1 y2 hcw hws
        obtain ⟨j, hj, hjl, hj20⟩ := cut_of o.f2.length 20 (by decide)
        obtain ⟨i0, hi0, _, hsz0, _⟩ := info_parts P.info3
        obtain ⟨hcut, hA, hCl⟩ := print_take_of (P := Tryd.prog) (Value.int .i64) 0 30 3 .i64 Tryd.underlying30 hi0 hsz0 Aw cw o.f2 (j : Int) (Int.natCast_nonneg _) (Int.ofNat_le.2 hjl) hcw
        rw [Int.toNat_natCast] at hcut hA hCl
        obtain ⟨us, hus⟩ : ∃ us, us = o.f2.take j := ⟨_, rfl⟩
        rw [← hus] at hcut hA hCl
        have HWj := Aside0.mk (show Kd.C (Kd.int .i64) X.drew Aw us.length us from Kd.C_of_reads (h1 := fun _ => rfl) (hA X.drew (Kd.reads_of_C hws)))
        have HJl := Aside0.mk (show us.length ≤ 1000000000 by rw [hus, List.length_take]; omega)
        clear hus
        have HAL := Aside0.mk (show (r.length + 1) * 40 ≤ 140737488355328 by have := HL.out; omega)
        have HR1 := Aside0.mk (Kd.R_drew HR.out)
        have HB1 := Aside0.mk (below_drew HB.out)
        obtain ⟨b0, hb0⟩ : ∃ b0, b0 = X.drew.heap.size := ⟨_, rfl⟩
        have HBb := Aside0.mk (show w.heap.size ≤ b0 by rw [hb0]; exact HB1.out.size)
        have HLt := Aside0.mk (show ∀ k, u3.ownBlock = some k → k < b0 by rw [hb0]; exact R_lt HR1.out)
        have p1 := eq_true h1
        have p2 := eq_true h2
        have p3 := eq_true hx.1
        clear hx h1 h2 hA hCl hjl hj20 hi0 hsz0 hws
        go_wp2_with (fail)
        refine start_ (n := 29) (S := fun w' => w'.cell? (ad.add (x.toNat * 3)) = some (.int .i64 o.f0) ∧ w'.cell? ⟨(ad.add (x.toNat * 3)).block, (ad.add (x.toNat * 3)).off + 1, none⟩ = some (.int .i64 o.f1) ∧ w'.cell? ⟨(ad.add (x.toNat * 3)).block, (ad.add (x.toNat * 3)).off + 2, none⟩ = some (.slice Aw o.f2.length cw)) (ds := [27]) #[φ,φ,φ,φ,φ,φ,φ,φ,φ,φ,φ,φ,φ,φ,φ,φ,φ,φ,φ,φ,φ,φ,φ,φ,φ,φ,φ,φ,φ] (by kernel_rfl) rfl rfl ⟨y0, y1, y2⟩ (fun hHeld => ?_)
        generalize X.drew = X1 at y0 y1 y2 HR1 HB1 HWj hb0 HBb HLt hHeld ⊢
        refine with_tabW fw5.tab5 fw5.bits5 (fun HT_ HW_ => ?_)
        refine pure_ (i := 0) (N := some 15) (v := ?_) (a' := ?_) #[τ,φ,φ,φ,φ,φ,φ,φ,φ,φ,φ,φ,φ,φ,φ,φ,φ,φ,φ,φ,φ,φ,φ,φ,φ,φ,φ,φ,φ] rfl rfl (any_of HT_.out (by kernel_rfl)) (fun _ _ _ h => h) (Or.inl ⟨by rfl, ?_⟩) ?_ ?_
        rotate_left; (intro w'; go_simp; with_reducible rfl); rotate_left; (simp only [Act.put, zz1, zz2, zz3, i64_w, i32_w]; rfl)
        refine pure_ (i := 1) (N := some 16) (v := ?_) (a' := ?_) #[τ,τ,φ,φ,φ,φ,φ,φ,φ,φ,φ,φ,φ,φ,φ,φ,φ,φ,φ,φ,φ,φ,φ,φ,φ,φ,φ,φ,φ] rfl rfl (any_of HT_.out (by kernel_rfl)) (fun _ _ _ h => h) (Or.inl ⟨by rfl, ?_⟩) ?_ ?_
        rotate_left; (intro w'; go_simp; with_reducible rfl); rotate_left; (simp only [Act.put, zz1, zz2, zz3, i64_w, i32_w]; rfl)
        refine pure_ (i := 2) (N := some 17) (v := ?_) (a' := ?_) #[τ,τ,τ,φ,φ,φ,φ,φ,φ,φ,φ,φ,φ,φ,φ,φ,φ,φ,φ,φ,φ,φ,φ,φ,φ,φ,φ,φ,φ] rfl rfl (any_of HT_.out (by kernel_rfl)) (fun _ _ _ h => h) (Or.inl ⟨by rfl, ?_⟩) ?_ ?_
        rotate_left; (intro w'; go_simp; with_reducible rfl); rotate_left; (simp only [Act.put, zz1, zz2, zz3, i64_w, i32_w]; rfl)
        refine pure_ (i := 3) (N := some 18) (v := ?_) (a' := ?_) #[τ,τ,τ,τ,φ,φ,φ,φ,φ,φ,φ,φ,φ,φ,φ,φ,φ,φ,φ,φ,φ,φ,φ,φ,φ,φ,φ,φ,φ] rfl rfl (any_of HT_.out (by kernel_rfl)) (fun _ _ _ h => h) (Or.inl ⟨by rfl, ?_⟩) ?_ ?_
        rotate_left; (intro w'; go_simp; with_reducible rfl); rotate_left; (simp only [Act.put, zz1, zz2, zz3, i64_w, i32_w]; rfl)
        refine pure_ (i := 4) (N := some 19) (v := ?_) (a' := ?_) #[τ,τ,τ,τ,τ,φ,φ,φ,φ,φ,φ,φ,φ,φ,φ,φ,φ,φ,φ,φ,φ,φ,φ,φ,φ,φ,φ,φ,φ] rfl rfl (any_of HT_.out (by kernel_rfl)) (fun _ _ _ h => h) (Or.inl ⟨by rfl, ?_⟩) ?_ ?_
        rotate_left; (intro w'; go_simp; with_reducible rfl); rotate_left; (simp only [Act.put, zz1, zz2, zz3, i64_w, i32_w]; rfl)
        refine pure_ (i := 6) (N := some 21) (v := ?_) (a' := ?_) #[τ,τ,τ,τ,τ,φ,τ,φ,φ,φ,φ,φ,φ,φ,φ,φ,φ,φ,φ,φ,φ,φ,φ,φ,φ,φ,φ,φ,φ] rfl rfl (any_of HT_.out (by kernel_rfl)) (fun _ _ _ h => h) (Or.inl ⟨by rfl, ?_⟩) ?_ ?_
        rotate_left; (intro w'; go_simp; with_reducible rfl); rotate_left; (simp only [Act.put, zz1, zz2, zz3, i64_w, i32_w]; rfl)
        refine pure_ (i := 7) (N := some 22) (v := ?_) (a' := ?_) #[τ,τ,τ,τ,τ,φ,τ,τ,φ,φ,φ,φ,φ,φ,φ,φ,φ,φ,φ,φ,φ,φ,φ,φ,φ,φ,φ,φ,φ] rfl rfl (any_of HT_.out (by kernel_rfl)) (fun _ _ _ h => h) (Or.inl ⟨by rfl, ?_⟩) ?_ ?_
        rotate_left; (intro w'; go_simp; with_reducible rfl); rotate_left; (simp only [Act.put, zz1, zz2, zz3, i64_w, i32_w]; rfl)
        refine pure_ (i := 8) (N := some 23) (v := ?_) (a' := ?_) #[τ,τ,τ,τ,τ,φ,τ,τ,τ,φ,φ,φ,φ,φ,φ,φ,φ,φ,φ,φ,φ,φ,φ,φ,φ,φ,φ,φ,φ] rfl rfl (any_of HT_.out (by kernel_rfl)) (fun _ _ _ h => h) (Or.inl ⟨by rfl, ?_⟩) ?_ ?_
        rotate_left; (intro w'; go_simp; with_reducible rfl); rotate_left; (simp only [Act.put, zz1, zz2, zz3, i64_w, i32_w]; rfl)
        refine pure_ (i := 9) (N := some 24) (v := ?_) (a' := ?_) #[τ,τ,τ,τ,τ,φ,τ,τ,τ,τ,φ,φ,φ,φ,φ,φ,φ,φ,φ,φ,φ,φ,φ,φ,φ,φ,φ,φ,φ] rfl rfl (any_of HT_.out (by kernel_rfl)) (fun _ _ _ h => h) (Or.inl ⟨by rfl, ?_⟩) ?_ ?_
        rotate_left; (intro w'; go_simp; with_reducible rfl); rotate_left; (simp only [Act.put, zz1, zz2, zz3, i64_w, i32_w]; rfl)
        refine pure_ (i := 11) (N := some 26) (v := ?_) (a' := ?_) #[τ,τ,τ,τ,τ,φ,τ,τ,τ,τ,φ,τ,φ,φ,φ,φ,φ,φ,φ,φ,φ,φ,φ,φ,φ,φ,φ,φ,φ] rfl rfl (any_of HT_.out (by kernel_rfl)) (fun _ _ _ h => h) (Or.inl ⟨by rfl, ?_⟩) ?_ ?_
        rotate_left; (intro w'; go_simp; with_reducible rfl); rotate_left; (simp only [Act.put, zz1, zz2, zz3, i64_w, i32_w]; rfl)
        refine pure_ (i := 12) (N := some 27) (v := ?_) (a' := ?_) #[τ,τ,τ,τ,τ,φ,τ,τ,τ,τ,φ,τ,τ,φ,φ,φ,φ,φ,φ,φ,φ,φ,φ,φ,φ,φ,φ,φ,φ] rfl rfl (any_of HT_.out (by kernel_rfl)) (fun _ _ _ h => h) (Or.inl ⟨by rfl, ?_⟩) ?_ ?_
        rotate_left; (intro w'; go_simp; with_reducible rfl); rotate_left; (simp only [Act.put, zz1, zz2, zz3, i64_w, i32_w]; rfl)
        refine pure_ (i := 13) (N := some 28) (v := ?_) (a' := ?_) #[τ,τ,τ,τ,τ,φ,τ,τ,τ,τ,φ,τ,τ,τ,φ,φ,φ,φ,φ,φ,φ,φ,φ,φ,φ,φ,φ,φ,φ] rfl rfl (any_of HT_.out (by kernel_rfl)) (fun _ _ _ h => h) (Or.inl ⟨by rfl, ?_⟩) ?_ ?_
        rotate_left; (intro w'; go_simp; with_reducible rfl); rotate_left; (simp only [Act.put, zz1, zz2, zz3, i64_w, i32_w]; rfl)
        refine pure_ (i := 14) (N := some 29) (v := ?_) (a' := ?_) #[τ,τ,τ,τ,τ,φ,τ,τ,τ,τ,φ,τ,τ,τ,τ,φ,φ,φ,φ,φ,φ,φ,φ,φ,φ,φ,φ,φ,φ] rfl rfl (any_of HT_.out (by kernel_rfl)) (fun _ _ _ h => h) (Or.inl ⟨by rfl, ?_⟩) ?_ ?_
        rotate_left; (intro w'; go_simp; with_reducible rfl); rotate_left; (simp only [Act.put, zz1, zz2, zz3, i64_w, i32_w]; rfl)
        refine pure_ (i := 16) (N := some 31) (v := ?_) (a' := ?_) #[τ,τ,τ,τ,τ,φ,τ,τ,τ,τ,φ,τ,τ,τ,τ,φ,τ,φ,φ,φ,φ,φ,φ,φ,φ,φ,φ,φ,φ] rfl rfl (any_of HT_.out (by kernel_rfl)) (fun _ _ _ h => h) (Or.inl ⟨by rfl, ?_⟩) ?_ ?_
        rotate_left; (intro w'; go_simp; with_reducible rfl); rotate_left; (simp only [Act.put, zz1, zz2, zz3, i64_w, i32_w]; rfl)
        refine pure_ (i := 17) (N := some 32) (v := ?_) (a' := ?_) #[τ,τ,τ,τ,τ,φ,τ,τ,τ,τ,φ,τ,τ,τ,τ,φ,τ,τ,φ,φ,φ,φ,φ,φ,φ,φ,φ,φ,φ] rfl rfl (any_of HT_.out (by kernel_rfl)) (fun _ _ _ h => h) (Or.inl ⟨by rfl, ?_⟩) ?_ ?_
        rotate_left; (intro w'; go_simp; with_reducible rfl); rotate_left; (simp only [Act.put, zz1, zz2, zz3, i64_w, i32_w]; rfl)
        refine pure_ (i := 18) (N := some 33) (v := ?_) (a' := ?_) #[τ,τ,τ,τ,τ,φ,τ,τ,τ,τ,φ,τ,τ,τ,τ,φ,τ,τ,τ,φ,φ,φ,φ,φ,φ,φ,φ,φ,φ] rfl rfl (any_of HT_.out (by kernel_rfl)) (fun _ _ _ h => h) (Or.inl ⟨by rfl, ?_⟩) ?_ ?_
        rotate_left; (intro w'; go_simp; with_reducible rfl); rotate_left; (simp only [Act.put, zz1, zz2, zz3, i64_w, i32_w]; rfl)
        refine pure_ (i := 19) (N := some 34) (v := ?_) (a' := ?_) #[τ,τ,τ,τ,τ,φ,τ,τ,τ,τ,φ,τ,τ,τ,τ,φ,τ,τ,τ,τ,φ,φ,φ,φ,φ,φ,φ,φ,φ] rfl rfl (any_of HT_.out (by kernel_rfl)) (fun _ _ _ h => h) (Or.inl ⟨by rfl, ?_⟩) ?_ ?_
        rotate_left; (intro w'; go_simp; with_reducible rfl); rotate_left; (simp only [Act.put, zz1, zz2, zz3, i64_w, i32_w]; rfl)
        refine take_ (i := 5) (N := some 20) (v := ?_) (a' := ?_) #[τ,τ,τ,τ,τ,τ,τ,τ,τ,τ,φ,τ,τ,τ,τ,φ,τ,τ,τ,τ,φ,φ,φ,φ,φ,φ,φ,φ,φ] rfl rfl (take_ofW HT_.out HW_.out (by kernel_rfl)) (fun _ _ _ h => h) (Or.inl ⟨by rfl, ?_⟩) hHeld ?_ ?_
        rotate_left; (rintro w' ⟨s0, s1, s2⟩; go_simp; with_reducible rfl); rotate_left; (simp only [Act.put, zz1, zz2, zz3, i64_w, i32_w]; rfl)
        refine take_ (i := 10) (N := some 25) (v := ?_) (a' := ?_) #[τ,τ,τ,τ,τ,τ,τ,τ,τ,τ,τ,τ,τ,τ,τ,φ,τ,τ,τ,τ,φ,φ,φ,φ,φ,φ,φ,φ,φ] rfl rfl (take_ofW HT_.out HW_.out (by kernel_rfl)) (fun _ _ _ h => h) (Or.inl ⟨by rfl, ?_⟩) hHeld ?_ ?_
        rotate_left; (rintro w' ⟨s0, s1, s2⟩; go_simp; with_reducible rfl); rotate_left; (simp only [Act.put, zz1, zz2, zz3, i64_w, i32_w]; rfl)
        refine take_ (i := 15) (N := some 30) (v := ?_) (a' := ?_) #[τ,τ,τ,τ,τ,τ,τ,τ,τ,τ,τ,τ,τ,τ,τ,τ,τ,τ,τ,τ,φ,φ,φ,φ,φ,φ,φ,φ,φ] rfl rfl (take_ofW HT_.out HW_.out (by kernel_rfl)) (fun _ _ _ h => h) (Or.inl ⟨by rfl, ?_⟩) hHeld ?_ ?_
        rotate_left; (rintro w' ⟨s0, s1, s2⟩; go_simp; with_reducible rfl); rotate_left; (simp only [Act.put, zz1, zz2, zz3, i64_w, i32_w]; rfl)
        refine take_ (i := 20) (N := some 35) (v := ?_) (a' := ?_) #[τ,τ,τ,τ,τ,τ,τ,τ,τ,τ,τ,τ,τ,τ,τ,τ,τ,τ,τ,τ,τ,φ,φ,φ,φ,φ,φ,φ,φ] rfl rfl (take_ofW HT_.out HW_.out (by kernel_rfl)) (fun _ _ _ h => h) (Or.inl ⟨by rfl, ?_⟩) hHeld ?_ ?_
        rotate_left; (rintro w' ⟨s0, s1, s2⟩; go_simp; with_reducible rfl); rotate_left; (simp only [Act.put, zz1, zz2, zz3, i64_w, i32_w]; rfl)
        refine pure_ (i := 21) (N := some 36) (v := ?_) (a' := ?_) #[τ,τ,τ,τ,τ,τ,τ,τ,τ,τ,τ,τ,τ,τ,τ,τ,τ,τ,τ,τ,τ,τ,φ,φ,φ,φ,φ,φ,φ] rfl rfl (any_of HT_.out (by kernel_rfl)) (fun _ _ _ h => h) (Or.inl ⟨by rfl, ?_⟩) ?_ ?_
        rotate_left; (intro w'; go_simp; with_reducible rfl); rotate_left; (simp only [Act.put, zz1, zz2, zz3, i64_w, i32_w]; rfl)
        refine pure_ (i := 22) (N := some 37) (v := ?_) (a' := ?_) #[τ,τ,τ,τ,τ,τ,τ,τ,τ,τ,τ,τ,τ,τ,τ,τ,τ,τ,τ,τ,τ,τ,τ,φ,φ,φ,φ,φ,φ] rfl rfl (any_of HT_.out (by kernel_rfl)) (fun _ _ _ h => h) (Or.inl ⟨by rfl, ?_⟩) ?_ ?_
        rotate_left; (intro w'; go_simp; with_reducible rfl); rotate_left; (simp only [Act.put, zz1, zz2, zz3, i64_w, i32_w]; rfl)
        refine pure_ (i := 23) (N := some 38) (v := ?_) (a' := ?_) #[τ,τ,τ,τ,τ,τ,τ,τ,τ,τ,τ,τ,τ,τ,τ,τ,τ,τ,τ,τ,τ,τ,τ,τ,φ,φ,φ,φ,φ] rfl rfl (any_of HT_.out (by kernel_rfl)) (fun _ _ _ h => h) (Or.inl ⟨by rfl, ?_⟩) ?_ ?_
        rotate_left; (intro w'; go_simp; with_reducible rfl); rotate_left; (simp only [Act.put, zz1, zz2, zz3, i64_w, i32_w]; rfl)
        refine one_ (i := 24) (N := some 39) #[τ,τ,τ,τ,τ,τ,τ,τ,τ,τ,τ,τ,τ,τ,τ,τ,τ,τ,τ,τ,τ,τ,τ,τ,τ,φ,φ,φ,φ] rfl rfl (one_of HT_.out (by kernel_rfl)) (by decide) (fun K hK => ?_)
        refine goes_ Tryd.func17 (by kernel_rfl) rfl #[.slice Aw us.length cw] (by rfl) rfl rfl (by simp only [List.map_toArray, List.map_cons, List.map_nil]; rfl) ?_
        with_reducible refine (copyints_yes Aw cw us X1 HWj.out HJl.out).mono ?_
        rintro e X2 ⟨v7, rfl, ho, hb⟩
        have HR2 := Aside0.mk (Kd.R_below HR1.out hb)
        have HB2 := Aside0.mk (HB1.out.trans (hb.mono HB1.out.size))
        have HO := Aside0.mk (show Kd.R (Kd.int .i64) 3 X2 b0 (fun _ => True) v7 us by rw [hb0]; exact ho)
        have HS2 := Aside0.mk hb.size
        have r0 := pw_cell_below hb y0
        have r1 := pw_cell_below hb y1
        have r2 := pw_cell_below hb y2
        obtain ⟨A7, c7, e7⟩ := Kd.R_slice ho
        subst e7
        clear ho hb
        refine ⟨_, rfl, ?_⟩
        refine hK.out _ _ ⟨r0, r1, r2⟩ (fun hHeld => ?_)
        clear hK K
        refine norm_ (a' := ?_) ?_ ?_
        rotate_left
        · show Act.put _ (some 39) _ = _
          simp only [Act.put, zz1, zz2, zz3, i64_w, i32_w]
          rfl
        refine pure_ (i := 25) (N := some 40) (v := ?_) (a' := ?_) #[τ,τ,τ,τ,τ,τ,τ,τ,τ,τ,τ,τ,τ,τ,τ,τ,τ,τ,τ,τ,τ,τ,τ,τ,τ,τ,φ,φ,φ] rfl rfl (any_of HT_.out (by kernel_rfl)) (fun _ _ _ h => h) (Or.inl ⟨by rfl, ?_⟩) ?_ ?_
        rotate_left; (intro w'; go_simp; with_reducible rfl); rotate_left; (simp only [Act.put, zz1, zz2, zz3, i64_w, i32_w]; rfl)
        refine one_ (i := 26) (N := some 41) #[τ,τ,τ,τ,τ,τ,τ,τ,τ,τ,τ,τ,τ,τ,τ,τ,τ,τ,τ,τ,τ,τ,τ,τ,τ,τ,τ,φ,φ] rfl rfl (one_of HT_.out (by kernel_rfl)) (by decide) (fun K hK => ?_)
        refine value_ (w1 := ?_) (v := ?_) (by rfl) rfl ?_ ?_
        rotate_left 2
        · go_simp
          constructor
          · rfl
          · rfl
        refine hK.out _ _ ⟨pw_cell_below (below_alloc (Below.refl _ _) _) r0, pw_cell_below (below_alloc (Below.refl _ _) _) r1, pw_cell_below (below_alloc (Below.refl _ _) _) r2⟩ (fun hHeld => ?_)
        clear hK K
        refine norm_ (a' := ?_) ?_ ?_
        rotate_left
        · show Act.put _ (some 41) _ = _
          simp only [Act.put, zz1, zz2, zz3, i64_w, i32_w]
          rfl
        refine last_ (i := 27) (N := some 42) #[τ,τ,τ,τ,τ,τ,τ,τ,τ,τ,τ,τ,τ,τ,τ,τ,τ,τ,τ,τ,τ,τ,τ,τ,τ,τ,τ,τ,φ] rfl rfl (one_of HT_.out (by kernel_rfl)) (by decide) (fun K hK => ?_)
        refine Kd.R_append_step P.k37 (w0 := w) w.heap.size (by rfl) (.tmp 15) (.tmp 41) 29 37 (.agg #[.int .i64 0, .int .i64 0, .slice none 0 0]) 40 rfl Tryd.underlying29 infoF rfl (by decide) (by omega) u3 r ⟨o.f0, o.f1, us⟩ [.int .i64 o.f0, .int .i64 o.f1, .slice A7 us.length c7] (fun _ => True) (fun k => b0 ≤ k) rfl rfl (P.k37_mkM _ _ _ _ (R_fresh HO.out HBb.out)) (fun k hk => ⟨trivial, fun e => by have := HLt.out k e.symm; omega⟩) (fun _ _ => trivial) HR2.out HB2.out HB2.out.size HAL.out ?_
        intro v9 W9 ho hb hg9 hat9
        have HO9 := Aside0.mk ho
        have HB9 := Aside0.mk hb
        clear ho hb hg9 hat9
        refine hK.out _ _ ?_
        clear hK K
        refine norm_ (a' := ?_) ?_ ?_
        rotate_left
        · show Act.put _ (some 42) _ = _
          simp only [Act.put, zz1, zz2, zz3, i64_w, i32_w]
          rfl
        refine pure_ (i := 28) (N := some 3) (v := ?_) (a' := ?_) #[τ,τ,τ,τ,τ,τ,τ,τ,τ,τ,τ,τ,τ,τ,τ,τ,τ,τ,τ,τ,τ,τ,τ,τ,τ,τ,τ,τ,τ] rfl rfl (any_of HT_.out (by kernel_rfl)) (fun _ _ _ h => h) (Or.inl ⟨by rfl, ?_⟩) ?_ ?_
        rotate_left; (intro w'; go_simp; with_reducible rfl); rotate_left; (simp only [Act.put, zz1, zz2, zz3, i64_w, i32_w]; rfl)
        refine done_ (done_of HT_.out (by kernel_rfl)) ?_
        go_wp2_with (fail)
        go_roundw
        case rel => exact ⟨wrap64 (x + 1), _, rfl, ⟨hr.out.1, hr.out.2.1⟩, HO9, HB9, ⟨by rw [hr.out.2.2, List.length_append]; have := HL.out; simp; omega⟩⟩
        case measure => exact hm.out
      · have p1 := eq_true h1
        have p2 := eq_false h2
        obtain ⟨B, d, rfl, hd, hC⟩ := Kd.R_reads HR.out
        have HQ := Aside0.mk (And.intro hd hC)
        clear h1 h2 hd hC
        go_wp2_with (fail)
        go_ret
        exact ⟨⟨B, d, r, rfl, HQ.out.2, HQ.out.1, by have := HL.out; omega⟩, HB.out⟩
    · have p1 := eq_false h1
      obtain ⟨B, d, rfl, hd, hC⟩ := Kd.R_reads HR.out
      have HQ := Aside0.mk (And.intro hd hC)
      clear h1 hd hC
      go_wp2_with (fail)
      go_ret
      exact ⟨⟨B, d, r, rfl, HQ.out.2, HQ.out.1, by have := HL.out; omega⟩, HB.out⟩
end Go.Proofs.YthkoockcfnbpiaaDoor.W19
