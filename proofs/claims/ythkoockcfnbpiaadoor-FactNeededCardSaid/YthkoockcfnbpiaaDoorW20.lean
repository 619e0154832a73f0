/- cut and fine: a graph of 16 nodes at most that may be, or none. -/
import Derived.Test.YthkoockcfnbpiaaDoorProg
import Derived.Test.YthkoockcfnbpiaaDoorWWords
import Derived.Test.YthkoockcfnbpiaaDoorWLast
import Derived.Test.YthkoockcfnbpiaaDoorW19
namespace Go.Proofs.YthkoockcfnbpiaaDoor.W20
open Go.RowKit Go.Proofs.YthkoockcfnbpiaaDoorW.PrintWords Go.Proofs.YthkoockcfnbpiaaDoorW.PrintLast Go.Proofs.YthkoockcfnbpiaaDoorW.PrintMore Go.Proofs.YthkoockcfnbpiaaDoor S1 L1 G1 G2 S3 F1 W1 W11 W12 W17 W19
attribute [local go_sem] max2_int min2_int max_two min_two
set_option linter.unusedVariables false
set_option linter.unusedSimpArgs false
theorem infoG : (Tryd.prog.info? 45).map (fun i => (i.zero, i.size, i.bytes)) = some (some (.agg #[.int .i64 0, .int .i64 0, .string ⟨#[]⟩, .slice none 0 0, .slice none 0 0]), 5, 80) := by kernel_rfl
theorem str_at {w : World} {A : Option Addr} {l : List ByteArray} (h : Kd.C Kd.string w A l.length l) {y : Int} (h0 : 0 ≤ y) (h1 : y < l.length) : ∃ ad, A = some ad ∧ w.cell? (ad.add y.toNat) = some (.string (l.getD y.toNat ByteArray.empty)) := W3.strs_at h (by omega)
def cu5.T5 : Bool × List (List Nat × List Nat) := (true, [([], []), ([], []), ([0, 1], [0, 1]), ([2], [2]), ([3], [3]), ([], []), ([], []), ([5, 6], [5, 6]), ([7], [7]), ([8], [8]), ([], []), ([], []), ([10, 11], [10, 11]), ([12], [12]), ([13], [13]), ([], []), ([], []), ([15, 16], [15, 16]), ([17], [17]), ([18], [18]), ([19], [19]), ([20], [20]), ([14, 21], [14, 21]), ([], []), ([], []), ([23, 24], [23, 24]), ([25], [25]), ([26], [26]), ([], []), ([], []), ([28, 29], [28, 29]), ([30], [30]), ([31], [31]), ([32], [32]), ([33], [33]), ([27, 34], [27, 34]), ([35], [35]), ([4, 9, 22, 36], [4, 9, 22, 36]), ([], []), ([38, 37, 36, 0, 1, 2, 3, 4, 5, 6, 7, 8, 9, 10, 11, 12, 13, 14, 15, 16, 17, 18, 19, 20, 21, 22, 23, 24, 25, 26, 27, 28, 29, 30, 31, 32, 33, 34, 35, 36, 37, 38], [37, 38])])
def cu5.B5 : List Nat := [0, 0, 3, 7, 15, 0, 0, 96, 224, 480, 0, 0, 3072, 7168, 15360, 0, 0, 98304, 229376, 491520, 1015808, 2064384, 4193280, 0, 0, 25165824, 58720256, 125829120, 0, 0, 805306368, 1879048192, 4026531840, 8321499136, 16911433728, 34351349760, 68711088128, 137438953471, 0, 549755813887]
theorem cu5.tab5 : rtab .any (opsOf Tryd.f24 5) = cu5.T5 := by kernel_rfl
theorem cu5.bits5 : waitsOk cu5.T5.2 cu5.B5 = true := by kernel_rfl
def cu9.T9 : Bool × List (List Nat × List Nat) := (true, [([], []), ([0], [0]), ([], []), ([], []), ([2, 3], [2, 3]), ([4], [4]), ([5], [5]), ([], []), ([6, 7], [6, 7]), ([8], [8]), ([], []), ([], []), ([10, 11], [10, 11]), ([12], [12]), ([13], [13]), ([], []), ([14, 15], [14, 15]), ([16], [16]), ([17], [17]), ([18], [18]), ([9, 19], [9, 19]), ([20], [20]), ([1, 21], [1, 21]), ([0, 1, 2, 3, 4, 5, 6, 7, 8, 9, 10, 11, 12, 13, 14, 15, 16, 17, 18, 19, 20, 21, 22], []), ([23, 22, 22, 0, 1, 2, 3, 4, 5, 6, 7, 8, 9, 10, 11, 12, 13, 14, 15, 16, 17, 18, 19, 20, 21, 22], [22, 23])])
def cu9.B9 : List Nat := [0, 1, 0, 0, 12, 28, 60, 0, 252, 508, 0, 0, 3072, 7168, 15360, 0, 64512, 130048, 261120, 523264, 1048572, 2097148, 4194303, 8388607, 16777215]
theorem cu9.tab9 : rtab .any (opsOf Tryd.f24 9) = cu9.T9 := by kernel_rfl
theorem cu9.bits9 : waitsOk cu9.T9.2 cu9.B9 = true := by kernel_rfl
set_option maxHeartbeats 8000000 in
set_option maxRecDepth 100000 in
theorem cut_yes (A : Option Addr) (c : Nat) (l : List GN) (w : World) (hr : Kd.C P.k45 w A l.length l) (hc : l.length ≤ c) :
    Calls Tryd.prog 24 #[.slice A l.length c] w fun e w' => (∃ B d q, e = .returned (.slice B q.length d) ∧ Kd.C P.k45 w' B q.length q ∧ q.length ≤ d ∧ q.length ≤ 16) ∧ Below w.heap.size w w' := by
  have HC := Aside0.mk hr
  have Hc := Aside0.mk hc
  clear hr hc
  go_enter Tryd.func24, Tryd.ntmps24
  go_wp2_with (fail)
  go_loopw [3, 4] (fun v3 v4 wr => ∃ (x : Int) (r : List GN), v4 = .int .i64 x ∧ (0 ≤ x ∧ x ≤ 16) ∧ Aside0 (Kd.R P.k45 45 wr w.heap.size (fun _ => True) v3 r) ∧ Aside0 (Below w.heap.size w wr) ∧ Aside0 ((r.length : Int) = x)) (fun _ v4 _ => ((16 : Int) + 1).toNat - (intOf v4).toNat)
  case atStart => exact ⟨0, [], rfl, ⟨Int.le_refl _, by decide⟩, ⟨Kd.R_nil _ _ _ _ _⟩, ⟨Below.refl _ _⟩, ⟨rfl⟩⟩
  case round =>
    obtain ⟨x, r, rfl, hx, HR, HB, HL⟩ := hrel
    rename World => X
    by_cases h1 : x < (l.length : Int)
    · by_cases h2 : x < 16
      · have hr := Aside0.mk (rng_to hx.1 h2 (by decide))
        have hm := Aside0.mk (meas_to hx.1 h2 (by decide))
        obtain ⟨ad, Ak, ck, Al, cl, eA, y0, y1, y2, y3, y4, hkc, hks, hlc, hls⟩ := P.at_T45 (Kd.C_below HC.out (below_drew HB.out)) x hx.1 h1
        subst eA
        generalize P.rd_T45 l x = o at y0 y1 y2 y3 y4 hkc hks hlc hls
        obtain ⟨j, hj, hjl, hj20⟩ := cut_of o.f4.length 12 (by decide)
        obtain ⟨j2, hj2, hjl2, hj220⟩ := cut_of o.f2.size 20 (by decide)
        obtain ⟨i0, hi0, _, hsz0, _⟩ := info_parts P.info3
        obtain ⟨hcut, hA, hCl⟩ := print_take_of (P := Tryd.prog) (Value.int .i64) 0 30 3 .i64 Tryd.underlying30 hi0 hsz0 Al cl o.f4 (j : Int) (Int.natCast_nonneg _) (Int.ofNat_le.2 hjl) hlc
        rw [Int.toNat_natCast] at hcut hA hCl
        obtain ⟨us, hus⟩ : ∃ us, us = o.f4.take j := ⟨_, rfl⟩
        rw [← hus] at hcut hA hCl
        have HWj := Aside0.mk (show Kd.C (Kd.int .i64) X.drew Al us.length us from Kd.C_of_reads (h1 := fun _ => rfl) (hA X.drew (Kd.reads_of_C hls)))
        have HJl := Aside0.mk (show us.length ≤ 1000000000 by rw [hus, List.length_take]; omega)
        have HKy := Aside0.mk (And.intro hkc hks)
        have HALr := Aside0.mk (show (r.length + 1) * 80 ≤ 140737488355328 by have := HL.out; omega)
        have HR1 := Aside0.mk (Kd.R_drew HR.out)
        have HB1 := Aside0.mk (below_drew HB.out)
        have HBd := Aside0.mk (Below.refl X.drew.heap.size X.drew)
        obtain ⟨b0, hb0⟩ : ∃ b0, b0 = X.drew.heap.size := ⟨_, rfl⟩
        have HBb := Aside0.mk (show w.heap.size ≤ b0 by rw [hb0]; exact HB1.out.size)
        have HLt := Aside0.mk (show ∀ k, u3.ownBlock = some k → k < b0 by rw [hb0]; exact R_lt HR1.out)
        have p1 := eq_true h1
        have p2 := eq_true h2
        have p3 := eq_true hx.1
        have p4 : ((j2 : Int) ≤ (o.f2.size : Int)) = True := eq_true (Int.ofNat_le.2 hjl2)
        clear hus hx h1 h2 hA hCl hjl hjl2 hj20 hj220 hi0 hsz0 hks hls hkc hlc
        go_wp2_with (fail)
        refine start_ (n := 40) (S := fun w' => w'.cell? (ad.add (x.toNat * 5)) = some (.int .i64 o.f0) ∧ w'.cell? ⟨(ad.add (x.toNat * 5)).block, (ad.add (x.toNat * 5)).off + 1, none⟩ = some (.int .i64 o.f1) ∧ w'.cell? ⟨(ad.add (x.toNat * 5)).block, (ad.add (x.toNat * 5)).off + 2, none⟩ = some (.string o.f2) ∧ w'.cell? ⟨(ad.add (x.toNat * 5)).block, (ad.add (x.toNat * 5)).off + 4, none⟩ = some (.slice Al o.f4.length cl)) (ds := [39]) #[φ,φ,φ,φ,φ,φ,φ,φ,φ,φ,φ,φ,φ,φ,φ,φ,φ,φ,φ,φ,φ,φ,φ,φ,φ,φ,φ,φ,φ,φ,φ,φ,φ,φ,φ,φ,φ,φ,φ,φ] (by kernel_rfl) rfl rfl ⟨y0, y1, y2, y4⟩ (fun hHeld => ?_)
        generalize X.drew = X1 at y0 y1 y2 y3 y4 HR1 HB1 HWj HKy hb0 HBb HLt HBd hHeld ⊢
        refine with_tabW cu5.tab5 cu5.bits5 (fun HT_ HW_ => ?_)
        refine pure_ (i := 0) (N := some 17) (v := ?_) (a' := ?_) #[τ,φ,φ,φ,φ,φ,φ,φ,φ,φ,φ,φ,φ,φ,φ,φ,φ,φ,φ,φ,φ,φ,φ,φ,φ,φ,φ,φ,φ,φ,φ,φ,φ,φ,φ,φ,φ,φ,φ,φ] rfl rfl (any_of HT_.out (by kernel_rfl)) (fun _ _ _ h => h) (Or.inl ⟨by rfl, ?_⟩) ?_ ?_
        rotate_left; (intro w'; go_simp; with_reducible rfl); rotate_left; (simp only [Act.put, zz1, zz2, zz3, i64_w, i32_w]; rfl)
        refine pure_ (i := 1) (N := some 18) (v := ?_) (a' := ?_) #[τ,τ,φ,φ,φ,φ,φ,φ,φ,φ,φ,φ,φ,φ,φ,φ,φ,φ,φ,φ,φ,φ,φ,φ,φ,φ,φ,φ,φ,φ,φ,φ,φ,φ,φ,φ,φ,φ,φ,φ] rfl rfl (any_of HT_.out (by kernel_rfl)) (fun _ _ _ h => h) (Or.inl ⟨by rfl, ?_⟩) ?_ ?_
        rotate_left; (intro w'; go_simp; with_reducible rfl); rotate_left; (simp only [Act.put, zz1, zz2, zz3, i64_w, i32_w]; rfl)
        refine pure_ (i := 2) (N := some 19) (v := ?_) (a' := ?_) #[τ,τ,τ,φ,φ,φ,φ,φ,φ,φ,φ,φ,φ,φ,φ,φ,φ,φ,φ,φ,φ,φ,φ,φ,φ,φ,φ,φ,φ,φ,φ,φ,φ,φ,φ,φ,φ,φ,φ,φ] rfl rfl (any_of HT_.out (by kernel_rfl)) (fun _ _ _ h => h) (Or.inl ⟨by rfl, ?_⟩) ?_ ?_
        rotate_left; (intro w'; go_simp; with_reducible rfl); rotate_left; (simp only [Act.put, zz1, zz2, zz3, i64_w, i32_w]; rfl)
        refine pure_ (i := 3) (N := some 20) (v := ?_) (a' := ?_) #[τ,τ,τ,τ,φ,φ,φ,φ,φ,φ,φ,φ,φ,φ,φ,φ,φ,φ,φ,φ,φ,φ,φ,φ,φ,φ,φ,φ,φ,φ,φ,φ,φ,φ,φ,φ,φ,φ,φ,φ] rfl rfl (any_of HT_.out (by kernel_rfl)) (fun _ _ _ h => h) (Or.inl ⟨by rfl, ?_⟩) ?_ ?_
        rotate_left; (intro w'; go_simp; with_reducible rfl); rotate_left; (simp only [Act.put, zz1, zz2, zz3, i64_w, i32_w]; rfl)
        refine pure_ (i := 5) (N := some 22) (v := ?_) (a' := ?_) #[τ,τ,τ,τ,φ,τ,φ,φ,φ,φ,φ,φ,φ,φ,φ,φ,φ,φ,φ,φ,φ,φ,φ,φ,φ,φ,φ,φ,φ,φ,φ,φ,φ,φ,φ,φ,φ,φ,φ,φ] rfl rfl (any_of HT_.out (by kernel_rfl)) (fun _ _ _ h => h) (Or.inl ⟨by rfl, ?_⟩) ?_ ?_
        rotate_left; (intro w'; go_simp; with_reducible rfl); rotate_left; (simp only [Act.put, zz1, zz2, zz3, i64_w, i32_w]; rfl)
        refine pure_ (i := 6) (N := some 23) (v := ?_) (a' := ?_) #[τ,τ,τ,τ,φ,τ,τ,φ,φ,φ,φ,φ,φ,φ,φ,φ,φ,φ,φ,φ,φ,φ,φ,φ,φ,φ,φ,φ,φ,φ,φ,φ,φ,φ,φ,φ,φ,φ,φ,φ] rfl rfl (any_of HT_.out (by kernel_rfl)) (fun _ _ _ h => h) (Or.inl ⟨by rfl, ?_⟩) ?_ ?_
        rotate_left; (intro w'; go_simp; with_reducible rfl); rotate_left; (simp only [Act.put, zz1, zz2, zz3, i64_w, i32_w]; rfl)
        refine pure_ (i := 7) (N := some 24) (v := ?_) (a' := ?_) #[τ,τ,τ,τ,φ,τ,τ,τ,φ,φ,φ,φ,φ,φ,φ,φ,φ,φ,φ,φ,φ,φ,φ,φ,φ,φ,φ,φ,φ,φ,φ,φ,φ,φ,φ,φ,φ,φ,φ,φ] rfl rfl (any_of HT_.out (by kernel_rfl)) (fun _ _ _ h => h) (Or.inl ⟨by rfl, ?_⟩) ?_ ?_
        rotate_left; (intro w'; go_simp; with_reducible rfl); rotate_left; (simp only [Act.put, zz1, zz2, zz3, i64_w, i32_w]; rfl)
        refine pure_ (i := 8) (N := some 25) (v := ?_) (a' := ?_) #[τ,τ,τ,τ,φ,τ,τ,τ,τ,φ,φ,φ,φ,φ,φ,φ,φ,φ,φ,φ,φ,φ,φ,φ,φ,φ,φ,φ,φ,φ,φ,φ,φ,φ,φ,φ,φ,φ,φ,φ] rfl rfl (any_of HT_.out (by kernel_rfl)) (fun _ _ _ h => h) (Or.inl ⟨by rfl, ?_⟩) ?_ ?_
        rotate_left; (intro w'; go_simp; with_reducible rfl); rotate_left; (simp only [Act.put, zz1, zz2, zz3, i64_w, i32_w]; rfl)
        refine pure_ (i := 10) (N := some 27) (v := ?_) (a' := ?_) #[τ,τ,τ,τ,φ,τ,τ,τ,τ,φ,τ,φ,φ,φ,φ,φ,φ,φ,φ,φ,φ,φ,φ,φ,φ,φ,φ,φ,φ,φ,φ,φ,φ,φ,φ,φ,φ,φ,φ,φ] rfl rfl (any_of HT_.out (by kernel_rfl)) (fun _ _ _ h => h) (Or.inl ⟨by rfl, ?_⟩) ?_ ?_
        rotate_left; (intro w'; go_simp; with_reducible rfl); rotate_left; (simp only [Act.put, zz1, zz2, zz3, i64_w, i32_w]; rfl)
        refine pure_ (i := 11) (N := some 28) (v := ?_) (a' := ?_) #[τ,τ,τ,τ,φ,τ,τ,τ,τ,φ,τ,τ,φ,φ,φ,φ,φ,φ,φ,φ,φ,φ,φ,φ,φ,φ,φ,φ,φ,φ,φ,φ,φ,φ,φ,φ,φ,φ,φ,φ] rfl rfl (any_of HT_.out (by kernel_rfl)) (fun _ _ _ h => h) (Or.inl ⟨by rfl, ?_⟩) ?_ ?_
        rotate_left; (intro w'; go_simp; with_reducible rfl); rotate_left; (simp only [Act.put, zz1, zz2, zz3, i64_w, i32_w]; rfl)
        refine pure_ (i := 12) (N := some 29) (v := ?_) (a' := ?_) #[τ,τ,τ,τ,φ,τ,τ,τ,τ,φ,τ,τ,τ,φ,φ,φ,φ,φ,φ,φ,φ,φ,φ,φ,φ,φ,φ,φ,φ,φ,φ,φ,φ,φ,φ,φ,φ,φ,φ,φ] rfl rfl (any_of HT_.out (by kernel_rfl)) (fun _ _ _ h => h) (Or.inl ⟨by rfl, ?_⟩) ?_ ?_
        rotate_left; (intro w'; go_simp; with_reducible rfl); rotate_left; (simp only [Act.put, zz1, zz2, zz3, i64_w, i32_w]; rfl)
        refine pure_ (i := 13) (N := some 30) (v := ?_) (a' := ?_) #[τ,τ,τ,τ,φ,τ,τ,τ,τ,φ,τ,τ,τ,τ,φ,φ,φ,φ,φ,φ,φ,φ,φ,φ,φ,φ,φ,φ,φ,φ,φ,φ,φ,φ,φ,φ,φ,φ,φ,φ] rfl rfl (any_of HT_.out (by kernel_rfl)) (fun _ _ _ h => h) (Or.inl ⟨by rfl, ?_⟩) ?_ ?_
        rotate_left; (intro w'; go_simp; with_reducible rfl); rotate_left; (simp only [Act.put, zz1, zz2, zz3, i64_w, i32_w]; rfl)
        refine pure_ (i := 15) (N := some 32) (v := ?_) (a' := ?_) #[τ,τ,τ,τ,φ,τ,τ,τ,τ,φ,τ,τ,τ,τ,φ,τ,φ,φ,φ,φ,φ,φ,φ,φ,φ,φ,φ,φ,φ,φ,φ,φ,φ,φ,φ,φ,φ,φ,φ,φ] rfl rfl (any_of HT_.out (by kernel_rfl)) (fun _ _ _ h => h) (Or.inl ⟨by rfl, ?_⟩) ?_ ?_
        rotate_left; (intro w'; go_simp; with_reducible rfl); rotate_left; (simp only [Act.put, zz1, zz2, zz3, i64_w, i32_w]; rfl)
        refine pure_ (i := 16) (N := some 33) (v := ?_) (a' := ?_) #[τ,τ,τ,τ,φ,τ,τ,τ,τ,φ,τ,τ,τ,τ,φ,τ,τ,φ,φ,φ,φ,φ,φ,φ,φ,φ,φ,φ,φ,φ,φ,φ,φ,φ,φ,φ,φ,φ,φ,φ] rfl rfl (any_of HT_.out (by kernel_rfl)) (fun _ _ _ h => h) (Or.inl ⟨by rfl, ?_⟩) ?_ ?_
        rotate_left; (intro w'; go_simp; with_reducible rfl); rotate_left; (simp only [Act.put, zz1, zz2, zz3, i64_w, i32_w]; rfl)
        refine pure_ (i := 17) (N := some 34) (v := ?_) (a' := ?_) #[τ,τ,τ,τ,φ,τ,τ,τ,τ,φ,τ,τ,τ,τ,φ,τ,τ,τ,φ,φ,φ,φ,φ,φ,φ,φ,φ,φ,φ,φ,φ,φ,φ,φ,φ,φ,φ,φ,φ,φ] rfl rfl (any_of HT_.out (by kernel_rfl)) (fun _ _ _ h => h) (Or.inl ⟨by rfl, ?_⟩) ?_ ?_
        rotate_left; (intro w'; go_simp; with_reducible rfl); rotate_left; (simp only [Act.put, zz1, zz2, zz3, i64_w, i32_w]; rfl)
        refine pure_ (i := 18) (N := some 35) (v := ?_) (a' := ?_) #[τ,τ,τ,τ,φ,τ,τ,τ,τ,φ,τ,τ,τ,τ,φ,τ,τ,τ,τ,φ,φ,φ,φ,φ,φ,φ,φ,φ,φ,φ,φ,φ,φ,φ,φ,φ,φ,φ,φ,φ] rfl rfl (any_of HT_.out (by kernel_rfl)) (fun _ _ _ h => h) (Or.inl ⟨by rfl, ?_⟩) ?_ ?_
        rotate_left; (intro w'; go_simp; with_reducible rfl); rotate_left; (simp only [Act.put, zz1, zz2, zz3, i64_w, i32_w]; rfl)
        refine pure_ (i := 23) (N := some 40) (v := ?_) (a' := ?_) #[τ,τ,τ,τ,φ,τ,τ,τ,τ,φ,τ,τ,τ,τ,φ,τ,τ,τ,τ,φ,φ,φ,φ,τ,φ,φ,φ,φ,φ,φ,φ,φ,φ,φ,φ,φ,φ,φ,φ,φ] rfl rfl (any_of HT_.out (by kernel_rfl)) (fun _ _ _ h => h) (Or.inl ⟨by rfl, ?_⟩) ?_ ?_
        rotate_left; (intro w'; go_simp; with_reducible rfl); rotate_left; (simp only [Act.put, zz1, zz2, zz3, i64_w, i32_w]; rfl)
        refine pure_ (i := 24) (N := some 41) (v := ?_) (a' := ?_) #[τ,τ,τ,τ,φ,τ,τ,τ,τ,φ,τ,τ,τ,τ,φ,τ,τ,τ,τ,φ,φ,φ,φ,τ,τ,φ,φ,φ,φ,φ,φ,φ,φ,φ,φ,φ,φ,φ,φ,φ] rfl rfl (any_of HT_.out (by kernel_rfl)) (fun _ _ _ h => h) (Or.inl ⟨by rfl, ?_⟩) ?_ ?_
        rotate_left; (intro w'; go_simp; with_reducible rfl); rotate_left; (simp only [Act.put, zz1, zz2, zz3, i64_w, i32_w]; rfl)
        refine pure_ (i := 25) (N := some 42) (v := ?_) (a' := ?_) #[τ,τ,τ,τ,φ,τ,τ,τ,τ,φ,τ,τ,τ,τ,φ,τ,τ,τ,τ,φ,φ,φ,φ,τ,τ,τ,φ,φ,φ,φ,φ,φ,φ,φ,φ,φ,φ,φ,φ,φ] rfl rfl (any_of HT_.out (by kernel_rfl)) (fun _ _ _ h => h) (Or.inl ⟨by rfl, ?_⟩) ?_ ?_
        rotate_left; (intro w'; go_simp; with_reducible rfl); rotate_left; (simp only [Act.put, zz1, zz2, zz3, i64_w, i32_w]; rfl)
        refine pure_ (i := 26) (N := some 43) (v := ?_) (a' := ?_) #[τ,τ,τ,τ,φ,τ,τ,τ,τ,φ,τ,τ,τ,τ,φ,τ,τ,τ,τ,φ,φ,φ,φ,τ,τ,τ,τ,φ,φ,φ,φ,φ,φ,φ,φ,φ,φ,φ,φ,φ] rfl rfl (any_of HT_.out (by kernel_rfl)) (fun _ _ _ h => h) (Or.inl ⟨by rfl, ?_⟩) ?_ ?_
        rotate_left; (intro w'; go_simp; with_reducible rfl); rotate_left; (simp only [Act.put, zz1, zz2, zz3, i64_w, i32_w]; rfl)
        refine pure_ (i := 28) (N := some 45) (v := ?_) (a' := ?_) #[τ,τ,τ,τ,φ,τ,τ,τ,τ,φ,τ,τ,τ,τ,φ,τ,τ,τ,τ,φ,φ,φ,φ,τ,τ,τ,τ,φ,τ,φ,φ,φ,φ,φ,φ,φ,φ,φ,φ,φ] rfl rfl (any_of HT_.out (by kernel_rfl)) (fun _ _ _ h => h) (Or.inl ⟨by rfl, ?_⟩) ?_ ?_
        rotate_left; (intro w'; go_simp; with_reducible rfl); rotate_left; (simp only [Act.put, zz1, zz2, zz3, i64_w, i32_w]; rfl)
        refine pure_ (i := 29) (N := some 46) (v := ?_) (a' := ?_) #[τ,τ,τ,τ,φ,τ,τ,τ,τ,φ,τ,τ,τ,τ,φ,τ,τ,τ,τ,φ,φ,φ,φ,τ,τ,τ,τ,φ,τ,τ,φ,φ,φ,φ,φ,φ,φ,φ,φ,φ] rfl rfl (any_of HT_.out (by kernel_rfl)) (fun _ _ _ h => h) (Or.inl ⟨by rfl, ?_⟩) ?_ ?_
        rotate_left; (intro w'; go_simp; with_reducible rfl); rotate_left; (simp only [Act.put, zz1, zz2, zz3, i64_w, i32_w]; rfl)
        refine pure_ (i := 30) (N := some 47) (v := ?_) (a' := ?_) #[τ,τ,τ,τ,φ,τ,τ,τ,τ,φ,τ,τ,τ,τ,φ,τ,τ,τ,τ,φ,φ,φ,φ,τ,τ,τ,τ,φ,τ,τ,τ,φ,φ,φ,φ,φ,φ,φ,φ,φ] rfl rfl (any_of HT_.out (by kernel_rfl)) (fun _ _ _ h => h) (Or.inl ⟨by rfl, ?_⟩) ?_ ?_
        rotate_left; (intro w'; go_simp; with_reducible rfl); rotate_left; (simp only [Act.put, zz1, zz2, zz3, i64_w, i32_w]; rfl)
        refine pure_ (i := 31) (N := some 48) (v := ?_) (a' := ?_) #[τ,τ,τ,τ,φ,τ,τ,τ,τ,φ,τ,τ,τ,τ,φ,τ,τ,τ,τ,φ,φ,φ,φ,τ,τ,τ,τ,φ,τ,τ,τ,τ,φ,φ,φ,φ,φ,φ,φ,φ] rfl rfl (any_of HT_.out (by kernel_rfl)) (fun _ _ _ h => h) (Or.inl ⟨by rfl, ?_⟩) ?_ ?_
        rotate_left; (intro w'; go_simp; with_reducible rfl); rotate_left; (simp only [Act.put, zz1, zz2, zz3, i64_w, i32_w]; rfl)
        refine take_ (i := 4) (N := some 21) (v := ?_) (a' := ?_) #[τ,τ,τ,τ,τ,τ,τ,τ,τ,φ,τ,τ,τ,τ,φ,τ,τ,τ,τ,φ,φ,φ,φ,τ,τ,τ,τ,φ,τ,τ,τ,τ,φ,φ,φ,φ,φ,φ,φ,φ] rfl rfl (take_ofW HT_.out HW_.out (by kernel_rfl)) (fun _ _ _ h => h) (Or.inl ⟨by rfl, ?_⟩) hHeld ?_ ?_
        rotate_left; (rintro w' ⟨s0, s1, s2, s3⟩; go_simp; with_reducible rfl); rotate_left; (simp only [Act.put, zz1, zz2, zz3, i64_w, i32_w]; rfl)
        refine take_ (i := 9) (N := some 26) (v := ?_) (a' := ?_) #[τ,τ,τ,τ,τ,τ,τ,τ,τ,τ,τ,τ,τ,τ,φ,τ,τ,τ,τ,φ,φ,φ,φ,τ,τ,τ,τ,φ,τ,τ,τ,τ,φ,φ,φ,φ,φ,φ,φ,φ] rfl rfl (take_ofW HT_.out HW_.out (by kernel_rfl)) (fun _ _ _ h => h) (Or.inl ⟨by rfl, ?_⟩) hHeld ?_ ?_
        rotate_left; (rintro w' ⟨s0, s1, s2, s3⟩; go_simp; with_reducible rfl); rotate_left; (simp only [Act.put, zz1, zz2, zz3, i64_w, i32_w]; rfl)
        refine take_ (i := 14) (N := some 31) (v := ?_) (a' := ?_) #[τ,τ,τ,τ,τ,τ,τ,τ,τ,τ,τ,τ,τ,τ,τ,τ,τ,τ,τ,φ,φ,φ,φ,τ,τ,τ,τ,φ,τ,τ,τ,τ,φ,φ,φ,φ,φ,φ,φ,φ] rfl rfl (take_ofW HT_.out HW_.out (by kernel_rfl)) (fun _ _ _ h => h) (Or.inl ⟨by rfl, ?_⟩) hHeld ?_ ?_
        rotate_left; (rintro w' ⟨s0, s1, s2, s3⟩; go_simp; with_reducible rfl); rotate_left; (simp only [Act.put, zz1, zz2, zz3, i64_w, i32_w]; rfl)
        refine take_ (i := 19) (N := some 36) (v := ?_) (a' := ?_) #[τ,τ,τ,τ,τ,τ,τ,τ,τ,τ,τ,τ,τ,τ,τ,τ,τ,τ,τ,τ,φ,φ,φ,τ,τ,τ,τ,φ,τ,τ,τ,τ,φ,φ,φ,φ,φ,φ,φ,φ] rfl rfl (take_ofW HT_.out HW_.out (by kernel_rfl)) (fun _ _ _ h => h) (Or.inl ⟨by rfl, ?_⟩) hHeld ?_ ?_
        rotate_left; (rintro w' ⟨s0, s1, s2, s3⟩; go_simp; with_reducible rfl); rotate_left; (simp only [Act.put, zz1, zz2, zz3, i64_w, i32_w]; rfl)
        refine pure_ (i := 20) (N := some 37) (v := ?_) (a' := ?_) #[τ,τ,τ,τ,τ,τ,τ,τ,τ,τ,τ,τ,τ,τ,τ,τ,τ,τ,τ,τ,τ,φ,φ,τ,τ,τ,τ,φ,τ,τ,τ,τ,φ,φ,φ,φ,φ,φ,φ,φ] rfl rfl (any_of HT_.out (by kernel_rfl)) (fun _ _ _ h => h) (Or.inl ⟨by rfl, ?_⟩) ?_ ?_
        rotate_left; (intro w'; go_simp; with_reducible rfl); rotate_left; (simp only [Act.put, zz1, zz2, zz3, i64_w, i32_w]; rfl)
        refine pure_ (i := 21) (N := some 38) (v := ?_) (a' := ?_) #[τ,τ,τ,τ,τ,τ,τ,τ,τ,τ,τ,τ,τ,τ,τ,τ,τ,τ,τ,τ,τ,τ,φ,τ,τ,τ,τ,φ,τ,τ,τ,τ,φ,φ,φ,φ,φ,φ,φ,φ] rfl rfl (any_of HT_.out (by kernel_rfl)) (fun _ _ _ h => h) (Or.inl ⟨by rfl, ?_⟩) ?_ ?_
        rotate_left; (intro w'; go_simp; with_reducible rfl); rotate_left; (simp only [Act.put, zz1, zz2, zz3, i64_w, i32_w]; rfl)
        refine pure_ (i := 22) (N := some 39) (v := ?_) (a' := ?_) #[τ,τ,τ,τ,τ,τ,τ,τ,τ,τ,τ,τ,τ,τ,τ,τ,τ,τ,τ,τ,τ,τ,τ,τ,τ,τ,τ,φ,τ,τ,τ,τ,φ,φ,φ,φ,φ,φ,φ,φ] rfl rfl (any_of HT_.out (by kernel_rfl)) (fun _ _ _ h => h) (Or.inl ⟨by rfl, ?_⟩) ?_ ?_
        rotate_left; (intro w'; go_simp; with_reducible rfl); rotate_left; (simp only [Act.put, zz1, zz2, zz3, i64_w, i32_w]; rfl)
        refine take_ (i := 27) (N := some 44) (v := ?_) (a' := ?_) #[τ,τ,τ,τ,τ,τ,τ,τ,τ,τ,τ,τ,τ,τ,τ,τ,τ,τ,τ,τ,τ,τ,τ,τ,τ,τ,τ,τ,τ,τ,τ,τ,φ,φ,φ,φ,φ,φ,φ,φ] rfl rfl (take_ofW HT_.out HW_.out (by kernel_rfl)) (fun _ _ _ h => h) (Or.inl ⟨by rfl, ?_⟩) hHeld ?_ ?_
        rotate_left; (rintro w' ⟨s0, s1, s2, s3⟩; go_simp; with_reducible rfl); rotate_left; (simp only [Act.put, zz1, zz2, zz3, i64_w, i32_w]; rfl)
        refine take_ (i := 32) (N := some 49) (v := ?_) (a' := ?_) #[τ,τ,τ,τ,τ,τ,τ,τ,τ,τ,τ,τ,τ,τ,τ,τ,τ,τ,τ,τ,τ,τ,τ,τ,τ,τ,τ,τ,τ,τ,τ,τ,τ,φ,φ,φ,φ,φ,φ,φ] rfl rfl (take_ofW HT_.out HW_.out (by kernel_rfl)) (fun _ _ _ h => h) (Or.inl ⟨by rfl, ?_⟩) hHeld ?_ ?_
        rotate_left; (rintro w' ⟨s0, s1, s2, s3⟩; go_simp; with_reducible rfl); rotate_left; (simp only [Act.put, zz1, zz2, zz3, i64_w, i32_w]; rfl)
        refine pure_ (i := 33) (N := some 50) (v := ?_) (a' := ?_) #[τ,τ,τ,τ,τ,τ,τ,τ,τ,τ,τ,τ,τ,τ,τ,τ,τ,τ,τ,τ,τ,τ,τ,τ,τ,τ,τ,τ,τ,τ,τ,τ,τ,τ,φ,φ,φ,φ,φ,φ] rfl rfl (any_of HT_.out (by kernel_rfl)) (fun _ _ _ h => h) (Or.inl ⟨by rfl, ?_⟩) ?_ ?_
        rotate_left; (intro w'; go_simp; with_reducible rfl); rotate_left; (simp only [Act.put, zz1, zz2, zz3, i64_w, i32_w]; rfl)
        refine pure_ (i := 34) (N := some 51) (v := ?_) (a' := ?_) #[τ,τ,τ,τ,τ,τ,τ,τ,τ,τ,τ,τ,τ,τ,τ,τ,τ,τ,τ,τ,τ,τ,τ,τ,τ,τ,τ,τ,τ,τ,τ,τ,τ,τ,τ,φ,φ,φ,φ,φ] rfl rfl (any_of HT_.out (by kernel_rfl)) (fun _ _ _ h => h) (Or.inl ⟨by rfl, ?_⟩) ?_ ?_
        rotate_left; (intro w'; go_simp; with_reducible rfl); rotate_left; (simp only [Act.put, zz1, zz2, zz3, i64_w, i32_w]; rfl)
        refine pure_ (i := 35) (N := some 52) (v := ?_) (a' := ?_) #[τ,τ,τ,τ,τ,τ,τ,τ,τ,τ,τ,τ,τ,τ,τ,τ,τ,τ,τ,τ,τ,τ,τ,τ,τ,τ,τ,τ,τ,τ,τ,τ,τ,τ,τ,τ,φ,φ,φ,φ] rfl rfl (any_of HT_.out (by kernel_rfl)) (fun _ _ _ h => h) (Or.inl ⟨by rfl, ?_⟩) ?_ ?_
        rotate_left; (intro w'; go_simp; with_reducible rfl); rotate_left; (simp only [Act.put, zz1, zz2, zz3, i64_w, i32_w]; rfl)
        refine join_ (σ := Value × Nat) 1 #[τ,τ,τ,τ,τ,τ,τ,τ,τ,τ,τ,τ,τ,τ,τ,τ,τ,τ,τ,τ,τ,τ,τ,τ,τ,τ,τ,τ,τ,τ,τ,τ,τ,τ,τ,τ,τ,τ,τ,φ] (fun s => [(53, s.1), (5, .pointer (some ⟨s.2, 0, none⟩)), (54, .agg #[.int .i64 o.f0, .int .i64 o.f1, .string (o.f2.extract 0 j2), .slice none 0 0, s.1])]) (fun s w' => Below X1.heap.size X1 w' ∧ (∃ A7 c7, s.1 = .slice A7 us.length c7) ∧ Kd.R (Kd.int .i64) 3 w' b0 (fun _ => True) s.1 us ∧ w'.heap[s.2]? = some (.cells #[.int .i64 0, .int .i64 0, .string ⟨#[]⟩, .slice none 0 0, .slice none 0 0] 45 (0, 0)) ∧ b0 ≤ s.2) ?_ ?_
        rotate_left
        · intro hCont
          refine two_ (i := 36) (j := 38) (Ni := some 53) (Nj := some 5) #[τ,τ,τ,τ,τ,τ,τ,τ,τ,τ,τ,τ,τ,τ,τ,τ,τ,τ,τ,τ,τ,τ,τ,τ,τ,τ,τ,τ,τ,τ,τ,τ,τ,τ,τ,τ,τ,φ,φ,φ] #[τ,τ,τ,τ,τ,τ,τ,τ,τ,τ,τ,τ,τ,τ,τ,τ,τ,τ,τ,τ,τ,τ,τ,τ,τ,τ,τ,τ,τ,τ,τ,τ,τ,τ,τ,τ,φ,φ,τ,φ] rfl rfl rfl rfl (two_of HT_.out (by kernel_rfl)) (by decide) (by decide) (fun K hK => ?_) (fun K hK => ?_)
          · skip
            refine goes_ Tryd.func17 (by kernel_rfl) rfl #[.slice Al us.length cl] (by rfl) rfl rfl (by simp only [List.map_toArray, List.map_cons, List.map_nil]; rfl) ?_
            with_reducible refine (copyints_yes Al cl us X1 (Kd.C_below HWj.out HBd.out) HJl.out).mono ?_
            rintro e X2 ⟨v7, rfl, ho, hb⟩
            have HO := Aside0.mk (show Kd.R (Kd.int .i64) 3 X2 b0 (fun _ => True) v7 us from Kd.R_lower ho (by rw [hb0]; exact HBd.out.size))
            have HBd := Aside0.mk (below_then HBd.out HBd.out.size hb)
            obtain ⟨A7, c7, e7⟩ := Kd.R_slice ho
            subst e7
            clear ho hb
            refine ⟨_, rfl, ?_⟩
            refine hK.out _ _ ⟨pw_cell_below HBd.out y0, pw_cell_below HBd.out y1, pw_cell_below HBd.out y2, pw_cell_below HBd.out y4⟩ (fun hHeld => ?_)
            clear hK K
            refine norm_ (a' := ?_) ?_ ?_
            rotate_left
            · show Act.put _ (some 53) _ = _
              simp only [Act.put, zz1, zz2, zz3, i64_w, i32_w]
              rfl
            refine pure_ (i := 37) (N := some 54) (v := ?_) (a' := ?_) #[τ,τ,τ,τ,τ,τ,τ,τ,τ,τ,τ,τ,τ,τ,τ,τ,τ,τ,τ,τ,τ,τ,τ,τ,τ,τ,τ,τ,τ,τ,τ,τ,τ,τ,τ,τ,τ,τ,φ,φ] rfl rfl (any_of HT_.out (by kernel_rfl)) (fun _ _ _ h => h) (Or.inl ⟨by rfl, ?_⟩) ?_ ?_
            rotate_left; (intro w'; go_simp; with_reducible rfl); rotate_left; (simp only [Act.put, zz1, zz2, zz3, i64_w, i32_w]; rfl)
            refine one_ (i := 38) (N := some 5) #[τ,τ,τ,τ,τ,τ,τ,τ,τ,τ,τ,τ,τ,τ,τ,τ,τ,τ,τ,τ,τ,τ,τ,τ,τ,τ,τ,τ,τ,τ,τ,τ,τ,τ,τ,τ,τ,τ,τ,φ] rfl rfl (one_of HT_.out (by kernel_rfl)) (by decide) (fun K hK => ?_)
            refine value_ (w1 := ?_) (v := ?_) (by rfl) rfl ?_ ?_
            rotate_left 2
            · go_simp
              constructor
              · rfl
              · rfl
            have HGb := Aside0.mk (show b0 ≤ X2.heap.size by rw [hb0]; exact HBd.out.size)
            have HG := Aside0.mk (heap_alloc_new X2 (.cells #[.int .i64 0, .int .i64 0, .string ⟨#[]⟩, .slice none 0 0, .slice none 0 0] 45))
            have HBd := Aside0.mk (below_alloc HBd.out (.cells #[.int .i64 0, .int .i64 0, .string ⟨#[]⟩, .slice none 0 0, .slice none 0 0] 45))
            have HO := Aside0.mk (Kd.R_below HO.out (below_alloc (Below.refl _ _) (.cells #[.int .i64 0, .int .i64 0, .string ⟨#[]⟩, .slice none 0 0, .slice none 0 0] 45)))
            refine hK.out _ _ ⟨pw_cell_below HBd.out y0, pw_cell_below HBd.out y1, pw_cell_below HBd.out y2, pw_cell_below HBd.out y4⟩ (fun hHeld => ?_)
            clear hK K
            refine norm_ (a' := ?_) ?_ ?_
            rotate_left
            · show Act.put _ (some 5) _ = _
              simp only [Act.put, zz1, zz2, zz3, i64_w, i32_w]
              rfl
            exact norm_ (by simp only [putAll, Act.put, List.setIfInBounds_toArray, List.set_cons_zero, List.set_cons_succ]) (hCont (.slice A7 us.length c7, X2.heap.size) _ ⟨HBd.out, ⟨A7, c7, rfl⟩, HO.out, HG.out, HGb.out⟩)
          · skip
            refine value_ (w1 := ?_) (v := ?_) (by rfl) rfl ?_ ?_
            rotate_left 2
            · go_simp
              constructor
              · rfl
              · rfl
            have HGb := Aside0.mk (show b0 ≤ X1.heap.size by rw [hb0]; exact HBd.out.size)
            have HG := Aside0.mk (heap_alloc_new X1 (.cells #[.int .i64 0, .int .i64 0, .string ⟨#[]⟩, .slice none 0 0, .slice none 0 0] 45))
            have HBd := Aside0.mk (below_alloc HBd.out (.cells #[.int .i64 0, .int .i64 0, .string ⟨#[]⟩, .slice none 0 0, .slice none 0 0] 45))
            refine hK.out _ _ ⟨pw_cell_below HBd.out y0, pw_cell_below HBd.out y1, pw_cell_below HBd.out y2, pw_cell_below HBd.out y4⟩ (fun hHeld => ?_)
            clear hK K
            refine norm_ (a' := ?_) ?_ ?_
            rotate_left
            · show Act.put _ (some 5) _ = _
              simp only [Act.put, zz1, zz2, zz3, i64_w, i32_w]
              rfl
            refine one_ (i := 36) (N := some 53) #[τ,τ,τ,τ,τ,τ,τ,τ,τ,τ,τ,τ,τ,τ,τ,τ,τ,τ,τ,τ,τ,τ,τ,τ,τ,τ,τ,τ,τ,τ,τ,τ,τ,τ,τ,τ,τ,φ,τ,φ] rfl rfl (one_of HT_.out (by kernel_rfl)) (by decide) (fun K hK => ?_)
            refine goes_ Tryd.func17 (by kernel_rfl) rfl #[.slice Al us.length cl] (by rfl) rfl rfl (by simp only [List.map_toArray, List.map_cons, List.map_nil]; rfl) ?_
            with_reducible refine (copyints_yes Al cl us (X1.alloc (.cells #[.int .i64 0, .int .i64 0, .string ⟨#[]⟩, .slice none 0 0, .slice none 0 0] 45)) (Kd.C_below HWj.out HBd.out) HJl.out).mono ?_
            rintro e X2 ⟨v7, rfl, ho, hb⟩
            have HO := Aside0.mk (show Kd.R (Kd.int .i64) 3 X2 b0 (fun _ => True) v7 us from Kd.R_lower ho (by rw [hb0]; exact HBd.out.size))
            have HBd := Aside0.mk (below_then HBd.out HBd.out.size hb)
            have HG := Aside0.mk (blk_below HG.out hb)
            obtain ⟨A7, c7, e7⟩ := Kd.R_slice ho
            subst e7
            clear ho hb
            refine ⟨_, rfl, ?_⟩
            refine hK.out _ _ ⟨pw_cell_below HBd.out y0, pw_cell_below HBd.out y1, pw_cell_below HBd.out y2, pw_cell_below HBd.out y4⟩ (fun hHeld => ?_)
            clear hK K
            refine norm_ (a' := ?_) ?_ ?_
            rotate_left
            · show Act.put _ (some 53) _ = _
              simp only [Act.put, zz1, zz2, zz3, i64_w, i32_w]
              rfl
            refine pure_ (i := 37) (N := some 54) (v := ?_) (a' := ?_) #[τ,τ,τ,τ,τ,τ,τ,τ,τ,τ,τ,τ,τ,τ,τ,τ,τ,τ,τ,τ,τ,τ,τ,τ,τ,τ,τ,τ,τ,τ,τ,τ,τ,τ,τ,τ,τ,τ,τ,φ] rfl rfl (any_of HT_.out (by kernel_rfl)) (fun _ _ _ h => h) (Or.inl ⟨by rfl, ?_⟩) ?_ ?_
            rotate_left; (intro w'; go_simp; with_reducible rfl); rotate_left; (simp only [Act.put, zz1, zz2, zz3, i64_w, i32_w]; rfl)
            exact norm_ (by simp only [putAll, Act.put, List.setIfInBounds_toArray, List.set_cons_zero, List.set_cons_succ]) (hCont (.slice A7 us.length c7, X1.heap.size) _ ⟨HBd.out, ⟨A7, c7, rfl⟩, HO.out, HG.out, HGb.out⟩)
        rintro ⟨v7, gb⟩ w9 ⟨hbd, ⟨A7, c7, e7⟩, ho, hg, hgb⟩
        dsimp only at e7 ho hg hgb
        subst e7
        have hHeld : True := trivial
        obtain ⟨s0, f0, s1, f1, s2, f2, s3, f3, s4, f4, hgn⟩ := store5_ hg (.int .i64 o.f0) (.int .i64 o.f1) (.string (o.f2.extract 0 j2)) (.slice none 0 0) (.slice A7 us.length c7)
        have HBs := Aside0.mk (store5_below (q := gb) hbd (by rw [← hb0]; exact hgb) (.int .i64 o.f0) (.int .i64 o.f1) (.string (o.f2.extract 0 j2)) (.slice none 0 0) (.slice A7 us.length c7))
        have HOs := Aside0.mk ho
        have HGo := Aside0.mk hg
        have HGn := Aside0.mk hgn
        have HGb := Aside0.mk hgb
        clear hbd ho hg hgn hgb
        refine norm_ (a' := ?_) ?_ ?_
        rotate_left
        · simp only [putAll, Act.put, List.setIfInBounds_toArray, List.set_cons_zero, List.set_cons_succ]
          rfl
        refine last_ (i := 39) (N := none) #[τ,τ,τ,τ,τ,τ,τ,τ,τ,τ,τ,τ,τ,τ,τ,τ,τ,τ,τ,τ,τ,τ,τ,τ,τ,τ,τ,τ,τ,τ,τ,τ,τ,τ,τ,τ,τ,τ,τ,τ] rfl rfl (one_of HT_.out (by kernel_rfl)) (by decide) (fun K hK => ?_)
        refine skip_ (w1 := ?_) (by rfl) rfl ?_ ?_
        rotate_left
        · go_simp
          rfl
        refine hK.out _ _ ?_
        clear hK K
        refine done_ (done_of HT_.out (by kernel_rfl)) ?_
        clear s0 f0 s1 f1 s2 f2 s3 f3 s4 f4
        obtain ⟨Y0, hY0⟩ : ∃ Y0, Y0 = (((((w9.setCell ⟨gb, 0, none⟩ (.int .i64 o.f0)).setCell ⟨gb, 1, none⟩ (.int .i64 o.f1)).setCell ⟨gb, 2, none⟩ (.string (o.f2.extract 0 j2))).setCell ⟨gb, 3, none⟩ (.slice none 0 0)).setCell ⟨gb, 4, none⟩ (.slice A7 us.length c7)) := ⟨_, rfl⟩
        have HOn := Aside0.mk (show Kd.R (Kd.int .i64) 3 Y0 b0 (fun _ => True) (.slice A7 us.length c7) us by
          rw [hY0]
          have q1 := blk_put HGo.out 0 (.int .i64 o.f0) rfl
          have q2 := blk_put q1 1 (.int .i64 o.f1) rfl
          have q3 := blk_put q2 2 (.string (o.f2.extract 0 j2)) rfl
          have q4 := blk_put q3 3 (.slice none 0 0) rfl
          exact Kd.R_set (Kd.R_set (Kd.R_set (Kd.R_set (Kd.R_set HOs.out HGo.out (by decide) 0 _) q1 (by decide) 1 _) q2 (by decide) 2 _) q3 (by decide) 3 _) q4 (by decide) 4 _)
        rw [← hY0] at HBs HGn ⊢
        clear hY0 HOs HGo HBd
        go_wp2_with (fail)
        go_loopw [6] (fun v6 wr => ∃ (y : Int) (kv : Value) (ks : List ByteArray), v6 = .int .i64 y ∧ (0 ≤ y ∧ y ≤ 12) ∧ Aside0 (Below X1.heap.size X1 wr) ∧ Aside0 (wr.heap[gb]? = some (.cells #[.int .i64 o.f0, .int .i64 o.f1, .string (o.f2.extract 0 j2), kv, .slice A7 us.length c7] 45 (0, 0))) ∧ Aside0 (Kd.R (Kd.int .i64) 3 wr b0 (fun _ => True) (.slice A7 us.length c7) us) ∧ Aside0 (Kd.R Kd.string 9 wr b0 (fun _ => True) kv ks) ∧ Aside0 ((ks.length : Int) = y)) (fun v6 _ => ((12 : Int) + 1).toNat - (intOf v6).toNat)
        case atStart => exact ⟨0, .slice none 0 0, [], rfl, ⟨Int.le_refl _, by decide⟩, HBs, HGn, HOn, ⟨Kd.R_nil _ _ _ _ _⟩, ⟨rfl⟩⟩
        case round =>
          clear HBs HGn HOn
          obtain ⟨y, kv, ks, rfl, hy, HBi, HGw, HOi, HKv, HKl⟩ := hrel
          rename World => Y
          have z3 := pw_cell_below HBi.out y3
          by_cases h3 : y < (o.f3.length : Int)
          · by_cases h4 : y < 12
            · have hr9 := Aside0.mk (rng_to hy.1 h4 (by decide))
              have hm9 := Aside0.mk (meas_to hy.1 h4 (by decide))
              obtain ⟨adk, eK, zk⟩ := str_at (Kd.C_below HKy.out.2 HBi.out) hy.1 h3
              generalize o.f3.getD y.toNat ByteArray.empty = ky at zk
              obtain ⟨jk, hjk, hjkl, hjk20⟩ := cut_of ky.size 20 (by decide)
              obtain ⟨A3, c3, e3⟩ := Kd.R_slice HKv.out
              obtain ⟨n3, hn3⟩ : ∃ n3, n3 = ks.length := ⟨_, rfl⟩
              rw [← hn3] at e3
              subst e3
              subst eK
              have HBi2 := Aside0.mk (show Below b0 X1 Y by rw [hb0]; exact HBi.out)
              have g3 := (blk_cell HGw.out 3).trans rfl
              replace g3 := drew_cell g3
              have z3y := z3
              replace z3 := drew_cell z3
              replace zk := drew_cell zk
              replace HBi := Aside0.mk (below_drew HBi.out)
              replace HBi2 := Aside0.mk (below_drew HBi2.out)
              replace HGw := Aside0.mk (blk_drew HGw.out)
              replace HOi := Aside0.mk (Kd.R_drew HOi.out)
              replace HKv := Aside0.mk (Kd.R_drew HKv.out)
              have HAL := Aside0.mk (show (ks.length + 1) * 16 ≤ 140737488355328 by have := HKl.out; omega)
              have p5 := eq_true h3
              have p6 := eq_true h4
              have p7 := eq_true hy.1
              have p8 : ((jk : Int) ≤ (ky.size : Int)) = True := eq_true (Int.ofNat_le.2 hjkl)
              clear hy h3 h4 hjkl hjk20 hn3
              go_wp2_with (fail)
              clear z3y
              refine start_ (n := 25) (S := fun w' => w'.cell? ⟨gb, 3, none⟩ = some (.slice A3 n3 c3) ∧ w'.cell? ⟨(ad.add (x.toNat * 5)).block, (ad.add (x.toNat * 5)).off + 3, none⟩ = some (.slice (some adk) o.f3.length ck) ∧ w'.cell? (adk.add y.toNat) = some (.string ky)) (ds := [22, 24]) #[φ,φ,φ,φ,φ,φ,φ,φ,φ,φ,φ,φ,φ,φ,φ,φ,φ,φ,φ,φ,φ,φ,φ,φ,φ] (by kernel_rfl) rfl rfl ⟨g3, z3, zk⟩ (fun hHeld => ?_)
              generalize Y.drew = Y1 at g3 z3 zk HBi HBi2 HGw HOi HKv hHeld ⊢
              refine with_tabW cu9.tab9 cu9.bits9 (fun HT_ HW_ => ?_)
              refine pure_ (i := 0) (N := some 69) (v := ?_) (a' := ?_) #[τ,φ,φ,φ,φ,φ,φ,φ,φ,φ,φ,φ,φ,φ,φ,φ,φ,φ,φ,φ,φ,φ,φ,φ,φ] rfl rfl (any_of HT_.out (by kernel_rfl)) (fun _ _ _ h => h) (Or.inl ⟨by rfl, ?_⟩) ?_ ?_
              rotate_left; (intro w'; go_simp; with_reducible rfl); rotate_left; (simp only [Act.put, zz1, zz2, zz3, i64_w, i32_w]; rfl)
              refine pure_ (i := 2) (N := some 71) (v := ?_) (a' := ?_) #[τ,φ,τ,φ,φ,φ,φ,φ,φ,φ,φ,φ,φ,φ,φ,φ,φ,φ,φ,φ,φ,φ,φ,φ,φ] rfl rfl (any_of HT_.out (by kernel_rfl)) (fun _ _ _ h => h) (Or.inl ⟨by rfl, ?_⟩) ?_ ?_
              rotate_left; (intro w'; go_simp; with_reducible rfl); rotate_left; (simp only [Act.put, zz1, zz2, zz3, i64_w, i32_w]; rfl)
              refine pure_ (i := 3) (N := some 72) (v := ?_) (a' := ?_) #[τ,φ,τ,τ,φ,φ,φ,φ,φ,φ,φ,φ,φ,φ,φ,φ,φ,φ,φ,φ,φ,φ,φ,φ,φ] rfl rfl (any_of HT_.out (by kernel_rfl)) (fun _ _ _ h => h) (Or.inl ⟨by rfl, ?_⟩) ?_ ?_
              rotate_left; (intro w'; go_simp; with_reducible rfl); rotate_left; (simp only [Act.put, zz1, zz2, zz3, i64_w, i32_w]; rfl)
              refine pure_ (i := 4) (N := some 73) (v := ?_) (a' := ?_) #[τ,φ,τ,τ,τ,φ,φ,φ,φ,φ,φ,φ,φ,φ,φ,φ,φ,φ,φ,φ,φ,φ,φ,φ,φ] rfl rfl (any_of HT_.out (by kernel_rfl)) (fun _ _ _ h => h) (Or.inl ⟨by rfl, ?_⟩) ?_ ?_
              rotate_left; (intro w'; go_simp; with_reducible rfl); rotate_left; (simp only [Act.put, zz1, zz2, zz3, i64_w, i32_w]; rfl)
              refine pure_ (i := 5) (N := some 74) (v := ?_) (a' := ?_) #[τ,φ,τ,τ,τ,τ,φ,φ,φ,φ,φ,φ,φ,φ,φ,φ,φ,φ,φ,φ,φ,φ,φ,φ,φ] rfl rfl (any_of HT_.out (by kernel_rfl)) (fun _ _ _ h => h) (Or.inl ⟨by rfl, ?_⟩) ?_ ?_
              rotate_left; (intro w'; go_simp; with_reducible rfl); rotate_left; (simp only [Act.put, zz1, zz2, zz3, i64_w, i32_w]; rfl)
              refine pure_ (i := 7) (N := some 76) (v := ?_) (a' := ?_) #[τ,φ,τ,τ,τ,τ,φ,τ,φ,φ,φ,φ,φ,φ,φ,φ,φ,φ,φ,φ,φ,φ,φ,φ,φ] rfl rfl (any_of HT_.out (by kernel_rfl)) (fun _ _ _ h => h) (Or.inl ⟨by rfl, ?_⟩) ?_ ?_
              rotate_left; (intro w'; go_simp; with_reducible rfl); rotate_left; (simp only [Act.put, zz1, zz2, zz3, i64_w, i32_w]; rfl)
              refine pure_ (i := 10) (N := some 79) (v := ?_) (a' := ?_) #[τ,φ,τ,τ,τ,τ,φ,τ,φ,φ,τ,φ,φ,φ,φ,φ,φ,φ,φ,φ,φ,φ,φ,φ,φ] rfl rfl (any_of HT_.out (by kernel_rfl)) (fun _ _ _ h => h) (Or.inl ⟨by rfl, ?_⟩) ?_ ?_
              rotate_left; (intro w'; go_simp; with_reducible rfl); rotate_left; (simp only [Act.put, zz1, zz2, zz3, i64_w, i32_w]; rfl)
              refine pure_ (i := 11) (N := some 80) (v := ?_) (a' := ?_) #[τ,φ,τ,τ,τ,τ,φ,τ,φ,φ,τ,τ,φ,φ,φ,φ,φ,φ,φ,φ,φ,φ,φ,φ,φ] rfl rfl (any_of HT_.out (by kernel_rfl)) (fun _ _ _ h => h) (Or.inl ⟨by rfl, ?_⟩) ?_ ?_
              rotate_left; (intro w'; go_simp; with_reducible rfl); rotate_left; (simp only [Act.put, zz1, zz2, zz3, i64_w, i32_w]; rfl)
              refine pure_ (i := 12) (N := some 81) (v := ?_) (a' := ?_) #[τ,φ,τ,τ,τ,τ,φ,τ,φ,φ,τ,τ,τ,φ,φ,φ,φ,φ,φ,φ,φ,φ,φ,φ,φ] rfl rfl (any_of HT_.out (by kernel_rfl)) (fun _ _ _ h => h) (Or.inl ⟨by rfl, ?_⟩) ?_ ?_
              rotate_left; (intro w'; go_simp; with_reducible rfl); rotate_left; (simp only [Act.put, zz1, zz2, zz3, i64_w, i32_w]; rfl)
              refine pure_ (i := 13) (N := some 82) (v := ?_) (a' := ?_) #[τ,φ,τ,τ,τ,τ,φ,τ,φ,φ,τ,τ,τ,τ,φ,φ,φ,φ,φ,φ,φ,φ,φ,φ,φ] rfl rfl (any_of HT_.out (by kernel_rfl)) (fun _ _ _ h => h) (Or.inl ⟨by rfl, ?_⟩) ?_ ?_
              rotate_left; (intro w'; go_simp; with_reducible rfl); rotate_left; (simp only [Act.put, zz1, zz2, zz3, i64_w, i32_w]; rfl)
              refine pure_ (i := 15) (N := some 84) (v := ?_) (a' := ?_) #[τ,φ,τ,τ,τ,τ,φ,τ,φ,φ,τ,τ,τ,τ,φ,τ,φ,φ,φ,φ,φ,φ,φ,φ,φ] rfl rfl (any_of HT_.out (by kernel_rfl)) (fun _ _ _ h => h) (Or.inl ⟨by rfl, ?_⟩) ?_ ?_
              rotate_left; (intro w'; go_simp; with_reducible rfl); rotate_left; (simp only [Act.put, zz1, zz2, zz3, i64_w, i32_w]; rfl)
              refine take_ (i := 1) (N := some 70) (v := ?_) (a' := ?_) #[τ,τ,τ,τ,τ,τ,φ,τ,φ,φ,τ,τ,τ,τ,φ,τ,φ,φ,φ,φ,φ,φ,φ,φ,φ] rfl rfl (take_ofW HT_.out HW_.out (by kernel_rfl)) (fun _ _ _ h => h) (Or.inl ⟨by rfl, ?_⟩) hHeld ?_ ?_
              rotate_left; (rintro w' ⟨s0, s1, s2⟩; go_simp; with_reducible rfl); rotate_left; (simp only [Act.put, zz1, zz2, zz3, i64_w, i32_w]; rfl)
              refine take_ (i := 6) (N := some 75) (v := ?_) (a' := ?_) #[τ,τ,τ,τ,τ,τ,τ,τ,φ,φ,τ,τ,τ,τ,φ,τ,φ,φ,φ,φ,φ,φ,φ,φ,φ] rfl rfl (take_ofW HT_.out HW_.out (by kernel_rfl)) (fun _ _ _ h => h) (Or.inl ⟨by rfl, ?_⟩) hHeld ?_ ?_
              rotate_left; (rintro w' ⟨s0, s1, s2⟩; go_simp; with_reducible rfl); rotate_left; (simp only [Act.put, zz1, zz2, zz3, i64_w, i32_w]; rfl)
              refine pure_ (i := 8) (N := some 77) (v := ?_) (a' := ?_) #[τ,τ,τ,τ,τ,τ,τ,τ,τ,φ,τ,τ,τ,τ,φ,τ,φ,φ,φ,φ,φ,φ,φ,φ,φ] rfl rfl (any_of HT_.out (by kernel_rfl)) (fun _ _ _ h => h) (Or.inl ⟨by rfl, ?_⟩) ?_ ?_
              rotate_left; (intro w'; go_simp; with_reducible rfl); rotate_left; (simp only [Act.put, zz1, zz2, zz3, i64_w, i32_w]; rfl)
              refine take_ (i := 9) (N := some 78) (v := ?_) (a' := ?_) #[τ,τ,τ,τ,τ,τ,τ,τ,τ,τ,τ,τ,τ,τ,φ,τ,φ,φ,φ,φ,φ,φ,φ,φ,φ] rfl rfl (take_ofW HT_.out HW_.out (by kernel_rfl)) (fun _ _ _ h => h) (Or.inl ⟨by rfl, ?_⟩) hHeld ?_ ?_
              rotate_left; (rintro w' ⟨s0, s1, s2⟩; go_simp; with_reducible rfl); rotate_left; (simp only [Act.put, zz1, zz2, zz3, i64_w, i32_w]; rfl)
              refine take_ (i := 14) (N := some 83) (v := ?_) (a' := ?_) #[τ,τ,τ,τ,τ,τ,τ,τ,τ,τ,τ,τ,τ,τ,τ,τ,φ,φ,φ,φ,φ,φ,φ,φ,φ] rfl rfl (take_ofW HT_.out HW_.out (by kernel_rfl)) (fun _ _ _ h => h) (Or.inl ⟨by rfl, ?_⟩) hHeld ?_ ?_
              rotate_left; (rintro w' ⟨s0, s1, s2⟩; go_simp; with_reducible rfl); rotate_left; (simp only [Act.put, zz1, zz2, zz3, i64_w, i32_w]; rfl)
              refine pure_ (i := 16) (N := some 85) (v := ?_) (a' := ?_) #[τ,τ,τ,τ,τ,τ,τ,τ,τ,τ,τ,τ,τ,τ,τ,τ,τ,φ,φ,φ,φ,φ,φ,φ,φ] rfl rfl (any_of HT_.out (by kernel_rfl)) (fun _ _ _ h => h) (Or.inl ⟨by rfl, ?_⟩) ?_ ?_
              rotate_left; (intro w'; go_simp; with_reducible rfl); rotate_left; (simp only [Act.put, zz1, zz2, zz3, i64_w, i32_w]; rfl)
              refine take_ (i := 17) (N := some 86) (v := ?_) (a' := ?_) #[τ,τ,τ,τ,τ,τ,τ,τ,τ,τ,τ,τ,τ,τ,τ,τ,τ,τ,φ,φ,φ,φ,φ,φ,φ] rfl rfl (take_ofW HT_.out HW_.out (by kernel_rfl)) (fun _ _ _ h => h) (Or.inl ⟨by rfl, ?_⟩) hHeld ?_ ?_
              rotate_left; (rintro w' ⟨s0, s1, s2⟩; go_simp; with_reducible rfl); rotate_left; (simp only [Act.put, zz1, zz2, zz3, i64_w, i32_w]; rfl)
              refine pure_ (i := 18) (N := some 87) (v := ?_) (a' := ?_) #[τ,τ,τ,τ,τ,τ,τ,τ,τ,τ,τ,τ,τ,τ,τ,τ,τ,τ,τ,φ,φ,φ,φ,φ,φ] rfl rfl (any_of HT_.out (by kernel_rfl)) (fun _ _ _ h => h) (Or.inl ⟨by rfl, ?_⟩) ?_ ?_
              rotate_left; (intro w'; go_simp; with_reducible rfl); rotate_left; (simp only [Act.put, zz1, zz2, zz3, i64_w, i32_w]; rfl)
              refine pure_ (i := 19) (N := some 88) (v := ?_) (a' := ?_) #[τ,τ,τ,τ,τ,τ,τ,τ,τ,τ,τ,τ,τ,τ,τ,τ,τ,τ,τ,τ,φ,φ,φ,φ,φ] rfl rfl (any_of HT_.out (by kernel_rfl)) (fun _ _ _ h => h) (Or.inl ⟨by rfl, ?_⟩) ?_ ?_
              rotate_left; (intro w'; go_simp; with_reducible rfl); rotate_left; (simp only [Act.put, zz1, zz2, zz3, i64_w, i32_w]; rfl)
              refine pure_ (i := 20) (N := some 89) (v := ?_) (a' := ?_) #[τ,τ,τ,τ,τ,τ,τ,τ,τ,τ,τ,τ,τ,τ,τ,τ,τ,τ,τ,τ,τ,φ,φ,φ,φ] rfl rfl (any_of HT_.out (by kernel_rfl)) (fun _ _ _ h => h) (Or.inl ⟨by rfl, ?_⟩) ?_ ?_
              rotate_left; (intro w'; go_simp; with_reducible rfl); rotate_left; (simp only [Act.put, zz1, zz2, zz3, i64_w, i32_w]; rfl)
              refine one_ (i := 21) (N := some 90) #[τ,τ,τ,τ,τ,τ,τ,τ,τ,τ,τ,τ,τ,τ,τ,τ,τ,τ,τ,τ,τ,τ,φ,φ,φ] rfl rfl (one_of HT_.out (by kernel_rfl)) (by decide) (fun K hK => ?_)
              refine value_ (w1 := ?_) (v := ?_) (by rfl) rfl ?_ ?_
              rotate_left 2
              · go_simp
                constructor
                · rfl
                · rfl
              refine hK.out _ _ ⟨pw_cell_below (below_alloc (Below.refl _ _) _) g3, pw_cell_below (below_alloc (Below.refl _ _) _) z3, pw_cell_below (below_alloc (Below.refl _ _) _) zk⟩ (fun hHeld => ?_)
              clear hK K
              refine norm_ (a' := ?_) ?_ ?_
              rotate_left
              · show Act.put _ (some 90) _ = _
                simp only [Act.put, zz1, zz2, zz3, i64_w, i32_w]
                rfl
              refine last_ (i := 22) (N := some 91) #[τ,τ,τ,τ,τ,τ,τ,τ,τ,τ,τ,τ,τ,τ,τ,τ,τ,τ,τ,τ,τ,τ,τ,φ,φ] rfl rfl (one_of HT_.out (by kernel_rfl)) (by decide) (fun K hK => ?_)
              refine Kd.R_append_step Kd.string (w0 := X1) b0 (by rfl) (.tmp 70) (.tmp 90) 43 9 (.string ⟨#[]⟩) 16 rfl Tryd.underlying43 P.info9 rfl (by decide) (by omega) (.slice A3 n3 c3) ks (ky.extract 0 jk) [.string (ky.extract 0 jk)] (fun _ => True) (fun _ => False) rfl rfl rfl (fun _ hk => hk.elim) (fun _ _ => trivial) HKv.out HBi2.out (Nat.le_trans (Nat.le_of_eq hb0) HBi.out.size) HAL.out ?_
              intro v9 W9 ho hb hg9 hat9
              obtain ⟨B9, d9, e9⟩ := Kd.R_slice ho
              obtain ⟨n9, hn9⟩ : ∃ n9, n9 = (ks ++ [(ky.extract 0 jk)]).length := ⟨_, rfl⟩
              rw [← hn9] at e9
              subst e9
              clear hn9
              have hgw := blk_grown HGw.out hg9 (Kd.R_ne HKv.out HGw.out (by decide))
              have g3c : W9.cell? ⟨gb, 3, none⟩ = some (.slice A3 n3 c3) := (blk_cell hgw 3).trans rfl
              have g3f : W9.frozen? ⟨gb, 3, none⟩ = false := blk_frozen hgw 3
              have HO9 := Aside0.mk ho
              have HB9 := Aside0.mk hb
              have HG9 := Aside0.mk hg9
              have HGx := Aside0.mk hgw
              clear ho hb hg9 hat9 hgw
              refine hK.out _ _ ?_
              clear hK K
              refine norm_ (a' := ?_) ?_ ?_
              rotate_left
              · show Act.put _ (some 91) _ = _
                simp only [Act.put, zz1, zz2, zz3, i64_w, i32_w]
                rfl
              refine pure_ (i := 23) (N := some 92) (v := ?_) (a' := ?_) #[τ,τ,τ,τ,τ,τ,τ,τ,τ,τ,τ,τ,τ,τ,τ,τ,τ,τ,τ,τ,τ,τ,τ,τ,φ] rfl rfl (any_of HT_.out (by kernel_rfl)) (fun _ _ _ h => h) (Or.inl ⟨by rfl, ?_⟩) ?_ ?_
              rotate_left; (intro w'; go_simp; with_reducible rfl); rotate_left; (simp only [Act.put, zz1, zz2, zz3, i64_w, i32_w]; rfl)
              refine last_ (i := 24) (N := none) #[τ,τ,τ,τ,τ,τ,τ,τ,τ,τ,τ,τ,τ,τ,τ,τ,τ,τ,τ,τ,τ,τ,τ,τ,τ] rfl rfl (one_of HT_.out (by kernel_rfl)) (by decide) (fun K hK => ?_)
              refine skip_ (w1 := ?_) (by rfl) rfl ?_ ?_
              rotate_left
              · go_simp
                rfl
              refine hK.out _ _ ?_
              clear hK K
              refine done_ (done_of HT_.out (by kernel_rfl)) ?_
              clear g3 z3 zk g3c g3f hHeld
              have HGz := Aside0.mk (blk_put HGx.out 3 (.slice B9 n9 d9) rfl)
              have HOz := Aside0.mk (Kd.R_set (Kd.R_mono (ok' := fun _ => True) (Kd.R_step (Kd.R_bound (R_apart HOi.out HKv.out (by decide))) (fun k hk hlt => HG9.out.block k hlt hk.1.2)) (fun _ _ => trivial)) HGx.out (by decide) 3 (.slice B9 n9 d9))
              have HKz := Aside0.mk (Kd.R_set HO9.out HGx.out (by decide) 3 (.slice B9 n9 d9))
              have HBz := Aside0.mk (show Below X1.heap.size X1 (W9.setCell ⟨gb, 3, none⟩ (.slice B9 n9 d9)) from below_set (by rw [← hb0]; exact HB9.out) (by rw [← hb0]; exact HGb.out))
              go_wp2_with (fail)
              go_roundw
              case rel => exact ⟨wrap64 (y + 1), .slice B9 n9 d9, _, rfl, ⟨hr9.out.1, hr9.out.2.1⟩, HBz, HGz, HOz, HKz, ⟨by rw [hr9.out.2.2, List.length_append]; have := HKl.out; simp; omega⟩⟩
              case measure => exact hm9.out
            · have p5 := eq_true h3
              have p6 := eq_false h4
              clear h3 h4 hy
              obtain ⟨A3, c3, e3⟩ := Kd.R_slice HKv.out
              subst e3
              have hq := HGw.out
              have g0 := (blk_cell hq 0).trans rfl
              have g1 := (blk_cell hq 1).trans rfl
              have g2 := (blk_cell hq 2).trans rfl
              have g3 := (blk_cell hq 3).trans rfl
              have g4 := (blk_cell hq 4).trans rfl
              have HRi := Aside0.mk (Kd.R_below HR1.out HBi.out)
              have HBw := Aside0.mk (HB1.out.trans (HBi.out.mono HB1.out.size))
              have HLt2 := HLt.out
              clear hq
              go_wp2_with (first | ((with_reducible refine gate_builtin (b := .append) (xs := #[.tmp 93, .tmp 95]) rfl ?_); at_builtin; refine Kd.R_append P.k45 (w0 := w) w.heap.size rfl (.tmp 93) (.tmp 95) 22 45 (.agg #[.int .i64 0, .int .i64 0, .string ⟨#[]⟩, .slice none 0 0, .slice none 0 0]) 80 rfl Tryd.underlying22 infoG rfl (by decide) (by omega) u3 r ⟨o.f0, o.f1, (o.f2.extract 0 j2), ks, us⟩ [.int .i64 o.f0, .int .i64 o.f1, .string (o.f2.extract 0 j2), .slice A3 ks.length c3, .slice A7 us.length c7] (fun _ => True) (fun k => b0 ≤ k) rfl rfl (P.k45_mkM _ _ _ _ (R_fresh HKv.out HBb.out) (R_fresh HOi.out HBb.out)) (fun k hk => ⟨trivial, fun e => by have := HLt2 k e.symm; omega⟩) (fun _ _ => trivial) HRi.out HBw.out HBw.out.size HALr.out ?_; intro v9 W9 ho hb hg9 hat9; have HO9 := Aside0.mk ho; have HB9 := Aside0.mk hb; clear ho hb hg9 hat9))
              go_roundw
              case rel => exact ⟨wrap64 (x + 1), _, rfl, ⟨hr.out.1, hr.out.2.1⟩, HO9, HB9, ⟨by rw [hr.out.2.2, List.length_append]; have := HL.out; simp; omega⟩⟩
              case measure => exact hm.out
          · have p5 := eq_false h3
            clear h3 hy
            obtain ⟨A3, c3, e3⟩ := Kd.R_slice HKv.out
            subst e3
            have hq := HGw.out
            have g0 := (blk_cell hq 0).trans rfl
            have g1 := (blk_cell hq 1).trans rfl
            have g2 := (blk_cell hq 2).trans rfl
            have g3 := (blk_cell hq 3).trans rfl
            have g4 := (blk_cell hq 4).trans rfl
            have HRi := Aside0.mk (Kd.R_below HR1.out HBi.out)
            have HBw := Aside0.mk (HB1.out.trans (HBi.out.mono HB1.out.size))
            have HLt2 := HLt.out
            clear hq
            go_wp2_with (first | ((with_reducible refine gate_builtin (b := .append) (xs := #[.tmp 93, .tmp 95]) rfl ?_); at_builtin; refine Kd.R_append P.k45 (w0 := w) w.heap.size rfl (.tmp 93) (.tmp 95) 22 45 (.agg #[.int .i64 0, .int .i64 0, .string ⟨#[]⟩, .slice none 0 0, .slice none 0 0]) 80 rfl Tryd.underlying22 infoG rfl (by decide) (by omega) u3 r ⟨o.f0, o.f1, (o.f2.extract 0 j2), ks, us⟩ [.int .i64 o.f0, .int .i64 o.f1, .string (o.f2.extract 0 j2), .slice A3 ks.length c3, .slice A7 us.length c7] (fun _ => True) (fun k => b0 ≤ k) rfl rfl (P.k45_mkM _ _ _ _ (R_fresh HKv.out HBb.out) (R_fresh HOi.out HBb.out)) (fun k hk => ⟨trivial, fun e => by have := HLt2 k e.symm; omega⟩) (fun _ _ => trivial) HRi.out HBw.out HBw.out.size HALr.out ?_; intro v9 W9 ho hb hg9 hat9; have HO9 := Aside0.mk ho; have HB9 := Aside0.mk hb; clear ho hb hg9 hat9))
            go_roundw
            case rel => exact ⟨wrap64 (x + 1), _, rfl, ⟨hr.out.1, hr.out.2.1⟩, HO9, HB9, ⟨by rw [hr.out.2.2, List.length_append]; have := HL.out; simp; omega⟩⟩
            case measure => exact hm.out
      · have p1 := eq_true h1
        have p2 := eq_false h2
        obtain ⟨B, d, rfl, hd, hC⟩ := Kd.R_reads HR.out
        have HQ := Aside0.mk (And.intro hd hC)
        clear h1 h2 hd hC
        go_wp2_with (fail)
        go_ret
        exact ⟨⟨B, d, r, rfl, HQ.out.2, HQ.out.1, by have := HL.out; omega⟩, HB.out⟩
    · have p1 := eq_false h1
      obtain ⟨B, d, rfl, hd, hC⟩ := Kd.R_reads HR.out
      have HQ := Aside0.mk (And.intro hd hC)
      clear h1 hd hC
      go_wp2_with (fail)
      go_ret
      exact ⟨⟨B, d, r, rfl, HQ.out.2, HQ.out.1, by have := HL.out; omega⟩, HB.out⟩
end Go.Proofs.YthkoockcfnbpiaaDoor.W20
