/- Facts: loose, plain. -/
import Derived.Test.YthkoockcfnbpiaaDoorProg
import Derived.Test.YthkoockcfnbpiaaDoorWWords
import Derived.Test.YthkoockcfnbpiaaDoorWLast
import Derived.Test.YthkoockcfnbpiaaDoorW3
import Derived.Test.YthkoockcfnbpiaaDoorF3
namespace Go.Proofs.YthkoockcfnbpiaaDoor.W4
open Go.RowKit Go.Proofs.YthkoockcfnbpiaaDoorW.PrintWords Go.Proofs.YthkoockcfnbpiaaDoorW.PrintLast Go.Proofs.YthkoockcfnbpiaaDoorW.PrintMore Go.Proofs.YthkoockcfnbpiaaDoor L1 L4 G1 G2 S0 S1 S2 S3 S4 S5 S8 F1 W1 W2 W3 F2
set_option linter.unusedVariables false
set_option linter.unusedSimpArgs false
def lo1.T1 : Bool × List (List Nat × List Nat) := (true, [([], []), ([0], [0]), ([1], [1]), ([2], [2]), ([], []), ([4], [4]), ([3, 5], [3, 5]), ([6], [6]), ([7], [7]), ([8], [8]), ([9], [9]), ([10], [10]), ([10], [10]), ([11, 12, 10, 10], [10, 11, 12]), ([13, 10], [10, 13]), ([14, 10], [10, 14]), ([10, 15], [10, 15]), ([16, 13, 0, 1, 2, 3, 4, 5, 6, 7, 8, 9, 10, 11, 12, 13, 14, 15, 16], [16])])
def lo1.B1 : List Nat := [0, 1, 3, 7, 0, 16, 63, 127, 255, 511, 1023, 2047, 2047, 8191, 16383, 32767, 65535, 131071]
theorem lo1.tab1 : rtab .any (opsOf Tryd.f74 1) = lo1.T1 := by kernel_rfl
theorem lo1.bits1 : waitsOk lo1.T1.2 lo1.B1 = true := by kernel_rfl
set_option maxHeartbeats 4000000 in
set_option maxRecDepth 100000 in
theorem loose_dyn (xb : Nat) (A0 : Option Addr) (c0 : Nat) (g : List GN) (a : Nat) (b : Int) (ws : List Int) (Aw : Option Addr) (cw : Nat) (w : World) (hz : w.cell? ⟨xb, 0, none⟩ = some (.slice A0 g.length c0)) (hg : Kd.C P.k45 w A0 g.length g) (hgc : g.length ≤ c0) (hw : Kd.C (Kd.int .i64) w Aw ws.length ws) (hwc : ws.length ≤ cw) (ha : a < g.length) (h1 : (nd g a).f0 = 1) :
    Calls Tryd.prog 74 #[.pointer (some ⟨xb, 0, none⟩), .agg #[.int .i64 a, .int .i64 b, .slice Aw ws.length cw]] w (RuleP true [] true w) := by
  obtain ⟨ad, Ak, ck, Al, cl, eA, hN⟩ := node_at hg ha
  subst eA
  have HG0 := Aside0.mk hg
  have HGc0 := Aside0.mk hgc
  obtain ⟨x, hx⟩ : ∃ x, x = nd g a := ⟨_, rfl⟩
  rw [← hx] at hN
  have HX := Aside0.mk hx
  have e1 : ((a : Int) < (g.length : Int)) = True := eq_true (by omega)
  have HA := Aside0.mk ha
  clear hx ha hg hgc
  have hbk := heap_alloc_new w (.cells #[.int .i64 a, .int .i64 b, .slice Aw ws.length cw] 37)
  have y0 : (w.alloc (.cells #[.int .i64 a, .int .i64 b, .slice Aw ws.length cw] 37)).cell? ⟨w.heap.size, 0, none⟩ = some (.int .i64 a) := (blk_cell hbk 0).trans rfl
  have y1 : (w.alloc (.cells #[.int .i64 a, .int .i64 b, .slice Aw ws.length cw] 37)).cell? ⟨w.heap.size, 1, none⟩ = some (.int .i64 b) := (blk_cell hbk 1).trans rfl
  have y2 : (w.alloc (.cells #[.int .i64 a, .int .i64 b, .slice Aw ws.length cw] 37)).cell? ⟨w.heap.size, 2, none⟩ = some (.slice Aw ws.length cw) := (blk_cell hbk 2).trans rfl
  have HB1 := Aside0.mk (below_alloc (Below.refl w.heap.size w) (.cells #[.int .i64 a, .int .i64 b, .slice Aw ws.length cw] 37))
  clear hbk
  have HN := Aside0.mk (hN.below HB1.out)
  have z0 := pw_cell_below HB1.out hz
  have k0 := HN.out.c0
  have k4 := HN.out.c4
  have HW := Aside0.mk (Kd.C_below hw HB1.out)
  clear hN hw hz
  have e4 : (x.f0 == 1) = true := by rw [HX.out]; simpa using h1
  clear h1
  go_enter Tryd.func74, Tryd.ntmps74
  go_wp2_with (fail)
  generalize w.alloc (.cells #[.int .i64 a, .int .i64 b, .slice Aw ws.length cw] 37) = W1 at y0 y1 y2 HB1 z0 k0 k4 HN HW ⊢
  refine start_ (n := 18) (S := fun w' => w'.cell? ⟨xb, 0, none⟩ = some (.slice (some ad) g.length c0) ∧ w'.cell? ⟨w.heap.size, 0, none⟩ = some (.int .i64 a) ∧ w'.cell? (ad.add (a * 5)) = some (.int .i64 x.f0)) (ds := []) #[φ,φ,φ,φ,φ,φ,φ,φ,φ,φ,φ,φ,φ,φ,φ,φ,φ,φ] (by kernel_rfl) rfl rfl ⟨z0, y0, k0⟩ (fun hHeld => ?_)
  refine with_tabW lo1.tab1 lo1.bits1 (fun HT_ HW_ => ?_)
  refine pure_ (i := 0) (N := some 8) (v := ?_) (a' := ?_) #[τ,φ,φ,φ,φ,φ,φ,φ,φ,φ,φ,φ,φ,φ,φ,φ,φ,φ] rfl rfl (any_of HT_.out (by kernel_rfl)) (fun _ _ _ h => h) (Or.inl ⟨by rfl, ?_⟩) ?_ ?_
  rotate_left; (intro w'; go_simp; with_reducible rfl); rotate_left; (simp only [Act.put, zz1, zz2, zz3, i64_w, i32_w]; rfl)
  refine pure_ (i := 1) (N := some 9) (v := ?_) (a' := ?_) #[τ,τ,φ,φ,φ,φ,φ,φ,φ,φ,φ,φ,φ,φ,φ,φ,φ,φ] rfl rfl (any_of HT_.out (by kernel_rfl)) (fun _ _ _ h => h) (Or.inl ⟨by rfl, ?_⟩) ?_ ?_
  rotate_left; (intro w'; go_simp; with_reducible rfl); rotate_left; (simp only [Act.put, zz1, zz2, zz3, i64_w, i32_w]; rfl)
  refine pure_ (i := 2) (N := some 10) (v := ?_) (a' := ?_) #[τ,τ,τ,φ,φ,φ,φ,φ,φ,φ,φ,φ,φ,φ,φ,φ,φ,φ] rfl rfl (any_of HT_.out (by kernel_rfl)) (fun _ _ _ h => h) (Or.inl ⟨by rfl, ?_⟩) ?_ ?_
  rotate_left; (intro w'; go_simp; with_reducible rfl); rotate_left; (simp only [Act.put, zz1, zz2, zz3, i64_w, i32_w]; rfl)
  refine pure_ (i := 4) (N := some 12) (v := ?_) (a' := ?_) #[τ,τ,τ,φ,τ,φ,φ,φ,φ,φ,φ,φ,φ,φ,φ,φ,φ,φ] rfl rfl (any_of HT_.out (by kernel_rfl)) (fun _ _ _ h => h) (Or.inl ⟨by rfl, ?_⟩) ?_ ?_
  rotate_left; (intro w'; go_simp; with_reducible rfl); rotate_left; (simp only [Act.put, zz1, zz2, zz3, i64_w, i32_w]; rfl)
  refine take_ (i := 3) (N := some 11) (v := ?_) (a' := ?_) #[τ,τ,τ,τ,τ,φ,φ,φ,φ,φ,φ,φ,φ,φ,φ,φ,φ,φ] rfl rfl (take_ofW HT_.out HW_.out (by kernel_rfl)) (fun _ _ _ h => h) (Or.inl ⟨by rfl, ?_⟩) hHeld ?_ ?_
  rotate_left; (rintro w' ⟨s0, s1, s2⟩; go_simp; with_reducible rfl); rotate_left; (simp only [Act.put, zz1, zz2, zz3, i64_w, i32_w]; rfl)
  refine take_ (i := 5) (N := some 13) (v := ?_) (a' := ?_) #[τ,τ,τ,τ,τ,τ,φ,φ,φ,φ,φ,φ,φ,φ,φ,φ,φ,φ] rfl rfl (take_ofW HT_.out HW_.out (by kernel_rfl)) (fun _ _ _ h => h) (Or.inl ⟨by rfl, ?_⟩) hHeld ?_ ?_
  rotate_left; (rintro w' ⟨s0, s1, s2⟩; go_simp; with_reducible rfl); rotate_left; (simp only [Act.put, zz1, zz2, zz3, i64_w, i32_w]; rfl)
  refine pure_ (i := 6) (N := some 14) (v := ?_) (a' := ?_) #[τ,τ,τ,τ,τ,τ,τ,φ,φ,φ,φ,φ,φ,φ,φ,φ,φ,φ] rfl rfl (any_of HT_.out (by kernel_rfl)) (fun _ _ _ h => h) (Or.inl ⟨by rfl, ?_⟩) ?_ ?_
  rotate_left; (intro w'; go_simp; with_reducible rfl); rotate_left; (simp only [Act.put, zz1, zz2, zz3, i64_w, i32_w]; rfl)
  refine pure_ (i := 7) (N := some 15) (v := ?_) (a' := ?_) #[τ,τ,τ,τ,τ,τ,τ,τ,φ,φ,φ,φ,φ,φ,φ,φ,φ,φ] rfl rfl (any_of HT_.out (by kernel_rfl)) (fun _ _ _ h => h) (Or.inl ⟨by rfl, ?_⟩) ?_ ?_
  rotate_left; (intro w'; go_simp; with_reducible rfl); rotate_left; (simp only [Act.put, zz1, zz2, zz3, i64_w, i32_w]; rfl)
  refine take_ (i := 8) (N := some 16) (v := ?_) (a' := ?_) #[τ,τ,τ,τ,τ,τ,τ,τ,τ,φ,φ,φ,φ,φ,φ,φ,φ,φ] rfl rfl (take_ofW HT_.out HW_.out (by kernel_rfl)) (fun _ _ _ h => h) (Or.inl ⟨by rfl, ?_⟩) hHeld ?_ ?_
  rotate_left; (rintro w' ⟨s0, s1, s2⟩; go_simp; with_reducible rfl); rotate_left; (simp only [Act.put, zz1, zz2, zz3, i64_w, i32_w]; rfl)
  refine pure_ (i := 9) (N := some 17) (v := ?_) (a' := ?_) #[τ,τ,τ,τ,τ,τ,τ,τ,τ,τ,φ,φ,φ,φ,φ,φ,φ,φ] rfl rfl (any_of HT_.out (by kernel_rfl)) (fun _ _ _ h => h) (Or.inl ⟨by rfl, ?_⟩) ?_ ?_
  rotate_left; (intro w'; go_simp; with_reducible rfl); rotate_left; (simp only [Act.put, zz1, zz2, zz3, i64_w, i32_w]; rfl)
  refine pure_ (i := 10) (N := some 18) (v := ?_) (a' := ?_) #[τ,τ,τ,τ,τ,τ,τ,τ,τ,τ,τ,φ,φ,φ,φ,φ,φ,φ] rfl rfl (any_of HT_.out (by kernel_rfl)) (fun _ _ _ h => h) (Or.inl ⟨by rfl, ?_⟩) ?_ ?_
  rotate_left; (intro w'; go_simp; with_reducible rfl); rotate_left; (simp only [Act.put, zz1, zz2, zz3, i64_w, i32_w]; rfl)
  refine pure_ (i := 11) (N := some 19) (v := undef) (a' := ?_) #[τ,τ,τ,τ,τ,τ,τ,τ,τ,τ,τ,τ,φ,φ,φ,φ,φ,φ] rfl rfl (any_of HT_.out (by kernel_rfl)) (fun _ _ _ h => h) (Or.inr ⟨by rfl, rfl⟩) ?_ ?_
  rotate_left; (simp only [Act.put, zz1, zz2, zz3, i64_w, i32_w]; rfl)
  refine pure_ (i := 12) (N := some 20) (v := undef) (a' := ?_) #[τ,τ,τ,τ,τ,τ,τ,τ,τ,τ,τ,τ,τ,φ,φ,φ,φ,φ] rfl rfl (any_of HT_.out (by kernel_rfl)) (fun _ _ _ h => h) (Or.inr ⟨by rfl, rfl⟩) ?_ ?_
  rotate_left; (simp only [Act.put, zz1, zz2, zz3, i64_w, i32_w]; rfl)
  refine pure_ (i := 13) (N := some 21) (v := undef) (a' := ?_) #[τ,τ,τ,τ,τ,τ,τ,τ,τ,τ,τ,τ,τ,τ,φ,φ,φ,φ] rfl rfl (any_of HT_.out (by kernel_rfl)) (fun _ _ _ h => h) (Or.inr ⟨by rfl, rfl⟩) ?_ ?_
  rotate_left; (simp only [Act.put, zz1, zz2, zz3, i64_w, i32_w]; rfl)
  refine pure_ (i := 14) (N := some 22) (v := undef) (a' := ?_) #[τ,τ,τ,τ,τ,τ,τ,τ,τ,τ,τ,τ,τ,τ,τ,φ,φ,φ] rfl rfl (any_of HT_.out (by kernel_rfl)) (fun _ _ _ h => h) (Or.inr ⟨by rfl, rfl⟩) ?_ ?_
  rotate_left; (simp only [Act.put, zz1, zz2, zz3, i64_w, i32_w]; rfl)
  refine pure_ (i := 15) (N := some 23) (v := undef) (a' := ?_) #[τ,τ,τ,τ,τ,τ,τ,τ,τ,τ,τ,τ,τ,τ,τ,τ,φ,φ] rfl rfl (any_of HT_.out (by kernel_rfl)) (fun _ _ _ h => h) (Or.inr ⟨by rfl, rfl⟩) ?_ ?_
  rotate_left; (simp only [Act.put, zz1, zz2, zz3, i64_w, i32_w]; rfl)
  refine pure_ (i := 16) (N := some 24) (v := ?_) (a' := ?_) #[τ,τ,τ,τ,τ,τ,τ,τ,τ,τ,τ,τ,τ,τ,τ,τ,τ,φ] rfl rfl (any_of HT_.out (by kernel_rfl)) (fun _ _ _ h => h) (Or.inl ⟨by rfl, ?_⟩) ?_ ?_
  rotate_left; (intro w'; go_simp; with_reducible rfl); rotate_left; (simp only [Act.put, zz1, zz2, zz3, i64_w, i32_w]; rfl)
  refine pure_ (i := 17) (N := some 7) (v := ?_) (a' := ?_) #[τ,τ,τ,τ,τ,τ,τ,τ,τ,τ,τ,τ,τ,τ,τ,τ,τ,τ] rfl rfl (any_of HT_.out (by kernel_rfl)) (fun _ _ _ h => h) (Or.inl ⟨by rfl, ?_⟩) ?_ ?_
  rotate_left; (intro w'; go_simp; with_reducible rfl); rotate_left; (simp only [Act.put, zz1, zz2, zz3, i64_w, i32_w]; rfl)
  refine done_ (done_of HT_.out (by kernel_rfl)) ?_
  go_wp2_with (fail)
  go_ret3
  exact ⟨_, rfl, Kd.R_nil _ _ _ _ _, below_drew HB1.out⟩
set_option maxHeartbeats 4000000 in
set_option maxRecDepth 100000 in
theorem loose_other (xb : Nat) (A0 : Option Addr) (c0 : Nat) (g : List GN) (a : Nat) (b : Int) (ws : List Int) (Aw : Option Addr) (cw : Nat) (w : World) (hz : w.cell? ⟨xb, 0, none⟩ = some (.slice A0 g.length c0)) (hg : Kd.C P.k45 w A0 g.length g) (hgc : g.length ≤ c0) (hw : Kd.C (Kd.int .i64) w Aw ws.length ws) (hwc : ws.length ≤ cw) (ha : a < g.length) (h1 : (nd g a).f0 ≠ 1) (hc : checkP g = 0) (k m : Nat) (hw1 : 0 < ws.length) (hk : ws.getD 0 0 = (k : Int)) (hkm : k < (membersP g b).length) (hmv : (membersP g b).getD k 0 = (m : Int)) (hm : m < g.length) :
    Calls Tryd.prog 74 #[.pointer (some ⟨xb, 0, none⟩), .agg #[.int .i64 a, .int .i64 b, .slice Aw ws.length cw]] w (RuleP (decide ((nd g m).f0 = 1)) [] (decide ((nd g m).f0 = 1)) w) := by
  obtain ⟨ad, Bk, dk, Bl, dl, eA, hT⟩ := node_at hg hm
  have HCH := Aside0.mk (show ∀ (W : World), Below w.heap.size w W → Calls Tryd.prog 65 #[.pointer (some ⟨xb, 0, none⟩), .agg #[.int .i64 a, .int .i64 b, .slice Aw ws.length cw]] W fun e w' => e = .returned (.agg #[.int .i64 (nd g m).f0, .int .i64 (nd g m).f1, .string (nd g m).f2, .slice Bk (nd g m).f3.length dk, .slice Bl (nd g m).f4.length dl]) ∧ Below W.heap.size W w' from fun W hW => by
    subst eA
    exact chosen_yes xb ad c0 g a b ws Aw cw W (pw_cell_below hW hz) (Kd.C_below hg hW) hgc (Kd.C_below hw hW) hc k m hw1 hk hkm hmv hm Bk dk Bl dl (hT.below hW))
  have HT := Aside0.mk (show NdV w (nd g m) Bk dk Bl dl from ⟨hT.kc, hT.ks, hT.lc, hT.ls⟩)
  clear hc hw1 hk hkm hmv eA hT ad
  obtain ⟨ad, Ak, ck, Al, cl, eA, hN⟩ := node_at hg ha
  subst eA
  have HG0 := Aside0.mk hg
  have HGc0 := Aside0.mk hgc
  obtain ⟨x, hx⟩ : ∃ x, x = nd g a := ⟨_, rfl⟩
  rw [← hx] at hN
  have HX := Aside0.mk hx
  have e1 : ((a : Int) < (g.length : Int)) = True := eq_true (by omega)
  have HA := Aside0.mk ha
  clear hx ha hg hgc
  have hbk := heap_alloc_new w (.cells #[.int .i64 a, .int .i64 b, .slice Aw ws.length cw] 37)
  have y0 : (w.alloc (.cells #[.int .i64 a, .int .i64 b, .slice Aw ws.length cw] 37)).cell? ⟨w.heap.size, 0, none⟩ = some (.int .i64 a) := (blk_cell hbk 0).trans rfl
  have y1 : (w.alloc (.cells #[.int .i64 a, .int .i64 b, .slice Aw ws.length cw] 37)).cell? ⟨w.heap.size, 1, none⟩ = some (.int .i64 b) := (blk_cell hbk 1).trans rfl
  have y2 : (w.alloc (.cells #[.int .i64 a, .int .i64 b, .slice Aw ws.length cw] 37)).cell? ⟨w.heap.size, 2, none⟩ = some (.slice Aw ws.length cw) := (blk_cell hbk 2).trans rfl
  have HB1 := Aside0.mk (below_alloc (Below.refl w.heap.size w) (.cells #[.int .i64 a, .int .i64 b, .slice Aw ws.length cw] 37))
  clear hbk
  have HN := Aside0.mk (hN.below HB1.out)
  have z0 := pw_cell_below HB1.out hz
  have k0 := HN.out.c0
  have k4 := HN.out.c4
  have HW := Aside0.mk (Kd.C_below hw HB1.out)
  clear hN hw hz
  have e4 : (x.f0 == 1) = false := by rw [HX.out]; simpa using h1
  obtain ⟨t, ht⟩ : ∃ t, t = nd g m := ⟨_, rfl⟩
  rw [← ht] at HCH HT ⊢
  clear h1 ht hm
  obtain ⟨dt, hdt⟩ : ∃ dt, dt = decide (t.f0 = 1) := ⟨_, rfl⟩
  have e5 : (t.f0 == 1) = dt := by rw [hdt]; rfl
  rw [← hdt]
  clear hdt
  have hfd : ∀ (Bk : Option Addr) (dk : Nat) (Bl : Option Addr) (dl : Nat) (W : World), (Instr.field 45 (.agg #[.int .i64 t.f0, .int .i64 t.f1, .string t.f2, .slice Bk t.f3.length dk, .slice Bl t.f4.length dl]) 0).run Tryd.prog W = .ok (.int .i64 t.f0) W := fun _ _ _ _ _ => by kernel_rfl
  go_enter Tryd.func74, Tryd.ntmps74
  go_wp2_with (fail)
  generalize w.alloc (.cells #[.int .i64 a, .int .i64 b, .slice Aw ws.length cw] 37) = W1 at y0 y1 y2 HB1 z0 k0 k4 HN HW ⊢
  refine start_ (n := 18) (S := fun w' => w'.cell? ⟨xb, 0, none⟩ = some (.slice (some ad) g.length c0) ∧ w'.cell? ⟨w.heap.size, 0, none⟩ = some (.int .i64 a) ∧ w'.cell? ⟨w.heap.size, 1, none⟩ = some (.int .i64 b) ∧ w'.cell? ⟨w.heap.size, 2, none⟩ = some (.slice Aw ws.length cw) ∧ w'.cell? (ad.add (a * 5)) = some (.int .i64 x.f0)) (ds := []) #[φ,φ,φ,φ,φ,φ,φ,φ,φ,φ,φ,φ,φ,φ,φ,φ,φ,φ] (by kernel_rfl) rfl rfl ⟨z0, y0, y1, y2, k0⟩ (fun hHeld => ?_)
  refine with_tabW lo1.tab1 lo1.bits1 (fun HT_ HW_ => ?_)
  refine pure_ (i := 0) (N := some 8) (v := ?_) (a' := ?_) #[τ,φ,φ,φ,φ,φ,φ,φ,φ,φ,φ,φ,φ,φ,φ,φ,φ,φ] rfl rfl (any_of HT_.out (by kernel_rfl)) (fun _ _ _ h => h) (Or.inl ⟨by rfl, ?_⟩) ?_ ?_
  rotate_left; (intro w'; go_simp; with_reducible rfl); rotate_left; (simp only [Act.put, zz1, zz2, zz3, i64_w, i32_w]; rfl)
  refine pure_ (i := 1) (N := some 9) (v := ?_) (a' := ?_) #[τ,τ,φ,φ,φ,φ,φ,φ,φ,φ,φ,φ,φ,φ,φ,φ,φ,φ] rfl rfl (any_of HT_.out (by kernel_rfl)) (fun _ _ _ h => h) (Or.inl ⟨by rfl, ?_⟩) ?_ ?_
  rotate_left; (intro w'; go_simp; with_reducible rfl); rotate_left; (simp only [Act.put, zz1, zz2, zz3, i64_w, i32_w]; rfl)
  refine pure_ (i := 2) (N := some 10) (v := ?_) (a' := ?_) #[τ,τ,τ,φ,φ,φ,φ,φ,φ,φ,φ,φ,φ,φ,φ,φ,φ,φ] rfl rfl (any_of HT_.out (by kernel_rfl)) (fun _ _ _ h => h) (Or.inl ⟨by rfl, ?_⟩) ?_ ?_
  rotate_left; (intro w'; go_simp; with_reducible rfl); rotate_left; (simp only [Act.put, zz1, zz2, zz3, i64_w, i32_w]; rfl)
  refine pure_ (i := 4) (N := some 12) (v := ?_) (a' := ?_) #[τ,τ,τ,φ,τ,φ,φ,φ,φ,φ,φ,φ,φ,φ,φ,φ,φ,φ] rfl rfl (any_of HT_.out (by kernel_rfl)) (fun _ _ _ h => h) (Or.inl ⟨by rfl, ?_⟩) ?_ ?_
  rotate_left; (intro w'; go_simp; with_reducible rfl); rotate_left; (simp only [Act.put, zz1, zz2, zz3, i64_w, i32_w]; rfl)
  refine take_ (i := 3) (N := some 11) (v := ?_) (a' := ?_) #[τ,τ,τ,τ,τ,φ,φ,φ,φ,φ,φ,φ,φ,φ,φ,φ,φ,φ] rfl rfl (take_ofW HT_.out HW_.out (by kernel_rfl)) (fun _ _ _ h => h) (Or.inl ⟨by rfl, ?_⟩) hHeld ?_ ?_
  rotate_left; (rintro w' ⟨s0, s1, s2, s3, s4⟩; go_simp; with_reducible rfl); rotate_left; (simp only [Act.put, zz1, zz2, zz3, i64_w, i32_w]; rfl)
  refine take_ (i := 5) (N := some 13) (v := ?_) (a' := ?_) #[τ,τ,τ,τ,τ,τ,φ,φ,φ,φ,φ,φ,φ,φ,φ,φ,φ,φ] rfl rfl (take_ofW HT_.out HW_.out (by kernel_rfl)) (fun _ _ _ h => h) (Or.inl ⟨by rfl, ?_⟩) hHeld ?_ ?_
  rotate_left; (rintro w' ⟨s0, s1, s2, s3, s4⟩; go_simp; with_reducible rfl); rotate_left; (simp only [Act.put, zz1, zz2, zz3, i64_w, i32_w]; rfl)
  refine pure_ (i := 6) (N := some 14) (v := ?_) (a' := ?_) #[τ,τ,τ,τ,τ,τ,τ,φ,φ,φ,φ,φ,φ,φ,φ,φ,φ,φ] rfl rfl (any_of HT_.out (by kernel_rfl)) (fun _ _ _ h => h) (Or.inl ⟨by rfl, ?_⟩) ?_ ?_
  rotate_left; (intro w'; go_simp; with_reducible rfl); rotate_left; (simp only [Act.put, zz1, zz2, zz3, i64_w, i32_w]; rfl)
  refine pure_ (i := 7) (N := some 15) (v := ?_) (a' := ?_) #[τ,τ,τ,τ,τ,τ,τ,τ,φ,φ,φ,φ,φ,φ,φ,φ,φ,φ] rfl rfl (any_of HT_.out (by kernel_rfl)) (fun _ _ _ h => h) (Or.inl ⟨by rfl, ?_⟩) ?_ ?_
  rotate_left; (intro w'; go_simp; with_reducible rfl); rotate_left; (simp only [Act.put, zz1, zz2, zz3, i64_w, i32_w]; rfl)
  refine take_ (i := 8) (N := some 16) (v := ?_) (a' := ?_) #[τ,τ,τ,τ,τ,τ,τ,τ,τ,φ,φ,φ,φ,φ,φ,φ,φ,φ] rfl rfl (take_ofW HT_.out HW_.out (by kernel_rfl)) (fun _ _ _ h => h) (Or.inl ⟨by rfl, ?_⟩) hHeld ?_ ?_
  rotate_left; (rintro w' ⟨s0, s1, s2, s3, s4⟩; go_simp; with_reducible rfl); rotate_left; (simp only [Act.put, zz1, zz2, zz3, i64_w, i32_w]; rfl)
  refine pure_ (i := 9) (N := some 17) (v := ?_) (a' := ?_) #[τ,τ,τ,τ,τ,τ,τ,τ,τ,τ,φ,φ,φ,φ,φ,φ,φ,φ] rfl rfl (any_of HT_.out (by kernel_rfl)) (fun _ _ _ h => h) (Or.inl ⟨by rfl, ?_⟩) ?_ ?_
  rotate_left; (intro w'; go_simp; with_reducible rfl); rotate_left; (simp only [Act.put, zz1, zz2, zz3, i64_w, i32_w]; rfl)
  refine pure_ (i := 10) (N := some 18) (v := ?_) (a' := ?_) #[τ,τ,τ,τ,τ,τ,τ,τ,τ,τ,τ,φ,φ,φ,φ,φ,φ,φ] rfl rfl (any_of HT_.out (by kernel_rfl)) (fun _ _ _ h => h) (Or.inl ⟨by rfl, ?_⟩) ?_ ?_
  rotate_left; (intro w'; go_simp; with_reducible rfl); rotate_left; (simp only [Act.put, zz1, zz2, zz3, i64_w, i32_w]; rfl)
  refine pure_ (i := 11) (N := some 19) (v := ?_) (a' := ?_) #[τ,τ,τ,τ,τ,τ,τ,τ,τ,τ,τ,τ,φ,φ,φ,φ,φ,φ] rfl rfl (any_of HT_.out (by kernel_rfl)) (fun _ _ _ h => h) (Or.inl ⟨by rfl, ?_⟩) ?_ ?_
  rotate_left; (intro w'; go_simp; with_reducible rfl); rotate_left; (simp only [Act.put, zz1, zz2, zz3, i64_w, i32_w]; rfl)
  refine take_ (i := 12) (N := some 20) (v := ?_) (a' := ?_) #[τ,τ,τ,τ,τ,τ,τ,τ,τ,τ,τ,τ,τ,φ,φ,φ,φ,φ] rfl rfl (take_ofW HT_.out HW_.out (by kernel_rfl)) (fun _ _ _ h => h) (Or.inl ⟨by rfl, ?_⟩) hHeld ?_ ?_
  rotate_left; (rintro w' ⟨s0, s1, s2, s3, s4⟩; go_simp; with_reducible rfl); rotate_left; (simp only [Act.put, zz1, zz2, zz3, i64_w, i32_w]; rfl)
  refine one_ (i := 13) (N := some 21) #[τ,τ,τ,τ,τ,τ,τ,τ,τ,τ,τ,τ,τ,τ,φ,φ,φ,φ] rfl rfl (one_of HT_.out (by kernel_rfl)) (by decide) (fun K hK => ?_)
  refine goes_ Tryd.func65 (by kernel_rfl) rfl #[.pointer (some ⟨xb, 0, none⟩), .agg #[.int .i64 a, .int .i64 b, .slice Aw ws.length cw]] (by rfl) rfl rfl (by simp only [List.map_toArray, List.map_cons, List.map_nil]; rfl) ?_
  with_reducible refine (HCH.out W1.drew (below_drew HB1.out)).mono ?_
  rintro e W3 ⟨rfl, hb3⟩
  refine ⟨_, rfl, ?_⟩
  have HBr := Aside0.mk (below_then (below_drew HB1.out) HB1.out.size hb3)
  have r0 := pw_cell_below hb3 (drew_cell z0)
  have r1 := pw_cell_below hb3 (drew_cell y0)
  have r2 := pw_cell_below hb3 (drew_cell y1)
  have r3 := pw_cell_below hb3 (drew_cell y2)
  have r4 := pw_cell_below hb3 (drew_cell k0)
  clear hb3
  refine hK.out _ _ ⟨r0, r1, r2, r3, r4⟩ (fun hHeld => ?_)
  clear hK K
  refine norm_ (a' := ?_) ?_ ?_
  rotate_left
  · show Act.put _ (some 21) _ = _
    simp only [Act.put, zz1, zz2, zz3, i64_w, i32_w]
    rfl
  refine pure_ (i := 14) (N := some 22) (v := ?_) (a' := ?_) #[τ,τ,τ,τ,τ,τ,τ,τ,τ,τ,τ,τ,τ,τ,τ,φ,φ,φ] rfl rfl (any_of HT_.out (by kernel_rfl)) (fun _ _ _ h => h) (Or.inl ⟨by rfl, ?_⟩) ?_ ?_
  rotate_left; (intro w'; go_simp; with_reducible rfl); rotate_left; (simp only [Act.put, zz1, zz2, zz3, i64_w, i32_w]; rfl)
  refine pure_ (i := 15) (N := some 23) (v := ?_) (a' := ?_) #[τ,τ,τ,τ,τ,τ,τ,τ,τ,τ,τ,τ,τ,τ,τ,τ,φ,φ] rfl rfl (any_of HT_.out (by kernel_rfl)) (fun _ _ _ h => h) (Or.inl ⟨by rfl, ?_⟩) ?_ ?_
  rotate_left; (intro w'; go_simp; with_reducible rfl); rotate_left; (simp only [Act.put, zz1, zz2, zz3, i64_w, i32_w]; rfl)
  refine pure_ (i := 16) (N := some 24) (v := ?_) (a' := ?_) #[τ,τ,τ,τ,τ,τ,τ,τ,τ,τ,τ,τ,τ,τ,τ,τ,τ,φ] rfl rfl (any_of HT_.out (by kernel_rfl)) (fun _ _ _ h => h) (Or.inl ⟨by rfl, ?_⟩) ?_ ?_
  rotate_left; (intro w'; go_simp; with_reducible rfl); rotate_left; (simp only [Act.put, zz1, zz2, zz3, i64_w, i32_w]; rfl)
  refine pure_ (i := 17) (N := some 7) (v := ?_) (a' := ?_) #[τ,τ,τ,τ,τ,τ,τ,τ,τ,τ,τ,τ,τ,τ,τ,τ,τ,τ] rfl rfl (any_of HT_.out (by kernel_rfl)) (fun _ _ _ h => h) (Or.inl ⟨by rfl, ?_⟩) ?_ ?_
  rotate_left; (intro w'; go_simp; with_reducible rfl); rotate_left; (simp only [Act.put, zz1, zz2, zz3, i64_w, i32_w]; rfl)
  refine done_ (done_of HT_.out (by kernel_rfl)) ?_
  go_wp2_with (fail)
  go_ret3
  exact ⟨_, rfl, Kd.R_nil _ _ _ _ _, by first | exact HBr.out | exact below_drew HBr.out⟩
end Go.Proofs.YthkoockcfnbpiaaDoor.W4
