/- Facts: place, on, chosen, union, bound, loose. -/
import Derived.Test.YthkoockcfnbpiaaDoorProg
import Derived.Test.YthkoockcfnbpiaaDoorWWords
import Derived.Test.YthkoockcfnbpiaaDoorWLast
import Derived.Test.YthkoockcfnbpiaaDoorF3
namespace Go.Proofs.YthkoockcfnbpiaaDoor.W1
open Go.RowKit Go.Proofs.YthkoockcfnbpiaaDoorW.PrintWords Go.Proofs.YthkoockcfnbpiaaDoorW.PrintLast Go.Proofs.YthkoockcfnbpiaaDoorW.PrintMore Go.Proofs.YthkoockcfnbpiaaDoor L1 L4 G1 G2 S0 S1 S2 S3 S4 S5 S8 F1
set_option linter.unusedVariables false
set_option linter.unusedSimpArgs false
/-- A node in memory. -/
structure NdC (w : World) (ad : Addr) (a : Nat) (x : GN) (Ak : Option Addr) (ck : Nat) (Al : Option Addr) (cl : Nat) : Prop where
  c0 : w.cell? (ad.add (a * 5)) = some (.int .i64 x.f0)
  c1 : w.cell? ⟨(ad.add (a * 5)).block, (ad.add (a * 5)).off + 1, none⟩ = some (.int .i64 x.f1)
  c2 : w.cell? ⟨(ad.add (a * 5)).block, (ad.add (a * 5)).off + 2, none⟩ = some (.string x.f2)
  c3 : w.cell? ⟨(ad.add (a * 5)).block, (ad.add (a * 5)).off + 3, none⟩ = some (.slice Ak x.f3.length ck)
  c4 : w.cell? ⟨(ad.add (a * 5)).block, (ad.add (a * 5)).off + 4, none⟩ = some (.slice Al x.f4.length cl)
  kc : x.f3.length ≤ ck
  ks : Kd.C Kd.string w Ak x.f3.length x.f3
  lc : x.f4.length ≤ cl
  ls : Kd.C (Kd.int .i64) w Al x.f4.length x.f4
theorem node_at {w : World} {A0 : Option Addr} {g : List GN} (h : Kd.C P.k45 w A0 g.length g) {a : Nat} (ha : a < g.length) : ∃ ad Ak ck Al cl, A0 = some ad ∧ NdC w ad a (nd g a) Ak ck Al cl := by
  obtain ⟨ad, A3, c3, A4, c4, eA, q0, q1, q2, q3, q4, l3, g3, l4, g4⟩ := P.at_T45 h (a : Int) (by omega) (by omega)
  rw [show P.rd_T45 g (a : Int) = nd g a from rfl] at q0 q1 q2 q3 q4 l3 g3 l4 g4
  rw [Int.toNat_natCast] at q0 q1 q2 q3 q4
  exact ⟨ad, A3, c3, A4, c4, eA, ⟨q0, q1, q2, q3, q4, l3, g3, l4, g4⟩⟩
theorem NdC.below {w w' : World} {ad : Addr} {a : Nat} {x : GN} {Ak : Option Addr} {ck : Nat} {Al : Option Addr} {cl : Nat} (h : NdC w ad a x Ak ck Al cl) (hb : Below w.heap.size w w') : NdC w' ad a x Ak ck Al cl :=
  ⟨pw_cell_below hb h.c0, pw_cell_below hb h.c1, pw_cell_below hb h.c2, pw_cell_below hb h.c3, pw_cell_below hb h.c4, h.kc, Kd.C_below h.ks hb, h.lc, Kd.C_below h.ls hb⟩
/-- A fact in memory. -/
structure FtC (w : World) (ad : Addr) (i : Nat) (f : FC) (Aw : Option Addr) (cw : Nat) : Prop where
  c0 : w.cell? (ad.add (i * 3)) = some (.int .i64 f.f0)
  c1 : w.cell? ⟨(ad.add (i * 3)).block, (ad.add (i * 3)).off + 1, none⟩ = some (.int .i64 f.f1)
  c2 : w.cell? ⟨(ad.add (i * 3)).block, (ad.add (i * 3)).off + 2, none⟩ = some (.slice Aw f.f2.length cw)
  wc : f.f2.length ≤ cw
  ws : Kd.C (Kd.int .i64) w Aw f.f2.length f.f2
theorem fact_at {w : World} {A1 : Option Addr} {l : List FC} (h : Kd.C P.k37 w A1 l.length l) {i : Nat} (hi : i < l.length) : ∃ ad Aw cw, A1 = some ad ∧ FtC w ad i (l.getD i zF) Aw cw := by
  obtain ⟨ad, A2, c2, eA, q0, q1, q2, l2, g2⟩ := P.at_T37 h (i : Int) (by omega) (by omega)
  rw [show P.rd_T37 l (i : Int) = l.getD i zF from rfl] at q0 q1 q2 l2 g2
  rw [Int.toNat_natCast] at q0 q1 q2
  exact ⟨ad, A2, c2, eA, ⟨q0, q1, q2, l2, g2⟩⟩
theorem FtC.below {w w' : World} {ad : Addr} {i : Nat} {f : FC} {Aw : Option Addr} {cw : Nat} (h : FtC w ad i f Aw cw) (hb : Below w.heap.size w w') : FtC w' ad i f Aw cw :=
  ⟨pw_cell_below hb h.c0, pw_cell_below hb h.c1, pw_cell_below hb h.c2, h.wc, Kd.C_below h.ws hb⟩
/-- Facts in memory, by a pointer. -/
structure Fx (w : World) (xb : Nat) (A0 : Option Addr) (c0 : Nat) (g : List GN) (A1 : Option Addr) (c1 : Nat) (l : List FC) : Prop where
  z0 : w.cell? ⟨xb, 0, none⟩ = some (.slice A0 g.length c0)
  z1 : w.cell? ⟨xb, 1, none⟩ = some (.slice A1 l.length c1)
  gr : Kd.C P.k45 w A0 g.length g
  gc : g.length ≤ c0
  lr : Kd.C P.k37 w A1 l.length l
  lc : l.length ≤ c1
theorem Fx.below {w w' : World} {xb : Nat} {A0 : Option Addr} {c0 : Nat} {g : List GN} {A1 : Option Addr} {c1 : Nat} {l : List FC} (h : Fx w xb A0 c0 g A1 c1 l) (hb : Below w.heap.size w w') : Fx w' xb A0 c0 g A1 c1 l :=
  ⟨pw_cell_below hb h.z0, pw_cell_below hb h.z1, Kd.C_below h.gr hb, h.gc, Kd.C_below h.lr hb, h.lc⟩
theorem place_yes (xb : Nat) (A0 : Option Addr) (n c0 : Nat) (k : Int) (w : World) (h : w.cell? ⟨xb, 0, none⟩ = some (.slice A0 n c0)) :
    Calls Tryd.prog 29 #[.pointer (some ⟨xb, 0, none⟩), .int .i64 k] w fun e w' => e = .returned (.bool (inP n k)) ∧ Below w.heap.size w w' := by
  by_cases h0 : 0 ≤ k
  · by_cases h1 : k < n
    · have HP := Aside0.mk (show inP n k = true by unfold inP; simp [h0, h1])
      go_enter Tryd.func29, Tryd.ntmps29
      go_wp2
      first | go_ret | go_ret2
      exact ⟨by rw [HP.out]; first | rfl | simp [*], Below.refl _ _⟩
    · have HP := Aside0.mk (show inP n k = false by unfold inP; simp [h1])
      go_enter Tryd.func29, Tryd.ntmps29
      go_wp2
      first | go_ret | go_ret2
      exact ⟨by rw [HP.out]; first | rfl | simp [*], Below.refl _ _⟩
  · have HP := Aside0.mk (show inP n k = false by unfold inP; simp [h0])
    go_enter Tryd.func29, Tryd.ntmps29
    go_wp2
    first | go_ret | go_ret2
    exact ⟨by rw [HP.out]; first | rfl | simp [*], Below.refl _ _⟩
def on1.T1 : Bool × List (List Nat × List Nat) := (true, [([], []), ([0], [0]), ([1], [1]), ([2], [2]), ([], []), ([4], [4]), ([3, 5], [3, 5]), ([6], [6]), ([7], [7]), ([8], [8])])
def on1.B1 : List Nat := [0, 1, 3, 7, 0, 16, 63, 127, 255, 511]
theorem on1.tab1 : rtab .any (opsOf Tryd.f40 1) = on1.T1 := by kernel_rfl
theorem on1.bits1 : waitsOk on1.T1.2 on1.B1 = true := by kernel_rfl
set_option maxHeartbeats 4000000 in
set_option maxRecDepth 100000 in
theorem on_all (xb : Nat) (A0 : Option Addr) (c0 : Nat) (g : List GN) (a : Nat) (b : Int) (ws : List Int) (Aw : Option Addr) (cw : Nat) (w : World) (hz : w.cell? ⟨xb, 0, none⟩ = some (.slice A0 g.length c0)) (hg : Kd.C P.k45 w A0 g.length g) (hgc : g.length ≤ c0) (hw : Kd.C (Kd.int .i64) w Aw ws.length ws) (hwc : ws.length ≤ cw) (ha : a < g.length) (hok : (nd g a).f0 = 8 ∨ 1 ≤ ws.length) :
    Calls Tryd.prog 40 #[.pointer (some ⟨xb, 0, none⟩), .agg #[.int .i64 a, .int .i64 b, .slice Aw ws.length cw]] w fun e w' => ∃ A c, e = .returned (.slice A (onP g ⟨a, b, ws⟩).length c) ∧ (onP g ⟨a, b, ws⟩).length ≤ c ∧ (∀ W : World, Kd.C (Kd.int .i64) W Aw ws.length ws → Kd.C (Kd.int .i64) W A (onP g ⟨a, b, ws⟩).length (onP g ⟨a, b, ws⟩)) ∧ Below w.heap.size w w' := by
  obtain ⟨ad, Ak, ck, Al, cl, eA, hN⟩ := node_at hg ha
  subst eA
  have HG0 := Aside0.mk hg
  have HGc0 := Aside0.mk hgc
  obtain ⟨x, hx⟩ : ∃ x, x = nd g a := ⟨_, rfl⟩
  rw [← hx] at hN
  have HX := Aside0.mk hx
  have e1 : ((a : Int) < (g.length : Int)) = True := eq_true (by omega)
  have HA := Aside0.mk ha
  clear hx ha hg hgc
  have hbk := heap_alloc_new w (.cells #[.int .i64 a, .int .i64 b, .slice Aw ws.length cw] 37)
  have y0 : (w.alloc (.cells #[.int .i64 a, .int .i64 b, .slice Aw ws.length cw] 37)).cell? ⟨w.heap.size, 0, none⟩ = some (.int .i64 a) := (blk_cell hbk 0).trans rfl
  have y1 : (w.alloc (.cells #[.int .i64 a, .int .i64 b, .slice Aw ws.length cw] 37)).cell? ⟨w.heap.size, 1, none⟩ = some (.int .i64 b) := (blk_cell hbk 1).trans rfl
  have y2 : (w.alloc (.cells #[.int .i64 a, .int .i64 b, .slice Aw ws.length cw] 37)).cell? ⟨w.heap.size, 2, none⟩ = some (.slice Aw ws.length cw) := (blk_cell hbk 2).trans rfl
  have HB1 := Aside0.mk (below_alloc (Below.refl w.heap.size w) (.cells #[.int .i64 a, .int .i64 b, .slice Aw ws.length cw] 37))
  clear hbk
  have HN := Aside0.mk (hN.below HB1.out)
  have z0 := pw_cell_below HB1.out hz
  have k0 := HN.out.c0
  have k4 := HN.out.c4
  have HW := Aside0.mk (Kd.C_below hw HB1.out)
  clear hN hw hz
  have HWc := Aside0.mk hwc
  have hok' : x.f0 = 8 ∨ 1 ≤ ws.length := by rw [HX.out]; exact hok
  have HOk := Aside0.mk hok'
  clear hok hok' hwc
  by_cases h8 : x.f0 = 8
  · have HP := Aside0.mk (show onP g ⟨a, b, ws⟩ = ws from if_pos (by rw [← HX.out]; exact h8))
    clear HOk
    go_enter Tryd.func40, Tryd.ntmps40
    go_wp2_with (fail)
    generalize w.alloc (.cells #[.int .i64 a, .int .i64 b, .slice Aw ws.length cw] 37) = W1 at y0 y1 y2 HB1 z0 k0 k4 HN HW ⊢
    refine start_ (n := 10) (S := fun w' => w'.cell? ⟨xb, 0, none⟩ = some (.slice (some ad) g.length c0) ∧ w'.cell? ⟨w.heap.size, 0, none⟩ = some (.int .i64 a) ∧ w'.cell? (ad.add (a * 5)) = some (.int .i64 x.f0)) (ds := []) #[φ,φ,φ,φ,φ,φ,φ,φ,φ,φ] (by kernel_rfl) rfl rfl ⟨z0, y0, k0⟩ (fun hHeld => ?_)
    refine with_tabW on1.tab1 on1.bits1 (fun HT_ HW_ => ?_)
    refine pure_ (i := 0) (N := some 5) (v := ?_) (a' := ?_) #[τ,φ,φ,φ,φ,φ,φ,φ,φ,φ] rfl rfl (any_of HT_.out (by kernel_rfl)) (fun _ _ _ h => h) (Or.inl ⟨by rfl, ?_⟩) ?_ ?_
    rotate_left; (intro w'; go_simp; with_reducible rfl); rotate_left; (simp only [Act.put, zz1, zz2, zz3, i64_w, i32_w]; rfl)
    refine pure_ (i := 1) (N := some 6) (v := ?_) (a' := ?_) #[τ,τ,φ,φ,φ,φ,φ,φ,φ,φ] rfl rfl (any_of HT_.out (by kernel_rfl)) (fun _ _ _ h => h) (Or.inl ⟨by rfl, ?_⟩) ?_ ?_
    rotate_left; (intro w'; go_simp; with_reducible rfl); rotate_left; (simp only [Act.put, zz1, zz2, zz3, i64_w, i32_w]; rfl)
    refine pure_ (i := 2) (N := some 7) (v := ?_) (a' := ?_) #[τ,τ,τ,φ,φ,φ,φ,φ,φ,φ] rfl rfl (any_of HT_.out (by kernel_rfl)) (fun _ _ _ h => h) (Or.inl ⟨by rfl, ?_⟩) ?_ ?_
    rotate_left; (intro w'; go_simp; with_reducible rfl); rotate_left; (simp only [Act.put, zz1, zz2, zz3, i64_w, i32_w]; rfl)
    refine pure_ (i := 4) (N := some 9) (v := ?_) (a' := ?_) #[τ,τ,τ,φ,τ,φ,φ,φ,φ,φ] rfl rfl (any_of HT_.out (by kernel_rfl)) (fun _ _ _ h => h) (Or.inl ⟨by rfl, ?_⟩) ?_ ?_
    rotate_left; (intro w'; go_simp; with_reducible rfl); rotate_left; (simp only [Act.put, zz1, zz2, zz3, i64_w, i32_w]; rfl)
    refine take_ (i := 3) (N := some 8) (v := ?_) (a' := ?_) #[τ,τ,τ,τ,τ,φ,φ,φ,φ,φ] rfl rfl (take_ofW HT_.out HW_.out (by kernel_rfl)) (fun _ _ _ h => h) (Or.inl ⟨by rfl, ?_⟩) hHeld ?_ ?_
    rotate_left; (rintro w' ⟨s0, s1, s2⟩; go_simp; with_reducible rfl); rotate_left; (simp only [Act.put, zz1, zz2, zz3, i64_w, i32_w]; rfl)
    refine take_ (i := 5) (N := some 10) (v := ?_) (a' := ?_) #[τ,τ,τ,τ,τ,τ,φ,φ,φ,φ] rfl rfl (take_ofW HT_.out HW_.out (by kernel_rfl)) (fun _ _ _ h => h) (Or.inl ⟨by rfl, ?_⟩) hHeld ?_ ?_
    rotate_left; (rintro w' ⟨s0, s1, s2⟩; go_simp; with_reducible rfl); rotate_left; (simp only [Act.put, zz1, zz2, zz3, i64_w, i32_w]; rfl)
    refine pure_ (i := 6) (N := some 11) (v := ?_) (a' := ?_) #[τ,τ,τ,τ,τ,τ,τ,φ,φ,φ] rfl rfl (any_of HT_.out (by kernel_rfl)) (fun _ _ _ h => h) (Or.inl ⟨by rfl, ?_⟩) ?_ ?_
    rotate_left; (intro w'; go_simp; with_reducible rfl); rotate_left; (simp only [Act.put, zz1, zz2, zz3, i64_w, i32_w]; rfl)
    refine pure_ (i := 7) (N := some 12) (v := ?_) (a' := ?_) #[τ,τ,τ,τ,τ,τ,τ,τ,φ,φ] rfl rfl (any_of HT_.out (by kernel_rfl)) (fun _ _ _ h => h) (Or.inl ⟨by rfl, ?_⟩) ?_ ?_
    rotate_left; (intro w'; go_simp; with_reducible rfl); rotate_left; (simp only [Act.put, zz1, zz2, zz3, i64_w, i32_w]; rfl)
    refine take_ (i := 8) (N := some 13) (v := ?_) (a' := ?_) #[τ,τ,τ,τ,τ,τ,τ,τ,τ,φ] rfl rfl (take_ofW HT_.out HW_.out (by kernel_rfl)) (fun _ _ _ h => h) (Or.inl ⟨by rfl, ?_⟩) hHeld ?_ ?_
    rotate_left; (rintro w' ⟨s0, s1, s2⟩; go_simp; with_reducible rfl); rotate_left; (simp only [Act.put, zz1, zz2, zz3, i64_w, i32_w]; rfl)
    refine pure_ (i := 9) (N := some 14) (v := ?_) (a' := ?_) #[τ,τ,τ,τ,τ,τ,τ,τ,τ,τ] rfl rfl (any_of HT_.out (by kernel_rfl)) (fun _ _ _ h => h) (Or.inl ⟨by rfl, ?_⟩) ?_ ?_
    rotate_left; (intro w'; go_simp; with_reducible rfl); rotate_left; (simp only [Act.put, zz1, zz2, zz3, i64_w, i32_w]; rfl)
    refine done_ (done_of HT_.out (by kernel_rfl)) ?_
    go_wp2_with (fail)
    first | go_ret | go_ret2
    rw [HP.out]
    exact ⟨_, _, rfl, HWc.out, fun _ h => h, below_drew HB1.out⟩
  · have HP := Aside0.mk (show onP g ⟨a, b, ws⟩ = ws.drop 1 from if_neg (by rw [← HX.out]; exact h8))
    have HL := Aside0.mk (show 1 ≤ ws.length from HOk.out.resolve_left h8)
    clear HOk
    go_enter Tryd.func40, Tryd.ntmps40
    go_wp2_with (fail)
    generalize w.alloc (.cells #[.int .i64 a, .int .i64 b, .slice Aw ws.length cw] 37) = W1 at y0 y1 y2 HB1 z0 k0 k4 HN HW ⊢
    refine start_ (n := 10) (S := fun w' => w'.cell? ⟨xb, 0, none⟩ = some (.slice (some ad) g.length c0) ∧ w'.cell? ⟨w.heap.size, 0, none⟩ = some (.int .i64 a) ∧ w'.cell? (ad.add (a * 5)) = some (.int .i64 x.f0)) (ds := []) #[φ,φ,φ,φ,φ,φ,φ,φ,φ,φ] (by kernel_rfl) rfl rfl ⟨z0, y0, k0⟩ (fun hHeld => ?_)
    refine with_tabW on1.tab1 on1.bits1 (fun HT_ HW_ => ?_)
    refine pure_ (i := 0) (N := some 5) (v := ?_) (a' := ?_) #[τ,φ,φ,φ,φ,φ,φ,φ,φ,φ] rfl rfl (any_of HT_.out (by kernel_rfl)) (fun _ _ _ h => h) (Or.inl ⟨by rfl, ?_⟩) ?_ ?_
    rotate_left; (intro w'; go_simp; with_reducible rfl); rotate_left; (simp only [Act.put, zz1, zz2, zz3, i64_w, i32_w]; rfl)
    refine pure_ (i := 1) (N := some 6) (v := ?_) (a' := ?_) #[τ,τ,φ,φ,φ,φ,φ,φ,φ,φ] rfl rfl (any_of HT_.out (by kernel_rfl)) (fun _ _ _ h => h) (Or.inl ⟨by rfl, ?_⟩) ?_ ?_
    rotate_left; (intro w'; go_simp; with_reducible rfl); rotate_left; (simp only [Act.put, zz1, zz2, zz3, i64_w, i32_w]; rfl)
    refine pure_ (i := 2) (N := some 7) (v := ?_) (a' := ?_) #[τ,τ,τ,φ,φ,φ,φ,φ,φ,φ] rfl rfl (any_of HT_.out (by kernel_rfl)) (fun _ _ _ h => h) (Or.inl ⟨by rfl, ?_⟩) ?_ ?_
    rotate_left; (intro w'; go_simp; with_reducible rfl); rotate_left; (simp only [Act.put, zz1, zz2, zz3, i64_w, i32_w]; rfl)
    refine pure_ (i := 4) (N := some 9) (v := ?_) (a' := ?_) #[τ,τ,τ,φ,τ,φ,φ,φ,φ,φ] rfl rfl (any_of HT_.out (by kernel_rfl)) (fun _ _ _ h => h) (Or.inl ⟨by rfl, ?_⟩) ?_ ?_
    rotate_left; (intro w'; go_simp; with_reducible rfl); rotate_left; (simp only [Act.put, zz1, zz2, zz3, i64_w, i32_w]; rfl)
    refine take_ (i := 3) (N := some 8) (v := ?_) (a' := ?_) #[τ,τ,τ,τ,τ,φ,φ,φ,φ,φ] rfl rfl (take_ofW HT_.out HW_.out (by kernel_rfl)) (fun _ _ _ h => h) (Or.inl ⟨by rfl, ?_⟩) hHeld ?_ ?_
    rotate_left; (rintro w' ⟨s0, s1, s2⟩; go_simp; with_reducible rfl); rotate_left; (simp only [Act.put, zz1, zz2, zz3, i64_w, i32_w]; rfl)
    refine take_ (i := 5) (N := some 10) (v := ?_) (a' := ?_) #[τ,τ,τ,τ,τ,τ,φ,φ,φ,φ] rfl rfl (take_ofW HT_.out HW_.out (by kernel_rfl)) (fun _ _ _ h => h) (Or.inl ⟨by rfl, ?_⟩) hHeld ?_ ?_
    rotate_left; (rintro w' ⟨s0, s1, s2⟩; go_simp; with_reducible rfl); rotate_left; (simp only [Act.put, zz1, zz2, zz3, i64_w, i32_w]; rfl)
    refine pure_ (i := 6) (N := some 11) (v := ?_) (a' := ?_) #[τ,τ,τ,τ,τ,τ,τ,φ,φ,φ] rfl rfl (any_of HT_.out (by kernel_rfl)) (fun _ _ _ h => h) (Or.inl ⟨by rfl, ?_⟩) ?_ ?_
    rotate_left; (intro w'; go_simp; with_reducible rfl); rotate_left; (simp only [Act.put, zz1, zz2, zz3, i64_w, i32_w]; rfl)
    refine pure_ (i := 7) (N := some 12) (v := ?_) (a' := ?_) #[τ,τ,τ,τ,τ,τ,τ,τ,φ,φ] rfl rfl (any_of HT_.out (by kernel_rfl)) (fun _ _ _ h => h) (Or.inl ⟨by rfl, ?_⟩) ?_ ?_
    rotate_left; (intro w'; go_simp; with_reducible rfl); rotate_left; (simp only [Act.put, zz1, zz2, zz3, i64_w, i32_w]; rfl)
    refine take_ (i := 8) (N := some 13) (v := ?_) (a' := ?_) #[τ,τ,τ,τ,τ,τ,τ,τ,τ,φ] rfl rfl (take_ofW HT_.out HW_.out (by kernel_rfl)) (fun _ _ _ h => h) (Or.inl ⟨by rfl, ?_⟩) hHeld ?_ ?_
    rotate_left; (rintro w' ⟨s0, s1, s2⟩; go_simp; with_reducible rfl); rotate_left; (simp only [Act.put, zz1, zz2, zz3, i64_w, i32_w]; rfl)
    refine pure_ (i := 9) (N := some 14) (v := ?_) (a' := ?_) #[τ,τ,τ,τ,τ,τ,τ,τ,τ,τ] rfl rfl (any_of HT_.out (by kernel_rfl)) (fun _ _ _ h => h) (Or.inl ⟨by rfl, ?_⟩) ?_ ?_
    rotate_left; (intro w'; go_simp; with_reducible rfl); rotate_left; (simp only [Act.put, zz1, zz2, zz3, i64_w, i32_w]; rfl)
    refine done_ (done_of HT_.out (by kernel_rfl)) ?_
    have hl1 := HL.out
    have hl2 := HWc.out
    clear k0 k4 z0 hHeld
    have hd := fun (W : World) (h : Kd.C (Kd.int .i64) W Aw ws.length ws) => Kd.C_drop h HL.out HWc.out
    rw [List.length_drop] at hd
    by_cases hc : cw = 1
    · rw [if_pos hc] at hd
      have HD := Aside0.mk hd
      clear hd
      go_wp2_with (fail)
      first | go_ret | go_ret2
      rw [HP.out, List.length_drop]
      exact ⟨_, _, rfl, by omega, HD.out, below_drew HB1.out⟩
    · rw [if_neg hc] at hd
      have HD := Aside0.mk hd
      clear hd
      go_wp2_with (fail)
      first | go_ret | go_ret2
      rw [HP.out, List.length_drop]
      exact ⟨_, _, rfl, by omega, HD.out, below_drew HB1.out⟩
set_option maxRecDepth 100000 in
theorem on_yes (xb : Nat) (A0 : Option Addr) (c0 : Nat) (g : List GN) (a : Nat) (b : Int) (ws : List Int) (Aw : Option Addr) (cw : Nat) (w : World) (hz : w.cell? ⟨xb, 0, none⟩ = some (.slice A0 g.length c0)) (hg : Kd.C P.k45 w A0 g.length g) (hgc : g.length ≤ c0) (hw : Kd.C (Kd.int .i64) w Aw ws.length ws) (hwc : ws.length ≤ cw) (ha : a < g.length) (hok : (nd g a).f0 = 8 ∨ 1 ≤ ws.length) :
    Calls Tryd.prog 40 #[.pointer (some ⟨xb, 0, none⟩), .agg #[.int .i64 a, .int .i64 b, .slice Aw ws.length cw]] w fun e w' => ∃ A c, e = .returned (.slice A (onP g ⟨a, b, ws⟩).length c) ∧ (onP g ⟨a, b, ws⟩).length ≤ c ∧ Kd.C (Kd.int .i64) w' A (onP g ⟨a, b, ws⟩).length (onP g ⟨a, b, ws⟩) ∧ Below w.heap.size w w' := by
  refine (on_all xb A0 c0 g a b ws Aw cw w hz hg hgc hw hwc ha hok).mono ?_
  rintro e w' ⟨A, c, h1, h2, h3, h4⟩
  exact ⟨A, c, h1, h2, h3 w' (Kd.C_below hw h4), h4⟩
theorem ints_at {w : World} {A : Option Addr} {l : List Int} (h : Kd.C (Kd.int .i64) w A l.length l) {i : Nat} (hi : i < l.length) : ∃ ad, A = some ad ∧ w.cell? (ad.add i) = some (.int .i64 (l.getD i 0)) := by
  obtain ⟨ad, e, hc⟩ := Kd.at_int h (i : Int) (by omega) (by omega)
  rw [Int.toNat_natCast] at hc
  exact ⟨ad, e, hc⟩
theorem ints_at0 {w : World} {A : Option Addr} {l : List Int} (h : Kd.C (Kd.int .i64) w A l.length l) (hi : 0 < l.length) : ∃ ad, A = some ad ∧ w.cell? ad = some (.int .i64 (l.getD 0 0)) := by
  obtain ⟨ad, e, hc⟩ := ints_at h hi
  exact ⟨ad, e, by rw [add_zero_] at hc; exact hc⟩
/-- A node by value: its lists are to be read. -/
structure NdV (w : World) (x : GN) (Ak : Option Addr) (ck : Nat) (Al : Option Addr) (cl : Nat) : Prop where
  kc : x.f3.length ≤ ck
  ks : Kd.C Kd.string w Ak x.f3.length x.f3
  lc : x.f4.length ≤ cl
  ls : Kd.C (Kd.int .i64) w Al x.f4.length x.f4
theorem NdV.below {w w' : World} {x : GN} {Ak : Option Addr} {ck : Nat} {Al : Option Addr} {cl : Nat} (h : NdV w x Ak ck Al cl) (hb : Below w.heap.size w w') : NdV w' x Ak ck Al cl :=
  ⟨h.kc, Kd.C_below h.ks hb, h.lc, Kd.C_below h.ls hb⟩
theorem store5_far {w : World} {g q t : Nat} {cs : Array Value} (h : w.heap[g]? = some (.cells cs t (0, 0))) (hne : g ≠ q) (v0 v1 v2 v3 v4 : Value) : (((((w.setCell ⟨q, 0, none⟩ v0).setCell ⟨q, 1, none⟩ v1).setCell ⟨q, 2, none⟩ v2).setCell ⟨q, 3, none⟩ v3).setCell ⟨q, 4, none⟩ v4).heap[g]? = some (.cells cs t (0, 0)) := (blk_far (blk_far (blk_far (blk_far (blk_far h hne _) hne _) hne _) hne _) hne _)
theorem store5_below {w0 w : World} {q : Nat} (h : Below w0.heap.size w0 w) (hq : w0.heap.size ≤ q) (v0 v1 v2 v3 v4 : Value) : Below w0.heap.size w0 (((((w.setCell ⟨q, 0, none⟩ v0).setCell ⟨q, 1, none⟩ v1).setCell ⟨q, 2, none⟩ v2).setCell ⟨q, 3, none⟩ v3).setCell ⟨q, 4, none⟩ v4) := (below_set (below_set (below_set (below_set (below_set h hq) hq) hq) hq) hq)
theorem store5_ {w : World} {q t : Nat} {c0 c1 c2 c3 c4 : Value} (h : w.heap[q]? = some (.cells #[c0, c1, c2, c3, c4] t (0, 0))) (v0 v1 v2 v3 v4 : Value) : w.cell? ⟨q, 0, none⟩ = some c0 ∧ w.frozen? ⟨q, 0, none⟩ = false ∧ (w.setCell ⟨q, 0, none⟩ v0).cell? ⟨q, 1, none⟩ = some c1 ∧ (w.setCell ⟨q, 0, none⟩ v0).frozen? ⟨q, 1, none⟩ = false ∧ ((w.setCell ⟨q, 0, none⟩ v0).setCell ⟨q, 1, none⟩ v1).cell? ⟨q, 2, none⟩ = some c2 ∧ ((w.setCell ⟨q, 0, none⟩ v0).setCell ⟨q, 1, none⟩ v1).frozen? ⟨q, 2, none⟩ = false ∧ (((w.setCell ⟨q, 0, none⟩ v0).setCell ⟨q, 1, none⟩ v1).setCell ⟨q, 2, none⟩ v2).cell? ⟨q, 3, none⟩ = some c3 ∧ (((w.setCell ⟨q, 0, none⟩ v0).setCell ⟨q, 1, none⟩ v1).setCell ⟨q, 2, none⟩ v2).frozen? ⟨q, 3, none⟩ = false ∧ ((((w.setCell ⟨q, 0, none⟩ v0).setCell ⟨q, 1, none⟩ v1).setCell ⟨q, 2, none⟩ v2).setCell ⟨q, 3, none⟩ v3).cell? ⟨q, 4, none⟩ = some c4 ∧ ((((w.setCell ⟨q, 0, none⟩ v0).setCell ⟨q, 1, none⟩ v1).setCell ⟨q, 2, none⟩ v2).setCell ⟨q, 3, none⟩ v3).frozen? ⟨q, 4, none⟩ = false ∧ (((((w.setCell ⟨q, 0, none⟩ v0).setCell ⟨q, 1, none⟩ v1).setCell ⟨q, 2, none⟩ v2).setCell ⟨q, 3, none⟩ v3).setCell ⟨q, 4, none⟩ v4).heap[q]? = some (.cells #[v0, v1, v2, v3, v4] t (0, 0)) := by
  have h1 : (w.setCell ⟨q, 0, none⟩ v0).heap[q]? = some (.cells #[v0, c1, c2, c3, c4] t (0, 0)) := blk_put h 0 v0 rfl
  have h2 : ((w.setCell ⟨q, 0, none⟩ v0).setCell ⟨q, 1, none⟩ v1).heap[q]? = some (.cells #[v0, v1, c2, c3, c4] t (0, 0)) := blk_put h1 1 v1 rfl
  have h3 : (((w.setCell ⟨q, 0, none⟩ v0).setCell ⟨q, 1, none⟩ v1).setCell ⟨q, 2, none⟩ v2).heap[q]? = some (.cells #[v0, v1, v2, c3, c4] t (0, 0)) := blk_put h2 2 v2 rfl
  have h4 : ((((w.setCell ⟨q, 0, none⟩ v0).setCell ⟨q, 1, none⟩ v1).setCell ⟨q, 2, none⟩ v2).setCell ⟨q, 3, none⟩ v3).heap[q]? = some (.cells #[v0, v1, v2, v3, c4] t (0, 0)) := blk_put h3 3 v3 rfl
  have h5 : (((((w.setCell ⟨q, 0, none⟩ v0).setCell ⟨q, 1, none⟩ v1).setCell ⟨q, 2, none⟩ v2).setCell ⟨q, 3, none⟩ v3).setCell ⟨q, 4, none⟩ v4).heap[q]? = some (.cells #[v0, v1, v2, v3, v4] t (0, 0)) := blk_put h4 4 v4 rfl
  exact ⟨(blk_cell h 0).trans rfl, blk_frozen h 0, (blk_cell h1 1).trans rfl, blk_frozen h1 1, (blk_cell h2 2).trans rfl, blk_frozen h2 2, (blk_cell h3 3).trans rfl, blk_frozen h3 3, (blk_cell h4 4).trans rfl, blk_frozen h4 4, h5⟩
theorem store3_ {w : World} {q t : Nat} {c0 c1 c2 : Value} (h : w.heap[q]? = some (.cells #[c0, c1, c2] t (0, 0))) (v0 v1 v2 : Value) : w.cell? ⟨q, 0, none⟩ = some c0 ∧ w.frozen? ⟨q, 0, none⟩ = false ∧ (w.setCell ⟨q, 0, none⟩ v0).cell? ⟨q, 1, none⟩ = some c1 ∧ (w.setCell ⟨q, 0, none⟩ v0).frozen? ⟨q, 1, none⟩ = false ∧ ((w.setCell ⟨q, 0, none⟩ v0).setCell ⟨q, 1, none⟩ v1).cell? ⟨q, 2, none⟩ = some c2 ∧ ((w.setCell ⟨q, 0, none⟩ v0).setCell ⟨q, 1, none⟩ v1).frozen? ⟨q, 2, none⟩ = false ∧ (((w.setCell ⟨q, 0, none⟩ v0).setCell ⟨q, 1, none⟩ v1).setCell ⟨q, 2, none⟩ v2).heap[q]? = some (.cells #[v0, v1, v2] t (0, 0)) := by
  have h1 : (w.setCell ⟨q, 0, none⟩ v0).heap[q]? = some (.cells #[v0, c1, c2] t (0, 0)) := blk_put h 0 v0 rfl
  have h2 : ((w.setCell ⟨q, 0, none⟩ v0).setCell ⟨q, 1, none⟩ v1).heap[q]? = some (.cells #[v0, v1, c2] t (0, 0)) := blk_put h1 1 v1 rfl
  have h3 : (((w.setCell ⟨q, 0, none⟩ v0).setCell ⟨q, 1, none⟩ v1).setCell ⟨q, 2, none⟩ v2).heap[q]? = some (.cells #[v0, v1, v2] t (0, 0)) := blk_put h2 2 v2 rfl
  exact ⟨(blk_cell h 0).trans rfl, blk_frozen h 0, (blk_cell h1 1).trans rfl, blk_frozen h1 1, (blk_cell h2 2).trans rfl, blk_frozen h2 2, h3⟩
def ch1.T1 : Bool × List (List Nat × List Nat) := (true, [([], []), ([0], [0]), ([1], [1]), ([2], [2]), ([], []), ([4], [4]), ([5], [5]), ([6], [6]), ([], []), ([8], [8]), ([7, 9], [7, 9]), ([], []), ([11], [11]), ([12], [12]), ([13], [13]), ([10, 14], [10, 14]), ([15], [15]), ([3, 16], [3, 16]), ([17], [17]), ([18, 10, 0, 1, 2, 3, 4, 5, 6, 7, 8, 9, 10, 11, 12, 13, 14, 15, 16, 17, 18], [18])])
def ch1.B1 : List Nat := [0, 1, 3, 7, 0, 16, 48, 112, 0, 256, 1008, 0, 2048, 6144, 14336, 32752, 65520, 131071, 262143, 524287]
theorem ch1.tab1 : rtab .any (opsOf Tryd.f65 1) = ch1.T1 := by kernel_rfl
theorem ch1.bits1 : waitsOk ch1.T1.2 ch1.B1 = true := by kernel_rfl
set_option maxHeartbeats 4000000 in
set_option maxRecDepth 100000 in
theorem chosen_yes (xb : Nat) (ad : Addr) (c0 : Nat) (g : List GN) (a : Nat) (b : Int) (ws : List Int) (Aw : Option Addr) (cw : Nat) (w : World) (hz : w.cell? ⟨xb, 0, none⟩ = some (.slice (some ad) g.length c0)) (hg : Kd.C P.k45 w (some ad) g.length g) (hgc : g.length ≤ c0) (hw : Kd.C (Kd.int .i64) w Aw ws.length ws)
    (hc : checkP g = 0) (k m : Nat) (hw1 : 0 < ws.length) (hk : ws.getD 0 0 = (k : Int)) (hkm : k < (membersP g b).length) (hmv : (membersP g b).getD k 0 = (m : Int)) (hm : m < g.length) (Ak : Option Addr) (ck : Nat) (Al : Option Addr) (cl : Nat) (hN : NdC w ad m (nd g m) Ak ck Al cl) :
    Calls Tryd.prog 65 #[.pointer (some ⟨xb, 0, none⟩), .agg #[.int .i64 a, .int .i64 b, .slice Aw ws.length cw]] w fun e w' => e = .returned (.agg #[.int .i64 (nd g m).f0, .int .i64 (nd g m).f1, .string (nd g m).f2, .slice Ak (nd g m).f3.length ck, .slice Al (nd g m).f4.length cl]) ∧ Below w.heap.size w w' := by
  have HG0 := Aside0.mk hg
  have HGc0 := Aside0.mk hgc
  have HMs := Aside0.mk (members_small hc)
  have HKm := Aside0.mk hkm
  have HMv := Aside0.mk hmv
  obtain ⟨x, hx⟩ : ∃ x, x = nd g m := ⟨_, rfl⟩
  rw [← hx] at hN ⊢
  obtain ⟨adw, eW, hw0⟩ := ints_at0 hw hw1
  subst eW
  rw [hk] at hw0
  have e1 : ((m : Int) < (g.length : Int)) = True := eq_true (by omega)
  have e2 : (0 < ws.length) = True := eq_true hw1
  have hbk := heap_alloc_new w (.cells #[.int .i64 a, .int .i64 b, .slice (some adw) ws.length cw] 37)
  have y0 : (w.alloc (.cells #[.int .i64 a, .int .i64 b, .slice (some adw) ws.length cw] 37)).cell? ⟨w.heap.size, 0, none⟩ = some (.int .i64 a) := (blk_cell hbk 0).trans rfl
  have y1 : (w.alloc (.cells #[.int .i64 a, .int .i64 b, .slice (some adw) ws.length cw] 37)).cell? ⟨w.heap.size, 1, none⟩ = some (.int .i64 b) := (blk_cell hbk 1).trans rfl
  have y2 : (w.alloc (.cells #[.int .i64 a, .int .i64 b, .slice (some adw) ws.length cw] 37)).cell? ⟨w.heap.size, 2, none⟩ = some (.slice (some adw) ws.length cw) := (blk_cell hbk 2).trans rfl
  have HB1 := Aside0.mk (below_alloc (Below.refl w.heap.size w) (.cells #[.int .i64 a, .int .i64 b, .slice (some adw) ws.length cw] 37))
  clear hbk
  have hbz := heap_alloc_new (w.alloc (.cells #[.int .i64 a, .int .i64 b, .slice (some adw) ws.length cw] 37)) (.cells #[.int .i64 0, .int .i64 0, .string ⟨#[]⟩, .slice none 0 0, .slice none 0 0] 45)
  have HB2 := Aside0.mk (below_alloc HB1.out (.cells #[.int .i64 0, .int .i64 0, .string ⟨#[]⟩, .slice none 0 0, .slice none 0 0] 45))
  have y1d := drew_cell (pw_cell_below (below_alloc (Below.refl _ _) (.cells #[.int .i64 0, .int .i64 0, .string ⟨#[]⟩, .slice none 0 0, .slice none 0 0] 45)) y1)
  have y2d := drew_cell (pw_cell_below (below_alloc (Below.refl _ _) (.cells #[.int .i64 0, .int .i64 0, .string ⟨#[]⟩, .slice none 0 0, .slice none 0 0] 45)) y2)
  have z0d := drew_cell (pw_cell_below HB2.out hz)
  have w0d := drew_cell (pw_cell_below HB2.out hw0)
  have HG1 := Aside0.mk (Kd.C_below HG0.out HB2.out)
  have HN := Aside0.mk (hN.below HB2.out)
  clear y0 y1 y2 hz hw0 hN hg hgc hw hc hw1 hk hkm hmv hm hx HB1
  have HB1 := HB2
  clear HB2
  go_enter Tryd.func65, Tryd.ntmps65
  go_wp2_with (fail)
  generalize (w.alloc (.cells #[.int .i64 a, .int .i64 b, .slice (some adw) ws.length cw] 37)).alloc (.cells #[.int .i64 0, .int .i64 0, .string ⟨#[]⟩, .slice none 0 0, .slice none 0 0] 45) = W1 at y1d y2d z0d w0d HG1 HN HB1 hbz ⊢
  try rw [World.size_alloc] at hbz
  try rw [World.size_alloc]
  refine start_ (n := 20) (S := fun w' => w'.cell? ⟨xb, 0, none⟩ = some (.slice (some ad) g.length c0) ∧ w'.cell? ⟨w.heap.size, 1, none⟩ = some (.int .i64 b) ∧ w'.cell? ⟨w.heap.size, 2, none⟩ = some (.slice (some adw) ws.length cw) ∧ w'.cell? adw = some (.int .i64 k)) (ds := [19]) #[φ,φ,φ,φ,φ,φ,φ,φ,φ,φ,φ,φ,φ,φ,φ,φ,φ,φ,φ,φ] (by kernel_rfl) rfl rfl ⟨z0d, y1d, y2d, w0d⟩ (fun hHeld => ?_)
  refine with_tabW ch1.tab1 ch1.bits1 (fun HT_ HW_ => ?_)
  refine pure_ (i := 0) (N := some 5) (v := ?_) (a' := ?_) #[τ,φ,φ,φ,φ,φ,φ,φ,φ,φ,φ,φ,φ,φ,φ,φ,φ,φ,φ,φ] rfl rfl (any_of HT_.out (by kernel_rfl)) (fun _ _ _ h => h) (Or.inl ⟨by rfl, ?_⟩) ?_ ?_
  rotate_left; (intro w'; go_simp; with_reducible rfl); rotate_left; (simp only [Act.put, zz1, zz2, zz3, i64_w, i32_w]; rfl)
  refine pure_ (i := 1) (N := some 6) (v := ?_) (a' := ?_) #[τ,τ,φ,φ,φ,φ,φ,φ,φ,φ,φ,φ,φ,φ,φ,φ,φ,φ,φ,φ] rfl rfl (any_of HT_.out (by kernel_rfl)) (fun _ _ _ h => h) (Or.inl ⟨by rfl, ?_⟩) ?_ ?_
  rotate_left; (intro w'; go_simp; with_reducible rfl); rotate_left; (simp only [Act.put, zz1, zz2, zz3, i64_w, i32_w]; rfl)
  refine pure_ (i := 2) (N := some 7) (v := ?_) (a' := ?_) #[τ,τ,τ,φ,φ,φ,φ,φ,φ,φ,φ,φ,φ,φ,φ,φ,φ,φ,φ,φ] rfl rfl (any_of HT_.out (by kernel_rfl)) (fun _ _ _ h => h) (Or.inl ⟨by rfl, ?_⟩) ?_ ?_
  rotate_left; (intro w'; go_simp; with_reducible rfl); rotate_left; (simp only [Act.put, zz1, zz2, zz3, i64_w, i32_w]; rfl)
  refine pure_ (i := 4) (N := some 9) (v := ?_) (a' := ?_) #[τ,τ,τ,φ,τ,φ,φ,φ,φ,φ,φ,φ,φ,φ,φ,φ,φ,φ,φ,φ] rfl rfl (any_of HT_.out (by kernel_rfl)) (fun _ _ _ h => h) (Or.inl ⟨by rfl, ?_⟩) ?_ ?_
  rotate_left; (intro w'; go_simp; with_reducible rfl); rotate_left; (simp only [Act.put, zz1, zz2, zz3, i64_w, i32_w]; rfl)
  refine pure_ (i := 5) (N := some 10) (v := ?_) (a' := ?_) #[τ,τ,τ,φ,τ,τ,φ,φ,φ,φ,φ,φ,φ,φ,φ,φ,φ,φ,φ,φ] rfl rfl (any_of HT_.out (by kernel_rfl)) (fun _ _ _ h => h) (Or.inl ⟨by rfl, ?_⟩) ?_ ?_
  rotate_left; (intro w'; go_simp; with_reducible rfl); rotate_left; (simp only [Act.put, zz1, zz2, zz3, i64_w, i32_w]; rfl)
  refine pure_ (i := 6) (N := some 11) (v := ?_) (a' := ?_) #[τ,τ,τ,φ,τ,τ,τ,φ,φ,φ,φ,φ,φ,φ,φ,φ,φ,φ,φ,φ] rfl rfl (any_of HT_.out (by kernel_rfl)) (fun _ _ _ h => h) (Or.inl ⟨by rfl, ?_⟩) ?_ ?_
  rotate_left; (intro w'; go_simp; with_reducible rfl); rotate_left; (simp only [Act.put, zz1, zz2, zz3, i64_w, i32_w]; rfl)
  refine pure_ (i := 8) (N := some 13) (v := ?_) (a' := ?_) #[τ,τ,τ,φ,τ,τ,τ,φ,τ,φ,φ,φ,φ,φ,φ,φ,φ,φ,φ,φ] rfl rfl (any_of HT_.out (by kernel_rfl)) (fun _ _ _ h => h) (Or.inl ⟨by rfl, ?_⟩) ?_ ?_
  rotate_left; (intro w'; go_simp; with_reducible rfl); rotate_left; (simp only [Act.put, zz1, zz2, zz3, i64_w, i32_w]; rfl)
  refine pure_ (i := 11) (N := some 16) (v := ?_) (a' := ?_) #[τ,τ,τ,φ,τ,τ,τ,φ,τ,φ,φ,τ,φ,φ,φ,φ,φ,φ,φ,φ] rfl rfl (any_of HT_.out (by kernel_rfl)) (fun _ _ _ h => h) (Or.inl ⟨by rfl, ?_⟩) ?_ ?_
  rotate_left; (intro w'; go_simp; with_reducible rfl); rotate_left; (simp only [Act.put, zz1, zz2, zz3, i64_w, i32_w]; rfl)
  refine take_ (i := 3) (N := some 8) (v := ?_) (a' := ?_) #[τ,τ,τ,τ,τ,τ,τ,φ,τ,φ,φ,τ,φ,φ,φ,φ,φ,φ,φ,φ] rfl rfl (take_ofW HT_.out HW_.out (by kernel_rfl)) (fun _ _ _ h => h) (Or.inl ⟨by rfl, ?_⟩) hHeld ?_ ?_
  rotate_left; (rintro w' ⟨s0, s1, s2, s3⟩; go_simp; with_reducible rfl); rotate_left; (simp only [Act.put, zz1, zz2, zz3, i64_w, i32_w]; rfl)
  refine take_ (i := 7) (N := some 12) (v := ?_) (a' := ?_) #[τ,τ,τ,τ,τ,τ,τ,τ,τ,φ,φ,τ,φ,φ,φ,φ,φ,φ,φ,φ] rfl rfl (take_ofW HT_.out HW_.out (by kernel_rfl)) (fun _ _ _ h => h) (Or.inl ⟨by rfl, ?_⟩) hHeld ?_ ?_
  rotate_left; (rintro w' ⟨s0, s1, s2, s3⟩; go_simp; with_reducible rfl); rotate_left; (simp only [Act.put, zz1, zz2, zz3, i64_w, i32_w]; rfl)
  refine take_ (i := 9) (N := some 14) (v := ?_) (a' := ?_) #[τ,τ,τ,τ,τ,τ,τ,τ,τ,τ,φ,τ,φ,φ,φ,φ,φ,φ,φ,φ] rfl rfl (take_ofW HT_.out HW_.out (by kernel_rfl)) (fun _ _ _ h => h) (Or.inl ⟨by rfl, ?_⟩) hHeld ?_ ?_
  rotate_left; (rintro w' ⟨s0, s1, s2, s3⟩; go_simp; with_reducible rfl); rotate_left; (simp only [Act.put, zz1, zz2, zz3, i64_w, i32_w]; rfl)
  refine take_ (i := 12) (N := some 17) (v := ?_) (a' := ?_) #[τ,τ,τ,τ,τ,τ,τ,τ,τ,τ,φ,τ,τ,φ,φ,φ,φ,φ,φ,φ] rfl rfl (take_ofW HT_.out HW_.out (by kernel_rfl)) (fun _ _ _ h => h) (Or.inl ⟨by rfl, ?_⟩) hHeld ?_ ?_
  rotate_left; (rintro w' ⟨s0, s1, s2, s3⟩; go_simp; with_reducible rfl); rotate_left; (simp only [Act.put, zz1, zz2, zz3, i64_w, i32_w]; rfl)
  refine pure_ (i := 13) (N := some 18) (v := ?_) (a' := ?_) #[τ,τ,τ,τ,τ,τ,τ,τ,τ,τ,φ,τ,τ,τ,φ,φ,φ,φ,φ,φ] rfl rfl (any_of HT_.out (by kernel_rfl)) (fun _ _ _ h => h) (Or.inl ⟨by rfl, ?_⟩) ?_ ?_
  rotate_left; (intro w'; go_simp; with_reducible rfl); rotate_left; (simp only [Act.put, zz1, zz2, zz3, i64_w, i32_w]; rfl)
  refine take_ (i := 14) (N := some 19) (v := ?_) (a' := ?_) #[τ,τ,τ,τ,τ,τ,τ,τ,τ,τ,φ,τ,τ,τ,τ,φ,φ,φ,φ,φ] rfl rfl (take_ofW HT_.out HW_.out (by kernel_rfl)) (fun _ _ _ h => h) (Or.inl ⟨by rfl, ?_⟩) hHeld ?_ ?_
  rotate_left; (rintro w' ⟨s0, s1, s2, s3⟩; go_simp; with_reducible rfl); rotate_left; (simp only [Act.put, zz1, zz2, zz3, i64_w, i32_w]; rfl)
  refine one_ (i := 10) (N := some 15) #[τ,τ,τ,τ,τ,τ,τ,τ,τ,τ,τ,τ,τ,τ,τ,φ,φ,φ,φ,φ] rfl rfl (one_of HT_.out (by kernel_rfl)) (by decide) (fun K hK => ?_)
  refine goes_ Tryd.func19 (by kernel_rfl) rfl #[.slice (some ad) g.length c0, .int .i64 b] (by rfl) rfl rfl (by simp only [List.map_toArray, List.map_cons, List.map_nil]; rfl) ?_
  with_reducible refine (members_yes (some ad) c0 g b W1.drew (Kd.C_below HG1.out (below_drew (Below.refl _ _))) HGc0.out HMs.out).mono ?_
  rintro e W3 ⟨v, rfl, hr, hb3⟩
  obtain ⟨A6, c6, rfl, hc6, hr6⟩ := Kd.R_reads hr
  have r0 := pw_cell_below hb3 z0d
  have r1 := pw_cell_below hb3 y1d
  have r2 := pw_cell_below hb3 y2d
  have r3 := pw_cell_below hb3 w0d
  have HN3 := Aside0.mk ((HN.out.below (below_drew (Below.refl _ _))).below hb3)
  obtain ⟨ad6, e6, hm6⟩ := ints_at hr6 HKm.out
  subst e6
  rw [HMv.out] at hm6
  have n0 := HN3.out.c0
  have n1 := HN3.out.c1
  have n2 := HN3.out.c2
  have n3 := HN3.out.c3
  have n4 := HN3.out.c4
  have hkl : ((k : Int) < ((membersP g b).length : Int)) = True := eq_true (by have := HKm.out; omega)
  have HB3 := Aside0.mk (below_then (below_drew HB1.out) HB1.out.size hb3)
  have b3 := (blk_drew hbz)
  have b3 := blk_below b3 hb3
  clear hb3 hr6 hr
  obtain ⟨s0, f0, s1, f1, s2, f2, s3, f3, s4, f4, hfin⟩ := store5_ b3 (.int .i64 x.f0) (.int .i64 x.f1) (.string x.f2) (.slice Ak x.f3.length ck) (.slice Al x.f4.length cl)
  refine ⟨_, rfl, ?_⟩
  refine hK.out _ _ ⟨r0, r1, r2, r3⟩ (fun hHeld => ?_)
  clear hK K
  refine norm_ (a' := ?_) ?_ ?_
  rotate_left
  · show Act.put _ (some 15) _ = _
    simp only [Act.put, zz1, zz2, zz3, i64_w, i32_w]
    rfl
  refine pure_ (i := 15) (N := some 20) (v := ?_) (a' := ?_) #[τ,τ,τ,τ,τ,τ,τ,τ,τ,τ,τ,τ,τ,τ,τ,τ,φ,φ,φ,φ] rfl rfl (any_of HT_.out (by kernel_rfl)) (fun _ _ _ h => h) (Or.inl ⟨by rfl, ?_⟩) ?_ ?_
  rotate_left; (intro w'; go_simp; with_reducible rfl); rotate_left; (simp only [Act.put, zz1, zz2, zz3, i64_w, i32_w]; rfl)
  refine one_ (i := 16) (N := some 21) #[τ,τ,τ,τ,τ,τ,τ,τ,τ,τ,τ,τ,τ,τ,τ,τ,τ,φ,φ,φ] rfl rfl (one_of HT_.out (by kernel_rfl)) (by decide) (fun K hK => ?_)
  refine value_ (w1 := ?_) (v := ?_) (by rfl) rfl ?_ ?_
  rotate_left 2
  · go_simp
    constructor
    · rfl
    · rfl
  refine hK.out _ _ ⟨r0, r1, r2, r3⟩ (fun hHeld => ?_)
  clear hK K
  refine norm_ (a' := ?_) ?_ ?_
  rotate_left
  · show Act.put _ (some 21) _ = _
    simp only [Act.put, zz1, zz2, zz3, i64_w, i32_w]
    rfl
  refine pure_ (i := 17) (N := some 22) (v := ?_) (a' := ?_) #[τ,τ,τ,τ,τ,τ,τ,τ,τ,τ,τ,τ,τ,τ,τ,τ,τ,τ,φ,φ] rfl rfl (any_of HT_.out (by kernel_rfl)) (fun _ _ _ h => h) (Or.inl ⟨by rfl, ?_⟩) ?_ ?_
  rotate_left; (intro w'; go_simp; with_reducible rfl); rotate_left; (simp only [Act.put, zz1, zz2, zz3, i64_w, i32_w]; rfl)
  refine one_ (i := 18) (N := some 23) #[τ,τ,τ,τ,τ,τ,τ,τ,τ,τ,τ,τ,τ,τ,τ,τ,τ,τ,τ,φ] rfl rfl (one_of HT_.out (by kernel_rfl)) (by decide) (fun K hK => ?_)
  refine value_ (w1 := ?_) (v := ?_) (by rfl) rfl ?_ ?_
  rotate_left 2
  · go_simp
    constructor
    · rfl
    · rfl
  refine hK.out _ _ ⟨r0, r1, r2, r3⟩ (fun hHeld => ?_)
  clear hK K
  refine norm_ (a' := ?_) ?_ ?_
  rotate_left
  · show Act.put _ (some 23) _ = _
    simp only [Act.put, zz1, zz2, zz3, i64_w, i32_w]
    rfl
  refine last_ (i := 19) (N := none) #[τ,τ,τ,τ,τ,τ,τ,τ,τ,τ,τ,τ,τ,τ,τ,τ,τ,τ,τ,τ] rfl rfl (one_of HT_.out (by kernel_rfl)) (by decide) (fun K hK => ?_)
  refine skip_ (w1 := ?_) (by rfl) rfl ?_ ?_
  rotate_left
  · go_simp
    rfl
  refine hK.out _ _ ?_
  clear hK K
  refine done_ (done_of HT_.out (by kernel_rfl)) ?_
  go_wp2_with (fail)
  have q0 := (blk_cell hfin 0).trans rfl
  have q1 := (blk_cell hfin 1).trans rfl
  have q2 := (blk_cell hfin 2).trans rfl
  have q3 := (blk_cell hfin 3).trans rfl
  have q4 := (blk_cell hfin 4).trans rfl
  have hfb := store5_below (q := w.heap.size + 1) HB3.out (by omega) (.int .i64 x.f0) (.int .i64 x.f1) (.string x.f2) (.slice Ak x.f3.length ck) (.slice Al x.f4.length cl)
  clear s0 f0 s1 f1 s2 f2 s3 f3 s4 f4 n0 n1 n2 n3 n4 r0 r1 r2 r3
  refine bodyPost_ret (v := .agg #[.int .i64 x.f0, .int .i64 x.f1, .string x.f2, .slice Ak x.f3.length ck, .slice Al x.f4.length cl]) ?_ rfl ⟨rfl, hfb⟩
  unfold results
  rw [show Tryd.f65.results = #[ResultVar.cell 4 45] from rfl]
  go_simp
end Go.Proofs.YthkoockcfnbpiaaDoor.W1
