/- Forms in memory; the closure that compares them. -/
import Derived.Test.YtgppcpghpeenhaaDoorProg
import Derived.Test.YtgppcpghpeenhaaDoorWWords
import Derived.Test.YtgppcpghpeenhaaDoorWLast
import Derived.Test.YtgppcpghpeenhaaDoorCH
namespace Go.Proofs.YtgppcpghpeenhaaDoor.CI
open Go.RowKit Go.Proofs.YtgppcpghpeenhaaDoorW.PrintWords Go.Proofs.YtgppcpghpeenhaaDoorW.PrintLast Go.Proofs.YtgppcpghpeenhaaDoorW.PrintMore Go.Proofs.YtgppcpghpeenhaaDoor L1 G1 G2 N1 N2 N3 N4 N5 CA CB CC CD CE CF CG CH
set_option linter.unusedVariables false
set_option linter.unusedSimpArgs false
/-- A node whose texts and places are read at the first world. -/
def kN (w0 : World) : Kd GN where
  sz := 5
  E := []
  K := fun _ x cs => P.k33.K w0 x cs
  M := fun _ _ _ x cs => P.k33.K w0 x cs
  K_len := fun h => P.k33.K_len h
  K_one := fun h => P.k33.K_one h
  K_below := fun _ h => h
  K_of_M := fun h => h
  M_mono := fun _ h => h
  M_bound := fun h => h
  M_move := fun _ h => h
  M_lower := fun _ h => h
/-- Forms in memory. -/
def kF (w0 : World) : Kd Fm := Kd.iso (Kd.pair (kN w0) (Kd.pair (Kd.int .i64) (Kd.slice 31 KL))) (fun x : Fm => (x.node, x.rank, x.sets))
def zFm : Fm := ⟨P.z33, 0, []⟩
/-- One form in memory. -/
structure FmM (w0 w : World) (ad : Addr) (i : Nat) (x : Fm) (A1 : Option Addr) (c1 : Nat) (A2 : Option Addr) (c2 : Nat) (A3 : Option Addr) (c3 : Nat) : Prop where
  q0 : w.cell? (ad.add (i * 7)) = some (.int .i64 x.node.f0)
  q1 : w.cell? ⟨(ad.add (i * 7)).block, (ad.add (i * 7)).off + 1, none⟩ = some (.int .i64 x.node.f1)
  q2 : w.cell? ⟨(ad.add (i * 7)).block, (ad.add (i * 7)).off + 2, none⟩ = some (.string x.node.f2)
  q3 : w.cell? ⟨(ad.add (i * 7)).block, (ad.add (i * 7)).off + 3, none⟩ = some (.slice A1 x.node.f3.length c1)
  q4 : w.cell? ⟨(ad.add (i * 7)).block, (ad.add (i * 7)).off + 4, none⟩ = some (.slice A2 x.node.f4.length c2)
  q5 : w.cell? ⟨(ad.add (i * 7)).block, (ad.add (i * 7)).off + 5, none⟩ = some (.int .i64 x.rank)
  q6 : w.cell? ⟨(ad.add (i * 7)).block, (ad.add (i * 7)).off + 6, none⟩ = some (.slice A3 x.sets.length c3)
  kc : x.node.f3.length ≤ c1
  ks : Kd.C Kd.string w0 A1 x.node.f3.length x.node.f3
  lc : x.node.f4.length ≤ c2
  ls : Kd.C (Kd.int .i64) w0 A2 x.node.f4.length x.node.f4
  sc : x.sets.length ≤ c3
  ss : Kd.C KL w A3 x.sets.length x.sets
theorem form_at {w0 w : World} {A : Option Addr} {fs : List Fm} (h : Kd.C (kF w0) w A fs.length fs) {i : Nat} (hi : i < fs.length) : ∃ ad A1 c1 A2 c2 A3 c3, A = some ad ∧ FmM w0 w ad i (fs.getD i zFm) A1 c1 A2 c2 A3 c3 := by
  obtain ⟨ad, c, e, _, hK, hc0⟩ := Kd.C_get h zFm (i : Int) (by omega) (by omega)
  rw [Int.toNat_natCast] at hK hc0
  have hc : ∀ j u, c[j]? = some u → w.cell? (ad.add (i * 7 + j)) = some u := hc0
  obtain ⟨d0, d1, rfl, hN, e0, e1, rfl, h5, A3, c3, rfl, l6, g6⟩ := hK
  obtain ⟨A1, c1, A2, c2, rfl, l3, g3, l4, g4⟩ := P.k33_open hN
  cases h5
  exact ⟨ad, A1, c1, A2, c2, A3, c3, e, hc 0 _ rfl, by rw [← add_field _ _ 1 (by omega)]; exact hc 1 _ rfl, by rw [← add_field _ _ 2 (by omega)]; exact hc 2 _ rfl, by rw [← add_field _ _ 3 (by omega)]; exact hc 3 _ rfl, by rw [← add_field _ _ 4 (by omega)]; exact hc 4 _ rfl, by rw [← add_field _ _ 5 (by omega)]; exact hc 5 _ rfl, by rw [← add_field _ _ 6 (by omega)]; exact hc 6 _ rfl, l3, g3, l4, g4, l6, g6⟩
/-- Forms that may be compared. -/
structure FmOk (x : Fm) : Prop where
  kl : x.node.f3.length ≤ 1000000000
  sl : x.sets.length ≤ 1000000000
  se : ∀ l ∈ x.sets, l.length ≤ 1000000000
def ci1.T1 : Bool × List (List Nat × List Nat) := (true, [([], []), ([], []), ([0, 1], [0, 1]), ([2], [2]), ([], []), ([], []), ([4, 5], [4, 5]), ([6], [6]), ([3, 7], [3, 7]), ([8, 8, 0, 1, 2, 3, 4, 5, 6, 7, 8], [8])])
def ci1.B1 : List Nat := [0, 0, 3, 7, 0, 0, 48, 112, 255, 511]
theorem ci1.tab1 : rtab .any (opsOf Tryd.f30 1) = ci1.T1 := by kernel_rfl
theorem ci1.bits1 : waitsOk ci1.T1.2 ci1.B1 = true := by kernel_rfl
set_option maxHeartbeats 8000000 in
set_option maxRecDepth 100000 in
theorem rank1_of (fb : Nat) (ad : Addr) (n cf : Nat) (x y : Fm) (i j : Nat) (A1 A2 A3 B1 B2 B3 : Option Addr) (cA1 cA2 cA3 cB1 cB2 cB3 : Nat) (w0 w : World) (hz : w.cell? ⟨fb, 0, none⟩ = some (.slice (some ad) n cf)) (hm1 : FmM w0 w ad i x A1 cA1 A2 cA2 A3 cA3) (hm2 : FmM w0 w ad j y B1 cB1 B2 cB2 B3 cB3) (hB : Below w0.heap.size w0 w) (hi : i < n) (hj : j < n) (hx : FmOk x) (hy : FmOk y) :
    Calls Tryd.prog 30 #[.int .i64 (i : Int), .int .i64 (j : Int), .pointer (some ⟨fb, 0, none⟩)] w fun e w' => e = .returned (.int .i64 (cmpF x y)) ∧ Below w.heap.size w w' := by
  have HCmp := Aside0.mk (compare_calls x y A1 A2 A3 B1 B2 B3 cA1 x.node.f4.length cA2 cA3 cB1 y.node.f4.length cB2 cB3 w.drew ⟨hm1.kc, Kd.C_below hm1.ks (below_drew hB), hm1.sc, Kd.C_below hm1.ss (below_drew (Below.refl _ _)), hx.kl, hx.sl, hx.se⟩ ⟨hm2.kc, Kd.C_below hm2.ks (below_drew hB), hm2.sc, Kd.C_below hm2.ss (below_drew (Below.refl _ _)), hy.kl, hy.sl, hy.se⟩)
  obtain ⟨p0, p1, p2, p3, p4, p5, p6⟩ : (w.cell? (ad.add (i * 7)) = some (.int .i64 x.node.f0)) ∧ _ ∧ _ ∧ _ ∧ _ ∧ _ ∧ _ := ⟨hm1.q0, hm1.q1, hm1.q2, hm1.q3, hm1.q4, hm1.q5, hm1.q6⟩
  obtain ⟨r0, r1, r2, r3, r4, r5, r6⟩ : (w.cell? (ad.add (j * 7)) = some (.int .i64 y.node.f0)) ∧ _ ∧ _ ∧ _ ∧ _ ∧ _ ∧ _ := ⟨hm2.q0, hm2.q1, hm2.q2, hm2.q3, hm2.q4, hm2.q5, hm2.q6⟩
  have z0 := hz
  have e1 : ((i : Int) < (n : Int)) = True := eq_true (by omega)
  have e2 : ((j : Int) < (n : Int)) = True := eq_true (by omega)
  clear hz hB hx hy hm1 hm2
  go_enter Tryd.func30, Tryd.ntmps30
  go_wp2_with (fail)
  refine start_ (n := 10) (S := fun w' => w'.cell? ⟨fb, 0, none⟩ = some (.slice (some ad) n cf) ∧ w'.cell? (ad.add (i * 7)) = some (.int .i64 x.node.f0) ∧ w'.cell? ⟨(ad.add (i * 7)).block, (ad.add (i * 7)).off + 1, none⟩ = some (.int .i64 x.node.f1) ∧ w'.cell? ⟨(ad.add (i * 7)).block, (ad.add (i * 7)).off + 2, none⟩ = some (.string x.node.f2) ∧ w'.cell? ⟨(ad.add (i * 7)).block, (ad.add (i * 7)).off + 3, none⟩ = some (.slice A1 x.node.f3.length cA1) ∧ w'.cell? ⟨(ad.add (i * 7)).block, (ad.add (i * 7)).off + 4, none⟩ = some (.slice A2 x.node.f4.length cA2) ∧ w'.cell? ⟨(ad.add (i * 7)).block, (ad.add (i * 7)).off + 5, none⟩ = some (.int .i64 x.rank) ∧ w'.cell? ⟨(ad.add (i * 7)).block, (ad.add (i * 7)).off + 6, none⟩ = some (.slice A3 x.sets.length cA3) ∧ w'.cell? (ad.add (j * 7)) = some (.int .i64 y.node.f0) ∧ w'.cell? ⟨(ad.add (j * 7)).block, (ad.add (j * 7)).off + 1, none⟩ = some (.int .i64 y.node.f1) ∧ w'.cell? ⟨(ad.add (j * 7)).block, (ad.add (j * 7)).off + 2, none⟩ = some (.string y.node.f2) ∧ w'.cell? ⟨(ad.add (j * 7)).block, (ad.add (j * 7)).off + 3, none⟩ = some (.slice B1 y.node.f3.length cB1) ∧ w'.cell? ⟨(ad.add (j * 7)).block, (ad.add (j * 7)).off + 4, none⟩ = some (.slice B2 y.node.f4.length cB2) ∧ w'.cell? ⟨(ad.add (j * 7)).block, (ad.add (j * 7)).off + 5, none⟩ = some (.int .i64 y.rank) ∧ w'.cell? ⟨(ad.add (j * 7)).block, (ad.add (j * 7)).off + 6, none⟩ = some (.slice B3 y.sets.length cB3)) (ds := []) #[φ,φ,φ,φ,φ,φ,φ,φ,φ,φ] (by kernel_rfl) rfl rfl ⟨drew_cell z0, drew_cell p0, drew_cell p1, drew_cell p2, drew_cell p3, drew_cell p4, drew_cell p5, drew_cell p6, drew_cell r0, drew_cell r1, drew_cell r2, drew_cell r3, drew_cell r4, drew_cell r5, drew_cell r6⟩ (fun hHeld => ?_)
  refine with_tabW ci1.tab1 ci1.bits1 (fun HT_ HW_ => ?_)
  refine pure_ (i := 1) (N := some 7) (v := ?_) (a' := ?_) #[φ,τ,φ,φ,φ,φ,φ,φ,φ,φ] rfl rfl (any_of HT_.out (by kernel_rfl)) (fun _ _ _ h => h) (Or.inl ⟨by rfl, ?_⟩) ?_ ?_
  rotate_left; (intro w'; go_simp; with_reducible rfl); rotate_left; (simp only [Act.put, zz1, zz2, zz3, i64_w, i32_w]; rfl)
  refine pure_ (i := 5) (N := some 11) (v := ?_) (a' := ?_) #[φ,τ,φ,φ,φ,τ,φ,φ,φ,φ] rfl rfl (any_of HT_.out (by kernel_rfl)) (fun _ _ _ h => h) (Or.inl ⟨by rfl, ?_⟩) ?_ ?_
  rotate_left; (intro w'; go_simp; with_reducible rfl); rotate_left; (simp only [Act.put, zz1, zz2, zz3, i64_w, i32_w]; rfl)
  refine take_ (i := 0) (N := some 6) (v := ?_) (a' := ?_) #[τ,τ,φ,φ,φ,τ,φ,φ,φ,φ] rfl rfl (take_ofW HT_.out HW_.out (by kernel_rfl)) (fun _ _ _ h => h) (Or.inl ⟨by rfl, ?_⟩) hHeld ?_ ?_
  rotate_left; (rintro w' ⟨s0, s1, s2, s3, s4, s5, s6, s7, s8, s9, s10, s11, s12, s13, s14⟩; go_simp; with_reducible rfl); rotate_left; (simp only [Act.put, zz1, zz2, zz3, i64_w, i32_w]; rfl)
  refine pure_ (i := 2) (N := some 8) (v := ?_) (a' := ?_) #[τ,τ,τ,φ,φ,τ,φ,φ,φ,φ] rfl rfl (any_of HT_.out (by kernel_rfl)) (fun _ _ _ h => h) (Or.inl ⟨by rfl, ?_⟩) ?_ ?_
  rotate_left; (intro w'; go_simp; with_reducible rfl); rotate_left; (simp only [Act.put, zz1, zz2, zz3, i64_w, i32_w]; rfl)
  refine take_ (i := 3) (N := some 9) (v := ?_) (a' := ?_) #[τ,τ,τ,τ,φ,τ,φ,φ,φ,φ] rfl rfl (take_ofW HT_.out HW_.out (by kernel_rfl)) (fun _ _ _ h => h) (Or.inl ⟨by rfl, ?_⟩) hHeld ?_ ?_
  rotate_left; (rintro w' ⟨s0, s1, s2, s3, s4, s5, s6, s7, s8, s9, s10, s11, s12, s13, s14⟩; go_simp; with_reducible rfl); rotate_left; (simp only [Act.put, zz1, zz2, zz3, i64_w, i32_w]; rfl)
  refine take_ (i := 4) (N := some 10) (v := ?_) (a' := ?_) #[τ,τ,τ,τ,τ,τ,φ,φ,φ,φ] rfl rfl (take_ofW HT_.out HW_.out (by kernel_rfl)) (fun _ _ _ h => h) (Or.inl ⟨by rfl, ?_⟩) hHeld ?_ ?_
  rotate_left; (rintro w' ⟨s0, s1, s2, s3, s4, s5, s6, s7, s8, s9, s10, s11, s12, s13, s14⟩; go_simp; with_reducible rfl); rotate_left; (simp only [Act.put, zz1, zz2, zz3, i64_w, i32_w]; rfl)
  refine pure_ (i := 6) (N := some 12) (v := ?_) (a' := ?_) #[τ,τ,τ,τ,τ,τ,τ,φ,φ,φ] rfl rfl (any_of HT_.out (by kernel_rfl)) (fun _ _ _ h => h) (Or.inl ⟨by rfl, ?_⟩) ?_ ?_
  rotate_left; (intro w'; go_simp; with_reducible rfl); rotate_left; (simp only [Act.put, zz1, zz2, zz3, i64_w, i32_w]; rfl)
  refine take_ (i := 7) (N := some 13) (v := ?_) (a' := ?_) #[τ,τ,τ,τ,τ,τ,τ,τ,φ,φ] rfl rfl (take_ofW HT_.out HW_.out (by kernel_rfl)) (fun _ _ _ h => h) (Or.inl ⟨by rfl, ?_⟩) hHeld ?_ ?_
  rotate_left; (rintro w' ⟨s0, s1, s2, s3, s4, s5, s6, s7, s8, s9, s10, s11, s12, s13, s14⟩; go_simp; with_reducible rfl); rotate_left; (simp only [Act.put, zz1, zz2, zz3, i64_w, i32_w]; rfl)
  refine one_ (i := 8) (N := some 14) #[τ,τ,τ,τ,τ,τ,τ,τ,τ,φ] rfl rfl (one_of HT_.out (by kernel_rfl)) (by decide) (fun K hK => ?_)
  refine goes_ Tryd.func31 (by kernel_rfl) rfl #[.agg #[.int .i64 x.node.f0, .int .i64 x.node.f1, .string x.node.f2, .slice A1 x.node.f3.length cA1, .slice A2 x.node.f4.length cA2, .int .i64 x.rank, .slice A3 x.sets.length cA3], .agg #[.int .i64 y.node.f0, .int .i64 y.node.f1, .string y.node.f2, .slice B1 y.node.f3.length cB1, .slice B2 y.node.f4.length cB2, .int .i64 y.rank, .slice B3 y.sets.length cB3]] (by rfl) rfl rfl (by simp only [List.map_toArray, List.map_cons, List.map_nil]; rfl) ?_
  with_reducible refine (HCmp.out).mono ?_
  rintro e W3 ⟨rfl, hb3⟩
  have s0 := pw_cell_below hb3 (drew_cell z0)
  have s1 := pw_cell_below hb3 (drew_cell p0)
  have s2 := pw_cell_below hb3 (drew_cell p1)
  have s3 := pw_cell_below hb3 (drew_cell p2)
  have s4 := pw_cell_below hb3 (drew_cell p3)
  have s5 := pw_cell_below hb3 (drew_cell p4)
  have s6 := pw_cell_below hb3 (drew_cell p5)
  have s7 := pw_cell_below hb3 (drew_cell p6)
  have s8 := pw_cell_below hb3 (drew_cell r0)
  have s9 := pw_cell_below hb3 (drew_cell r1)
  have s10 := pw_cell_below hb3 (drew_cell r2)
  have s11 := pw_cell_below hb3 (drew_cell r3)
  have s12 := pw_cell_below hb3 (drew_cell r4)
  have s13 := pw_cell_below hb3 (drew_cell r5)
  have s14 := pw_cell_below hb3 (drew_cell r6)
  have HB3 := Aside0.mk hb3
  clear hb3
  refine ⟨_, rfl, ?_⟩
  refine hK.out _ _ ⟨s0, s1, s2, s3, s4, s5, s6, s7, s8, s9, s10, s11, s12, s13, s14⟩ (fun hHeld => ?_)
  clear hK K
  refine norm_ (a' := ?_) ?_ ?_
  rotate_left
  · show Act.put _ (some 14) _ = _
    simp only [Act.put, zz1, zz2, zz3, i64_w, i32_w]
    rfl
  refine pure_ (i := 9) (N := some 5) (v := ?_) (a' := ?_) #[τ,τ,τ,τ,τ,τ,τ,τ,τ,τ] rfl rfl (any_of HT_.out (by kernel_rfl)) (fun _ _ _ h => h) (Or.inl ⟨by rfl, ?_⟩) ?_ ?_
  rotate_left; (intro w'; go_simp; with_reducible rfl); rotate_left; (simp only [Act.put, zz1, zz2, zz3, i64_w, i32_w]; rfl)
  refine done_ (done_of HT_.out (by kernel_rfl)) ?_
  clear hHeld HT_ HW_
  go_wp2_with (fail)
  go_ret
  exact ⟨rfl, below_then (below_drew (Below.refl _ _)) (Nat.le_refl _) HB3.out⟩
theorem rank1_calls (fb : Nat) (A0 : Option Addr) (cf : Nat) (fs : List Fm) (i j : Nat) (w0 w : World) (hz : w.cell? ⟨fb, 0, none⟩ = some (.slice A0 fs.length cf)) (hf : Kd.C (kF w0) w A0 fs.length fs) (hB : Below w0.heap.size w0 w) (hi : i < fs.length) (hj : j < fs.length) (hx : FmOk (fs.getD i zFm)) (hy : FmOk (fs.getD j zFm)) :
    Calls Tryd.prog 30 #[.int .i64 (i : Int), .int .i64 (j : Int), .pointer (some ⟨fb, 0, none⟩)] w fun e w' => e = .returned (.int .i64 (cmpF (fs.getD i zFm) (fs.getD j zFm))) ∧ Below w.heap.size w w' := by
  obtain ⟨ad, A1, cA1, A2, cA2, A3, cA3, eA, hm1⟩ := form_at hf hi
  obtain ⟨ad', B1, cB1, B2, cB2, B3, cB3, eB, hm2⟩ := form_at hf hj
  subst eA
  cases eB
  exact rank1_of fb ad fs.length cf _ _ i j A1 A2 A3 B1 B2 B3 cA1 cA2 cA3 cB1 cB2 cB3 w0 w hz hm1 hm2 hB hi hj hx hy
end Go.Proofs.YtgppcpghpeenhaaDoor.CI
