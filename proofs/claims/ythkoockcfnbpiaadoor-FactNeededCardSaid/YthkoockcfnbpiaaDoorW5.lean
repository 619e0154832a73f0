/- Facts: plain. -/
import Derived.Test.YthkoockcfnbpiaaDoorProg
import Derived.Test.YthkoockcfnbpiaaDoorWWords
import Derived.Test.YthkoockcfnbpiaaDoorWLast
import Derived.Test.YthkoockcfnbpiaaDoorW4
namespace Go.Proofs.YthkoockcfnbpiaaDoor.W5
open Go.RowKit Go.Proofs.YthkoockcfnbpiaaDoorW.PrintWords Go.Proofs.YthkoockcfnbpiaaDoorW.PrintLast Go.Proofs.YthkoockcfnbpiaaDoorW.PrintMore Go.Proofs.YthkoockcfnbpiaaDoor L1 L4 G1 G2 S0 S1 S2 S3 S4 S5 S8 F1 W1 W2 W3 F2 W4
set_option linter.unusedVariables false
set_option linter.unusedSimpArgs false
def pl1.T1 : Bool × List (List Nat × List Nat) := (true, [([], []), ([0], [0]), ([1], [1]), ([2], [2]), ([], []), ([4], [4]), ([3, 5], [3, 5]), ([6], [6]), ([], []), ([], []), ([8, 9], [8, 9]), ([], []), ([], []), ([11, 7, 10, 0, 1, 2, 3, 4, 5, 6, 7, 11, 12], [7, 11]), ([12, 10, 13, 0, 1, 2, 3, 4, 5, 6, 7, 8, 9, 10, 11, 12, 13], [10, 12])])
def pl1.B1 : List Nat := [0, 1, 3, 7, 0, 16, 63, 127, 0, 0, 768, 0, 0, 8191, 16383]
theorem pl1.tab1 : rtab .any (opsOf Tryd.f75 1) = pl1.T1 := by kernel_rfl
theorem pl1.bits1 : waitsOk pl1.T1.2 pl1.B1 = true := by kernel_rfl
def pl5.T5 : Bool × List (List Nat × List Nat) := (true, [([], []), ([0], [0]), ([1], [1]), ([2], [2]), ([], []), ([4], [4]), ([5], [5]), ([6], [6]), ([3, 7], [3, 7]), ([8], [8]), ([], []), ([9, 10, 0, 1, 2, 3, 4, 5, 6, 7, 8, 9, 10], [9]), ([11, 0, 1, 2, 3, 4, 5, 6, 7, 8, 9, 10, 11], [])])
def pl5.B5 : List Nat := [0, 1, 3, 7, 0, 16, 48, 112, 255, 511, 0, 2047, 4095]
theorem pl5.tab5 : rtab .any (opsOf Tryd.f75 5) = pl5.T5 := by kernel_rfl
theorem pl5.bits5 : waitsOk pl5.T5.2 pl5.B5 = true := by kernel_rfl
def pl12.T12 : Bool × List (List Nat × List Nat) := (true, [([], []), ([], []), ([1], [1]), ([], []), ([2, 3], [2, 3]), ([4], [4]), ([], []), ([6], [6]), ([], []), ([7, 8], [7, 8]), ([9], [9]), ([5, 10], [5, 10]), ([11], [11]), ([0, 12], [0, 12]), ([13, 13, 0, 1, 2, 3, 4, 5, 6, 7, 8, 9, 10, 11, 12, 13], [0, 13])])
def pl12.B12 : List Nat := [0, 0, 2, 0, 14, 30, 0, 64, 0, 448, 960, 2046, 4094, 8191, 16383]
theorem pl12.tab12 : rtab .any (opsOf Tryd.f75 12) = pl12.T12 := by kernel_rfl
theorem pl12.bits12 : waitsOk pl12.T12.2 pl12.B12 = true := by kernel_rfl
set_option maxHeartbeats 4000000 in
set_option maxRecDepth 100000 in
theorem plain_yes (xb : Nat) (A0 : Option Addr) (c0 : Nat) (g : List GN) (a : Nat) (b : Int) (ws : List Int) (Aw : Option Addr) (cw : Nat) (w : World) (hz : w.cell? ⟨xb, 0, none⟩ = some (.slice A0 g.length c0)) (hg : Kd.C P.k45 w A0 g.length g) (hgc : g.length ≤ c0) (hw : Kd.C (Kd.int .i64) w Aw ws.length ws) (hwc : ws.length ≤ cw) (ha : a < g.length) (hc : checkP g = 0) (k m : Nat) (hw1 : 0 < ws.length) (hk : ws.getD 0 0 = (k : Int)) (hkm : k < (membersP g b).length) (hmv : (membersP g b).getD k 0 = (m : Int)) (hm : m < g.length) (hrs : RiseP (nd g a).f3) :
    Calls Tryd.prog 75 #[.pointer (some ⟨xb, 0, none⟩), .agg #[.int .i64 a, .int .i64 b, .slice Aw ws.length cw]] w (RuleP true (plainP (nd g a) (nd g m)).1 (plainP (nd g a) (nd g m)).2 w) := by
  have HOx := Aside0.mk ((check_ok hc).2 _ (nd_mem (g := g) (k := (a : Int)) (by omega) (by omega)))
  have HOt := Aside0.mk ((check_ok hc).2 _ (nd_mem (g := g) (k := (m : Int)) (by omega) (by omega)))
  obtain ⟨ad, Bk, dk, Bl, dl, eA, hT⟩ := node_at hg hm
  have HCH := Aside0.mk (show ∀ (W : World), Below w.heap.size w W → Calls Tryd.prog 65 #[.pointer (some ⟨xb, 0, none⟩), .agg #[.int .i64 a, .int .i64 b, .slice Aw ws.length cw]] W fun e w' => e = .returned (.agg #[.int .i64 (nd g m).f0, .int .i64 (nd g m).f1, .string (nd g m).f2, .slice Bk (nd g m).f3.length dk, .slice Bl (nd g m).f4.length dl]) ∧ Below W.heap.size W w' from fun W hW => by
    subst eA
    exact chosen_yes xb ad c0 g a b ws Aw cw W (pw_cell_below hW hz) (Kd.C_below hg hW) hgc (Kd.C_below hw hW) hc k m hw1 hk hkm hmv hm Bk dk Bl dl (hT.below hW))
  have HT := Aside0.mk (show NdV w (nd g m) Bk dk Bl dl from ⟨hT.kc, hT.ks, hT.lc, hT.ls⟩)
  clear hc hw1 hk hkm hmv eA hT ad
  obtain ⟨ad, Ak, ck, Al, cl, eA, hN⟩ := node_at hg ha
  subst eA
  have HG0 := Aside0.mk hg
  have HGc0 := Aside0.mk hgc
  obtain ⟨x, hx⟩ : ∃ x, x = nd g a := ⟨_, rfl⟩
  rw [← hx] at hN
  have HX := Aside0.mk hx
  have e1 : ((a : Int) < (g.length : Int)) = True := eq_true (by omega)
  have HA := Aside0.mk ha
  clear hx ha hg hgc
  have HXV := Aside0.mk (show NdV w x Ak ck Al cl from ⟨hN.kc, hN.ks, hN.lc, hN.ls⟩)
  have hbk := heap_alloc_new w (.cells #[.int .i64 a, .int .i64 b, .slice Aw ws.length cw] 37)
  have y0 : (w.alloc (.cells #[.int .i64 a, .int .i64 b, .slice Aw ws.length cw] 37)).cell? ⟨w.heap.size, 0, none⟩ = some (.int .i64 a) := (blk_cell hbk 0).trans rfl
  have y1 : (w.alloc (.cells #[.int .i64 a, .int .i64 b, .slice Aw ws.length cw] 37)).cell? ⟨w.heap.size, 1, none⟩ = some (.int .i64 b) := (blk_cell hbk 1).trans rfl
  have y2 : (w.alloc (.cells #[.int .i64 a, .int .i64 b, .slice Aw ws.length cw] 37)).cell? ⟨w.heap.size, 2, none⟩ = some (.slice Aw ws.length cw) := (blk_cell hbk 2).trans rfl
  have HB1 := Aside0.mk (below_alloc (Below.refl w.heap.size w) (.cells #[.int .i64 a, .int .i64 b, .slice Aw ws.length cw] 37))
  clear hbk
  have HN := Aside0.mk (hN.below HB1.out)
  have z0 := pw_cell_below HB1.out hz
  have k0 := HN.out.c0
  have k4 := HN.out.c4
  have HW := Aside0.mk (Kd.C_below hw HB1.out)
  clear hN hw hz
  have HRs := Aside0.mk (show RiseP x.f3 by rw [HX.out]; exact hrs)
  rw [← HX.out] at HOx ⊢
  obtain ⟨t, ht⟩ : ∃ t, t = nd g m := ⟨_, rfl⟩
  rw [← ht] at HCH HT HOt ⊢
  clear ht hm hrs
  go_enter Tryd.func75, Tryd.ntmps75
  go_wp2_with (fail)
  generalize w.alloc (.cells #[.int .i64 a, .int .i64 b, .slice Aw ws.length cw] 37) = W1 at y0 y1 y2 HB1 z0 k0 k4 HN HW ⊢
  have HBW := Aside0.mk (below_drew HB1.out)
  have HBd := Aside0.mk (Below.refl W1.drew.heap.size W1.drew)
  have z0d := drew_cell z0
  have y0d := drew_cell y0
  have y1d := drew_cell y1
  have y2d := drew_cell y2
  have k0d := drew_cell HN.out.c0
  have k1d := drew_cell HN.out.c1
  have k2d := drew_cell HN.out.c2
  have k3d := drew_cell HN.out.c3
  have k4d := drew_cell HN.out.c4
  clear z0 y0 y1 y2 k0 k4
  refine start_ (n := 15) (S := fun w' => w'.cell? ⟨xb, 0, none⟩ = some (.slice (some ad) g.length c0) ∧ w'.cell? ⟨w.heap.size, 0, none⟩ = some (.int .i64 a) ∧ w'.cell? ⟨w.heap.size, 1, none⟩ = some (.int .i64 b) ∧ w'.cell? ⟨w.heap.size, 2, none⟩ = some (.slice Aw ws.length cw) ∧ w'.cell? (ad.add (a * 5)) = some (.int .i64 x.f0) ∧ w'.cell? ⟨(ad.add (a * 5)).block, (ad.add (a * 5)).off + 1, none⟩ = some (.int .i64 x.f1) ∧ w'.cell? ⟨(ad.add (a * 5)).block, (ad.add (a * 5)).off + 2, none⟩ = some (.string x.f2) ∧ w'.cell? ⟨(ad.add (a * 5)).block, (ad.add (a * 5)).off + 3, none⟩ = some (.slice Ak x.f3.length ck) ∧ w'.cell? ⟨(ad.add (a * 5)).block, (ad.add (a * 5)).off + 4, none⟩ = some (.slice Al x.f4.length cl)) (ds := [13, 14]) #[φ,φ,φ,φ,φ,φ,φ,φ,φ,φ,φ,φ,φ,φ,φ] (by kernel_rfl) rfl rfl ⟨z0d, y0d, y1d, y2d, k0d, k1d, k2d, k3d, k4d⟩ (fun hHeld => ?_)
  generalize W1.drew = W2 at HBW HBd z0d y0d y1d y2d k0d k1d k2d k3d k4d hHeld ⊢
  refine with_tabW pl1.tab1 pl1.bits1 (fun HT_ HW_ => ?_)
  refine pure_ (i := 0) (N := some 13) (v := ?_) (a' := ?_) #[τ,φ,φ,φ,φ,φ,φ,φ,φ,φ,φ,φ,φ,φ,φ] rfl rfl (any_of HT_.out (by kernel_rfl)) (fun _ _ _ h => h) (Or.inl ⟨by rfl, ?_⟩) ?_ ?_
  rotate_left; (intro w'; go_simp; with_reducible rfl); rotate_left; (simp only [Act.put, zz1, zz2, zz3, i64_w, i32_w]; rfl)
  refine pure_ (i := 1) (N := some 14) (v := ?_) (a' := ?_) #[τ,τ,φ,φ,φ,φ,φ,φ,φ,φ,φ,φ,φ,φ,φ] rfl rfl (any_of HT_.out (by kernel_rfl)) (fun _ _ _ h => h) (Or.inl ⟨by rfl, ?_⟩) ?_ ?_
  rotate_left; (intro w'; go_simp; with_reducible rfl); rotate_left; (simp only [Act.put, zz1, zz2, zz3, i64_w, i32_w]; rfl)
  refine pure_ (i := 2) (N := some 15) (v := ?_) (a' := ?_) #[τ,τ,τ,φ,φ,φ,φ,φ,φ,φ,φ,φ,φ,φ,φ] rfl rfl (any_of HT_.out (by kernel_rfl)) (fun _ _ _ h => h) (Or.inl ⟨by rfl, ?_⟩) ?_ ?_
  rotate_left; (intro w'; go_simp; with_reducible rfl); rotate_left; (simp only [Act.put, zz1, zz2, zz3, i64_w, i32_w]; rfl)
  refine pure_ (i := 4) (N := some 17) (v := ?_) (a' := ?_) #[τ,τ,τ,φ,τ,φ,φ,φ,φ,φ,φ,φ,φ,φ,φ] rfl rfl (any_of HT_.out (by kernel_rfl)) (fun _ _ _ h => h) (Or.inl ⟨by rfl, ?_⟩) ?_ ?_
  rotate_left; (intro w'; go_simp; with_reducible rfl); rotate_left; (simp only [Act.put, zz1, zz2, zz3, i64_w, i32_w]; rfl)
  refine pure_ (i := 8) (N := some 21) (v := ?_) (a' := ?_) #[τ,τ,τ,φ,τ,φ,φ,φ,τ,φ,φ,φ,φ,φ,φ] rfl rfl (any_of HT_.out (by kernel_rfl)) (fun _ _ _ h => h) (Or.inl ⟨by rfl, ?_⟩) ?_ ?_
  rotate_left; (intro w'; go_simp; with_reducible rfl); rotate_left; (simp only [Act.put, zz1, zz2, zz3, i64_w, i32_w]; rfl)
  refine take_ (i := 3) (N := some 16) (v := ?_) (a' := ?_) #[τ,τ,τ,τ,τ,φ,φ,φ,τ,φ,φ,φ,φ,φ,φ] rfl rfl (take_ofW HT_.out HW_.out (by kernel_rfl)) (fun _ _ _ h => h) (Or.inl ⟨by rfl, ?_⟩) hHeld ?_ ?_
  rotate_left; (rintro w' ⟨s0, s1, s2, s3, s4, s5, s6, s7, s8⟩; go_simp; with_reducible rfl); rotate_left; (simp only [Act.put, zz1, zz2, zz3, i64_w, i32_w]; rfl)
  refine take_ (i := 5) (N := some 18) (v := ?_) (a' := ?_) #[τ,τ,τ,τ,τ,τ,φ,φ,τ,φ,φ,φ,φ,φ,φ] rfl rfl (take_ofW HT_.out HW_.out (by kernel_rfl)) (fun _ _ _ h => h) (Or.inl ⟨by rfl, ?_⟩) hHeld ?_ ?_
  rotate_left; (rintro w' ⟨s0, s1, s2, s3, s4, s5, s6, s7, s8⟩; go_simp; with_reducible rfl); rotate_left; (simp only [Act.put, zz1, zz2, zz3, i64_w, i32_w]; rfl)
  refine pure_ (i := 6) (N := some 19) (v := ?_) (a' := ?_) #[τ,τ,τ,τ,τ,τ,τ,φ,τ,φ,φ,φ,φ,φ,φ] rfl rfl (any_of HT_.out (by kernel_rfl)) (fun _ _ _ h => h) (Or.inl ⟨by rfl, ?_⟩) ?_ ?_
  rotate_left; (intro w'; go_simp; with_reducible rfl); rotate_left; (simp only [Act.put, zz1, zz2, zz3, i64_w, i32_w]; rfl)
  refine take_ (i := 7) (N := some 20) (v := ?_) (a' := ?_) #[τ,τ,τ,τ,τ,τ,τ,τ,τ,φ,φ,φ,φ,φ,φ] rfl rfl (take_ofW HT_.out HW_.out (by kernel_rfl)) (fun _ _ _ h => h) (Or.inl ⟨by rfl, ?_⟩) hHeld ?_ ?_
  rotate_left; (rintro w' ⟨s0, s1, s2, s3, s4, s5, s6, s7, s8⟩; go_simp; with_reducible rfl); rotate_left; (simp only [Act.put, zz1, zz2, zz3, i64_w, i32_w]; rfl)
  refine take_ (i := 9) (N := some 22) (v := ?_) (a' := ?_) #[τ,τ,τ,τ,τ,τ,τ,τ,τ,τ,φ,φ,φ,φ,φ] rfl rfl (take_ofW HT_.out HW_.out (by kernel_rfl)) (fun _ _ _ h => h) (Or.inl ⟨by rfl, ?_⟩) hHeld ?_ ?_
  rotate_left; (rintro w' ⟨s0, s1, s2, s3, s4, s5, s6, s7, s8⟩; go_simp; with_reducible rfl); rotate_left; (simp only [Act.put, zz1, zz2, zz3, i64_w, i32_w]; rfl)
  refine join_ (σ := Nat × Nat) 2 #[τ,τ,τ,τ,τ,τ,τ,τ,τ,τ,τ,τ,τ,φ,φ] (fun s => [(23, .agg #[.int .i64 t.f0, .int .i64 t.f1, .string t.f2, .slice Bk t.f3.length dk, .slice Bl t.f4.length dl]), (7, .pointer (some ⟨s.1, 0, none⟩)), (8, .pointer (some ⟨s.2, 0, none⟩))]) (fun s w' => Below W2.heap.size W2 w' ∧ w'.heap[s.1]? = some (.cells #[.int .i64 0, .int .i64 0, .string ⟨#[]⟩, .slice none 0 0, .slice none 0 0] 45 (0, 0)) ∧ w'.heap[s.2]? = some (.cells #[.int .i64 0, .int .i64 0, .string ⟨#[]⟩, .slice none 0 0, .slice none 0 0] 45 (0, 0)) ∧ s.1 ≠ s.2 ∧ W2.heap.size ≤ s.1 ∧ W2.heap.size ≤ s.2) ?_ ?_
  rotate_left
  · intro hCont
    refine three_ (i := 10) (j := 11) (k := 12) (Ni := some 23) (Nj := some 7) (Nk := some 8) #[τ,τ,τ,τ,τ,τ,τ,τ,τ,τ,τ,φ,φ,φ,φ] #[τ,τ,τ,τ,τ,τ,τ,τ,τ,τ,φ,τ,φ,φ,φ] #[τ,τ,τ,τ,τ,τ,τ,τ,τ,τ,φ,φ,τ,φ,φ] rfl rfl rfl rfl rfl rfl (three_of HT_.out (by kernel_rfl)) (by decide) (by decide) (by decide) (fun K hK => ?_) (fun K hK => ?_) (fun K hK => ?_)
    · skip
      refine goes_ Tryd.func65 (by kernel_rfl) rfl #[.pointer (some ⟨xb, 0, none⟩), .agg #[.int .i64 a, .int .i64 b, .slice Aw ws.length cw]] (by rfl) rfl rfl (by simp only [List.map_toArray, List.map_cons, List.map_nil]; rfl) ?_
      with_reducible refine (HCH.out W2 (HBW.out.trans (HBd.out.mono HBW.out.size))).mono ?_
      rintro e w3 ⟨rfl, hb3⟩
      have HBd := Aside0.mk (below_then HBd.out HBd.out.size hb3)
      clear hb3
      refine ⟨_, rfl, ?_⟩
      refine hK.out _ _ ⟨pw_cell_below HBd.out z0d, pw_cell_below HBd.out y0d, pw_cell_below HBd.out y1d, pw_cell_below HBd.out y2d, pw_cell_below HBd.out k0d, pw_cell_below HBd.out k1d, pw_cell_below HBd.out k2d, pw_cell_below HBd.out k3d, pw_cell_below HBd.out k4d⟩ (fun hHeld => ?_)
      clear hK K
      refine norm_ (a' := ?_) ?_ ?_
      rotate_left
      · show Act.put _ (some 23) _ = _
        simp only [Act.put, zz1, zz2, zz3, i64_w, i32_w]
        rfl
      refine two_ (i := 11) (j := 12) (Ni := some 7) (Nj := some 8) #[τ,τ,τ,τ,τ,τ,τ,τ,τ,τ,τ,τ,φ,φ,φ] #[τ,τ,τ,τ,τ,τ,τ,τ,τ,τ,τ,φ,τ,φ,φ] rfl rfl rfl rfl (two_of HT_.out (by kernel_rfl)) (by decide) (by decide) (fun K hK => ?_) (fun K hK => ?_)
      · skip
        refine value_ (w1 := ?_) (v := ?_) (by rfl) rfl ?_ ?_
        rotate_left 2
        · go_simp
          constructor
          · rfl
          · rfl
        have HS0 := HBd.out.size
        try rw [World.size_alloc] at HS0
        have HG7 := Aside0.mk HS0
        clear HS0
        have H7 := heap_alloc_new w3 (.cells #[.int .i64 0, .int .i64 0, .string ⟨#[]⟩, .slice none 0 0, .slice none 0 0] 45)
        try rw [World.size_alloc] at H7
        have H7 := Aside0.mk H7
        have HBd := Aside0.mk (below_alloc HBd.out (.cells #[.int .i64 0, .int .i64 0, .string ⟨#[]⟩, .slice none 0 0, .slice none 0 0] 45))
        refine hK.out _ _ ⟨pw_cell_below HBd.out z0d, pw_cell_below HBd.out y0d, pw_cell_below HBd.out y1d, pw_cell_below HBd.out y2d, pw_cell_below HBd.out k0d, pw_cell_below HBd.out k1d, pw_cell_below HBd.out k2d, pw_cell_below HBd.out k3d, pw_cell_below HBd.out k4d⟩ (fun hHeld => ?_)
        clear hK K
        refine norm_ (a' := ?_) ?_ ?_
        rotate_left
        · show Act.put _ (some 7) _ = _
          simp only [Act.put, zz1, zz2, zz3, i64_w, i32_w]
          rfl
        refine one_ (i := 12) (N := some 8) #[τ,τ,τ,τ,τ,τ,τ,τ,τ,τ,τ,τ,τ,φ,φ] rfl rfl (one_of HT_.out (by kernel_rfl)) (by decide) (fun K hK => ?_)
        refine value_ (w1 := ?_) (v := ?_) (by rfl) rfl ?_ ?_
        rotate_left 2
        · go_simp
          constructor
          · rfl
          · rfl
        have HS0 := HBd.out.size
        try rw [World.size_alloc] at HS0
        have HG8 := Aside0.mk HS0
        have HL := blk_lt H7.out
        try rw [World.size_alloc] at HL
        have HNe := Aside0.mk (show (w3.heap.size) ≠ (w3.heap.size + 1) from by omega)
        have H7 := Aside0.mk (blk_alloc H7.out (.cells #[.int .i64 0, .int .i64 0, .string ⟨#[]⟩, .slice none 0 0, .slice none 0 0] 45))
        clear HL
        clear HS0
        have H8 := heap_alloc_new (w3.alloc (.cells #[.int .i64 0, .int .i64 0, .string ⟨#[]⟩, .slice none 0 0, .slice none 0 0] 45)) (.cells #[.int .i64 0, .int .i64 0, .string ⟨#[]⟩, .slice none 0 0, .slice none 0 0] 45)
        try rw [World.size_alloc] at H8
        have H8 := Aside0.mk H8
        have HBd := Aside0.mk (below_alloc HBd.out (.cells #[.int .i64 0, .int .i64 0, .string ⟨#[]⟩, .slice none 0 0, .slice none 0 0] 45))
        refine hK.out _ _ ⟨pw_cell_below HBd.out z0d, pw_cell_below HBd.out y0d, pw_cell_below HBd.out y1d, pw_cell_below HBd.out y2d, pw_cell_below HBd.out k0d, pw_cell_below HBd.out k1d, pw_cell_below HBd.out k2d, pw_cell_below HBd.out k3d, pw_cell_below HBd.out k4d⟩ (fun hHeld => ?_)
        clear hK K
        refine norm_ (a' := ?_) ?_ ?_
        rotate_left
        · show Act.put _ (some 8) _ = _
          simp only [Act.put, zz1, zz2, zz3, i64_w, i32_w]
          rfl
        exact norm_ (by simp only [putAll, Act.put, List.setIfInBounds_toArray, List.set_cons_zero, List.set_cons_succ]) (hCont ((w3.heap.size), (w3.heap.size + 1)) _ ⟨HBd.out, H7.out, H8.out, HNe.out, HG7.out, HG8.out⟩)
      · skip
        refine value_ (w1 := ?_) (v := ?_) (by rfl) rfl ?_ ?_
        rotate_left 2
        · go_simp
          constructor
          · rfl
          · rfl
        have HS0 := HBd.out.size
        try rw [World.size_alloc] at HS0
        have HG8 := Aside0.mk HS0
        clear HS0
        have H8 := heap_alloc_new w3 (.cells #[.int .i64 0, .int .i64 0, .string ⟨#[]⟩, .slice none 0 0, .slice none 0 0] 45)
        try rw [World.size_alloc] at H8
        have H8 := Aside0.mk H8
        have HBd := Aside0.mk (below_alloc HBd.out (.cells #[.int .i64 0, .int .i64 0, .string ⟨#[]⟩, .slice none 0 0, .slice none 0 0] 45))
        refine hK.out _ _ ⟨pw_cell_below HBd.out z0d, pw_cell_below HBd.out y0d, pw_cell_below HBd.out y1d, pw_cell_below HBd.out y2d, pw_cell_below HBd.out k0d, pw_cell_below HBd.out k1d, pw_cell_below HBd.out k2d, pw_cell_below HBd.out k3d, pw_cell_below HBd.out k4d⟩ (fun hHeld => ?_)
        clear hK K
        refine norm_ (a' := ?_) ?_ ?_
        rotate_left
        · show Act.put _ (some 8) _ = _
          simp only [Act.put, zz1, zz2, zz3, i64_w, i32_w]
          rfl
        refine one_ (i := 11) (N := some 7) #[τ,τ,τ,τ,τ,τ,τ,τ,τ,τ,τ,τ,τ,φ,φ] rfl rfl (one_of HT_.out (by kernel_rfl)) (by decide) (fun K hK => ?_)
        refine value_ (w1 := ?_) (v := ?_) (by rfl) rfl ?_ ?_
        rotate_left 2
        · go_simp
          constructor
          · rfl
          · rfl
        have HS0 := HBd.out.size
        try rw [World.size_alloc] at HS0
        have HG7 := Aside0.mk HS0
        have HL := blk_lt H8.out
        try rw [World.size_alloc] at HL
        have HNe := Aside0.mk (show (w3.heap.size + 1) ≠ (w3.heap.size) from by omega)
        have H8 := Aside0.mk (blk_alloc H8.out (.cells #[.int .i64 0, .int .i64 0, .string ⟨#[]⟩, .slice none 0 0, .slice none 0 0] 45))
        clear HL
        clear HS0
        have H7 := heap_alloc_new (w3.alloc (.cells #[.int .i64 0, .int .i64 0, .string ⟨#[]⟩, .slice none 0 0, .slice none 0 0] 45)) (.cells #[.int .i64 0, .int .i64 0, .string ⟨#[]⟩, .slice none 0 0, .slice none 0 0] 45)
        try rw [World.size_alloc] at H7
        have H7 := Aside0.mk H7
        have HBd := Aside0.mk (below_alloc HBd.out (.cells #[.int .i64 0, .int .i64 0, .string ⟨#[]⟩, .slice none 0 0, .slice none 0 0] 45))
        refine hK.out _ _ ⟨pw_cell_below HBd.out z0d, pw_cell_below HBd.out y0d, pw_cell_below HBd.out y1d, pw_cell_below HBd.out y2d, pw_cell_below HBd.out k0d, pw_cell_below HBd.out k1d, pw_cell_below HBd.out k2d, pw_cell_below HBd.out k3d, pw_cell_below HBd.out k4d⟩ (fun hHeld => ?_)
        clear hK K
        refine norm_ (a' := ?_) ?_ ?_
        rotate_left
        · show Act.put _ (some 7) _ = _
          simp only [Act.put, zz1, zz2, zz3, i64_w, i32_w]
          rfl
        exact norm_ (by simp only [putAll, Act.put, List.setIfInBounds_toArray, List.set_cons_zero, List.set_cons_succ]) (hCont ((w3.heap.size + 1), (w3.heap.size)) _ ⟨HBd.out, H7.out, H8.out, HNe.out, HG7.out, HG8.out⟩)
    · skip
      refine value_ (w1 := ?_) (v := ?_) (by rfl) rfl ?_ ?_
      rotate_left 2
      · go_simp
        constructor
        · rfl
        · rfl
      have HS0 := HBd.out.size
      try rw [World.size_alloc] at HS0
      have HG7 := Aside0.mk HS0
      clear HS0
      have H7 := heap_alloc_new W2 (.cells #[.int .i64 0, .int .i64 0, .string ⟨#[]⟩, .slice none 0 0, .slice none 0 0] 45)
      try rw [World.size_alloc] at H7
      have H7 := Aside0.mk H7
      have HBd := Aside0.mk (below_alloc HBd.out (.cells #[.int .i64 0, .int .i64 0, .string ⟨#[]⟩, .slice none 0 0, .slice none 0 0] 45))
      refine hK.out _ _ ⟨pw_cell_below HBd.out z0d, pw_cell_below HBd.out y0d, pw_cell_below HBd.out y1d, pw_cell_below HBd.out y2d, pw_cell_below HBd.out k0d, pw_cell_below HBd.out k1d, pw_cell_below HBd.out k2d, pw_cell_below HBd.out k3d, pw_cell_below HBd.out k4d⟩ (fun hHeld => ?_)
      clear hK K
      refine norm_ (a' := ?_) ?_ ?_
      rotate_left
      · show Act.put _ (some 7) _ = _
        simp only [Act.put, zz1, zz2, zz3, i64_w, i32_w]
        rfl
      refine two_ (i := 10) (j := 12) (Ni := some 23) (Nj := some 8) #[τ,τ,τ,τ,τ,τ,τ,τ,τ,τ,τ,τ,φ,φ,φ] #[τ,τ,τ,τ,τ,τ,τ,τ,τ,τ,φ,τ,τ,φ,φ] rfl rfl rfl rfl (two_of HT_.out (by kernel_rfl)) (by decide) (by decide) (fun K hK => ?_) (fun K hK => ?_)
      · skip
        refine goes_ Tryd.func65 (by kernel_rfl) rfl #[.pointer (some ⟨xb, 0, none⟩), .agg #[.int .i64 a, .int .i64 b, .slice Aw ws.length cw]] (by rfl) rfl rfl (by simp only [List.map_toArray, List.map_cons, List.map_nil]; rfl) ?_
        with_reducible refine (HCH.out (W2.alloc (.cells #[.int .i64 0, .int .i64 0, .string ⟨#[]⟩, .slice none 0 0, .slice none 0 0] 45)) (HBW.out.trans (HBd.out.mono HBW.out.size))).mono ?_
        rintro e w3 ⟨rfl, hb3⟩
        have HBd := Aside0.mk (below_then HBd.out HBd.out.size hb3)
        have H7 := Aside0.mk (blk_below H7.out hb3)
        clear hb3
        refine ⟨_, rfl, ?_⟩
        refine hK.out _ _ ⟨pw_cell_below HBd.out z0d, pw_cell_below HBd.out y0d, pw_cell_below HBd.out y1d, pw_cell_below HBd.out y2d, pw_cell_below HBd.out k0d, pw_cell_below HBd.out k1d, pw_cell_below HBd.out k2d, pw_cell_below HBd.out k3d, pw_cell_below HBd.out k4d⟩ (fun hHeld => ?_)
        clear hK K
        refine norm_ (a' := ?_) ?_ ?_
        rotate_left
        · show Act.put _ (some 23) _ = _
          simp only [Act.put, zz1, zz2, zz3, i64_w, i32_w]
          rfl
        refine one_ (i := 12) (N := some 8) #[τ,τ,τ,τ,τ,τ,τ,τ,τ,τ,τ,τ,τ,φ,φ] rfl rfl (one_of HT_.out (by kernel_rfl)) (by decide) (fun K hK => ?_)
        refine value_ (w1 := ?_) (v := ?_) (by rfl) rfl ?_ ?_
        rotate_left 2
        · go_simp
          constructor
          · rfl
          · rfl
        have HS0 := HBd.out.size
        try rw [World.size_alloc] at HS0
        have HG8 := Aside0.mk HS0
        have HL := blk_lt H7.out
        try rw [World.size_alloc] at HL
        have HNe := Aside0.mk (show (W2.heap.size) ≠ (w3.heap.size) from by omega)
        have H7 := Aside0.mk (blk_alloc H7.out (.cells #[.int .i64 0, .int .i64 0, .string ⟨#[]⟩, .slice none 0 0, .slice none 0 0] 45))
        clear HL
        clear HS0
        have H8 := heap_alloc_new w3 (.cells #[.int .i64 0, .int .i64 0, .string ⟨#[]⟩, .slice none 0 0, .slice none 0 0] 45)
        try rw [World.size_alloc] at H8
        have H8 := Aside0.mk H8
        have HBd := Aside0.mk (below_alloc HBd.out (.cells #[.int .i64 0, .int .i64 0, .string ⟨#[]⟩, .slice none 0 0, .slice none 0 0] 45))
        refine hK.out _ _ ⟨pw_cell_below HBd.out z0d, pw_cell_below HBd.out y0d, pw_cell_below HBd.out y1d, pw_cell_below HBd.out y2d, pw_cell_below HBd.out k0d, pw_cell_below HBd.out k1d, pw_cell_below HBd.out k2d, pw_cell_below HBd.out k3d, pw_cell_below HBd.out k4d⟩ (fun hHeld => ?_)
        clear hK K
        refine norm_ (a' := ?_) ?_ ?_
        rotate_left
        · show Act.put _ (some 8) _ = _
          simp only [Act.put, zz1, zz2, zz3, i64_w, i32_w]
          rfl
        exact norm_ (by simp only [putAll, Act.put, List.setIfInBounds_toArray, List.set_cons_zero, List.set_cons_succ]) (hCont ((W2.heap.size), (w3.heap.size)) _ ⟨HBd.out, H7.out, H8.out, HNe.out, HG7.out, HG8.out⟩)
      · skip
        refine value_ (w1 := ?_) (v := ?_) (by rfl) rfl ?_ ?_
        rotate_left 2
        · go_simp
          constructor
          · rfl
          · rfl
        have HS0 := HBd.out.size
        try rw [World.size_alloc] at HS0
        have HG8 := Aside0.mk HS0
        have HL := blk_lt H7.out
        try rw [World.size_alloc] at HL
        have HNe := Aside0.mk (show (W2.heap.size) ≠ (W2.heap.size + 1) from by omega)
        have H7 := Aside0.mk (blk_alloc H7.out (.cells #[.int .i64 0, .int .i64 0, .string ⟨#[]⟩, .slice none 0 0, .slice none 0 0] 45))
        clear HL
        clear HS0
        have H8 := heap_alloc_new (W2.alloc (.cells #[.int .i64 0, .int .i64 0, .string ⟨#[]⟩, .slice none 0 0, .slice none 0 0] 45)) (.cells #[.int .i64 0, .int .i64 0, .string ⟨#[]⟩, .slice none 0 0, .slice none 0 0] 45)
        try rw [World.size_alloc] at H8
        have H8 := Aside0.mk H8
        have HBd := Aside0.mk (below_alloc HBd.out (.cells #[.int .i64 0, .int .i64 0, .string ⟨#[]⟩, .slice none 0 0, .slice none 0 0] 45))
        refine hK.out _ _ ⟨pw_cell_below HBd.out z0d, pw_cell_below HBd.out y0d, pw_cell_below HBd.out y1d, pw_cell_below HBd.out y2d, pw_cell_below HBd.out k0d, pw_cell_below HBd.out k1d, pw_cell_below HBd.out k2d, pw_cell_below HBd.out k3d, pw_cell_below HBd.out k4d⟩ (fun hHeld => ?_)
        clear hK K
        refine norm_ (a' := ?_) ?_ ?_
        rotate_left
        · show Act.put _ (some 8) _ = _
          simp only [Act.put, zz1, zz2, zz3, i64_w, i32_w]
          rfl
        refine one_ (i := 10) (N := some 23) #[τ,τ,τ,τ,τ,τ,τ,τ,τ,τ,τ,τ,τ,φ,φ] rfl rfl (one_of HT_.out (by kernel_rfl)) (by decide) (fun K hK => ?_)
        refine goes_ Tryd.func65 (by kernel_rfl) rfl #[.pointer (some ⟨xb, 0, none⟩), .agg #[.int .i64 a, .int .i64 b, .slice Aw ws.length cw]] (by rfl) rfl rfl (by simp only [List.map_toArray, List.map_cons, List.map_nil]; rfl) ?_
        with_reducible refine (HCH.out ((W2.alloc (.cells #[.int .i64 0, .int .i64 0, .string ⟨#[]⟩, .slice none 0 0, .slice none 0 0] 45)).alloc (.cells #[.int .i64 0, .int .i64 0, .string ⟨#[]⟩, .slice none 0 0, .slice none 0 0] 45)) (HBW.out.trans (HBd.out.mono HBW.out.size))).mono ?_
        rintro e w3 ⟨rfl, hb3⟩
        have HBd := Aside0.mk (below_then HBd.out HBd.out.size hb3)
        have H7 := Aside0.mk (blk_below H7.out hb3)
        have H8 := Aside0.mk (blk_below H8.out hb3)
        clear hb3
        refine ⟨_, rfl, ?_⟩
        refine hK.out _ _ ⟨pw_cell_below HBd.out z0d, pw_cell_below HBd.out y0d, pw_cell_below HBd.out y1d, pw_cell_below HBd.out y2d, pw_cell_below HBd.out k0d, pw_cell_below HBd.out k1d, pw_cell_below HBd.out k2d, pw_cell_below HBd.out k3d, pw_cell_below HBd.out k4d⟩ (fun hHeld => ?_)
        clear hK K
        refine norm_ (a' := ?_) ?_ ?_
        rotate_left
        · show Act.put _ (some 23) _ = _
          simp only [Act.put, zz1, zz2, zz3, i64_w, i32_w]
          rfl
        exact norm_ (by simp only [putAll, Act.put, List.setIfInBounds_toArray, List.set_cons_zero, List.set_cons_succ]) (hCont ((W2.heap.size), (W2.heap.size + 1)) _ ⟨HBd.out, H7.out, H8.out, HNe.out, HG7.out, HG8.out⟩)
    · skip
      refine value_ (w1 := ?_) (v := ?_) (by rfl) rfl ?_ ?_
      rotate_left 2
      · go_simp
        constructor
        · rfl
        · rfl
      have HS0 := HBd.out.size
      try rw [World.size_alloc] at HS0
      have HG8 := Aside0.mk HS0
      clear HS0
      have H8 := heap_alloc_new W2 (.cells #[.int .i64 0, .int .i64 0, .string ⟨#[]⟩, .slice none 0 0, .slice none 0 0] 45)
      try rw [World.size_alloc] at H8
      have H8 := Aside0.mk H8
      have HBd := Aside0.mk (below_alloc HBd.out (.cells #[.int .i64 0, .int .i64 0, .string ⟨#[]⟩, .slice none 0 0, .slice none 0 0] 45))
      refine hK.out _ _ ⟨pw_cell_below HBd.out z0d, pw_cell_below HBd.out y0d, pw_cell_below HBd.out y1d, pw_cell_below HBd.out y2d, pw_cell_below HBd.out k0d, pw_cell_below HBd.out k1d, pw_cell_below HBd.out k2d, pw_cell_below HBd.out k3d, pw_cell_below HBd.out k4d⟩ (fun hHeld => ?_)
      clear hK K
      refine norm_ (a' := ?_) ?_ ?_
      rotate_left
      · show Act.put _ (some 8) _ = _
        simp only [Act.put, zz1, zz2, zz3, i64_w, i32_w]
        rfl
      refine two_ (i := 10) (j := 11) (Ni := some 23) (Nj := some 7) #[τ,τ,τ,τ,τ,τ,τ,τ,τ,τ,τ,φ,τ,φ,φ] #[τ,τ,τ,τ,τ,τ,τ,τ,τ,τ,φ,τ,τ,φ,φ] rfl rfl rfl rfl (two_of HT_.out (by kernel_rfl)) (by decide) (by decide) (fun K hK => ?_) (fun K hK => ?_)
      · skip
        refine goes_ Tryd.func65 (by kernel_rfl) rfl #[.pointer (some ⟨xb, 0, none⟩), .agg #[.int .i64 a, .int .i64 b, .slice Aw ws.length cw]] (by rfl) rfl rfl (by simp only [List.map_toArray, List.map_cons, List.map_nil]; rfl) ?_
        with_reducible refine (HCH.out (W2.alloc (.cells #[.int .i64 0, .int .i64 0, .string ⟨#[]⟩, .slice none 0 0, .slice none 0 0] 45)) (HBW.out.trans (HBd.out.mono HBW.out.size))).mono ?_
        rintro e w3 ⟨rfl, hb3⟩
        have HBd := Aside0.mk (below_then HBd.out HBd.out.size hb3)
        have H8 := Aside0.mk (blk_below H8.out hb3)
        clear hb3
        refine ⟨_, rfl, ?_⟩
        refine hK.out _ _ ⟨pw_cell_below HBd.out z0d, pw_cell_below HBd.out y0d, pw_cell_below HBd.out y1d, pw_cell_below HBd.out y2d, pw_cell_below HBd.out k0d, pw_cell_below HBd.out k1d, pw_cell_below HBd.out k2d, pw_cell_below HBd.out k3d, pw_cell_below HBd.out k4d⟩ (fun hHeld => ?_)
        clear hK K
        refine norm_ (a' := ?_) ?_ ?_
        rotate_left
        · show Act.put _ (some 23) _ = _
          simp only [Act.put, zz1, zz2, zz3, i64_w, i32_w]
          rfl
        refine one_ (i := 11) (N := some 7) #[τ,τ,τ,τ,τ,τ,τ,τ,τ,τ,τ,τ,τ,φ,φ] rfl rfl (one_of HT_.out (by kernel_rfl)) (by decide) (fun K hK => ?_)
        refine value_ (w1 := ?_) (v := ?_) (by rfl) rfl ?_ ?_
        rotate_left 2
        · go_simp
          constructor
          · rfl
          · rfl
        have HS0 := HBd.out.size
        try rw [World.size_alloc] at HS0
        have HG7 := Aside0.mk HS0
        have HL := blk_lt H8.out
        try rw [World.size_alloc] at HL
        have HNe := Aside0.mk (show (w3.heap.size) ≠ (W2.heap.size) from by omega)
        have H8 := Aside0.mk (blk_alloc H8.out (.cells #[.int .i64 0, .int .i64 0, .string ⟨#[]⟩, .slice none 0 0, .slice none 0 0] 45))
        clear HL
        clear HS0
        have H7 := heap_alloc_new w3 (.cells #[.int .i64 0, .int .i64 0, .string ⟨#[]⟩, .slice none 0 0, .slice none 0 0] 45)
        try rw [World.size_alloc] at H7
        have H7 := Aside0.mk H7
        have HBd := Aside0.mk (below_alloc HBd.out (.cells #[.int .i64 0, .int .i64 0, .string ⟨#[]⟩, .slice none 0 0, .slice none 0 0] 45))
        refine hK.out _ _ ⟨pw_cell_below HBd.out z0d, pw_cell_below HBd.out y0d, pw_cell_below HBd.out y1d, pw_cell_below HBd.out y2d, pw_cell_below HBd.out k0d, pw_cell_below HBd.out k1d, pw_cell_below HBd.out k2d, pw_cell_below HBd.out k3d, pw_cell_below HBd.out k4d⟩ (fun hHeld => ?_)
        clear hK K
        refine norm_ (a' := ?_) ?_ ?_
        rotate_left
        · show Act.put _ (some 7) _ = _
          simp only [Act.put, zz1, zz2, zz3, i64_w, i32_w]
          rfl
        exact norm_ (by simp only [putAll, Act.put, List.setIfInBounds_toArray, List.set_cons_zero, List.set_cons_succ]) (hCont ((w3.heap.size), (W2.heap.size)) _ ⟨HBd.out, H7.out, H8.out, HNe.out, HG7.out, HG8.out⟩)
      · skip
        refine value_ (w1 := ?_) (v := ?_) (by rfl) rfl ?_ ?_
        rotate_left 2
        · go_simp
          constructor
          · rfl
          · rfl
        have HS0 := HBd.out.size
        try rw [World.size_alloc] at HS0
        have HG7 := Aside0.mk HS0
        have HL := blk_lt H8.out
        try rw [World.size_alloc] at HL
        have HNe := Aside0.mk (show (W2.heap.size + 1) ≠ (W2.heap.size) from by omega)
        have H8 := Aside0.mk (blk_alloc H8.out (.cells #[.int .i64 0, .int .i64 0, .string ⟨#[]⟩, .slice none 0 0, .slice none 0 0] 45))
        clear HL
        clear HS0
        have H7 := heap_alloc_new (W2.alloc (.cells #[.int .i64 0, .int .i64 0, .string ⟨#[]⟩, .slice none 0 0, .slice none 0 0] 45)) (.cells #[.int .i64 0, .int .i64 0, .string ⟨#[]⟩, .slice none 0 0, .slice none 0 0] 45)
        try rw [World.size_alloc] at H7
        have H7 := Aside0.mk H7
        have HBd := Aside0.mk (below_alloc HBd.out (.cells #[.int .i64 0, .int .i64 0, .string ⟨#[]⟩, .slice none 0 0, .slice none 0 0] 45))
        refine hK.out _ _ ⟨pw_cell_below HBd.out z0d, pw_cell_below HBd.out y0d, pw_cell_below HBd.out y1d, pw_cell_below HBd.out y2d, pw_cell_below HBd.out k0d, pw_cell_below HBd.out k1d, pw_cell_below HBd.out k2d, pw_cell_below HBd.out k3d, pw_cell_below HBd.out k4d⟩ (fun hHeld => ?_)
        clear hK K
        refine norm_ (a' := ?_) ?_ ?_
        rotate_left
        · show Act.put _ (some 7) _ = _
          simp only [Act.put, zz1, zz2, zz3, i64_w, i32_w]
          rfl
        refine one_ (i := 10) (N := some 23) #[τ,τ,τ,τ,τ,τ,τ,τ,τ,τ,τ,τ,τ,φ,φ] rfl rfl (one_of HT_.out (by kernel_rfl)) (by decide) (fun K hK => ?_)
        refine goes_ Tryd.func65 (by kernel_rfl) rfl #[.pointer (some ⟨xb, 0, none⟩), .agg #[.int .i64 a, .int .i64 b, .slice Aw ws.length cw]] (by rfl) rfl rfl (by simp only [List.map_toArray, List.map_cons, List.map_nil]; rfl) ?_
        with_reducible refine (HCH.out ((W2.alloc (.cells #[.int .i64 0, .int .i64 0, .string ⟨#[]⟩, .slice none 0 0, .slice none 0 0] 45)).alloc (.cells #[.int .i64 0, .int .i64 0, .string ⟨#[]⟩, .slice none 0 0, .slice none 0 0] 45)) (HBW.out.trans (HBd.out.mono HBW.out.size))).mono ?_
        rintro e w3 ⟨rfl, hb3⟩
        have HBd := Aside0.mk (below_then HBd.out HBd.out.size hb3)
        have H7 := Aside0.mk (blk_below H7.out hb3)
        have H8 := Aside0.mk (blk_below H8.out hb3)
        clear hb3
        refine ⟨_, rfl, ?_⟩
        refine hK.out _ _ ⟨pw_cell_below HBd.out z0d, pw_cell_below HBd.out y0d, pw_cell_below HBd.out y1d, pw_cell_below HBd.out y2d, pw_cell_below HBd.out k0d, pw_cell_below HBd.out k1d, pw_cell_below HBd.out k2d, pw_cell_below HBd.out k3d, pw_cell_below HBd.out k4d⟩ (fun hHeld => ?_)
        clear hK K
        refine norm_ (a' := ?_) ?_ ?_
        rotate_left
        · show Act.put _ (some 23) _ = _
          simp only [Act.put, zz1, zz2, zz3, i64_w, i32_w]
          rfl
        exact norm_ (by simp only [putAll, Act.put, List.setIfInBounds_toArray, List.set_cons_zero, List.set_cons_succ]) (hCont ((W2.heap.size + 1), (W2.heap.size)) _ ⟨HBd.out, H7.out, H8.out, HNe.out, HG7.out, HG8.out⟩)
  rintro ⟨q7, q8⟩ w9 ⟨hbd, h7, h8, hne, hg7, hg8⟩
  dsimp only at h7 h8 hne hg7 hg8
  have hHeld : True := trivial
  have HBd9 := Aside0.mk hbd
  have h7f := store5_ h7 (.int .i64 x.f0) (.int .i64 x.f1) (.string x.f2) (.slice Ak x.f3.length ck) (.slice Al x.f4.length cl)
  obtain ⟨s0, f0, s1, f1, s2, f2, s3, f3, s4, f4, h7n⟩ := h7f
  have h8n := store5_far h8 (Ne.symm hne) (.int .i64 x.f0) (.int .i64 x.f1) (.string x.f2) (.slice Ak x.f3.length ck) (.slice Al x.f4.length cl)
  obtain ⟨t0, e0, t1, e1_, t2, e2_, t3, e3_, t4, e4_, h8f⟩ := store5_ h8n (.int .i64 t.f0) (.int .i64 t.f1) (.string t.f2) (.slice Bk t.f3.length dk) (.slice Bl t.f4.length dl)
  have h7z := store5_far h7n hne (.int .i64 t.f0) (.int .i64 t.f1) (.string t.f2) (.slice Bk t.f3.length dk) (.slice Bl t.f4.length dl)
  have hbz := store5_below (q := q8) (store5_below (q := q7) hbd hg7 (.int .i64 x.f0) (.int .i64 x.f1) (.string x.f2) (.slice Ak x.f3.length ck) (.slice Al x.f4.length cl)) hg8 (.int .i64 t.f0) (.int .i64 t.f1) (.string t.f2) (.slice Bk t.f3.length dk) (.slice Bl t.f4.length dl)
  clear hbd h7 h8 h8n h7n
  refine norm_ (a' := ?_) ?_ ?_
  rotate_left
  · simp only [putAll, Act.put, List.setIfInBounds_toArray, List.set_cons_zero, List.set_cons_succ]
    rfl
  refine last_ (i := 13) (N := none) #[τ,τ,τ,τ,τ,τ,τ,τ,τ,τ,τ,τ,τ,τ,φ] rfl rfl (one_of HT_.out (by kernel_rfl)) (by decide) (fun K hK => ?_)
  refine skip_ (w1 := ?_) (by rfl) rfl ?_ ?_
  rotate_left
  · go_simp
    rfl
  refine hK.out _ _ ?_
  clear hK K
  refine last_ (i := 14) (N := none) #[τ,τ,τ,τ,τ,τ,τ,τ,τ,τ,τ,τ,τ,τ,τ] rfl rfl (one_of HT_.out (by kernel_rfl)) (by decide) (fun K hK => ?_)
  refine skip_ (w1 := ?_) (by rfl) rfl ?_ ?_
  rotate_left
  · go_simp
    rfl
  refine hK.out _ _ ?_
  clear hK K
  refine done_ (done_of HT_.out (by kernel_rfl)) ?_
  clear s0 f0 s1 f1 s2 f2 s3 f3 s4 f4 t0 e0 t1 e1_ t2 e2_ t3 e3_ t4 e4_ z0d y0d y1d y2d k0d k1d k2d k3d k4d hHeld HCH
  generalize ((((((((((w9.setCell ⟨q7, 0, none⟩ (.int .i64 x.f0)).setCell ⟨q7, 1, none⟩ (.int .i64 x.f1)).setCell ⟨q7, 2, none⟩ (.string x.f2)).setCell ⟨q7, 3, none⟩ (.slice Ak x.f3.length ck)).setCell ⟨q7, 4, none⟩ (.slice Al x.f4.length cl)).setCell ⟨q8, 0, none⟩ (.int .i64 t.f0)).setCell ⟨q8, 1, none⟩ (.int .i64 t.f1)).setCell ⟨q8, 2, none⟩ (.string t.f2)).setCell ⟨q8, 3, none⟩ (.slice Bk t.f3.length dk)).setCell ⟨q8, 4, none⟩ (.slice Bl t.f4.length dl)) = U at h7z h8f hbz ⊢
  have HBU := Aside0.mk (HBW.out.trans (hbz.mono HBW.out.size))
  have a0 := (blk_cell h7z 0).trans rfl
  have a1 := (blk_cell h7z 1).trans rfl
  have a2 := (blk_cell h7z 2).trans rfl
  have a3 := (blk_cell h7z 3).trans rfl
  have a4 := (blk_cell h7z 4).trans rfl
  have b0 := (blk_cell h8f 0).trans rfl
  have b1 := (blk_cell h8f 1).trans rfl
  have b2 := (blk_cell h8f 2).trans rfl
  have b3 := (blk_cell h8f 3).trans rfl
  have b4 := (blk_cell h8f 4).trans rfl
  clear h7z h8f hbz HBd9 HBd HBW HB1 HN hg7 hg8 hne
  have HXU := Aside0.mk (HXV.out.below HBU.out)
  have HTU := Aside0.mk (HT.out.below HBU.out)
  by_cases hk : x.f0 = t.f0
  · have q1 : (x.f0 != t.f0) = false := by simpa using hk
    by_cases hn : x.f2 = t.f2
    · have q2 : (x.f2.toList == t.f2.toList) = true := by simp [hn]
      by_cases hu : x.f1 = t.f1
      · have q3 : (x.f1 != t.f1) = false := by simpa using hu
        have HPP := Aside0.mk (show plainP x t = if x.f0 = 9 then ([(x.f4.getD 0 0, t.f4.getD 0 0)], true) else match recP x t t.f3 0 with | none => ([], false) | some l => (l, true) from if_pos ⟨hk, hn, hu⟩)
        have HK := Aside0.mk hk
        clear hk hn hu
        by_cases h9 : x.f0 = 9
        · have q4 : (x.f0 == 9) = true := by simpa using h9
          have hl1 : 0 < x.f4.length := by rw [HOx.out.var h9]; omega
          have hl2 : 0 < t.f4.length := by rw [HOt.out.var (by have := HK.out; omega)]; omega
          obtain ⟨adx, eX, hx0⟩ := ints_at0 HXU.out.ls hl1
          obtain ⟨adt, eT, ht0⟩ := ints_at0 HTU.out.ls hl2
          subst eX
          subst eT
          have HP := Aside0.mk (show plainP x t = ([(x.f4.getD 0 0, t.f4.getD 0 0)], true) by rw [HPP.out, if_pos h9])
          obtain ⟨y, hy⟩ : ∃ y, y = x.f4.getD 0 0 := ⟨_, rfl⟩
          obtain ⟨z, hz'⟩ : ∃ z, z = t.f4.getD 0 0 := ⟨_, rfl⟩
          rw [← hy] at hx0 HP
          rw [← hz'] at ht0 HP
          have e6 : (0 < x.f4.length) = True := eq_true hl1
          have e7 : (0 < t.f4.length) = True := eq_true hl2
          clear hy hz' hl1 hl2 h9 HPP
          go_wp2_with (fail)
          have a4' := drew_cell a4
          have b4' := drew_cell b4
          have x0' := drew_cell hx0
          have t0' := drew_cell ht0
          refine start_ (n := 13) (S := fun w' => w'.cell? ⟨q7, 4, none⟩ = some (.slice (some adx) x.f4.length cl) ∧ w'.cell? ⟨q8, 4, none⟩ = some (.slice (some adt) t.f4.length dl) ∧ w'.cell? adx = some (.int .i64 y) ∧ w'.cell? adt = some (.int .i64 z)) (ds := [9]) #[φ,φ,φ,φ,φ,φ,φ,φ,φ,φ,φ,φ,φ] (by kernel_rfl) rfl rfl ⟨a4', b4', x0', t0'⟩ (fun hHeld => ?_)
          refine with_tabW pl5.tab5 pl5.bits5 (fun HT_ HW_ => ?_)
          refine pure_ (i := 0) (N := some 46) (v := ?_) (a' := ?_) #[τ,φ,φ,φ,φ,φ,φ,φ,φ,φ,φ,φ,φ] rfl rfl (any_of HT_.out (by kernel_rfl)) (fun _ _ _ h => h) (Or.inl ⟨by rfl, ?_⟩) ?_ ?_
          rotate_left; (intro w'; go_simp; with_reducible rfl); rotate_left; (simp only [Act.put, zz1, zz2, zz3, i64_w, i32_w]; rfl)
          refine pure_ (i := 4) (N := some 50) (v := ?_) (a' := ?_) #[τ,φ,φ,φ,τ,φ,φ,φ,φ,φ,φ,φ,φ] rfl rfl (any_of HT_.out (by kernel_rfl)) (fun _ _ _ h => h) (Or.inl ⟨by rfl, ?_⟩) ?_ ?_
          rotate_left; (intro w'; go_simp; with_reducible rfl); rotate_left; (simp only [Act.put, zz1, zz2, zz3, i64_w, i32_w]; rfl)
          refine pure_ (i := 10) (N := some 4) (v := ?_) (a' := ?_) #[τ,φ,φ,φ,τ,φ,φ,φ,φ,φ,τ,φ,φ] rfl rfl (any_of HT_.out (by kernel_rfl)) (fun _ _ _ h => h) (Or.inl ⟨by rfl, ?_⟩) ?_ ?_
          rotate_left; (intro w'; go_simp; with_reducible rfl); rotate_left; (simp only [Act.put, zz1, zz2, zz3, i64_w, i32_w]; rfl)
          refine take_ (i := 1) (N := some 47) (v := ?_) (a' := ?_) #[τ,τ,φ,φ,τ,φ,φ,φ,φ,φ,τ,φ,φ] rfl rfl (take_ofW HT_.out HW_.out (by kernel_rfl)) (fun _ _ _ h => h) (Or.inl ⟨by rfl, ?_⟩) hHeld ?_ ?_
          rotate_left; (rintro w' ⟨s0, s1, s2, s3⟩; go_simp; with_reducible rfl); rotate_left; (simp only [Act.put, zz1, zz2, zz3, i64_w, i32_w]; rfl)
          refine pure_ (i := 2) (N := some 48) (v := ?_) (a' := ?_) #[τ,τ,τ,φ,τ,φ,φ,φ,φ,φ,τ,φ,φ] rfl rfl (any_of HT_.out (by kernel_rfl)) (fun _ _ _ h => h) (Or.inl ⟨by rfl, ?_⟩) ?_ ?_
          rotate_left; (intro w'; go_simp; with_reducible rfl); rotate_left; (simp only [Act.put, zz1, zz2, zz3, i64_w, i32_w]; rfl)
          refine take_ (i := 3) (N := some 49) (v := ?_) (a' := ?_) #[τ,τ,τ,τ,τ,φ,φ,φ,φ,φ,τ,φ,φ] rfl rfl (take_ofW HT_.out HW_.out (by kernel_rfl)) (fun _ _ _ h => h) (Or.inl ⟨by rfl, ?_⟩) hHeld ?_ ?_
          rotate_left; (rintro w' ⟨s0, s1, s2, s3⟩; go_simp; with_reducible rfl); rotate_left; (simp only [Act.put, zz1, zz2, zz3, i64_w, i32_w]; rfl)
          refine take_ (i := 5) (N := some 51) (v := ?_) (a' := ?_) #[τ,τ,τ,τ,τ,τ,φ,φ,φ,φ,τ,φ,φ] rfl rfl (take_ofW HT_.out HW_.out (by kernel_rfl)) (fun _ _ _ h => h) (Or.inl ⟨by rfl, ?_⟩) hHeld ?_ ?_
          rotate_left; (rintro w' ⟨s0, s1, s2, s3⟩; go_simp; with_reducible rfl); rotate_left; (simp only [Act.put, zz1, zz2, zz3, i64_w, i32_w]; rfl)
          refine pure_ (i := 6) (N := some 52) (v := ?_) (a' := ?_) #[τ,τ,τ,τ,τ,τ,τ,φ,φ,φ,τ,φ,φ] rfl rfl (any_of HT_.out (by kernel_rfl)) (fun _ _ _ h => h) (Or.inl ⟨by rfl, ?_⟩) ?_ ?_
          rotate_left; (intro w'; go_simp; with_reducible rfl); rotate_left; (simp only [Act.put, zz1, zz2, zz3, i64_w, i32_w]; rfl)
          refine take_ (i := 7) (N := some 53) (v := ?_) (a' := ?_) #[τ,τ,τ,τ,τ,τ,τ,τ,φ,φ,τ,φ,φ] rfl rfl (take_ofW HT_.out HW_.out (by kernel_rfl)) (fun _ _ _ h => h) (Or.inl ⟨by rfl, ?_⟩) hHeld ?_ ?_
          rotate_left; (rintro w' ⟨s0, s1, s2, s3⟩; go_simp; with_reducible rfl); rotate_left; (simp only [Act.put, zz1, zz2, zz3, i64_w, i32_w]; rfl)
          refine pure_ (i := 8) (N := some 54) (v := ?_) (a' := ?_) #[τ,τ,τ,τ,τ,τ,τ,τ,τ,φ,τ,φ,φ] rfl rfl (any_of HT_.out (by kernel_rfl)) (fun _ _ _ h => h) (Or.inl ⟨by rfl, ?_⟩) ?_ ?_
          rotate_left; (intro w'; go_simp; with_reducible rfl); rotate_left; (simp only [Act.put, zz1, zz2, zz3, i64_w, i32_w]; rfl)
          refine last_ (i := 9) (N := some 55) #[τ,τ,τ,τ,τ,τ,τ,τ,τ,τ,τ,φ,φ] rfl rfl (one_of HT_.out (by kernel_rfl)) (by decide) (fun K hK => ?_)
          refine value_ (w1 := ?_) (v := ?_) (by rfl) rfl ?_ ?_
          rotate_left 2
          · go_simp
            constructor
            · rfl
            · rfl
          refine hK.out _ _ ?_
          clear hK K
          refine norm_ (a' := ?_) ?_ ?_
          rotate_left
          · show Act.put _ (some 55) _ = _
            simp only [Act.put, zz1, zz2, zz3, i64_w, i32_w]
            rfl
          refine pure_ (i := 11) (N := some 5) (v := ?_) (a' := ?_) #[τ,τ,τ,τ,τ,τ,τ,τ,τ,τ,τ,τ,φ] rfl rfl (any_of HT_.out (by kernel_rfl)) (fun _ _ _ h => h) (Or.inl ⟨by rfl, ?_⟩) ?_ ?_
          rotate_left; (intro w'; go_simp; with_reducible rfl); rotate_left; (simp only [Act.put, zz1, zz2, zz3, i64_w, i32_w]; rfl)
          refine pure_ (i := 12) (N := some 6) (v := ?_) (a' := ?_) #[τ,τ,τ,τ,τ,τ,τ,τ,τ,τ,τ,τ,τ] rfl rfl (any_of HT_.out (by kernel_rfl)) (fun _ _ _ h => h) (Or.inl ⟨by rfl, ?_⟩) ?_ ?_
          rotate_left; (intro w'; go_simp; with_reducible rfl); rotate_left; (simp only [Act.put, zz1, zz2, zz3, i64_w, i32_w]; rfl)
          refine done_ (done_of HT_.out (by kernel_rfl)) ?_
          go_wp2_with (fail)
          go_ret3
          rw [HP.out]
          exact ⟨_, rfl, Kd.R_lower (lit_pair U.drew (y, z)) (below_drew HBU.out).size, below_alloc (below_drew HBU.out) _⟩
        · have q4 : (x.f0 == 9) = false := by simpa using h9
          have HP := Aside0.mk (show plainP x t = match recP x t t.f3 0 with | none => ([], false) | some l => (l, true) by rw [HPP.out, if_neg h9])
          clear h9 HPP
          have HBV := Aside0.mk HBU.out.size
          have h16 : t.f3.length ≤ 16 := by
            by_cases h7 : t.f0 = 7
            · exact (HOt.out.recd h7).2
            · rw [HOt.out.keys h7]; simp
          have H16 := Aside0.mk h16
          clear h16
          go_wp2_with (fail)
          go_loopw [5, 59] (fun v5 v59 wr => ∃ (i : Nat) (ps : List (Int × Int)), i ≤ t.f3.length ∧ v59 = .int .i64 i ∧ Aside0 (Kd.R kP 72 wr U.heap.size (fun _ => True) v5 ps) ∧ Aside0 (Below U.heap.size U wr) ∧ Aside0 (ps.length = i ∧ recP x t t.f3 0 = (recP x t (t.f3.drop i) i).map (ps ++ ·))) (fun v5 v59 _ => t.f3.length + 1 - (intOf v59).toNat)
          case atStart => exact ⟨0, [], by omega, rfl, ⟨Kd.R_nil _ _ _ _ _⟩, ⟨Below.refl _ _⟩, ⟨rfl, by simp⟩⟩
          case round =>
            obtain ⟨i, ps, hi, rfl, HRo, HBo, HI⟩ := hrel
            rename World => X
            have hw : wrap64 ((i : Int) + 1) = ((i + 1 : Nat) : Int) := by have := H16.out; unfold wrap64; omega
            by_cases hlt : i < t.f3.length
            · have h7 : t.f0 = 7 := by
                by_cases h7 : t.f0 = 7
                · exact h7
                · rw [HOt.out.keys h7] at hlt; simp at hlt
              have hx7 : x.f0 = 7 := by rw [HK.out]; exact h7
              have HLt := Aside0.mk (HOt.out.recd h7).1
              have HLx := Aside0.mk (HOx.out.recd hx7)
              obtain ⟨adk, eK, hm⟩ := strs_at (Kd.C_below HTU.out.ks HBo.out) hlt
              subst eK
              obtain ⟨key, hkey⟩ : ∃ key, key = t.f3.getD i ByteArray.empty := ⟨_, rfl⟩
              rw [← hkey] at hm
              have HDr := Aside0.mk (show t.f3.drop i = key :: t.f3.drop (i + 1) by
                rw [hkey, List.drop_eq_getElem_cons hlt, List.getD_eq_getElem?_getD, List.getElem?_eq_getElem hlt]
                rfl)
              have e8 : ((i : Int) < (t.f3.length : Int)) = True := eq_true (by omega)
              have c3 := pw_cell_below HBo.out a3
              have c4 := pw_cell_below HBo.out a4
              have d4 := pw_cell_below HBo.out b4
              have HLi := Aside0.mk hlt
              have HSr := Aside0.mk (search_yes Ak ck x.f3 key X (Kd.C_below HXU.out.ks HBo.out) HXU.out.kc (by have := HLx.out.2; omega) HRs.out)
              clear h7 hx7 hkey
              go_wp2_with (fail)
              refine HSr.out.mono ?_
              rintro e W5 (⟨k, hki, rfl, rfl⟩ | ⟨hki, k, rfl, rfl⟩)
              · have hkl := idxF_bound hki
                have HRe := Aside0.mk (show recP x t (t.f3.drop i) i = (recP x t (t.f3.drop (i + 1)) (i + 1)).map fun l => (x.f4.getD k 0, t.f4.getD i 0) :: l by
                  rw [HDr.out]
                  conv => lhs; unfold recP
                  rw [hki])
                obtain ⟨adx, eX, hxk⟩ := ints_at (Kd.C_below HXU.out.ls HBo.out) (i := k) (by have := HLx.out.1; omega)
                obtain ⟨adt, eT, hti⟩ := ints_at (Kd.C_below HTU.out.ls HBo.out) (i := i) (by have := HLt.out; omega)
                subst eX
                subst eT
                obtain ⟨y, hy⟩ : ∃ y, y = x.f4.getD k 0 := ⟨_, rfl⟩
                obtain ⟨z, hz'⟩ : ∃ z, z = t.f4.getD i 0 := ⟨_, rfl⟩
                rw [← hy] at hxk HRe
                rw [← hz'] at hti HRe
                have e9 : ((k : Int) < (x.f4.length : Int)) = True := eq_true (by have := HLx.out.1; omega)
                have e10 : ((i : Int) < (t.f4.length : Int)) = True := eq_true (by have := HLt.out; omega)
                have HAL : Aside0 ((ps.length + 1) * 16 ≤ 140737488355328) := ⟨by have := HI.out.1; have := H16.out; omega⟩
                clear hy hz' hki hkl
                go_wp2_with (fail)
                have HRd := Aside0.mk (Kd.R_below HRo.out (below_drew (Below.refl X.heap.size X)))
                have HBr := Aside0.mk (below_drew HBo.out)
                have c4' := drew_cell c4
                have d4' := drew_cell d4
                have xk' := drew_cell hxk
                have ti' := drew_cell hti
                refine start_ (n := 15) (S := fun w' => w'.cell? ⟨q7, 4, none⟩ = some (.slice (some adx) x.f4.length cl) ∧ w'.cell? ⟨q8, 4, none⟩ = some (.slice (some adt) t.f4.length dl) ∧ w'.cell? (adx.add k) = some (.int .i64 y) ∧ w'.cell? (adt.add i) = some (.int .i64 z)) (ds := [12, 13]) #[φ,φ,φ,φ,φ,φ,φ,φ,φ,φ,φ,φ,φ,φ,φ] (by kernel_rfl) rfl rfl ⟨c4', d4', xk', ti'⟩ (fun hHeld => ?_)
                generalize X.drew = X2 at HRd HBr c4' d4' xk' ti' hHeld ⊢
                refine with_tabW pl12.tab12 pl12.bits12 (fun HT_ HW_ => ?_)
                refine pure_ (i := 0) (N := some 73) (v := ?_) (a' := ?_) #[τ,φ,φ,φ,φ,φ,φ,φ,φ,φ,φ,φ,φ,φ,φ] rfl rfl (any_of HT_.out (by kernel_rfl)) (fun _ _ _ h => h) (Or.inl ⟨by rfl, ?_⟩) ?_ ?_
                rotate_left; (intro w'; go_simp; with_reducible rfl); rotate_left; (simp only [Act.put, zz1, zz2, zz3, i64_w, i32_w]; rfl)
                refine pure_ (i := 1) (N := some 74) (v := ?_) (a' := ?_) #[τ,τ,φ,φ,φ,φ,φ,φ,φ,φ,φ,φ,φ,φ,φ] rfl rfl (any_of HT_.out (by kernel_rfl)) (fun _ _ _ h => h) (Or.inl ⟨by rfl, ?_⟩) ?_ ?_
                rotate_left; (intro w'; go_simp; with_reducible rfl); rotate_left; (simp only [Act.put, zz1, zz2, zz3, i64_w, i32_w]; rfl)
                refine pure_ (i := 3) (N := some 76) (v := ?_) (a' := ?_) #[τ,τ,φ,τ,φ,φ,φ,φ,φ,φ,φ,φ,φ,φ,φ] rfl rfl (any_of HT_.out (by kernel_rfl)) (fun _ _ _ h => h) (Or.inl ⟨by rfl, ?_⟩) ?_ ?_
                rotate_left; (intro w'; go_simp; with_reducible rfl); rotate_left; (simp only [Act.put, zz1, zz2, zz3, i64_w, i32_w]; rfl)
                refine pure_ (i := 6) (N := some 79) (v := ?_) (a' := ?_) #[τ,τ,φ,τ,φ,φ,τ,φ,φ,φ,φ,φ,φ,φ,φ] rfl rfl (any_of HT_.out (by kernel_rfl)) (fun _ _ _ h => h) (Or.inl ⟨by rfl, ?_⟩) ?_ ?_
                rotate_left; (intro w'; go_simp; with_reducible rfl); rotate_left; (simp only [Act.put, zz1, zz2, zz3, i64_w, i32_w]; rfl)
                refine pure_ (i := 8) (N := some 81) (v := ?_) (a' := ?_) #[τ,τ,φ,τ,φ,φ,τ,φ,τ,φ,φ,φ,φ,φ,φ] rfl rfl (any_of HT_.out (by kernel_rfl)) (fun _ _ _ h => h) (Or.inl ⟨by rfl, ?_⟩) ?_ ?_
                rotate_left; (intro w'; go_simp; with_reducible rfl); rotate_left; (simp only [Act.put, zz1, zz2, zz3, i64_w, i32_w]; rfl)
                refine take_ (i := 2) (N := some 75) (v := ?_) (a' := ?_) #[τ,τ,τ,τ,φ,φ,τ,φ,τ,φ,φ,φ,φ,φ,φ] rfl rfl (take_ofW HT_.out HW_.out (by kernel_rfl)) (fun _ _ _ h => h) (Or.inl ⟨by rfl, ?_⟩) hHeld ?_ ?_
                rotate_left; (rintro w' ⟨s0, s1, s2, s3⟩; go_simp; with_reducible rfl); rotate_left; (simp only [Act.put, zz1, zz2, zz3, i64_w, i32_w]; rfl)
                refine pure_ (i := 4) (N := some 77) (v := ?_) (a' := ?_) #[τ,τ,τ,τ,τ,φ,τ,φ,τ,φ,φ,φ,φ,φ,φ] rfl rfl (any_of HT_.out (by kernel_rfl)) (fun _ _ _ h => h) (Or.inl ⟨by rfl, ?_⟩) ?_ ?_
                rotate_left; (intro w'; go_simp; with_reducible rfl); rotate_left; (simp only [Act.put, zz1, zz2, zz3, i64_w, i32_w]; rfl)
                refine take_ (i := 5) (N := some 78) (v := ?_) (a' := ?_) #[τ,τ,τ,τ,τ,τ,τ,φ,τ,φ,φ,φ,φ,φ,φ] rfl rfl (take_ofW HT_.out HW_.out (by kernel_rfl)) (fun _ _ _ h => h) (Or.inl ⟨by rfl, ?_⟩) hHeld ?_ ?_
                rotate_left; (rintro w' ⟨s0, s1, s2, s3⟩; go_simp; with_reducible rfl); rotate_left; (simp only [Act.put, zz1, zz2, zz3, i64_w, i32_w]; rfl)
                refine take_ (i := 7) (N := some 80) (v := ?_) (a' := ?_) #[τ,τ,τ,τ,τ,τ,τ,τ,τ,φ,φ,φ,φ,φ,φ] rfl rfl (take_ofW HT_.out HW_.out (by kernel_rfl)) (fun _ _ _ h => h) (Or.inl ⟨by rfl, ?_⟩) hHeld ?_ ?_
                rotate_left; (rintro w' ⟨s0, s1, s2, s3⟩; go_simp; with_reducible rfl); rotate_left; (simp only [Act.put, zz1, zz2, zz3, i64_w, i32_w]; rfl)
                refine pure_ (i := 9) (N := some 82) (v := ?_) (a' := ?_) #[τ,τ,τ,τ,τ,τ,τ,τ,τ,τ,φ,φ,φ,φ,φ] rfl rfl (any_of HT_.out (by kernel_rfl)) (fun _ _ _ h => h) (Or.inl ⟨by rfl, ?_⟩) ?_ ?_
                rotate_left; (intro w'; go_simp; with_reducible rfl); rotate_left; (simp only [Act.put, zz1, zz2, zz3, i64_w, i32_w]; rfl)
                refine take_ (i := 10) (N := some 83) (v := ?_) (a' := ?_) #[τ,τ,τ,τ,τ,τ,τ,τ,τ,τ,τ,φ,φ,φ,φ] rfl rfl (take_ofW HT_.out HW_.out (by kernel_rfl)) (fun _ _ _ h => h) (Or.inl ⟨by rfl, ?_⟩) hHeld ?_ ?_
                rotate_left; (rintro w' ⟨s0, s1, s2, s3⟩; go_simp; with_reducible rfl); rotate_left; (simp only [Act.put, zz1, zz2, zz3, i64_w, i32_w]; rfl)
                refine pure_ (i := 11) (N := some 84) (v := ?_) (a' := ?_) #[τ,τ,τ,τ,τ,τ,τ,τ,τ,τ,τ,τ,φ,φ,φ] rfl rfl (any_of HT_.out (by kernel_rfl)) (fun _ _ _ h => h) (Or.inl ⟨by rfl, ?_⟩) ?_ ?_
                rotate_left; (intro w'; go_simp; with_reducible rfl); rotate_left; (simp only [Act.put, zz1, zz2, zz3, i64_w, i32_w]; rfl)
                refine last_ (i := 12) (N := some 85) #[τ,τ,τ,τ,τ,τ,τ,τ,τ,τ,τ,τ,τ,φ,φ] rfl rfl (one_of HT_.out (by kernel_rfl)) (by decide) (fun K hK => ?_)
                refine value_ (w1 := ?_) (v := ?_) (by rfl) rfl ?_ ?_
                rotate_left 2
                · go_simp
                  constructor
                  · rfl
                  · rfl
                refine hK.out _ _ ?_
                clear hK K
                refine norm_ (a' := ?_) ?_ ?_
                rotate_left
                · show Act.put _ (some 85) _ = _
                  simp only [Act.put, zz1, zz2, zz3, i64_w, i32_w]
                  rfl
                refine last_ (i := 13) (N := some 86) #[τ,τ,τ,τ,τ,τ,τ,τ,τ,τ,τ,τ,τ,τ,φ] rfl rfl (one_of HT_.out (by kernel_rfl)) (by decide) (fun K hK => ?_)
                refine Kd.R_append_step kP (w0 := U) U.heap.size (by rfl) (.tmp 73) (.tmp 85) 93 72 (.agg #[.int .i64 0, .int .i64 0]) 16 rfl Tryd.underlying93 infoFP rfl (by decide) (by omega) u5 ps ((y, z)) [.int .i64 y, .int .i64 z] (fun _ => True) (fun _ => False) rfl rfl (kP_mkM _ _ _ _) (fun _ hk => hk.elim) (fun _ _ => trivial) HRd.out HBr.out HBr.out.size HAL.out ?_
                intro v9 W9 ho hb hg9 hat9
                refine hK.out _ _ ?_
                clear hK K
                refine norm_ (a' := ?_) ?_ ?_
                rotate_left
                · show Act.put _ (some 86) _ = _
                  simp only [Act.put, zz1, zz2, zz3, i64_w, i32_w]
                  rfl
                refine pure_ (i := 14) (N := some 5) (v := ?_) (a' := ?_) #[τ,τ,τ,τ,τ,τ,τ,τ,τ,τ,τ,τ,τ,τ,τ] rfl rfl (any_of HT_.out (by kernel_rfl)) (fun _ _ _ h => h) (Or.inl ⟨by rfl, ?_⟩) ?_ ?_
                rotate_left; (intro w'; go_simp; with_reducible rfl); rotate_left; (simp only [Act.put, zz1, zz2, zz3, i64_w, i32_w]; rfl)
                refine done_ (done_of HT_.out (by kernel_rfl)) ?_
                have HO := Aside0.mk ho
                have HB9 := Aside0.mk hb
                clear ho hb hg9 hat9
                go_wp2_with (fail)
                go_roundw
                case rel => exact ⟨i + 1, ps ++ [(y, z)], by omega, by first | (rw [hw]; done) | (rw [Int.natCast_add]; rfl), HO, HB9, ⟨by rw [List.length_append, HI.out.1]; rfl, by rw [HI.out.2, HRe.out]; cases recP x t (t.f3.drop (i + 1)) (i + 1) <;> simp⟩⟩
                case measure => first | (rw [hw]; simp only [intOf]; omega) | (simp only [intOf]; omega)
              · have HRe := Aside0.mk (show recP x t t.f3 0 = none by
                  rw [HI.out.2, HDr.out]
                  unfold recP
                  rw [hki]
                  rfl)
                clear hki
                go_wp2_with (fail)
                go_ret3
                rw [HP.out, HRe.out]
                exact ⟨_, rfl, Kd.R_nil _ _ _ _ _, HBU.out.trans (HBo.out.mono HBV.out)⟩
            · obtain rfl : i = t.f3.length := by omega
              have HRe := Aside0.mk (show recP x t t.f3 0 = some ps by
                rw [HI.out.2, List.drop_length]
                unfold recP
                simp)
              go_wp2_with (fail)
              go_ret3
              rw [HP.out, HRe.out]
              exact ⟨_, rfl, Kd.R_lower HRo.out HBV.out, HBU.out.trans (HBo.out.mono HBV.out)⟩
      · have q3 : (x.f1 != t.f1) = true := by simpa using hu
        have HP := Aside0.mk (show plainP x t = ([], false) from if_neg (fun h => hu h.2.2))
        clear hk hn hu
        go_wp2_with (fail)
        go_ret3
        rw [HP.out]
        exact ⟨_, rfl, Kd.R_nil _ _ _ _ _, HBU.out⟩
    · have q2 : (x.f2.toList == t.f2.toList) = false := by simp; exact fun h => hn (toList_inj h)
      have HP := Aside0.mk (show plainP x t = ([], false) from if_neg (fun h => hn h.2.1))
      clear hk hn
      go_wp2_with (fail)
      go_ret3
      rw [HP.out]
      exact ⟨_, rfl, Kd.R_nil _ _ _ _ _, HBU.out⟩
  · have q1 : (x.f0 != t.f0) = true := by simpa using hk
    have HP := Aside0.mk (show plainP x t = ([], false) from if_neg (fun h => hk h.1))
    clear hk
    go_wp2_with (fail)
    go_ret3
    rw [HP.out]
    exact ⟨_, rfl, Kd.R_nil _ _ _ _ _, HBU.out⟩
end Go.Proofs.YthkoockcfnbpiaaDoor.W5
