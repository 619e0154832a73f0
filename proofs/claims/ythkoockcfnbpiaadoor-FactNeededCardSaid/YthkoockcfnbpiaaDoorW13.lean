/- Facts are found: Find. -/
import Derived.Test.YthkoockcfnbpiaaDoorProg
import Derived.Test.YthkoockcfnbpiaaDoorWWords
import Derived.Test.YthkoockcfnbpiaaDoorWLast
import Derived.Test.YthkoockcfnbpiaaDoorW12
namespace Go.Proofs.YthkoockcfnbpiaaDoor.W13
open Go.RowKit Go.Proofs.YthkoockcfnbpiaaDoorW.PrintWords Go.Proofs.YthkoockcfnbpiaaDoorW.PrintLast Go.Proofs.YthkoockcfnbpiaaDoorW.PrintMore Go.Proofs.YthkoockcfnbpiaaDoor L1 L4 G1 G2 S1 S2 S3 S4 S5 S8 F1 S10 S11 F2 F3 W1 W2 W3 W4 W5 W6 W7 W8 W9 W10 W11 W12
set_option linter.unusedVariables false
set_option linter.unusedSimpArgs false
def fn8.T8 : Bool × List (List Nat × List Nat) := (true, [([], []), ([0], [0]), ([1], [1]), ([], []), ([3], [3]), ([2, 4], [2, 4]), ([5], [5]), ([6, 5], [6]), ([7], [7]), ([8, 7], [7, 8]), ([9, 7], [7, 9]), ([7], [7]), ([11, 7], [7, 11]), ([10, 12, 7, 7], [7, 10, 12]), ([13, 7], [7, 13]), ([7, 14], [7, 14])])
def fn8.B8 : List Nat := [0, 1, 3, 0, 8, 31, 63, 127, 255, 511, 1023, 255, 2303, 8191, 16383, 32767]
theorem fn8.tab8 : rtab .any (opsOf Tryd.f12 8) = fn8.T8 := by kernel_rfl
theorem fn8.bits8 : waitsOk fn8.T8.2 fn8.B8 = true := by kernel_rfl
theorem find_yes : ∀ n, FindC n
  | 0 => fun w0 W xb m A0 c0 g v1 l ok a b hc h16 hK hS hok hfr hp hgd hfu => by
    have := hgd.len
    omega
  | n + 1 => find_step n (find_yes n)
/-- What Find answers. -/
def FindP (g : List GN) (ps : List (Int × Int)) (w : World) (e : Ending) (w' : World) : Prop :=
  (checkP g ≠ 0 ∧ e = .returned (.tuple #[.slice none 0 0, .slice none 0 0, .int .i64 (checkP g)])) ∨
  (checkP g = 0 ∧ (∃ p ∈ ps, (inP g.length p.1 && inP g.length p.2) = false) ∧ e = .returned (.tuple #[.slice none 0 0, .slice none 0 0, .int .i64 9])) ∨
  (checkP g = 0 ∧ (∀ p ∈ ps, (inP g.length p.1 && inP g.length p.2) = true) ∧ (∃ p ∈ ps, mayB false g p.1 p.2 = false) ∧ e = .returned (.tuple #[.slice none 0 0, .slice none 0 0, .int .i64 160])) ∨
  (checkP g = 0 ∧ (∀ p ∈ ps, Pr g p) ∧ ∃ vl va, e = .returned (.tuple #[vl, va, .int .i64 0]) ∧ Kd.R P.k37 37 w' w.heap.size (fun _ => True) vl (findsP (pickN g) g ps).2 ∧ Kd.R (Kd.int .i64) 3 w' w.heap.size (fun _ => True) va (findsP (pickN g) g ps).1)
theorem pr_of {g : List GN} {p : Int × Int} (h1 : (inP g.length p.1 && inP g.length p.2) = true) (h2 : mayB false g p.1 p.2 = true) : Pr g p := by
  rw [Bool.and_eq_true, inP_iff, inP_iff] at h1
  exact ⟨h1.1.1, h1.1.2, h1.2.1, h1.2.2, ((mayB_iff false g p.1 p.2).1 h2).2⟩
theorem done_ne {g : List GN} (hc : checkP g = 0) {l : List FC} {ks : List Int} {ps : List (Int × Int)} (h : Fnd g [] l ks ps) : ∀ f ∈ l, f.f2 ≠ [] := by
  intro f hf e
  have hd := h.all hc hf
  have hw := hd.why
  rw [e] at hw
  have h1 := congrArg List.length hw
  rw [List.length_append] at h1
  simp at h1
  by_cases h8 : (nd g f.f0).f0 = 8
  · obtain ⟨a, ha⟩ := Int.eq_ofNat_of_zero_le hd.pr.a0
    dsimp only at ha
    have hal : a < g.length := by have := hd.pr.a1; dsimp only at this; omega
    have hby : byP g (mk0 (pickN g) g (f.f0, f.f1)) = ((nd g f.f0).f4.map fun m => (m, f.f1), true) := if_pos h8
    have ht := hd.tgt
    rw [hby] at ht
    have h2 := congrArg List.length ht
    simp only [List.length_map] at h2
    have h3 := union_two hc hal (by rw [← ha]; exact h8)
    rw [← ha] at h3
    have h5 : (onP g f).length = 0 := by omega
    rw [h5] at h2
    omega
  · have h3 : (mk0 (pickN g) g (f.f0, f.f1)).f2 = [pickN g f.f0 f.f1] := if_neg h8
    rw [h3] at h1
    simp only [List.length_singleton] at h1
    omega
set_option maxHeartbeats 4000000 in
set_option maxRecDepth 100000 in
theorem finds_yes (A0 : Option Addr) (c0 : Nat) (g : List GN) (A2 : Option Addr) (c2 : Nat) (ps : List (Int × Int)) (w : World) (hK : Keys w) (hg : Kd.C P.k45 w A0 g.length g) (hgc : g.length ≤ c0) (h16 : g.length ≤ 16) (hp : Kd.C kP w A2 ps.length ps) (hpc : ps.length ≤ c2) (hpl : ps.length ≤ 1000) :
    Calls Tryd.prog 12 #[.slice A0 g.length c0, .slice A2 ps.length c2] w fun e w' => FindP g ps w e w' ∧ Below w.heap.size w w' := by
  have HK := Aside0.mk hK
  have HG := Aside0.mk hg
  have HGc := Aside0.mk hgc
  have H16 := Aside0.mk h16
  have HPs := Aside0.mk hp
  have HPc := Aside0.mk hpc
  have HPl := Aside0.mk hpl
  clear hK hg hgc h16 hp hpc hpl
  go_enter Tryd.func12, Tryd.ntmps12
  go_wp2_with (fail)
  refine (check_yes A0 c0 g w HK.out HG.out HGc.out).mono ?_
  rintro e W1 ⟨rfl, hb⟩
  have HB1 := Aside0.mk hb
  clear hb
  by_cases hc : checkP g = 0
  · have hcb : (checkP g != 0) = false := by simp [hc]
    have HC := Aside0.mk hc
    clear hc
    have hmm := @run_makeMap Tryd.prog
    have hv1 := heap_alloc_new (W1.alloc (.map #[] 0)) (.cells #[.slice A0 g.length c0, .slice none 0 0, .map (some W1.heap.size)] 68)
    rw [World.size_alloc] at hv1
    have hbv := below_alloc (below_alloc (Below.refl W1.heap.size W1) (.map #[] 0)) (.cells #[.slice A0 g.length c0, .slice none 0 0, .map (some W1.heap.size)] 68)
    have HF0 : Aside0 (FdS w ((W1.alloc (.map #[] 0)).alloc (.cells #[.slice A0 g.length c0, .slice none 0 0, .map (some W1.heap.size)] 68)) (W1.heap.size + 1) W1.heap.size A0 c0 g (.slice none 0 0) [] (fm []) (fun k => k ≠ W1.heap.size + 1 ∧ k ≠ W1.heap.size)) := ⟨⟨HB1.out.trans (hbv.mono HB1.out.size), by have := HB1.out.size; omega, HB1.out.size, by omega, hv1, (M1.Mp.made W1 (by have := H16.out; omega)).alloc _, Kd.R_nil _ _ _ _ _, HG.out, HGc.out⟩⟩
    have HBV := Aside0.mk (HB1.out.trans (hbv.mono HB1.out.size))
    clear hv1 hbv
    go_wp2_with (fail)
    generalize (W1.alloc (.map #[] 0)).alloc (.cells #[.slice A0 g.length c0, .slice none 0 0, .map (some W1.heap.size)] 68) = V at HF0 HBV ⊢
    try rw [World.size_alloc]
    generalize hxb : W1.heap.size + 1 = xb at HF0 ⊢
    generalize hm_ : W1.heap.size = m at HF0 ⊢
    clear hmm
    have HLV := Aside0.mk (show m < V.heap.size ∧ xb < V.heap.size ∧ w.heap.size ≤ V.heap.size from ⟨HF0.out.mp.lt, blk_lt HF0.out.blk, HBV.out.size⟩)
    go_loopw [5, 27] (fun v5 v27 wr => ∃ i : Nat, i ≤ ps.length ∧ v5 = .slice none 0 0 ∧ v27 = .int .i64 i ∧ Aside0 (Below V.heap.size V wr) ∧ Aside0 (∀ p ∈ ps.take i, (inP g.length p.1 && inP g.length p.2) = true)) (fun v5 v27 _ => ps.length + 1 - (intOf v27).toNat)
    case atStart => exact ⟨0, by omega, rfl, rfl, ⟨Below.refl _ _⟩, ⟨fun p hp => by simp at hp⟩⟩
    case round =>
      obtain ⟨i, hi, rfl, rfl, HBo, HI⟩ := hrel
      rename World => X
      have hw : wrap64 ((i : Int) + 1) = ((i + 1 : Nat) : Int) := by have := HPl.out; unfold wrap64; omega
      by_cases hlt : i < ps.length
      · have HBX := Aside0.mk (HBV.out.trans (HBo.out.mono HBV.out.size))
        obtain ⟨ad2, e2, p0, p1⟩ := at_P (Kd.C_below HPs.out HBX.out) (i : Int) (by omega) (by omega)
        subst e2
        rw [Int.toNat_natCast] at p0 p1
        obtain ⟨⟨pa, pb⟩, hpp⟩ : ∃ pp, pp = ps.getD i (0, 0) := ⟨_, rfl⟩
        rw [← hpp] at p0 p1
        dsimp only at p0 p1
        have HPm := Aside0.mk (show (pa, pb) ∈ ps by rw [hpp, List.getD_eq_getElem?_getD, List.getElem?_eq_getElem hlt]; exact List.getElem_mem hlt)
        have HTk := Aside0.mk (show ps.take (i + 1) = ps.take i ++ [(pa, pb)] by
          rw [List.take_add_one, List.getElem?_eq_getElem hlt, hpp, List.getD_eq_getElem?_getD, List.getElem?_eq_getElem hlt]
          rfl)
        have hq := heap_alloc_new X (.cells #[.int .i64 pa, .int .i64 pb] 28)
        have hbx := below_drew (below_alloc (Below.refl X.heap.size X) (.cells #[.int .i64 pa, .int .i64 pb] 28))
        have HBd := Aside0.mk (HBo.out.trans (hbx.mono HBo.out.size))
        have y0 := drew_cell ((blk_cell hq 0).trans rfl)
        have y1 := drew_cell ((blk_cell hq 1).trans rfl)
        have e1 : ((i : Int) < (ps.length : Int)) = True := eq_true (by omega)
        clear hpp hq hbx
        cases h1 : inP g.length pa with
        | false =>
          have HE := Aside0.mk h1
          clear h1
          go_wp2_with (fail)
          generalize hq10 : X.heap.size = q10 at y0 y1 ⊢
          refine start_ (n := 16) (S := fun w' => w'.cell? ⟨q10, 0, none⟩ = some (.int .i64 pa) ∧ w'.cell? ⟨q10, 1, none⟩ = some (.int .i64 pb)) (ds := []) #[φ,φ,φ,φ,φ,φ,φ,φ,φ,φ,φ,φ,φ,φ,φ,φ] (by kernel_rfl) rfl rfl ⟨y0, y1⟩ (fun hHeld => ?_)
          generalize (X.alloc (.cells #[.int .i64 pa, .int .i64 pb] 28)).drew = X1 at y0 y1 HBd hHeld ⊢
          refine with_tabW fn8.tab8 fn8.bits8 (fun HT_ HW_ => ?_)
          refine pure_ (i := 0) (N := some 31) (v := ?_) (a' := ?_) #[τ,φ,φ,φ,φ,φ,φ,φ,φ,φ,φ,φ,φ,φ,φ,φ] rfl rfl (any_of HT_.out (by kernel_rfl)) (fun _ _ _ h => h) (Or.inl ⟨by rfl, ?_⟩) ?_ ?_
          rotate_left; (intro w'; go_simp; with_reducible rfl); rotate_left; (simp only [Act.put, zz1, zz2, zz3, i64_w, i32_w]; rfl)
          refine pure_ (i := 1) (N := some 32) (v := ?_) (a' := ?_) #[τ,τ,φ,φ,φ,φ,φ,φ,φ,φ,φ,φ,φ,φ,φ,φ] rfl rfl (any_of HT_.out (by kernel_rfl)) (fun _ _ _ h => h) (Or.inl ⟨by rfl, ?_⟩) ?_ ?_
          rotate_left; (intro w'; go_simp; with_reducible rfl); rotate_left; (simp only [Act.put, zz1, zz2, zz3, i64_w, i32_w]; rfl)
          refine pure_ (i := 2) (N := some 33) (v := ?_) (a' := ?_) #[τ,τ,τ,φ,φ,φ,φ,φ,φ,φ,φ,φ,φ,φ,φ,φ] rfl rfl (any_of HT_.out (by kernel_rfl)) (fun _ _ _ h => h) (Or.inl ⟨by rfl, ?_⟩) ?_ ?_
          rotate_left; (intro w'; go_simp; with_reducible rfl); rotate_left; (simp only [Act.put, zz1, zz2, zz3, i64_w, i32_w]; rfl)
          refine pure_ (i := 3) (N := some 34) (v := ?_) (a' := ?_) #[τ,τ,τ,τ,φ,φ,φ,φ,φ,φ,φ,φ,φ,φ,φ,φ] rfl rfl (any_of HT_.out (by kernel_rfl)) (fun _ _ _ h => h) (Or.inl ⟨by rfl, ?_⟩) ?_ ?_
          rotate_left; (intro w'; go_simp; with_reducible rfl); rotate_left; (simp only [Act.put, zz1, zz2, zz3, i64_w, i32_w]; rfl)
          refine take_ (i := 4) (N := some 35) (v := ?_) (a' := ?_) #[τ,τ,τ,τ,τ,φ,φ,φ,φ,φ,φ,φ,φ,φ,φ,φ] rfl rfl (take_ofW HT_.out HW_.out (by kernel_rfl)) (fun _ _ _ h => h) (Or.inl ⟨by rfl, ?_⟩) hHeld ?_ ?_
          rotate_left; (rintro w' ⟨s0, s1⟩; go_simp; with_reducible rfl); rotate_left; (simp only [Act.put, zz1, zz2, zz3, i64_w, i32_w]; rfl)
          refine one_ (i := 5) (N := some 36) #[τ,τ,τ,τ,τ,τ,φ,φ,φ,φ,φ,φ,φ,φ,φ,φ] rfl rfl (one_of HT_.out (by kernel_rfl)) (by decide) (fun K hK => ?_)
          refine goes_ Tryd.func29 (by kernel_rfl) rfl #[.pointer (some ⟨xb, 0, none⟩), .int .i64 pa] (by rfl) rfl rfl (by simp only [List.map_toArray, List.map_cons, List.map_nil]; rfl) ?_
          with_reducible refine (place_yes xb A0 g.length c0 pa X1 ((blk_cell (HF0.out.below HBd.out).blk 0).trans rfl)).mono ?_
          rintro e X2 ⟨rfl, hb2⟩
          rw [HE.out]
          have HBe := Aside0.mk (HBd.out.trans (hb2.mono HBd.out.size))
          have r0 := pw_cell_below hb2 y0
          have r1 := pw_cell_below hb2 y1
          clear hb2
          refine ⟨_, rfl, ?_⟩
          refine hK.out _ _ ⟨r0, r1⟩ (fun hHeld => ?_)
          clear hK K
          refine norm_ (a' := ?_) ?_ ?_
          rotate_left
          · show Act.put _ (some 36) _ = _
            simp only [Act.put, zz1, zz2, zz3, i64_w, i32_w]
            rfl
          refine pure_ (i := 6) (N := some 37) (v := ?_) (a' := ?_) #[τ,τ,τ,τ,τ,τ,τ,φ,φ,φ,φ,φ,φ,φ,φ,φ] rfl rfl (any_of HT_.out (by kernel_rfl)) (fun _ _ _ h => h) (Or.inl ⟨by rfl, ?_⟩) ?_ ?_
          rotate_left; (intro w'; go_simp; with_reducible rfl); rotate_left; (simp only [Act.put, zz1, zz2, zz3, i64_w, i32_w]; rfl)
          refine pure_ (i := 7) (N := some 38) (v := ?_) (a' := ?_) #[τ,τ,τ,τ,τ,τ,τ,τ,φ,φ,φ,φ,φ,φ,φ,φ] rfl rfl (any_of HT_.out (by kernel_rfl)) (fun _ _ _ h => h) (Or.inl ⟨by rfl, ?_⟩) ?_ ?_
          rotate_left; (intro w'; go_simp; with_reducible rfl); rotate_left; (simp only [Act.put, zz1, zz2, zz3, i64_w, i32_w]; rfl)
          refine pure_ (i := 8) (N := some 39) (v := undef) (a' := ?_) #[τ,τ,τ,τ,τ,τ,τ,τ,τ,φ,φ,φ,φ,φ,φ,φ] rfl rfl (any_of HT_.out (by kernel_rfl)) (fun _ _ _ h => h) (Or.inr ⟨by rfl, rfl⟩) ?_ ?_
          rotate_left; (simp only [Act.put, zz1, zz2, zz3, i64_w, i32_w]; rfl)
          refine pure_ (i := 9) (N := some 40) (v := undef) (a' := ?_) #[τ,τ,τ,τ,τ,τ,τ,τ,τ,τ,φ,φ,φ,φ,φ,φ] rfl rfl (any_of HT_.out (by kernel_rfl)) (fun _ _ _ h => h) (Or.inr ⟨by rfl, rfl⟩) ?_ ?_
          rotate_left; (simp only [Act.put, zz1, zz2, zz3, i64_w, i32_w]; rfl)
          refine pure_ (i := 10) (N := some 41) (v := undef) (a' := ?_) #[τ,τ,τ,τ,τ,τ,τ,τ,τ,τ,τ,φ,φ,φ,φ,φ] rfl rfl (any_of HT_.out (by kernel_rfl)) (fun _ _ _ h => h) (Or.inr ⟨by rfl, rfl⟩) ?_ ?_
          rotate_left; (simp only [Act.put, zz1, zz2, zz3, i64_w, i32_w]; rfl)
          refine pure_ (i := 11) (N := some 42) (v := undef) (a' := ?_) #[τ,τ,τ,τ,τ,τ,τ,τ,τ,τ,τ,τ,φ,φ,φ,φ] rfl rfl (any_of HT_.out (by kernel_rfl)) (fun _ _ _ h => h) (Or.inr ⟨by rfl, rfl⟩) ?_ ?_
          rotate_left; (simp only [Act.put, zz1, zz2, zz3, i64_w, i32_w]; rfl)
          refine pure_ (i := 12) (N := some 43) (v := undef) (a' := ?_) #[τ,τ,τ,τ,τ,τ,τ,τ,τ,τ,τ,τ,τ,φ,φ,φ] rfl rfl (any_of HT_.out (by kernel_rfl)) (fun _ _ _ h => h) (Or.inr ⟨by rfl, rfl⟩) ?_ ?_
          rotate_left; (simp only [Act.put, zz1, zz2, zz3, i64_w, i32_w]; rfl)
          refine pure_ (i := 13) (N := some 44) (v := undef) (a' := ?_) #[τ,τ,τ,τ,τ,τ,τ,τ,τ,τ,τ,τ,τ,τ,φ,φ] rfl rfl (any_of HT_.out (by kernel_rfl)) (fun _ _ _ h => h) (Or.inr ⟨by rfl, rfl⟩) ?_ ?_
          rotate_left; (simp only [Act.put, zz1, zz2, zz3, i64_w, i32_w]; rfl)
          refine pure_ (i := 14) (N := some 45) (v := undef) (a' := ?_) #[τ,τ,τ,τ,τ,τ,τ,τ,τ,τ,τ,τ,τ,τ,τ,φ] rfl rfl (any_of HT_.out (by kernel_rfl)) (fun _ _ _ h => h) (Or.inr ⟨by rfl, rfl⟩) ?_ ?_
          rotate_left; (simp only [Act.put, zz1, zz2, zz3, i64_w, i32_w]; rfl)
          refine pure_ (i := 15) (N := some 46) (v := ?_) (a' := ?_) #[τ,τ,τ,τ,τ,τ,τ,τ,τ,τ,τ,τ,τ,τ,τ,τ] rfl rfl (any_of HT_.out (by kernel_rfl)) (fun _ _ _ h => h) (Or.inl ⟨by rfl, ?_⟩) ?_ ?_
          rotate_left; (intro w'; go_simp; with_reducible rfl); rotate_left; (simp only [Act.put, zz1, zz2, zz3, i64_w, i32_w]; rfl)
          refine done_ (done_of HT_.out (by kernel_rfl)) ?_
          go_wp2_with (fail)
          go_ret3
          exact ⟨.inr (.inl ⟨HC.out, ⟨_, HPm.out, by rw [HE.out]; rfl⟩, rfl⟩), HBV.out.trans (HBe.out.mono HBV.out.size)⟩
        | true =>
          cases h2 : inP g.length pb with
          | false =>
            have HE := Aside0.mk (And.intro h1 h2)
            clear h1 h2
            go_wp2_with (fail)
            generalize hq10 : X.heap.size = q10 at y0 y1 ⊢
            refine start_ (n := 16) (S := fun w' => w'.cell? ⟨q10, 0, none⟩ = some (.int .i64 pa) ∧ w'.cell? ⟨q10, 1, none⟩ = some (.int .i64 pb)) (ds := []) #[φ,φ,φ,φ,φ,φ,φ,φ,φ,φ,φ,φ,φ,φ,φ,φ] (by kernel_rfl) rfl rfl ⟨y0, y1⟩ (fun hHeld => ?_)
            generalize (X.alloc (.cells #[.int .i64 pa, .int .i64 pb] 28)).drew = X1 at y0 y1 HBd hHeld ⊢
            refine with_tabW fn8.tab8 fn8.bits8 (fun HT_ HW_ => ?_)
            refine pure_ (i := 0) (N := some 31) (v := ?_) (a' := ?_) #[τ,φ,φ,φ,φ,φ,φ,φ,φ,φ,φ,φ,φ,φ,φ,φ] rfl rfl (any_of HT_.out (by kernel_rfl)) (fun _ _ _ h => h) (Or.inl ⟨by rfl, ?_⟩) ?_ ?_
            rotate_left; (intro w'; go_simp; with_reducible rfl); rotate_left; (simp only [Act.put, zz1, zz2, zz3, i64_w, i32_w]; rfl)
            refine pure_ (i := 1) (N := some 32) (v := ?_) (a' := ?_) #[τ,τ,φ,φ,φ,φ,φ,φ,φ,φ,φ,φ,φ,φ,φ,φ] rfl rfl (any_of HT_.out (by kernel_rfl)) (fun _ _ _ h => h) (Or.inl ⟨by rfl, ?_⟩) ?_ ?_
            rotate_left; (intro w'; go_simp; with_reducible rfl); rotate_left; (simp only [Act.put, zz1, zz2, zz3, i64_w, i32_w]; rfl)
            refine pure_ (i := 2) (N := some 33) (v := ?_) (a' := ?_) #[τ,τ,τ,φ,φ,φ,φ,φ,φ,φ,φ,φ,φ,φ,φ,φ] rfl rfl (any_of HT_.out (by kernel_rfl)) (fun _ _ _ h => h) (Or.inl ⟨by rfl, ?_⟩) ?_ ?_
            rotate_left; (intro w'; go_simp; with_reducible rfl); rotate_left; (simp only [Act.put, zz1, zz2, zz3, i64_w, i32_w]; rfl)
            refine pure_ (i := 3) (N := some 34) (v := ?_) (a' := ?_) #[τ,τ,τ,τ,φ,φ,φ,φ,φ,φ,φ,φ,φ,φ,φ,φ] rfl rfl (any_of HT_.out (by kernel_rfl)) (fun _ _ _ h => h) (Or.inl ⟨by rfl, ?_⟩) ?_ ?_
            rotate_left; (intro w'; go_simp; with_reducible rfl); rotate_left; (simp only [Act.put, zz1, zz2, zz3, i64_w, i32_w]; rfl)
            refine take_ (i := 4) (N := some 35) (v := ?_) (a' := ?_) #[τ,τ,τ,τ,τ,φ,φ,φ,φ,φ,φ,φ,φ,φ,φ,φ] rfl rfl (take_ofW HT_.out HW_.out (by kernel_rfl)) (fun _ _ _ h => h) (Or.inl ⟨by rfl, ?_⟩) hHeld ?_ ?_
            rotate_left; (rintro w' ⟨s0, s1⟩; go_simp; with_reducible rfl); rotate_left; (simp only [Act.put, zz1, zz2, zz3, i64_w, i32_w]; rfl)
            refine one_ (i := 5) (N := some 36) #[τ,τ,τ,τ,τ,τ,φ,φ,φ,φ,φ,φ,φ,φ,φ,φ] rfl rfl (one_of HT_.out (by kernel_rfl)) (by decide) (fun K hK => ?_)
            refine goes_ Tryd.func29 (by kernel_rfl) rfl #[.pointer (some ⟨xb, 0, none⟩), .int .i64 pa] (by rfl) rfl rfl (by simp only [List.map_toArray, List.map_cons, List.map_nil]; rfl) ?_
            with_reducible refine (place_yes xb A0 g.length c0 pa X1 ((blk_cell (HF0.out.below HBd.out).blk 0).trans rfl)).mono ?_
            rintro e X2 ⟨rfl, hb2⟩
            rw [HE.out.1]
            have HBe := Aside0.mk (HBd.out.trans (hb2.mono HBd.out.size))
            have r0 := pw_cell_below hb2 y0
            have r1 := pw_cell_below hb2 y1
            clear hb2
            refine ⟨_, rfl, ?_⟩
            refine hK.out _ _ ⟨r0, r1⟩ (fun hHeld => ?_)
            clear hK K
            refine norm_ (a' := ?_) ?_ ?_
            rotate_left
            · show Act.put _ (some 36) _ = _
              simp only [Act.put, zz1, zz2, zz3, i64_w, i32_w]
              rfl
            refine pure_ (i := 6) (N := some 37) (v := ?_) (a' := ?_) #[τ,τ,τ,τ,τ,τ,τ,φ,φ,φ,φ,φ,φ,φ,φ,φ] rfl rfl (any_of HT_.out (by kernel_rfl)) (fun _ _ _ h => h) (Or.inl ⟨by rfl, ?_⟩) ?_ ?_
            rotate_left; (intro w'; go_simp; with_reducible rfl); rotate_left; (simp only [Act.put, zz1, zz2, zz3, i64_w, i32_w]; rfl)
            refine pure_ (i := 7) (N := some 38) (v := ?_) (a' := ?_) #[τ,τ,τ,τ,τ,τ,τ,τ,φ,φ,φ,φ,φ,φ,φ,φ] rfl rfl (any_of HT_.out (by kernel_rfl)) (fun _ _ _ h => h) (Or.inl ⟨by rfl, ?_⟩) ?_ ?_
            rotate_left; (intro w'; go_simp; with_reducible rfl); rotate_left; (simp only [Act.put, zz1, zz2, zz3, i64_w, i32_w]; rfl)
            refine pure_ (i := 8) (N := some 39) (v := ?_) (a' := ?_) #[τ,τ,τ,τ,τ,τ,τ,τ,τ,φ,φ,φ,φ,φ,φ,φ] rfl rfl (any_of HT_.out (by kernel_rfl)) (fun _ _ _ h => h) (Or.inl ⟨by rfl, ?_⟩) ?_ ?_
            rotate_left; (intro w'; go_simp; with_reducible rfl); rotate_left; (simp only [Act.put, zz1, zz2, zz3, i64_w, i32_w]; rfl)
            refine pure_ (i := 9) (N := some 40) (v := ?_) (a' := ?_) #[τ,τ,τ,τ,τ,τ,τ,τ,τ,τ,φ,φ,φ,φ,φ,φ] rfl rfl (any_of HT_.out (by kernel_rfl)) (fun _ _ _ h => h) (Or.inl ⟨by rfl, ?_⟩) ?_ ?_
            rotate_left; (intro w'; go_simp; with_reducible rfl); rotate_left; (simp only [Act.put, zz1, zz2, zz3, i64_w, i32_w]; rfl)
            refine pure_ (i := 10) (N := some 41) (v := ?_) (a' := ?_) #[τ,τ,τ,τ,τ,τ,τ,τ,τ,τ,τ,φ,φ,φ,φ,φ] rfl rfl (any_of HT_.out (by kernel_rfl)) (fun _ _ _ h => h) (Or.inl ⟨by rfl, ?_⟩) ?_ ?_
            rotate_left; (intro w'; go_simp; with_reducible rfl); rotate_left; (simp only [Act.put, zz1, zz2, zz3, i64_w, i32_w]; rfl)
            refine pure_ (i := 11) (N := some 42) (v := ?_) (a' := ?_) #[τ,τ,τ,τ,τ,τ,τ,τ,τ,τ,τ,τ,φ,φ,φ,φ] rfl rfl (any_of HT_.out (by kernel_rfl)) (fun _ _ _ h => h) (Or.inl ⟨by rfl, ?_⟩) ?_ ?_
            rotate_left; (intro w'; go_simp; with_reducible rfl); rotate_left; (simp only [Act.put, zz1, zz2, zz3, i64_w, i32_w]; rfl)
            refine take_ (i := 12) (N := some 43) (v := ?_) (a' := ?_) #[τ,τ,τ,τ,τ,τ,τ,τ,τ,τ,τ,τ,τ,φ,φ,φ] rfl rfl (take_ofW HT_.out HW_.out (by kernel_rfl)) (fun _ _ _ h => h) (Or.inl ⟨by rfl, ?_⟩) hHeld ?_ ?_
            rotate_left; (rintro w' ⟨s0, s1⟩; go_simp; with_reducible rfl); rotate_left; (simp only [Act.put, zz1, zz2, zz3, i64_w, i32_w]; rfl)
            refine one_ (i := 13) (N := some 44) #[τ,τ,τ,τ,τ,τ,τ,τ,τ,τ,τ,τ,τ,τ,φ,φ] rfl rfl (one_of HT_.out (by kernel_rfl)) (by decide) (fun K hK => ?_)
            refine goes_ Tryd.func29 (by kernel_rfl) rfl #[.pointer (some ⟨xb, 0, none⟩), .int .i64 pb] (by rfl) rfl rfl (by simp only [List.map_toArray, List.map_cons, List.map_nil]; rfl) ?_
            with_reducible refine (place_yes xb A0 g.length c0 pb X2 ((blk_cell (HF0.out.below HBe.out).blk 0).trans rfl)).mono ?_
            rintro e X3 ⟨rfl, hb3⟩
            rw [HE.out.2]
            have HBe := Aside0.mk (HBe.out.trans (hb3.mono HBe.out.size))
            have r0 := pw_cell_below hb3 r0
            have r1 := pw_cell_below hb3 r1
            clear hb3
            refine ⟨_, rfl, ?_⟩
            refine hK.out _ _ ⟨r0, r1⟩ (fun hHeld => ?_)
            clear hK K
            refine norm_ (a' := ?_) ?_ ?_
            rotate_left
            · show Act.put _ (some 44) _ = _
              simp only [Act.put, zz1, zz2, zz3, i64_w, i32_w]
              rfl
            refine pure_ (i := 14) (N := some 45) (v := ?_) (a' := ?_) #[τ,τ,τ,τ,τ,τ,τ,τ,τ,τ,τ,τ,τ,τ,τ,φ] rfl rfl (any_of HT_.out (by kernel_rfl)) (fun _ _ _ h => h) (Or.inl ⟨by rfl, ?_⟩) ?_ ?_
            rotate_left; (intro w'; go_simp; with_reducible rfl); rotate_left; (simp only [Act.put, zz1, zz2, zz3, i64_w, i32_w]; rfl)
            refine pure_ (i := 15) (N := some 46) (v := ?_) (a' := ?_) #[τ,τ,τ,τ,τ,τ,τ,τ,τ,τ,τ,τ,τ,τ,τ,τ] rfl rfl (any_of HT_.out (by kernel_rfl)) (fun _ _ _ h => h) (Or.inl ⟨by rfl, ?_⟩) ?_ ?_
            rotate_left; (intro w'; go_simp; with_reducible rfl); rotate_left; (simp only [Act.put, zz1, zz2, zz3, i64_w, i32_w]; rfl)
            refine done_ (done_of HT_.out (by kernel_rfl)) ?_
            go_wp2_with (fail)
            go_ret3
            exact ⟨.inr (.inl ⟨HC.out, ⟨_, HPm.out, by rw [HE.out.1, HE.out.2]; rfl⟩, rfl⟩), HBV.out.trans (HBe.out.mono HBV.out.size)⟩
          | true =>
            have HE := Aside0.mk (And.intro h1 h2)
            clear h1 h2
            go_wp2_with (fail)
            generalize hq10 : X.heap.size = q10 at y0 y1 ⊢
            refine start_ (n := 16) (S := fun w' => w'.cell? ⟨q10, 0, none⟩ = some (.int .i64 pa) ∧ w'.cell? ⟨q10, 1, none⟩ = some (.int .i64 pb)) (ds := []) #[φ,φ,φ,φ,φ,φ,φ,φ,φ,φ,φ,φ,φ,φ,φ,φ] (by kernel_rfl) rfl rfl ⟨y0, y1⟩ (fun hHeld => ?_)
            generalize (X.alloc (.cells #[.int .i64 pa, .int .i64 pb] 28)).drew = X1 at y0 y1 HBd hHeld ⊢
            refine with_tabW fn8.tab8 fn8.bits8 (fun HT_ HW_ => ?_)
            refine pure_ (i := 0) (N := some 31) (v := ?_) (a' := ?_) #[τ,φ,φ,φ,φ,φ,φ,φ,φ,φ,φ,φ,φ,φ,φ,φ] rfl rfl (any_of HT_.out (by kernel_rfl)) (fun _ _ _ h => h) (Or.inl ⟨by rfl, ?_⟩) ?_ ?_
            rotate_left; (intro w'; go_simp; with_reducible rfl); rotate_left; (simp only [Act.put, zz1, zz2, zz3, i64_w, i32_w]; rfl)
            refine pure_ (i := 1) (N := some 32) (v := ?_) (a' := ?_) #[τ,τ,φ,φ,φ,φ,φ,φ,φ,φ,φ,φ,φ,φ,φ,φ] rfl rfl (any_of HT_.out (by kernel_rfl)) (fun _ _ _ h => h) (Or.inl ⟨by rfl, ?_⟩) ?_ ?_
            rotate_left; (intro w'; go_simp; with_reducible rfl); rotate_left; (simp only [Act.put, zz1, zz2, zz3, i64_w, i32_w]; rfl)
            refine pure_ (i := 2) (N := some 33) (v := ?_) (a' := ?_) #[τ,τ,τ,φ,φ,φ,φ,φ,φ,φ,φ,φ,φ,φ,φ,φ] rfl rfl (any_of HT_.out (by kernel_rfl)) (fun _ _ _ h => h) (Or.inl ⟨by rfl, ?_⟩) ?_ ?_
            rotate_left; (intro w'; go_simp; with_reducible rfl); rotate_left; (simp only [Act.put, zz1, zz2, zz3, i64_w, i32_w]; rfl)
            refine pure_ (i := 3) (N := some 34) (v := ?_) (a' := ?_) #[τ,τ,τ,τ,φ,φ,φ,φ,φ,φ,φ,φ,φ,φ,φ,φ] rfl rfl (any_of HT_.out (by kernel_rfl)) (fun _ _ _ h => h) (Or.inl ⟨by rfl, ?_⟩) ?_ ?_
            rotate_left; (intro w'; go_simp; with_reducible rfl); rotate_left; (simp only [Act.put, zz1, zz2, zz3, i64_w, i32_w]; rfl)
            refine take_ (i := 4) (N := some 35) (v := ?_) (a' := ?_) #[τ,τ,τ,τ,τ,φ,φ,φ,φ,φ,φ,φ,φ,φ,φ,φ] rfl rfl (take_ofW HT_.out HW_.out (by kernel_rfl)) (fun _ _ _ h => h) (Or.inl ⟨by rfl, ?_⟩) hHeld ?_ ?_
            rotate_left; (rintro w' ⟨s0, s1⟩; go_simp; with_reducible rfl); rotate_left; (simp only [Act.put, zz1, zz2, zz3, i64_w, i32_w]; rfl)
            refine one_ (i := 5) (N := some 36) #[τ,τ,τ,τ,τ,τ,φ,φ,φ,φ,φ,φ,φ,φ,φ,φ] rfl rfl (one_of HT_.out (by kernel_rfl)) (by decide) (fun K hK => ?_)
            refine goes_ Tryd.func29 (by kernel_rfl) rfl #[.pointer (some ⟨xb, 0, none⟩), .int .i64 pa] (by rfl) rfl rfl (by simp only [List.map_toArray, List.map_cons, List.map_nil]; rfl) ?_
            with_reducible refine (place_yes xb A0 g.length c0 pa X1 ((blk_cell (HF0.out.below HBd.out).blk 0).trans rfl)).mono ?_
            rintro e X2 ⟨rfl, hb2⟩
            rw [HE.out.1]
            have HBe := Aside0.mk (HBd.out.trans (hb2.mono HBd.out.size))
            have r0 := pw_cell_below hb2 y0
            have r1 := pw_cell_below hb2 y1
            clear hb2
            refine ⟨_, rfl, ?_⟩
            refine hK.out _ _ ⟨r0, r1⟩ (fun hHeld => ?_)
            clear hK K
            refine norm_ (a' := ?_) ?_ ?_
            rotate_left
            · show Act.put _ (some 36) _ = _
              simp only [Act.put, zz1, zz2, zz3, i64_w, i32_w]
              rfl
            refine pure_ (i := 6) (N := some 37) (v := ?_) (a' := ?_) #[τ,τ,τ,τ,τ,τ,τ,φ,φ,φ,φ,φ,φ,φ,φ,φ] rfl rfl (any_of HT_.out (by kernel_rfl)) (fun _ _ _ h => h) (Or.inl ⟨by rfl, ?_⟩) ?_ ?_
            rotate_left; (intro w'; go_simp; with_reducible rfl); rotate_left; (simp only [Act.put, zz1, zz2, zz3, i64_w, i32_w]; rfl)
            refine pure_ (i := 7) (N := some 38) (v := ?_) (a' := ?_) #[τ,τ,τ,τ,τ,τ,τ,τ,φ,φ,φ,φ,φ,φ,φ,φ] rfl rfl (any_of HT_.out (by kernel_rfl)) (fun _ _ _ h => h) (Or.inl ⟨by rfl, ?_⟩) ?_ ?_
            rotate_left; (intro w'; go_simp; with_reducible rfl); rotate_left; (simp only [Act.put, zz1, zz2, zz3, i64_w, i32_w]; rfl)
            refine pure_ (i := 8) (N := some 39) (v := ?_) (a' := ?_) #[τ,τ,τ,τ,τ,τ,τ,τ,τ,φ,φ,φ,φ,φ,φ,φ] rfl rfl (any_of HT_.out (by kernel_rfl)) (fun _ _ _ h => h) (Or.inl ⟨by rfl, ?_⟩) ?_ ?_
            rotate_left; (intro w'; go_simp; with_reducible rfl); rotate_left; (simp only [Act.put, zz1, zz2, zz3, i64_w, i32_w]; rfl)
            refine pure_ (i := 9) (N := some 40) (v := ?_) (a' := ?_) #[τ,τ,τ,τ,τ,τ,τ,τ,τ,τ,φ,φ,φ,φ,φ,φ] rfl rfl (any_of HT_.out (by kernel_rfl)) (fun _ _ _ h => h) (Or.inl ⟨by rfl, ?_⟩) ?_ ?_
            rotate_left; (intro w'; go_simp; with_reducible rfl); rotate_left; (simp only [Act.put, zz1, zz2, zz3, i64_w, i32_w]; rfl)
            refine pure_ (i := 10) (N := some 41) (v := ?_) (a' := ?_) #[τ,τ,τ,τ,τ,τ,τ,τ,τ,τ,τ,φ,φ,φ,φ,φ] rfl rfl (any_of HT_.out (by kernel_rfl)) (fun _ _ _ h => h) (Or.inl ⟨by rfl, ?_⟩) ?_ ?_
            rotate_left; (intro w'; go_simp; with_reducible rfl); rotate_left; (simp only [Act.put, zz1, zz2, zz3, i64_w, i32_w]; rfl)
            refine pure_ (i := 11) (N := some 42) (v := ?_) (a' := ?_) #[τ,τ,τ,τ,τ,τ,τ,τ,τ,τ,τ,τ,φ,φ,φ,φ] rfl rfl (any_of HT_.out (by kernel_rfl)) (fun _ _ _ h => h) (Or.inl ⟨by rfl, ?_⟩) ?_ ?_
            rotate_left; (intro w'; go_simp; with_reducible rfl); rotate_left; (simp only [Act.put, zz1, zz2, zz3, i64_w, i32_w]; rfl)
            refine take_ (i := 12) (N := some 43) (v := ?_) (a' := ?_) #[τ,τ,τ,τ,τ,τ,τ,τ,τ,τ,τ,τ,τ,φ,φ,φ] rfl rfl (take_ofW HT_.out HW_.out (by kernel_rfl)) (fun _ _ _ h => h) (Or.inl ⟨by rfl, ?_⟩) hHeld ?_ ?_
            rotate_left; (rintro w' ⟨s0, s1⟩; go_simp; with_reducible rfl); rotate_left; (simp only [Act.put, zz1, zz2, zz3, i64_w, i32_w]; rfl)
            refine one_ (i := 13) (N := some 44) #[τ,τ,τ,τ,τ,τ,τ,τ,τ,τ,τ,τ,τ,τ,φ,φ] rfl rfl (one_of HT_.out (by kernel_rfl)) (by decide) (fun K hK => ?_)
            refine goes_ Tryd.func29 (by kernel_rfl) rfl #[.pointer (some ⟨xb, 0, none⟩), .int .i64 pb] (by rfl) rfl rfl (by simp only [List.map_toArray, List.map_cons, List.map_nil]; rfl) ?_
            with_reducible refine (place_yes xb A0 g.length c0 pb X2 ((blk_cell (HF0.out.below HBe.out).blk 0).trans rfl)).mono ?_
            rintro e X3 ⟨rfl, hb3⟩
            rw [HE.out.2]
            have HBe := Aside0.mk (HBe.out.trans (hb3.mono HBe.out.size))
            have r0 := pw_cell_below hb3 r0
            have r1 := pw_cell_below hb3 r1
            clear hb3
            refine ⟨_, rfl, ?_⟩
            refine hK.out _ _ ⟨r0, r1⟩ (fun hHeld => ?_)
            clear hK K
            refine norm_ (a' := ?_) ?_ ?_
            rotate_left
            · show Act.put _ (some 44) _ = _
              simp only [Act.put, zz1, zz2, zz3, i64_w, i32_w]
              rfl
            refine pure_ (i := 14) (N := some 45) (v := ?_) (a' := ?_) #[τ,τ,τ,τ,τ,τ,τ,τ,τ,τ,τ,τ,τ,τ,τ,φ] rfl rfl (any_of HT_.out (by kernel_rfl)) (fun _ _ _ h => h) (Or.inl ⟨by rfl, ?_⟩) ?_ ?_
            rotate_left; (intro w'; go_simp; with_reducible rfl); rotate_left; (simp only [Act.put, zz1, zz2, zz3, i64_w, i32_w]; rfl)
            refine pure_ (i := 15) (N := some 46) (v := ?_) (a' := ?_) #[τ,τ,τ,τ,τ,τ,τ,τ,τ,τ,τ,τ,τ,τ,τ,τ] rfl rfl (any_of HT_.out (by kernel_rfl)) (fun _ _ _ h => h) (Or.inl ⟨by rfl, ?_⟩) ?_ ?_
            rotate_left; (intro w'; go_simp; with_reducible rfl); rotate_left; (simp only [Act.put, zz1, zz2, zz3, i64_w, i32_w]; rfl)
            refine done_ (done_of HT_.out (by kernel_rfl)) ?_
            go_wp2_with (fail)
            go_roundw
            case rel => exact ⟨i + 1, by omega, rfl, by first | (rw [hw]; done) | (rw [Int.natCast_add]; rfl), HBe, ⟨fun p hp => by
              rw [HTk.out] at hp
              rcases List.mem_append.1 hp with hp | hp
              · exact HI.out p hp
              · simp at hp
                subst hp
                rw [HE.out.1, HE.out.2]
                rfl⟩⟩
            case measure => first | (rw [hw]; simp only [intOf]; omega) | (simp only [intOf]; omega)
      · obtain rfl : i = ps.length := by omega
        have HIn := Aside0.mk (show ∀ p ∈ ps, (inP g.length p.1 && inP g.length p.2) = true from fun p hp => HI.out p (by rw [List.take_length]; exact hp))
        clear HI hw hlt
        go_wp2_with (fail)
        go_loopw [5, 50] (fun v5 v50 wr => ∃ i : Nat, i ≤ ps.length ∧ v5 = .slice none 0 0 ∧ v50 = .int .i64 i ∧ Aside0 (Below V.heap.size V wr) ∧ Aside0 (∀ p ∈ ps.take i, mayB false g p.1 p.2 = true)) (fun v5 v50 _ => ps.length + 1 - (intOf v50).toNat)
        case atStart => exact ⟨0, by omega, rfl, rfl, HBo, ⟨fun p hp => by simp at hp⟩⟩
        case round =>
          clear HBo
          obtain ⟨i, hi, rfl, rfl, HBo, HI⟩ := hrel
          rename World => X
          have hw : wrap64 ((i : Int) + 1) = ((i + 1 : Nat) : Int) := by have := HPl.out; unfold wrap64; omega
          by_cases hlt : i < ps.length
          · have HBX := Aside0.mk (HBV.out.trans (HBo.out.mono HBV.out.size))
            obtain ⟨ad2, e2, p0, p1⟩ := at_P (Kd.C_below HPs.out HBX.out) (i : Int) (by omega) (by omega)
            subst e2
            rw [Int.toNat_natCast] at p0 p1
            obtain ⟨⟨pa, pb⟩, hpp⟩ : ∃ pp, pp = ps.getD i (0, 0) := ⟨_, rfl⟩
            rw [← hpp] at p0 p1
            dsimp only at p0 p1
            have HPm := Aside0.mk (show (pa, pb) ∈ ps by rw [hpp, List.getD_eq_getElem?_getD, List.getElem?_eq_getElem hlt]; exact List.getElem_mem hlt)
            have HTk := Aside0.mk (show ps.take (i + 1) = ps.take i ++ [(pa, pb)] by
              rw [List.take_add_one, List.getElem?_eq_getElem hlt, hpp, List.getD_eq_getElem?_getD, List.getElem?_eq_getElem hlt]
              rfl)
            have hq := heap_alloc_new X (.cells #[.int .i64 pa, .int .i64 pb] 28)
            have hbx := below_alloc (Below.refl X.heap.size X) (.cells #[.int .i64 pa, .int .i64 pb] 28)
            have HBd := Aside0.mk (HBo.out.trans (hbx.mono HBo.out.size))
            have y0 := (blk_cell hq 0).trans rfl
            have y1 := (blk_cell hq 1).trans rfl
            have e1 : ((i : Int) < (ps.length : Int)) = True := eq_true (by omega)
            have HM := Aside0.mk (S10.may_yes A0 c0 g pa pb (X.alloc (.cells #[.int .i64 pa, .int .i64 pb] 28)) (HK.out.below (HBV.out.trans (HBd.out.mono HBV.out.size))) (Kd.C_below HG.out (HBV.out.trans (HBd.out.mono HBV.out.size))) HGc.out)
            clear hpp hq hbx
            go_wp2_with (fail)
            refine HM.out.mono ?_
            rintro e Y ⟨rfl, hby⟩
            have HBe := Aside0.mk (HBd.out.trans (hby.mono HBd.out.size))
            clear hby
            cases h1 : mayB false g pa pb with
            | false =>
              have HE := Aside0.mk h1
              clear h1
              go_wp2_with (fail)
              go_ret3
              exact ⟨.inr (.inr (.inl ⟨HC.out, HIn.out, ⟨_, HPm.out, HE.out⟩, rfl⟩)), HBV.out.trans (HBe.out.mono HBV.out.size)⟩
            | true =>
              have HE := Aside0.mk h1
              clear h1
              go_wp2_with (fail)
              go_roundw
              case rel => exact ⟨i + 1, by omega, rfl, by first | (rw [hw]; done) | (rw [Int.natCast_add]; rfl), HBe, ⟨fun p hp => by
                rw [HTk.out] at hp
                rcases List.mem_append.1 hp with hp | hp
                · exact HI.out p hp
                · simp at hp
                  subst hp
                  exact HE.out⟩⟩
              case measure => first | (rw [hw]; simp only [intOf]; omega) | (simp only [intOf]; omega)
          · obtain rfl : i = ps.length := by omega
            have HPr := Aside0.mk (show ∀ p ∈ ps, Pr g p from fun p hp => pr_of (HIn.out p hp) (HI.out p (by rw [List.take_length]; exact hp)))
            have HFb := Aside0.mk (HF0.out.below HBo.out)
            clear HI hw hlt HF0
            have HL0 := HLV
            go_wp2_with (fail)
            go_loopw [5, 64] (fun v5 v64 wr => ∃ (i : Nat) (v1i : Value) (R : List Int × List FC), i ≤ ps.length ∧ v64 = .int .i64 i ∧ Aside0 (R = findL (findP (pickN g) g (g.length * g.length + 1)) (ps.take i) []) ∧ Aside0 (FdS w wr xb m A0 c0 g v1i R.2 (fm R.2) (fun k => (k ≠ xb ∧ k ≠ m) ∧ some k ≠ v5.ownBlock)) ∧ Aside0 (Kd.R (Kd.int .i64) 3 wr V.heap.size (fun _ => True) v5 R.1) ∧ Aside0 (F3.Good g R.2 ∧ R.1.length = i) ∧ Aside0 (V.heap.size ≤ wr.heap.size)) (fun v5 v64 _ => ps.length + 1 - (intOf v64).toNat)
            case atStart => exact ⟨0, .slice none 0 0, ([], []), by omega, rfl, ⟨rfl⟩, ⟨HFb.out.mono (fun k h _ => ⟨h, by simp [Value.ownBlock]⟩)⟩, ⟨Kd.R_nil _ _ _ _ _⟩, ⟨F3.Good.nil g, rfl⟩, ⟨HBo.out.size⟩⟩
            case round =>
              clear HFb HBo
              obtain ⟨i, v1i, R, hi, rfl, HRe, HFi, HRi, HGi, HVX⟩ := hrel
              rename World => X
              have hw : wrap64 ((i : Int) + 1) = ((i + 1 : Nat) : Int) := by have := HPl.out; unfold wrap64; omega
              by_cases hlt : i < ps.length
              · obtain ⟨ad2, e2, p0, p1⟩ := at_P (Kd.C_below HPs.out HFi.out.old) (i : Int) (by omega) (by omega)
                subst e2
                rw [Int.toNat_natCast] at p0 p1
                have hpr := HPr.out (ps.getD i (0, 0)) (by rw [List.getD_eq_getElem?_getD, List.getElem?_eq_getElem hlt]; exact List.getElem_mem hlt)
                obtain ⟨a', ha'⟩ := Int.eq_ofNat_of_zero_le hpr.a0
                obtain ⟨b', hb'⟩ := Int.eq_ofNat_of_zero_le hpr.b0
                have hpe : ps.getD i (0, 0) = ((a' : Int), (b' : Int)) := Prod.ext ha' hb'
                rw [hpe] at hpr p0 p1
                dsimp only at p0 p1
                have HTk := Aside0.mk (show ps.take (i + 1) = ps.take i ++ [((a' : Int), (b' : Int))] by
                  rw [List.take_add_one, List.getElem?_eq_getElem hlt, ← hpe, List.getD_eq_getElem?_getD, List.getElem?_eq_getElem hlt]
                  rfl)
                obtain ⟨A5, c5, e5, hc5, hr5⟩ := Kd.R_reads HRi.out
                obtain ⟨n5, hn5⟩ : ∃ n5, n5 = R.1.length := ⟨_, rfl⟩
                rw [← hn5] at e5 hc5 hr5
                subst e5
                obtain ⟨fr2, hfr2⟩ : ∃ fr2, fr2 = findP (pickN g) g (g.length * g.length + 1) ((a' : Int), (b' : Int)) R.2 := ⟨_, rfl⟩
                have hz1 := heap_alloc_new X (.cells #[.int .i64 (a' : Int), .int .i64 (b' : Int)] 28)
                have hbx := below_alloc (Below.refl X.heap.size X) (.cells #[.int .i64 (a' : Int), .int .i64 (b' : Int)] 28)
                have HFx := Aside0.mk (HFi.out.alloc (.cells #[.int .i64 (a' : Int), .int .i64 (b' : Int)] 28))
                have HRx := Aside0.mk (Kd.R_below HRi.out hbx)
                have y0 := (blk_cell hz1 0).trans rfl
                have y1 := (blk_cell hz1 1).trans rfl
                have HIH := Aside0.mk (find_yes (g.length * g.length + 1) w (X.alloc (.cells #[.int .i64 (a' : Int), .int .i64 (b' : Int)] 28)) xb m A0 c0 g v1i R.2 (fun k => (k ≠ xb ∧ k ≠ m) ∧ some k ≠ (Value.slice A5 n5 c5).ownBlock) a' b' HC.out H16.out HK.out HFx.out (fun k hk => hk.1) (fun k hk => ⟨⟨by have := blk_lt HFx.out.blk; omega, by have := HFx.out.mp.lt; omega⟩, fun e => by
                  obtain ⟨inner, ho⟩ := Kd.R_own HRx.out
                  have := (World.ownsRow.lt ho k e.symm).2
                  omega⟩) hpr HGi.out.1 (by omega))
                rw [← hfr2] at HIH
                have HF2 := Aside0.mk (show F3.Good g fr2.2 by
                  have h := findP_ok HC.out (g.length * g.length + 1) ((a' : Int), (b' : Int)) R.2 hpr HGi.out.1 (by omega)
                  rw [← hfr2] at h
                  exact h.good)
                have HRe2 := Aside0.mk (show (R.1 ++ [fr2.1], fr2.2) = findL (findP (pickN g) g (g.length * g.length + 1)) (ps.take (i + 1)) [] by
                  rw [HTk.out, findL_app, ← HRe.out]
                  show _ = (R.1 ++ (findL (findP (pickN g) g (g.length * g.length + 1)) [((a' : Int), (b' : Int))] R.2).1, (findL (findP (pickN g) g (g.length * g.length + 1)) [((a' : Int), (b' : Int))] R.2).2)
                  rw [show findL (findP (pickN g) g (g.length * g.length + 1)) [((a' : Int), (b' : Int))] R.2 = ([fr2.1], fr2.2) by rw [hfr2]; rfl])
                have HAL : Aside0 ((R.1.length + 1) * 8 ≤ 140737488355328) := ⟨by rw [HGi.out.2]; have := HPl.out; omega⟩
                have HLi := Aside0.mk hlt
                have e1 : ((i : Int) < (ps.length : Int)) = True := eq_true (by omega)
                clear hpr ha' hb' hpe hn5 hc5 hr5 hfr2 hz1 hbx
                go_wp2_with (fail)
                refine HIH.out.mono ?_
                rintro e X2 ⟨v1j, rfl, hFj, hKj⟩
                have HRj := Aside0.mk (Kd.R_mono (ok' := fun _ => True) (Kd.R_step (Kd.R_bound (R_apart HRx.out HFx.out.row (by decide))) (fun k hk hlt => hKj.block k hlt (by have := HL0.out; have := hk.2.1; omega) (by have := HL0.out; have := hk.2.1; omega) hk.1.2)) (fun _ _ => trivial))
                have HSj := Aside0.mk (show V.heap.size ≤ X2.heap.size from by have h1 := hKj.size; rw [World.size_alloc] at h1; have := HVX.out; omega)
                have HFj := Aside0.mk hFj
                clear hFj hKj HIH y0 y1
                go_wp2_with (first | ((with_reducible refine gate_builtin (b := .append) (xs := #[.tmp 68, .tmp 76]) rfl ?_); at_builtin; refine Kd.R_append (Kd.int .i64) (w0 := X2) V.heap.size rfl (.tmp 68) (.tmp 76) 30 3 (.int .i64 0) 8 rfl Tryd.underlying30 infoI rfl (by decide) (by omega) (.slice A5 n5 c5) R.1 fr2.1 [.int .i64 fr2.1] (fun _ => True) (fun _ => False) rfl rfl rfl (fun _ hk => hk.elim) (fun _ _ => trivial) HRj.out (Below.refl _ _) HSj.out HAL.out ?_; intro v9 W9 ho hb hg9 hat9))
                have hbw : ∀ k, (Value.slice A5 n5 c5).ownBlock = some k → V.heap.size ≤ k := fun k hk => Kd.R_base HRj.out k hk
                have HFn := Aside0.mk (((HFj.out.mono (ok' := fun k => ((k ≠ xb ∧ k ≠ m) ∧ some k ≠ (Value.slice A5 n5 c5).ownBlock) ∧ k < X2.heap.size) (fun k h1 h2 => ⟨h1, h2⟩)).kept hg9 (fun e => by have h1 := hbw xb e.symm; have := HL0.out; omega) (fun e => by have h1 := hbw m e.symm; have := HL0.out; omega) (fun k hk => hk.1.2) (fun k e => by have := hbw k e; have := HL0.out; omega)).mono (ok' := fun k => (k ≠ xb ∧ k ≠ m) ∧ some k ≠ v9.ownBlock) (fun k hk _ => ⟨hk.1.1, fun e => by
                  rcases hat9 with h | ⟨b9, h, hb9⟩
                  · rw [h] at e; exact hk.1.2 e
                  · rw [h] at e; have := hk.2; cases e; omega⟩))
                have HRn := Aside0.mk ho
                have HVn := Aside0.mk (show V.heap.size ≤ W9.heap.size from Nat.le_trans HSj.out hg9.size)
                have HGn := Aside0.mk (show F3.Good g fr2.2 ∧ (R.1 ++ [fr2.1]).length = i + 1 from ⟨HF2.out, by rw [List.length_append, HGi.out.2]; rfl⟩)
                have hlt2 := HLi.out
                clear ho hb hg9 hat9 hbw
                go_wp2_with (fail)
                go_roundw
                case rel => exact ⟨i + 1, v1j, (R.1 ++ [fr2.1], fr2.2), by omega, by first | (rw [hw]; done) | (rw [Int.natCast_add]; rfl), HRe2, HFn, HRn, HGn, HVn⟩
                case measure => first | (rw [hw]; simp only [intOf]; omega) | (simp only [intOf]; omega)
              · obtain rfl : i = ps.length := by omega
                rw [List.take_length] at HRe
                have hfn : Fnd g [] R.2 R.1 ps := by
                  have h := finds_ok HC.out HPr.out
                  unfold findsP at h
                  rw [← HRe.out] at h
                  exact h
                have hl256 : R.2.length ≤ 256 := by
                  have h1 := HGi.out.1.len
                  have h2 : g.length * g.length ≤ 16 * 16 := Nat.mul_le_mul H16.out H16.out
                  omega
                have HRc := Aside0.mk (Kd.R_mono (ok' := fun _ => True) (R_close HFi.out.row (done_ne HC.out hfn)) (fun _ _ => trivial))
                have HRi2 := Aside0.mk (Kd.R_lower HRi.out HBV.out.size)
                have HPp := Aside0.mk (show findsP (pickN g) g ps = R from HRe.out.symm)
                obtain ⟨A1, c1, e1_, hc1, hr1⟩ := Kd.R_reads HFi.out.row
                obtain ⟨nr, hnr⟩ : ∃ nr, nr = R.2.length := ⟨_, rfl⟩
                rw [← hnr] at e1_ hc1 hr1 hl256
                have x1 := (blk_cell HFi.out.blk 1).trans rfl
                rw [e1_] at x1
                have h80 : (8000 < (nr : Int)) = False := eq_false (by omega)
                have HE1 := Aside0.mk e1_
                clear hfn hl256 hc1 hr1 hnr e1_
                go_wp2_with (fail)
                go_ret3
                refine ⟨.inr (.inr (.inr ⟨HC.out, HPr.out, _, _, rfl, ?_, ?_⟩)), HFi.out.old⟩
                · rw [HPp.out, ← HE1.out]
                  exact HRc.out
                · rw [HPp.out]
                  exact HRi2.out
  · have hcb : (checkP g != 0) = true := by simpa using hc
    have HC := Aside0.mk hc
    clear hc
    go_wp2_with (fail)
    go_ret3
    exact ⟨.inl ⟨HC.out, rfl⟩, HB1.out⟩
end Go.Proofs.YthkoockcfnbpiaaDoor.W13
