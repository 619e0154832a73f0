/- Facts are found: find. -/
import Derived.Test.YthkoockcfnbpiaaDoorProg
import Derived.Test.YthkoockcfnbpiaaDoorWWords
import Derived.Test.YthkoockcfnbpiaaDoorWLast
import Derived.Test.YthkoockcfnbpiaaDoorW11
namespace Go.Proofs.YthkoockcfnbpiaaDoor.W12
open Go.RowKit Go.Proofs.YthkoockcfnbpiaaDoorW.PrintWords Go.Proofs.YthkoockcfnbpiaaDoorW.PrintLast Go.Proofs.YthkoockcfnbpiaaDoorW.PrintMore Go.Proofs.YthkoockcfnbpiaaDoor L1 L4 G1 G2 S1 S2 S3 S4 S5 S8 F1 S10 S11 F2 F3 W1 W2 W3 W4 W5 W6 W7 W8 W9 W10 W11
set_option linter.unusedVariables false
set_option linter.unusedSimpArgs false
def fi1.T1 : Bool × List (List Nat × List Nat) := (true, [([], []), ([0], [0]), ([1], [1]), ([2], [2]), ([], []), ([3, 4], [3, 4]), ([5], [5]), ([6], [6]), ([6], [6]), ([7, 0, 1, 2, 3, 4, 5, 6, 7], [7]), ([8, 9, 0, 1, 2, 3, 4, 5, 6, 7, 8, 9], [8])])
def fi1.B1 : List Nat := [0, 1, 3, 7, 0, 31, 63, 127, 127, 255, 1023]
theorem fi1.tab1 : rtab .any (opsOf Tryd.f30 1) = fi1.T1 := by kernel_rfl
theorem fi1.bits1 : waitsOk fi1.T1.2 fi1.B1 = true := by kernel_rfl
def fi8.T8 : Bool × List (List Nat × List Nat) := (true, [([], []), ([0], [0]), ([1], [1]), ([2], [2]), ([3], [3]), ([], []), ([5], [5]), ([4, 6], [4, 6]), ([7], [7]), ([8], [8]), ([9], [9])])
def fi8.B8 : List Nat := [0, 1, 3, 7, 15, 0, 32, 127, 255, 511, 1023]
theorem fi8.tab8 : rtab .any (opsOf Tryd.f30 8) = fi8.T8 := by kernel_rfl
theorem fi8.bits8 : waitsOk fi8.T8.2 fi8.B8 = true := by kernel_rfl
def fi9.T9 : Bool × List (List Nat × List Nat) := (true, [([], []), ([0], [0]), ([1], [1]), ([2], [2]), ([3], [3]), ([], []), ([5], [5]), ([], []), ([7], [7]), ([4, 6, 8], [4, 6, 8]), ([9], [9]), ([0, 1, 2, 3, 4, 5, 6, 7, 8, 9, 10], []), ([11, 10, 9, 0, 1, 2, 3, 4, 5, 6, 7, 8, 9, 10], [10, 11])])
def fi9.B9 : List Nat := [0, 1, 3, 7, 15, 0, 32, 0, 128, 511, 1023, 2047, 4095]
theorem fi9.tab9 : rtab .any (opsOf Tryd.f30 9) = fi9.T9 := by kernel_rfl
theorem fi9.bits9 : waitsOk fi9.T9.2 fi9.B9 = true := by kernel_rfl
def fi10.T10 : Bool × List (List Nat × List Nat) := (true, [([], []), ([0], [0]), ([1], [1]), ([2], [2]), ([], []), ([], []), ([3, 4, 5, 0, 1, 2, 3, 4, 5], [3, 4, 5])])
def fi10.B10 : List Nat := [0, 1, 3, 7, 0, 0, 63]
theorem fi10.tab10 : rtab .any (opsOf Tryd.f30 10) = fi10.T10 := by kernel_rfl
theorem fi10.bits10 : waitsOk fi10.T10.2 fi10.B10 = true := by kernel_rfl
def fi11.T11 : Bool × List (List Nat × List Nat) := (true, [([], []), ([], []), ([1], [1]), ([2], [2]), ([3], [3]), ([4], [4]), ([], []), ([6], [6]), ([5, 7], [5, 7]), ([0, 0, 1, 2, 3, 4, 5, 6, 7, 8], [0]), ([9, 0, 1, 2, 3, 4, 5, 6, 7, 8], [9]), ([10, 0, 1, 2, 3, 4, 5, 6, 7, 8], [10]), ([11, 8, 8, 0, 1, 2, 3, 4, 5, 6, 7, 8], [8, 11])])
def fi11.B11 : List Nat := [0, 0, 2, 6, 14, 30, 0, 64, 254, 511, 1023, 2047, 4095]
theorem fi11.tab11 : rtab .any (opsOf Tryd.f30 11) = fi11.T11 := by kernel_rfl
theorem fi11.bits11 : waitsOk fi11.T11.2 fi11.B11 = true := by kernel_rfl
def fi12.T12 : Bool × List (List Nat × List Nat) := (true, [([], []), ([0], [0]), ([1], [1]), ([], []), ([2, 3], [2, 3]), ([4], [4]), ([5], [5]), ([5], [5]), ([6, 4, 0, 1, 2, 3, 4, 5, 6], [6]), ([7, 8, 0, 1, 2, 3, 4, 5, 6, 7, 8], [7])])
def fi12.B12 : List Nat := [0, 1, 3, 0, 15, 31, 63, 63, 127, 511]
theorem fi12.tab12 : rtab .any (opsOf Tryd.f30 12) = fi12.T12 := by kernel_rfl
theorem fi12.bits12 : waitsOk fi12.T12.2 fi12.B12 = true := by kernel_rfl
def fi16.T16 : Bool × List (List Nat × List Nat) := (true, [([], []), ([0], [0]), ([], []), ([], []), ([2, 3], [2, 3]), ([4], [4]), ([1, 5, 4], [1, 5]), ([0, 1, 2, 3, 4, 5, 6], []), ([7, 6, 6, 0, 1, 2, 3, 4, 5, 6], [6, 7])])
def fi16.B16 : List Nat := [0, 1, 0, 0, 12, 28, 63, 127, 255]
theorem fi16.tab16 : rtab .any (opsOf Tryd.f30 16) = fi16.T16 := by kernel_rfl
theorem fi16.bits16 : waitsOk fi16.T16.2 fi16.B16 = true := by kernel_rfl
def fi18.T18 : Bool × List (List Nat × List Nat) := (true, [([], []), ([0], [0]), ([1], [1]), ([2], [2]), ([3], [3]), ([], []), ([], []), ([4, 5, 0, 1, 2, 3, 4, 5, 6], [4, 5]), ([7, 6, 0, 1, 2, 3, 4, 5, 6], [6, 7])])
def fi18.B18 : List Nat := [0, 1, 3, 7, 15, 0, 0, 127, 255]
theorem fi18.tab18 : rtab .any (opsOf Tryd.f30 18) = fi18.T18 := by kernel_rfl
theorem fi18.bits18 : waitsOk fi18.T18.2 fi18.B18 = true := by kernel_rfl
theorem infoF : (Tryd.prog.info? 37).map (fun i => (i.zero, i.size, i.bytes)) = some (some (.agg #[.int .i64 0, .int .i64 0, .slice none 0 0]), 3, 40) := by kernel_rfl
theorem lit_one (W : World) (k : Int) : Kd.R (Kd.int .i64) 3 (W.alloc (.cells #[.int .i64 k] 3)) W.heap.size (fun _ => True) (.slice (some ⟨W.heap.size, 0, none⟩) 1 1) [k] := Kd.R_of_own (own_lit W W.heap.size 3 .i64 [k] (Nat.le_refl _) (by simp)) (fun _ _ => trivial)
/-- What find does. -/
def FindC (n : Nat) : Prop := ∀ (w0 W : World) (xb m : Nat) (A0 : Option Addr) (c0 : Nat) (g : List GN) (v1 : Value) (l : List FC) (ok : Nat → Prop) (a b : Nat), checkP g = 0 → g.length ≤ 16 → Keys w0 → FdS w0 W xb m A0 c0 g v1 l (fm l) ok → (∀ k, ok k → k ≠ xb ∧ k ≠ m) → (∀ k, W.heap.size ≤ k → ok k) → Pr g ((a : Int), (b : Int)) → F3.Good g l → g.length * g.length < n + l.length →
  Calls Tryd.prog 30 #[.pointer (some ⟨xb, 0, none⟩), .agg #[.int .i64 (a : Int), .int .i64 (b : Int)]] W fun e W' => ∃ v1', e = .returned (.int .i64 (findP (pickN g) g n ((a : Int), (b : Int)) l).1) ∧ FdS w0 W' xb m A0 c0 g v1' (findP (pickN g) g n ((a : Int), (b : Int)) l).2 (fm (findP (pickN g) g n ((a : Int), (b : Int)) l).2) ok ∧ Kp W W' xb m v1 v1'
set_option maxHeartbeats 16000000 in
set_option maxRecDepth 100000 in
theorem find_step (n : Nat) (ih : FindC n) : FindC (n + 1) := by
  intro w0 W xb m A0 c0 g v1 l ok a b hc h16 hK hS hok hfr hp hgd hfu
  have HC := Aside0.mk hc
  have H16 := Aside0.mk h16
  have HKy := Aside0.mk hK
  have HOk := Aside0.mk hok
  have HFr := Aside0.mk hfr
  have HP := Aside0.mk hp
  have HGd := Aside0.mk hgd
  have HFuel := Aside0.mk hfu
  have hal : a < g.length := by have := hp.a1; dsimp only at this; omega
  have hbl : b < g.length := by have := hp.b1; dsimp only at this; omega
  have HAB := Aside0.mk (And.intro hal hbl)
  obtain ⟨A1, c1, rfl, hc1, hr1⟩ := Kd.R_reads hS.row
  obtain ⟨ad, Ak, ck, Al, cl, eA, hN⟩ := node_at hS.gr hal
  subst eA
  have HN := Aside0.mk hN
  have HW0s := Aside0.mk hS.old.size
  have HSz := Aside0.mk (show xb < W.heap.size ∧ m < W.heap.size from ⟨blk_lt hS.blk, hS.mp.lt⟩)
  have hbk := heap_alloc_new W (.cells #[.int .i64 (a : Int), .int .i64 (b : Int)] 72)
  have HFd0 := Aside0.mk ((hS.mono (ok' := fun k => ok k ∧ k < W.heap.size) (fun k h1 h2 => ⟨h1, h2⟩)).alloc (.cells #[.int .i64 (a : Int), .int .i64 (b : Int)] 72))
  have HOwn := Aside0.mk (show ∀ k, (Value.slice A1 l.length c1).ownBlock = some k → k < W.heap.size from fun k hk => by obtain ⟨inner, ho⟩ := Kd.R_own hS.row; exact (World.ownsRow.lt ho k hk).2)
  have HKp0 := Aside0.mk (Kp.below (xb := xb) (m := m) (v1 := .slice A1 l.length c1) (below_alloc (Below.refl W.heap.size W) (.cells #[.int .i64 (a : Int), .int .i64 (b : Int)] 72)))
  have x0 := (blk_cell HFd0.out.blk 0).trans rfl
  have x2 := (blk_cell HFd0.out.blk 2).trans rfl
  have y0 := (blk_cell hbk 0).trans rfl
  have y1 := (blk_cell hbk 1).trans rfl
  have hq : W.heap.size < (W.alloc (.cells #[.int .i64 (a : Int), .int .i64 (b : Int)] 72)).heap.size := by rw [World.size_alloc]; omega
  have HL256 := Aside0.mk (show l.length ≤ 256 by
    have h1 := hgd.len
    have h2 : g.length * g.length ≤ 16 * 16 := Nat.mul_le_mul h16 h16
    omega)
  have hqb := hbk
  have HC1 := Aside0.mk hc1
  clear hc h16 hK hS hok hfr hp hgd hfu hr1 hc1 hN hbk hal hbl
  have e1 : ((a : Int) < (g.length : Int)) = True := eq_true (by have := HAB.out.1; omega)
  obtain ⟨fr, hfr⟩ : ∃ fr, fr = findP (pickN g) g (n + 1) ((a : Int), (b : Int)) l := ⟨_, rfl⟩
  rw [← hfr]
  have HFP := Aside0.mk hfr
  clear hfr
  cases hi : idxP ((a : Int), (b : Int)) l with
  | some k =>
    have HLk := Aside0.mk (HFd0.out.drew.mp.ok HAB.out.1 HAB.out.2)
    rw [show fm l a b = some k from hi] at HLk
    have HE := Aside0.mk (show fr = ((k : Int), l) by rw [HFP.out]; unfold findP; rw [hi])
    clear hi
    go_enter Tryd.func30, Tryd.ntmps30
    go_wp2_with (fail)
    generalize hq_ : W.heap.size = q at y0 y1 hq hqb ⊢
    generalize W.alloc (.cells #[.int .i64 (a : Int), .int .i64 (b : Int)] 72) = W1 at x2 x0 y0 y1 HLk HFd0 HKp0 hq hqb ⊢
    have x2 := drew_cell x2
    have y0 := drew_cell y0
    have y1 := drew_cell y1
    have x0 := drew_cell x0
    have HFd0 := Aside0.mk HFd0.out.drew
    have HKp0 := Aside0.mk (HKp0.out.trans (Kp.below (below_drew (Below.refl W1.heap.size W1))))
    have hqb := blk_drew hqb
    have hq : q < W1.drew.heap.size := hq
    refine start_ (n := 11) (S := fun w' => w'.cell? ⟨xb, 2, none⟩ = some (.map (some m)) ∧ w'.cell? ⟨q, 0, none⟩ = some (.int .i64 (a : Int)) ∧ w'.cell? ⟨q, 1, none⟩ = some (.int .i64 (b : Int)) ∧ (Instr.lookup 66 (.map (some m)) (.agg #[.int .i64 (a : Int), .int .i64 (b : Int)]) true).run Tryd.prog w' = .ok (.tuple #[.int .i64 (M1.vl (some k)), .bool true]) w') (ds := []) #[φ,φ,φ,φ,φ,φ,φ,φ,φ,φ,φ] (by kernel_rfl) rfl rfl ⟨x2, y0, y1, HLk.out⟩ (fun hHeld => ?_)
    generalize W1.drew = V0 at x2 x0 y0 y1 HLk HFd0 HKp0 hq hqb hHeld ⊢
    refine with_tabW fi1.tab1 fi1.bits1 (fun HT_ HW_ => ?_)
    refine pure_ (i := 0) (N := some 14) (v := ?_) (a' := ?_) #[τ,φ,φ,φ,φ,φ,φ,φ,φ,φ,φ] rfl rfl (any_of HT_.out (by kernel_rfl)) (fun _ _ _ h => h) (Or.inl ⟨by rfl, ?_⟩) ?_ ?_
    rotate_left; (intro w'; go_simp; with_reducible rfl); rotate_left; (simp only [Act.put, zz1, zz2, zz3, i64_w, i32_w]; rfl)
    refine pure_ (i := 1) (N := some 15) (v := ?_) (a' := ?_) #[τ,τ,φ,φ,φ,φ,φ,φ,φ,φ,φ] rfl rfl (any_of HT_.out (by kernel_rfl)) (fun _ _ _ h => h) (Or.inl ⟨by rfl, ?_⟩) ?_ ?_
    rotate_left; (intro w'; go_simp; with_reducible rfl); rotate_left; (simp only [Act.put, zz1, zz2, zz3, i64_w, i32_w]; rfl)
    refine pure_ (i := 2) (N := some 16) (v := ?_) (a' := ?_) #[τ,τ,τ,φ,φ,φ,φ,φ,φ,φ,φ] rfl rfl (any_of HT_.out (by kernel_rfl)) (fun _ _ _ h => h) (Or.inl ⟨by rfl, ?_⟩) ?_ ?_
    rotate_left; (intro w'; go_simp; with_reducible rfl); rotate_left; (simp only [Act.put, zz1, zz2, zz3, i64_w, i32_w]; rfl)
    refine take_ (i := 3) (N := some 17) (v := ?_) (a' := ?_) #[τ,τ,τ,τ,φ,φ,φ,φ,φ,φ,φ] rfl rfl (take_ofW HT_.out HW_.out (by kernel_rfl)) (fun _ _ _ h => h) (Or.inl ⟨by rfl, ?_⟩) hHeld ?_ ?_
    rotate_left; (rintro w' ⟨s0, s1, s2, s3⟩; go_simp; with_reducible rfl); rotate_left; (simp only [Act.put, zz1, zz2, zz3, i64_w, i32_w]; rfl)
    refine take_ (i := 4) (N := some 18) (v := ?_) (a' := ?_) #[τ,τ,τ,τ,τ,φ,φ,φ,φ,φ,φ] rfl rfl (take_ofW HT_.out HW_.out (by kernel_rfl)) (fun _ _ _ h => h) (Or.inl ⟨by rfl, ?_⟩) hHeld ?_ ?_
    rotate_left; (rintro w' ⟨s0, s1, s2, s3⟩; go_simp; with_reducible rfl); rotate_left; (simp only [Act.put, zz1, zz2, zz3, i64_w, i32_w]; rfl)
    refine take_ (i := 5) (N := some 19) (v := ?_) (a' := ?_) #[τ,τ,τ,τ,τ,τ,φ,φ,φ,φ,φ] rfl rfl (take_ofW HT_.out HW_.out (by kernel_rfl)) (fun _ _ _ h => h) (Or.inl ⟨by rfl, ?_⟩) hHeld ?_ ?_
    rotate_left; (rintro w' ⟨s0, s1, s2, s3⟩; go_simp; with_reducible rfl); rotate_left; (simp only [Act.put, zz1, zz2, zz3, i64_w, i32_w]; rfl)
    refine pure_ (i := 6) (N := some 13) (v := ?_) (a' := ?_) #[τ,τ,τ,τ,τ,τ,τ,φ,φ,φ,φ] rfl rfl (any_of HT_.out (by kernel_rfl)) (fun _ _ _ h => h) (Or.inl ⟨by rfl, ?_⟩) ?_ ?_
    rotate_left; (intro w'; go_simp; with_reducible rfl); rotate_left; (simp only [Act.put, zz1, zz2, zz3, i64_w, i32_w]; rfl)
    refine pure_ (i := 7) (N := some 20) (v := ?_) (a' := ?_) #[τ,τ,τ,τ,τ,τ,τ,τ,φ,φ,φ] rfl rfl (any_of HT_.out (by kernel_rfl)) (fun _ _ _ h => h) (Or.inl ⟨by rfl, ?_⟩) ?_ ?_
    rotate_left; (intro w'; go_simp; with_reducible rfl); rotate_left; (simp only [Act.put, zz1, zz2, zz3, i64_w, i32_w]; rfl)
    refine pure_ (i := 8) (N := some 21) (v := ?_) (a' := ?_) #[τ,τ,τ,τ,τ,τ,τ,τ,τ,φ,φ] rfl rfl (any_of HT_.out (by kernel_rfl)) (fun _ _ _ h => h) (Or.inl ⟨by rfl, ?_⟩) ?_ ?_
    rotate_left; (intro w'; go_simp; with_reducible rfl); rotate_left; (simp only [Act.put, zz1, zz2, zz3, i64_w, i32_w]; rfl)
    refine pure_ (i := 9) (N := some 5) (v := ?_) (a' := ?_) #[τ,τ,τ,τ,τ,τ,τ,τ,τ,τ,φ] rfl rfl (any_of HT_.out (by kernel_rfl)) (fun _ _ _ h => h) (Or.inl ⟨by rfl, ?_⟩) ?_ ?_
    rotate_left; (intro w'; go_simp; with_reducible rfl); rotate_left; (simp only [Act.put, zz1, zz2, zz3, i64_w, i32_w]; rfl)
    refine pure_ (i := 10) (N := some 6) (v := ?_) (a' := ?_) #[τ,τ,τ,τ,τ,τ,τ,τ,τ,τ,τ] rfl rfl (any_of HT_.out (by kernel_rfl)) (fun _ _ _ h => h) (Or.inl ⟨by rfl, ?_⟩) ?_ ?_
    rotate_left; (intro w'; go_simp; with_reducible rfl); rotate_left; (simp only [Act.put, zz1, zz2, zz3, i64_w, i32_w]; rfl)
    refine done_ (done_of HT_.out (by kernel_rfl)) ?_
    go_wp2_with (fail)
    go_ret
    rw [HE.out]
    exact ⟨_, rfl, HFd0.out.mono (fun k h _ => h.1), HKp0.out⟩
  | none =>
    have HLk := Aside0.mk (HFd0.out.drew.mp.ok HAB.out.1 HAB.out.2)
    rw [show fm l a b = none from hi] at HLk
    have HI := Aside0.mk hi
    clear hi
    go_enter Tryd.func30, Tryd.ntmps30
    go_wp2_with (fail)
    generalize hq_ : W.heap.size = q at y0 y1 hq hqb ⊢
    generalize W.alloc (.cells #[.int .i64 (a : Int), .int .i64 (b : Int)] 72) = W1 at x2 x0 y0 y1 HLk HFd0 HKp0 hq hqb ⊢
    have x2 := drew_cell x2
    have y0 := drew_cell y0
    have y1 := drew_cell y1
    have x0 := drew_cell x0
    have HFd0 := Aside0.mk HFd0.out.drew
    have HKp0 := Aside0.mk (HKp0.out.trans (Kp.below (below_drew (Below.refl W1.heap.size W1))))
    have hqb := blk_drew hqb
    have hq : q < W1.drew.heap.size := hq
    refine start_ (n := 11) (S := fun w' => w'.cell? ⟨xb, 2, none⟩ = some (.map (some m)) ∧ w'.cell? ⟨q, 0, none⟩ = some (.int .i64 (a : Int)) ∧ w'.cell? ⟨q, 1, none⟩ = some (.int .i64 (b : Int)) ∧ (Instr.lookup 66 (.map (some m)) (.agg #[.int .i64 (a : Int), .int .i64 (b : Int)]) true).run Tryd.prog w' = .ok (.tuple #[.int .i64 (M1.vl none), .bool false]) w') (ds := []) #[φ,φ,φ,φ,φ,φ,φ,φ,φ,φ,φ] (by kernel_rfl) rfl rfl ⟨x2, y0, y1, HLk.out⟩ (fun hHeld => ?_)
    generalize W1.drew = V0 at x2 x0 y0 y1 HLk HFd0 HKp0 hq hqb hHeld ⊢
    refine with_tabW fi1.tab1 fi1.bits1 (fun HT_ HW_ => ?_)
    refine pure_ (i := 0) (N := some 14) (v := ?_) (a' := ?_) #[τ,φ,φ,φ,φ,φ,φ,φ,φ,φ,φ] rfl rfl (any_of HT_.out (by kernel_rfl)) (fun _ _ _ h => h) (Or.inl ⟨by rfl, ?_⟩) ?_ ?_
    rotate_left; (intro w'; go_simp; with_reducible rfl); rotate_left; (simp only [Act.put, zz1, zz2, zz3, i64_w, i32_w]; rfl)
    refine pure_ (i := 1) (N := some 15) (v := ?_) (a' := ?_) #[τ,τ,φ,φ,φ,φ,φ,φ,φ,φ,φ] rfl rfl (any_of HT_.out (by kernel_rfl)) (fun _ _ _ h => h) (Or.inl ⟨by rfl, ?_⟩) ?_ ?_
    rotate_left; (intro w'; go_simp; with_reducible rfl); rotate_left; (simp only [Act.put, zz1, zz2, zz3, i64_w, i32_w]; rfl)
    refine pure_ (i := 2) (N := some 16) (v := ?_) (a' := ?_) #[τ,τ,τ,φ,φ,φ,φ,φ,φ,φ,φ] rfl rfl (any_of HT_.out (by kernel_rfl)) (fun _ _ _ h => h) (Or.inl ⟨by rfl, ?_⟩) ?_ ?_
    rotate_left; (intro w'; go_simp; with_reducible rfl); rotate_left; (simp only [Act.put, zz1, zz2, zz3, i64_w, i32_w]; rfl)
    refine take_ (i := 3) (N := some 17) (v := ?_) (a' := ?_) #[τ,τ,τ,τ,φ,φ,φ,φ,φ,φ,φ] rfl rfl (take_ofW HT_.out HW_.out (by kernel_rfl)) (fun _ _ _ h => h) (Or.inl ⟨by rfl, ?_⟩) hHeld ?_ ?_
    rotate_left; (rintro w' ⟨s0, s1, s2, s3⟩; go_simp; with_reducible rfl); rotate_left; (simp only [Act.put, zz1, zz2, zz3, i64_w, i32_w]; rfl)
    refine take_ (i := 4) (N := some 18) (v := ?_) (a' := ?_) #[τ,τ,τ,τ,τ,φ,φ,φ,φ,φ,φ] rfl rfl (take_ofW HT_.out HW_.out (by kernel_rfl)) (fun _ _ _ h => h) (Or.inl ⟨by rfl, ?_⟩) hHeld ?_ ?_
    rotate_left; (rintro w' ⟨s0, s1, s2, s3⟩; go_simp; with_reducible rfl); rotate_left; (simp only [Act.put, zz1, zz2, zz3, i64_w, i32_w]; rfl)
    refine take_ (i := 5) (N := some 19) (v := ?_) (a' := ?_) #[τ,τ,τ,τ,τ,τ,φ,φ,φ,φ,φ] rfl rfl (take_ofW HT_.out HW_.out (by kernel_rfl)) (fun _ _ _ h => h) (Or.inl ⟨by rfl, ?_⟩) hHeld ?_ ?_
    rotate_left; (rintro w' ⟨s0, s1, s2, s3⟩; go_simp; with_reducible rfl); rotate_left; (simp only [Act.put, zz1, zz2, zz3, i64_w, i32_w]; rfl)
    refine pure_ (i := 6) (N := some 13) (v := ?_) (a' := ?_) #[τ,τ,τ,τ,τ,τ,τ,φ,φ,φ,φ] rfl rfl (any_of HT_.out (by kernel_rfl)) (fun _ _ _ h => h) (Or.inl ⟨by rfl, ?_⟩) ?_ ?_
    rotate_left; (intro w'; go_simp; with_reducible rfl); rotate_left; (simp only [Act.put, zz1, zz2, zz3, i64_w, i32_w]; rfl)
    refine pure_ (i := 7) (N := some 20) (v := ?_) (a' := ?_) #[τ,τ,τ,τ,τ,τ,τ,τ,φ,φ,φ] rfl rfl (any_of HT_.out (by kernel_rfl)) (fun _ _ _ h => h) (Or.inl ⟨by rfl, ?_⟩) ?_ ?_
    rotate_left; (intro w'; go_simp; with_reducible rfl); rotate_left; (simp only [Act.put, zz1, zz2, zz3, i64_w, i32_w]; rfl)
    refine pure_ (i := 8) (N := some 21) (v := ?_) (a' := ?_) #[τ,τ,τ,τ,τ,τ,τ,τ,τ,φ,φ] rfl rfl (any_of HT_.out (by kernel_rfl)) (fun _ _ _ h => h) (Or.inl ⟨by rfl, ?_⟩) ?_ ?_
    rotate_left; (intro w'; go_simp; with_reducible rfl); rotate_left; (simp only [Act.put, zz1, zz2, zz3, i64_w, i32_w]; rfl)
    refine pure_ (i := 9) (N := some 5) (v := ?_) (a' := ?_) #[τ,τ,τ,τ,τ,τ,τ,τ,τ,τ,φ] rfl rfl (any_of HT_.out (by kernel_rfl)) (fun _ _ _ h => h) (Or.inl ⟨by rfl, ?_⟩) ?_ ?_
    rotate_left; (intro w'; go_simp; with_reducible rfl); rotate_left; (simp only [Act.put, zz1, zz2, zz3, i64_w, i32_w]; rfl)
    refine pure_ (i := 10) (N := some 6) (v := ?_) (a' := ?_) #[τ,τ,τ,τ,τ,τ,τ,τ,τ,τ,τ] rfl rfl (any_of HT_.out (by kernel_rfl)) (fun _ _ _ h => h) (Or.inl ⟨by rfl, ?_⟩) ?_ ?_
    rotate_left; (intro w'; go_simp; with_reducible rfl); rotate_left; (simp only [Act.put, zz1, zz2, zz3, i64_w, i32_w]; rfl)
    refine done_ (done_of HT_.out (by kernel_rfl)) ?_
    have x1 := (blk_cell HFd0.out.blk 1).trans rfl
    have hl8 : (8000 < (l.length : Int)) = False := eq_false (by have := HL256.out; omega)
    clear HLk hHeld
    have hf8 := heap_alloc_new V0 (.cells #[.int .i64 (a : Int), .int .i64 (b : Int), .slice none 0 0] 37)
    have HFd2 := Aside0.mk (HFd0.out.alloc (.cells #[.int .i64 (a : Int), .int .i64 (b : Int), .slice none 0 0] 37)).drew
    have HKp2 := Aside0.mk (HKp0.out.trans (Kp.below (below_drew (below_alloc (Below.refl V0.heap.size V0) (.cells #[.int .i64 (a : Int), .int .i64 (b : Int), .slice none 0 0] 37)))))
    have hqbd := blk_drew (blk_alloc hqb (.cells #[.int .i64 (a : Int), .int .i64 (b : Int), .slice none 0 0] 37))
    have hf8d := blk_drew hf8
    have x0d := (blk_cell HFd2.out.blk 0).trans rfl
    have y0d := (blk_cell hqbd 0).trans rfl
    have y1d := (blk_cell hqbd 1).trans rfl
    have hxn := (HN.out.below HFd2.out.old)
    obtain ⟨x, hx⟩ : ∃ x, x = nd g a := ⟨_, rfl⟩
    rw [← hx] at hxn
    have HX := Aside0.mk hx
    have n0 := hxn.c0
    have HQ8 := Aside0.mk (show q < V0.heap.size from hq)
    clear hxn hx hf8
    go_wp2_with (fail)
    refine start_ (n := 11) (S := fun w' => w'.cell? ⟨xb, 0, none⟩ = some (.slice (some ad) g.length c0) ∧ w'.cell? ⟨q, 0, none⟩ = some (.int .i64 (a : Int)) ∧ w'.cell? (ad.add (a * 5)) = some (.int .i64 x.f0)) (ds := []) #[φ,φ,φ,φ,φ,φ,φ,φ,φ,φ,φ] (by kernel_rfl) rfl rfl ⟨x0d, y0d, n0⟩ (fun hHeld => ?_)
    generalize (V0.alloc (.cells #[.int .i64 (a : Int), .int .i64 (b : Int), .slice none 0 0] 37)).drew = V2 at x0d y0d y1d n0 HFd2 HKp2 hqbd hf8d hHeld ⊢
    refine with_tabW fi8.tab8 fi8.bits8 (fun HT_ HW_ => ?_)
    refine pure_ (i := 0) (N := some 38) (v := ?_) (a' := ?_) #[τ,φ,φ,φ,φ,φ,φ,φ,φ,φ,φ] rfl rfl (any_of HT_.out (by kernel_rfl)) (fun _ _ _ h => h) (Or.inl ⟨by rfl, ?_⟩) ?_ ?_
    rotate_left; (intro w'; go_simp; with_reducible rfl); rotate_left; (simp only [Act.put, zz1, zz2, zz3, i64_w, i32_w]; rfl)
    refine pure_ (i := 1) (N := some 39) (v := ?_) (a' := ?_) #[τ,τ,φ,φ,φ,φ,φ,φ,φ,φ,φ] rfl rfl (any_of HT_.out (by kernel_rfl)) (fun _ _ _ h => h) (Or.inl ⟨by rfl, ?_⟩) ?_ ?_
    rotate_left; (intro w'; go_simp; with_reducible rfl); rotate_left; (simp only [Act.put, zz1, zz2, zz3, i64_w, i32_w]; rfl)
    refine pure_ (i := 2) (N := some 40) (v := ?_) (a' := ?_) #[τ,τ,τ,φ,φ,φ,φ,φ,φ,φ,φ] rfl rfl (any_of HT_.out (by kernel_rfl)) (fun _ _ _ h => h) (Or.inl ⟨by rfl, ?_⟩) ?_ ?_
    rotate_left; (intro w'; go_simp; with_reducible rfl); rotate_left; (simp only [Act.put, zz1, zz2, zz3, i64_w, i32_w]; rfl)
    refine pure_ (i := 3) (N := some 41) (v := ?_) (a' := ?_) #[τ,τ,τ,τ,φ,φ,φ,φ,φ,φ,φ] rfl rfl (any_of HT_.out (by kernel_rfl)) (fun _ _ _ h => h) (Or.inl ⟨by rfl, ?_⟩) ?_ ?_
    rotate_left; (intro w'; go_simp; with_reducible rfl); rotate_left; (simp only [Act.put, zz1, zz2, zz3, i64_w, i32_w]; rfl)
    refine pure_ (i := 5) (N := some 43) (v := ?_) (a' := ?_) #[τ,τ,τ,τ,φ,τ,φ,φ,φ,φ,φ] rfl rfl (any_of HT_.out (by kernel_rfl)) (fun _ _ _ h => h) (Or.inl ⟨by rfl, ?_⟩) ?_ ?_
    rotate_left; (intro w'; go_simp; with_reducible rfl); rotate_left; (simp only [Act.put, zz1, zz2, zz3, i64_w, i32_w]; rfl)
    refine take_ (i := 4) (N := some 42) (v := ?_) (a' := ?_) #[τ,τ,τ,τ,τ,τ,φ,φ,φ,φ,φ] rfl rfl (take_ofW HT_.out HW_.out (by kernel_rfl)) (fun _ _ _ h => h) (Or.inl ⟨by rfl, ?_⟩) hHeld ?_ ?_
    rotate_left; (rintro w' ⟨s0, s1, s2⟩; go_simp; with_reducible rfl); rotate_left; (simp only [Act.put, zz1, zz2, zz3, i64_w, i32_w]; rfl)
    refine take_ (i := 6) (N := some 44) (v := ?_) (a' := ?_) #[τ,τ,τ,τ,τ,τ,τ,φ,φ,φ,φ] rfl rfl (take_ofW HT_.out HW_.out (by kernel_rfl)) (fun _ _ _ h => h) (Or.inl ⟨by rfl, ?_⟩) hHeld ?_ ?_
    rotate_left; (rintro w' ⟨s0, s1, s2⟩; go_simp; with_reducible rfl); rotate_left; (simp only [Act.put, zz1, zz2, zz3, i64_w, i32_w]; rfl)
    refine pure_ (i := 7) (N := some 45) (v := ?_) (a' := ?_) #[τ,τ,τ,τ,τ,τ,τ,τ,φ,φ,φ] rfl rfl (any_of HT_.out (by kernel_rfl)) (fun _ _ _ h => h) (Or.inl ⟨by rfl, ?_⟩) ?_ ?_
    rotate_left; (intro w'; go_simp; with_reducible rfl); rotate_left; (simp only [Act.put, zz1, zz2, zz3, i64_w, i32_w]; rfl)
    refine pure_ (i := 8) (N := some 46) (v := ?_) (a' := ?_) #[τ,τ,τ,τ,τ,τ,τ,τ,τ,φ,φ] rfl rfl (any_of HT_.out (by kernel_rfl)) (fun _ _ _ h => h) (Or.inl ⟨by rfl, ?_⟩) ?_ ?_
    rotate_left; (intro w'; go_simp; with_reducible rfl); rotate_left; (simp only [Act.put, zz1, zz2, zz3, i64_w, i32_w]; rfl)
    refine take_ (i := 9) (N := some 47) (v := ?_) (a' := ?_) #[τ,τ,τ,τ,τ,τ,τ,τ,τ,τ,φ] rfl rfl (take_ofW HT_.out HW_.out (by kernel_rfl)) (fun _ _ _ h => h) (Or.inl ⟨by rfl, ?_⟩) hHeld ?_ ?_
    rotate_left; (rintro w' ⟨s0, s1, s2⟩; go_simp; with_reducible rfl); rotate_left; (simp only [Act.put, zz1, zz2, zz3, i64_w, i32_w]; rfl)
    refine pure_ (i := 10) (N := some 48) (v := ?_) (a' := ?_) #[τ,τ,τ,τ,τ,τ,τ,τ,τ,τ,τ] rfl rfl (any_of HT_.out (by kernel_rfl)) (fun _ _ _ h => h) (Or.inl ⟨by rfl, ?_⟩) ?_ ?_
    rotate_left; (intro w'; go_simp; with_reducible rfl); rotate_left; (simp only [Act.put, zz1, zz2, zz3, i64_w, i32_w]; rfl)
    refine done_ (done_of HT_.out (by kernel_rfl)) ?_
    clear hHeld n0
    have HW0 : Aside0 ((mk0 (pickN g) g ((a : Int), (b : Int))).f2 = if x.f0 = 8 then [] else [pickN g a b]) := ⟨by rw [HX.out]; rfl⟩
    generalize hq8 : V0.heap.size = q8 at HFd2 hf8d HQ8 ⊢
    by_cases h8 : x.f0 = 8
    · have b8 : (x.f0 != 8) = false := by simpa using h8
      have HWs := Aside0.mk (show ([] : List Int) = (mk0 (pickN g) g ((a : Int), (b : Int))).f2 by rw [HW0.out, if_pos h8])
      have HRw := Aside0.mk (Kd.R_nil (Kd.int .i64) 3 V2 W.heap.size (fun _ => True))
      have HL8 := Aside0.mk h8
      clear h8 HW0
      have HFu := HFd2
      have HKu := HKp2
      have hqu := hqbd
      have hfu := hf8d
      have HRw := HRw
      clear x0d y0d y1d HFd2 HKp2 hqbd hf8d
      have HNum := Aside0.mk (show xb < q ∧ m < q ∧ q < q8 ∧ W.heap.size = q from ⟨by have := HSz.out.1; omega, by have := HSz.out.2; omega, HQ8.out, hq_⟩)
      have x2u := drew_cell ((blk_cell HFu.out.blk 2).trans rfl)
      have y0u := drew_cell ((blk_cell hqu 0).trans rfl)
      have y1u := drew_cell ((blk_cell hqu 1).trans rfl)
      have HFu := Aside0.mk HFu.out.drew
      have HKu := Aside0.mk (HKu.out.trans (Kp.below (below_drew (Below.refl V2.heap.size V2))))
      have hfu := blk_drew hfu
      have hqu := blk_drew hqu
      have HRw := Aside0.mk (Kd.R_below HRw.out (below_drew (Below.refl V2.heap.size V2)))
      obtain ⟨w1, hrun0, hm1, hg1⟩ := HFu.out.mp.put HAB.out.1 HAB.out.2 l.length (by have := HL256.out; omega)
      have hrun : (Instr.mapUpdate 66 (.map (some m)) (.agg #[.int .i64 (a : Int), .int .i64 (b : Int)]) (.int .i64 (l.length : Int))).run Tryd.prog V2.drew = .ok () w1 := hrun0
      have HM1 := Aside0.mk hm1
      have HG1 := Aside0.mk hg1
      clear hrun0 hm1 hg1
      go_wp2_with (fail)
      refine start_ (n := 7) (S := fun w' => w'.cell? ⟨xb, 2, none⟩ = some (.map (some m)) ∧ w'.cell? ⟨q, 0, none⟩ = some (.int .i64 (a : Int)) ∧ w'.cell? ⟨q, 1, none⟩ = some (.int .i64 (b : Int))) (ds := [6]) #[φ,φ,φ,φ,φ,φ,φ] (by kernel_rfl) rfl rfl ⟨x2u, y0u, y1u⟩ (fun hHeld => ?_)
      generalize V2.drew = U1 at x2u y0u y1u HFu HKu hfu HRw hqu hrun HG1 hHeld ⊢
      refine with_tabW fi10.tab10 fi10.bits10 (fun HT_ HW_ => ?_)
      refine pure_ (i := 0) (N := some 61) (v := ?_) (a' := ?_) #[τ,φ,φ,φ,φ,φ,φ] rfl rfl (any_of HT_.out (by kernel_rfl)) (fun _ _ _ h => h) (Or.inl ⟨by rfl, ?_⟩) ?_ ?_
      rotate_left; (intro w'; go_simp; with_reducible rfl); rotate_left; (simp only [Act.put, zz1, zz2, zz3, i64_w, i32_w]; rfl)
      refine pure_ (i := 1) (N := some 62) (v := ?_) (a' := ?_) #[τ,τ,φ,φ,φ,φ,φ] rfl rfl (any_of HT_.out (by kernel_rfl)) (fun _ _ _ h => h) (Or.inl ⟨by rfl, ?_⟩) ?_ ?_
      rotate_left; (intro w'; go_simp; with_reducible rfl); rotate_left; (simp only [Act.put, zz1, zz2, zz3, i64_w, i32_w]; rfl)
      refine pure_ (i := 2) (N := some 63) (v := ?_) (a' := ?_) #[τ,τ,τ,φ,φ,φ,φ] rfl rfl (any_of HT_.out (by kernel_rfl)) (fun _ _ _ h => h) (Or.inl ⟨by rfl, ?_⟩) ?_ ?_
      rotate_left; (intro w'; go_simp; with_reducible rfl); rotate_left; (simp only [Act.put, zz1, zz2, zz3, i64_w, i32_w]; rfl)
      refine pure_ (i := 5) (N := some 66) (v := ?_) (a' := ?_) #[τ,τ,τ,φ,φ,τ,φ] rfl rfl (any_of HT_.out (by kernel_rfl)) (fun _ _ _ h => h) (Or.inl ⟨by rfl, ?_⟩) ?_ ?_
      rotate_left; (intro w'; go_simp; with_reducible rfl); rotate_left; (simp only [Act.put, zz1, zz2, zz3, i64_w, i32_w]; rfl)
      refine take_ (i := 3) (N := some 64) (v := ?_) (a' := ?_) #[τ,τ,τ,τ,φ,τ,φ] rfl rfl (take_ofW HT_.out HW_.out (by kernel_rfl)) (fun _ _ _ h => h) (Or.inl ⟨by rfl, ?_⟩) hHeld ?_ ?_
      rotate_left; (rintro w' ⟨s0, s1, s2⟩; go_simp; with_reducible rfl); rotate_left; (simp only [Act.put, zz1, zz2, zz3, i64_w, i32_w]; rfl)
      refine take_ (i := 4) (N := some 65) (v := ?_) (a' := ?_) #[τ,τ,τ,τ,τ,τ,φ] rfl rfl (take_ofW HT_.out HW_.out (by kernel_rfl)) (fun _ _ _ h => h) (Or.inl ⟨by rfl, ?_⟩) hHeld ?_ ?_
      rotate_left; (rintro w' ⟨s0, s1, s2⟩; go_simp; with_reducible rfl); rotate_left; (simp only [Act.put, zz1, zz2, zz3, i64_w, i32_w]; rfl)
      refine last_ (i := 6) (N := none) #[τ,τ,τ,τ,τ,τ,τ] rfl rfl (one_of HT_.out (by kernel_rfl)) (by decide) (fun K hK => ?_)
      refine skip_ (w1 := ?_) (by rfl) rfl ?_ ?_
      rotate_left
      · go_simp
        rfl
      refine hK.out _ _ ?_
      clear hK K
      refine done_ (done_of HT_.out (by kernel_rfl)) ?_
      have hqm : some q8 ≠ some m := fun e => by have := HNum.out; cases e; omega
      have hf1 := blk_grown hfu HG1.out hqm
      have HK1 := Aside0.mk (HKu.out.trans (Kp.grown HG1.out (fun k e => .inr (.inl (by cases e; rfl)))))
      have HF1 : Aside0 (FdS w0 w1 xb m (some ad) c0 g (.slice A1 l.length c1) l (fm (l ++ [openF ((a : Int), (b : Int))])) (fun k => ok k ∧ k < W.heap.size)) := ⟨⟨HFu.out.old.grown HG1.out HFu.out.old.size (fun k e => by cases e; exact HFu.out.hm), HFu.out.hx, HFu.out.hm, HFu.out.ne, blk_grown HFu.out.blk HG1.out (fun e => HFu.out.ne (by cases e; rfl)), by rw [fm_open HI.out]; exact HM1.out, Kd.R_grown HFu.out.row HG1.out (fun k hk e => (HOk.out k hk.1).2 (by cases e; rfl)), HFu.out.gr, HFu.out.gc⟩⟩
      have HR1 := Aside0.mk (Kd.R_mono (ok' := fun _ => True) (Kd.R_grown (Kd.R_bound HRw.out) HG1.out (fun k hk e => by have := HNum.out; have := hk.2.1; cases e; omega)) (fun _ _ => trivial))
      have x1u := drew_cell ((blk_cell HF1.out.blk 1).trans rfl)
      have f0u := drew_cell ((blk_cell hf1 0).trans rfl)
      have f1u := drew_cell ((blk_cell hf1 1).trans rfl)
      have f2u := drew_cell ((blk_cell hf1 2).trans rfl)
      have HF2 := Aside0.mk HF1.out.drew
      have HK2 := Aside0.mk (HK1.out.trans (Kp.below (below_drew (Below.refl w1.heap.size w1))))
      have hf2 := blk_drew hf1
      have HR2 := Aside0.mk (Kd.R_below HR1.out (below_drew (Below.refl w1.heap.size w1)))
      have HRo := Aside0.mk (Kd.R_mono (ok' := fun k => ok k ∧ some k ≠ (.slice none 0 0 : Value).ownBlock ∧ k ≠ q8) HF2.out.row (fun k hk => ⟨hk.1, by simp [Value.ownBlock], by have := HNum.out; omega⟩))
      have HVn : Aside0 (∀ k, w1.drew.heap.size ≤ k → some k ≠ (.slice none 0 0 : Value).ownBlock) := ⟨fun k hk => by obtain ⟨inner, ho⟩ := Kd.R_own HR2.out; intro e; have := (World.ownsRow.lt ho k e.symm).2; omega⟩
      have HAL : Aside0 ((l.length + 1) * 40 ≤ 140737488355328) := ⟨by have := HL256.out; omega⟩
      clear x2u y0u y1u HFu HKu hfu hqu HRw hrun HM1 HG1 HF1 HK1 HR1 hf1 hHeld
      go_wp2_with (fail)
      refine start_ (n := 13) (S := fun w' => w'.cell? ⟨xb, 1, none⟩ = some (.slice A1 l.length c1) ∧ w'.cell? ⟨q8, 0, none⟩ = some (.int .i64 (a : Int)) ∧ w'.cell? ⟨q8, 1, none⟩ = some (.int .i64 (b : Int)) ∧ w'.cell? ⟨q8, 2, none⟩ = some (.slice none 0 0)) (ds := [8, 12]) #[φ,φ,φ,φ,φ,φ,φ,φ,φ,φ,φ,φ,φ] (by kernel_rfl) rfl rfl ⟨x1u, f0u, f1u, f2u⟩ (fun hHeld => ?_)
      generalize w1.drew = X1 at x1u f0u f1u f2u HF2 HK2 hf2 HR2 HVn HRo hHeld ⊢
      refine with_tabW fi11.tab11 fi11.bits11 (fun HT_ HW_ => ?_)
      refine pure_ (i := 0) (N := some 67) (v := ?_) (a' := ?_) #[τ,φ,φ,φ,φ,φ,φ,φ,φ,φ,φ,φ,φ] rfl rfl (any_of HT_.out (by kernel_rfl)) (fun _ _ _ h => h) (Or.inl ⟨by rfl, ?_⟩) ?_ ?_
      rotate_left; (intro w'; go_simp; with_reducible rfl); rotate_left; (simp only [Act.put, zz1, zz2, zz3, i64_w, i32_w]; rfl)
      refine pure_ (i := 1) (N := some 68) (v := ?_) (a' := ?_) #[τ,τ,φ,φ,φ,φ,φ,φ,φ,φ,φ,φ,φ] rfl rfl (any_of HT_.out (by kernel_rfl)) (fun _ _ _ h => h) (Or.inl ⟨by rfl, ?_⟩) ?_ ?_
      rotate_left; (intro w'; go_simp; with_reducible rfl); rotate_left; (simp only [Act.put, zz1, zz2, zz3, i64_w, i32_w]; rfl)
      refine pure_ (i := 2) (N := some 69) (v := ?_) (a' := ?_) #[τ,τ,τ,φ,φ,φ,φ,φ,φ,φ,φ,φ,φ] rfl rfl (any_of HT_.out (by kernel_rfl)) (fun _ _ _ h => h) (Or.inl ⟨by rfl, ?_⟩) ?_ ?_
      rotate_left; (intro w'; go_simp; with_reducible rfl); rotate_left; (simp only [Act.put, zz1, zz2, zz3, i64_w, i32_w]; rfl)
      refine pure_ (i := 3) (N := some 70) (v := ?_) (a' := ?_) #[τ,τ,τ,τ,φ,φ,φ,φ,φ,φ,φ,φ,φ] rfl rfl (any_of HT_.out (by kernel_rfl)) (fun _ _ _ h => h) (Or.inl ⟨by rfl, ?_⟩) ?_ ?_
      rotate_left; (intro w'; go_simp; with_reducible rfl); rotate_left; (simp only [Act.put, zz1, zz2, zz3, i64_w, i32_w]; rfl)
      refine pure_ (i := 4) (N := some 71) (v := ?_) (a' := ?_) #[τ,τ,τ,τ,τ,φ,φ,φ,φ,φ,φ,φ,φ] rfl rfl (any_of HT_.out (by kernel_rfl)) (fun _ _ _ h => h) (Or.inl ⟨by rfl, ?_⟩) ?_ ?_
      rotate_left; (intro w'; go_simp; with_reducible rfl); rotate_left; (simp only [Act.put, zz1, zz2, zz3, i64_w, i32_w]; rfl)
      refine take_ (i := 5) (N := some 72) (v := ?_) (a' := ?_) #[τ,τ,τ,τ,τ,τ,φ,φ,φ,φ,φ,φ,φ] rfl rfl (take_ofW HT_.out HW_.out (by kernel_rfl)) (fun _ _ _ h => h) (Or.inl ⟨by rfl, ?_⟩) hHeld ?_ ?_
      rotate_left; (rintro w' ⟨s0, s1, s2, s3⟩; go_simp; with_reducible rfl); rotate_left; (simp only [Act.put, zz1, zz2, zz3, i64_w, i32_w]; rfl)
      refine take_ (i := 6) (N := some 73) (v := ?_) (a' := ?_) #[τ,τ,τ,τ,τ,τ,τ,φ,φ,φ,φ,φ,φ] rfl rfl (take_ofW HT_.out HW_.out (by kernel_rfl)) (fun _ _ _ h => h) (Or.inl ⟨by rfl, ?_⟩) hHeld ?_ ?_
      rotate_left; (rintro w' ⟨s0, s1, s2, s3⟩; go_simp; with_reducible rfl); rotate_left; (simp only [Act.put, zz1, zz2, zz3, i64_w, i32_w]; rfl)
      refine one_ (i := 7) (N := some 74) #[τ,τ,τ,τ,τ,τ,τ,τ,φ,φ,φ,φ,φ] rfl rfl (one_of HT_.out (by kernel_rfl)) (by decide) (fun K hK => ?_)
      refine value_ (w1 := ?_) (v := ?_) (by rfl) rfl ?_ ?_
      rotate_left 2
      · go_simp
        constructor
        · rfl
        · rfl
      refine hK.out _ _ ⟨pw_cell_below (below_alloc (Below.refl _ _) _) x1u, pw_cell_below (below_alloc (Below.refl _ _) _) f0u, pw_cell_below (below_alloc (Below.refl _ _) _) f1u, pw_cell_below (below_alloc (Below.refl _ _) _) f2u⟩ (fun hHeld => ?_)
      clear hK K
      refine norm_ (a' := ?_) ?_ ?_
      rotate_left
      · show Act.put _ (some 74) _ = _
        simp only [Act.put, zz1, zz2, zz3, i64_w, i32_w]
        rfl
      refine last_ (i := 8) (N := some 75) #[τ,τ,τ,τ,τ,τ,τ,τ,τ,φ,φ,φ,φ] rfl rfl (one_of HT_.out (by kernel_rfl)) (by decide) (fun K hK => ?_)
      refine Kd.R_append_step kO (w0 := w0) w0.heap.size (by rfl) (.tmp 72) (.tmp 74) 29 37 (.agg #[.int .i64 0, .int .i64 0, .slice none 0 0]) 40 rfl Tryd.underlying29 infoF rfl (by decide) (by omega) (.slice A1 l.length c1) l (openF ((a : Int), (b : Int))) [.int .i64 (a : Int), .int .i64 (b : Int), .slice none 0 0] (fun k => ok k ∧ some k ≠ (.slice none 0 0 : Value).ownBlock ∧ k ≠ q8) (fun _ => False) rfl rfl (.inr ⟨rfl, _, _, _, rfl⟩) (fun _ hk => hk.elim) (fun k hk => ⟨HFr.out k (Nat.le_trans HK2.out.size hk), HVn.out k hk, by have := blk_lt hf2; omega⟩) HRo.out HF2.out.old HF2.out.old.size HAL.out ?_
      intro v9 W9 ho hb hg9 hat9
      obtain ⟨A9, c9, e9, hc9, hr9⟩ := Kd.R_reads ho
      obtain ⟨n9, hn9⟩ : ∃ n9, n9 = (l ++ [openF ((a : Int), (b : Int))]).length := ⟨_, rfl⟩
      rw [← hn9] at e9 hc9 hr9
      subst e9
      have HN9 := Aside0.mk hn9
      have HR9 := Aside0.mk hr9
      have HC9 := Aside0.mk hc9
      have HO9 := Aside0.mk ho
      have HG9 := Aside0.mk hg9
      have HAt := Aside0.mk hat9
      clear hn9 hr9 hc9 ho hb hat9
      have hne1 : some xb ≠ (Value.slice A1 l.length c1).ownBlock := fun e => (HOk.out _ (HF2.out.row.1 _ e.symm).1).1 rfl
      have hbx9 := blk_grown HF2.out.blk hg9 hne1
      clear hg9 hne1
      have cc9 : W9.cell? ⟨xb, 1, none⟩ = some (.slice A1 l.length c1) := (blk_cell hbx9 1).trans rfl
      have zz9 : W9.frozen? ⟨xb, 1, none⟩ = false := blk_frozen hbx9 1
      refine hK.out _ _ ?_
      clear hK K
      refine norm_ (a' := ?_) ?_ ?_
      rotate_left
      · show Act.put _ (some 75) _ = _
        simp only [Act.put, zz1, zz2, zz3, i64_w, i32_w]
        rfl
      refine pure_ (i := 9) (N := some 76) (v := ?_) (a' := ?_) #[τ,τ,τ,τ,τ,τ,τ,τ,τ,τ,φ,φ,φ] rfl rfl (any_of HT_.out (by kernel_rfl)) (fun _ _ _ h => h) (Or.inl ⟨by rfl, ?_⟩) ?_ ?_
      rotate_left; (intro w'; go_simp; with_reducible rfl); rotate_left; (simp only [Act.put, zz1, zz2, zz3, i64_w, i32_w]; rfl)
      refine pure_ (i := 10) (N := some 77) (v := ?_) (a' := ?_) #[τ,τ,τ,τ,τ,τ,τ,τ,τ,τ,τ,φ,φ] rfl rfl (any_of HT_.out (by kernel_rfl)) (fun _ _ _ h => h) (Or.inl ⟨by rfl, ?_⟩) ?_ ?_
      rotate_left; (intro w'; go_simp; with_reducible rfl); rotate_left; (simp only [Act.put, zz1, zz2, zz3, i64_w, i32_w]; rfl)
      refine pure_ (i := 11) (N := some 78) (v := ?_) (a' := ?_) #[τ,τ,τ,τ,τ,τ,τ,τ,τ,τ,τ,τ,φ] rfl rfl (any_of HT_.out (by kernel_rfl)) (fun _ _ _ h => h) (Or.inl ⟨by rfl, ?_⟩) ?_ ?_
      rotate_left; (intro w'; go_simp; with_reducible rfl); rotate_left; (simp only [Act.put, zz1, zz2, zz3, i64_w, i32_w]; rfl)
      refine last_ (i := 12) (N := none) #[τ,τ,τ,τ,τ,τ,τ,τ,τ,τ,τ,τ,τ] rfl rfl (one_of HT_.out (by kernel_rfl)) (by decide) (fun K hK => ?_)
      refine skip_ (w1 := ?_) (by rfl) rfl ?_ ?_
      rotate_left
      · go_simp
        rfl
      refine hK.out _ _ ?_
      clear hK K
      refine done_ (done_of HT_.out (by kernel_rfl)) ?_
      have hne1 : some xb ≠ (Value.slice A1 l.length c1).ownBlock := fun e => (HOk.out _ (HF2.out.row.1 _ e.symm).1).1 rfl
      have hne2 : some m ≠ (Value.slice A1 l.length c1).ownBlock := fun e => (HOk.out _ (HF2.out.row.1 _ e.symm).1).2 rfl
      have hne3 : some q8 ≠ (Value.slice A1 l.length c1).ownBlock := fun e => by have h1 := HOwn.out _ e.symm; have := HNum.out; omega
      have hYb : W9.grownBy (W9.setCell ⟨xb, 1, none⟩ (.slice A9 n9 c9)) (some xb) := grown_set W9 ⟨xb, 1, none⟩ (.slice A9 n9 c9)
      have hKxy : Kp X1 (W9.setCell ⟨xb, 1, none⟩ (.slice A9 n9 c9)) xb m (.slice A1 l.length c1) (.slice A9 n9 c9) := Kp.trans ⟨HG9.out.size, fun k hk _ _ h => HG9.out.block k hk h, HAt.out⟩ (Kp.grown hYb (fun k e => .inl (by cases e; rfl)))
      have HKY := Aside0.mk (HK2.out.trans hKxy)
      have HFY : Aside0 (FdS w0 (W9.setCell ⟨xb, 1, none⟩ (.slice A9 n9 c9)) xb m (some ad) c0 g (.slice A9 n9 c9) (l ++ [openF ((a : Int), (b : Int))]) (fm (l ++ [openF ((a : Int), (b : Int))])) (fun k => ok k ∧ some k ≠ (.slice none 0 0 : Value).ownBlock ∧ k ≠ q8)) :=
        ⟨⟨(HF2.out.old.grown HG9.out HF2.out.old.size (fun k e => Kd.R_base HF2.out.row k e)).grown hYb (Nat.le_trans HF2.out.old.size HG9.out.size) (fun k e => by cases e; exact HF2.out.hx), HF2.out.hx, HF2.out.hm, HF2.out.ne, blk_put hbx9 1 _ rfl, (HF2.out.mp.kept HG9.out hne2).kept hYb (fun e => HF2.out.ne (by cases e; rfl)), Kd.R_far HO9.out (fun k hk => (HOk.out k hk.1).1) _, HF2.out.gr, HF2.out.gc⟩⟩
      have hfY := blk_grown (blk_grown hf2 HG9.out hne3) hYb (fun e => by have := HNum.out; cases e; omega)
      have HRY := Aside0.mk (Kd.R_mono (ok' := fun _ => True) (Kd.R_step (Kd.R_bound HR2.out) (fun k hk hlt => hKxy.block k hlt (by have := HNum.out; have := hk.2.1; omega) (by have := HNum.out; have := hk.2.1; omega) (fun e => by have h1 := HOwn.out _ e.symm; have := hk.2.1; omega))) (fun _ _ => trivial))
      have HsY := Aside0.mk hKxy.size
      have HX1q := Aside0.mk (blk_lt hf2)
      clear hne1 hne2 hne3 hYb hKxy HF2 HK2 hf2 HR2 HVn HRo HAL HO9 HG9 HAt HR9 HC9 hbx9 cc9 zz9 x1u f0u f1u f2u hHeld
      generalize W9.setCell ⟨xb, 1, none⟩ (.slice A9 n9 c9) = Y at HKY HFY hfY HRY HsY ⊢
      have HFY := Aside0.mk HFY.out.drew
      have HKY := Aside0.mk (HKY.out.trans (Kp.below (below_drew (Below.refl Y.heap.size Y))))
      have f0y := drew_cell ((blk_cell hfY 0).trans rfl)
      have f1y := drew_cell ((blk_cell hfY 1).trans rfl)
      have f2y := drew_cell ((blk_cell hfY 2).trans rfl)
      have hfY := blk_drew hfY
      have HRY := Aside0.mk (Kd.R_below HRY.out (below_drew (Below.refl Y.heap.size Y)))
      have HBy : Aside0 (Calls Tryd.prog 46 #[.pointer (some ⟨xb, 0, none⟩), .agg #[.int .i64 (a : Int), .int .i64 (b : Int), .slice none 0 0]] Y.drew fun e w' => ∃ v, e = .returned (.tuple #[v, .bool (byP g (mk0 (pickN g) g ((a : Int), (b : Int)))).2]) ∧ Kd.R kP 72 w' Y.drew.heap.size (fun _ => True) v (byP g (mk0 (pickN g) g ((a : Int), (b : Int)))).1 ∧ Below Y.drew.heap.size Y.drew w') := ⟨by
        have h := by_yes xb (some ad) c0 g a b [] none 0 Y.drew ((blk_cell HFY.out.blk 0).trans rfl) (Kd.C_below HFY.out.gr HFY.out.old) HFY.out.gc (Kd.R_reads' HRY.out).2.2 (Nat.le_refl _) HAB.out.1 HC.out (rise_of HC.out HAB.out.1) (by rw [HWs.out]; exact fok_mk0 HC.out HP.out)
        rw [show byP g ⟨a, b, []⟩ = byP g (mk0 (pickN g) g ((a : Int), (b : Int))) by rw [HWs.out]; rfl] at h
        exact h⟩
      obtain ⟨ps, hps⟩ : ∃ ps, ps = (byP g (mk0 (pickN g) g ((a : Int), (b : Int)))).1 := ⟨_, rfl⟩
      rw [← hps] at HBy
      have HPs := Aside0.mk hps
      clear hps
      go_wp2_with (fail)
      refine start_ (n := 10) (S := fun w' => w'.cell? ⟨q8, 0, none⟩ = some (.int .i64 (a : Int)) ∧ w'.cell? ⟨q8, 1, none⟩ = some (.int .i64 (b : Int)) ∧ w'.cell? ⟨q8, 2, none⟩ = some (.slice none 0 0)) (ds := []) #[φ,φ,φ,φ,φ,φ,φ,φ,φ,φ] (by kernel_rfl) rfl rfl ⟨f0y, f1y, f2y⟩ (fun hHeld => ?_)
      generalize Y.drew = Y1 at f0y f1y f2y HFY HKY hfY HRY HBy hHeld ⊢
      refine with_tabW fi12.tab12 fi12.bits12 (fun HT_ HW_ => ?_)
      refine pure_ (i := 0) (N := some 80) (v := ?_) (a' := ?_) #[τ,φ,φ,φ,φ,φ,φ,φ,φ,φ] rfl rfl (any_of HT_.out (by kernel_rfl)) (fun _ _ _ h => h) (Or.inl ⟨by rfl, ?_⟩) ?_ ?_
      rotate_left; (intro w'; go_simp; with_reducible rfl); rotate_left; (simp only [Act.put, zz1, zz2, zz3, i64_w, i32_w]; rfl)
      refine pure_ (i := 1) (N := some 81) (v := ?_) (a' := ?_) #[τ,τ,φ,φ,φ,φ,φ,φ,φ,φ] rfl rfl (any_of HT_.out (by kernel_rfl)) (fun _ _ _ h => h) (Or.inl ⟨by rfl, ?_⟩) ?_ ?_
      rotate_left; (intro w'; go_simp; with_reducible rfl); rotate_left; (simp only [Act.put, zz1, zz2, zz3, i64_w, i32_w]; rfl)
      refine pure_ (i := 2) (N := some 82) (v := ?_) (a' := ?_) #[τ,τ,τ,φ,φ,φ,φ,φ,φ,φ] rfl rfl (any_of HT_.out (by kernel_rfl)) (fun _ _ _ h => h) (Or.inl ⟨by rfl, ?_⟩) ?_ ?_
      rotate_left; (intro w'; go_simp; with_reducible rfl); rotate_left; (simp only [Act.put, zz1, zz2, zz3, i64_w, i32_w]; rfl)
      refine take_ (i := 3) (N := some 83) (v := ?_) (a' := ?_) #[τ,τ,τ,τ,φ,φ,φ,φ,φ,φ] rfl rfl (take_ofW HT_.out HW_.out (by kernel_rfl)) (fun _ _ _ h => h) (Or.inl ⟨by rfl, ?_⟩) hHeld ?_ ?_
      rotate_left; (rintro w' ⟨s0, s1, s2⟩; go_simp; with_reducible rfl); rotate_left; (simp only [Act.put, zz1, zz2, zz3, i64_w, i32_w]; rfl)
      refine one_ (i := 4) (N := some 84) #[τ,τ,τ,τ,τ,φ,φ,φ,φ,φ] rfl rfl (one_of HT_.out (by kernel_rfl)) (by decide) (fun K hK => ?_)
      refine goes_ Tryd.func46 (by kernel_rfl) rfl #[.pointer (some ⟨xb, 0, none⟩), .agg #[.int .i64 (a : Int), .int .i64 (b : Int), .slice none 0 0]] (by rfl) rfl rfl (by simp only [List.map_toArray, List.map_cons, List.map_nil]; rfl) ?_
      with_reducible refine (HBy.out).mono ?_
      rintro e Z ⟨von, rfl, hro, hbz⟩
      have HRo := Aside0.mk hro
      have HBz := Aside0.mk hbz
      have r0 := pw_cell_below hbz f0y
      have r1 := pw_cell_below hbz f1y
      have r2 := pw_cell_below hbz f2y
      clear hro hbz
      refine ⟨_, rfl, ?_⟩
      refine hK.out _ _ ⟨r0, r1, r2⟩ (fun hHeld => ?_)
      clear hK K
      refine norm_ (a' := ?_) ?_ ?_
      rotate_left
      · show Act.put _ (some 84) _ = _
        simp only [Act.put, zz1, zz2, zz3, i64_w, i32_w]
        rfl
      refine pure_ (i := 5) (N := some 79) (v := ?_) (a' := ?_) #[τ,τ,τ,τ,τ,τ,φ,φ,φ,φ] rfl rfl (any_of HT_.out (by kernel_rfl)) (fun _ _ _ h => h) (Or.inl ⟨by rfl, ?_⟩) ?_ ?_
      rotate_left; (intro w'; go_simp; with_reducible rfl); rotate_left; (simp only [Act.put, zz1, zz2, zz3, i64_w, i32_w]; rfl)
      refine pure_ (i := 6) (N := some 85) (v := ?_) (a' := ?_) #[τ,τ,τ,τ,τ,τ,τ,φ,φ,φ] rfl rfl (any_of HT_.out (by kernel_rfl)) (fun _ _ _ h => h) (Or.inl ⟨by rfl, ?_⟩) ?_ ?_
      rotate_left; (intro w'; go_simp; with_reducible rfl); rotate_left; (simp only [Act.put, zz1, zz2, zz3, i64_w, i32_w]; rfl)
      refine pure_ (i := 7) (N := some 86) (v := ?_) (a' := ?_) #[τ,τ,τ,τ,τ,τ,τ,τ,φ,φ] rfl rfl (any_of HT_.out (by kernel_rfl)) (fun _ _ _ h => h) (Or.inl ⟨by rfl, ?_⟩) ?_ ?_
      rotate_left; (intro w'; go_simp; with_reducible rfl); rotate_left; (simp only [Act.put, zz1, zz2, zz3, i64_w, i32_w]; rfl)
      refine pure_ (i := 8) (N := some 9) (v := ?_) (a' := ?_) #[τ,τ,τ,τ,τ,τ,τ,τ,τ,φ] rfl rfl (any_of HT_.out (by kernel_rfl)) (fun _ _ _ h => h) (Or.inl ⟨by rfl, ?_⟩) ?_ ?_
      rotate_left; (intro w'; go_simp; with_reducible rfl); rotate_left; (simp only [Act.put, zz1, zz2, zz3, i64_w, i32_w]; rfl)
      refine pure_ (i := 9) (N := some 10) (v := ?_) (a' := ?_) #[τ,τ,τ,τ,τ,τ,τ,τ,τ,τ] rfl rfl (any_of HT_.out (by kernel_rfl)) (fun _ _ _ h => h) (Or.inl ⟨by rfl, ?_⟩) ?_ ?_
      rotate_left; (intro w'; go_simp; with_reducible rfl); rotate_left; (simp only [Act.put, zz1, zz2, zz3, i64_w, i32_w]; rfl)
      refine done_ (done_of HT_.out (by kernel_rfl)) ?_
      clear r0 r1 r2 f0y f1y f2y hHeld HBy
      have HFz := Aside0.mk (HFY.out.below HBz.out)
      have HKz := Aside0.mk (HKY.out.trans (Kp.below HBz.out))
      have HQz := Aside0.mk (blk_below hfY HBz.out)
      have HRz := Aside0.mk (Kd.R_below HRY.out HBz.out)
      have HRo := Aside0.mk (Kd.R_lower HRo.out HKY.out.size)
      obtain ⟨Ao, co, rfl, hco, hro⟩ := Kd.R_reads HRo.out
      have Hco := Aside0.mk hco
      have HPr := Aside0.mk (show ∀ p ∈ ps, Pr g p by rw [HPs.out]; exact (step_ok HC.out HP.out).2.1)
      have HPl := Aside0.mk (show ps.length ≤ 1000000000 by rw [HPs.out]; exact ps_len HC.out HP.out)
      have HGd1 := Aside0.mk (show F3.Good g (l ++ [openF ((a : Int), (b : Int))]) from HGd.out.snoc HP.out (idxP_none HI.out))
      have HV8 := Aside0.mk (show some q8 ≠ (.slice none 0 0 : Value).ownBlock from by simp [Value.ownBlock])
      clear hco hro HFY HKY hfY HRY HBz HX1q HsY
      go_wp2_with (fail)
      go_loopw [89] (fun v89 wr => ∃ (i : Nat) (v1i vWi : Value) (R : List Int × List FC), i ≤ ps.length ∧ v89 = .int .i64 i ∧ Aside0 (R = findL (findP (pickN g) g n) (ps.take i) (l ++ [openF ((a : Int), (b : Int))])) ∧ Aside0 (FdS w0 wr xb m (some ad) c0 g v1i R.2 (fm R.2) (fun k => ok k ∧ some k ≠ vWi.ownBlock ∧ k ≠ q8)) ∧ Aside0 (wr.heap[q8]? = some (.cells #[.int .i64 (a : Int), .int .i64 (b : Int), vWi] 37 (0, 0))) ∧
        Aside0 (Kd.R (Kd.int .i64) 3 wr W.heap.size (fun _ => True) vWi ([] ++ R.1)) ∧ Aside0 (Kd.R kP 72 wr W.heap.size (fun _ => True) (.slice Ao ps.length co) ps) ∧ Aside0 (Kp W wr xb m (.slice A1 l.length c1) v1i) ∧ Aside0 (F3.Good g R.2 ∧ l.length + 1 ≤ R.2.length ∧ R.1.length = i) ∧ Aside0 (some q8 ≠ vWi.ownBlock)) (fun v89 _ => ps.length + 1 - (intOf v89).toNat)
      case atStart => exact ⟨0, .slice A9 n9 c9, .slice none 0 0, ([], l ++ [openF ((a : Int), (b : Int))]), by omega, rfl, ⟨rfl⟩, HFz, HQz, ⟨by rw [List.append_nil]; exact HRz.out⟩, HRo, HKz, ⟨HGd1.out, by simp, rfl⟩, HV8⟩
      case round =>
        clear HFz HKz HQz HRz HRo HGd1 HV8
        obtain ⟨i, v1i, vWi, R, hi, rfl, HRe, HFi, HQi, HRi, HRoi, HKi, HGi, HW8⟩ := hrel
        rename World => X
        have hw : wrap64 ((i : Int) + 1) = ((i + 1 : Nat) : Int) := by have := HPl.out; unfold wrap64; omega
        by_cases hlt : i < ps.length
        · have hpr := HPr.out (ps.getD i (0, 0)) (by rw [List.getD_eq_getElem?_getD, List.getElem?_eq_getElem hlt]; exact List.getElem_mem hlt)
          obtain ⟨a', ha'⟩ := Int.eq_ofNat_of_zero_le hpr.a0
          obtain ⟨b', hb'⟩ := Int.eq_ofNat_of_zero_le hpr.b0
          have hpe : ps.getD i (0, 0) = ((a' : Int), (b' : Int)) := Prod.ext ha' hb'
          rw [hpe] at hpr
          have HPi := Aside0.mk hpr
          have HTk := Aside0.mk (show ps.take (i + 1) = ps.take i ++ [((a' : Int), (b' : Int))] by
            rw [List.take_add_one, List.getElem?_eq_getElem hlt, ← hpe, List.getD_eq_getElem?_getD, List.getElem?_eq_getElem hlt]
            rfl)
          obtain ⟨adp, eP, p0, p1⟩ := at_P (Kd.R_reads' HRoi.out).2.2 (i : Int) (by omega) (by omega)
          subst eP
          rw [Int.toNat_natCast, hpe] at p0 p1
          dsimp only at p0 p1
          obtain ⟨Aw, cw, eW, hcw, hrw⟩ := Kd.R_reads HRi.out
          obtain ⟨nw, hnw⟩ : ∃ nw, nw = ([] ++ R.1).length := ⟨_, rfl⟩
          rw [← hnw] at eW hcw hrw
          subst eW
          have HNw := Aside0.mk hnw
          obtain ⟨fr2, hfr2⟩ : ∃ fr2, fr2 = findP (pickN g) g n ((a' : Int), (b' : Int)) R.2 := ⟨_, rfl⟩
          have hz1 := heap_alloc_new X (.cells #[.int .i64 (a' : Int), .int .i64 (b' : Int)] 72)
          have HFx := Aside0.mk (HFi.out.alloc (.cells #[.int .i64 (a' : Int), .int .i64 (b' : Int)] 72)).drew
          have hbx := below_drew (below_alloc (Below.refl X.heap.size X) (.cells #[.int .i64 (a' : Int), .int .i64 (b' : Int)] 72))
          have HRx := Aside0.mk (Kd.R_below HRi.out hbx)
          have HRox := Aside0.mk (Kd.R_below HRoi.out hbx)
          have HKx := Aside0.mk (HKi.out.trans (Kp.below hbx))
          have hqx := blk_drew (blk_alloc HQi.out (.cells #[.int .i64 (a' : Int), .int .i64 (b' : Int)] 72))
          have hzx := blk_drew hz1
          have HQs := Aside0.mk (show q8 < X.heap.size from blk_lt HQi.out)
          have HV1 := Aside0.mk (show ∀ k, v1i.ownBlock = some k → k < X.heap.size from fun k hk => by obtain ⟨inner, ho⟩ := Kd.R_own HFi.out.row; exact (World.ownsRow.lt ho k hk).2)
          have HIH := Aside0.mk (ih w0 (X.alloc (.cells #[.int .i64 (a' : Int), .int .i64 (b' : Int)] 72)).drew xb m (some ad) c0 g v1i R.2 (fun k => ok k ∧ some k ≠ (Value.slice Aw nw cw).ownBlock ∧ k ≠ q8) a' b' HC.out H16.out HKy.out HFx.out (fun k hk => HOk.out k hk.1) (fun k hk => ⟨HFr.out k (Nat.le_trans HKx.out.size hk), fun e => by
            obtain ⟨inner, ho⟩ := Kd.R_own HRx.out
            have := (World.ownsRow.lt ho k e.symm).2
            omega, by have := blk_lt hqx; omega⟩) hpr HGi.out.1 (by have := HGi.out.2.1; have := HFuel.out; omega))
          rw [← hfr2] at HIH
          have HF2 := Aside0.mk (show F3.Good g fr2.2 ∧ R.2.length ≤ fr2.2.length by
            have h := findP_ok HC.out n ((a' : Int), (b' : Int)) R.2 hpr HGi.out.1 (by have := HGi.out.2.1; have := HFuel.out; omega)
            rw [← hfr2] at h
            exact ⟨h.good, h.le⟩)
          have HRe2 := Aside0.mk (show (R.1 ++ [fr2.1], fr2.2) = findL (findP (pickN g) g n) (ps.take (i + 1)) (l ++ [openF ((a : Int), (b : Int))]) by
            rw [HTk.out, findL_app, ← HRe.out]
            show _ = (R.1 ++ (findL (findP (pickN g) g n) [((a' : Int), (b' : Int))] R.2).1, (findL (findP (pickN g) g n) [((a' : Int), (b' : Int))] R.2).2)
            rw [show findL (findP (pickN g) g n) [((a' : Int), (b' : Int))] R.2 = ([fr2.1], fr2.2) by rw [hfr2]; rfl])
          have g2 := (blk_cell hqx 2).trans rfl
          have z0 := (blk_cell hzx 0).trans rfl
          have z1 := (blk_cell hzx 1).trans rfl
          have HLi := Aside0.mk hlt
          have HAL : Aside0 ((([] ++ R.1).length + 1) * 8 ≤ 140737488355328) := ⟨by rw [List.length_append, HGi.out.2.2]; have := HPl.out; simp; omega⟩
          have e8 : ((i : Int) < (ps.length : Int)) = True := eq_true (by omega)
          clear hpr ha' hb' hpe hnw hcw hrw hfr2 hz1 hbx
          go_wp2_with (fail)
          generalize hq12 : X.heap.size = q12 at z0 z1 hzx HV1 HQs ⊢
          refine start_ (n := 9) (S := fun w' => w'.cell? ⟨q8, 2, none⟩ = some (.slice Aw nw cw) ∧ w'.cell? ⟨q12, 0, none⟩ = some (.int .i64 (a' : Int)) ∧ w'.cell? ⟨q12, 1, none⟩ = some (.int .i64 (b' : Int))) (ds := [6, 8]) #[φ,φ,φ,φ,φ,φ,φ,φ,φ] (by kernel_rfl) rfl rfl ⟨g2, z0, z1⟩ (fun hHeld => ?_)
          generalize (X.alloc (.cells #[.int .i64 (a' : Int), .int .i64 (b' : Int)] 72)).drew = X1 at g2 z0 z1 HFx HRx HRox HKx hqx hzx HIH hHeld ⊢
          refine with_tabW fi16.tab16 fi16.bits16 (fun HT_ HW_ => ?_)
          refine pure_ (i := 0) (N := some 93) (v := ?_) (a' := ?_) #[τ,φ,φ,φ,φ,φ,φ,φ,φ] rfl rfl (any_of HT_.out (by kernel_rfl)) (fun _ _ _ h => h) (Or.inl ⟨by rfl, ?_⟩) ?_ ?_
          rotate_left; (intro w'; go_simp; with_reducible rfl); rotate_left; (simp only [Act.put, zz1, zz2, zz3, i64_w, i32_w]; rfl)
          refine pure_ (i := 2) (N := some 95) (v := ?_) (a' := ?_) #[τ,φ,τ,φ,φ,φ,φ,φ,φ] rfl rfl (any_of HT_.out (by kernel_rfl)) (fun _ _ _ h => h) (Or.inl ⟨by rfl, ?_⟩) ?_ ?_
          rotate_left; (intro w'; go_simp; with_reducible rfl); rotate_left; (simp only [Act.put, zz1, zz2, zz3, i64_w, i32_w]; rfl)
          refine take_ (i := 1) (N := some 94) (v := ?_) (a' := ?_) #[τ,τ,τ,φ,φ,φ,φ,φ,φ] rfl rfl (take_ofW HT_.out HW_.out (by kernel_rfl)) (fun _ _ _ h => h) (Or.inl ⟨by rfl, ?_⟩) hHeld ?_ ?_
          rotate_left; (rintro w' ⟨s0, s1, s2⟩; go_simp; with_reducible rfl); rotate_left; (simp only [Act.put, zz1, zz2, zz3, i64_w, i32_w]; rfl)
          refine take_ (i := 3) (N := some 96) (v := ?_) (a' := ?_) #[τ,τ,τ,τ,φ,φ,φ,φ,φ] rfl rfl (take_ofW HT_.out HW_.out (by kernel_rfl)) (fun _ _ _ h => h) (Or.inl ⟨by rfl, ?_⟩) hHeld ?_ ?_
          rotate_left; (rintro w' ⟨s0, s1, s2⟩; go_simp; with_reducible rfl); rotate_left; (simp only [Act.put, zz1, zz2, zz3, i64_w, i32_w]; rfl)
          refine one_ (i := 4) (N := some 97) #[τ,τ,τ,τ,τ,φ,φ,φ,φ] rfl rfl (one_of HT_.out (by kernel_rfl)) (by decide) (fun K hK => ?_)
          refine goes_ Tryd.func30 (by kernel_rfl) rfl #[.pointer (some ⟨xb, 0, none⟩), .agg #[.int .i64 (a' : Int), .int .i64 (b' : Int)]] (by rfl) rfl rfl (by simp only [List.map_toArray, List.map_cons, List.map_nil]; rfl) ?_
          with_reducible refine (HIH.out).mono ?_
          rintro e X2 ⟨v1j, rfl, hFj, hKj⟩
          have HFj := Aside0.mk hFj
          have hN8 : some q8 ≠ v1i.ownBlock := fun e => (HFx.out.row.1 q8 e.symm).2.2 rfl
          have hN12 : some q12 ≠ v1i.ownBlock := fun e => by have := HV1.out q12 e.symm; omega
          have hqj := (hKj.block q8 (blk_lt hqx) (by have := HNum.out; omega) (by have := HNum.out; omega) hN8).trans hqx
          have hzj := (hKj.block q12 (blk_lt hzx) (by have := HSz.out; have := HKi.out.size; omega) (by have := HSz.out; have := HKi.out.size; omega) hN12).trans hzx
          have HRj := Aside0.mk (Kd.R_mono (ok' := fun _ => True) (Kd.R_step (Kd.R_bound (R_apart HRx.out HFx.out.row (by decide))) (fun k hk hlt => hKj.block k hlt (by have := HSz.out; have := hk.2.1; omega) (by have := HSz.out; have := hk.2.1; omega) hk.1.2)) (fun _ _ => trivial))
          have HRoj := Aside0.mk (Kd.R_mono (ok' := fun _ => True) (Kd.R_step (Kd.R_bound (R_apart HRox.out HFx.out.row (by decide))) (fun k hk hlt => hKj.block k hlt (by have := HSz.out; have := hk.2.1; omega) (by have := HSz.out; have := hk.2.1; omega) hk.1.2)) (fun _ _ => trivial))
          have HKj := Aside0.mk (HKx.out.trans hKj)
          have HX1j := Aside0.mk hKj.size
          have HRowj := Aside0.mk hKj.row
          have r0 := (blk_cell hqj 2).trans rfl
          have r1 := (blk_cell hzj 0).trans rfl
          have r2 := (blk_cell hzj 1).trans rfl
          clear hFj hKj hN8 hN12 hzj
          refine ⟨_, rfl, ?_⟩
          refine hK.out _ _ ⟨r0, r1, r2⟩ (fun hHeld => ?_)
          clear hK K
          refine norm_ (a' := ?_) ?_ ?_
          rotate_left
          · show Act.put _ (some 97) _ = _
            simp only [Act.put, zz1, zz2, zz3, i64_w, i32_w]
            rfl
          refine one_ (i := 5) (N := some 98) #[τ,τ,τ,τ,τ,τ,φ,φ,φ] rfl rfl (one_of HT_.out (by kernel_rfl)) (by decide) (fun K hK => ?_)
          refine value_ (w1 := ?_) (v := ?_) (by rfl) rfl ?_ ?_
          rotate_left 2
          · go_simp
            constructor
            · rfl
            · rfl
          refine hK.out _ _ ⟨pw_cell_below (below_alloc (Below.refl _ _) _) r0, pw_cell_below (below_alloc (Below.refl _ _) _) r1, pw_cell_below (below_alloc (Below.refl _ _) _) r2⟩ (fun hHeld => ?_)
          clear hK K
          refine norm_ (a' := ?_) ?_ ?_
          rotate_left
          · show Act.put _ (some 98) _ = _
            simp only [Act.put, zz1, zz2, zz3, i64_w, i32_w]
            rfl
          refine last_ (i := 6) (N := some 99) #[τ,τ,τ,τ,τ,τ,τ,φ,φ] rfl rfl (one_of HT_.out (by kernel_rfl)) (by decide) (fun K hK => ?_)
          refine Kd.R_append_step (Kd.int .i64) (w0 := X2) W.heap.size (by rfl) (.tmp 94) (.tmp 98) 30 3 (.int .i64 0) 8 rfl Tryd.underlying30 infoI rfl (by decide) (by omega) (.slice Aw nw cw) ([] ++ R.1) fr2.1 [.int .i64 fr2.1] (fun _ => True) (fun _ => False) rfl rfl rfl (fun _ hk => hk.elim) (fun _ _ => trivial) HRj.out (Below.refl _ _) HKj.out.size HAL.out ?_
          intro v9 W9 ho hb hg9 hat9
          obtain ⟨A7, c7, e7, hc7, hr7⟩ := Kd.R_reads ho
          obtain ⟨n7, hn7⟩ : ∃ n7, n7 = (([] ++ R.1) ++ [fr2.1]).length := ⟨_, rfl⟩
          rw [← hn7] at e7 hc7 hr7
          subst e7
          have HO7 := Aside0.mk ho
          have HG7 := Aside0.mk hg9
          have HA7 := Aside0.mk hat9
          have hq7 := blk_grown hqj hg9 HW8.out
          have c7c : W9.cell? ⟨q8, 2, none⟩ = some (.slice Aw nw cw) := (blk_cell hq7 2).trans rfl
          have z7c : W9.frozen? ⟨q8, 2, none⟩ = false := blk_frozen hq7 2
          clear hn7 hc7 hr7 ho hb hg9 hat9
          refine hK.out _ _ ?_
          clear hK K
          refine norm_ (a' := ?_) ?_ ?_
          rotate_left
          · show Act.put _ (some 99) _ = _
            simp only [Act.put, zz1, zz2, zz3, i64_w, i32_w]
            rfl
          refine pure_ (i := 7) (N := some 100) (v := ?_) (a' := ?_) #[τ,τ,τ,τ,τ,τ,τ,τ,φ] rfl rfl (any_of HT_.out (by kernel_rfl)) (fun _ _ _ h => h) (Or.inl ⟨by rfl, ?_⟩) ?_ ?_
          rotate_left; (intro w'; go_simp; with_reducible rfl); rotate_left; (simp only [Act.put, zz1, zz2, zz3, i64_w, i32_w]; rfl)
          refine last_ (i := 8) (N := none) #[τ,τ,τ,τ,τ,τ,τ,τ,τ] rfl rfl (one_of HT_.out (by kernel_rfl)) (by decide) (fun K hK => ?_)
          refine skip_ (w1 := ?_) (by rfl) rfl ?_ ?_
          rotate_left
          · go_simp
            rfl
          refine hK.out _ _ ?_
          clear hK K
          refine done_ (done_of HT_.out (by kernel_rfl)) ?_
          clear r0 r1 r2 g2 z0 z1 c7c z7c hHeld
          have hYs : W9.grownBy (W9.setCell ⟨q8, 2, none⟩ (.slice A7 n7 c7)) (some q8) := grown_set W9 ⟨q8, 2, none⟩ (.slice A7 n7 c7)
          have hbw : ∀ k, (Value.slice Aw nw cw).ownBlock = some k → W.heap.size ≤ k := fun k hk => Kd.R_base HRj.out k hk
          have hxw : some xb ≠ (Value.slice Aw nw cw).ownBlock := fun e => by have h1 := hbw xb e.symm; have := HSz.out; omega
          have hmw : some m ≠ (Value.slice Aw nw cw).ownBlock := fun e => by have h1 := hbw m e.symm; have := HSz.out; omega
          have HFn := Aside0.mk (((HFj.out.mono (ok' := fun k => (ok k ∧ some k ≠ (Value.slice Aw nw cw).ownBlock ∧ k ≠ q8) ∧ k < X2.heap.size) (fun k h1 h2 => ⟨h1, h2⟩)).kept HG7.out hxw hmw (fun k hk => hk.1.2.1) (fun k e => by have := hbw k e; have := HFj.out.hx; have := HSz.out; omega)).kept hYs (fun e => by have := HNum.out; cases e; omega) (fun e => by have := HNum.out; cases e; omega) (fun k hk e => hk.1.2.2 (by cases e; rfl)) (fun k e => by have := HNum.out; have := HFj.out.hx; cases e; omega))
          have HFn2 := Aside0.mk (HFn.out.mono (ok' := fun k => ok k ∧ some k ≠ (Value.slice A7 n7 c7).ownBlock ∧ k ≠ q8) (fun k hk _ => ⟨hk.1.1, fun e => by
            rcases HA7.out with h | ⟨b9, h, hb9⟩
            · rw [h] at e; exact hk.1.2.1 e
            · rw [h] at e; have := hk.2; cases e; omega, hk.1.2.2⟩))
          have HQn := Aside0.mk (show (W9.setCell ⟨q8, 2, none⟩ (.slice A7 n7 c7)).heap[q8]? = some (.cells #[.int .i64 (a : Int), .int .i64 (b : Int), .slice A7 n7 c7] 37 (0, 0)) from blk_put hq7 2 _ rfl)
          have HRn := Aside0.mk (show Kd.R (Kd.int .i64) 3 (W9.setCell ⟨q8, 2, none⟩ (.slice A7 n7 c7)) W.heap.size (fun _ => True) (.slice A7 n7 c7) ([] ++ (R.1 ++ [fr2.1])) by
            rw [← List.append_assoc]
            exact Kd.R_set HO7.out hq7 (by decide) 2 _)
          have HRon := Aside0.mk (Kd.R_set (Kd.R_mono (ok' := fun _ => True) (Kd.R_step (Kd.R_bound (R_apart HRoj.out HRj.out (by decide))) (fun k hk hlt => HG7.out.block k hlt hk.1.2)) (fun _ _ => trivial)) hq7 (by decide) 2 (.slice A7 n7 c7))
          have HKn := Aside0.mk ((HKj.out.after HG7.out hbw).after hYs (fun k e => by have := HNum.out; cases e; omega))
          have HGn := Aside0.mk (show F3.Good g fr2.2 ∧ l.length + 1 ≤ fr2.2.length ∧ (R.1 ++ [fr2.1]).length = i + 1 from ⟨HF2.out.1, by have := HGi.out.2.1; have := HF2.out.2; omega, by rw [List.length_append, HGi.out.2.2]; rfl⟩)
          have HWn := Aside0.mk (show some q8 ≠ (Value.slice A7 n7 c7).ownBlock from fun e => by
            rcases HA7.out with h | ⟨b9, h, hb9⟩
            · rw [h] at e; exact HW8.out e
            · rw [h] at e; have := blk_lt hqj; cases e; omega)
          have HLt2 := HLi.out
          clear hYs hbw hxw hmw HFn HO7 HG7 HA7 hq7 hqj HRj HRoj HKj HFj HX1j HRowj HRx HRox HKx hqx hzx HFx HIH hq12 HV1 HQs
          go_wp2_with (fail)
          go_roundw
          case rel => exact ⟨i + 1, v1j, .slice A7 n7 c7, (R.1 ++ [fr2.1], fr2.2), by omega, by first | (rw [hw]; done) | (rw [Int.natCast_add]; rfl), HRe2, HFn2, HQn, HRn, HRon, HKn, HGn, HWn⟩
          case measure => first | (rw [hw]; simp only [intOf]; omega) | (simp only [intOf]; omega)
        · obtain rfl : i = ps.length := by omega
          rw [List.take_length] at HRe
          obtain ⟨Aw, cw, eW, hcw, hrw⟩ := Kd.R_reads HRi.out
          obtain ⟨nw, hnw⟩ : ∃ nw, nw = ([] ++ R.1).length := ⟨_, rfl⟩
          rw [← hnw] at eW hcw hrw
          subst eW
          have hrow := HFi.out.row
          obtain ⟨inner, hil, hrr⟩ := Kd.R_own hrow
          rcases hrr with ⟨_, h0⟩ | ⟨gr, cap, cur, rfl, hgb, hcb, hcap, hmax, hcs, hct⟩
          · have := HGi.out.2.1
            omega
          obtain ⟨nr, hnr⟩ : ∃ nr, nr = R.2.length := ⟨_, rfl⟩
          rw [← hnr] at hrow hcap hil hct
          have hcs' : cur.size = cap * 3 := hcs
          have hln : l.length < nr := by have := HGi.out.2.1; omega
          have x1 := drew_cell ((blk_cell HFi.out.blk 1).trans rfl)
          rw [← hnr] at x1
          have f0z := drew_cell ((blk_cell HQi.out 0).trans rfl)
          have f1z := drew_cell ((blk_cell HQi.out 1).trans rfl)
          have f2z := drew_cell ((blk_cell HQi.out 2).trans rfl)
          have hcd := blk_drew hcb
          obtain ⟨c0_, c1_, c2_, s0, t0, s1, t1, s2, t2⟩ := storeO3 (o := l.length * 3) hcd (by omega) (.int .i64 (a : Int)) (.int .i64 (b : Int))
          have HFx := Aside0.mk (HFi.out.mono (ok' := ok) (fun k h _ => h.1)).drew
          have HKx := Aside0.mk (HKi.out.trans (Kp.below (below_drew (Below.refl X.heap.size X))))
          have HRx := Aside0.mk (Kd.R_below HRi.out (below_drew (Below.refl X.heap.size X)))
          have HCur := Aside0.mk hcd
          have HCs := Aside0.mk (And.intro hcs' hcap)
          have HLn := Aside0.mk hln
          have HNr := Aside0.mk hnr
          have HNw := Aside0.mk hnw
          have e3 : ((l.length : Int) < (nr : Int)) = True := eq_true (by omega)
          clear hrow hil hgb hcb hcap hmax hcs hct hcs' hln hnr hcw hrw hnw hcd
          go_wp2_with (fail)
          refine start_ (n := 9) (S := fun w' => w'.cell? ⟨xb, 1, none⟩ = some (.slice (some ⟨gr, 0, none⟩) nr cap) ∧ w'.cell? ⟨q8, 0, none⟩ = some (.int .i64 (a : Int)) ∧ w'.cell? ⟨q8, 1, none⟩ = some (.int .i64 (b : Int)) ∧ w'.cell? ⟨q8, 2, none⟩ = some (.slice Aw nw cw)) (ds := [8]) #[φ,φ,φ,φ,φ,φ,φ,φ,φ] (by kernel_rfl) rfl rfl ⟨x1, f0z, f1z, f2z⟩ (fun hHeld => ?_)
          generalize X.drew = X1 at x1 f0z f1z f2z s0 t0 s1 t1 s2 t2 HFx HKx HRx HCur hHeld ⊢
          refine with_tabW fi18.tab18 fi18.bits18 (fun HT_ HW_ => ?_)
          refine pure_ (i := 0) (N := some 102) (v := ?_) (a' := ?_) #[τ,φ,φ,φ,φ,φ,φ,φ,φ] rfl rfl (any_of HT_.out (by kernel_rfl)) (fun _ _ _ h => h) (Or.inl ⟨by rfl, ?_⟩) ?_ ?_
          rotate_left; (intro w'; go_simp; with_reducible rfl); rotate_left; (simp only [Act.put, zz1, zz2, zz3, i64_w, i32_w]; rfl)
          refine pure_ (i := 1) (N := some 103) (v := ?_) (a' := ?_) #[τ,τ,φ,φ,φ,φ,φ,φ,φ] rfl rfl (any_of HT_.out (by kernel_rfl)) (fun _ _ _ h => h) (Or.inl ⟨by rfl, ?_⟩) ?_ ?_
          rotate_left; (intro w'; go_simp; with_reducible rfl); rotate_left; (simp only [Act.put, zz1, zz2, zz3, i64_w, i32_w]; rfl)
          refine pure_ (i := 2) (N := some 104) (v := ?_) (a' := ?_) #[τ,τ,τ,φ,φ,φ,φ,φ,φ] rfl rfl (any_of HT_.out (by kernel_rfl)) (fun _ _ _ h => h) (Or.inl ⟨by rfl, ?_⟩) ?_ ?_
          rotate_left; (intro w'; go_simp; with_reducible rfl); rotate_left; (simp only [Act.put, zz1, zz2, zz3, i64_w, i32_w]; rfl)
          refine pure_ (i := 3) (N := some 105) (v := ?_) (a' := ?_) #[τ,τ,τ,τ,φ,φ,φ,φ,φ] rfl rfl (any_of HT_.out (by kernel_rfl)) (fun _ _ _ h => h) (Or.inl ⟨by rfl, ?_⟩) ?_ ?_
          rotate_left; (intro w'; go_simp; with_reducible rfl); rotate_left; (simp only [Act.put, zz1, zz2, zz3, i64_w, i32_w]; rfl)
          refine pure_ (i := 5) (N := some 107) (v := ?_) (a' := ?_) #[τ,τ,τ,τ,φ,τ,φ,φ,φ] rfl rfl (any_of HT_.out (by kernel_rfl)) (fun _ _ _ h => h) (Or.inl ⟨by rfl, ?_⟩) ?_ ?_
          rotate_left; (intro w'; go_simp; with_reducible rfl); rotate_left; (simp only [Act.put, zz1, zz2, zz3, i64_w, i32_w]; rfl)
          refine take_ (i := 4) (N := some 106) (v := ?_) (a' := ?_) #[τ,τ,τ,τ,τ,τ,φ,φ,φ] rfl rfl (take_ofW HT_.out HW_.out (by kernel_rfl)) (fun _ _ _ h => h) (Or.inl ⟨by rfl, ?_⟩) hHeld ?_ ?_
          rotate_left; (rintro w' ⟨s0, s1, s2, s3⟩; go_simp; with_reducible rfl); rotate_left; (simp only [Act.put, zz1, zz2, zz3, i64_w, i32_w]; rfl)
          refine take_ (i := 6) (N := some 108) (v := ?_) (a' := ?_) #[τ,τ,τ,τ,τ,τ,τ,φ,φ] rfl rfl (take_ofW HT_.out HW_.out (by kernel_rfl)) (fun _ _ _ h => h) (Or.inl ⟨by rfl, ?_⟩) hHeld ?_ ?_
          rotate_left; (rintro w' ⟨s0, s1, s2, s3⟩; go_simp; with_reducible rfl); rotate_left; (simp only [Act.put, zz1, zz2, zz3, i64_w, i32_w]; rfl)
          refine pure_ (i := 7) (N := some 109) (v := ?_) (a' := ?_) #[τ,τ,τ,τ,τ,τ,τ,τ,φ] rfl rfl (any_of HT_.out (by kernel_rfl)) (fun _ _ _ h => h) (Or.inl ⟨by rfl, ?_⟩) ?_ ?_
          rotate_left; (intro w'; go_simp; with_reducible rfl); rotate_left; (simp only [Act.put, zz1, zz2, zz3, i64_w, i32_w]; rfl)
          refine last_ (i := 8) (N := none) #[τ,τ,τ,τ,τ,τ,τ,τ,τ] rfl rfl (one_of HT_.out (by kernel_rfl)) (by decide) (fun K hK => ?_)
          refine skip_ (w1 := ?_) (by rfl) rfl ?_ ?_
          rotate_left
          · go_simp
            rfl
          refine hK.out _ _ ?_
          clear hK K
          refine done_ (done_of HT_.out (by kernel_rfl)) ?_
          clear s0 t0 s1 t1 s2 t2 x1 f0z f1z f2z hHeld
          have HO := HFx.out.row
          have hokg : ok gr := HO.1 gr rfl
          have hgm := HOk.out gr hokg
          have hc3 : ((cur.toList.drop (l.length * 3)).take 3).length = 3 := by have := HCs.out; have := HLn.out; rw [List.length_take, List.length_drop, Array.length_toList]; omega
          have hM : kO.M X1 w0.heap.size (fun k => ok k ∧ k ≠ gr) ⟨a, b, (mk0 (pickN g) g ((a : Int), (b : Int))).f2 ++ R.1⟩ (((cur.toList.drop (l.length * 3)).take 3).take 0 ++ [.int .i64 (a : Int), .int .i64 (b : Int), .slice Aw nw cw] ++ ((cur.toList.drop (l.length * 3)).take 3).drop (0 + 3)) := by
            rw [List.take_zero, List.drop_eq_nil_of_le (by rw [hc3]; omega), List.nil_append, List.append_nil]
            refine .inl ⟨?_, P.k37_mkM X1 w0.heap.size _ _ ?_⟩
            · intro e
              have h1 := congrArg List.length e
              have hby : byP g (mk0 (pickN g) g ((a : Int), (b : Int))) = ((nd g a).f4.map fun m => (m, (b : Int)), true) := if_pos (show (nd g a).f0 = 8 by rw [← HX.out]; exact HL8.out)
              have h2 := HPs.out
              rw [hby] at h2
              have h3 := congrArg List.length h2
              have h4 := union_two HC.out HAB.out.1 (by rw [← HX.out]; exact HL8.out)
              have h5 := HGi.out.2.2
              simp only [List.length_map] at h3
              simp at h1
              rw [h1.2] at h5
              simp at h5
              omega
            · rw [← HWs.out]
              exact Kd.R_lower (Kd.R_mono (Kd.R_bound (R_apart HRx.out HO (by decide))) (fun k hk => ⟨HFr.out k hk.2.1, fun e => hk.1.2 (by rw [e]; rfl)⟩)) HW0s.out
          have hlr : (l.length : Int) < (R.2.length : Int) := by have := HLn.out; have := HNr.out; omega
          have hseg := Kd.R_seg HO (l.length : Int) (by omega) (by have := HLn.out; have := HNr.out; omega) (c := (cur.toList.drop (l.length * 3)).take 3) (seg := [.int .i64 (a : Int), .int .i64 (b : Int), .slice Aw nw cw]) (j := 0) hc3 (fun j u hu => by
            have hj : j < 3 := by have h1 := (List.getElem?_eq_some_iff.1 hu).1; omega
            rw [List.getElem?_take_of_lt hj, List.getElem?_drop, Array.getElem?_toList] at hu
            show X1.cell? ⟨gr, l.length * 3 + j, none⟩ = some u
            rw [blk_cell HCur.out, hu]) (by show 0 + 3 ≤ 3; omega) hM (fun k hk => hk)
          have hE : X1.setCells gr ((l.length : Int).toNat * kO.sz + 0) [.int .i64 (a : Int), .int .i64 (b : Int), .slice Aw nw cw] = ((X1.setCell ⟨gr, l.length * 3, none⟩ (.int .i64 (a : Int))).setCell ⟨gr, l.length * 3 + 1, none⟩ (.int .i64 (b : Int))).setCell ⟨gr, l.length * 3 + 2, none⟩ (.slice Aw nw cw) := rfl
          rw [hE] at hseg
          obtain ⟨hrf, hgf⟩ := hseg
          obtain ⟨more, hmore⟩ := (findL_ok (b := l.length + 1) (F := findP (pickN g) g n) (fun p l hp hg hb => findP_ok HC.out n p l hp hg (by have := HFuel.out; omega)) ps (l ++ [openF ((a : Int), (b : Int))]) HPr.out (HGd.out.snoc HP.out (idxP_none HI.out)) (by simp)).ext
          rw [← HRe.out] at hmore
          have hpairs : ((R.2.set l.length ⟨a, b, (mk0 (pickN g) g ((a : Int), (b : Int))).f2 ++ R.1⟩).map fun f => (f.f0, f.f1)) = R.2.map fun f => (f.f0, f.f1) := by
            rw [hmore, set_mid]
            simp [openF]
          have hfr : fr = ((l.length : Int), R.2.set l.length ⟨a, b, (mk0 (pickN g) g ((a : Int), (b : Int))).f2 ++ R.1⟩) := by
            rw [HFP.out]
            unfold findP
            rw [HI.out]
            dsimp only
            rw [← HPs.out, ← HRe.out]
          have HFE : Aside0 (FdS w0 (((X1.setCell ⟨gr, l.length * 3, none⟩ (.int .i64 (a : Int))).setCell ⟨gr, l.length * 3 + 1, none⟩ (.int .i64 (b : Int))).setCell ⟨gr, l.length * 3 + 2, none⟩ (.slice Aw nw cw)) xb m (some ad) c0 g (.slice (some ⟨gr, 0, none⟩) R.2.length cap) fr.2 (fm fr.2) ok) := ⟨by
            rw [hfr]
            exact ⟨HFx.out.old.grown hgf HFx.out.old.size (fun k e => by cases e; exact Kd.R_base HO gr rfl), HFx.out.hx, HFx.out.hm, HFx.out.ne, blk_grown HFx.out.blk hgf (fun e => hgm.1 (by cases e; rfl)), by rw [fm_pairs hpairs]; exact HFx.out.mp.kept hgf (fun e => hgm.2 (by cases e; rfl)), hrf, HFx.out.gr, HFx.out.gc⟩⟩
          have HKE := Aside0.mk (HKx.out.trans (show Kp X1 _ xb m (.slice (some ⟨gr, 0, none⟩) R.2.length cap) (.slice (some ⟨gr, 0, none⟩) R.2.length cap) from ⟨hgf.size, fun k hk _ _ h => hgf.block k hk (fun e => h (by rw [e]; rfl)), .inl rfl⟩))
          have HFR := Aside0.mk (show fr.1 = (l.length : Int) by rw [hfr])
          clear hrf hgf hmore hpairs hfr hlr hE hM hc3 hgm hokg HO
          go_wp2_with (fail)
          go_ret
          rw [HFR.out]
          exact ⟨_, rfl, HFE.out, HKE.out⟩
    · have b8 : (x.f0 != 8) = true := by simpa using h8
      have HWs := Aside0.mk (show [pickN g a b] = (mk0 (pickN g) g ((a : Int), (b : Int))).f2 by rw [HW0.out, if_neg h8])
      have HL8 := Aside0.mk h8
      clear h8 HW0
      go_wp2_with (fail)
      have x0e := drew_cell x0d
      have y0e := drew_cell y0d
      have y1e := drew_cell y1d
      have HFd3 := Aside0.mk HFd2.out.drew
      have HKp3 := Aside0.mk (HKp2.out.trans (Kp.below (below_drew (Below.refl V2.heap.size V2))))
      have hqbe := blk_drew hqbd
      have hf8e := blk_drew hf8d
      clear x0d y0d y1d HFd2 HKp2 hqbd hf8d
      refine start_ (n := 13) (S := fun w' => w'.cell? ⟨xb, 0, none⟩ = some (.slice (some ad) g.length c0) ∧ w'.cell? ⟨q, 0, none⟩ = some (.int .i64 (a : Int)) ∧ w'.cell? ⟨q, 1, none⟩ = some (.int .i64 (b : Int))) (ds := [12]) #[φ,φ,φ,φ,φ,φ,φ,φ,φ,φ,φ,φ,φ] (by kernel_rfl) rfl rfl ⟨x0e, y0e, y1e⟩ (fun hHeld => ?_)
      generalize V2.drew = V3 at x0e y0e y1e HFd3 HKp3 hqbe hf8e hHeld ⊢
      refine with_tabW fi9.tab9 fi9.bits9 (fun HT_ HW_ => ?_)
      refine pure_ (i := 0) (N := some 49) (v := ?_) (a' := ?_) #[τ,φ,φ,φ,φ,φ,φ,φ,φ,φ,φ,φ,φ] rfl rfl (any_of HT_.out (by kernel_rfl)) (fun _ _ _ h => h) (Or.inl ⟨by rfl, ?_⟩) ?_ ?_
      rotate_left; (intro w'; go_simp; with_reducible rfl); rotate_left; (simp only [Act.put, zz1, zz2, zz3, i64_w, i32_w]; rfl)
      refine pure_ (i := 1) (N := some 50) (v := ?_) (a' := ?_) #[τ,τ,φ,φ,φ,φ,φ,φ,φ,φ,φ,φ,φ] rfl rfl (any_of HT_.out (by kernel_rfl)) (fun _ _ _ h => h) (Or.inl ⟨by rfl, ?_⟩) ?_ ?_
      rotate_left; (intro w'; go_simp; with_reducible rfl); rotate_left; (simp only [Act.put, zz1, zz2, zz3, i64_w, i32_w]; rfl)
      refine pure_ (i := 2) (N := some 51) (v := ?_) (a' := ?_) #[τ,τ,τ,φ,φ,φ,φ,φ,φ,φ,φ,φ,φ] rfl rfl (any_of HT_.out (by kernel_rfl)) (fun _ _ _ h => h) (Or.inl ⟨by rfl, ?_⟩) ?_ ?_
      rotate_left; (intro w'; go_simp; with_reducible rfl); rotate_left; (simp only [Act.put, zz1, zz2, zz3, i64_w, i32_w]; rfl)
      refine pure_ (i := 3) (N := some 52) (v := ?_) (a' := ?_) #[τ,τ,τ,τ,φ,φ,φ,φ,φ,φ,φ,φ,φ] rfl rfl (any_of HT_.out (by kernel_rfl)) (fun _ _ _ h => h) (Or.inl ⟨by rfl, ?_⟩) ?_ ?_
      rotate_left; (intro w'; go_simp; with_reducible rfl); rotate_left; (simp only [Act.put, zz1, zz2, zz3, i64_w, i32_w]; rfl)
      refine pure_ (i := 5) (N := some 54) (v := ?_) (a' := ?_) #[τ,τ,τ,τ,φ,τ,φ,φ,φ,φ,φ,φ,φ] rfl rfl (any_of HT_.out (by kernel_rfl)) (fun _ _ _ h => h) (Or.inl ⟨by rfl, ?_⟩) ?_ ?_
      rotate_left; (intro w'; go_simp; with_reducible rfl); rotate_left; (simp only [Act.put, zz1, zz2, zz3, i64_w, i32_w]; rfl)
      refine pure_ (i := 7) (N := some 56) (v := ?_) (a' := ?_) #[τ,τ,τ,τ,φ,τ,φ,τ,φ,φ,φ,φ,φ] rfl rfl (any_of HT_.out (by kernel_rfl)) (fun _ _ _ h => h) (Or.inl ⟨by rfl, ?_⟩) ?_ ?_
      rotate_left; (intro w'; go_simp; with_reducible rfl); rotate_left; (simp only [Act.put, zz1, zz2, zz3, i64_w, i32_w]; rfl)
      refine take_ (i := 4) (N := some 53) (v := ?_) (a' := ?_) #[τ,τ,τ,τ,τ,τ,φ,τ,φ,φ,φ,φ,φ] rfl rfl (take_ofW HT_.out HW_.out (by kernel_rfl)) (fun _ _ _ h => h) (Or.inl ⟨by rfl, ?_⟩) hHeld ?_ ?_
      rotate_left; (rintro w' ⟨s0, s1, s2⟩; go_simp; with_reducible rfl); rotate_left; (simp only [Act.put, zz1, zz2, zz3, i64_w, i32_w]; rfl)
      refine take_ (i := 6) (N := some 55) (v := ?_) (a' := ?_) #[τ,τ,τ,τ,τ,τ,τ,τ,φ,φ,φ,φ,φ] rfl rfl (take_ofW HT_.out HW_.out (by kernel_rfl)) (fun _ _ _ h => h) (Or.inl ⟨by rfl, ?_⟩) hHeld ?_ ?_
      rotate_left; (rintro w' ⟨s0, s1, s2⟩; go_simp; with_reducible rfl); rotate_left; (simp only [Act.put, zz1, zz2, zz3, i64_w, i32_w]; rfl)
      refine take_ (i := 8) (N := some 57) (v := ?_) (a' := ?_) #[τ,τ,τ,τ,τ,τ,τ,τ,τ,φ,φ,φ,φ] rfl rfl (take_ofW HT_.out HW_.out (by kernel_rfl)) (fun _ _ _ h => h) (Or.inl ⟨by rfl, ?_⟩) hHeld ?_ ?_
      rotate_left; (rintro w' ⟨s0, s1, s2⟩; go_simp; with_reducible rfl); rotate_left; (simp only [Act.put, zz1, zz2, zz3, i64_w, i32_w]; rfl)
      refine one_ (i := 9) (N := some 58) #[τ,τ,τ,τ,τ,τ,τ,τ,τ,τ,φ,φ,φ] rfl rfl (one_of HT_.out (by kernel_rfl)) (by decide) (fun K hK => ?_)
      refine goes_ Tryd.func45 (by kernel_rfl) rfl #[.slice (some ad) g.length c0, .int .i64 (a : Int), .int .i64 (b : Int)] (by rfl) rfl rfl (by simp only [List.map_toArray, List.map_cons, List.map_nil]; rfl) ?_
      with_reducible refine (pick_ok (some ad) c0 g a b V3 (HKy.out.below HFd3.out.old) (Kd.C_below HFd3.out.gr HFd3.out.old) HFd3.out.gc).mono ?_
      rintro e V4 ⟨pk, rfl, hpk, hb4⟩
      obtain rfl := pickN_eq hpk
      have r0 := pw_cell_below hb4 x0e
      have r1 := pw_cell_below hb4 y0e
      have r2 := pw_cell_below hb4 y1e
      have HFd4 := Aside0.mk (HFd3.out.below hb4)
      have HKp4 := Aside0.mk (HKp3.out.trans (Kp.below hb4))
      have hf84 := blk_below hf8e hb4
      have hqb4 := blk_below hqbe hb4
      clear hb4 hpk
      refine ⟨_, rfl, ?_⟩
      refine hK.out _ _ ⟨r0, r1, r2⟩ (fun hHeld => ?_)
      clear hK K
      refine norm_ (a' := ?_) ?_ ?_
      rotate_left
      · show Act.put _ (some 58) _ = _
        simp only [Act.put, zz1, zz2, zz3, i64_w, i32_w]
        rfl
      refine one_ (i := 10) (N := some 59) #[τ,τ,τ,τ,τ,τ,τ,τ,τ,τ,τ,φ,φ] rfl rfl (one_of HT_.out (by kernel_rfl)) (by decide) (fun K hK => ?_)
      refine value_ (w1 := ?_) (v := ?_) (by rfl) rfl ?_ ?_
      rotate_left 2
      · go_simp
        constructor
        · rfl
        · rfl
      have HFd5 := Aside0.mk (HFd4.out.alloc (.cells #[.int .i64 (pickN g a b)] 3))
      have HKp5 := Aside0.mk (HKp4.out.trans (Kp.below (below_alloc (Below.refl V4.heap.size V4) (.cells #[.int .i64 (pickN g a b)] 3))))
      have hf85 := blk_alloc hf84 (.cells #[.int .i64 (pickN g a b)] 3)
      have hqb5 := blk_alloc hqb4 (.cells #[.int .i64 (pickN g a b)] 3)
      have hrp := lit_one V4 (pickN g a b)
      have s2 : (V4.alloc (.cells #[.int .i64 (pickN g a b)] 3)).cell? ⟨q8, 2, none⟩ = some (.slice none 0 0) := (blk_cell hf85 2).trans rfl
      have t2 : (V4.alloc (.cells #[.int .i64 (pickN g a b)] 3)).frozen? ⟨q8, 2, none⟩ = false := blk_frozen hf85 2
      refine hK.out _ _ ⟨pw_cell_below (below_alloc (Below.refl _ _) _) r0, pw_cell_below (below_alloc (Below.refl _ _) _) r1, pw_cell_below (below_alloc (Below.refl _ _) _) r2⟩ (fun hHeld => ?_)
      clear hK K
      refine norm_ (a' := ?_) ?_ ?_
      rotate_left
      · show Act.put _ (some 59) _ = _
        simp only [Act.put, zz1, zz2, zz3, i64_w, i32_w]
        rfl
      refine pure_ (i := 11) (N := some 60) (v := ?_) (a' := ?_) #[τ,τ,τ,τ,τ,τ,τ,τ,τ,τ,τ,τ,φ] rfl rfl (any_of HT_.out (by kernel_rfl)) (fun _ _ _ h => h) (Or.inl ⟨by rfl, ?_⟩) ?_ ?_
      rotate_left; (intro w'; go_simp; with_reducible rfl); rotate_left; (simp only [Act.put, zz1, zz2, zz3, i64_w, i32_w]; rfl)
      refine last_ (i := 12) (N := none) #[τ,τ,τ,τ,τ,τ,τ,τ,τ,τ,τ,τ,τ] rfl rfl (one_of HT_.out (by kernel_rfl)) (by decide) (fun K hK => ?_)
      refine skip_ (w1 := ?_) (by rfl) rfl ?_ ?_
      rotate_left
      · go_simp
        rfl
      refine hK.out _ _ ?_
      clear hK K
      refine done_ (done_of HT_.out (by kernel_rfl)) ?_
      clear s2 t2 hHeld r0 r1 r2 x0e y0e y1e
      have hUs : (V4.alloc (.cells #[.int .i64 (pickN g a b)] 3)).grownBy ((V4.alloc (.cells #[.int .i64 (pickN g a b)] 3)).setCell ⟨q8, 2, none⟩ (.slice (some ⟨V4.heap.size, 0, none⟩) 1 1)) (some q8) := grown_set _ ⟨q8, 2, none⟩ _
      have HNu := Aside0.mk (show xb < q ∧ m < q ∧ q < q8 ∧ W.heap.size = q from ⟨by have := HSz.out.1; omega, by have := HSz.out.2; omega, HQ8.out, hq_⟩)
      have HFu := Aside0.mk (HFd5.out.kept hUs (fun e => by have := HNu.out; cases e; omega) (fun e => by have := HNu.out; cases e; omega) (fun k hk e => by have := HNu.out; have := hk.2; cases e; omega) (fun k e => by have := HNu.out; have := HW0s.out; cases e; omega))
      have HKu := Aside0.mk (HKp5.out.after hUs (fun k e => by have := HNu.out; cases e; omega))
      have hqu := blk_grown hqb5 hUs (fun e => by have := HNu.out; cases e; omega)
      have hfu := blk_put hf85 2 (.slice (some ⟨V4.heap.size, 0, none⟩) 1 1) rfl
      have HRw := Aside0.mk (Kd.R_lower (Kd.R_set hrp hf85 (by decide) 2 (.slice (some ⟨V4.heap.size, 0, none⟩) 1 1)) HKp4.out.size)
      have HB4 := Aside0.mk (show W.heap.size ≤ V4.heap.size ∧ q8 < V4.heap.size from ⟨HKp4.out.size, blk_lt hf84⟩)
      clear hUs HFd5 HKp5 hf85 hqb5 hrp HFd4 HKp4 hf84 hqb4 HFd3 HKp3 hqbe hf8e
      generalize ((V4.alloc (.cells #[.int .i64 (pickN g a b)] 3)).setCell ⟨q8, 2, none⟩ (.slice (some ⟨V4.heap.size, 0, none⟩) 1 1)) = U at HFu HKu hqu hfu HRw ⊢
      generalize V4.heap.size = b4 at hfu HRw HB4
      have HNum := Aside0.mk (show xb < q ∧ m < q ∧ q < q8 ∧ W.heap.size = q from ⟨by have := HSz.out.1; omega, by have := HSz.out.2; omega, HQ8.out, hq_⟩)
      have x2u := drew_cell ((blk_cell HFu.out.blk 2).trans rfl)
      have y0u := drew_cell ((blk_cell hqu 0).trans rfl)
      have y1u := drew_cell ((blk_cell hqu 1).trans rfl)
      have HFu := Aside0.mk HFu.out.drew
      have HKu := Aside0.mk (HKu.out.trans (Kp.below (below_drew (Below.refl U.heap.size U))))
      have hfu := blk_drew hfu
      have hqu := blk_drew hqu
      have HRw := Aside0.mk (Kd.R_below HRw.out (below_drew (Below.refl U.heap.size U)))
      obtain ⟨w1, hrun0, hm1, hg1⟩ := HFu.out.mp.put HAB.out.1 HAB.out.2 l.length (by have := HL256.out; omega)
      have hrun : (Instr.mapUpdate 66 (.map (some m)) (.agg #[.int .i64 (a : Int), .int .i64 (b : Int)]) (.int .i64 (l.length : Int))).run Tryd.prog U.drew = .ok () w1 := hrun0
      have HM1 := Aside0.mk hm1
      have HG1 := Aside0.mk hg1
      clear hrun0 hm1 hg1
      go_wp2_with (fail)
      refine start_ (n := 7) (S := fun w' => w'.cell? ⟨xb, 2, none⟩ = some (.map (some m)) ∧ w'.cell? ⟨q, 0, none⟩ = some (.int .i64 (a : Int)) ∧ w'.cell? ⟨q, 1, none⟩ = some (.int .i64 (b : Int))) (ds := [6]) #[φ,φ,φ,φ,φ,φ,φ] (by kernel_rfl) rfl rfl ⟨x2u, y0u, y1u⟩ (fun hHeld => ?_)
      generalize U.drew = U1 at x2u y0u y1u HFu HKu hfu HRw hqu hrun HG1 hHeld ⊢
      refine with_tabW fi10.tab10 fi10.bits10 (fun HT_ HW_ => ?_)
      refine pure_ (i := 0) (N := some 61) (v := ?_) (a' := ?_) #[τ,φ,φ,φ,φ,φ,φ] rfl rfl (any_of HT_.out (by kernel_rfl)) (fun _ _ _ h => h) (Or.inl ⟨by rfl, ?_⟩) ?_ ?_
      rotate_left; (intro w'; go_simp; with_reducible rfl); rotate_left; (simp only [Act.put, zz1, zz2, zz3, i64_w, i32_w]; rfl)
      refine pure_ (i := 1) (N := some 62) (v := ?_) (a' := ?_) #[τ,τ,φ,φ,φ,φ,φ] rfl rfl (any_of HT_.out (by kernel_rfl)) (fun _ _ _ h => h) (Or.inl ⟨by rfl, ?_⟩) ?_ ?_
      rotate_left; (intro w'; go_simp; with_reducible rfl); rotate_left; (simp only [Act.put, zz1, zz2, zz3, i64_w, i32_w]; rfl)
      refine pure_ (i := 2) (N := some 63) (v := ?_) (a' := ?_) #[τ,τ,τ,φ,φ,φ,φ] rfl rfl (any_of HT_.out (by kernel_rfl)) (fun _ _ _ h => h) (Or.inl ⟨by rfl, ?_⟩) ?_ ?_
      rotate_left; (intro w'; go_simp; with_reducible rfl); rotate_left; (simp only [Act.put, zz1, zz2, zz3, i64_w, i32_w]; rfl)
      refine pure_ (i := 5) (N := some 66) (v := ?_) (a' := ?_) #[τ,τ,τ,φ,φ,τ,φ] rfl rfl (any_of HT_.out (by kernel_rfl)) (fun _ _ _ h => h) (Or.inl ⟨by rfl, ?_⟩) ?_ ?_
      rotate_left; (intro w'; go_simp; with_reducible rfl); rotate_left; (simp only [Act.put, zz1, zz2, zz3, i64_w, i32_w]; rfl)
      refine take_ (i := 3) (N := some 64) (v := ?_) (a' := ?_) #[τ,τ,τ,τ,φ,τ,φ] rfl rfl (take_ofW HT_.out HW_.out (by kernel_rfl)) (fun _ _ _ h => h) (Or.inl ⟨by rfl, ?_⟩) hHeld ?_ ?_
      rotate_left; (rintro w' ⟨s0, s1, s2⟩; go_simp; with_reducible rfl); rotate_left; (simp only [Act.put, zz1, zz2, zz3, i64_w, i32_w]; rfl)
      refine take_ (i := 4) (N := some 65) (v := ?_) (a' := ?_) #[τ,τ,τ,τ,τ,τ,φ] rfl rfl (take_ofW HT_.out HW_.out (by kernel_rfl)) (fun _ _ _ h => h) (Or.inl ⟨by rfl, ?_⟩) hHeld ?_ ?_
      rotate_left; (rintro w' ⟨s0, s1, s2⟩; go_simp; with_reducible rfl); rotate_left; (simp only [Act.put, zz1, zz2, zz3, i64_w, i32_w]; rfl)
      refine last_ (i := 6) (N := none) #[τ,τ,τ,τ,τ,τ,τ] rfl rfl (one_of HT_.out (by kernel_rfl)) (by decide) (fun K hK => ?_)
      refine skip_ (w1 := ?_) (by rfl) rfl ?_ ?_
      rotate_left
      · go_simp
        rfl
      refine hK.out _ _ ?_
      clear hK K
      refine done_ (done_of HT_.out (by kernel_rfl)) ?_
      have hqm : some q8 ≠ some m := fun e => by have := HNum.out; cases e; omega
      have hf1 := blk_grown hfu HG1.out hqm
      have HK1 := Aside0.mk (HKu.out.trans (Kp.grown HG1.out (fun k e => .inr (.inl (by cases e; rfl)))))
      have HF1 : Aside0 (FdS w0 w1 xb m (some ad) c0 g (.slice A1 l.length c1) l (fm (l ++ [openF ((a : Int), (b : Int))])) (fun k => ok k ∧ k < W.heap.size)) := ⟨⟨HFu.out.old.grown HG1.out HFu.out.old.size (fun k e => by cases e; exact HFu.out.hm), HFu.out.hx, HFu.out.hm, HFu.out.ne, blk_grown HFu.out.blk HG1.out (fun e => HFu.out.ne (by cases e; rfl)), by rw [fm_open HI.out]; exact HM1.out, Kd.R_grown HFu.out.row HG1.out (fun k hk e => (HOk.out k hk.1).2 (by cases e; rfl)), HFu.out.gr, HFu.out.gc⟩⟩
      have HR1 := Aside0.mk (Kd.R_mono (ok' := fun _ => True) (Kd.R_grown (Kd.R_bound HRw.out) HG1.out (fun k hk e => by have := HNum.out; have := hk.2.1; cases e; omega)) (fun _ _ => trivial))
      have x1u := drew_cell ((blk_cell HF1.out.blk 1).trans rfl)
      have f0u := drew_cell ((blk_cell hf1 0).trans rfl)
      have f1u := drew_cell ((blk_cell hf1 1).trans rfl)
      have f2u := drew_cell ((blk_cell hf1 2).trans rfl)
      have HF2 := Aside0.mk HF1.out.drew
      have HK2 := Aside0.mk (HK1.out.trans (Kp.below (below_drew (Below.refl w1.heap.size w1))))
      have hf2 := blk_drew hf1
      have HR2 := Aside0.mk (Kd.R_below HR1.out (below_drew (Below.refl w1.heap.size w1)))
      have HRo := Aside0.mk (Kd.R_mono (ok' := fun k => ok k ∧ some k ≠ (.slice (some ⟨b4, 0, none⟩) 1 1 : Value).ownBlock ∧ k ≠ q8) HF2.out.row (fun k hk => ⟨hk.1, by have := HB4.out; have := hk.2; intro e; simp [Value.ownBlock] at e; omega, by have := HNum.out; omega⟩))
      have HVn : Aside0 (∀ k, w1.drew.heap.size ≤ k → some k ≠ (.slice (some ⟨b4, 0, none⟩) 1 1 : Value).ownBlock) := ⟨fun k hk => by obtain ⟨inner, ho⟩ := Kd.R_own HR2.out; intro e; have := (World.ownsRow.lt ho k e.symm).2; omega⟩
      have HAL : Aside0 ((l.length + 1) * 40 ≤ 140737488355328) := ⟨by have := HL256.out; omega⟩
      clear x2u y0u y1u HFu HKu hfu hqu HRw hrun HM1 HG1 HF1 HK1 HR1 hf1 hHeld
      go_wp2_with (fail)
      refine start_ (n := 13) (S := fun w' => w'.cell? ⟨xb, 1, none⟩ = some (.slice A1 l.length c1) ∧ w'.cell? ⟨q8, 0, none⟩ = some (.int .i64 (a : Int)) ∧ w'.cell? ⟨q8, 1, none⟩ = some (.int .i64 (b : Int)) ∧ w'.cell? ⟨q8, 2, none⟩ = some (.slice (some ⟨b4, 0, none⟩) 1 1)) (ds := [8, 12]) #[φ,φ,φ,φ,φ,φ,φ,φ,φ,φ,φ,φ,φ] (by kernel_rfl) rfl rfl ⟨x1u, f0u, f1u, f2u⟩ (fun hHeld => ?_)
      generalize w1.drew = X1 at x1u f0u f1u f2u HF2 HK2 hf2 HR2 HVn HRo hHeld ⊢
      refine with_tabW fi11.tab11 fi11.bits11 (fun HT_ HW_ => ?_)
      refine pure_ (i := 0) (N := some 67) (v := ?_) (a' := ?_) #[τ,φ,φ,φ,φ,φ,φ,φ,φ,φ,φ,φ,φ] rfl rfl (any_of HT_.out (by kernel_rfl)) (fun _ _ _ h => h) (Or.inl ⟨by rfl, ?_⟩) ?_ ?_
      rotate_left; (intro w'; go_simp; with_reducible rfl); rotate_left; (simp only [Act.put, zz1, zz2, zz3, i64_w, i32_w]; rfl)
      refine pure_ (i := 1) (N := some 68) (v := ?_) (a' := ?_) #[τ,τ,φ,φ,φ,φ,φ,φ,φ,φ,φ,φ,φ] rfl rfl (any_of HT_.out (by kernel_rfl)) (fun _ _ _ h => h) (Or.inl ⟨by rfl, ?_⟩) ?_ ?_
      rotate_left; (intro w'; go_simp; with_reducible rfl); rotate_left; (simp only [Act.put, zz1, zz2, zz3, i64_w, i32_w]; rfl)
      refine pure_ (i := 2) (N := some 69) (v := ?_) (a' := ?_) #[τ,τ,τ,φ,φ,φ,φ,φ,φ,φ,φ,φ,φ] rfl rfl (any_of HT_.out (by kernel_rfl)) (fun _ _ _ h => h) (Or.inl ⟨by rfl, ?_⟩) ?_ ?_
      rotate_left; (intro w'; go_simp; with_reducible rfl); rotate_left; (simp only [Act.put, zz1, zz2, zz3, i64_w, i32_w]; rfl)
      refine pure_ (i := 3) (N := some 70) (v := ?_) (a' := ?_) #[τ,τ,τ,τ,φ,φ,φ,φ,φ,φ,φ,φ,φ] rfl rfl (any_of HT_.out (by kernel_rfl)) (fun _ _ _ h => h) (Or.inl ⟨by rfl, ?_⟩) ?_ ?_
      rotate_left; (intro w'; go_simp; with_reducible rfl); rotate_left; (simp only [Act.put, zz1, zz2, zz3, i64_w, i32_w]; rfl)
      refine pure_ (i := 4) (N := some 71) (v := ?_) (a' := ?_) #[τ,τ,τ,τ,τ,φ,φ,φ,φ,φ,φ,φ,φ] rfl rfl (any_of HT_.out (by kernel_rfl)) (fun _ _ _ h => h) (Or.inl ⟨by rfl, ?_⟩) ?_ ?_
      rotate_left; (intro w'; go_simp; with_reducible rfl); rotate_left; (simp only [Act.put, zz1, zz2, zz3, i64_w, i32_w]; rfl)
      refine take_ (i := 5) (N := some 72) (v := ?_) (a' := ?_) #[τ,τ,τ,τ,τ,τ,φ,φ,φ,φ,φ,φ,φ] rfl rfl (take_ofW HT_.out HW_.out (by kernel_rfl)) (fun _ _ _ h => h) (Or.inl ⟨by rfl, ?_⟩) hHeld ?_ ?_
      rotate_left; (rintro w' ⟨s0, s1, s2, s3⟩; go_simp; with_reducible rfl); rotate_left; (simp only [Act.put, zz1, zz2, zz3, i64_w, i32_w]; rfl)
      refine take_ (i := 6) (N := some 73) (v := ?_) (a' := ?_) #[τ,τ,τ,τ,τ,τ,τ,φ,φ,φ,φ,φ,φ] rfl rfl (take_ofW HT_.out HW_.out (by kernel_rfl)) (fun _ _ _ h => h) (Or.inl ⟨by rfl, ?_⟩) hHeld ?_ ?_
      rotate_left; (rintro w' ⟨s0, s1, s2, s3⟩; go_simp; with_reducible rfl); rotate_left; (simp only [Act.put, zz1, zz2, zz3, i64_w, i32_w]; rfl)
      refine one_ (i := 7) (N := some 74) #[τ,τ,τ,τ,τ,τ,τ,τ,φ,φ,φ,φ,φ] rfl rfl (one_of HT_.out (by kernel_rfl)) (by decide) (fun K hK => ?_)
      refine value_ (w1 := ?_) (v := ?_) (by rfl) rfl ?_ ?_
      rotate_left 2
      · go_simp
        constructor
        · rfl
        · rfl
      refine hK.out _ _ ⟨pw_cell_below (below_alloc (Below.refl _ _) _) x1u, pw_cell_below (below_alloc (Below.refl _ _) _) f0u, pw_cell_below (below_alloc (Below.refl _ _) _) f1u, pw_cell_below (below_alloc (Below.refl _ _) _) f2u⟩ (fun hHeld => ?_)
      clear hK K
      refine norm_ (a' := ?_) ?_ ?_
      rotate_left
      · show Act.put _ (some 74) _ = _
        simp only [Act.put, zz1, zz2, zz3, i64_w, i32_w]
        rfl
      refine last_ (i := 8) (N := some 75) #[τ,τ,τ,τ,τ,τ,τ,τ,τ,φ,φ,φ,φ] rfl rfl (one_of HT_.out (by kernel_rfl)) (by decide) (fun K hK => ?_)
      refine Kd.R_append_step kO (w0 := w0) w0.heap.size (by rfl) (.tmp 72) (.tmp 74) 29 37 (.agg #[.int .i64 0, .int .i64 0, .slice none 0 0]) 40 rfl Tryd.underlying29 infoF rfl (by decide) (by omega) (.slice A1 l.length c1) l (openF ((a : Int), (b : Int))) [.int .i64 (a : Int), .int .i64 (b : Int), .slice (some ⟨b4, 0, none⟩) 1 1] (fun k => ok k ∧ some k ≠ (.slice (some ⟨b4, 0, none⟩) 1 1 : Value).ownBlock ∧ k ≠ q8) (fun _ => False) rfl rfl (.inr ⟨rfl, _, _, _, rfl⟩) (fun _ hk => hk.elim) (fun k hk => ⟨HFr.out k (Nat.le_trans HK2.out.size hk), HVn.out k hk, by have := blk_lt hf2; omega⟩) HRo.out HF2.out.old HF2.out.old.size HAL.out ?_
      intro v9 W9 ho hb hg9 hat9
      obtain ⟨A9, c9, e9, hc9, hr9⟩ := Kd.R_reads ho
      obtain ⟨n9, hn9⟩ : ∃ n9, n9 = (l ++ [openF ((a : Int), (b : Int))]).length := ⟨_, rfl⟩
      rw [← hn9] at e9 hc9 hr9
      subst e9
      have HN9 := Aside0.mk hn9
      have HR9 := Aside0.mk hr9
      have HC9 := Aside0.mk hc9
      have HO9 := Aside0.mk ho
      have HG9 := Aside0.mk hg9
      have HAt := Aside0.mk hat9
      clear hn9 hr9 hc9 ho hb hat9
      have hne1 : some xb ≠ (Value.slice A1 l.length c1).ownBlock := fun e => (HOk.out _ (HF2.out.row.1 _ e.symm).1).1 rfl
      have hbx9 := blk_grown HF2.out.blk hg9 hne1
      clear hg9 hne1
      have cc9 : W9.cell? ⟨xb, 1, none⟩ = some (.slice A1 l.length c1) := (blk_cell hbx9 1).trans rfl
      have zz9 : W9.frozen? ⟨xb, 1, none⟩ = false := blk_frozen hbx9 1
      refine hK.out _ _ ?_
      clear hK K
      refine norm_ (a' := ?_) ?_ ?_
      rotate_left
      · show Act.put _ (some 75) _ = _
        simp only [Act.put, zz1, zz2, zz3, i64_w, i32_w]
        rfl
      refine pure_ (i := 9) (N := some 76) (v := ?_) (a' := ?_) #[τ,τ,τ,τ,τ,τ,τ,τ,τ,τ,φ,φ,φ] rfl rfl (any_of HT_.out (by kernel_rfl)) (fun _ _ _ h => h) (Or.inl ⟨by rfl, ?_⟩) ?_ ?_
      rotate_left; (intro w'; go_simp; with_reducible rfl); rotate_left; (simp only [Act.put, zz1, zz2, zz3, i64_w, i32_w]; rfl)
      refine pure_ (i := 10) (N := some 77) (v := ?_) (a' := ?_) #[τ,τ,τ,τ,τ,τ,τ,τ,τ,τ,τ,φ,φ] rfl rfl (any_of HT_.out (by kernel_rfl)) (fun _ _ _ h => h) (Or.inl ⟨by rfl, ?_⟩) ?_ ?_
      rotate_left; (intro w'; go_simp; with_reducible rfl); rotate_left; (simp only [Act.put, zz1, zz2, zz3, i64_w, i32_w]; rfl)
      refine pure_ (i := 11) (N := some 78) (v := ?_) (a' := ?_) #[τ,τ,τ,τ,τ,τ,τ,τ,τ,τ,τ,τ,φ] rfl rfl (any_of HT_.out (by kernel_rfl)) (fun _ _ _ h => h) (Or.inl ⟨by rfl, ?_⟩) ?_ ?_
      rotate_left; (intro w'; go_simp; with_reducible rfl); rotate_left; (simp only [Act.put, zz1, zz2, zz3, i64_w, i32_w]; rfl)
      refine last_ (i := 12) (N := none) #[τ,τ,τ,τ,τ,τ,τ,τ,τ,τ,τ,τ,τ] rfl rfl (one_of HT_.out (by kernel_rfl)) (by decide) (fun K hK => ?_)
      refine skip_ (w1 := ?_) (by rfl) rfl ?_ ?_
      rotate_left
      · go_simp
        rfl
      refine hK.out _ _ ?_
      clear hK K
      refine done_ (done_of HT_.out (by kernel_rfl)) ?_
      have hne1 : some xb ≠ (Value.slice A1 l.length c1).ownBlock := fun e => (HOk.out _ (HF2.out.row.1 _ e.symm).1).1 rfl
      have hne2 : some m ≠ (Value.slice A1 l.length c1).ownBlock := fun e => (HOk.out _ (HF2.out.row.1 _ e.symm).1).2 rfl
      have hne3 : some q8 ≠ (Value.slice A1 l.length c1).ownBlock := fun e => by have h1 := HOwn.out _ e.symm; have := HNum.out; omega
      have hYb : W9.grownBy (W9.setCell ⟨xb, 1, none⟩ (.slice A9 n9 c9)) (some xb) := grown_set W9 ⟨xb, 1, none⟩ (.slice A9 n9 c9)
      have hKxy : Kp X1 (W9.setCell ⟨xb, 1, none⟩ (.slice A9 n9 c9)) xb m (.slice A1 l.length c1) (.slice A9 n9 c9) := Kp.trans ⟨HG9.out.size, fun k hk _ _ h => HG9.out.block k hk h, HAt.out⟩ (Kp.grown hYb (fun k e => .inl (by cases e; rfl)))
      have HKY := Aside0.mk (HK2.out.trans hKxy)
      have HFY : Aside0 (FdS w0 (W9.setCell ⟨xb, 1, none⟩ (.slice A9 n9 c9)) xb m (some ad) c0 g (.slice A9 n9 c9) (l ++ [openF ((a : Int), (b : Int))]) (fm (l ++ [openF ((a : Int), (b : Int))])) (fun k => ok k ∧ some k ≠ (.slice (some ⟨b4, 0, none⟩) 1 1 : Value).ownBlock ∧ k ≠ q8)) :=
        ⟨⟨(HF2.out.old.grown HG9.out HF2.out.old.size (fun k e => Kd.R_base HF2.out.row k e)).grown hYb (Nat.le_trans HF2.out.old.size HG9.out.size) (fun k e => by cases e; exact HF2.out.hx), HF2.out.hx, HF2.out.hm, HF2.out.ne, blk_put hbx9 1 _ rfl, (HF2.out.mp.kept HG9.out hne2).kept hYb (fun e => HF2.out.ne (by cases e; rfl)), Kd.R_far HO9.out (fun k hk => (HOk.out k hk.1).1) _, HF2.out.gr, HF2.out.gc⟩⟩
      have hfY := blk_grown (blk_grown hf2 HG9.out hne3) hYb (fun e => by have := HNum.out; cases e; omega)
      have HRY := Aside0.mk (Kd.R_mono (ok' := fun _ => True) (Kd.R_step (Kd.R_bound HR2.out) (fun k hk hlt => hKxy.block k hlt (by have := HNum.out; have := hk.2.1; omega) (by have := HNum.out; have := hk.2.1; omega) (fun e => by have h1 := HOwn.out _ e.symm; have := hk.2.1; omega))) (fun _ _ => trivial))
      have HsY := Aside0.mk hKxy.size
      have HX1q := Aside0.mk (blk_lt hf2)
      clear hne1 hne2 hne3 hYb hKxy HF2 HK2 hf2 HR2 HVn HRo HAL HO9 HG9 HAt HR9 HC9 hbx9 cc9 zz9 x1u f0u f1u f2u hHeld
      generalize W9.setCell ⟨xb, 1, none⟩ (.slice A9 n9 c9) = Y at HKY HFY hfY HRY HsY ⊢
      have HFY := Aside0.mk HFY.out.drew
      have HKY := Aside0.mk (HKY.out.trans (Kp.below (below_drew (Below.refl Y.heap.size Y))))
      have f0y := drew_cell ((blk_cell hfY 0).trans rfl)
      have f1y := drew_cell ((blk_cell hfY 1).trans rfl)
      have f2y := drew_cell ((blk_cell hfY 2).trans rfl)
      have hfY := blk_drew hfY
      have HRY := Aside0.mk (Kd.R_below HRY.out (below_drew (Below.refl Y.heap.size Y)))
      have HBy : Aside0 (Calls Tryd.prog 46 #[.pointer (some ⟨xb, 0, none⟩), .agg #[.int .i64 (a : Int), .int .i64 (b : Int), .slice (some ⟨b4, 0, none⟩) 1 1]] Y.drew fun e w' => ∃ v, e = .returned (.tuple #[v, .bool (byP g (mk0 (pickN g) g ((a : Int), (b : Int)))).2]) ∧ Kd.R kP 72 w' Y.drew.heap.size (fun _ => True) v (byP g (mk0 (pickN g) g ((a : Int), (b : Int)))).1 ∧ Below Y.drew.heap.size Y.drew w') := ⟨by
        have h := by_yes xb (some ad) c0 g a b [pickN g a b] (some ⟨b4, 0, none⟩) 1 Y.drew ((blk_cell HFY.out.blk 0).trans rfl) (Kd.C_below HFY.out.gr HFY.out.old) HFY.out.gc (Kd.R_reads' HRY.out).2.2 (Nat.le_refl _) HAB.out.1 HC.out (rise_of HC.out HAB.out.1) (by rw [HWs.out]; exact fok_mk0 HC.out HP.out)
        rw [show byP g ⟨a, b, [pickN g a b]⟩ = byP g (mk0 (pickN g) g ((a : Int), (b : Int))) by rw [HWs.out]; rfl] at h
        exact h⟩
      obtain ⟨ps, hps⟩ : ∃ ps, ps = (byP g (mk0 (pickN g) g ((a : Int), (b : Int)))).1 := ⟨_, rfl⟩
      rw [← hps] at HBy
      have HPs := Aside0.mk hps
      clear hps
      go_wp2_with (fail)
      refine start_ (n := 10) (S := fun w' => w'.cell? ⟨q8, 0, none⟩ = some (.int .i64 (a : Int)) ∧ w'.cell? ⟨q8, 1, none⟩ = some (.int .i64 (b : Int)) ∧ w'.cell? ⟨q8, 2, none⟩ = some (.slice (some ⟨b4, 0, none⟩) 1 1)) (ds := []) #[φ,φ,φ,φ,φ,φ,φ,φ,φ,φ] (by kernel_rfl) rfl rfl ⟨f0y, f1y, f2y⟩ (fun hHeld => ?_)
      generalize Y.drew = Y1 at f0y f1y f2y HFY HKY hfY HRY HBy hHeld ⊢
      refine with_tabW fi12.tab12 fi12.bits12 (fun HT_ HW_ => ?_)
      refine pure_ (i := 0) (N := some 80) (v := ?_) (a' := ?_) #[τ,φ,φ,φ,φ,φ,φ,φ,φ,φ] rfl rfl (any_of HT_.out (by kernel_rfl)) (fun _ _ _ h => h) (Or.inl ⟨by rfl, ?_⟩) ?_ ?_
      rotate_left; (intro w'; go_simp; with_reducible rfl); rotate_left; (simp only [Act.put, zz1, zz2, zz3, i64_w, i32_w]; rfl)
      refine pure_ (i := 1) (N := some 81) (v := ?_) (a' := ?_) #[τ,τ,φ,φ,φ,φ,φ,φ,φ,φ] rfl rfl (any_of HT_.out (by kernel_rfl)) (fun _ _ _ h => h) (Or.inl ⟨by rfl, ?_⟩) ?_ ?_
      rotate_left; (intro w'; go_simp; with_reducible rfl); rotate_left; (simp only [Act.put, zz1, zz2, zz3, i64_w, i32_w]; rfl)
      refine pure_ (i := 2) (N := some 82) (v := ?_) (a' := ?_) #[τ,τ,τ,φ,φ,φ,φ,φ,φ,φ] rfl rfl (any_of HT_.out (by kernel_rfl)) (fun _ _ _ h => h) (Or.inl ⟨by rfl, ?_⟩) ?_ ?_
      rotate_left; (intro w'; go_simp; with_reducible rfl); rotate_left; (simp only [Act.put, zz1, zz2, zz3, i64_w, i32_w]; rfl)
      refine take_ (i := 3) (N := some 83) (v := ?_) (a' := ?_) #[τ,τ,τ,τ,φ,φ,φ,φ,φ,φ] rfl rfl (take_ofW HT_.out HW_.out (by kernel_rfl)) (fun _ _ _ h => h) (Or.inl ⟨by rfl, ?_⟩) hHeld ?_ ?_
      rotate_left; (rintro w' ⟨s0, s1, s2⟩; go_simp; with_reducible rfl); rotate_left; (simp only [Act.put, zz1, zz2, zz3, i64_w, i32_w]; rfl)
      refine one_ (i := 4) (N := some 84) #[τ,τ,τ,τ,τ,φ,φ,φ,φ,φ] rfl rfl (one_of HT_.out (by kernel_rfl)) (by decide) (fun K hK => ?_)
      refine goes_ Tryd.func46 (by kernel_rfl) rfl #[.pointer (some ⟨xb, 0, none⟩), .agg #[.int .i64 (a : Int), .int .i64 (b : Int), .slice (some ⟨b4, 0, none⟩) 1 1]] (by rfl) rfl rfl (by simp only [List.map_toArray, List.map_cons, List.map_nil]; rfl) ?_
      with_reducible refine (HBy.out).mono ?_
      rintro e Z ⟨von, rfl, hro, hbz⟩
      have HRo := Aside0.mk hro
      have HBz := Aside0.mk hbz
      have r0 := pw_cell_below hbz f0y
      have r1 := pw_cell_below hbz f1y
      have r2 := pw_cell_below hbz f2y
      clear hro hbz
      refine ⟨_, rfl, ?_⟩
      refine hK.out _ _ ⟨r0, r1, r2⟩ (fun hHeld => ?_)
      clear hK K
      refine norm_ (a' := ?_) ?_ ?_
      rotate_left
      · show Act.put _ (some 84) _ = _
        simp only [Act.put, zz1, zz2, zz3, i64_w, i32_w]
        rfl
      refine pure_ (i := 5) (N := some 79) (v := ?_) (a' := ?_) #[τ,τ,τ,τ,τ,τ,φ,φ,φ,φ] rfl rfl (any_of HT_.out (by kernel_rfl)) (fun _ _ _ h => h) (Or.inl ⟨by rfl, ?_⟩) ?_ ?_
      rotate_left; (intro w'; go_simp; with_reducible rfl); rotate_left; (simp only [Act.put, zz1, zz2, zz3, i64_w, i32_w]; rfl)
      refine pure_ (i := 6) (N := some 85) (v := ?_) (a' := ?_) #[τ,τ,τ,τ,τ,τ,τ,φ,φ,φ] rfl rfl (any_of HT_.out (by kernel_rfl)) (fun _ _ _ h => h) (Or.inl ⟨by rfl, ?_⟩) ?_ ?_
      rotate_left; (intro w'; go_simp; with_reducible rfl); rotate_left; (simp only [Act.put, zz1, zz2, zz3, i64_w, i32_w]; rfl)
      refine pure_ (i := 7) (N := some 86) (v := ?_) (a' := ?_) #[τ,τ,τ,τ,τ,τ,τ,τ,φ,φ] rfl rfl (any_of HT_.out (by kernel_rfl)) (fun _ _ _ h => h) (Or.inl ⟨by rfl, ?_⟩) ?_ ?_
      rotate_left; (intro w'; go_simp; with_reducible rfl); rotate_left; (simp only [Act.put, zz1, zz2, zz3, i64_w, i32_w]; rfl)
      refine pure_ (i := 8) (N := some 9) (v := ?_) (a' := ?_) #[τ,τ,τ,τ,τ,τ,τ,τ,τ,φ] rfl rfl (any_of HT_.out (by kernel_rfl)) (fun _ _ _ h => h) (Or.inl ⟨by rfl, ?_⟩) ?_ ?_
      rotate_left; (intro w'; go_simp; with_reducible rfl); rotate_left; (simp only [Act.put, zz1, zz2, zz3, i64_w, i32_w]; rfl)
      refine pure_ (i := 9) (N := some 10) (v := ?_) (a' := ?_) #[τ,τ,τ,τ,τ,τ,τ,τ,τ,τ] rfl rfl (any_of HT_.out (by kernel_rfl)) (fun _ _ _ h => h) (Or.inl ⟨by rfl, ?_⟩) ?_ ?_
      rotate_left; (intro w'; go_simp; with_reducible rfl); rotate_left; (simp only [Act.put, zz1, zz2, zz3, i64_w, i32_w]; rfl)
      refine done_ (done_of HT_.out (by kernel_rfl)) ?_
      clear r0 r1 r2 f0y f1y f2y hHeld HBy
      have HFz := Aside0.mk (HFY.out.below HBz.out)
      have HKz := Aside0.mk (HKY.out.trans (Kp.below HBz.out))
      have HQz := Aside0.mk (blk_below hfY HBz.out)
      have HRz := Aside0.mk (Kd.R_below HRY.out HBz.out)
      have HRo := Aside0.mk (Kd.R_lower HRo.out HKY.out.size)
      obtain ⟨Ao, co, rfl, hco, hro⟩ := Kd.R_reads HRo.out
      have Hco := Aside0.mk hco
      have HPr := Aside0.mk (show ∀ p ∈ ps, Pr g p by rw [HPs.out]; exact (step_ok HC.out HP.out).2.1)
      have HPl := Aside0.mk (show ps.length ≤ 1000000000 by rw [HPs.out]; exact ps_len HC.out HP.out)
      have HGd1 := Aside0.mk (show F3.Good g (l ++ [openF ((a : Int), (b : Int))]) from HGd.out.snoc HP.out (idxP_none HI.out))
      have HV8 := Aside0.mk (show some q8 ≠ (.slice (some ⟨b4, 0, none⟩) 1 1 : Value).ownBlock from by simp [Value.ownBlock]; have := HB4.out; omega)
      clear hco hro HFY HKY hfY HRY HBz HX1q HsY
      go_wp2_with (fail)
      go_loopw [89] (fun v89 wr => ∃ (i : Nat) (v1i vWi : Value) (R : List Int × List FC), i ≤ ps.length ∧ v89 = .int .i64 i ∧ Aside0 (R = findL (findP (pickN g) g n) (ps.take i) (l ++ [openF ((a : Int), (b : Int))])) ∧ Aside0 (FdS w0 wr xb m (some ad) c0 g v1i R.2 (fm R.2) (fun k => ok k ∧ some k ≠ vWi.ownBlock ∧ k ≠ q8)) ∧ Aside0 (wr.heap[q8]? = some (.cells #[.int .i64 (a : Int), .int .i64 (b : Int), vWi] 37 (0, 0))) ∧
        Aside0 (Kd.R (Kd.int .i64) 3 wr W.heap.size (fun _ => True) vWi ([pickN g a b] ++ R.1)) ∧ Aside0 (Kd.R kP 72 wr W.heap.size (fun _ => True) (.slice Ao ps.length co) ps) ∧ Aside0 (Kp W wr xb m (.slice A1 l.length c1) v1i) ∧ Aside0 (F3.Good g R.2 ∧ l.length + 1 ≤ R.2.length ∧ R.1.length = i) ∧ Aside0 (some q8 ≠ vWi.ownBlock)) (fun v89 _ => ps.length + 1 - (intOf v89).toNat)
      case atStart => exact ⟨0, .slice A9 n9 c9, .slice (some ⟨b4, 0, none⟩) 1 1, ([], l ++ [openF ((a : Int), (b : Int))]), by omega, rfl, ⟨rfl⟩, HFz, HQz, ⟨by rw [List.append_nil]; exact HRz.out⟩, HRo, HKz, ⟨HGd1.out, by simp, rfl⟩, HV8⟩
      case round =>
        clear HFz HKz HQz HRz HRo HGd1 HV8
        obtain ⟨i, v1i, vWi, R, hi, rfl, HRe, HFi, HQi, HRi, HRoi, HKi, HGi, HW8⟩ := hrel
        rename World => X
        have hw : wrap64 ((i : Int) + 1) = ((i + 1 : Nat) : Int) := by have := HPl.out; unfold wrap64; omega
        by_cases hlt : i < ps.length
        · have hpr := HPr.out (ps.getD i (0, 0)) (by rw [List.getD_eq_getElem?_getD, List.getElem?_eq_getElem hlt]; exact List.getElem_mem hlt)
          obtain ⟨a', ha'⟩ := Int.eq_ofNat_of_zero_le hpr.a0
          obtain ⟨b', hb'⟩ := Int.eq_ofNat_of_zero_le hpr.b0
          have hpe : ps.getD i (0, 0) = ((a' : Int), (b' : Int)) := Prod.ext ha' hb'
          rw [hpe] at hpr
          have HPi := Aside0.mk hpr
          have HTk := Aside0.mk (show ps.take (i + 1) = ps.take i ++ [((a' : Int), (b' : Int))] by
            rw [List.take_add_one, List.getElem?_eq_getElem hlt, ← hpe, List.getD_eq_getElem?_getD, List.getElem?_eq_getElem hlt]
            rfl)
          obtain ⟨adp, eP, p0, p1⟩ := at_P (Kd.R_reads' HRoi.out).2.2 (i : Int) (by omega) (by omega)
          subst eP
          rw [Int.toNat_natCast, hpe] at p0 p1
          dsimp only at p0 p1
          obtain ⟨Aw, cw, eW, hcw, hrw⟩ := Kd.R_reads HRi.out
          obtain ⟨nw, hnw⟩ : ∃ nw, nw = ([pickN g a b] ++ R.1).length := ⟨_, rfl⟩
          rw [← hnw] at eW hcw hrw
          subst eW
          have HNw := Aside0.mk hnw
          obtain ⟨fr2, hfr2⟩ : ∃ fr2, fr2 = findP (pickN g) g n ((a' : Int), (b' : Int)) R.2 := ⟨_, rfl⟩
          have hz1 := heap_alloc_new X (.cells #[.int .i64 (a' : Int), .int .i64 (b' : Int)] 72)
          have HFx := Aside0.mk (HFi.out.alloc (.cells #[.int .i64 (a' : Int), .int .i64 (b' : Int)] 72)).drew
          have hbx := below_drew (below_alloc (Below.refl X.heap.size X) (.cells #[.int .i64 (a' : Int), .int .i64 (b' : Int)] 72))
          have HRx := Aside0.mk (Kd.R_below HRi.out hbx)
          have HRox := Aside0.mk (Kd.R_below HRoi.out hbx)
          have HKx := Aside0.mk (HKi.out.trans (Kp.below hbx))
          have hqx := blk_drew (blk_alloc HQi.out (.cells #[.int .i64 (a' : Int), .int .i64 (b' : Int)] 72))
          have hzx := blk_drew hz1
          have HQs := Aside0.mk (show q8 < X.heap.size from blk_lt HQi.out)
          have HV1 := Aside0.mk (show ∀ k, v1i.ownBlock = some k → k < X.heap.size from fun k hk => by obtain ⟨inner, ho⟩ := Kd.R_own HFi.out.row; exact (World.ownsRow.lt ho k hk).2)
          have HIH := Aside0.mk (ih w0 (X.alloc (.cells #[.int .i64 (a' : Int), .int .i64 (b' : Int)] 72)).drew xb m (some ad) c0 g v1i R.2 (fun k => ok k ∧ some k ≠ (Value.slice Aw nw cw).ownBlock ∧ k ≠ q8) a' b' HC.out H16.out HKy.out HFx.out (fun k hk => HOk.out k hk.1) (fun k hk => ⟨HFr.out k (Nat.le_trans HKx.out.size hk), fun e => by
            obtain ⟨inner, ho⟩ := Kd.R_own HRx.out
            have := (World.ownsRow.lt ho k e.symm).2
            omega, by have := blk_lt hqx; omega⟩) hpr HGi.out.1 (by have := HGi.out.2.1; have := HFuel.out; omega))
          rw [← hfr2] at HIH
          have HF2 := Aside0.mk (show F3.Good g fr2.2 ∧ R.2.length ≤ fr2.2.length by
            have h := findP_ok HC.out n ((a' : Int), (b' : Int)) R.2 hpr HGi.out.1 (by have := HGi.out.2.1; have := HFuel.out; omega)
            rw [← hfr2] at h
            exact ⟨h.good, h.le⟩)
          have HRe2 := Aside0.mk (show (R.1 ++ [fr2.1], fr2.2) = findL (findP (pickN g) g n) (ps.take (i + 1)) (l ++ [openF ((a : Int), (b : Int))]) by
            rw [HTk.out, findL_app, ← HRe.out]
            show _ = (R.1 ++ (findL (findP (pickN g) g n) [((a' : Int), (b' : Int))] R.2).1, (findL (findP (pickN g) g n) [((a' : Int), (b' : Int))] R.2).2)
            rw [show findL (findP (pickN g) g n) [((a' : Int), (b' : Int))] R.2 = ([fr2.1], fr2.2) by rw [hfr2]; rfl])
          have g2 := (blk_cell hqx 2).trans rfl
          have z0 := (blk_cell hzx 0).trans rfl
          have z1 := (blk_cell hzx 1).trans rfl
          have HLi := Aside0.mk hlt
          have HAL : Aside0 ((([pickN g a b] ++ R.1).length + 1) * 8 ≤ 140737488355328) := ⟨by rw [List.length_append, HGi.out.2.2]; have := HPl.out; simp; omega⟩
          have e8 : ((i : Int) < (ps.length : Int)) = True := eq_true (by omega)
          clear hpr ha' hb' hpe hnw hcw hrw hfr2 hz1 hbx
          go_wp2_with (fail)
          generalize hq12 : X.heap.size = q12 at z0 z1 hzx HV1 HQs ⊢
          refine start_ (n := 9) (S := fun w' => w'.cell? ⟨q8, 2, none⟩ = some (.slice Aw nw cw) ∧ w'.cell? ⟨q12, 0, none⟩ = some (.int .i64 (a' : Int)) ∧ w'.cell? ⟨q12, 1, none⟩ = some (.int .i64 (b' : Int))) (ds := [6, 8]) #[φ,φ,φ,φ,φ,φ,φ,φ,φ] (by kernel_rfl) rfl rfl ⟨g2, z0, z1⟩ (fun hHeld => ?_)
          generalize (X.alloc (.cells #[.int .i64 (a' : Int), .int .i64 (b' : Int)] 72)).drew = X1 at g2 z0 z1 HFx HRx HRox HKx hqx hzx HIH hHeld ⊢
          refine with_tabW fi16.tab16 fi16.bits16 (fun HT_ HW_ => ?_)
          refine pure_ (i := 0) (N := some 93) (v := ?_) (a' := ?_) #[τ,φ,φ,φ,φ,φ,φ,φ,φ] rfl rfl (any_of HT_.out (by kernel_rfl)) (fun _ _ _ h => h) (Or.inl ⟨by rfl, ?_⟩) ?_ ?_
          rotate_left; (intro w'; go_simp; with_reducible rfl); rotate_left; (simp only [Act.put, zz1, zz2, zz3, i64_w, i32_w]; rfl)
          refine pure_ (i := 2) (N := some 95) (v := ?_) (a' := ?_) #[τ,φ,τ,φ,φ,φ,φ,φ,φ] rfl rfl (any_of HT_.out (by kernel_rfl)) (fun _ _ _ h => h) (Or.inl ⟨by rfl, ?_⟩) ?_ ?_
          rotate_left; (intro w'; go_simp; with_reducible rfl); rotate_left; (simp only [Act.put, zz1, zz2, zz3, i64_w, i32_w]; rfl)
          refine take_ (i := 1) (N := some 94) (v := ?_) (a' := ?_) #[τ,τ,τ,φ,φ,φ,φ,φ,φ] rfl rfl (take_ofW HT_.out HW_.out (by kernel_rfl)) (fun _ _ _ h => h) (Or.inl ⟨by rfl, ?_⟩) hHeld ?_ ?_
          rotate_left; (rintro w' ⟨s0, s1, s2⟩; go_simp; with_reducible rfl); rotate_left; (simp only [Act.put, zz1, zz2, zz3, i64_w, i32_w]; rfl)
          refine take_ (i := 3) (N := some 96) (v := ?_) (a' := ?_) #[τ,τ,τ,τ,φ,φ,φ,φ,φ] rfl rfl (take_ofW HT_.out HW_.out (by kernel_rfl)) (fun _ _ _ h => h) (Or.inl ⟨by rfl, ?_⟩) hHeld ?_ ?_
          rotate_left; (rintro w' ⟨s0, s1, s2⟩; go_simp; with_reducible rfl); rotate_left; (simp only [Act.put, zz1, zz2, zz3, i64_w, i32_w]; rfl)
          refine one_ (i := 4) (N := some 97) #[τ,τ,τ,τ,τ,φ,φ,φ,φ] rfl rfl (one_of HT_.out (by kernel_rfl)) (by decide) (fun K hK => ?_)
          refine goes_ Tryd.func30 (by kernel_rfl) rfl #[.pointer (some ⟨xb, 0, none⟩), .agg #[.int .i64 (a' : Int), .int .i64 (b' : Int)]] (by rfl) rfl rfl (by simp only [List.map_toArray, List.map_cons, List.map_nil]; rfl) ?_
          with_reducible refine (HIH.out).mono ?_
          rintro e X2 ⟨v1j, rfl, hFj, hKj⟩
          have HFj := Aside0.mk hFj
          have hN8 : some q8 ≠ v1i.ownBlock := fun e => (HFx.out.row.1 q8 e.symm).2.2 rfl
          have hN12 : some q12 ≠ v1i.ownBlock := fun e => by have := HV1.out q12 e.symm; omega
          have hqj := (hKj.block q8 (blk_lt hqx) (by have := HNum.out; omega) (by have := HNum.out; omega) hN8).trans hqx
          have hzj := (hKj.block q12 (blk_lt hzx) (by have := HSz.out; have := HKi.out.size; omega) (by have := HSz.out; have := HKi.out.size; omega) hN12).trans hzx
          have HRj := Aside0.mk (Kd.R_mono (ok' := fun _ => True) (Kd.R_step (Kd.R_bound (R_apart HRx.out HFx.out.row (by decide))) (fun k hk hlt => hKj.block k hlt (by have := HSz.out; have := hk.2.1; omega) (by have := HSz.out; have := hk.2.1; omega) hk.1.2)) (fun _ _ => trivial))
          have HRoj := Aside0.mk (Kd.R_mono (ok' := fun _ => True) (Kd.R_step (Kd.R_bound (R_apart HRox.out HFx.out.row (by decide))) (fun k hk hlt => hKj.block k hlt (by have := HSz.out; have := hk.2.1; omega) (by have := HSz.out; have := hk.2.1; omega) hk.1.2)) (fun _ _ => trivial))
          have HKj := Aside0.mk (HKx.out.trans hKj)
          have HX1j := Aside0.mk hKj.size
          have HRowj := Aside0.mk hKj.row
          have r0 := (blk_cell hqj 2).trans rfl
          have r1 := (blk_cell hzj 0).trans rfl
          have r2 := (blk_cell hzj 1).trans rfl
          clear hFj hKj hN8 hN12 hzj
          refine ⟨_, rfl, ?_⟩
          refine hK.out _ _ ⟨r0, r1, r2⟩ (fun hHeld => ?_)
          clear hK K
          refine norm_ (a' := ?_) ?_ ?_
          rotate_left
          · show Act.put _ (some 97) _ = _
            simp only [Act.put, zz1, zz2, zz3, i64_w, i32_w]
            rfl
          refine one_ (i := 5) (N := some 98) #[τ,τ,τ,τ,τ,τ,φ,φ,φ] rfl rfl (one_of HT_.out (by kernel_rfl)) (by decide) (fun K hK => ?_)
          refine value_ (w1 := ?_) (v := ?_) (by rfl) rfl ?_ ?_
          rotate_left 2
          · go_simp
            constructor
            · rfl
            · rfl
          refine hK.out _ _ ⟨pw_cell_below (below_alloc (Below.refl _ _) _) r0, pw_cell_below (below_alloc (Below.refl _ _) _) r1, pw_cell_below (below_alloc (Below.refl _ _) _) r2⟩ (fun hHeld => ?_)
          clear hK K
          refine norm_ (a' := ?_) ?_ ?_
          rotate_left
          · show Act.put _ (some 98) _ = _
            simp only [Act.put, zz1, zz2, zz3, i64_w, i32_w]
            rfl
          refine last_ (i := 6) (N := some 99) #[τ,τ,τ,τ,τ,τ,τ,φ,φ] rfl rfl (one_of HT_.out (by kernel_rfl)) (by decide) (fun K hK => ?_)
          refine Kd.R_append_step (Kd.int .i64) (w0 := X2) W.heap.size (by rfl) (.tmp 94) (.tmp 98) 30 3 (.int .i64 0) 8 rfl Tryd.underlying30 infoI rfl (by decide) (by omega) (.slice Aw nw cw) ([pickN g a b] ++ R.1) fr2.1 [.int .i64 fr2.1] (fun _ => True) (fun _ => False) rfl rfl rfl (fun _ hk => hk.elim) (fun _ _ => trivial) HRj.out (Below.refl _ _) HKj.out.size HAL.out ?_
          intro v9 W9 ho hb hg9 hat9
          obtain ⟨A7, c7, e7, hc7, hr7⟩ := Kd.R_reads ho
          obtain ⟨n7, hn7⟩ : ∃ n7, n7 = (([pickN g a b] ++ R.1) ++ [fr2.1]).length := ⟨_, rfl⟩
          rw [← hn7] at e7 hc7 hr7
          subst e7
          have HO7 := Aside0.mk ho
          have HG7 := Aside0.mk hg9
          have HA7 := Aside0.mk hat9
          have hq7 := blk_grown hqj hg9 HW8.out
          have c7c : W9.cell? ⟨q8, 2, none⟩ = some (.slice Aw nw cw) := (blk_cell hq7 2).trans rfl
          have z7c : W9.frozen? ⟨q8, 2, none⟩ = false := blk_frozen hq7 2
          clear hn7 hc7 hr7 ho hb hg9 hat9
          refine hK.out _ _ ?_
          clear hK K
          refine norm_ (a' := ?_) ?_ ?_
          rotate_left
          · show Act.put _ (some 99) _ = _
            simp only [Act.put, zz1, zz2, zz3, i64_w, i32_w]
            rfl
          refine pure_ (i := 7) (N := some 100) (v := ?_) (a' := ?_) #[τ,τ,τ,τ,τ,τ,τ,τ,φ] rfl rfl (any_of HT_.out (by kernel_rfl)) (fun _ _ _ h => h) (Or.inl ⟨by rfl, ?_⟩) ?_ ?_
          rotate_left; (intro w'; go_simp; with_reducible rfl); rotate_left; (simp only [Act.put, zz1, zz2, zz3, i64_w, i32_w]; rfl)
          refine last_ (i := 8) (N := none) #[τ,τ,τ,τ,τ,τ,τ,τ,τ] rfl rfl (one_of HT_.out (by kernel_rfl)) (by decide) (fun K hK => ?_)
          refine skip_ (w1 := ?_) (by rfl) rfl ?_ ?_
          rotate_left
          · go_simp
            rfl
          refine hK.out _ _ ?_
          clear hK K
          refine done_ (done_of HT_.out (by kernel_rfl)) ?_
          clear r0 r1 r2 g2 z0 z1 c7c z7c hHeld
          have hYs : W9.grownBy (W9.setCell ⟨q8, 2, none⟩ (.slice A7 n7 c7)) (some q8) := grown_set W9 ⟨q8, 2, none⟩ (.slice A7 n7 c7)
          have hbw : ∀ k, (Value.slice Aw nw cw).ownBlock = some k → W.heap.size ≤ k := fun k hk => Kd.R_base HRj.out k hk
          have hxw : some xb ≠ (Value.slice Aw nw cw).ownBlock := fun e => by have h1 := hbw xb e.symm; have := HSz.out; omega
          have hmw : some m ≠ (Value.slice Aw nw cw).ownBlock := fun e => by have h1 := hbw m e.symm; have := HSz.out; omega
          have HFn := Aside0.mk (((HFj.out.mono (ok' := fun k => (ok k ∧ some k ≠ (Value.slice Aw nw cw).ownBlock ∧ k ≠ q8) ∧ k < X2.heap.size) (fun k h1 h2 => ⟨h1, h2⟩)).kept HG7.out hxw hmw (fun k hk => hk.1.2.1) (fun k e => by have := hbw k e; have := HFj.out.hx; have := HSz.out; omega)).kept hYs (fun e => by have := HNum.out; cases e; omega) (fun e => by have := HNum.out; cases e; omega) (fun k hk e => hk.1.2.2 (by cases e; rfl)) (fun k e => by have := HNum.out; have := HFj.out.hx; cases e; omega))
          have HFn2 := Aside0.mk (HFn.out.mono (ok' := fun k => ok k ∧ some k ≠ (Value.slice A7 n7 c7).ownBlock ∧ k ≠ q8) (fun k hk _ => ⟨hk.1.1, fun e => by
            rcases HA7.out with h | ⟨b9, h, hb9⟩
            · rw [h] at e; exact hk.1.2.1 e
            · rw [h] at e; have := hk.2; cases e; omega, hk.1.2.2⟩))
          have HQn := Aside0.mk (show (W9.setCell ⟨q8, 2, none⟩ (.slice A7 n7 c7)).heap[q8]? = some (.cells #[.int .i64 (a : Int), .int .i64 (b : Int), .slice A7 n7 c7] 37 (0, 0)) from blk_put hq7 2 _ rfl)
          have HRn := Aside0.mk (show Kd.R (Kd.int .i64) 3 (W9.setCell ⟨q8, 2, none⟩ (.slice A7 n7 c7)) W.heap.size (fun _ => True) (.slice A7 n7 c7) ([pickN g a b] ++ (R.1 ++ [fr2.1])) by
            rw [← List.append_assoc]
            exact Kd.R_set HO7.out hq7 (by decide) 2 _)
          have HRon := Aside0.mk (Kd.R_set (Kd.R_mono (ok' := fun _ => True) (Kd.R_step (Kd.R_bound (R_apart HRoj.out HRj.out (by decide))) (fun k hk hlt => HG7.out.block k hlt hk.1.2)) (fun _ _ => trivial)) hq7 (by decide) 2 (.slice A7 n7 c7))
          have HKn := Aside0.mk ((HKj.out.after HG7.out hbw).after hYs (fun k e => by have := HNum.out; cases e; omega))
          have HGn := Aside0.mk (show F3.Good g fr2.2 ∧ l.length + 1 ≤ fr2.2.length ∧ (R.1 ++ [fr2.1]).length = i + 1 from ⟨HF2.out.1, by have := HGi.out.2.1; have := HF2.out.2; omega, by rw [List.length_append, HGi.out.2.2]; rfl⟩)
          have HWn := Aside0.mk (show some q8 ≠ (Value.slice A7 n7 c7).ownBlock from fun e => by
            rcases HA7.out with h | ⟨b9, h, hb9⟩
            · rw [h] at e; exact HW8.out e
            · rw [h] at e; have := blk_lt hqj; cases e; omega)
          have HLt2 := HLi.out
          clear hYs hbw hxw hmw HFn HO7 HG7 HA7 hq7 hqj HRj HRoj HKj HFj HX1j HRowj HRx HRox HKx hqx hzx HFx HIH hq12 HV1 HQs
          go_wp2_with (fail)
          go_roundw
          case rel => exact ⟨i + 1, v1j, .slice A7 n7 c7, (R.1 ++ [fr2.1], fr2.2), by omega, by first | (rw [hw]; done) | (rw [Int.natCast_add]; rfl), HRe2, HFn2, HQn, HRn, HRon, HKn, HGn, HWn⟩
          case measure => first | (rw [hw]; simp only [intOf]; omega) | (simp only [intOf]; omega)
        · obtain rfl : i = ps.length := by omega
          rw [List.take_length] at HRe
          obtain ⟨Aw, cw, eW, hcw, hrw⟩ := Kd.R_reads HRi.out
          obtain ⟨nw, hnw⟩ : ∃ nw, nw = ([pickN g a b] ++ R.1).length := ⟨_, rfl⟩
          rw [← hnw] at eW hcw hrw
          subst eW
          have hrow := HFi.out.row
          obtain ⟨inner, hil, hrr⟩ := Kd.R_own hrow
          rcases hrr with ⟨_, h0⟩ | ⟨gr, cap, cur, rfl, hgb, hcb, hcap, hmax, hcs, hct⟩
          · have := HGi.out.2.1
            omega
          obtain ⟨nr, hnr⟩ : ∃ nr, nr = R.2.length := ⟨_, rfl⟩
          rw [← hnr] at hrow hcap hil hct
          have hcs' : cur.size = cap * 3 := hcs
          have hln : l.length < nr := by have := HGi.out.2.1; omega
          have x1 := drew_cell ((blk_cell HFi.out.blk 1).trans rfl)
          rw [← hnr] at x1
          have f0z := drew_cell ((blk_cell HQi.out 0).trans rfl)
          have f1z := drew_cell ((blk_cell HQi.out 1).trans rfl)
          have f2z := drew_cell ((blk_cell HQi.out 2).trans rfl)
          have hcd := blk_drew hcb
          obtain ⟨c0_, c1_, c2_, s0, t0, s1, t1, s2, t2⟩ := storeO3 (o := l.length * 3) hcd (by omega) (.int .i64 (a : Int)) (.int .i64 (b : Int))
          have HFx := Aside0.mk (HFi.out.mono (ok' := ok) (fun k h _ => h.1)).drew
          have HKx := Aside0.mk (HKi.out.trans (Kp.below (below_drew (Below.refl X.heap.size X))))
          have HRx := Aside0.mk (Kd.R_below HRi.out (below_drew (Below.refl X.heap.size X)))
          have HCur := Aside0.mk hcd
          have HCs := Aside0.mk (And.intro hcs' hcap)
          have HLn := Aside0.mk hln
          have HNr := Aside0.mk hnr
          have HNw := Aside0.mk hnw
          have e3 : ((l.length : Int) < (nr : Int)) = True := eq_true (by omega)
          clear hrow hil hgb hcb hcap hmax hcs hct hcs' hln hnr hcw hrw hnw hcd
          go_wp2_with (fail)
          refine start_ (n := 9) (S := fun w' => w'.cell? ⟨xb, 1, none⟩ = some (.slice (some ⟨gr, 0, none⟩) nr cap) ∧ w'.cell? ⟨q8, 0, none⟩ = some (.int .i64 (a : Int)) ∧ w'.cell? ⟨q8, 1, none⟩ = some (.int .i64 (b : Int)) ∧ w'.cell? ⟨q8, 2, none⟩ = some (.slice Aw nw cw)) (ds := [8]) #[φ,φ,φ,φ,φ,φ,φ,φ,φ] (by kernel_rfl) rfl rfl ⟨x1, f0z, f1z, f2z⟩ (fun hHeld => ?_)
          generalize X.drew = X1 at x1 f0z f1z f2z s0 t0 s1 t1 s2 t2 HFx HKx HRx HCur hHeld ⊢
          refine with_tabW fi18.tab18 fi18.bits18 (fun HT_ HW_ => ?_)
          refine pure_ (i := 0) (N := some 102) (v := ?_) (a' := ?_) #[τ,φ,φ,φ,φ,φ,φ,φ,φ] rfl rfl (any_of HT_.out (by kernel_rfl)) (fun _ _ _ h => h) (Or.inl ⟨by rfl, ?_⟩) ?_ ?_
          rotate_left; (intro w'; go_simp; with_reducible rfl); rotate_left; (simp only [Act.put, zz1, zz2, zz3, i64_w, i32_w]; rfl)
          refine pure_ (i := 1) (N := some 103) (v := ?_) (a' := ?_) #[τ,τ,φ,φ,φ,φ,φ,φ,φ] rfl rfl (any_of HT_.out (by kernel_rfl)) (fun _ _ _ h => h) (Or.inl ⟨by rfl, ?_⟩) ?_ ?_
          rotate_left; (intro w'; go_simp; with_reducible rfl); rotate_left; (simp only [Act.put, zz1, zz2, zz3, i64_w, i32_w]; rfl)
          refine pure_ (i := 2) (N := some 104) (v := ?_) (a' := ?_) #[τ,τ,τ,φ,φ,φ,φ,φ,φ] rfl rfl (any_of HT_.out (by kernel_rfl)) (fun _ _ _ h => h) (Or.inl ⟨by rfl, ?_⟩) ?_ ?_
          rotate_left; (intro w'; go_simp; with_reducible rfl); rotate_left; (simp only [Act.put, zz1, zz2, zz3, i64_w, i32_w]; rfl)
          refine pure_ (i := 3) (N := some 105) (v := ?_) (a' := ?_) #[τ,τ,τ,τ,φ,φ,φ,φ,φ] rfl rfl (any_of HT_.out (by kernel_rfl)) (fun _ _ _ h => h) (Or.inl ⟨by rfl, ?_⟩) ?_ ?_
          rotate_left; (intro w'; go_simp; with_reducible rfl); rotate_left; (simp only [Act.put, zz1, zz2, zz3, i64_w, i32_w]; rfl)
          refine pure_ (i := 5) (N := some 107) (v := ?_) (a' := ?_) #[τ,τ,τ,τ,φ,τ,φ,φ,φ] rfl rfl (any_of HT_.out (by kernel_rfl)) (fun _ _ _ h => h) (Or.inl ⟨by rfl, ?_⟩) ?_ ?_
          rotate_left; (intro w'; go_simp; with_reducible rfl); rotate_left; (simp only [Act.put, zz1, zz2, zz3, i64_w, i32_w]; rfl)
          refine take_ (i := 4) (N := some 106) (v := ?_) (a' := ?_) #[τ,τ,τ,τ,τ,τ,φ,φ,φ] rfl rfl (take_ofW HT_.out HW_.out (by kernel_rfl)) (fun _ _ _ h => h) (Or.inl ⟨by rfl, ?_⟩) hHeld ?_ ?_
          rotate_left; (rintro w' ⟨s0, s1, s2, s3⟩; go_simp; with_reducible rfl); rotate_left; (simp only [Act.put, zz1, zz2, zz3, i64_w, i32_w]; rfl)
          refine take_ (i := 6) (N := some 108) (v := ?_) (a' := ?_) #[τ,τ,τ,τ,τ,τ,τ,φ,φ] rfl rfl (take_ofW HT_.out HW_.out (by kernel_rfl)) (fun _ _ _ h => h) (Or.inl ⟨by rfl, ?_⟩) hHeld ?_ ?_
          rotate_left; (rintro w' ⟨s0, s1, s2, s3⟩; go_simp; with_reducible rfl); rotate_left; (simp only [Act.put, zz1, zz2, zz3, i64_w, i32_w]; rfl)
          refine pure_ (i := 7) (N := some 109) (v := ?_) (a' := ?_) #[τ,τ,τ,τ,τ,τ,τ,τ,φ] rfl rfl (any_of HT_.out (by kernel_rfl)) (fun _ _ _ h => h) (Or.inl ⟨by rfl, ?_⟩) ?_ ?_
          rotate_left; (intro w'; go_simp; with_reducible rfl); rotate_left; (simp only [Act.put, zz1, zz2, zz3, i64_w, i32_w]; rfl)
          refine last_ (i := 8) (N := none) #[τ,τ,τ,τ,τ,τ,τ,τ,τ] rfl rfl (one_of HT_.out (by kernel_rfl)) (by decide) (fun K hK => ?_)
          refine skip_ (w1 := ?_) (by rfl) rfl ?_ ?_
          rotate_left
          · go_simp
            rfl
          refine hK.out _ _ ?_
          clear hK K
          refine done_ (done_of HT_.out (by kernel_rfl)) ?_
          clear s0 t0 s1 t1 s2 t2 x1 f0z f1z f2z hHeld
          have HO := HFx.out.row
          have hokg : ok gr := HO.1 gr rfl
          have hgm := HOk.out gr hokg
          have hc3 : ((cur.toList.drop (l.length * 3)).take 3).length = 3 := by have := HCs.out; have := HLn.out; rw [List.length_take, List.length_drop, Array.length_toList]; omega
          have hM : kO.M X1 w0.heap.size (fun k => ok k ∧ k ≠ gr) ⟨a, b, (mk0 (pickN g) g ((a : Int), (b : Int))).f2 ++ R.1⟩ (((cur.toList.drop (l.length * 3)).take 3).take 0 ++ [.int .i64 (a : Int), .int .i64 (b : Int), .slice Aw nw cw] ++ ((cur.toList.drop (l.length * 3)).take 3).drop (0 + 3)) := by
            rw [List.take_zero, List.drop_eq_nil_of_le (by rw [hc3]; omega), List.nil_append, List.append_nil]
            refine .inl ⟨?_, P.k37_mkM X1 w0.heap.size _ _ ?_⟩
            · rw [← HWs.out]; simp
            · rw [← HWs.out]
              exact Kd.R_lower (Kd.R_mono (Kd.R_bound (R_apart HRx.out HO (by decide))) (fun k hk => ⟨HFr.out k hk.2.1, fun e => hk.1.2 (by rw [e]; rfl)⟩)) HW0s.out
          have hlr : (l.length : Int) < (R.2.length : Int) := by have := HLn.out; have := HNr.out; omega
          have hseg := Kd.R_seg HO (l.length : Int) (by omega) (by have := HLn.out; have := HNr.out; omega) (c := (cur.toList.drop (l.length * 3)).take 3) (seg := [.int .i64 (a : Int), .int .i64 (b : Int), .slice Aw nw cw]) (j := 0) hc3 (fun j u hu => by
            have hj : j < 3 := by have h1 := (List.getElem?_eq_some_iff.1 hu).1; omega
            rw [List.getElem?_take_of_lt hj, List.getElem?_drop, Array.getElem?_toList] at hu
            show X1.cell? ⟨gr, l.length * 3 + j, none⟩ = some u
            rw [blk_cell HCur.out, hu]) (by show 0 + 3 ≤ 3; omega) hM (fun k hk => hk)
          have hE : X1.setCells gr ((l.length : Int).toNat * kO.sz + 0) [.int .i64 (a : Int), .int .i64 (b : Int), .slice Aw nw cw] = ((X1.setCell ⟨gr, l.length * 3, none⟩ (.int .i64 (a : Int))).setCell ⟨gr, l.length * 3 + 1, none⟩ (.int .i64 (b : Int))).setCell ⟨gr, l.length * 3 + 2, none⟩ (.slice Aw nw cw) := rfl
          rw [hE] at hseg
          obtain ⟨hrf, hgf⟩ := hseg
          obtain ⟨more, hmore⟩ := (findL_ok (b := l.length + 1) (F := findP (pickN g) g n) (fun p l hp hg hb => findP_ok HC.out n p l hp hg (by have := HFuel.out; omega)) ps (l ++ [openF ((a : Int), (b : Int))]) HPr.out (HGd.out.snoc HP.out (idxP_none HI.out)) (by simp)).ext
          rw [← HRe.out] at hmore
          have hpairs : ((R.2.set l.length ⟨a, b, (mk0 (pickN g) g ((a : Int), (b : Int))).f2 ++ R.1⟩).map fun f => (f.f0, f.f1)) = R.2.map fun f => (f.f0, f.f1) := by
            rw [hmore, set_mid]
            simp [openF]
          have hfr : fr = ((l.length : Int), R.2.set l.length ⟨a, b, (mk0 (pickN g) g ((a : Int), (b : Int))).f2 ++ R.1⟩) := by
            rw [HFP.out]
            unfold findP
            rw [HI.out]
            dsimp only
            rw [← HPs.out, ← HRe.out]
          have HFE : Aside0 (FdS w0 (((X1.setCell ⟨gr, l.length * 3, none⟩ (.int .i64 (a : Int))).setCell ⟨gr, l.length * 3 + 1, none⟩ (.int .i64 (b : Int))).setCell ⟨gr, l.length * 3 + 2, none⟩ (.slice Aw nw cw)) xb m (some ad) c0 g (.slice (some ⟨gr, 0, none⟩) R.2.length cap) fr.2 (fm fr.2) ok) := ⟨by
            rw [hfr]
            exact ⟨HFx.out.old.grown hgf HFx.out.old.size (fun k e => by cases e; exact Kd.R_base HO gr rfl), HFx.out.hx, HFx.out.hm, HFx.out.ne, blk_grown HFx.out.blk hgf (fun e => hgm.1 (by cases e; rfl)), by rw [fm_pairs hpairs]; exact HFx.out.mp.kept hgf (fun e => hgm.2 (by cases e; rfl)), hrf, HFx.out.gr, HFx.out.gc⟩⟩
          have HKE := Aside0.mk (HKx.out.trans (show Kp X1 _ xb m (.slice (some ⟨gr, 0, none⟩) R.2.length cap) (.slice (some ⟨gr, 0, none⟩) R.2.length cap) from ⟨hgf.size, fun k hk _ _ h => hgf.block k hk (fun e => h (by rw [e]; rfl)), .inl rfl⟩))
          have HFR := Aside0.mk (show fr.1 = (l.length : Int) by rw [hfr])
          clear hrf hgf hmore hpairs hfr hlr hE hM hc3 hgm hokg HO
          go_wp2_with (fail)
          go_ret
          rw [HFR.out]
          exact ⟨_, rfl, HFE.out, HKE.out⟩
end Go.Proofs.YthkoockcfnbpiaaDoor.W12
