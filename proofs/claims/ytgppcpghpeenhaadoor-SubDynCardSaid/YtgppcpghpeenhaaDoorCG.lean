/- canon.compare. -/
import Derived.Test.YtgppcpghpeenhaaDoorProg
import Derived.Test.YtgppcpghpeenhaaDoorWWords
import Derived.Test.YtgppcpghpeenhaaDoorWLast
import Derived.Test.YtgppcpghpeenhaaDoorCF
namespace Go.Proofs.YtgppcpghpeenhaaDoor.CG
open Go.RowKit Go.Proofs.YtgppcpghpeenhaaDoorW.PrintWords Go.Proofs.YtgppcpghpeenhaaDoorW.PrintLast Go.Proofs.YtgppcpghpeenhaaDoorW.PrintMore Go.Proofs.YtgppcpghpeenhaaDoor L1 G1 G2 N1 N2 N3 N4 N5 CA CB CC CD CE CF
set_option linter.unusedVariables false
set_option linter.unusedSimpArgs false
/-- What a form in memory leads to. -/
structure FmC (w : World) (f : Fm) (Ak : Option Addr) (ck : Nat) (As : Option Addr) (cs : Nat) : Prop where
  kc : f.node.f3.length ≤ ck
  ks : Kd.C Kd.string w Ak f.node.f3.length f.node.f3
  sc : f.sets.length ≤ cs
  ss : Kd.C KL w As f.sets.length f.sets
  kl : f.node.f3.length ≤ 1000000000
  sl : f.sets.length ≤ 1000000000
  se : ∀ l ∈ f.sets, l.length ≤ 1000000000
theorem FmC.below {w w' : World} {f : Fm} {Ak : Option Addr} {ck : Nat} {As : Option Addr} {cs : Nat} (h : FmC w f Ak ck As cs) (hb : Below w.heap.size w w') : FmC w' f Ak ck As cs :=
  ⟨h.kc, Kd.C_below h.ks hb, h.sc, Kd.C_below h.ss hb, h.kl, h.sl, h.se⟩
theorem cmpI_calls (a b : Int) (w : World) : Calls Tryd.prog 50 #[.int .i64 a, .int .i64 b] w fun e w' => e = .returned (.int .i64 (cmpI a b)) ∧ Drawn0 w w' := cmp_Compare_int.calls a b _ w (cmpI_f a b)
theorem cmpS_calls (a b : ByteArray) (w : World) : Calls Tryd.prog 43 #[.string a, .string b] w fun e w' => e = .returned (.int .i64 (cmpS a b)) ∧ Drawn0 w w' := cmp_Compare_string.calls a b _ w (cmpS_f a b)
/-- The six that are compared ahead of the ranks. -/
def six (x y : Fm) : List Int := [cmpI x.rank y.rank, cmpI x.node.f0 y.node.f0, cmpI x.node.f1 y.node.f1, cmpS x.node.f2 y.node.f2, cmpI (x.node.f3.length : Int) (y.node.f3.length : Int), cmpL cmpS x.node.f3 y.node.f3]
theorem cmpF_six (x y : Fm) : cmpF x y = if orP (six x y) = 0 then cmpL (cmpL cmpI) x.sets y.sets else orP (six x y) := by
  unfold cmpF six orP orP orP orP orP orP orP
  repeat' split
  all_goals first | rfl | (exfalso; simp_all; done) | simp_all
theorem lit_ints (W : World) (xs : List Int) (hm : xs.length ≤ maxLen) : Kd.R (Kd.int .i64) 3 (W.alloc (.cells (xs.map (Value.int .i64)).toArray 3)) W.heap.size (fun _ => True) (.slice (some ⟨W.heap.size, 0, none⟩) xs.length xs.length) xs := by
  refine Kd.R_of_own ?_ (fun _ _ => trivial)
  have h := World.ownsRow_lit (base := W.heap.size) (e := 3) (size := 1) W (xs.map (Value.int .i64)).toArray xs.length (Nat.le_refl _) hm (by simp)
  simpa [encs] using h
theorem drewn_cell {w : World} {a : Addr} {v : Value} {m : Nat} (h : w.cell? a = some v) : (w.drewN m).cell? a = some v := h
theorem or_six (x y : Fm) (A : Option Addr) (w : World) (h : Kd.C (Kd.int .i64) w A (six x y).length (six x y)) : Calls Tryd.prog 49 #[.slice A 6 6] w fun e w' => e = .returned (.int .i64 (orP (six x y))) ∧ Drawn0 w w' :=
  cmp_Or_int.calls 7 A 6 (six x y) _ w h (Nat.le_refl 6) (or_f (l := six x y) (show 6 ≤ 1000000000 by decide))
def cg1.T1 : Bool × List (List Nat × List Nat) := (true, [([], []), ([0], [0]), ([], []), ([2], [2]), ([1, 3], [1, 3]), ([], []), ([5], [5]), ([6], [6]), ([], []), ([8], [8]), ([9], [9]), ([7, 10, 4], [7, 10]), ([], []), ([12], [12]), ([13], [13]), ([], []), ([15], [15]), ([16], [16]), ([14, 17, 11], [14, 17]), ([], []), ([19], [19]), ([20], [20]), ([], []), ([22], [22]), ([23], [23]), ([21, 24, 18], [21, 24]), ([], []), ([26], [26]), ([27], [27]), ([28], [28]), ([], []), ([30], [30]), ([31], [31]), ([32], [32]), ([29, 33, 25], [29, 33]), ([], []), ([35], [35]), ([36], [36]), ([], []), ([38], [38]), ([39], [39]), ([37, 40, 34], [37, 40]), ([4, 11, 18, 25, 34, 41], [4, 11, 18, 25, 34, 41]), ([42, 41], [42]), ([43, 43, 0, 1, 2, 3, 4, 5, 6, 7, 8, 9, 10, 11, 12, 13, 14, 15, 16, 17, 18, 19, 20, 21, 22, 23, 24, 25, 26, 27, 28, 29, 30, 31, 32, 33, 34, 35, 36, 37, 38, 39, 40, 41, 42, 43], [43])])
def cg1.B1 : List Nat := [0, 1, 0, 4, 15, 0, 32, 96, 0, 256, 768, 2047, 0, 4096, 12288, 0, 32768, 98304, 262143, 0, 524288, 1572864, 0, 4194304, 12582912, 33554431, 0, 67108864, 201326592, 469762048, 0, 1073741824, 3221225472, 7516192768, 17179869183, 0, 34359738368, 103079215104, 0, 274877906944, 824633720832, 2199023255551, 4398046511103, 8796093022207, 17592186044415]
theorem cg1.tab1 : rtab .any (opsOf Tryd.f31 1) = cg1.T1 := by kernel_rfl
theorem cg1.bits1 : waitsOk cg1.T1.2 cg1.B1 = true := by kernel_rfl
set_option maxHeartbeats 8000000 in
set_option maxRecDepth 100000 in
theorem compare_calls (x y : Fm) (Ax1 Ax2 Ax3 Ay1 Ay2 Ay3 : Option Addr) (cx1 nx2 cx2 cx3 cy1 ny2 cy2 cy3 : Nat) (w : World) (hx : FmC w x Ax1 cx1 Ax3 cx3) (hy : FmC w y Ay1 cy1 Ay3 cy3) :
    Calls Tryd.prog 31 #[.agg #[.int .i64 x.node.f0, .int .i64 x.node.f1, .string x.node.f2, .slice Ax1 x.node.f3.length cx1, .slice Ax2 nx2 cx2, .int .i64 x.rank, .slice Ax3 x.sets.length cx3], .agg #[.int .i64 y.node.f0, .int .i64 y.node.f1, .string y.node.f2, .slice Ay1 y.node.f3.length cy1, .slice Ay2 ny2 cy2, .int .i64 y.rank, .slice Ay3 y.sets.length cy3]] w fun e w' => e = .returned (.int .i64 (cmpF x y)) ∧ Below w.heap.size w w' := by
  have hbx := blk_below (heap_alloc_new w (.cells #[.int .i64 x.node.f0, .int .i64 x.node.f1, .string x.node.f2, .slice Ax1 x.node.f3.length cx1, .slice Ax2 nx2 cx2, .int .i64 x.rank, .slice Ax3 x.sets.length cx3] 69)) (below_alloc (Below.refl _ _) (.cells #[.int .i64 y.node.f0, .int .i64 y.node.f1, .string y.node.f2, .slice Ay1 y.node.f3.length cy1, .slice Ay2 ny2 cy2, .int .i64 y.rank, .slice Ay3 y.sets.length cy3] 69))
  have hby := heap_alloc_new (w.alloc (.cells #[.int .i64 x.node.f0, .int .i64 x.node.f1, .string x.node.f2, .slice Ax1 x.node.f3.length cx1, .slice Ax2 nx2 cx2, .int .i64 x.rank, .slice Ax3 x.sets.length cx3] 69)) (.cells #[.int .i64 y.node.f0, .int .i64 y.node.f1, .string y.node.f2, .slice Ay1 y.node.f3.length cy1, .slice Ay2 ny2 cy2, .int .i64 y.rank, .slice Ay3 y.sets.length cy3] 69)
  have HB1 := Aside0.mk (below_alloc (below_alloc (Below.refl w.heap.size w) (.cells #[.int .i64 x.node.f0, .int .i64 x.node.f1, .string x.node.f2, .slice Ax1 x.node.f3.length cx1, .slice Ax2 nx2 cx2, .int .i64 x.rank, .slice Ax3 x.sets.length cx3] 69)) (.cells #[.int .i64 y.node.f0, .int .i64 y.node.f1, .string y.node.f2, .slice Ay1 y.node.f3.length cy1, .slice Ay2 ny2 cy2, .int .i64 y.rank, .slice Ay3 y.sets.length cy3] 69))
  rw [show (w.alloc (.cells #[.int .i64 x.node.f0, .int .i64 x.node.f1, .string x.node.f2, .slice Ax1 x.node.f3.length cx1, .slice Ax2 nx2 cx2, .int .i64 x.rank, .slice Ax3 x.sets.length cx3] 69)).heap.size = w.heap.size + 1 from Array.size_push ..] at hby
  have a0 : ((w.alloc (.cells #[.int .i64 x.node.f0, .int .i64 x.node.f1, .string x.node.f2, .slice Ax1 x.node.f3.length cx1, .slice Ax2 nx2 cx2, .int .i64 x.rank, .slice Ax3 x.sets.length cx3] 69)).alloc (.cells #[.int .i64 y.node.f0, .int .i64 y.node.f1, .string y.node.f2, .slice Ay1 y.node.f3.length cy1, .slice Ay2 ny2 cy2, .int .i64 y.rank, .slice Ay3 y.sets.length cy3] 69)).cell? ⟨w.heap.size, 0, none⟩ = some (.int .i64 x.node.f0) := (blk_cell hbx 0).trans rfl
  have a1 : ((w.alloc (.cells #[.int .i64 x.node.f0, .int .i64 x.node.f1, .string x.node.f2, .slice Ax1 x.node.f3.length cx1, .slice Ax2 nx2 cx2, .int .i64 x.rank, .slice Ax3 x.sets.length cx3] 69)).alloc (.cells #[.int .i64 y.node.f0, .int .i64 y.node.f1, .string y.node.f2, .slice Ay1 y.node.f3.length cy1, .slice Ay2 ny2 cy2, .int .i64 y.rank, .slice Ay3 y.sets.length cy3] 69)).cell? ⟨w.heap.size, 1, none⟩ = some (.int .i64 x.node.f1) := (blk_cell hbx 1).trans rfl
  have a2 : ((w.alloc (.cells #[.int .i64 x.node.f0, .int .i64 x.node.f1, .string x.node.f2, .slice Ax1 x.node.f3.length cx1, .slice Ax2 nx2 cx2, .int .i64 x.rank, .slice Ax3 x.sets.length cx3] 69)).alloc (.cells #[.int .i64 y.node.f0, .int .i64 y.node.f1, .string y.node.f2, .slice Ay1 y.node.f3.length cy1, .slice Ay2 ny2 cy2, .int .i64 y.rank, .slice Ay3 y.sets.length cy3] 69)).cell? ⟨w.heap.size, 2, none⟩ = some (.string x.node.f2) := (blk_cell hbx 2).trans rfl
  have a3 : ((w.alloc (.cells #[.int .i64 x.node.f0, .int .i64 x.node.f1, .string x.node.f2, .slice Ax1 x.node.f3.length cx1, .slice Ax2 nx2 cx2, .int .i64 x.rank, .slice Ax3 x.sets.length cx3] 69)).alloc (.cells #[.int .i64 y.node.f0, .int .i64 y.node.f1, .string y.node.f2, .slice Ay1 y.node.f3.length cy1, .slice Ay2 ny2 cy2, .int .i64 y.rank, .slice Ay3 y.sets.length cy3] 69)).cell? ⟨w.heap.size, 3, none⟩ = some (.slice Ax1 x.node.f3.length cx1) := (blk_cell hbx 3).trans rfl
  have a5 : ((w.alloc (.cells #[.int .i64 x.node.f0, .int .i64 x.node.f1, .string x.node.f2, .slice Ax1 x.node.f3.length cx1, .slice Ax2 nx2 cx2, .int .i64 x.rank, .slice Ax3 x.sets.length cx3] 69)).alloc (.cells #[.int .i64 y.node.f0, .int .i64 y.node.f1, .string y.node.f2, .slice Ay1 y.node.f3.length cy1, .slice Ay2 ny2 cy2, .int .i64 y.rank, .slice Ay3 y.sets.length cy3] 69)).cell? ⟨w.heap.size, 5, none⟩ = some (.int .i64 x.rank) := (blk_cell hbx 5).trans rfl
  have b0 : ((w.alloc (.cells #[.int .i64 x.node.f0, .int .i64 x.node.f1, .string x.node.f2, .slice Ax1 x.node.f3.length cx1, .slice Ax2 nx2 cx2, .int .i64 x.rank, .slice Ax3 x.sets.length cx3] 69)).alloc (.cells #[.int .i64 y.node.f0, .int .i64 y.node.f1, .string y.node.f2, .slice Ay1 y.node.f3.length cy1, .slice Ay2 ny2 cy2, .int .i64 y.rank, .slice Ay3 y.sets.length cy3] 69)).cell? ⟨w.heap.size + 1, 0, none⟩ = some (.int .i64 y.node.f0) := (blk_cell hby 0).trans rfl
  have b1 : ((w.alloc (.cells #[.int .i64 x.node.f0, .int .i64 x.node.f1, .string x.node.f2, .slice Ax1 x.node.f3.length cx1, .slice Ax2 nx2 cx2, .int .i64 x.rank, .slice Ax3 x.sets.length cx3] 69)).alloc (.cells #[.int .i64 y.node.f0, .int .i64 y.node.f1, .string y.node.f2, .slice Ay1 y.node.f3.length cy1, .slice Ay2 ny2 cy2, .int .i64 y.rank, .slice Ay3 y.sets.length cy3] 69)).cell? ⟨w.heap.size + 1, 1, none⟩ = some (.int .i64 y.node.f1) := (blk_cell hby 1).trans rfl
  have b2 : ((w.alloc (.cells #[.int .i64 x.node.f0, .int .i64 x.node.f1, .string x.node.f2, .slice Ax1 x.node.f3.length cx1, .slice Ax2 nx2 cx2, .int .i64 x.rank, .slice Ax3 x.sets.length cx3] 69)).alloc (.cells #[.int .i64 y.node.f0, .int .i64 y.node.f1, .string y.node.f2, .slice Ay1 y.node.f3.length cy1, .slice Ay2 ny2 cy2, .int .i64 y.rank, .slice Ay3 y.sets.length cy3] 69)).cell? ⟨w.heap.size + 1, 2, none⟩ = some (.string y.node.f2) := (blk_cell hby 2).trans rfl
  have b3 : ((w.alloc (.cells #[.int .i64 x.node.f0, .int .i64 x.node.f1, .string x.node.f2, .slice Ax1 x.node.f3.length cx1, .slice Ax2 nx2 cx2, .int .i64 x.rank, .slice Ax3 x.sets.length cx3] 69)).alloc (.cells #[.int .i64 y.node.f0, .int .i64 y.node.f1, .string y.node.f2, .slice Ay1 y.node.f3.length cy1, .slice Ay2 ny2 cy2, .int .i64 y.rank, .slice Ay3 y.sets.length cy3] 69)).cell? ⟨w.heap.size + 1, 3, none⟩ = some (.slice Ay1 y.node.f3.length cy1) := (blk_cell hby 3).trans rfl
  have b5 : ((w.alloc (.cells #[.int .i64 x.node.f0, .int .i64 x.node.f1, .string x.node.f2, .slice Ax1 x.node.f3.length cx1, .slice Ax2 nx2 cx2, .int .i64 x.rank, .slice Ax3 x.sets.length cx3] 69)).alloc (.cells #[.int .i64 y.node.f0, .int .i64 y.node.f1, .string y.node.f2, .slice Ay1 y.node.f3.length cy1, .slice Ay2 ny2 cy2, .int .i64 y.rank, .slice Ay3 y.sets.length cy3] 69)).cell? ⟨w.heap.size + 1, 5, none⟩ = some (.int .i64 y.rank) := (blk_cell hby 5).trans rfl
  have a6 : ((w.alloc (.cells #[.int .i64 x.node.f0, .int .i64 x.node.f1, .string x.node.f2, .slice Ax1 x.node.f3.length cx1, .slice Ax2 nx2 cx2, .int .i64 x.rank, .slice Ax3 x.sets.length cx3] 69)).alloc (.cells #[.int .i64 y.node.f0, .int .i64 y.node.f1, .string y.node.f2, .slice Ay1 y.node.f3.length cy1, .slice Ay2 ny2 cy2, .int .i64 y.rank, .slice Ay3 y.sets.length cy3] 69)).cell? ⟨w.heap.size, 6, none⟩ = some (.slice Ax3 x.sets.length cx3) := (blk_cell hbx 6).trans rfl
  have b6 : ((w.alloc (.cells #[.int .i64 x.node.f0, .int .i64 x.node.f1, .string x.node.f2, .slice Ax1 x.node.f3.length cx1, .slice Ax2 nx2 cx2, .int .i64 x.rank, .slice Ax3 x.sets.length cx3] 69)).alloc (.cells #[.int .i64 y.node.f0, .int .i64 y.node.f1, .string y.node.f2, .slice Ay1 y.node.f3.length cy1, .slice Ay2 ny2 cy2, .int .i64 y.rank, .slice Ay3 y.sets.length cy3] 69)).cell? ⟨w.heap.size + 1, 6, none⟩ = some (.slice Ay3 y.sets.length cy3) := (blk_cell hby 6).trans rfl
  have HX := Aside0.mk (hx.below HB1.out)
  have HY := Aside0.mk (hy.below HB1.out)
  clear hbx hby hx hy
  go_enter Tryd.func31, Tryd.ntmps31
  go_wp2_with (fail)
  generalize ((w.alloc (.cells #[.int .i64 x.node.f0, .int .i64 x.node.f1, .string x.node.f2, .slice Ax1 x.node.f3.length cx1, .slice Ax2 nx2 cx2, .int .i64 x.rank, .slice Ax3 x.sets.length cx3] 69)).alloc (.cells #[.int .i64 y.node.f0, .int .i64 y.node.f1, .string y.node.f2, .slice Ay1 y.node.f3.length cy1, .slice Ay2 ny2 cy2, .int .i64 y.rank, .slice Ay3 y.sets.length cy3] 69)) = W1 at a0 a1 a2 a3 a5 b0 b1 b2 b3 b5 a6 b6 HB1 HX HY ⊢
  refine start_ (n := 45) (S := fun w' => w'.cell? ⟨w.heap.size, 0, none⟩ = some (.int .i64 x.node.f0) ∧ w'.cell? ⟨w.heap.size, 1, none⟩ = some (.int .i64 x.node.f1) ∧ w'.cell? ⟨w.heap.size, 2, none⟩ = some (.string x.node.f2) ∧ w'.cell? ⟨w.heap.size, 3, none⟩ = some (.slice Ax1 x.node.f3.length cx1) ∧ w'.cell? ⟨w.heap.size, 5, none⟩ = some (.int .i64 x.rank) ∧ w'.cell? ⟨w.heap.size + 1, 0, none⟩ = some (.int .i64 y.node.f0) ∧ w'.cell? ⟨w.heap.size + 1, 1, none⟩ = some (.int .i64 y.node.f1) ∧ w'.cell? ⟨w.heap.size + 1, 2, none⟩ = some (.string y.node.f2) ∧ w'.cell? ⟨w.heap.size + 1, 3, none⟩ = some (.slice Ay1 y.node.f3.length cy1) ∧ w'.cell? ⟨w.heap.size + 1, 5, none⟩ = some (.int .i64 y.rank)) (ds := []) #[φ,φ,φ,φ,φ,φ,φ,φ,φ,φ,φ,φ,φ,φ,φ,φ,φ,φ,φ,φ,φ,φ,φ,φ,φ,φ,φ,φ,φ,φ,φ,φ,φ,φ,φ,φ,φ,φ,φ,φ,φ,φ,φ,φ,φ] (by kernel_rfl) rfl rfl ⟨a0, a1, a2, a3, a5, b0, b1, b2, b3, b5⟩ (fun hHeld => ?_)
  refine with_tabW cg1.tab1 cg1.bits1 (fun HT_ HW_ => ?_)
  refine pure_ (i := 0) (N := some 6) (v := ?_) (a' := ?_) #[τ,φ,φ,φ,φ,φ,φ,φ,φ,φ,φ,φ,φ,φ,φ,φ,φ,φ,φ,φ,φ,φ,φ,φ,φ,φ,φ,φ,φ,φ,φ,φ,φ,φ,φ,φ,φ,φ,φ,φ,φ,φ,φ,φ,φ] rfl rfl (any_of HT_.out (by kernel_rfl)) (fun _ _ _ h => h) (Or.inl ⟨by rfl, ?_⟩) ?_ ?_
  rotate_left; (intro w'; go_simp; with_reducible rfl); rotate_left; (simp only [Act.put, zz1, zz2, zz3, i64_w, i32_w]; rfl)
  refine pure_ (i := 2) (N := some 8) (v := ?_) (a' := ?_) #[τ,φ,τ,φ,φ,φ,φ,φ,φ,φ,φ,φ,φ,φ,φ,φ,φ,φ,φ,φ,φ,φ,φ,φ,φ,φ,φ,φ,φ,φ,φ,φ,φ,φ,φ,φ,φ,φ,φ,φ,φ,φ,φ,φ,φ] rfl rfl (any_of HT_.out (by kernel_rfl)) (fun _ _ _ h => h) (Or.inl ⟨by rfl, ?_⟩) ?_ ?_
  rotate_left; (intro w'; go_simp; with_reducible rfl); rotate_left; (simp only [Act.put, zz1, zz2, zz3, i64_w, i32_w]; rfl)
  refine pure_ (i := 5) (N := some 11) (v := ?_) (a' := ?_) #[τ,φ,τ,φ,φ,τ,φ,φ,φ,φ,φ,φ,φ,φ,φ,φ,φ,φ,φ,φ,φ,φ,φ,φ,φ,φ,φ,φ,φ,φ,φ,φ,φ,φ,φ,φ,φ,φ,φ,φ,φ,φ,φ,φ,φ] rfl rfl (any_of HT_.out (by kernel_rfl)) (fun _ _ _ h => h) (Or.inl ⟨by rfl, ?_⟩) ?_ ?_
  rotate_left; (intro w'; go_simp; with_reducible rfl); rotate_left; (simp only [Act.put, zz1, zz2, zz3, i64_w, i32_w]; rfl)
  refine pure_ (i := 6) (N := some 12) (v := ?_) (a' := ?_) #[τ,φ,τ,φ,φ,τ,τ,φ,φ,φ,φ,φ,φ,φ,φ,φ,φ,φ,φ,φ,φ,φ,φ,φ,φ,φ,φ,φ,φ,φ,φ,φ,φ,φ,φ,φ,φ,φ,φ,φ,φ,φ,φ,φ,φ] rfl rfl (any_of HT_.out (by kernel_rfl)) (fun _ _ _ h => h) (Or.inl ⟨by rfl, ?_⟩) ?_ ?_
  rotate_left; (intro w'; go_simp; with_reducible rfl); rotate_left; (simp only [Act.put, zz1, zz2, zz3, i64_w, i32_w]; rfl)
  refine pure_ (i := 8) (N := some 14) (v := ?_) (a' := ?_) #[τ,φ,τ,φ,φ,τ,τ,φ,τ,φ,φ,φ,φ,φ,φ,φ,φ,φ,φ,φ,φ,φ,φ,φ,φ,φ,φ,φ,φ,φ,φ,φ,φ,φ,φ,φ,φ,φ,φ,φ,φ,φ,φ,φ,φ] rfl rfl (any_of HT_.out (by kernel_rfl)) (fun _ _ _ h => h) (Or.inl ⟨by rfl, ?_⟩) ?_ ?_
  rotate_left; (intro w'; go_simp; with_reducible rfl); rotate_left; (simp only [Act.put, zz1, zz2, zz3, i64_w, i32_w]; rfl)
  refine pure_ (i := 9) (N := some 15) (v := ?_) (a' := ?_) #[τ,φ,τ,φ,φ,τ,τ,φ,τ,τ,φ,φ,φ,φ,φ,φ,φ,φ,φ,φ,φ,φ,φ,φ,φ,φ,φ,φ,φ,φ,φ,φ,φ,φ,φ,φ,φ,φ,φ,φ,φ,φ,φ,φ,φ] rfl rfl (any_of HT_.out (by kernel_rfl)) (fun _ _ _ h => h) (Or.inl ⟨by rfl, ?_⟩) ?_ ?_
  rotate_left; (intro w'; go_simp; with_reducible rfl); rotate_left; (simp only [Act.put, zz1, zz2, zz3, i64_w, i32_w]; rfl)
  refine pure_ (i := 12) (N := some 18) (v := ?_) (a' := ?_) #[τ,φ,τ,φ,φ,τ,τ,φ,τ,τ,φ,φ,τ,φ,φ,φ,φ,φ,φ,φ,φ,φ,φ,φ,φ,φ,φ,φ,φ,φ,φ,φ,φ,φ,φ,φ,φ,φ,φ,φ,φ,φ,φ,φ,φ] rfl rfl (any_of HT_.out (by kernel_rfl)) (fun _ _ _ h => h) (Or.inl ⟨by rfl, ?_⟩) ?_ ?_
  rotate_left; (intro w'; go_simp; with_reducible rfl); rotate_left; (simp only [Act.put, zz1, zz2, zz3, i64_w, i32_w]; rfl)
  refine pure_ (i := 13) (N := some 19) (v := ?_) (a' := ?_) #[τ,φ,τ,φ,φ,τ,τ,φ,τ,τ,φ,φ,τ,τ,φ,φ,φ,φ,φ,φ,φ,φ,φ,φ,φ,φ,φ,φ,φ,φ,φ,φ,φ,φ,φ,φ,φ,φ,φ,φ,φ,φ,φ,φ,φ] rfl rfl (any_of HT_.out (by kernel_rfl)) (fun _ _ _ h => h) (Or.inl ⟨by rfl, ?_⟩) ?_ ?_
  rotate_left; (intro w'; go_simp; with_reducible rfl); rotate_left; (simp only [Act.put, zz1, zz2, zz3, i64_w, i32_w]; rfl)
  refine pure_ (i := 15) (N := some 21) (v := ?_) (a' := ?_) #[τ,φ,τ,φ,φ,τ,τ,φ,τ,τ,φ,φ,τ,τ,φ,τ,φ,φ,φ,φ,φ,φ,φ,φ,φ,φ,φ,φ,φ,φ,φ,φ,φ,φ,φ,φ,φ,φ,φ,φ,φ,φ,φ,φ,φ] rfl rfl (any_of HT_.out (by kernel_rfl)) (fun _ _ _ h => h) (Or.inl ⟨by rfl, ?_⟩) ?_ ?_
  rotate_left; (intro w'; go_simp; with_reducible rfl); rotate_left; (simp only [Act.put, zz1, zz2, zz3, i64_w, i32_w]; rfl)
  refine pure_ (i := 16) (N := some 22) (v := ?_) (a' := ?_) #[τ,φ,τ,φ,φ,τ,τ,φ,τ,τ,φ,φ,τ,τ,φ,τ,τ,φ,φ,φ,φ,φ,φ,φ,φ,φ,φ,φ,φ,φ,φ,φ,φ,φ,φ,φ,φ,φ,φ,φ,φ,φ,φ,φ,φ] rfl rfl (any_of HT_.out (by kernel_rfl)) (fun _ _ _ h => h) (Or.inl ⟨by rfl, ?_⟩) ?_ ?_
  rotate_left; (intro w'; go_simp; with_reducible rfl); rotate_left; (simp only [Act.put, zz1, zz2, zz3, i64_w, i32_w]; rfl)
  refine pure_ (i := 19) (N := some 25) (v := ?_) (a' := ?_) #[τ,φ,τ,φ,φ,τ,τ,φ,τ,τ,φ,φ,τ,τ,φ,τ,τ,φ,φ,τ,φ,φ,φ,φ,φ,φ,φ,φ,φ,φ,φ,φ,φ,φ,φ,φ,φ,φ,φ,φ,φ,φ,φ,φ,φ] rfl rfl (any_of HT_.out (by kernel_rfl)) (fun _ _ _ h => h) (Or.inl ⟨by rfl, ?_⟩) ?_ ?_
  rotate_left; (intro w'; go_simp; with_reducible rfl); rotate_left; (simp only [Act.put, zz1, zz2, zz3, i64_w, i32_w]; rfl)
  refine pure_ (i := 20) (N := some 26) (v := ?_) (a' := ?_) #[τ,φ,τ,φ,φ,τ,τ,φ,τ,τ,φ,φ,τ,τ,φ,τ,τ,φ,φ,τ,τ,φ,φ,φ,φ,φ,φ,φ,φ,φ,φ,φ,φ,φ,φ,φ,φ,φ,φ,φ,φ,φ,φ,φ,φ] rfl rfl (any_of HT_.out (by kernel_rfl)) (fun _ _ _ h => h) (Or.inl ⟨by rfl, ?_⟩) ?_ ?_
  rotate_left; (intro w'; go_simp; with_reducible rfl); rotate_left; (simp only [Act.put, zz1, zz2, zz3, i64_w, i32_w]; rfl)
  refine pure_ (i := 22) (N := some 28) (v := ?_) (a' := ?_) #[τ,φ,τ,φ,φ,τ,τ,φ,τ,τ,φ,φ,τ,τ,φ,τ,τ,φ,φ,τ,τ,φ,τ,φ,φ,φ,φ,φ,φ,φ,φ,φ,φ,φ,φ,φ,φ,φ,φ,φ,φ,φ,φ,φ,φ] rfl rfl (any_of HT_.out (by kernel_rfl)) (fun _ _ _ h => h) (Or.inl ⟨by rfl, ?_⟩) ?_ ?_
  rotate_left; (intro w'; go_simp; with_reducible rfl); rotate_left; (simp only [Act.put, zz1, zz2, zz3, i64_w, i32_w]; rfl)
  refine pure_ (i := 23) (N := some 29) (v := ?_) (a' := ?_) #[τ,φ,τ,φ,φ,τ,τ,φ,τ,τ,φ,φ,τ,τ,φ,τ,τ,φ,φ,τ,τ,φ,τ,τ,φ,φ,φ,φ,φ,φ,φ,φ,φ,φ,φ,φ,φ,φ,φ,φ,φ,φ,φ,φ,φ] rfl rfl (any_of HT_.out (by kernel_rfl)) (fun _ _ _ h => h) (Or.inl ⟨by rfl, ?_⟩) ?_ ?_
  rotate_left; (intro w'; go_simp; with_reducible rfl); rotate_left; (simp only [Act.put, zz1, zz2, zz3, i64_w, i32_w]; rfl)
  refine pure_ (i := 26) (N := some 32) (v := ?_) (a' := ?_) #[τ,φ,τ,φ,φ,τ,τ,φ,τ,τ,φ,φ,τ,τ,φ,τ,τ,φ,φ,τ,τ,φ,τ,τ,φ,φ,τ,φ,φ,φ,φ,φ,φ,φ,φ,φ,φ,φ,φ,φ,φ,φ,φ,φ,φ] rfl rfl (any_of HT_.out (by kernel_rfl)) (fun _ _ _ h => h) (Or.inl ⟨by rfl, ?_⟩) ?_ ?_
  rotate_left; (intro w'; go_simp; with_reducible rfl); rotate_left; (simp only [Act.put, zz1, zz2, zz3, i64_w, i32_w]; rfl)
  refine pure_ (i := 27) (N := some 33) (v := ?_) (a' := ?_) #[τ,φ,τ,φ,φ,τ,τ,φ,τ,τ,φ,φ,τ,τ,φ,τ,τ,φ,φ,τ,τ,φ,τ,τ,φ,φ,τ,τ,φ,φ,φ,φ,φ,φ,φ,φ,φ,φ,φ,φ,φ,φ,φ,φ,φ] rfl rfl (any_of HT_.out (by kernel_rfl)) (fun _ _ _ h => h) (Or.inl ⟨by rfl, ?_⟩) ?_ ?_
  rotate_left; (intro w'; go_simp; with_reducible rfl); rotate_left; (simp only [Act.put, zz1, zz2, zz3, i64_w, i32_w]; rfl)
  refine pure_ (i := 30) (N := some 36) (v := ?_) (a' := ?_) #[τ,φ,τ,φ,φ,τ,τ,φ,τ,τ,φ,φ,τ,τ,φ,τ,τ,φ,φ,τ,τ,φ,τ,τ,φ,φ,τ,τ,φ,φ,τ,φ,φ,φ,φ,φ,φ,φ,φ,φ,φ,φ,φ,φ,φ] rfl rfl (any_of HT_.out (by kernel_rfl)) (fun _ _ _ h => h) (Or.inl ⟨by rfl, ?_⟩) ?_ ?_
  rotate_left; (intro w'; go_simp; with_reducible rfl); rotate_left; (simp only [Act.put, zz1, zz2, zz3, i64_w, i32_w]; rfl)
  refine pure_ (i := 31) (N := some 37) (v := ?_) (a' := ?_) #[τ,φ,τ,φ,φ,τ,τ,φ,τ,τ,φ,φ,τ,τ,φ,τ,τ,φ,φ,τ,τ,φ,τ,τ,φ,φ,τ,τ,φ,φ,τ,τ,φ,φ,φ,φ,φ,φ,φ,φ,φ,φ,φ,φ,φ] rfl rfl (any_of HT_.out (by kernel_rfl)) (fun _ _ _ h => h) (Or.inl ⟨by rfl, ?_⟩) ?_ ?_
  rotate_left; (intro w'; go_simp; with_reducible rfl); rotate_left; (simp only [Act.put, zz1, zz2, zz3, i64_w, i32_w]; rfl)
  refine pure_ (i := 35) (N := some 41) (v := ?_) (a' := ?_) #[τ,φ,τ,φ,φ,τ,τ,φ,τ,τ,φ,φ,τ,τ,φ,τ,τ,φ,φ,τ,τ,φ,τ,τ,φ,φ,τ,τ,φ,φ,τ,τ,φ,φ,φ,τ,φ,φ,φ,φ,φ,φ,φ,φ,φ] rfl rfl (any_of HT_.out (by kernel_rfl)) (fun _ _ _ h => h) (Or.inl ⟨by rfl, ?_⟩) ?_ ?_
  rotate_left; (intro w'; go_simp; with_reducible rfl); rotate_left; (simp only [Act.put, zz1, zz2, zz3, i64_w, i32_w]; rfl)
  refine pure_ (i := 36) (N := some 42) (v := ?_) (a' := ?_) #[τ,φ,τ,φ,φ,τ,τ,φ,τ,τ,φ,φ,τ,τ,φ,τ,τ,φ,φ,τ,τ,φ,τ,τ,φ,φ,τ,τ,φ,φ,τ,τ,φ,φ,φ,τ,τ,φ,φ,φ,φ,φ,φ,φ,φ] rfl rfl (any_of HT_.out (by kernel_rfl)) (fun _ _ _ h => h) (Or.inl ⟨by rfl, ?_⟩) ?_ ?_
  rotate_left; (intro w'; go_simp; with_reducible rfl); rotate_left; (simp only [Act.put, zz1, zz2, zz3, i64_w, i32_w]; rfl)
  refine pure_ (i := 38) (N := some 44) (v := ?_) (a' := ?_) #[τ,φ,τ,φ,φ,τ,τ,φ,τ,τ,φ,φ,τ,τ,φ,τ,τ,φ,φ,τ,τ,φ,τ,τ,φ,φ,τ,τ,φ,φ,τ,τ,φ,φ,φ,τ,τ,φ,τ,φ,φ,φ,φ,φ,φ] rfl rfl (any_of HT_.out (by kernel_rfl)) (fun _ _ _ h => h) (Or.inl ⟨by rfl, ?_⟩) ?_ ?_
  rotate_left; (intro w'; go_simp; with_reducible rfl); rotate_left; (simp only [Act.put, zz1, zz2, zz3, i64_w, i32_w]; rfl)
  refine pure_ (i := 39) (N := some 45) (v := ?_) (a' := ?_) #[τ,φ,τ,φ,φ,τ,τ,φ,τ,τ,φ,φ,τ,τ,φ,τ,τ,φ,φ,τ,τ,φ,τ,τ,φ,φ,τ,τ,φ,φ,τ,τ,φ,φ,φ,τ,τ,φ,τ,τ,φ,φ,φ,φ,φ] rfl rfl (any_of HT_.out (by kernel_rfl)) (fun _ _ _ h => h) (Or.inl ⟨by rfl, ?_⟩) ?_ ?_
  rotate_left; (intro w'; go_simp; with_reducible rfl); rotate_left; (simp only [Act.put, zz1, zz2, zz3, i64_w, i32_w]; rfl)
  refine take_ (i := 1) (N := some 7) (v := ?_) (a' := ?_) #[τ,τ,τ,φ,φ,τ,τ,φ,τ,τ,φ,φ,τ,τ,φ,τ,τ,φ,φ,τ,τ,φ,τ,τ,φ,φ,τ,τ,φ,φ,τ,τ,φ,φ,φ,τ,τ,φ,τ,τ,φ,φ,φ,φ,φ] rfl rfl (take_ofW HT_.out HW_.out (by kernel_rfl)) (fun _ _ _ h => h) (Or.inl ⟨by rfl, ?_⟩) hHeld ?_ ?_
  rotate_left; (rintro w' ⟨s0, s1, s2, s3, s4, s5, s6, s7, s8, s9⟩; go_simp; with_reducible rfl); rotate_left; (simp only [Act.put, zz1, zz2, zz3, i64_w, i32_w]; rfl)
  refine take_ (i := 3) (N := some 9) (v := ?_) (a' := ?_) #[τ,τ,τ,τ,φ,τ,τ,φ,τ,τ,φ,φ,τ,τ,φ,τ,τ,φ,φ,τ,τ,φ,τ,τ,φ,φ,τ,τ,φ,φ,τ,τ,φ,φ,φ,τ,τ,φ,τ,τ,φ,φ,φ,φ,φ] rfl rfl (take_ofW HT_.out HW_.out (by kernel_rfl)) (fun _ _ _ h => h) (Or.inl ⟨by rfl, ?_⟩) hHeld ?_ ?_
  rotate_left; (rintro w' ⟨s0, s1, s2, s3, s4, s5, s6, s7, s8, s9⟩; go_simp; with_reducible rfl); rotate_left; (simp only [Act.put, zz1, zz2, zz3, i64_w, i32_w]; rfl)
  refine take_ (i := 7) (N := some 13) (v := ?_) (a' := ?_) #[τ,τ,τ,τ,φ,τ,τ,τ,τ,τ,φ,φ,τ,τ,φ,τ,τ,φ,φ,τ,τ,φ,τ,τ,φ,φ,τ,τ,φ,φ,τ,τ,φ,φ,φ,τ,τ,φ,τ,τ,φ,φ,φ,φ,φ] rfl rfl (take_ofW HT_.out HW_.out (by kernel_rfl)) (fun _ _ _ h => h) (Or.inl ⟨by rfl, ?_⟩) hHeld ?_ ?_
  rotate_left; (rintro w' ⟨s0, s1, s2, s3, s4, s5, s6, s7, s8, s9⟩; go_simp; with_reducible rfl); rotate_left; (simp only [Act.put, zz1, zz2, zz3, i64_w, i32_w]; rfl)
  refine take_ (i := 10) (N := some 16) (v := ?_) (a' := ?_) #[τ,τ,τ,τ,φ,τ,τ,τ,τ,τ,τ,φ,τ,τ,φ,τ,τ,φ,φ,τ,τ,φ,τ,τ,φ,φ,τ,τ,φ,φ,τ,τ,φ,φ,φ,τ,τ,φ,τ,τ,φ,φ,φ,φ,φ] rfl rfl (take_ofW HT_.out HW_.out (by kernel_rfl)) (fun _ _ _ h => h) (Or.inl ⟨by rfl, ?_⟩) hHeld ?_ ?_
  rotate_left; (rintro w' ⟨s0, s1, s2, s3, s4, s5, s6, s7, s8, s9⟩; go_simp; with_reducible rfl); rotate_left; (simp only [Act.put, zz1, zz2, zz3, i64_w, i32_w]; rfl)
  refine take_ (i := 14) (N := some 20) (v := ?_) (a' := ?_) #[τ,τ,τ,τ,φ,τ,τ,τ,τ,τ,τ,φ,τ,τ,τ,τ,τ,φ,φ,τ,τ,φ,τ,τ,φ,φ,τ,τ,φ,φ,τ,τ,φ,φ,φ,τ,τ,φ,τ,τ,φ,φ,φ,φ,φ] rfl rfl (take_ofW HT_.out HW_.out (by kernel_rfl)) (fun _ _ _ h => h) (Or.inl ⟨by rfl, ?_⟩) hHeld ?_ ?_
  rotate_left; (rintro w' ⟨s0, s1, s2, s3, s4, s5, s6, s7, s8, s9⟩; go_simp; with_reducible rfl); rotate_left; (simp only [Act.put, zz1, zz2, zz3, i64_w, i32_w]; rfl)
  refine take_ (i := 17) (N := some 23) (v := ?_) (a' := ?_) #[τ,τ,τ,τ,φ,τ,τ,τ,τ,τ,τ,φ,τ,τ,τ,τ,τ,τ,φ,τ,τ,φ,τ,τ,φ,φ,τ,τ,φ,φ,τ,τ,φ,φ,φ,τ,τ,φ,τ,τ,φ,φ,φ,φ,φ] rfl rfl (take_ofW HT_.out HW_.out (by kernel_rfl)) (fun _ _ _ h => h) (Or.inl ⟨by rfl, ?_⟩) hHeld ?_ ?_
  rotate_left; (rintro w' ⟨s0, s1, s2, s3, s4, s5, s6, s7, s8, s9⟩; go_simp; with_reducible rfl); rotate_left; (simp only [Act.put, zz1, zz2, zz3, i64_w, i32_w]; rfl)
  refine take_ (i := 21) (N := some 27) (v := ?_) (a' := ?_) #[τ,τ,τ,τ,φ,τ,τ,τ,τ,τ,τ,φ,τ,τ,τ,τ,τ,τ,φ,τ,τ,τ,τ,τ,φ,φ,τ,τ,φ,φ,τ,τ,φ,φ,φ,τ,τ,φ,τ,τ,φ,φ,φ,φ,φ] rfl rfl (take_ofW HT_.out HW_.out (by kernel_rfl)) (fun _ _ _ h => h) (Or.inl ⟨by rfl, ?_⟩) hHeld ?_ ?_
  rotate_left; (rintro w' ⟨s0, s1, s2, s3, s4, s5, s6, s7, s8, s9⟩; go_simp; with_reducible rfl); rotate_left; (simp only [Act.put, zz1, zz2, zz3, i64_w, i32_w]; rfl)
  refine take_ (i := 24) (N := some 30) (v := ?_) (a' := ?_) #[τ,τ,τ,τ,φ,τ,τ,τ,τ,τ,τ,φ,τ,τ,τ,τ,τ,τ,φ,τ,τ,τ,τ,τ,τ,φ,τ,τ,φ,φ,τ,τ,φ,φ,φ,τ,τ,φ,τ,τ,φ,φ,φ,φ,φ] rfl rfl (take_ofW HT_.out HW_.out (by kernel_rfl)) (fun _ _ _ h => h) (Or.inl ⟨by rfl, ?_⟩) hHeld ?_ ?_
  rotate_left; (rintro w' ⟨s0, s1, s2, s3, s4, s5, s6, s7, s8, s9⟩; go_simp; with_reducible rfl); rotate_left; (simp only [Act.put, zz1, zz2, zz3, i64_w, i32_w]; rfl)
  refine take_ (i := 28) (N := some 34) (v := ?_) (a' := ?_) #[τ,τ,τ,τ,φ,τ,τ,τ,τ,τ,τ,φ,τ,τ,τ,τ,τ,τ,φ,τ,τ,τ,τ,τ,τ,φ,τ,τ,τ,φ,τ,τ,φ,φ,φ,τ,τ,φ,τ,τ,φ,φ,φ,φ,φ] rfl rfl (take_ofW HT_.out HW_.out (by kernel_rfl)) (fun _ _ _ h => h) (Or.inl ⟨by rfl, ?_⟩) hHeld ?_ ?_
  rotate_left; (rintro w' ⟨s0, s1, s2, s3, s4, s5, s6, s7, s8, s9⟩; go_simp; with_reducible rfl); rotate_left; (simp only [Act.put, zz1, zz2, zz3, i64_w, i32_w]; rfl)
  refine pure_ (i := 29) (N := some 35) (v := ?_) (a' := ?_) #[τ,τ,τ,τ,φ,τ,τ,τ,τ,τ,τ,φ,τ,τ,τ,τ,τ,τ,φ,τ,τ,τ,τ,τ,τ,φ,τ,τ,τ,τ,τ,τ,φ,φ,φ,τ,τ,φ,τ,τ,φ,φ,φ,φ,φ] rfl rfl (any_of HT_.out (by kernel_rfl)) (fun _ _ _ h => h) (Or.inl ⟨by rfl, ?_⟩) ?_ ?_
  rotate_left; (intro w'; go_simp; with_reducible rfl); rotate_left; (simp only [Act.put, zz1, zz2, zz3, i64_w, i32_w]; rfl)
  refine take_ (i := 32) (N := some 38) (v := ?_) (a' := ?_) #[τ,τ,τ,τ,φ,τ,τ,τ,τ,τ,τ,φ,τ,τ,τ,τ,τ,τ,φ,τ,τ,τ,τ,τ,τ,φ,τ,τ,τ,τ,τ,τ,τ,φ,φ,τ,τ,φ,τ,τ,φ,φ,φ,φ,φ] rfl rfl (take_ofW HT_.out HW_.out (by kernel_rfl)) (fun _ _ _ h => h) (Or.inl ⟨by rfl, ?_⟩) hHeld ?_ ?_
  rotate_left; (rintro w' ⟨s0, s1, s2, s3, s4, s5, s6, s7, s8, s9⟩; go_simp; with_reducible rfl); rotate_left; (simp only [Act.put, zz1, zz2, zz3, i64_w, i32_w]; rfl)
  refine pure_ (i := 33) (N := some 39) (v := ?_) (a' := ?_) #[τ,τ,τ,τ,φ,τ,τ,τ,τ,τ,τ,φ,τ,τ,τ,τ,τ,τ,φ,τ,τ,τ,τ,τ,τ,φ,τ,τ,τ,τ,τ,τ,τ,τ,φ,τ,τ,φ,τ,τ,φ,φ,φ,φ,φ] rfl rfl (any_of HT_.out (by kernel_rfl)) (fun _ _ _ h => h) (Or.inl ⟨by rfl, ?_⟩) ?_ ?_
  rotate_left; (intro w'; go_simp; with_reducible rfl); rotate_left; (simp only [Act.put, zz1, zz2, zz3, i64_w, i32_w]; rfl)
  refine take_ (i := 37) (N := some 43) (v := ?_) (a' := ?_) #[τ,τ,τ,τ,φ,τ,τ,τ,τ,τ,τ,φ,τ,τ,τ,τ,τ,τ,φ,τ,τ,τ,τ,τ,τ,φ,τ,τ,τ,τ,τ,τ,τ,τ,φ,τ,τ,τ,τ,τ,φ,φ,φ,φ,φ] rfl rfl (take_ofW HT_.out HW_.out (by kernel_rfl)) (fun _ _ _ h => h) (Or.inl ⟨by rfl, ?_⟩) hHeld ?_ ?_
  rotate_left; (rintro w' ⟨s0, s1, s2, s3, s4, s5, s6, s7, s8, s9⟩; go_simp; with_reducible rfl); rotate_left; (simp only [Act.put, zz1, zz2, zz3, i64_w, i32_w]; rfl)
  refine take_ (i := 40) (N := some 46) (v := ?_) (a' := ?_) #[τ,τ,τ,τ,φ,τ,τ,τ,τ,τ,τ,φ,τ,τ,τ,τ,τ,τ,φ,τ,τ,τ,τ,τ,τ,φ,τ,τ,τ,τ,τ,τ,τ,τ,φ,τ,τ,τ,τ,τ,τ,φ,φ,φ,φ] rfl rfl (take_ofW HT_.out HW_.out (by kernel_rfl)) (fun _ _ _ h => h) (Or.inl ⟨by rfl, ?_⟩) hHeld ?_ ?_
  rotate_left; (rintro w' ⟨s0, s1, s2, s3, s4, s5, s6, s7, s8, s9⟩; go_simp; with_reducible rfl); rotate_left; (simp only [Act.put, zz1, zz2, zz3, i64_w, i32_w]; rfl)
  refine one_ (i := 4) (N := some 10) #[τ,τ,τ,τ,τ,τ,τ,τ,τ,τ,τ,φ,τ,τ,τ,τ,τ,τ,φ,τ,τ,τ,τ,τ,τ,φ,τ,τ,τ,τ,τ,τ,τ,τ,φ,τ,τ,τ,τ,τ,τ,φ,φ,φ,φ] rfl rfl (one_of HT_.out (by kernel_rfl)) (by decide) (fun K hK => ?_)
  refine goes_ Tryd.func50 (by kernel_rfl) rfl #[.int .i64 x.rank, .int .i64 y.rank] (by rfl) rfl rfl (by simp only [List.map_toArray, List.map_cons, List.map_nil]; rfl) ?_
  with_reducible refine (cmpI_calls x.rank y.rank _).mono ?_
  rintro e X0 ⟨rfl, ⟨m0, rfl⟩⟩
  refine ⟨_, rfl, ?_⟩
  refine hK.out _ _ ⟨a0, a1, a2, a3, a5, b0, b1, b2, b3, b5⟩ (fun hHeld => ?_)
  clear hK K
  refine norm_ (a' := ?_) ?_ ?_
  rotate_left
  · show Act.put _ (some 10) _ = _
    simp only [Act.put, zz1, zz2, zz3, i64_w, i32_w]
    rfl
  refine one_ (i := 11) (N := some 17) #[τ,τ,τ,τ,τ,τ,τ,τ,τ,τ,τ,τ,τ,τ,τ,τ,τ,τ,φ,τ,τ,τ,τ,τ,τ,φ,τ,τ,τ,τ,τ,τ,τ,τ,φ,τ,τ,τ,τ,τ,τ,φ,φ,φ,φ] rfl rfl (one_of HT_.out (by kernel_rfl)) (by decide) (fun K hK => ?_)
  refine goes_ Tryd.func50 (by kernel_rfl) rfl #[.int .i64 x.node.f0, .int .i64 y.node.f0] (by rfl) rfl rfl (by simp only [List.map_toArray, List.map_cons, List.map_nil]; rfl) ?_
  with_reducible refine (cmpI_calls x.node.f0 y.node.f0 _).mono ?_
  rintro e X1 ⟨rfl, ⟨m1, rfl⟩⟩
  refine ⟨_, rfl, ?_⟩
  refine hK.out _ _ ⟨a0, a1, a2, a3, a5, b0, b1, b2, b3, b5⟩ (fun hHeld => ?_)
  clear hK K
  refine norm_ (a' := ?_) ?_ ?_
  rotate_left
  · show Act.put _ (some 17) _ = _
    simp only [Act.put, zz1, zz2, zz3, i64_w, i32_w]
    rfl
  refine one_ (i := 18) (N := some 24) #[τ,τ,τ,τ,τ,τ,τ,τ,τ,τ,τ,τ,τ,τ,τ,τ,τ,τ,τ,τ,τ,τ,τ,τ,τ,φ,τ,τ,τ,τ,τ,τ,τ,τ,φ,τ,τ,τ,τ,τ,τ,φ,φ,φ,φ] rfl rfl (one_of HT_.out (by kernel_rfl)) (by decide) (fun K hK => ?_)
  refine goes_ Tryd.func50 (by kernel_rfl) rfl #[.int .i64 x.node.f1, .int .i64 y.node.f1] (by rfl) rfl rfl (by simp only [List.map_toArray, List.map_cons, List.map_nil]; rfl) ?_
  with_reducible refine (cmpI_calls x.node.f1 y.node.f1 _).mono ?_
  rintro e X2 ⟨rfl, ⟨m2, rfl⟩⟩
  refine ⟨_, rfl, ?_⟩
  refine hK.out _ _ ⟨a0, a1, a2, a3, a5, b0, b1, b2, b3, b5⟩ (fun hHeld => ?_)
  clear hK K
  refine norm_ (a' := ?_) ?_ ?_
  rotate_left
  · show Act.put _ (some 24) _ = _
    simp only [Act.put, zz1, zz2, zz3, i64_w, i32_w]
    rfl
  refine one_ (i := 25) (N := some 31) #[τ,τ,τ,τ,τ,τ,τ,τ,τ,τ,τ,τ,τ,τ,τ,τ,τ,τ,τ,τ,τ,τ,τ,τ,τ,τ,τ,τ,τ,τ,τ,τ,τ,τ,φ,τ,τ,τ,τ,τ,τ,φ,φ,φ,φ] rfl rfl (one_of HT_.out (by kernel_rfl)) (by decide) (fun K hK => ?_)
  refine goes_ Tryd.func43 (by kernel_rfl) rfl #[.string x.node.f2, .string y.node.f2] (by rfl) rfl rfl (by simp only [List.map_toArray, List.map_cons, List.map_nil]; rfl) ?_
  with_reducible refine (cmpS_calls x.node.f2 y.node.f2 _).mono ?_
  rintro e X3 ⟨rfl, ⟨m3, rfl⟩⟩
  refine ⟨_, rfl, ?_⟩
  refine hK.out _ _ ⟨a0, a1, a2, a3, a5, b0, b1, b2, b3, b5⟩ (fun hHeld => ?_)
  clear hK K
  refine norm_ (a' := ?_) ?_ ?_
  rotate_left
  · show Act.put _ (some 31) _ = _
    simp only [Act.put, zz1, zz2, zz3, i64_w, i32_w]
    rfl
  refine one_ (i := 34) (N := some 40) #[τ,τ,τ,τ,τ,τ,τ,τ,τ,τ,τ,τ,τ,τ,τ,τ,τ,τ,τ,τ,τ,τ,τ,τ,τ,τ,τ,τ,τ,τ,τ,τ,τ,τ,τ,τ,τ,τ,τ,τ,τ,φ,φ,φ,φ] rfl rfl (one_of HT_.out (by kernel_rfl)) (by decide) (fun K hK => ?_)
  refine goes_ Tryd.func50 (by kernel_rfl) rfl #[.int .i64 (x.node.f3.length : Int), .int .i64 (y.node.f3.length : Int)] (by rfl) rfl rfl (by simp only [List.map_toArray, List.map_cons, List.map_nil]; rfl) ?_
  with_reducible refine (cmpI_calls (x.node.f3.length : Int) (y.node.f3.length : Int) _).mono ?_
  rintro e X4 ⟨rfl, ⟨m4, rfl⟩⟩
  refine ⟨_, rfl, ?_⟩
  refine hK.out _ _ ⟨a0, a1, a2, a3, a5, b0, b1, b2, b3, b5⟩ (fun hHeld => ?_)
  clear hK K
  refine norm_ (a' := ?_) ?_ ?_
  rotate_left
  · show Act.put _ (some 40) _ = _
    simp only [Act.put, zz1, zz2, zz3, i64_w, i32_w]
    rfl
  refine one_ (i := 41) (N := some 47) #[τ,τ,τ,τ,τ,τ,τ,τ,τ,τ,τ,τ,τ,τ,τ,τ,τ,τ,τ,τ,τ,τ,τ,τ,τ,τ,τ,τ,τ,τ,τ,τ,τ,τ,τ,τ,τ,τ,τ,τ,τ,τ,φ,φ,φ] rfl rfl (one_of HT_.out (by kernel_rfl)) (by decide) (fun K hK => ?_)
  refine goes_ Tryd.func51 (by kernel_rfl) rfl #[.slice Ax1 x.node.f3.length cx1, .slice Ay1 y.node.f3.length cy1] (by rfl) rfl rfl (by simp only [List.map_toArray, List.map_cons, List.map_nil]; rfl) ?_
  with_reducible refine (slices_Compare_string_string.calls (x.node.f3.length + 1) Ax1 cx1 x.node.f3 Ay1 cy1 y.node.f3 _ _ (Kd.C_below HX.out.ks (pw_below_drewN (pw_below_drewN (pw_below_drewN (pw_below_drewN (pw_below_drewN (below_drew (Below.refl _ _)) m0) m1) m2) m3) m4)) HX.out.kc (Kd.C_below HY.out.ks (pw_below_drewN (pw_below_drewN (pw_below_drewN (pw_below_drewN (pw_below_drewN (below_drew (Below.refl _ _)) m0) m1) m2) m3) m4)) HY.out.kc (compS_f HX.out.kl)).mono ?_
  rintro e X5 ⟨rfl, ⟨m5, rfl⟩⟩
  refine ⟨_, rfl, ?_⟩
  refine hK.out _ _ ⟨a0, a1, a2, a3, a5, b0, b1, b2, b3, b5⟩ (fun hHeld => ?_)
  clear hK K
  refine norm_ (a' := ?_) ?_ ?_
  rotate_left
  · show Act.put _ (some 47) _ = _
    simp only [Act.put, zz1, zz2, zz3, i64_w, i32_w]
    rfl
  refine one_ (i := 42) (N := some 48) #[τ,τ,τ,τ,τ,τ,τ,τ,τ,τ,τ,τ,τ,τ,τ,τ,τ,τ,τ,τ,τ,τ,τ,τ,τ,τ,τ,τ,τ,τ,τ,τ,τ,τ,τ,τ,τ,τ,τ,τ,τ,τ,τ,φ,φ] rfl rfl (one_of HT_.out (by kernel_rfl)) (by decide) (fun K hK => ?_)
  refine value_ (w1 := ?_) (v := ?_) (by rfl) rfl ?_ ?_
  rotate_left 2
  · go_simp
    constructor
    · rfl
    · rfl
  have HBL : Aside0 (Below W1.heap.size W1 ((W1.drewN (1 + m0 + m1 + m2 + m3 + m4 + m5)).alloc (.cells #[.int .i64 (cmpI x.rank y.rank), .int .i64 (cmpI x.node.f0 y.node.f0), .int .i64 (cmpI x.node.f1 y.node.f1), .int .i64 (cmpS x.node.f2 y.node.f2), .int .i64 (cmpI (x.node.f3.length : Int) (y.node.f3.length : Int)), .int .i64 (cmpL cmpS x.node.f3 y.node.f3)] 3))) := ⟨below_alloc (pw_below_drewN (Below.refl W1.heap.size W1) (1 + m0 + m1 + m2 + m3 + m4 + m5)) _⟩
  have HLC : Aside0 (Kd.C (Kd.int .i64) ((W1.drewN (1 + m0 + m1 + m2 + m3 + m4 + m5)).alloc (.cells #[.int .i64 (cmpI x.rank y.rank), .int .i64 (cmpI x.node.f0 y.node.f0), .int .i64 (cmpI x.node.f1 y.node.f1), .int .i64 (cmpS x.node.f2 y.node.f2), .int .i64 (cmpI (x.node.f3.length : Int) (y.node.f3.length : Int)), .int .i64 (cmpL cmpS x.node.f3 y.node.f3)] 3)) (some ⟨W1.heap.size, 0, none⟩) (six x y).length (six x y)) := ⟨(Kd.R_reads' (lit_ints (W1.drewN (1 + m0 + m1 + m2 + m3 + m4 + m5)) (six x y) (show 6 ≤ maxLen by decide))).2.2⟩
  have r0 := pw_cell_below HBL.out a0
  have r1 := pw_cell_below HBL.out a1
  have r2 := pw_cell_below HBL.out a2
  have r3 := pw_cell_below HBL.out a3
  have r4 := pw_cell_below HBL.out a5
  have r5 := pw_cell_below HBL.out b0
  have r6 := pw_cell_below HBL.out b1
  have r7 := pw_cell_below HBL.out b2
  have r8 := pw_cell_below HBL.out b3
  have r9 := pw_cell_below HBL.out b5
  have r10 := pw_cell_below HBL.out a6
  have r11 := pw_cell_below HBL.out b6
  refine hK.out _ _ ⟨r0, r1, r2, r3, r4, r5, r6, r7, r8, r9⟩ (fun hHeld => ?_)
  clear hK K
  refine norm_ (a' := ?_) ?_ ?_
  rotate_left
  · show Act.put _ (some 48) _ = _
    simp only [Act.put, zz1, zz2, zz3, i64_w, i32_w]
    rfl
  refine one_ (i := 43) (N := some 49) #[τ,τ,τ,τ,τ,τ,τ,τ,τ,τ,τ,τ,τ,τ,τ,τ,τ,τ,τ,τ,τ,τ,τ,τ,τ,τ,τ,τ,τ,τ,τ,τ,τ,τ,τ,τ,τ,τ,τ,τ,τ,τ,τ,τ,φ] rfl rfl (one_of HT_.out (by kernel_rfl)) (by decide) (fun K hK => ?_)
  refine goes_ Tryd.func49 (by kernel_rfl) rfl #[.slice (some ⟨W1.heap.size, 0, none⟩) 6 6] (by rfl) rfl rfl (by simp only [List.map_toArray, List.map_cons, List.map_nil]; rfl) ?_
  with_reducible refine (or_six x y (some ⟨W1.heap.size, 0, none⟩) _ HLC.out).mono ?_
  rintro e X6 ⟨rfl, ⟨m6, rfl⟩⟩
  refine ⟨_, rfl, ?_⟩
  refine hK.out _ _ ⟨r0, r1, r2, r3, r4, r5, r6, r7, r8, r9⟩ (fun hHeld => ?_)
  clear hK K
  refine norm_ (a' := ?_) ?_ ?_
  rotate_left
  · show Act.put _ (some 49) _ = _
    simp only [Act.put, zz1, zz2, zz3, i64_w, i32_w]
    rfl
  refine pure_ (i := 44) (N := some 5) (v := ?_) (a' := ?_) #[τ,τ,τ,τ,τ,τ,τ,τ,τ,τ,τ,τ,τ,τ,τ,τ,τ,τ,τ,τ,τ,τ,τ,τ,τ,τ,τ,τ,τ,τ,τ,τ,τ,τ,τ,τ,τ,τ,τ,τ,τ,τ,τ,τ,τ] rfl rfl (any_of HT_.out (by kernel_rfl)) (fun _ _ _ h => h) (Or.inl ⟨by rfl, ?_⟩) ?_ ?_
  rotate_left; (intro w'; go_simp; with_reducible rfl); rotate_left; (simp only [Act.put, zz1, zz2, zz3, i64_w, i32_w]; rfl)
  refine done_ (done_of HT_.out (by kernel_rfl)) ?_
  clear hHeld
  have HBV := Aside0.mk (pw_below_drewN HBL.out m6)
  have a6V := drewn_cell (m := m6) r10
  have b6V := drewn_cell (m := m6) r11
  have HSX := Aside0.mk (Kd.C_below HX.out.ss HBV.out)
  have HSY := Aside0.mk (Kd.C_below HY.out.ss HBV.out)
  have HBW := Aside0.mk (below_then HB1.out HB1.out.size HBV.out)
  have HF := Aside0.mk (cmpF_six x y)
  obtain ⟨r, hr⟩ : ∃ r, r = orP (six x y) := ⟨_, rfl⟩
  rw [← hr] at HF ⊢
  clear hr r0 r1 r2 r3 r4 r5 r6 r7 r8 r9 r10 r11 a0 a1 a2 a3 a5 a6 b0 b1 b2 b3 b5 b6 HLC HBL HBV HT_ HW_
  by_cases h0 : r = 0
  · subst h0
    rw [if_pos rfl] at HF
    go_wp2_with (fail)
    refine (compF_calls Ax3 Ay3 cx3 cy3 x.sets y.sets _ HSX.out HX.out.sc HSY.out HY.out.sc HX.out.sl HX.out.se).mono ?_
    rintro e w2 ⟨rfl, ⟨m7, rfl⟩⟩
    go_wp2_with (fail)
    go_ret
    refine ⟨by rw [HF.out]; rfl, ?_⟩
    rw [← World.drewN_drewN]
    exact pw_below_drewN HBW.out _
  · rw [if_neg h0] at HF
    have e2 : (r != 0) = true := bne_iff_ne.mpr h0
    go_wp2_with (fail)
    go_ret
    exact ⟨by rw [HF.out]; rfl, HBW.out⟩
end Go.Proofs.YtgppcpghpeenhaaDoor.CG
