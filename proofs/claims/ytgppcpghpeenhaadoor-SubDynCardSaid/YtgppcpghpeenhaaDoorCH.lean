/- slices.SortStableFunc, of nineteen at most: by letting in. -/
import Derived.Test.YtgppcpghpeenhaaDoorProg
import Derived.Test.YtgppcpghpeenhaaDoorWWords
import Derived.Test.YtgppcpghpeenhaaDoorWLast
import Derived.Test.YtgppcpghpeenhaaDoorCG
namespace Go.Proofs.YtgppcpghpeenhaaDoor.CH
open Go.RowKit Go.Proofs.YtgppcpghpeenhaaDoorW.PrintWords Go.Proofs.YtgppcpghpeenhaaDoorW.PrintLast Go.Proofs.YtgppcpghpeenhaaDoorW.PrintMore Go.Proofs.YtgppcpghpeenhaaDoor L1 G1 G2 N1 N2 N3 N4 N5 CA CB CC CD CE CF CG
set_option linter.unusedVariables false
set_option linter.unusedSimpArgs false
/-- What a closure that compares numbers by c answers, as long as nothing but the row that is sorted turns. -/
def CmpC (c : Int → Int → Int) (pv : Value) (g : Nat) (l : List Int) (w0 w : World) : Prop :=
  ∀ W, Kept w W (fun k => k = g) → Below w0.heap.size w0 W → ∀ a ∈ l, ∀ b ∈ l, Calls Tryd.prog 30 #[.int .i64 a, .int .i64 b, pv] W fun e W' => e = .returned (.int .i64 (c a b)) ∧ Below W.heap.size W W'
/-- What sorting answers. -/
def InsP (c : Int → Int → Int) (ok : Nat → Prop) (g cap : Nat) (l : List Int) (w0 w : World) (e : Ending) (w' : World) : Prop :=
  e = .returned (.tuple #[]) ∧ ∃ ys, ys.Perm l ∧ UpTo c ys l.length ∧ Kd.R (Kd.int .i64) 3 w' w0.heap.size ok (.slice (some ⟨g, 0, none⟩) l.length cap) ys ∧ Below w0.heap.size w0 w' ∧ Kept w w' (fun k => k = g)
/-- A row being sorted, in memory. -/
structure RowS (ok : Nat → Prop) (g cap n : Nat) (l xs : List Int) (w0 w W : World) : Prop where
  own : Kd.R (Kd.int .i64) 3 W w0.heap.size ok (.slice (some ⟨g, 0, none⟩) n cap) xs
  per : xs.Perm l
  bel : Below w0.heap.size w0 W
  kep : Kept w W (fun k => k = g)
theorem RowS.len {ok : Nat → Prop} {g cap n : Nat} {l xs : List Int} {w0 w W : World} (h : RowS ok g cap n l xs w0 w W) : n = xs.length := (Kd.R_reads' h.own).1
theorem RowS.below {ok : Nat → Prop} {g cap n : Nat} {l xs : List Int} {w0 w W W' : World} (h : RowS ok g cap n l xs w0 w W) (hb : Below W.heap.size W W') : RowS ok g cap n l xs w0 w W' :=
  ⟨Kd.R_below h.own hb, h.per, below_then h.bel h.bel.size hb, Kept.below h.kep hb⟩
theorem RowS.cell {ok : Nat → Prop} {g cap n : Nat} {l xs : List Int} {w0 w W : World} (h : RowS ok g cap n l xs w0 w W) {j : Nat} (hj : j < n) : W.cell? ⟨g, j, none⟩ = some (.int .i64 (xs.getD j 0)) := by
  obtain ⟨hn, _, hC⟩ := Kd.R_reads' h.own
  obtain ⟨ad, e, hc⟩ := Kd.at_int hC (j : Int) (by omega) (by omega)
  cases e
  rw [Int.toNat_natCast, show (⟨g, 0, none⟩ : Addr).add j = ⟨g, j, none⟩ by by_cases h0 : j = 0 <;> simp [Addr.add, h0]] at hc
  exact hc
theorem RowS.mem {ok : Nat → Prop} {g cap n : Nat} {l xs : List Int} {w0 w W : World} (h : RowS ok g cap n l xs w0 w W) {j : Nat} (hj : j < n) : xs.getD j 0 ∈ l := by
  have hx : j < xs.length := by rw [← h.len]; exact hj
  rw [← h.per.mem_iff, List.getD_eq_getElem?_getD, List.getElem?_eq_getElem hx]
  exact List.getElem_mem hx
/-- Two places change with one another. -/
theorem RowS.swp {ok : Nat → Prop} {g cap n : Nat} {l xs : List Int} {w0 w W : World} (h : RowS ok g cap n l xs w0 w W) {j : Nat} (hj : j + 1 < n) :
    RowS ok g cap n l (swap xs j) w0 w ((W.setCell ⟨g, j + 1, none⟩ (.int .i64 (xs.getD j 0))).setCell ⟨g, j, none⟩ (.int .i64 (xs.getD (j + 1) 0))) := by
  have hx : j + 1 < xs.length := by rw [← h.len]; exact hj
  have h1 := Kd.R_putn h.own ((j + 1 : Nat) : Int) (xs.getD j 0)
  have h2 := Kd.R_putn h1 ((j : Nat) : Int) (xs.getD (j + 1) 0)
  rw [Int.toNat_natCast, Int.toNat_natCast] at h2
  have hg : w0.heap.size ≤ g := Kd.R_base h.own g rfl
  refine ⟨h2, (swap_perm hx).trans h.per, below_set (below_set h.bel hg) hg, Kept.setCell (Kept.setCell h.kep (.inl rfl) _) (.inl rfl) _⟩
theorem RowS.st {ok : Nat → Prop} {g cap n : Nat} {l xs : List Int} {w0 w W : World} (h : RowS ok g cap n l xs w0 w W) {j : Nat} (hj : j + 1 < n) {x y : Int} (hx : x = xs.getD (j + 1) 0) (hy : y = xs.getD j 0) :
    W.cell? ⟨g, j + 1, none⟩ = some (.int .i64 x) ∧ W.frozen? ⟨g, j + 1, none⟩ = false ∧ W.cell? ⟨g, j, none⟩ = some (.int .i64 y) ∧ W.frozen? ⟨g, j, none⟩ = false ∧ (W.setCell ⟨g, j + 1, none⟩ (.int .i64 y)).cell? ⟨g, j, none⟩ = some (.int .i64 y) ∧ (W.setCell ⟨g, j + 1, none⟩ (.int .i64 y)).frozen? ⟨g, j, none⟩ = false := by
  have h1 := Kd.R_putn h.own ((j + 1 : Nat) : Int) y
  obtain ⟨_, f1⟩ := Kd.R_celln 0 h.own ((j + 1 : Nat) : Int) (by omega) (by omega)
  obtain ⟨_, f3⟩ := Kd.R_celln 0 h.own (j : Int) (by omega) (by omega)
  obtain ⟨c2, f2⟩ := Kd.R_celln 0 h1 (j : Int) (by omega) (by omega)
  have e : rdOf 0 (xs.set ((j + 1 : Nat) : Int).toNat y) (j : Int) = y := by
    unfold rdOf
    rw [Int.toNat_natCast, Int.toNat_natCast, List.getD_eq_getElem?_getD, List.getElem?_set_ne (by omega), hy, List.getD_eq_getElem?_getD]
  rw [e] at c2
  simp only [Int.toNat_natCast] at f1 f3 c2 f2
  exact ⟨by rw [hx]; exact h.cell hj, f1, by rw [hy]; exact h.cell (by omega), f3, c2, f2⟩
section
variable {P : Program} {ops : Array Oper} {Q : Exit → Act → World → Prop}
theorem goesF_ {oi : Oper} {N : Option Tmp} {a : Act} {w : World} {K : Act → World → Prop} {f : FuncId} {fn : Func} {c : Operand} {xs : Array Operand} {ts : Array TypeId} (hf : P.funcs[f]? = some fn) (hname : (fn.name == "runtime.NumGoroutine") = false) (hb : fn.body.isSome = true) (args fv ys : Array Value)
    (hw : Region.wanted oi (yielded ops a.tmps) = true) (hN : oi.dst = N) (hop : oi.op = .call { callee := .value c, args := xs, argTypes := ts }) (hc : a.eval c = .func (.func f) #[] fv) (hys : xs.map a.eval = ys) (hargs : ys ++ fv = args)
    (h : Calls P f args w fun e w' => ∃ v, e = .returned v ∧ K (a.put N v) w') : if Region.wanted oi (yielded ops a.tmps) = true then Oper.wp P oi a w K Q else K (a.put N undef) w := by
  refine call_ f args hw hN ?_ h
  have he := enters_ hf hname hb args w
  unfold execOp
  simp [hop, resolve, Deferred.ofValue, invoke, hc, hys, hargs, he]
end
def ch4.T4 : Bool × List (List Nat × List Nat) := (true, [([], []), ([], []), ([0, 1], [0, 1]), ([2], [2]), ([3], [3]), ([3], [3]), ([3], [3]), ([5, 6, 3], [3, 5, 6]), ([7, 3], [3, 7]), ([3], [3]), ([3], [3]), ([10, 3], [3, 10]), ([9, 11, 3], [3, 9, 11]), ([12, 3], [3, 12]), ([4, 8, 13, 3, 3], [3, 4, 8, 13]), ([14, 3], [3, 14]), ([3, 15], [3, 15])])
def ch4.B4 : List Nat := [0, 0, 3, 7, 15, 15, 15, 111, 239, 15, 15, 1039, 3599, 7695, 16383, 32767, 65535]
theorem ch4.tab4 : rtab .any (opsOf Tryd.f62 4) = ch4.T4 := by kernel_rfl
theorem ch4.bits4 : waitsOk ch4.T4.2 ch4.B4 = true := by kernel_rfl
def ch6.T6 : Bool × List (List Nat × List Nat) := (true, [([], []), ([], []), ([], []), ([], []), ([3], [3]), ([], []), ([], []), ([6], [6]), ([5, 7], [5, 7]), ([8], [8]), ([], []), ([], []), ([10, 11], [10, 11]), ([12], [12]), ([0, 1, 0, 1, 5, 6, 7, 8, 9, 13], [0, 1]), ([14, 9, 0, 1, 5, 6, 7, 8, 9, 13], [9, 14]), ([2, 4, 0, 1, 2, 3, 4, 5, 6, 7, 8, 9, 10, 11, 12, 13, 14, 15], [2, 4]), ([16, 13, 15, 0, 1, 2, 3, 4, 5, 6, 7, 8, 9, 10, 11, 12, 13, 14, 15], [13, 16])])
def ch6.B6 : List Nat := [0, 0, 0, 0, 8, 0, 0, 64, 224, 480, 0, 0, 3072, 7168, 16355, 32739, 65535, 131071]
theorem ch6.tab6 : rtab .any (opsOf Tryd.f62 6) = ch6.T6 := by kernel_rfl
theorem ch6.bits6 : waitsOk ch6.T6.2 ch6.B6 = true := by kernel_rfl
theorem drew_cell {w : World} {a : Addr} {v : Value} (h : w.cell? a = some v) : w.drew.cell? a = some v := h
set_option maxHeartbeats 8000000 in
set_option maxRecDepth 100000 in
theorem ins_calls {c : Int → Int → Int} (hc : PO c) {ok : Nat → Prop} {g cap : Nat} {l : List Int} {pv : Value} {w0 w : World} (hl : l.length ≤ 1000000000) (hB : Below w0.heap.size w0 w) (ho : Kd.R (Kd.int .i64) 3 w w0.heap.size ok (.slice (some ⟨g, 0, none⟩) l.length cap) l) (hC : CmpC c pv g l w0 w) :
    Calls Tryd.prog 62 #[.slice (some ⟨g, 0, none⟩) l.length cap, .int .i64 0, .int .i64 (l.length : Int), .func (.func 30) #[] #[pv]] w (InsP c ok g cap l w0 w) := by
  have HR0 := Aside0.mk (show RowS ok g cap l.length l l w0 w w from ⟨ho, List.Perm.refl _, hB, Kept.refl _ _⟩)
  have HC := Aside0.mk hC
  have HL := Aside0.mk hl
  obtain ⟨n, hn⟩ : ∃ n, n = l.length := ⟨_, rfl⟩
  rw [← hn] at HR0 HL ⊢
  have HN := Aside0.mk hn
  clear hB ho hC hl hn
  go_enter Tryd.func62, Tryd.ntmps62
  go_wp2_with (fail)
  have e1 : wrap64 (0 + 1) = ((1 : Nat) : Int) := by unfold wrap64; omega
  go_loopw [8, 9] (fun v8 v9 wr => ∃ (i : Nat) (xs : List Int), 1 ≤ i ∧ v8 = .int .i64 i ∧ (i ≤ n ∨ i = 1) ∧ Aside0 (RowS ok g cap n l xs w0 w wr) ∧ Aside0 (UpTo c xs i)) (fun v8 v9 _ => n + 1 - (intOf v8).toNat)
  case atStart => exact ⟨1, l, by omega, by first | rfl | (rw [e1]; rfl) | simp, .inr rfl, HR0, ⟨UpTo.one _ _⟩⟩
  case round =>
    obtain ⟨i, xs, hi1, rfl, hi2, HRw0, HU⟩ := hrel
    have hwi : wrap64 ((i : Int) + 1) = ((i + 1 : Nat) : Int) := by have := HL.out; unfold wrap64; omega
    by_cases hin : i < n
    · go_wp2_with (fail)
      go_loopw [9] (fun v9 wr => ∃ (j : Nat) (xs : List Int), v9 = .int .i64 j ∧ j ≤ i ∧ Aside0 (RowS ok g cap n l xs w0 w wr) ∧ Aside0 (Ins c xs i j)) (fun v9 _ => (intOf v9).toNat)
      case atStart => exact ⟨i, xs, rfl, Nat.le_refl _, HRw0, ⟨Ins.start HU.out⟩⟩
      case round =>
        clear HRw0 HU
        obtain ⟨j, xs, rfl, hji, HRw, HI⟩ := hrel
        rename World => X
        by_cases hj : j = 0
        · subst hj
          have e2 : decide ((0 : Int) < 0) = false := by decide
          go_wp2_with (fail)
          refine start_ (n := 17) (S := fun w' => True) (ds := []) #[φ,φ,φ,φ,φ,φ,φ,φ,φ,φ,φ,φ,φ,φ,φ,φ,φ] (by kernel_rfl) rfl rfl trivial (fun hHeld => ?_)
          refine with_tabW ch4.tab4 ch4.bits4 (fun HT_ HW_ => ?_)
          refine pure_ (i := 0) (N := some 18) (v := ?_) (a' := ?_) #[τ,φ,φ,φ,φ,φ,φ,φ,φ,φ,φ,φ,φ,φ,φ,φ,φ] rfl rfl (any_of HT_.out (by kernel_rfl)) (fun _ _ _ h => h) (Or.inl ⟨by rfl, ?_⟩) ?_ ?_
          rotate_left; (intro w'; go_simp; with_reducible rfl); rotate_left; (simp only [Act.put, zz1, zz2, zz3, i64_w, i32_w]; rfl)
          refine pure_ (i := 1) (N := some 19) (v := ?_) (a' := ?_) #[τ,τ,φ,φ,φ,φ,φ,φ,φ,φ,φ,φ,φ,φ,φ,φ,φ] rfl rfl (any_of HT_.out (by kernel_rfl)) (fun _ _ _ h => h) (Or.inl ⟨by rfl, ?_⟩) ?_ ?_
          rotate_left; (intro w'; go_simp; with_reducible rfl); rotate_left; (simp only [Act.put, zz1, zz2, zz3, i64_w, i32_w]; rfl)
          refine pure_ (i := 2) (N := some 20) (v := ?_) (a' := ?_) #[τ,τ,τ,φ,φ,φ,φ,φ,φ,φ,φ,φ,φ,φ,φ,φ,φ] rfl rfl (any_of HT_.out (by kernel_rfl)) (fun _ _ _ h => h) (Or.inl ⟨by rfl, ?_⟩) ?_ ?_
          rotate_left; (intro w'; go_simp; with_reducible rfl); rotate_left; (simp only [Act.put, zz1, zz2, zz3, i64_w, i32_w]; rfl)
          refine pure_ (i := 3) (N := some 21) (v := ?_) (a' := ?_) #[τ,τ,τ,τ,φ,φ,φ,φ,φ,φ,φ,φ,φ,φ,φ,φ,φ] rfl rfl (any_of HT_.out (by kernel_rfl)) (fun _ _ _ h => h) (Or.inl ⟨by rfl, ?_⟩) ?_ ?_
          rotate_left; (intro w'; go_simp; with_reducible rfl); rotate_left; (simp only [Act.put, zz1, zz2, zz3, i64_w, i32_w]; rfl)
          refine pure_ (i := 4) (N := some 22) (v := undef) (a' := ?_) #[τ,τ,τ,τ,τ,φ,φ,φ,φ,φ,φ,φ,φ,φ,φ,φ,φ] rfl rfl (any_of HT_.out (by kernel_rfl)) (fun _ _ _ h => h) (Or.inr ⟨by rfl, rfl⟩) ?_ ?_
          rotate_left; (simp only [Act.put, zz1, zz2, zz3, i64_w, i32_w]; rfl)
          refine pure_ (i := 5) (N := some 23) (v := undef) (a' := ?_) #[τ,τ,τ,τ,τ,τ,φ,φ,φ,φ,φ,φ,φ,φ,φ,φ,φ] rfl rfl (any_of HT_.out (by kernel_rfl)) (fun _ _ _ h => h) (Or.inr ⟨by rfl, rfl⟩) ?_ ?_
          rotate_left; (simp only [Act.put, zz1, zz2, zz3, i64_w, i32_w]; rfl)
          refine pure_ (i := 6) (N := some 24) (v := undef) (a' := ?_) #[τ,τ,τ,τ,τ,τ,τ,φ,φ,φ,φ,φ,φ,φ,φ,φ,φ] rfl rfl (any_of HT_.out (by kernel_rfl)) (fun _ _ _ h => h) (Or.inr ⟨by rfl, rfl⟩) ?_ ?_
          rotate_left; (simp only [Act.put, zz1, zz2, zz3, i64_w, i32_w]; rfl)
          refine pure_ (i := 7) (N := some 25) (v := undef) (a' := ?_) #[τ,τ,τ,τ,τ,τ,τ,τ,φ,φ,φ,φ,φ,φ,φ,φ,φ] rfl rfl (any_of HT_.out (by kernel_rfl)) (fun _ _ _ h => h) (Or.inr ⟨by rfl, rfl⟩) ?_ ?_
          rotate_left; (simp only [Act.put, zz1, zz2, zz3, i64_w, i32_w]; rfl)
          refine pure_ (i := 8) (N := some 26) (v := undef) (a' := ?_) #[τ,τ,τ,τ,τ,τ,τ,τ,τ,φ,φ,φ,φ,φ,φ,φ,φ] rfl rfl (any_of HT_.out (by kernel_rfl)) (fun _ _ _ h => h) (Or.inr ⟨by rfl, rfl⟩) ?_ ?_
          rotate_left; (simp only [Act.put, zz1, zz2, zz3, i64_w, i32_w]; rfl)
          refine pure_ (i := 9) (N := some 27) (v := undef) (a' := ?_) #[τ,τ,τ,τ,τ,τ,τ,τ,τ,τ,φ,φ,φ,φ,φ,φ,φ] rfl rfl (any_of HT_.out (by kernel_rfl)) (fun _ _ _ h => h) (Or.inr ⟨by rfl, rfl⟩) ?_ ?_
          rotate_left; (simp only [Act.put, zz1, zz2, zz3, i64_w, i32_w]; rfl)
          refine pure_ (i := 10) (N := some 28) (v := undef) (a' := ?_) #[τ,τ,τ,τ,τ,τ,τ,τ,τ,τ,τ,φ,φ,φ,φ,φ,φ] rfl rfl (any_of HT_.out (by kernel_rfl)) (fun _ _ _ h => h) (Or.inr ⟨by rfl, rfl⟩) ?_ ?_
          rotate_left; (simp only [Act.put, zz1, zz2, zz3, i64_w, i32_w]; rfl)
          refine pure_ (i := 11) (N := some 29) (v := undef) (a' := ?_) #[τ,τ,τ,τ,τ,τ,τ,τ,τ,τ,τ,τ,φ,φ,φ,φ,φ] rfl rfl (any_of HT_.out (by kernel_rfl)) (fun _ _ _ h => h) (Or.inr ⟨by rfl, rfl⟩) ?_ ?_
          rotate_left; (simp only [Act.put, zz1, zz2, zz3, i64_w, i32_w]; rfl)
          refine pure_ (i := 12) (N := some 30) (v := undef) (a' := ?_) #[τ,τ,τ,τ,τ,τ,τ,τ,τ,τ,τ,τ,τ,φ,φ,φ,φ] rfl rfl (any_of HT_.out (by kernel_rfl)) (fun _ _ _ h => h) (Or.inr ⟨by rfl, rfl⟩) ?_ ?_
          rotate_left; (simp only [Act.put, zz1, zz2, zz3, i64_w, i32_w]; rfl)
          refine pure_ (i := 13) (N := some 31) (v := undef) (a' := ?_) #[τ,τ,τ,τ,τ,τ,τ,τ,τ,τ,τ,τ,τ,τ,φ,φ,φ] rfl rfl (any_of HT_.out (by kernel_rfl)) (fun _ _ _ h => h) (Or.inr ⟨by rfl, rfl⟩) ?_ ?_
          rotate_left; (simp only [Act.put, zz1, zz2, zz3, i64_w, i32_w]; rfl)
          refine pure_ (i := 14) (N := some 32) (v := undef) (a' := ?_) #[τ,τ,τ,τ,τ,τ,τ,τ,τ,τ,τ,τ,τ,τ,τ,φ,φ] rfl rfl (any_of HT_.out (by kernel_rfl)) (fun _ _ _ h => h) (Or.inr ⟨by rfl, rfl⟩) ?_ ?_
          rotate_left; (simp only [Act.put, zz1, zz2, zz3, i64_w, i32_w]; rfl)
          refine pure_ (i := 15) (N := some 33) (v := undef) (a' := ?_) #[τ,τ,τ,τ,τ,τ,τ,τ,τ,τ,τ,τ,τ,τ,τ,τ,φ] rfl rfl (any_of HT_.out (by kernel_rfl)) (fun _ _ _ h => h) (Or.inr ⟨by rfl, rfl⟩) ?_ ?_
          rotate_left; (simp only [Act.put, zz1, zz2, zz3, i64_w, i32_w]; rfl)
          refine pure_ (i := 16) (N := some 34) (v := ?_) (a' := ?_) #[τ,τ,τ,τ,τ,τ,τ,τ,τ,τ,τ,τ,τ,τ,τ,τ,τ] rfl rfl (any_of HT_.out (by kernel_rfl)) (fun _ _ _ h => h) (Or.inl ⟨by rfl, ?_⟩) ?_ ?_
          rotate_left; (intro w'; go_simp; with_reducible rfl); rotate_left; (simp only [Act.put, zz1, zz2, zz3, i64_w, i32_w]; rfl)
          refine done_ (done_of HT_.out (by kernel_rfl)) ?_
          go_wp2_with (fail)
          go_roundw
          case rel => exact ⟨i + 1, xs, by omega, by first | (rw [hwi]; done) | (rw [Int.natCast_add]; rfl), .inl (by omega), ⟨HRw.out.below (below_drew (Below.refl _ _))⟩, ⟨Ins.stop hc HI.out (.inl rfl)⟩⟩
          case measure => first | (rw [hwi]; simp only [intOf]; omega) | (simp only [intOf]; omega)
        · obtain ⟨q, rfl⟩ : ∃ q, j = q + 1 := ⟨j - 1, by omega⟩
          have hw1 : wrap64 (q : Int) = (q : Int) := by have := HL.out; unfold wrap64; omega
          have e2 : decide ((0 : Int) < ((q + 1 : Nat) : Int)) = true := decide_eq_true (by omega)
          have z0 := HRw.out.cell (show q + 1 < n by omega)
          have z1 := HRw.out.cell (show q < n by omega)
          have HCall := Aside0.mk (HC.out X.drew (by exact HRw.out.kep) (below_drew HRw.out.bel) _ (HRw.out.mem (show q + 1 < n by omega)) _ (HRw.out.mem (show q < n by omega)))
          obtain ⟨x, hx⟩ : ∃ x, x = xs.getD (q + 1) 0 := ⟨_, rfl⟩
          obtain ⟨y, hy⟩ : ∃ y, y = xs.getD q 0 := ⟨_, rfl⟩
          rw [← hx] at z0 HCall
          rw [← hy] at z1 HCall
          have HXX := Aside0.mk hx
          have HYY := Aside0.mk hy
          have e3 : ((q : Int) + 1 < (n : Int)) = True := eq_true (by omega)
          have e4 : ((q : Int) < (n : Int)) = True := eq_true (by omega)
          have e5 : ((0 : Int) ≤ (q : Int) + 1) = True := eq_true (by omega)
          have e6 : ((0 : Int) ≤ (q : Int)) = True := eq_true (by omega)
          clear hx hy
          go_wp2_with (fail)
          refine start_ (n := 17) (S := fun w' => w'.cell? ⟨g, q + 1, none⟩ = some (.int .i64 x) ∧ w'.cell? ⟨g, q, none⟩ = some (.int .i64 y)) (ds := []) #[φ,φ,φ,φ,φ,φ,φ,φ,φ,φ,φ,φ,φ,φ,φ,φ,φ] (by kernel_rfl) rfl rfl ⟨drew_cell z0, drew_cell z1⟩ (fun hHeld => ?_)
          refine with_tabW ch4.tab4 ch4.bits4 (fun HT_ HW_ => ?_)
          refine pure_ (i := 0) (N := some 18) (v := ?_) (a' := ?_) #[τ,φ,φ,φ,φ,φ,φ,φ,φ,φ,φ,φ,φ,φ,φ,φ,φ] rfl rfl (any_of HT_.out (by kernel_rfl)) (fun _ _ _ h => h) (Or.inl ⟨by rfl, ?_⟩) ?_ ?_
          rotate_left; (intro w'; go_simp; with_reducible rfl); rotate_left; (simp only [Act.put, zz1, zz2, zz3, i64_w, i32_w]; rfl)
          refine pure_ (i := 1) (N := some 19) (v := ?_) (a' := ?_) #[τ,τ,φ,φ,φ,φ,φ,φ,φ,φ,φ,φ,φ,φ,φ,φ,φ] rfl rfl (any_of HT_.out (by kernel_rfl)) (fun _ _ _ h => h) (Or.inl ⟨by rfl, ?_⟩) ?_ ?_
          rotate_left; (intro w'; go_simp; with_reducible rfl); rotate_left; (simp only [Act.put, zz1, zz2, zz3, i64_w, i32_w]; rfl)
          refine pure_ (i := 2) (N := some 20) (v := ?_) (a' := ?_) #[τ,τ,τ,φ,φ,φ,φ,φ,φ,φ,φ,φ,φ,φ,φ,φ,φ] rfl rfl (any_of HT_.out (by kernel_rfl)) (fun _ _ _ h => h) (Or.inl ⟨by rfl, ?_⟩) ?_ ?_
          rotate_left; (intro w'; go_simp; with_reducible rfl); rotate_left; (simp only [Act.put, zz1, zz2, zz3, i64_w, i32_w]; rfl)
          refine pure_ (i := 3) (N := some 21) (v := ?_) (a' := ?_) #[τ,τ,τ,τ,φ,φ,φ,φ,φ,φ,φ,φ,φ,φ,φ,φ,φ] rfl rfl (any_of HT_.out (by kernel_rfl)) (fun _ _ _ h => h) (Or.inl ⟨by rfl, ?_⟩) ?_ ?_
          rotate_left; (intro w'; go_simp; with_reducible rfl); rotate_left; (simp only [Act.put, zz1, zz2, zz3, i64_w, i32_w]; rfl)
          refine pure_ (i := 4) (N := some 22) (v := ?_) (a' := ?_) #[τ,τ,τ,τ,τ,φ,φ,φ,φ,φ,φ,φ,φ,φ,φ,φ,φ] rfl rfl (any_of HT_.out (by kernel_rfl)) (fun _ _ _ h => h) (Or.inl ⟨by rfl, ?_⟩) ?_ ?_
          rotate_left; (intro w'; go_simp; with_reducible rfl); rotate_left; (simp only [Act.put, zz1, zz2, zz3, i64_w, i32_w]; rfl)
          refine pure_ (i := 5) (N := some 23) (v := ?_) (a' := ?_) #[τ,τ,τ,τ,τ,τ,φ,φ,φ,φ,φ,φ,φ,φ,φ,φ,φ] rfl rfl (any_of HT_.out (by kernel_rfl)) (fun _ _ _ h => h) (Or.inl ⟨by rfl, ?_⟩) ?_ ?_
          rotate_left; (intro w'; go_simp; with_reducible rfl); rotate_left; (simp only [Act.put, zz1, zz2, zz3, i64_w, i32_w]; rfl)
          refine pure_ (i := 6) (N := some 24) (v := ?_) (a' := ?_) #[τ,τ,τ,τ,τ,τ,τ,φ,φ,φ,φ,φ,φ,φ,φ,φ,φ] rfl rfl (any_of HT_.out (by kernel_rfl)) (fun _ _ _ h => h) (Or.inl ⟨by rfl, ?_⟩) ?_ ?_
          rotate_left; (intro w'; go_simp; with_reducible rfl); rotate_left; (simp only [Act.put, zz1, zz2, zz3, i64_w, i32_w]; rfl)
          refine pure_ (i := 7) (N := some 25) (v := ?_) (a' := ?_) #[τ,τ,τ,τ,τ,τ,τ,τ,φ,φ,φ,φ,φ,φ,φ,φ,φ] rfl rfl (any_of HT_.out (by kernel_rfl)) (fun _ _ _ h => h) (Or.inl ⟨by rfl, ?_⟩) ?_ ?_
          rotate_left; (intro w'; go_simp; with_reducible rfl); rotate_left; (simp only [Act.put, zz1, zz2, zz3, i64_w, i32_w]; rfl)
          refine pure_ (i := 9) (N := some 27) (v := ?_) (a' := ?_) #[τ,τ,τ,τ,τ,τ,τ,τ,φ,τ,φ,φ,φ,φ,φ,φ,φ] rfl rfl (any_of HT_.out (by kernel_rfl)) (fun _ _ _ h => h) (Or.inl ⟨by rfl, ?_⟩) ?_ ?_
          rotate_left; (intro w'; go_simp; with_reducible rfl); rotate_left; (simp only [Act.put, zz1, zz2, zz3, i64_w, i32_w]; rfl)
          refine pure_ (i := 10) (N := some 28) (v := ?_) (a' := ?_) #[τ,τ,τ,τ,τ,τ,τ,τ,φ,τ,τ,φ,φ,φ,φ,φ,φ] rfl rfl (any_of HT_.out (by kernel_rfl)) (fun _ _ _ h => h) (Or.inl ⟨by rfl, ?_⟩) ?_ ?_
          rotate_left; (intro w'; go_simp; with_reducible rfl); rotate_left; (simp only [Act.put, zz1, zz2, zz3, i64_w, i32_w]; rfl)
          refine pure_ (i := 11) (N := some 29) (v := ?_) (a' := ?_) #[τ,τ,τ,τ,τ,τ,τ,τ,φ,τ,τ,τ,φ,φ,φ,φ,φ] rfl rfl (any_of HT_.out (by kernel_rfl)) (fun _ _ _ h => h) (Or.inl ⟨by rfl, ?_⟩) ?_ ?_
          rotate_left; (intro w'; go_simp; with_reducible rfl); rotate_left; (simp only [Act.put, zz1, zz2, zz3, i64_w, i32_w]; rfl)
          refine pure_ (i := 12) (N := some 30) (v := ?_) (a' := ?_) #[τ,τ,τ,τ,τ,τ,τ,τ,φ,τ,τ,τ,τ,φ,φ,φ,φ] rfl rfl (any_of HT_.out (by kernel_rfl)) (fun _ _ _ h => h) (Or.inl ⟨by rfl, ?_⟩) ?_ ?_
          rotate_left; (intro w'; go_simp; with_reducible rfl); rotate_left; (simp only [Act.put, zz1, zz2, zz3, i64_w, i32_w]; rfl)
          refine take_ (i := 8) (N := some 26) (v := ?_) (a' := ?_) #[τ,τ,τ,τ,τ,τ,τ,τ,τ,τ,τ,τ,τ,φ,φ,φ,φ] rfl rfl (take_ofW HT_.out HW_.out (by kernel_rfl)) (fun _ _ _ h => h) (Or.inl ⟨by rfl, ?_⟩) hHeld ?_ ?_
          rotate_left; (rintro w' ⟨s0, s1⟩; go_simp; with_reducible rfl); rotate_left; (simp only [Act.put, zz1, zz2, zz3, i64_w, i32_w]; rfl)
          refine take_ (i := 13) (N := some 31) (v := ?_) (a' := ?_) #[τ,τ,τ,τ,τ,τ,τ,τ,τ,τ,τ,τ,τ,τ,φ,φ,φ] rfl rfl (take_ofW HT_.out HW_.out (by kernel_rfl)) (fun _ _ _ h => h) (Or.inl ⟨by rfl, ?_⟩) hHeld ?_ ?_
          rotate_left; (rintro w' ⟨s0, s1⟩; go_simp; with_reducible rfl); rotate_left; (simp only [Act.put, zz1, zz2, zz3, i64_w, i32_w]; rfl)
          refine one_ (i := 14) (N := some 32) #[τ,τ,τ,τ,τ,τ,τ,τ,τ,τ,τ,τ,τ,τ,τ,φ,φ] rfl rfl (one_of HT_.out (by kernel_rfl)) (by decide) (fun K hK => ?_)
          refine goesF_ Tryd.func30 (by kernel_rfl) rfl #[.int .i64 x, .int .i64 y, pv] #[pv] #[.int .i64 x, .int .i64 y] (by rfl) rfl rfl (by rfl) (by simp only [List.map_toArray, List.map_cons, List.map_nil]; rfl) rfl ?_
          with_reducible refine (HCall.out).mono ?_
          rintro e W3 ⟨rfl, hb3⟩
          have HRw3 := Aside0.mk ((HRw.out.below (below_drew (Below.refl _ _))).below hb3)
          have r0 := pw_cell_below hb3 (drew_cell z0)
          have r1 := pw_cell_below hb3 (drew_cell z1)
          clear hb3
          refine ⟨_, rfl, ?_⟩
          refine hK.out _ _ ⟨r0, r1⟩ (fun hHeld => ?_)
          clear hK K
          refine norm_ (a' := ?_) ?_ ?_
          rotate_left
          · show Act.put _ (some 32) _ = _
            simp only [Act.put, zz1, zz2, zz3, i64_w, i32_w]
            rfl
          refine pure_ (i := 15) (N := some 33) (v := ?_) (a' := ?_) #[τ,τ,τ,τ,τ,τ,τ,τ,τ,τ,τ,τ,τ,τ,τ,τ,φ] rfl rfl (any_of HT_.out (by kernel_rfl)) (fun _ _ _ h => h) (Or.inl ⟨by rfl, ?_⟩) ?_ ?_
          rotate_left; (intro w'; go_simp; with_reducible rfl); rotate_left; (simp only [Act.put, zz1, zz2, zz3, i64_w, i32_w]; rfl)
          refine pure_ (i := 16) (N := some 34) (v := ?_) (a' := ?_) #[τ,τ,τ,τ,τ,τ,τ,τ,τ,τ,τ,τ,τ,τ,τ,τ,τ] rfl rfl (any_of HT_.out (by kernel_rfl)) (fun _ _ _ h => h) (Or.inl ⟨by rfl, ?_⟩) ?_ ?_
          rotate_left; (intro w'; go_simp; with_reducible rfl); rotate_left; (simp only [Act.put, zz1, zz2, zz3, i64_w, i32_w]; rfl)
          refine done_ (done_of HT_.out (by kernel_rfl)) ?_
          clear hHeld HT_ HW_ r0 r1 z0 z1
          by_cases hlt : c x y = -1
          · rw [hlt]
            obtain ⟨c0, f0, c1, f1, c2, f2⟩ := (HRw3.out.below (below_drew (Below.refl _ _))).st (show q + 1 < n by omega) HXX.out HYY.out
            have z0 := HRw3.out.cell (show q + 1 < n by omega)
            have z1 := HRw3.out.cell (show q < n by omega)
            rw [← HXX.out] at z0
            rw [← HYY.out] at z1
            have f0' : W3.frozen? ⟨g, q + 1, none⟩ = false := f0
            have f1' : W3.frozen? ⟨g, q, none⟩ = false := f1
            have HSw := (HRw3.out.below (below_drew (Below.refl _ _))).swp (show q + 1 < n by omega)
            rw [← HXX.out, ← HYY.out] at HSw
            have HSW := Aside0.mk HSw
            have HIs := Aside0.mk (Ins.step HI.out (by rw [← HRw.out.len]; exact hin) hji (by rw [← HXX.out, ← HYY.out]; exact hlt))
            have e7 : decide ((-1 : Int) < 0) = true := by decide
            clear HSw hlt HCall
            go_wp2_with (fail)
            refine start_ (n := 18) (S := fun w' => w'.cell? ⟨g, q + 1, none⟩ = some (.int .i64 x) ∧ w'.cell? ⟨g, q, none⟩ = some (.int .i64 y)) (ds := [15, 17]) #[φ,φ,φ,φ,φ,φ,φ,φ,φ,φ,φ,φ,φ,φ,φ,φ,φ,φ] (by kernel_rfl) rfl rfl ⟨drew_cell z0, drew_cell z1⟩ (fun hHeld => ?_)
            refine with_tabW ch6.tab6 ch6.bits6 (fun HT_ HW_ => ?_)
            refine pure_ (i := 0) (N := some 37) (v := ?_) (a' := ?_) #[τ,φ,φ,φ,φ,φ,φ,φ,φ,φ,φ,φ,φ,φ,φ,φ,φ,φ] rfl rfl (any_of HT_.out (by kernel_rfl)) (fun _ _ _ h => h) (Or.inl ⟨by rfl, ?_⟩) ?_ ?_
            rotate_left; (intro w'; go_simp; with_reducible rfl); rotate_left; (simp only [Act.put, zz1, zz2, zz3, i64_w, i32_w]; rfl)
            refine pure_ (i := 1) (N := some 38) (v := ?_) (a' := ?_) #[τ,τ,φ,φ,φ,φ,φ,φ,φ,φ,φ,φ,φ,φ,φ,φ,φ,φ] rfl rfl (any_of HT_.out (by kernel_rfl)) (fun _ _ _ h => h) (Or.inl ⟨by rfl, ?_⟩) ?_ ?_
            rotate_left; (intro w'; go_simp; with_reducible rfl); rotate_left; (simp only [Act.put, zz1, zz2, zz3, i64_w, i32_w]; rfl)
            refine pure_ (i := 2) (N := some 39) (v := ?_) (a' := ?_) #[τ,τ,τ,φ,φ,φ,φ,φ,φ,φ,φ,φ,φ,φ,φ,φ,φ,φ] rfl rfl (any_of HT_.out (by kernel_rfl)) (fun _ _ _ h => h) (Or.inl ⟨by rfl, ?_⟩) ?_ ?_
            rotate_left; (intro w'; go_simp; with_reducible rfl); rotate_left; (simp only [Act.put, zz1, zz2, zz3, i64_w, i32_w]; rfl)
            refine pure_ (i := 3) (N := some 40) (v := ?_) (a' := ?_) #[τ,τ,τ,τ,φ,φ,φ,φ,φ,φ,φ,φ,φ,φ,φ,φ,φ,φ] rfl rfl (any_of HT_.out (by kernel_rfl)) (fun _ _ _ h => h) (Or.inl ⟨by rfl, ?_⟩) ?_ ?_
            rotate_left; (intro w'; go_simp; with_reducible rfl); rotate_left; (simp only [Act.put, zz1, zz2, zz3, i64_w, i32_w]; rfl)
            refine pure_ (i := 4) (N := some 41) (v := ?_) (a' := ?_) #[τ,τ,τ,τ,τ,φ,φ,φ,φ,φ,φ,φ,φ,φ,φ,φ,φ,φ] rfl rfl (any_of HT_.out (by kernel_rfl)) (fun _ _ _ h => h) (Or.inl ⟨by rfl, ?_⟩) ?_ ?_
            rotate_left; (intro w'; go_simp; with_reducible rfl); rotate_left; (simp only [Act.put, zz1, zz2, zz3, i64_w, i32_w]; rfl)
            refine pure_ (i := 5) (N := some 42) (v := ?_) (a' := ?_) #[τ,τ,τ,τ,τ,τ,φ,φ,φ,φ,φ,φ,φ,φ,φ,φ,φ,φ] rfl rfl (any_of HT_.out (by kernel_rfl)) (fun _ _ _ h => h) (Or.inl ⟨by rfl, ?_⟩) ?_ ?_
            rotate_left; (intro w'; go_simp; with_reducible rfl); rotate_left; (simp only [Act.put, zz1, zz2, zz3, i64_w, i32_w]; rfl)
            refine pure_ (i := 6) (N := some 43) (v := ?_) (a' := ?_) #[τ,τ,τ,τ,τ,τ,τ,φ,φ,φ,φ,φ,φ,φ,φ,φ,φ,φ] rfl rfl (any_of HT_.out (by kernel_rfl)) (fun _ _ _ h => h) (Or.inl ⟨by rfl, ?_⟩) ?_ ?_
            rotate_left; (intro w'; go_simp; with_reducible rfl); rotate_left; (simp only [Act.put, zz1, zz2, zz3, i64_w, i32_w]; rfl)
            refine pure_ (i := 7) (N := some 44) (v := ?_) (a' := ?_) #[τ,τ,τ,τ,τ,τ,τ,τ,φ,φ,φ,φ,φ,φ,φ,φ,φ,φ] rfl rfl (any_of HT_.out (by kernel_rfl)) (fun _ _ _ h => h) (Or.inl ⟨by rfl, ?_⟩) ?_ ?_
            rotate_left; (intro w'; go_simp; with_reducible rfl); rotate_left; (simp only [Act.put, zz1, zz2, zz3, i64_w, i32_w]; rfl)
            refine pure_ (i := 8) (N := some 45) (v := ?_) (a' := ?_) #[τ,τ,τ,τ,τ,τ,τ,τ,τ,φ,φ,φ,φ,φ,φ,φ,φ,φ] rfl rfl (any_of HT_.out (by kernel_rfl)) (fun _ _ _ h => h) (Or.inl ⟨by rfl, ?_⟩) ?_ ?_
            rotate_left; (intro w'; go_simp; with_reducible rfl); rotate_left; (simp only [Act.put, zz1, zz2, zz3, i64_w, i32_w]; rfl)
            refine pure_ (i := 10) (N := some 47) (v := ?_) (a' := ?_) #[τ,τ,τ,τ,τ,τ,τ,τ,τ,φ,τ,φ,φ,φ,φ,φ,φ,φ] rfl rfl (any_of HT_.out (by kernel_rfl)) (fun _ _ _ h => h) (Or.inl ⟨by rfl, ?_⟩) ?_ ?_
            rotate_left; (intro w'; go_simp; with_reducible rfl); rotate_left; (simp only [Act.put, zz1, zz2, zz3, i64_w, i32_w]; rfl)
            refine pure_ (i := 11) (N := some 48) (v := ?_) (a' := ?_) #[τ,τ,τ,τ,τ,τ,τ,τ,τ,φ,τ,τ,φ,φ,φ,φ,φ,φ] rfl rfl (any_of HT_.out (by kernel_rfl)) (fun _ _ _ h => h) (Or.inl ⟨by rfl, ?_⟩) ?_ ?_
            rotate_left; (intro w'; go_simp; with_reducible rfl); rotate_left; (simp only [Act.put, zz1, zz2, zz3, i64_w, i32_w]; rfl)
            refine pure_ (i := 12) (N := some 49) (v := ?_) (a' := ?_) #[τ,τ,τ,τ,τ,τ,τ,τ,τ,φ,τ,τ,τ,φ,φ,φ,φ,φ] rfl rfl (any_of HT_.out (by kernel_rfl)) (fun _ _ _ h => h) (Or.inl ⟨by rfl, ?_⟩) ?_ ?_
            rotate_left; (intro w'; go_simp; with_reducible rfl); rotate_left; (simp only [Act.put, zz1, zz2, zz3, i64_w, i32_w]; rfl)
            refine take_ (i := 9) (N := some 46) (v := ?_) (a' := ?_) #[τ,τ,τ,τ,τ,τ,τ,τ,τ,τ,τ,τ,τ,φ,φ,φ,φ,φ] rfl rfl (take_ofW HT_.out HW_.out (by kernel_rfl)) (fun _ _ _ h => h) (Or.inl ⟨by rfl, ?_⟩) hHeld ?_ ?_
            rotate_left; (rintro w' ⟨s0, s1⟩; go_simp; with_reducible rfl); rotate_left; (simp only [Act.put, zz1, zz2, zz3, i64_w, i32_w]; rfl)
            refine take_ (i := 13) (N := some 50) (v := ?_) (a' := ?_) #[τ,τ,τ,τ,τ,τ,τ,τ,τ,τ,τ,τ,τ,τ,φ,φ,φ,φ] rfl rfl (take_ofW HT_.out HW_.out (by kernel_rfl)) (fun _ _ _ h => h) (Or.inl ⟨by rfl, ?_⟩) hHeld ?_ ?_
            rotate_left; (rintro w' ⟨s0, s1⟩; go_simp; with_reducible rfl); rotate_left; (simp only [Act.put, zz1, zz2, zz3, i64_w, i32_w]; rfl)
            refine pure_ (i := 14) (N := some 51) (v := ?_) (a' := ?_) #[τ,τ,τ,τ,τ,τ,τ,τ,τ,τ,τ,τ,τ,τ,τ,φ,φ,φ] rfl rfl (any_of HT_.out (by kernel_rfl)) (fun _ _ _ h => h) (Or.inl ⟨by rfl, ?_⟩) ?_ ?_
            rotate_left; (intro w'; go_simp; with_reducible rfl); rotate_left; (simp only [Act.put, zz1, zz2, zz3, i64_w, i32_w]; rfl)
            refine last_ (i := 15) (N := none) #[τ,τ,τ,τ,τ,τ,τ,τ,τ,τ,τ,τ,τ,τ,τ,τ,φ,φ] rfl rfl (one_of HT_.out (by kernel_rfl)) (by decide) (fun K hK => ?_)
            refine skip_ (w1 := ?_) (by rfl) rfl ?_ ?_
            rotate_left
            · go_simp
              rfl
            refine hK.out _ _ ?_
            clear hK K
            refine pure_ (i := 16) (N := some 52) (v := ?_) (a' := ?_) #[τ,τ,τ,τ,τ,τ,τ,τ,τ,τ,τ,τ,τ,τ,τ,τ,τ,φ] rfl rfl (any_of HT_.out (by kernel_rfl)) (fun _ _ _ h => h) (Or.inl ⟨by rfl, ?_⟩) ?_ ?_
            rotate_left; (intro w'; go_simp; with_reducible rfl); rotate_left; (simp only [Act.put, zz1, zz2, zz3, i64_w, i32_w]; rfl)
            refine last_ (i := 17) (N := none) #[τ,τ,τ,τ,τ,τ,τ,τ,τ,τ,τ,τ,τ,τ,τ,τ,τ,τ] rfl rfl (one_of HT_.out (by kernel_rfl)) (by decide) (fun K hK => ?_)
            refine skip_ (w1 := ?_) (by rfl) rfl ?_ ?_
            rotate_left
            · go_simp
              rfl
            refine hK.out _ _ ?_
            clear hK K
            refine done_ (done_of HT_.out (by kernel_rfl)) ?_
            go_wp2_with (fail)
            go_roundw
            case rel => exact ⟨q, swap xs q, by first | (rw [hw1]; done) | rfl | simp [hw1], by omega, HSW, HIs⟩
            case measure => first | (rw [hw1]; simp only [intOf]; omega) | (simp only [intOf, hw1]; omega)
          · have e7 : decide (c x y < 0) = false := decide_eq_false (by rcases hc.val x y with h | h | h <;> omega)
            rw [e7]
            have HSt := Aside0.mk (Ins.stop hc HI.out (.inr (by rw [Nat.add_sub_cancel, ← HXX.out, ← HYY.out]; exact hlt)))
            clear hlt HCall
            go_wp2_with (fail)
            go_roundw
            case rel => exact ⟨i + 1, xs, by omega, by first | (rw [hwi]; done) | (rw [Int.natCast_add]; rfl), .inl (by omega), HRw3, HSt⟩
            case measure => first | (rw [hwi]; simp only [intOf]; omega) | (simp only [intOf]; omega)
    · go_wp2_with (fail)
      first | go_end0 | ((try simp only [Exit.inBlock, Exit.then]); refine bodyPost_ret (results_none rfl _ _ _) rfl ?_)
      refine ⟨rfl, xs, HRw0.out.per, fun p q hpq hq => HU.out p q hpq (by have := HN.out; omega), ?_, HRw0.out.bel, HRw0.out.kep⟩
      rw [← HN.out]
      exact HRw0.out.own
set_option maxHeartbeats 8000000 in
set_option maxRecDepth 100000 in
theorem stable_calls {c : Int → Int → Int} (hc : PO c) {ok : Nat → Prop} {g cap : Nat} {l : List Int} {pv : Value} {w0 w : World} (hl : l.length ≤ 1000000000) (hB : Below w0.heap.size w0 w) (ho : Kd.R (Kd.int .i64) 3 w w0.heap.size ok (.slice (some ⟨g, 0, none⟩) l.length cap) l) (hC : CmpC c pv g l w0 w) (h19 : l.length ≤ 19) :
    Calls Tryd.prog 48 #[.slice (some ⟨g, 0, none⟩) l.length cap, .int .i64 (l.length : Int), .func (.func 30) #[] #[pv]] w (InsP c ok g cap l w0 w) := by
  have HI := Aside0.mk (ins_calls hc hl hB ho hC)
  have H19 := Aside0.mk h19
  obtain ⟨n, hn⟩ : ∃ n, n = l.length := ⟨_, rfl⟩
  rw [← hn] at HI H19 ⊢
  have HN := Aside0.mk hn
  have e1 : ((20 : Int) ≤ (n : Int)) = False := eq_false (by have := H19.out; omega)
  have e2 : ((20 : Int) < (n : Int)) = False := eq_false (by have := H19.out; omega)
  clear hB ho hC hl hn h19
  go_enter Tryd.func48, Tryd.ntmps48
  go_wp2_with (fail)
  go_loopw [7, 8] (fun v7 v8 wr => v7 = .int .i64 0 ∧ v8 = .int .i64 20 ∧ wr = w) (fun _ _ _ => 0)
  case atStart => exact ⟨rfl, rfl, rfl⟩
  case round =>
    obtain ⟨rfl, rfl, rfl⟩ := hrel
    go_wp2_with (fail)
    refine HI.out.mono ?_
    rintro e w2 ⟨rfl, ys, hp, hu, hr, hb, hk⟩
    go_wp2_with (fail)
    go_loopw [6, 7, 8, 9] (fun v6 v7 v8 v9 wr => v6 = .int .i64 20 ∧ wr = w2) (fun _ _ _ _ _ => 0)
    case atStart => exact ⟨rfl, rfl⟩
    case round =>
      obtain ⟨rfl, rfl⟩ := hrel
      go_wp2_with (fail)
      first | go_end0 | ((try simp only [Exit.inBlock, Exit.then]); refine bodyPost_ret (results_none rfl _ _ _) rfl ?_)
      exact ⟨rfl, ys, hp, hu, by rw [← HN.out] at hr ⊢; exact hr, hb, hk⟩
set_option maxHeartbeats 8000000 in
set_option maxRecDepth 100000 in
theorem sortst_calls {c : Int → Int → Int} (hc : PO c) {ok : Nat → Prop} {g cap : Nat} {l : List Int} {pv : Value} {w0 w : World} (hl : l.length ≤ 1000000000) (hB : Below w0.heap.size w0 w) (ho : Kd.R (Kd.int .i64) 3 w w0.heap.size ok (.slice (some ⟨g, 0, none⟩) l.length cap) l) (hC : CmpC c pv g l w0 w) (h19 : l.length ≤ 19) :
    Calls Tryd.prog 29 #[.slice (some ⟨g, 0, none⟩) l.length cap, .func (.func 30) #[] #[pv]] w (InsP c ok g cap l w0 w) := by
  have HI := Aside0.mk (stable_calls hc hl hB ho hC h19)
  clear hB ho hC hl h19
  go_enter Tryd.func29, Tryd.ntmps29
  go_wp2_with (fail)
  refine HI.out.mono ?_
  rintro e w2 ⟨rfl, ys, hp, hu, hr, hb, hk⟩
  go_wp2_with (fail)
  first | go_end0 | ((try simp only [Exit.inBlock, Exit.then]); refine bodyPost_ret (results_none rfl _ _ _) rfl ?_)
  exact ⟨rfl, ys, hp, hu, hr, hb, hk⟩
end Go.Proofs.YtgppcpghpeenhaaDoor.CH
