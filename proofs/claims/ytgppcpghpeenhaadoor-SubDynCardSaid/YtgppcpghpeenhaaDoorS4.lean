/- does: does one that is no union do for another one? -/
import Derived.Test.YtgppcpghpeenhaaDoorProg
import Derived.Test.YtgppcpghpeenhaaDoorWWords
import Derived.Test.YtgppcpghpeenhaaDoorWLast
import Derived.Test.YtgppcpghpeenhaaDoorS3
import Derived.Laws.EntriesVeiled
namespace Go.Proofs.YtgppcpghpeenhaaDoor.S4
open Go.RowKit Go.Proofs.YtgppcpghpeenhaaDoorW.PrintWords Go.Proofs.YtgppcpghpeenhaaDoorW.PrintLast Go.Proofs.YtgppcpghpeenhaaDoorW.PrintMore Go.Proofs.YtgppcpghpeenhaaDoor L1 L4 G1 G2 S0 S1 S2 S3
set_option linter.unusedVariables false
set_option linter.unusedSimpArgs false
/-- What is known of a node that may be. -/
structure Okn (g : List GN) (x : GN) : Prop where
  range : ∀ y ∈ x.f4, 0 ≤ y ∧ y < (g.length : Int)
  kind : x.f0 = 1 ∨ x.f0 = 2 ∨ x.f0 = 3 ∨ x.f0 = 4 ∨ x.f0 = 5 ∨ x.f0 = 7 ∨ x.f0 = 8 ∨ x.f0 = 9
  recd : x.f0 = 7 → x.f4.length = x.f3.length ∧ x.f3.length ≤ 16
  var : x.f0 = 9 → x.f4.length = 1
  union : x.f0 = 8 → ∀ y ∈ x.f4, kindU g y ≠ 8
  num : x.f0 ≠ 9 → x.f1 = 0
  name : x.f0 ≠ 5 → x.f2.toList = []
  keys : x.f0 ≠ 7 → x.f3 = []
  base : x.f0 ≤ 5 → x.f4 = []
theorem okn_of {g : List GN} {x : GN} (h : mayP g x = true) : Okn g x := by
  unfold mayP at h
  simp only [Bool.and_eq_true, Bool.not_eq_true', Bool.or_eq_true, decide_eq_true_eq] at h
  obtain ⟨⟨⟨⟨h1, h2⟩, h3⟩, h4⟩, h5⟩ := h
  have hk4 : x.f3.length = 0 → x.f3 = [] := fun h => List.length_eq_zero_iff.1 h
  have hl4 : x.f4.length = 0 → x.f4 = [] := fun h => List.length_eq_zero_iff.1 h
  have hr : ∀ y ∈ x.f4, 0 ≤ y ∧ y < (g.length : Int) := fun y hy => by
    have := List.any_eq_false.1 h1 y hy
    unfold outP at this
    simp at this
    omega
  unfold byKind at h5
  by_cases c1 : x.f0 = 1 ∨ x.f0 = 2 ∨ x.f0 = 3 ∨ x.f0 = 4
  · rw [if_pos c1, decide_eq_true_eq] at h5
    exact ⟨hr, by omega, fun h => by omega, fun h => by omega, fun h => by omega, fun h => by omega, fun h => by rcases h3 with h | h; exact h; omega, fun h => by rcases h4 with h | h; exact hk4 h; omega, fun _ => hl4 h5⟩
  · rw [if_neg c1] at h5
    by_cases c5 : x.f0 = 5
    · rw [if_pos c5, Bool.and_eq_true, decide_eq_true_eq] at h5
      exact ⟨hr, by omega, fun h => by omega, fun h => by omega, fun h => by omega, fun h => by omega, fun h => by omega, fun h => by rcases h4 with h | h; exact hk4 h; omega, fun _ => hl4 h5.1⟩
    · rw [if_neg c5] at h5
      by_cases c7 : x.f0 = 7
      · rw [if_pos c7] at h5
        simp only [Bool.and_eq_true, decide_eq_true_eq] at h5
        exact ⟨hr, by omega, fun h => ⟨h5.1.1.1, h5.1.1.2⟩, fun h => by omega, fun h => by omega, fun h => by omega, fun h => by rcases h3 with h | h; exact h; omega, fun h => by omega, fun h => by omega⟩
      · rw [if_neg c7] at h5
        by_cases c8 : x.f0 = 8
        · rw [if_pos c8] at h5
          simp only [Bool.and_eq_true, decide_eq_true_eq, List.all_eq_true] at h5
          exact ⟨hr, by omega, fun h => by omega, fun h => by omega, fun _ => h5.1.1, fun h => by omega, fun h => by rcases h3 with h | h; exact h; omega, fun h => by rcases h4 with h | h; exact hk4 h; omega, fun h => by omega⟩
        · rw [if_neg c8] at h5
          by_cases c9 : x.f0 = 9
          · rw [if_pos c9] at h5
            simp only [Bool.and_eq_true, decide_eq_true_eq] at h5
            exact ⟨hr, by omega, fun h => by omega, fun h => h5.2, fun h => by omega, fun h => by omega, fun h => by rcases h3 with h | h; exact h; omega, fun h => by rcases h4 with h | h; exact hk4 h; omega, fun h => by omega⟩
          · rw [if_neg c9] at h5
            cases h5
theorem check_ok {g : List GN} (h : checkP g = 0) : g.length ≤ 2000 ∧ ∀ x ∈ g, Okn g x := by
  unfold checkP at h
  split at h
  · cases h
  · split at h
    · rename_i h1 h2
      exact ⟨by omega, fun x hx => okn_of (List.all_eq_true.1 h2 x hx)⟩
    · cases h
def doesF (st : Bool) (f : F2) (s t : GN) : Bool × F2 :=
  if s.f0 = 1 ∨ t.f0 = 1 then (!st || s.f0 == t.f0, f)
  else if s.f0 = t.f0 then (if s.f0 = 5 then tagF f s t else if s.f0 = 7 then recF s t t.f3 0 f else if s.f0 = 9 then variableF f s t else (true, f))
  else (false, f)
def dz4.T4 : Bool × List (List Nat × List Nat) := (true, [([], []), ([0], [0]), ([], []), ([2], [2]), ([1, 3], [1, 3]), ([4], [4]), ([5], [5]), ([6, 5], [5, 6]), ([7, 5], [5, 7]), ([8, 5], [5, 8]), ([5], [5]), ([5], [5]), ([5], [5]), ([9, 10, 11, 12, 5, 5], [5, 9, 10, 11, 12]), ([5, 13], [5, 13]), ([14, 13, 0, 1, 2, 3, 4, 5, 6, 7, 8, 9, 10, 11, 12, 13, 14], [14])])
def dz4.B4 : List Nat := [0, 1, 0, 4, 15, 31, 63, 127, 255, 511, 63, 63, 63, 8191, 16383, 32767]
theorem dz4.tab4 : rtab .any (opsOf Tryd.f58 4) = dz4.T4 := by kernel_rfl
theorem dz4.bits4 : waitsOk dz4.T4.2 dz4.B4 = true := by kernel_rfl
set_option maxHeartbeats 8000000 in
set_option maxRecDepth 100000 in
theorem does_yes0 (sk sn : Int) (ss : ByteArray) (sks : List ByteArray) (sl : List Int) (tk tn : Int) (ts : ByteArray) (tks : List ByteArray) (tl : List Int) (w0 w : World) (sb m : Nat) (A0 : Option Addr) (c0 : Nat) (g : List GN) (st : Bool) (f : F2) (hS : Sv w0 w sb m A0 c0 g st f)
    (hos : Okn g ⟨sk, sn, ss, sks, sl⟩) (hot : Okn g ⟨tk, tn, ts, tks, tl⟩) (h8 : sk ≠ 8) (Aks : Option Addr) (cks : Nat) (Als : Option Addr) (cls : Nat) (Akt : Option Addr) (ckt : Nat) (Alt : Option Addr) (clt : Nat) (hns : Nd w0 ⟨sk, sn, ss, sks, sl⟩ Aks cks Als cls) (hnt : Nd w0 ⟨tk, tn, ts, tks, tl⟩ Akt ckt Alt clt) :
    Calls Tryd.prog 58 #[.pointer (some ⟨sb, 0, none⟩), .agg #[.int .i64 sk, .int .i64 sn, .string ss, .slice Aks sks.length cks, .slice Als sl.length cls], .agg #[.int .i64 tk, .int .i64 tn, .string ts, .slice Akt tks.length ckt, .slice Alt tl.length clt]] w
      fun e w' => e = .returned (.bool (doesF st f ⟨sk, sn, ss, sks, sl⟩ ⟨tk, tn, ts, tks, tl⟩).1) ∧ Mp w' m g.length (doesF st f ⟨sk, sn, ss, sks, sl⟩ ⟨tk, tn, ts, tks, tl⟩).2 ∧ w.grownBy w' (some m) := by
  have HOs := Aside0.mk hos
  have HOt := Aside0.mk hot
  have HSr := Aside0.mk hos.range
  have HTr := Aside0.mk hot.range
  have HNs := Aside0.mk hns
  have HNt := Aside0.mk hnt
  have HS := Aside0.mk hS
  have HS2 := Aside0.mk ((hS.alloc (.cells #[.int .i64 sk, .int .i64 sn, .string ss, .slice Aks sks.length cks, .slice Als sl.length cls] 33)).alloc (.cells #[.int .i64 tk, .int .i64 tn, .string ts, .slice Akt tks.length ckt, .slice Alt tl.length clt] 33))
  have HG2 := Aside0.mk ((World.grownBy_alloc w (.cells #[.int .i64 sk, .int .i64 sn, .string ss, .slice Aks sks.length cks, .slice Als sl.length cls] 33) (some m)).trans (World.grownBy_alloc (w.alloc (.cells #[.int .i64 sk, .int .i64 sn, .string ss, .slice Aks sks.length cks, .slice Als sl.length cls] 33)) (.cells #[.int .i64 tk, .int .i64 tn, .string ts, .slice Akt tks.length ckt, .slice Alt tl.length clt] 33) (some m)))
  have HBs := Aside0.mk ((box_new w ⟨sk, sn, ss, sks, sl⟩ Aks cks Als cls).grown (World.grownBy_alloc (w.alloc (.cells #[.int .i64 sk, .int .i64 sn, .string ss, .slice Aks sks.length cks, .slice Als sl.length cls] 33)) (.cells #[.int .i64 tk, .int .i64 tn, .string ts, .slice Akt tks.length ckt, .slice Alt tl.length clt] 33) none) (by simp))
  have HBt := Aside0.mk (box_new (w.alloc (.cells #[.int .i64 sk, .int .i64 sn, .string ss, .slice Aks sks.length cks, .slice Als sl.length cls] 33)) ⟨tk, tn, ts, tks, tl⟩ Akt ckt Alt clt)
  have HQs := Aside0.mk (hS.box_ne (Nat.le_refl w.heap.size))
  have HQt := Aside0.mk (hS.box_ne (Nat.le_succ w.heap.size))
  rw [World.size_alloc] at HBt
  have HE8 := Aside0.mk h8
  clear hS hos hot h8 hns hnt
  obtain ⟨a0, a1, a2, a3, a4⟩ := HBs.out
  obtain ⟨b0, b1, b2, b3, b4⟩ := HBt.out
  dsimp only at a0 a1 a2 a3 a4 b0 b1 b2 b3 b4
  go_enter Tryd.func58, Tryd.ntmps58
  by_cases hd : sk = 1 ∨ tk = 1
  · have HF := Aside0.mk (show doesF st f ⟨sk, sn, ss, sks, sl⟩ ⟨tk, tn, ts, tks, tl⟩ = (!st || sk == tk, f) from if_pos hd)
    have s1 := HS2.out.z1
    have hd2 : (sk == 1) = false → (tk == 1) = true := fun h => by simp at h; simp; omega
    by_cases h1 : sk = 1
    · subst h1
      clear hd hd2
      cases st <;> (go_wp2_with (fail); go_ret; exact ⟨by rw [HF.out]; rfl, by rw [HF.out]; exact HS2.out.mp, HG2.out⟩)
    · obtain rfl : tk = 1 := by omega
      have h1b : (sk == 1) = false := by simp [h1]
      clear hd hd2 h1
      cases st <;> (go_wp2_with (fail); go_ret; exact ⟨by rw [HF.out]; simp [h1b], by rw [HF.out]; exact HS2.out.mp, HG2.out⟩)
  · have HD := Aside0.mk hd
    have h1b : (sk == 1) = false := by simp; omega
    have h2b : (tk == 1) = false := by simp; omega
    clear hd
    go_wp2_with (fail)
    have hblk := heap_alloc_new ((w.alloc (.cells #[.int .i64 sk, .int .i64 sn, .string ss, .slice Aks sks.length cks, .slice Als sl.length cls] 33)).alloc (.cells #[.int .i64 tk, .int .i64 tn, .string ts, .slice Akt tks.length ckt, .slice Alt tl.length clt] 33)) (.cells #[.nilFunc, .nilFunc, .func (.func 76) #[] #[], .func (.func 76) #[] #[], .func (.func 76) #[] #[], .func (.func 77) #[] #[], .nilFunc, .func (.func 78) #[] #[], .nilFunc, .func (.func 79) #[] #[]] 109)
    rw [World.size_alloc, World.size_alloc] at hblk
    have HS4 := Aside0.mk (HS2.out.alloc (.cells #[.nilFunc, .nilFunc, .func (.func 76) #[] #[], .func (.func 76) #[] #[], .func (.func 76) #[] #[], .func (.func 77) #[] #[], .nilFunc, .func (.func 78) #[] #[], .nilFunc, .func (.func 79) #[] #[]] 109))
    have HG4 := Aside0.mk (HG2.out.trans (World.grownBy_alloc ((w.alloc (.cells #[.int .i64 sk, .int .i64 sn, .string ss, .slice Aks sks.length cks, .slice Als sl.length cls] 33)).alloc (.cells #[.int .i64 tk, .int .i64 tn, .string ts, .slice Akt tks.length ckt, .slice Alt tl.length clt] 33)) (.cells #[.nilFunc, .nilFunc, .func (.func 76) #[] #[], .func (.func 76) #[] #[], .func (.func 76) #[] #[], .func (.func 77) #[] #[], .nilFunc, .func (.func 78) #[] #[], .nilFunc, .func (.func 79) #[] #[]] 109) (some m)))
    have hg := World.grownBy_alloc ((w.alloc (.cells #[.int .i64 sk, .int .i64 sn, .string ss, .slice Aks sks.length cks, .slice Als sl.length cls] 33)).alloc (.cells #[.int .i64 tk, .int .i64 tn, .string ts, .slice Akt tks.length ckt, .slice Alt tl.length clt] 33)) (.cells #[.nilFunc, .nilFunc, .func (.func 76) #[] #[], .func (.func 76) #[] #[], .func (.func 76) #[] #[], .func (.func 77) #[] #[], .nilFunc, .func (.func 78) #[] #[], .nilFunc, .func (.func 79) #[] #[]] 109) none
    have nn : ∀ q : Nat, some q ≠ none := fun q => by simp
    replace a0 := hg.cell a0 (nn _)
    replace a1 := hg.cell a1 (nn _)
    replace a2 := hg.cell a2 (nn _)
    replace a3 := hg.cell a3 (nn _)
    replace a4 := hg.cell a4 (nn _)
    replace b0 := hg.cell b0 (nn _)
    replace b1 := hg.cell b1 (nn _)
    replace b2 := hg.cell b2 (nn _)
    replace b3 := hg.cell b3 (nn _)
    replace b4 := hg.cell b4 (nn _)
    clear hg nn HS2 HG2 HBs HBt
    generalize ((w.alloc (.cells #[.int .i64 sk, .int .i64 sn, .string ss, .slice Aks sks.length cks, .slice Als sl.length cls] 33)).alloc (.cells #[.int .i64 tk, .int .i64 tn, .string ts, .slice Akt tks.length ckt, .slice Alt tl.length clt] 33)).alloc (.cells #[.nilFunc, .nilFunc, .func (.func 76) #[] #[], .func (.func 76) #[] #[], .func (.func 76) #[] #[], .func (.func 77) #[] #[], .nilFunc, .func (.func 78) #[] #[], .nilFunc, .func (.func 79) #[] #[]] 109) = W4 at hblk HS4 HG4 a0 a1 a2 a3 a4 b0 b1 b2 b3 b4 ⊢
    have hcell := fun i => blk_cell hblk i
    clear hblk
    by_cases hk : sk = tk
    · subst hk
      have HF := Aside0.mk (show doesF st f ⟨sk, sn, ss, sks, sl⟩ ⟨sk, tn, ts, tks, tl⟩ = (if sk = 5 then tagF f ⟨sk, sn, ss, sks, sl⟩ ⟨sk, tn, ts, tks, tl⟩ else if sk = 7 then recF ⟨sk, sn, ss, sks, sl⟩ ⟨sk, tn, ts, tks, tl⟩ tks 0 f else if sk = 9 then variableF f ⟨sk, sn, ss, sks, sl⟩ ⟨sk, tn, ts, tks, tl⟩ else (true, f)) by unfold doesF; rw [if_neg HD.out, if_pos rfl])
      have hkind : sk = 2 ∨ sk = 3 ∨ sk = 4 ∨ sk = 5 ∨ sk = 7 ∨ sk = 9 := by
        have h1 := HOs.out.kind
        have h2 := HE8.out
        have h3 := HD.out
        dsimp only at h1
        omega
      clear h1b h2b
      rcases hkind with rfl | rfl | rfl | rfl | rfl | rfl
      · have hcon : Rule 76 (fun f _ _ => (true, f)) ⟨2, sn, ss, sks, sl⟩ ⟨2, tn, ts, tks, tl⟩ := base_yes _ _
        have HF2 : Aside0 (doesF st f ⟨2, sn, ss, sks, sl⟩ ⟨2, tn, ts, tks, tl⟩ = ((true, f) : Bool × F2)) := ⟨by rw [HF.out, if_neg (by decide), if_neg (by decide), if_neg (by decide)]⟩
        clear HF
        have d0 : W4.cell? ⟨w.heap.size + 1 + 1, 2, none⟩ = some (.func (.func 76) #[] #[]) := (hcell 2).trans rfl
        clear hcell
        refine start_ (n := 16) (S := fun w' => w'.cell? ⟨w.heap.size, 0, none⟩ = some (.int .i64 2) ∧ w'.cell? ⟨w.heap.size, 1, none⟩ = some (.int .i64 sn) ∧ w'.cell? ⟨w.heap.size, 2, none⟩ = some (.string ss) ∧ w'.cell? ⟨w.heap.size, 3, none⟩ = some (.slice Aks sks.length cks) ∧ w'.cell? ⟨w.heap.size, 4, none⟩ = some (.slice Als sl.length cls) ∧ w'.cell? ⟨w.heap.size + 1, 0, none⟩ = some (.int .i64 2) ∧ w'.cell? ⟨w.heap.size + 1, 1, none⟩ = some (.int .i64 tn) ∧ w'.cell? ⟨w.heap.size + 1, 2, none⟩ = some (.string ts) ∧ w'.cell? ⟨w.heap.size + 1, 3, none⟩ = some (.slice Akt tks.length ckt) ∧ w'.cell? ⟨w.heap.size + 1, 4, none⟩ = some (.slice Alt tl.length clt) ∧ w'.cell? ⟨w.heap.size + 1 + 1, 2, none⟩ = some (.func (.func 76) #[] #[])) (ds := [13]) #[φ,φ,φ,φ,φ,φ,φ,φ,φ,φ,φ,φ,φ,φ,φ,φ] (by kernel_rfl) rfl rfl ⟨a0, a1, a2, a3, a4, b0, b1, b2, b3, b4, d0⟩ (fun hHeld => ?_)
        refine with_tabW dz4.tab4 dz4.bits4 (fun HT_ HW_ => ?_)
        refine pure_ (i := 0) (N := some 29) (v := ?_) (a' := ?_) #[τ,φ,φ,φ,φ,φ,φ,φ,φ,φ,φ,φ,φ,φ,φ,φ] rfl rfl (any_of HT_.out (by kernel_rfl)) (fun _ _ _ h => h) (Or.inl ⟨by rfl, ?_⟩) ?_ ?_
        rotate_left; (intro w'; go_simp; with_reducible rfl); rotate_left; (simp only [Act.put, zz1, zz2, zz3, i64_w, i32_w]; rfl)
        refine pure_ (i := 2) (N := some 31) (v := ?_) (a' := ?_) #[τ,φ,τ,φ,φ,φ,φ,φ,φ,φ,φ,φ,φ,φ,φ,φ] rfl rfl (any_of HT_.out (by kernel_rfl)) (fun _ _ _ h => h) (Or.inl ⟨by rfl, ?_⟩) ?_ ?_
        rotate_left; (intro w'; go_simp; with_reducible rfl); rotate_left; (simp only [Act.put, zz1, zz2, zz3, i64_w, i32_w]; rfl)
        refine take_ (i := 1) (N := some 30) (v := ?_) (a' := ?_) #[τ,τ,τ,φ,φ,φ,φ,φ,φ,φ,φ,φ,φ,φ,φ,φ] rfl rfl (take_ofW HT_.out HW_.out (by kernel_rfl)) (fun _ _ _ h => h) (Or.inl ⟨by rfl, ?_⟩) hHeld ?_ ?_
        rotate_left; (rintro w' ⟨s0, s1, s2, s3, s4, s5, s6, s7, s8, s9, s10⟩; go_simp; with_reducible rfl); rotate_left; (simp only [Act.put, zz1, zz2, zz3, i64_w, i32_w]; rfl)
        refine take_ (i := 3) (N := some 32) (v := ?_) (a' := ?_) #[τ,τ,τ,τ,φ,φ,φ,φ,φ,φ,φ,φ,φ,φ,φ,φ] rfl rfl (take_ofW HT_.out HW_.out (by kernel_rfl)) (fun _ _ _ h => h) (Or.inl ⟨by rfl, ?_⟩) hHeld ?_ ?_
        rotate_left; (rintro w' ⟨s0, s1, s2, s3, s4, s5, s6, s7, s8, s9, s10⟩; go_simp; with_reducible rfl); rotate_left; (simp only [Act.put, zz1, zz2, zz3, i64_w, i32_w]; rfl)
        refine pure_ (i := 4) (N := some 33) (v := ?_) (a' := ?_) #[τ,τ,τ,τ,τ,φ,φ,φ,φ,φ,φ,φ,φ,φ,φ,φ] rfl rfl (any_of HT_.out (by kernel_rfl)) (fun _ _ _ h => h) (Or.inl ⟨by rfl, ?_⟩) ?_ ?_
        rotate_left; (intro w'; go_simp; with_reducible rfl); rotate_left; (simp only [Act.put, zz1, zz2, zz3, i64_w, i32_w]; rfl)
        refine pure_ (i := 5) (N := some 34) (v := ?_) (a' := ?_) #[τ,τ,τ,τ,τ,τ,φ,φ,φ,φ,φ,φ,φ,φ,φ,φ] rfl rfl (any_of HT_.out (by kernel_rfl)) (fun _ _ _ h => h) (Or.inl ⟨by rfl, ?_⟩) ?_ ?_
        rotate_left; (intro w'; go_simp; with_reducible rfl); rotate_left; (simp only [Act.put, zz1, zz2, zz3, i64_w, i32_w]; rfl)
        refine pure_ (i := 6) (N := some 35) (v := ?_) (a' := ?_) #[τ,τ,τ,τ,τ,τ,τ,φ,φ,φ,φ,φ,φ,φ,φ,φ] rfl rfl (any_of HT_.out (by kernel_rfl)) (fun _ _ _ h => h) (Or.inl ⟨by rfl, ?_⟩) ?_ ?_
        rotate_left; (intro w'; go_simp; with_reducible rfl); rotate_left; (simp only [Act.put, zz1, zz2, zz3, i64_w, i32_w]; rfl)
        refine pure_ (i := 10) (N := some 39) (v := ?_) (a' := ?_) #[τ,τ,τ,τ,τ,τ,τ,φ,φ,φ,τ,φ,φ,φ,φ,φ] rfl rfl (any_of HT_.out (by kernel_rfl)) (fun _ _ _ h => h) (Or.inl ⟨by rfl, ?_⟩) ?_ ?_
        rotate_left; (intro w'; go_simp; with_reducible rfl); rotate_left; (simp only [Act.put, zz1, zz2, zz3, i64_w, i32_w]; rfl)
        refine take_ (i := 7) (N := some 36) (v := ?_) (a' := ?_) #[τ,τ,τ,τ,τ,τ,τ,τ,φ,φ,τ,φ,φ,φ,φ,φ] rfl rfl (take_ofW HT_.out HW_.out (by kernel_rfl)) (fun _ _ _ h => h) (Or.inl ⟨by rfl, ?_⟩) hHeld ?_ ?_
        rotate_left; (rintro w' ⟨s0, s1, s2, s3, s4, s5, s6, s7, s8, s9, s10⟩; go_simp; with_reducible rfl); rotate_left; (simp only [Act.put, zz1, zz2, zz3, i64_w, i32_w]; rfl)
        refine pure_ (i := 8) (N := some 37) (v := ?_) (a' := ?_) #[τ,τ,τ,τ,τ,τ,τ,τ,τ,φ,τ,φ,φ,φ,φ,φ] rfl rfl (any_of HT_.out (by kernel_rfl)) (fun _ _ _ h => h) (Or.inl ⟨by rfl, ?_⟩) ?_ ?_
        rotate_left; (intro w'; go_simp; with_reducible rfl); rotate_left; (simp only [Act.put, zz1, zz2, zz3, i64_w, i32_w]; rfl)
        refine take_ (i := 9) (N := some 38) (v := ?_) (a' := ?_) #[τ,τ,τ,τ,τ,τ,τ,τ,τ,τ,τ,φ,φ,φ,φ,φ] rfl rfl (take_ofW HT_.out HW_.out (by kernel_rfl)) (fun _ _ _ h => h) (Or.inl ⟨by rfl, ?_⟩) hHeld ?_ ?_
        rotate_left; (rintro w' ⟨s0, s1, s2, s3, s4, s5, s6, s7, s8, s9, s10⟩; go_simp; with_reducible rfl); rotate_left; (simp only [Act.put, zz1, zz2, zz3, i64_w, i32_w]; rfl)
        refine take_ (i := 11) (N := some 40) (v := ?_) (a' := ?_) #[τ,τ,τ,τ,τ,τ,τ,τ,τ,τ,τ,τ,φ,φ,φ,φ] rfl rfl (take_ofW HT_.out HW_.out (by kernel_rfl)) (fun _ _ _ h => h) (Or.inl ⟨by rfl, ?_⟩) hHeld ?_ ?_
        rotate_left; (rintro w' ⟨s0, s1, s2, s3, s4, s5, s6, s7, s8, s9, s10⟩; go_simp; with_reducible rfl); rotate_left; (simp only [Act.put, zz1, zz2, zz3, i64_w, i32_w]; rfl)
        refine take_ (i := 12) (N := some 41) (v := ?_) (a' := ?_) #[τ,τ,τ,τ,τ,τ,τ,τ,τ,τ,τ,τ,τ,φ,φ,φ] rfl rfl (take_ofW HT_.out HW_.out (by kernel_rfl)) (fun _ _ _ h => h) (Or.inl ⟨by rfl, ?_⟩) hHeld ?_ ?_
        rotate_left; (rintro w' ⟨s0, s1, s2, s3, s4, s5, s6, s7, s8, s9, s10⟩; go_simp; with_reducible rfl); rotate_left; (simp only [Act.put, zz1, zz2, zz3, i64_w, i32_w]; rfl)
        refine last_ (i := 13) (N := some 42) #[τ,τ,τ,τ,τ,τ,τ,τ,τ,τ,τ,τ,τ,τ,φ,φ] rfl rfl (one_of HT_.out (by kernel_rfl)) (by decide) (fun K hK => ?_)
        refine L0.goesV_ Tryd.func76 (by kernel_rfl) rfl #[.pointer (some ⟨sb, 0, none⟩), .agg #[.int .i64 2, .int .i64 sn, .string ss, .slice Aks sks.length cks, .slice Als sl.length cls], .agg #[.int .i64 2, .int .i64 tn, .string ts, .slice Akt tks.length ckt, .slice Alt tl.length clt]] (by rfl) rfl rfl (by rfl) (by simp only [List.map_toArray, List.map_cons, List.map_nil]; rfl) ?_
        with_reducible refine (hcon w0 _ sb m A0 c0 g st f HS4.out.drew HSr.out HTr.out Aks cks Als cls Akt ckt Alt clt HNs.out HNt.out).mono ?_
        rintro e w3 ⟨rfl, hm, hg⟩
        refine ⟨_, rfl, ?_⟩
        have HM3 := Aside0.mk hm
        have HG3 := Aside0.mk ((grown_drew HG4.out).trans hg)
        clear hm hg
        refine hK.out _ _ ?_
        clear hK K
        refine norm_ (a' := ?_) ?_ ?_
        rotate_left
        · show Act.put _ (some 42) _ = _
          simp only [Act.put, zz1, zz2, zz3, i64_w, i32_w]
          rfl
        refine pure_ (i := 14) (N := some 43) (v := ?_) (a' := ?_) #[τ,τ,τ,τ,τ,τ,τ,τ,τ,τ,τ,τ,τ,τ,τ,φ] rfl rfl (any_of HT_.out (by kernel_rfl)) (fun _ _ _ h => h) (Or.inl ⟨by rfl, ?_⟩) ?_ ?_
        rotate_left; (intro w'; go_simp; with_reducible rfl); rotate_left; (simp only [Act.put, zz1, zz2, zz3, i64_w, i32_w]; rfl)
        refine pure_ (i := 15) (N := some 6) (v := ?_) (a' := ?_) #[τ,τ,τ,τ,τ,τ,τ,τ,τ,τ,τ,τ,τ,τ,τ,τ] rfl rfl (any_of HT_.out (by kernel_rfl)) (fun _ _ _ h => h) (Or.inl ⟨by rfl, ?_⟩) ?_ ?_
        rotate_left; (intro w'; go_simp; with_reducible rfl); rotate_left; (simp only [Act.put, zz1, zz2, zz3, i64_w, i32_w]; rfl)
        refine done_ (done_of HT_.out (by kernel_rfl)) ?_
        go_wp2_with (fail)
        go_ret
        exact ⟨by rw [HF2.out]; first | rfl | (cases (((true, f) : Bool × F2)).1 <;> rfl), by rw [HF2.out]; exact HM3.out, HG3.out⟩
      · have hcon : Rule 76 (fun f _ _ => (true, f)) ⟨3, sn, ss, sks, sl⟩ ⟨3, tn, ts, tks, tl⟩ := base_yes _ _
        have HF2 : Aside0 (doesF st f ⟨3, sn, ss, sks, sl⟩ ⟨3, tn, ts, tks, tl⟩ = ((true, f) : Bool × F2)) := ⟨by rw [HF.out, if_neg (by decide), if_neg (by decide), if_neg (by decide)]⟩
        clear HF
        have d0 : W4.cell? ⟨w.heap.size + 1 + 1, 3, none⟩ = some (.func (.func 76) #[] #[]) := (hcell 3).trans rfl
        clear hcell
        refine start_ (n := 16) (S := fun w' => w'.cell? ⟨w.heap.size, 0, none⟩ = some (.int .i64 3) ∧ w'.cell? ⟨w.heap.size, 1, none⟩ = some (.int .i64 sn) ∧ w'.cell? ⟨w.heap.size, 2, none⟩ = some (.string ss) ∧ w'.cell? ⟨w.heap.size, 3, none⟩ = some (.slice Aks sks.length cks) ∧ w'.cell? ⟨w.heap.size, 4, none⟩ = some (.slice Als sl.length cls) ∧ w'.cell? ⟨w.heap.size + 1, 0, none⟩ = some (.int .i64 3) ∧ w'.cell? ⟨w.heap.size + 1, 1, none⟩ = some (.int .i64 tn) ∧ w'.cell? ⟨w.heap.size + 1, 2, none⟩ = some (.string ts) ∧ w'.cell? ⟨w.heap.size + 1, 3, none⟩ = some (.slice Akt tks.length ckt) ∧ w'.cell? ⟨w.heap.size + 1, 4, none⟩ = some (.slice Alt tl.length clt) ∧ w'.cell? ⟨w.heap.size + 1 + 1, 3, none⟩ = some (.func (.func 76) #[] #[])) (ds := [13]) #[φ,φ,φ,φ,φ,φ,φ,φ,φ,φ,φ,φ,φ,φ,φ,φ] (by kernel_rfl) rfl rfl ⟨a0, a1, a2, a3, a4, b0, b1, b2, b3, b4, d0⟩ (fun hHeld => ?_)
        refine with_tabW dz4.tab4 dz4.bits4 (fun HT_ HW_ => ?_)
        refine pure_ (i := 0) (N := some 29) (v := ?_) (a' := ?_) #[τ,φ,φ,φ,φ,φ,φ,φ,φ,φ,φ,φ,φ,φ,φ,φ] rfl rfl (any_of HT_.out (by kernel_rfl)) (fun _ _ _ h => h) (Or.inl ⟨by rfl, ?_⟩) ?_ ?_
        rotate_left; (intro w'; go_simp; with_reducible rfl); rotate_left; (simp only [Act.put, zz1, zz2, zz3, i64_w, i32_w]; rfl)
        refine pure_ (i := 2) (N := some 31) (v := ?_) (a' := ?_) #[τ,φ,τ,φ,φ,φ,φ,φ,φ,φ,φ,φ,φ,φ,φ,φ] rfl rfl (any_of HT_.out (by kernel_rfl)) (fun _ _ _ h => h) (Or.inl ⟨by rfl, ?_⟩) ?_ ?_
        rotate_left; (intro w'; go_simp; with_reducible rfl); rotate_left; (simp only [Act.put, zz1, zz2, zz3, i64_w, i32_w]; rfl)
        refine take_ (i := 1) (N := some 30) (v := ?_) (a' := ?_) #[τ,τ,τ,φ,φ,φ,φ,φ,φ,φ,φ,φ,φ,φ,φ,φ] rfl rfl (take_ofW HT_.out HW_.out (by kernel_rfl)) (fun _ _ _ h => h) (Or.inl ⟨by rfl, ?_⟩) hHeld ?_ ?_
        rotate_left; (rintro w' ⟨s0, s1, s2, s3, s4, s5, s6, s7, s8, s9, s10⟩; go_simp; with_reducible rfl); rotate_left; (simp only [Act.put, zz1, zz2, zz3, i64_w, i32_w]; rfl)
        refine take_ (i := 3) (N := some 32) (v := ?_) (a' := ?_) #[τ,τ,τ,τ,φ,φ,φ,φ,φ,φ,φ,φ,φ,φ,φ,φ] rfl rfl (take_ofW HT_.out HW_.out (by kernel_rfl)) (fun _ _ _ h => h) (Or.inl ⟨by rfl, ?_⟩) hHeld ?_ ?_
        rotate_left; (rintro w' ⟨s0, s1, s2, s3, s4, s5, s6, s7, s8, s9, s10⟩; go_simp; with_reducible rfl); rotate_left; (simp only [Act.put, zz1, zz2, zz3, i64_w, i32_w]; rfl)
        refine pure_ (i := 4) (N := some 33) (v := ?_) (a' := ?_) #[τ,τ,τ,τ,τ,φ,φ,φ,φ,φ,φ,φ,φ,φ,φ,φ] rfl rfl (any_of HT_.out (by kernel_rfl)) (fun _ _ _ h => h) (Or.inl ⟨by rfl, ?_⟩) ?_ ?_
        rotate_left; (intro w'; go_simp; with_reducible rfl); rotate_left; (simp only [Act.put, zz1, zz2, zz3, i64_w, i32_w]; rfl)
        refine pure_ (i := 5) (N := some 34) (v := ?_) (a' := ?_) #[τ,τ,τ,τ,τ,τ,φ,φ,φ,φ,φ,φ,φ,φ,φ,φ] rfl rfl (any_of HT_.out (by kernel_rfl)) (fun _ _ _ h => h) (Or.inl ⟨by rfl, ?_⟩) ?_ ?_
        rotate_left; (intro w'; go_simp; with_reducible rfl); rotate_left; (simp only [Act.put, zz1, zz2, zz3, i64_w, i32_w]; rfl)
        refine pure_ (i := 6) (N := some 35) (v := ?_) (a' := ?_) #[τ,τ,τ,τ,τ,τ,τ,φ,φ,φ,φ,φ,φ,φ,φ,φ] rfl rfl (any_of HT_.out (by kernel_rfl)) (fun _ _ _ h => h) (Or.inl ⟨by rfl, ?_⟩) ?_ ?_
        rotate_left; (intro w'; go_simp; with_reducible rfl); rotate_left; (simp only [Act.put, zz1, zz2, zz3, i64_w, i32_w]; rfl)
        refine pure_ (i := 10) (N := some 39) (v := ?_) (a' := ?_) #[τ,τ,τ,τ,τ,τ,τ,φ,φ,φ,τ,φ,φ,φ,φ,φ] rfl rfl (any_of HT_.out (by kernel_rfl)) (fun _ _ _ h => h) (Or.inl ⟨by rfl, ?_⟩) ?_ ?_
        rotate_left; (intro w'; go_simp; with_reducible rfl); rotate_left; (simp only [Act.put, zz1, zz2, zz3, i64_w, i32_w]; rfl)
        refine take_ (i := 7) (N := some 36) (v := ?_) (a' := ?_) #[τ,τ,τ,τ,τ,τ,τ,τ,φ,φ,τ,φ,φ,φ,φ,φ] rfl rfl (take_ofW HT_.out HW_.out (by kernel_rfl)) (fun _ _ _ h => h) (Or.inl ⟨by rfl, ?_⟩) hHeld ?_ ?_
        rotate_left; (rintro w' ⟨s0, s1, s2, s3, s4, s5, s6, s7, s8, s9, s10⟩; go_simp; with_reducible rfl); rotate_left; (simp only [Act.put, zz1, zz2, zz3, i64_w, i32_w]; rfl)
        refine pure_ (i := 8) (N := some 37) (v := ?_) (a' := ?_) #[τ,τ,τ,τ,τ,τ,τ,τ,τ,φ,τ,φ,φ,φ,φ,φ] rfl rfl (any_of HT_.out (by kernel_rfl)) (fun _ _ _ h => h) (Or.inl ⟨by rfl, ?_⟩) ?_ ?_
        rotate_left; (intro w'; go_simp; with_reducible rfl); rotate_left; (simp only [Act.put, zz1, zz2, zz3, i64_w, i32_w]; rfl)
        refine take_ (i := 9) (N := some 38) (v := ?_) (a' := ?_) #[τ,τ,τ,τ,τ,τ,τ,τ,τ,τ,τ,φ,φ,φ,φ,φ] rfl rfl (take_ofW HT_.out HW_.out (by kernel_rfl)) (fun _ _ _ h => h) (Or.inl ⟨by rfl, ?_⟩) hHeld ?_ ?_
        rotate_left; (rintro w' ⟨s0, s1, s2, s3, s4, s5, s6, s7, s8, s9, s10⟩; go_simp; with_reducible rfl); rotate_left; (simp only [Act.put, zz1, zz2, zz3, i64_w, i32_w]; rfl)
        refine take_ (i := 11) (N := some 40) (v := ?_) (a' := ?_) #[τ,τ,τ,τ,τ,τ,τ,τ,τ,τ,τ,τ,φ,φ,φ,φ] rfl rfl (take_ofW HT_.out HW_.out (by kernel_rfl)) (fun _ _ _ h => h) (Or.inl ⟨by rfl, ?_⟩) hHeld ?_ ?_
        rotate_left; (rintro w' ⟨s0, s1, s2, s3, s4, s5, s6, s7, s8, s9, s10⟩; go_simp; with_reducible rfl); rotate_left; (simp only [Act.put, zz1, zz2, zz3, i64_w, i32_w]; rfl)
        refine take_ (i := 12) (N := some 41) (v := ?_) (a' := ?_) #[τ,τ,τ,τ,τ,τ,τ,τ,τ,τ,τ,τ,τ,φ,φ,φ] rfl rfl (take_ofW HT_.out HW_.out (by kernel_rfl)) (fun _ _ _ h => h) (Or.inl ⟨by rfl, ?_⟩) hHeld ?_ ?_
        rotate_left; (rintro w' ⟨s0, s1, s2, s3, s4, s5, s6, s7, s8, s9, s10⟩; go_simp; with_reducible rfl); rotate_left; (simp only [Act.put, zz1, zz2, zz3, i64_w, i32_w]; rfl)
        refine last_ (i := 13) (N := some 42) #[τ,τ,τ,τ,τ,τ,τ,τ,τ,τ,τ,τ,τ,τ,φ,φ] rfl rfl (one_of HT_.out (by kernel_rfl)) (by decide) (fun K hK => ?_)
        refine L0.goesV_ Tryd.func76 (by kernel_rfl) rfl #[.pointer (some ⟨sb, 0, none⟩), .agg #[.int .i64 3, .int .i64 sn, .string ss, .slice Aks sks.length cks, .slice Als sl.length cls], .agg #[.int .i64 3, .int .i64 tn, .string ts, .slice Akt tks.length ckt, .slice Alt tl.length clt]] (by rfl) rfl rfl (by rfl) (by simp only [List.map_toArray, List.map_cons, List.map_nil]; rfl) ?_
        with_reducible refine (hcon w0 _ sb m A0 c0 g st f HS4.out.drew HSr.out HTr.out Aks cks Als cls Akt ckt Alt clt HNs.out HNt.out).mono ?_
        rintro e w3 ⟨rfl, hm, hg⟩
        refine ⟨_, rfl, ?_⟩
        have HM3 := Aside0.mk hm
        have HG3 := Aside0.mk ((grown_drew HG4.out).trans hg)
        clear hm hg
        refine hK.out _ _ ?_
        clear hK K
        refine norm_ (a' := ?_) ?_ ?_
        rotate_left
        · show Act.put _ (some 42) _ = _
          simp only [Act.put, zz1, zz2, zz3, i64_w, i32_w]
          rfl
        refine pure_ (i := 14) (N := some 43) (v := ?_) (a' := ?_) #[τ,τ,τ,τ,τ,τ,τ,τ,τ,τ,τ,τ,τ,τ,τ,φ] rfl rfl (any_of HT_.out (by kernel_rfl)) (fun _ _ _ h => h) (Or.inl ⟨by rfl, ?_⟩) ?_ ?_
        rotate_left; (intro w'; go_simp; with_reducible rfl); rotate_left; (simp only [Act.put, zz1, zz2, zz3, i64_w, i32_w]; rfl)
        refine pure_ (i := 15) (N := some 6) (v := ?_) (a' := ?_) #[τ,τ,τ,τ,τ,τ,τ,τ,τ,τ,τ,τ,τ,τ,τ,τ] rfl rfl (any_of HT_.out (by kernel_rfl)) (fun _ _ _ h => h) (Or.inl ⟨by rfl, ?_⟩) ?_ ?_
        rotate_left; (intro w'; go_simp; with_reducible rfl); rotate_left; (simp only [Act.put, zz1, zz2, zz3, i64_w, i32_w]; rfl)
        refine done_ (done_of HT_.out (by kernel_rfl)) ?_
        go_wp2_with (fail)
        go_ret
        exact ⟨by rw [HF2.out]; first | rfl | (cases (((true, f) : Bool × F2)).1 <;> rfl), by rw [HF2.out]; exact HM3.out, HG3.out⟩
      · have hcon : Rule 76 (fun f _ _ => (true, f)) ⟨4, sn, ss, sks, sl⟩ ⟨4, tn, ts, tks, tl⟩ := base_yes _ _
        have HF2 : Aside0 (doesF st f ⟨4, sn, ss, sks, sl⟩ ⟨4, tn, ts, tks, tl⟩ = ((true, f) : Bool × F2)) := ⟨by rw [HF.out, if_neg (by decide), if_neg (by decide), if_neg (by decide)]⟩
        clear HF
        have d0 : W4.cell? ⟨w.heap.size + 1 + 1, 4, none⟩ = some (.func (.func 76) #[] #[]) := (hcell 4).trans rfl
        clear hcell
        refine start_ (n := 16) (S := fun w' => w'.cell? ⟨w.heap.size, 0, none⟩ = some (.int .i64 4) ∧ w'.cell? ⟨w.heap.size, 1, none⟩ = some (.int .i64 sn) ∧ w'.cell? ⟨w.heap.size, 2, none⟩ = some (.string ss) ∧ w'.cell? ⟨w.heap.size, 3, none⟩ = some (.slice Aks sks.length cks) ∧ w'.cell? ⟨w.heap.size, 4, none⟩ = some (.slice Als sl.length cls) ∧ w'.cell? ⟨w.heap.size + 1, 0, none⟩ = some (.int .i64 4) ∧ w'.cell? ⟨w.heap.size + 1, 1, none⟩ = some (.int .i64 tn) ∧ w'.cell? ⟨w.heap.size + 1, 2, none⟩ = some (.string ts) ∧ w'.cell? ⟨w.heap.size + 1, 3, none⟩ = some (.slice Akt tks.length ckt) ∧ w'.cell? ⟨w.heap.size + 1, 4, none⟩ = some (.slice Alt tl.length clt) ∧ w'.cell? ⟨w.heap.size + 1 + 1, 4, none⟩ = some (.func (.func 76) #[] #[])) (ds := [13]) #[φ,φ,φ,φ,φ,φ,φ,φ,φ,φ,φ,φ,φ,φ,φ,φ] (by kernel_rfl) rfl rfl ⟨a0, a1, a2, a3, a4, b0, b1, b2, b3, b4, d0⟩ (fun hHeld => ?_)
        refine with_tabW dz4.tab4 dz4.bits4 (fun HT_ HW_ => ?_)
        refine pure_ (i := 0) (N := some 29) (v := ?_) (a' := ?_) #[τ,φ,φ,φ,φ,φ,φ,φ,φ,φ,φ,φ,φ,φ,φ,φ] rfl rfl (any_of HT_.out (by kernel_rfl)) (fun _ _ _ h => h) (Or.inl ⟨by rfl, ?_⟩) ?_ ?_
        rotate_left; (intro w'; go_simp; with_reducible rfl); rotate_left; (simp only [Act.put, zz1, zz2, zz3, i64_w, i32_w]; rfl)
        refine pure_ (i := 2) (N := some 31) (v := ?_) (a' := ?_) #[τ,φ,τ,φ,φ,φ,φ,φ,φ,φ,φ,φ,φ,φ,φ,φ] rfl rfl (any_of HT_.out (by kernel_rfl)) (fun _ _ _ h => h) (Or.inl ⟨by rfl, ?_⟩) ?_ ?_
        rotate_left; (intro w'; go_simp; with_reducible rfl); rotate_left; (simp only [Act.put, zz1, zz2, zz3, i64_w, i32_w]; rfl)
        refine take_ (i := 1) (N := some 30) (v := ?_) (a' := ?_) #[τ,τ,τ,φ,φ,φ,φ,φ,φ,φ,φ,φ,φ,φ,φ,φ] rfl rfl (take_ofW HT_.out HW_.out (by kernel_rfl)) (fun _ _ _ h => h) (Or.inl ⟨by rfl, ?_⟩) hHeld ?_ ?_
        rotate_left; (rintro w' ⟨s0, s1, s2, s3, s4, s5, s6, s7, s8, s9, s10⟩; go_simp; with_reducible rfl); rotate_left; (simp only [Act.put, zz1, zz2, zz3, i64_w, i32_w]; rfl)
        refine take_ (i := 3) (N := some 32) (v := ?_) (a' := ?_) #[τ,τ,τ,τ,φ,φ,φ,φ,φ,φ,φ,φ,φ,φ,φ,φ] rfl rfl (take_ofW HT_.out HW_.out (by kernel_rfl)) (fun _ _ _ h => h) (Or.inl ⟨by rfl, ?_⟩) hHeld ?_ ?_
        rotate_left; (rintro w' ⟨s0, s1, s2, s3, s4, s5, s6, s7, s8, s9, s10⟩; go_simp; with_reducible rfl); rotate_left; (simp only [Act.put, zz1, zz2, zz3, i64_w, i32_w]; rfl)
        refine pure_ (i := 4) (N := some 33) (v := ?_) (a' := ?_) #[τ,τ,τ,τ,τ,φ,φ,φ,φ,φ,φ,φ,φ,φ,φ,φ] rfl rfl (any_of HT_.out (by kernel_rfl)) (fun _ _ _ h => h) (Or.inl ⟨by rfl, ?_⟩) ?_ ?_
        rotate_left; (intro w'; go_simp; with_reducible rfl); rotate_left; (simp only [Act.put, zz1, zz2, zz3, i64_w, i32_w]; rfl)
        refine pure_ (i := 5) (N := some 34) (v := ?_) (a' := ?_) #[τ,τ,τ,τ,τ,τ,φ,φ,φ,φ,φ,φ,φ,φ,φ,φ] rfl rfl (any_of HT_.out (by kernel_rfl)) (fun _ _ _ h => h) (Or.inl ⟨by rfl, ?_⟩) ?_ ?_
        rotate_left; (intro w'; go_simp; with_reducible rfl); rotate_left; (simp only [Act.put, zz1, zz2, zz3, i64_w, i32_w]; rfl)
        refine pure_ (i := 6) (N := some 35) (v := ?_) (a' := ?_) #[τ,τ,τ,τ,τ,τ,τ,φ,φ,φ,φ,φ,φ,φ,φ,φ] rfl rfl (any_of HT_.out (by kernel_rfl)) (fun _ _ _ h => h) (Or.inl ⟨by rfl, ?_⟩) ?_ ?_
        rotate_left; (intro w'; go_simp; with_reducible rfl); rotate_left; (simp only [Act.put, zz1, zz2, zz3, i64_w, i32_w]; rfl)
        refine pure_ (i := 10) (N := some 39) (v := ?_) (a' := ?_) #[τ,τ,τ,τ,τ,τ,τ,φ,φ,φ,τ,φ,φ,φ,φ,φ] rfl rfl (any_of HT_.out (by kernel_rfl)) (fun _ _ _ h => h) (Or.inl ⟨by rfl, ?_⟩) ?_ ?_
        rotate_left; (intro w'; go_simp; with_reducible rfl); rotate_left; (simp only [Act.put, zz1, zz2, zz3, i64_w, i32_w]; rfl)
        refine take_ (i := 7) (N := some 36) (v := ?_) (a' := ?_) #[τ,τ,τ,τ,τ,τ,τ,τ,φ,φ,τ,φ,φ,φ,φ,φ] rfl rfl (take_ofW HT_.out HW_.out (by kernel_rfl)) (fun _ _ _ h => h) (Or.inl ⟨by rfl, ?_⟩) hHeld ?_ ?_
        rotate_left; (rintro w' ⟨s0, s1, s2, s3, s4, s5, s6, s7, s8, s9, s10⟩; go_simp; with_reducible rfl); rotate_left; (simp only [Act.put, zz1, zz2, zz3, i64_w, i32_w]; rfl)
        refine pure_ (i := 8) (N := some 37) (v := ?_) (a' := ?_) #[τ,τ,τ,τ,τ,τ,τ,τ,τ,φ,τ,φ,φ,φ,φ,φ] rfl rfl (any_of HT_.out (by kernel_rfl)) (fun _ _ _ h => h) (Or.inl ⟨by rfl, ?_⟩) ?_ ?_
        rotate_left; (intro w'; go_simp; with_reducible rfl); rotate_left; (simp only [Act.put, zz1, zz2, zz3, i64_w, i32_w]; rfl)
        refine take_ (i := 9) (N := some 38) (v := ?_) (a' := ?_) #[τ,τ,τ,τ,τ,τ,τ,τ,τ,τ,τ,φ,φ,φ,φ,φ] rfl rfl (take_ofW HT_.out HW_.out (by kernel_rfl)) (fun _ _ _ h => h) (Or.inl ⟨by rfl, ?_⟩) hHeld ?_ ?_
        rotate_left; (rintro w' ⟨s0, s1, s2, s3, s4, s5, s6, s7, s8, s9, s10⟩; go_simp; with_reducible rfl); rotate_left; (simp only [Act.put, zz1, zz2, zz3, i64_w, i32_w]; rfl)
        refine take_ (i := 11) (N := some 40) (v := ?_) (a' := ?_) #[τ,τ,τ,τ,τ,τ,τ,τ,τ,τ,τ,τ,φ,φ,φ,φ] rfl rfl (take_ofW HT_.out HW_.out (by kernel_rfl)) (fun _ _ _ h => h) (Or.inl ⟨by rfl, ?_⟩) hHeld ?_ ?_
        rotate_left; (rintro w' ⟨s0, s1, s2, s3, s4, s5, s6, s7, s8, s9, s10⟩; go_simp; with_reducible rfl); rotate_left; (simp only [Act.put, zz1, zz2, zz3, i64_w, i32_w]; rfl)
        refine take_ (i := 12) (N := some 41) (v := ?_) (a' := ?_) #[τ,τ,τ,τ,τ,τ,τ,τ,τ,τ,τ,τ,τ,φ,φ,φ] rfl rfl (take_ofW HT_.out HW_.out (by kernel_rfl)) (fun _ _ _ h => h) (Or.inl ⟨by rfl, ?_⟩) hHeld ?_ ?_
        rotate_left; (rintro w' ⟨s0, s1, s2, s3, s4, s5, s6, s7, s8, s9, s10⟩; go_simp; with_reducible rfl); rotate_left; (simp only [Act.put, zz1, zz2, zz3, i64_w, i32_w]; rfl)
        refine last_ (i := 13) (N := some 42) #[τ,τ,τ,τ,τ,τ,τ,τ,τ,τ,τ,τ,τ,τ,φ,φ] rfl rfl (one_of HT_.out (by kernel_rfl)) (by decide) (fun K hK => ?_)
        refine L0.goesV_ Tryd.func76 (by kernel_rfl) rfl #[.pointer (some ⟨sb, 0, none⟩), .agg #[.int .i64 4, .int .i64 sn, .string ss, .slice Aks sks.length cks, .slice Als sl.length cls], .agg #[.int .i64 4, .int .i64 tn, .string ts, .slice Akt tks.length ckt, .slice Alt tl.length clt]] (by rfl) rfl rfl (by rfl) (by simp only [List.map_toArray, List.map_cons, List.map_nil]; rfl) ?_
        with_reducible refine (hcon w0 _ sb m A0 c0 g st f HS4.out.drew HSr.out HTr.out Aks cks Als cls Akt ckt Alt clt HNs.out HNt.out).mono ?_
        rintro e w3 ⟨rfl, hm, hg⟩
        refine ⟨_, rfl, ?_⟩
        have HM3 := Aside0.mk hm
        have HG3 := Aside0.mk ((grown_drew HG4.out).trans hg)
        clear hm hg
        refine hK.out _ _ ?_
        clear hK K
        refine norm_ (a' := ?_) ?_ ?_
        rotate_left
        · show Act.put _ (some 42) _ = _
          simp only [Act.put, zz1, zz2, zz3, i64_w, i32_w]
          rfl
        refine pure_ (i := 14) (N := some 43) (v := ?_) (a' := ?_) #[τ,τ,τ,τ,τ,τ,τ,τ,τ,τ,τ,τ,τ,τ,τ,φ] rfl rfl (any_of HT_.out (by kernel_rfl)) (fun _ _ _ h => h) (Or.inl ⟨by rfl, ?_⟩) ?_ ?_
        rotate_left; (intro w'; go_simp; with_reducible rfl); rotate_left; (simp only [Act.put, zz1, zz2, zz3, i64_w, i32_w]; rfl)
        refine pure_ (i := 15) (N := some 6) (v := ?_) (a' := ?_) #[τ,τ,τ,τ,τ,τ,τ,τ,τ,τ,τ,τ,τ,τ,τ,τ] rfl rfl (any_of HT_.out (by kernel_rfl)) (fun _ _ _ h => h) (Or.inl ⟨by rfl, ?_⟩) ?_ ?_
        rotate_left; (intro w'; go_simp; with_reducible rfl); rotate_left; (simp only [Act.put, zz1, zz2, zz3, i64_w, i32_w]; rfl)
        refine done_ (done_of HT_.out (by kernel_rfl)) ?_
        go_wp2_with (fail)
        go_ret
        exact ⟨by rw [HF2.out]; first | rfl | (cases (((true, f) : Bool × F2)).1 <;> rfl), by rw [HF2.out]; exact HM3.out, HG3.out⟩
      · have hcon : Rule 77 tagF ⟨5, sn, ss, sks, sl⟩ ⟨5, tn, ts, tks, tl⟩ := tag_yes _ _
        have HF2 : Aside0 (doesF st f ⟨5, sn, ss, sks, sl⟩ ⟨5, tn, ts, tks, tl⟩ = tagF f (⟨5, sn, ss, sks, sl⟩ : GN) (⟨5, tn, ts, tks, tl⟩ : GN)) := ⟨by rw [HF.out, if_pos rfl]⟩
        clear HF
        have d0 : W4.cell? ⟨w.heap.size + 1 + 1, 5, none⟩ = some (.func (.func 77) #[] #[]) := (hcell 5).trans rfl
        clear hcell
        refine start_ (n := 16) (S := fun w' => w'.cell? ⟨w.heap.size, 0, none⟩ = some (.int .i64 5) ∧ w'.cell? ⟨w.heap.size, 1, none⟩ = some (.int .i64 sn) ∧ w'.cell? ⟨w.heap.size, 2, none⟩ = some (.string ss) ∧ w'.cell? ⟨w.heap.size, 3, none⟩ = some (.slice Aks sks.length cks) ∧ w'.cell? ⟨w.heap.size, 4, none⟩ = some (.slice Als sl.length cls) ∧ w'.cell? ⟨w.heap.size + 1, 0, none⟩ = some (.int .i64 5) ∧ w'.cell? ⟨w.heap.size + 1, 1, none⟩ = some (.int .i64 tn) ∧ w'.cell? ⟨w.heap.size + 1, 2, none⟩ = some (.string ts) ∧ w'.cell? ⟨w.heap.size + 1, 3, none⟩ = some (.slice Akt tks.length ckt) ∧ w'.cell? ⟨w.heap.size + 1, 4, none⟩ = some (.slice Alt tl.length clt) ∧ w'.cell? ⟨w.heap.size + 1 + 1, 5, none⟩ = some (.func (.func 77) #[] #[])) (ds := [13]) #[φ,φ,φ,φ,φ,φ,φ,φ,φ,φ,φ,φ,φ,φ,φ,φ] (by kernel_rfl) rfl rfl ⟨a0, a1, a2, a3, a4, b0, b1, b2, b3, b4, d0⟩ (fun hHeld => ?_)
        refine with_tabW dz4.tab4 dz4.bits4 (fun HT_ HW_ => ?_)
        refine pure_ (i := 0) (N := some 29) (v := ?_) (a' := ?_) #[τ,φ,φ,φ,φ,φ,φ,φ,φ,φ,φ,φ,φ,φ,φ,φ] rfl rfl (any_of HT_.out (by kernel_rfl)) (fun _ _ _ h => h) (Or.inl ⟨by rfl, ?_⟩) ?_ ?_
        rotate_left; (intro w'; go_simp; with_reducible rfl); rotate_left; (simp only [Act.put, zz1, zz2, zz3, i64_w, i32_w]; rfl)
        refine pure_ (i := 2) (N := some 31) (v := ?_) (a' := ?_) #[τ,φ,τ,φ,φ,φ,φ,φ,φ,φ,φ,φ,φ,φ,φ,φ] rfl rfl (any_of HT_.out (by kernel_rfl)) (fun _ _ _ h => h) (Or.inl ⟨by rfl, ?_⟩) ?_ ?_
        rotate_left; (intro w'; go_simp; with_reducible rfl); rotate_left; (simp only [Act.put, zz1, zz2, zz3, i64_w, i32_w]; rfl)
        refine take_ (i := 1) (N := some 30) (v := ?_) (a' := ?_) #[τ,τ,τ,φ,φ,φ,φ,φ,φ,φ,φ,φ,φ,φ,φ,φ] rfl rfl (take_ofW HT_.out HW_.out (by kernel_rfl)) (fun _ _ _ h => h) (Or.inl ⟨by rfl, ?_⟩) hHeld ?_ ?_
        rotate_left; (rintro w' ⟨s0, s1, s2, s3, s4, s5, s6, s7, s8, s9, s10⟩; go_simp; with_reducible rfl); rotate_left; (simp only [Act.put, zz1, zz2, zz3, i64_w, i32_w]; rfl)
        refine take_ (i := 3) (N := some 32) (v := ?_) (a' := ?_) #[τ,τ,τ,τ,φ,φ,φ,φ,φ,φ,φ,φ,φ,φ,φ,φ] rfl rfl (take_ofW HT_.out HW_.out (by kernel_rfl)) (fun _ _ _ h => h) (Or.inl ⟨by rfl, ?_⟩) hHeld ?_ ?_
        rotate_left; (rintro w' ⟨s0, s1, s2, s3, s4, s5, s6, s7, s8, s9, s10⟩; go_simp; with_reducible rfl); rotate_left; (simp only [Act.put, zz1, zz2, zz3, i64_w, i32_w]; rfl)
        refine pure_ (i := 4) (N := some 33) (v := ?_) (a' := ?_) #[τ,τ,τ,τ,τ,φ,φ,φ,φ,φ,φ,φ,φ,φ,φ,φ] rfl rfl (any_of HT_.out (by kernel_rfl)) (fun _ _ _ h => h) (Or.inl ⟨by rfl, ?_⟩) ?_ ?_
        rotate_left; (intro w'; go_simp; with_reducible rfl); rotate_left; (simp only [Act.put, zz1, zz2, zz3, i64_w, i32_w]; rfl)
        refine pure_ (i := 5) (N := some 34) (v := ?_) (a' := ?_) #[τ,τ,τ,τ,τ,τ,φ,φ,φ,φ,φ,φ,φ,φ,φ,φ] rfl rfl (any_of HT_.out (by kernel_rfl)) (fun _ _ _ h => h) (Or.inl ⟨by rfl, ?_⟩) ?_ ?_
        rotate_left; (intro w'; go_simp; with_reducible rfl); rotate_left; (simp only [Act.put, zz1, zz2, zz3, i64_w, i32_w]; rfl)
        refine pure_ (i := 6) (N := some 35) (v := ?_) (a' := ?_) #[τ,τ,τ,τ,τ,τ,τ,φ,φ,φ,φ,φ,φ,φ,φ,φ] rfl rfl (any_of HT_.out (by kernel_rfl)) (fun _ _ _ h => h) (Or.inl ⟨by rfl, ?_⟩) ?_ ?_
        rotate_left; (intro w'; go_simp; with_reducible rfl); rotate_left; (simp only [Act.put, zz1, zz2, zz3, i64_w, i32_w]; rfl)
        refine pure_ (i := 10) (N := some 39) (v := ?_) (a' := ?_) #[τ,τ,τ,τ,τ,τ,τ,φ,φ,φ,τ,φ,φ,φ,φ,φ] rfl rfl (any_of HT_.out (by kernel_rfl)) (fun _ _ _ h => h) (Or.inl ⟨by rfl, ?_⟩) ?_ ?_
        rotate_left; (intro w'; go_simp; with_reducible rfl); rotate_left; (simp only [Act.put, zz1, zz2, zz3, i64_w, i32_w]; rfl)
        refine take_ (i := 7) (N := some 36) (v := ?_) (a' := ?_) #[τ,τ,τ,τ,τ,τ,τ,τ,φ,φ,τ,φ,φ,φ,φ,φ] rfl rfl (take_ofW HT_.out HW_.out (by kernel_rfl)) (fun _ _ _ h => h) (Or.inl ⟨by rfl, ?_⟩) hHeld ?_ ?_
        rotate_left; (rintro w' ⟨s0, s1, s2, s3, s4, s5, s6, s7, s8, s9, s10⟩; go_simp; with_reducible rfl); rotate_left; (simp only [Act.put, zz1, zz2, zz3, i64_w, i32_w]; rfl)
        refine pure_ (i := 8) (N := some 37) (v := ?_) (a' := ?_) #[τ,τ,τ,τ,τ,τ,τ,τ,τ,φ,τ,φ,φ,φ,φ,φ] rfl rfl (any_of HT_.out (by kernel_rfl)) (fun _ _ _ h => h) (Or.inl ⟨by rfl, ?_⟩) ?_ ?_
        rotate_left; (intro w'; go_simp; with_reducible rfl); rotate_left; (simp only [Act.put, zz1, zz2, zz3, i64_w, i32_w]; rfl)
        refine take_ (i := 9) (N := some 38) (v := ?_) (a' := ?_) #[τ,τ,τ,τ,τ,τ,τ,τ,τ,τ,τ,φ,φ,φ,φ,φ] rfl rfl (take_ofW HT_.out HW_.out (by kernel_rfl)) (fun _ _ _ h => h) (Or.inl ⟨by rfl, ?_⟩) hHeld ?_ ?_
        rotate_left; (rintro w' ⟨s0, s1, s2, s3, s4, s5, s6, s7, s8, s9, s10⟩; go_simp; with_reducible rfl); rotate_left; (simp only [Act.put, zz1, zz2, zz3, i64_w, i32_w]; rfl)
        refine take_ (i := 11) (N := some 40) (v := ?_) (a' := ?_) #[τ,τ,τ,τ,τ,τ,τ,τ,τ,τ,τ,τ,φ,φ,φ,φ] rfl rfl (take_ofW HT_.out HW_.out (by kernel_rfl)) (fun _ _ _ h => h) (Or.inl ⟨by rfl, ?_⟩) hHeld ?_ ?_
        rotate_left; (rintro w' ⟨s0, s1, s2, s3, s4, s5, s6, s7, s8, s9, s10⟩; go_simp; with_reducible rfl); rotate_left; (simp only [Act.put, zz1, zz2, zz3, i64_w, i32_w]; rfl)
        refine take_ (i := 12) (N := some 41) (v := ?_) (a' := ?_) #[τ,τ,τ,τ,τ,τ,τ,τ,τ,τ,τ,τ,τ,φ,φ,φ] rfl rfl (take_ofW HT_.out HW_.out (by kernel_rfl)) (fun _ _ _ h => h) (Or.inl ⟨by rfl, ?_⟩) hHeld ?_ ?_
        rotate_left; (rintro w' ⟨s0, s1, s2, s3, s4, s5, s6, s7, s8, s9, s10⟩; go_simp; with_reducible rfl); rotate_left; (simp only [Act.put, zz1, zz2, zz3, i64_w, i32_w]; rfl)
        refine last_ (i := 13) (N := some 42) #[τ,τ,τ,τ,τ,τ,τ,τ,τ,τ,τ,τ,τ,τ,φ,φ] rfl rfl (one_of HT_.out (by kernel_rfl)) (by decide) (fun K hK => ?_)
        refine L0.goesV_ Tryd.func77 (by kernel_rfl) rfl #[.pointer (some ⟨sb, 0, none⟩), .agg #[.int .i64 5, .int .i64 sn, .string ss, .slice Aks sks.length cks, .slice Als sl.length cls], .agg #[.int .i64 5, .int .i64 tn, .string ts, .slice Akt tks.length ckt, .slice Alt tl.length clt]] (by rfl) rfl rfl (by rfl) (by simp only [List.map_toArray, List.map_cons, List.map_nil]; rfl) ?_
        with_reducible refine (hcon w0 _ sb m A0 c0 g st f HS4.out.drew HSr.out HTr.out Aks cks Als cls Akt ckt Alt clt HNs.out HNt.out).mono ?_
        rintro e w3 ⟨rfl, hm, hg⟩
        refine ⟨_, rfl, ?_⟩
        have HM3 := Aside0.mk hm
        have HG3 := Aside0.mk ((grown_drew HG4.out).trans hg)
        clear hm hg
        refine hK.out _ _ ?_
        clear hK K
        refine norm_ (a' := ?_) ?_ ?_
        rotate_left
        · show Act.put _ (some 42) _ = _
          simp only [Act.put, zz1, zz2, zz3, i64_w, i32_w]
          rfl
        refine pure_ (i := 14) (N := some 43) (v := ?_) (a' := ?_) #[τ,τ,τ,τ,τ,τ,τ,τ,τ,τ,τ,τ,τ,τ,τ,φ] rfl rfl (any_of HT_.out (by kernel_rfl)) (fun _ _ _ h => h) (Or.inl ⟨by rfl, ?_⟩) ?_ ?_
        rotate_left; (intro w'; go_simp; with_reducible rfl); rotate_left; (simp only [Act.put, zz1, zz2, zz3, i64_w, i32_w]; rfl)
        refine pure_ (i := 15) (N := some 6) (v := ?_) (a' := ?_) #[τ,τ,τ,τ,τ,τ,τ,τ,τ,τ,τ,τ,τ,τ,τ,τ] rfl rfl (any_of HT_.out (by kernel_rfl)) (fun _ _ _ h => h) (Or.inl ⟨by rfl, ?_⟩) ?_ ?_
        rotate_left; (intro w'; go_simp; with_reducible rfl); rotate_left; (simp only [Act.put, zz1, zz2, zz3, i64_w, i32_w]; rfl)
        refine done_ (done_of HT_.out (by kernel_rfl)) ?_
        go_wp2_with (fail)
        go_ret
        exact ⟨by rw [HF2.out]; first | rfl | (cases (tagF f (⟨5, sn, ss, sks, sl⟩ : GN) (⟨5, tn, ts, tks, tl⟩ : GN)).1 <;> rfl), by rw [HF2.out]; exact HM3.out, HG3.out⟩
      · have hcon : Rule 78 (fun f s t => recF s t t.f3 0 f) ⟨7, sn, ss, sks, sl⟩ ⟨7, tn, ts, tks, tl⟩ := record_yes _ _ (HOs.out.recd rfl).1 (HOt.out.recd rfl).1 (HOs.out.recd rfl).2 (HOt.out.recd rfl).2
        have HF2 : Aside0 (doesF st f ⟨7, sn, ss, sks, sl⟩ ⟨7, tn, ts, tks, tl⟩ = recF (⟨7, sn, ss, sks, sl⟩ : GN) (⟨7, tn, ts, tks, tl⟩ : GN) tks 0 f) := ⟨by rw [HF.out, if_neg (by decide), if_pos rfl]⟩
        clear HF
        have d0 : W4.cell? ⟨w.heap.size + 1 + 1, 7, none⟩ = some (.func (.func 78) #[] #[]) := (hcell 7).trans rfl
        clear hcell
        refine start_ (n := 16) (S := fun w' => w'.cell? ⟨w.heap.size, 0, none⟩ = some (.int .i64 7) ∧ w'.cell? ⟨w.heap.size, 1, none⟩ = some (.int .i64 sn) ∧ w'.cell? ⟨w.heap.size, 2, none⟩ = some (.string ss) ∧ w'.cell? ⟨w.heap.size, 3, none⟩ = some (.slice Aks sks.length cks) ∧ w'.cell? ⟨w.heap.size, 4, none⟩ = some (.slice Als sl.length cls) ∧ w'.cell? ⟨w.heap.size + 1, 0, none⟩ = some (.int .i64 7) ∧ w'.cell? ⟨w.heap.size + 1, 1, none⟩ = some (.int .i64 tn) ∧ w'.cell? ⟨w.heap.size + 1, 2, none⟩ = some (.string ts) ∧ w'.cell? ⟨w.heap.size + 1, 3, none⟩ = some (.slice Akt tks.length ckt) ∧ w'.cell? ⟨w.heap.size + 1, 4, none⟩ = some (.slice Alt tl.length clt) ∧ w'.cell? ⟨w.heap.size + 1 + 1, 7, none⟩ = some (.func (.func 78) #[] #[])) (ds := [13]) #[φ,φ,φ,φ,φ,φ,φ,φ,φ,φ,φ,φ,φ,φ,φ,φ] (by kernel_rfl) rfl rfl ⟨a0, a1, a2, a3, a4, b0, b1, b2, b3, b4, d0⟩ (fun hHeld => ?_)
        refine with_tabW dz4.tab4 dz4.bits4 (fun HT_ HW_ => ?_)
        refine pure_ (i := 0) (N := some 29) (v := ?_) (a' := ?_) #[τ,φ,φ,φ,φ,φ,φ,φ,φ,φ,φ,φ,φ,φ,φ,φ] rfl rfl (any_of HT_.out (by kernel_rfl)) (fun _ _ _ h => h) (Or.inl ⟨by rfl, ?_⟩) ?_ ?_
        rotate_left; (intro w'; go_simp; with_reducible rfl); rotate_left; (simp only [Act.put, zz1, zz2, zz3, i64_w, i32_w]; rfl)
        refine pure_ (i := 2) (N := some 31) (v := ?_) (a' := ?_) #[τ,φ,τ,φ,φ,φ,φ,φ,φ,φ,φ,φ,φ,φ,φ,φ] rfl rfl (any_of HT_.out (by kernel_rfl)) (fun _ _ _ h => h) (Or.inl ⟨by rfl, ?_⟩) ?_ ?_
        rotate_left; (intro w'; go_simp; with_reducible rfl); rotate_left; (simp only [Act.put, zz1, zz2, zz3, i64_w, i32_w]; rfl)
        refine take_ (i := 1) (N := some 30) (v := ?_) (a' := ?_) #[τ,τ,τ,φ,φ,φ,φ,φ,φ,φ,φ,φ,φ,φ,φ,φ] rfl rfl (take_ofW HT_.out HW_.out (by kernel_rfl)) (fun _ _ _ h => h) (Or.inl ⟨by rfl, ?_⟩) hHeld ?_ ?_
        rotate_left; (rintro w' ⟨s0, s1, s2, s3, s4, s5, s6, s7, s8, s9, s10⟩; go_simp; with_reducible rfl); rotate_left; (simp only [Act.put, zz1, zz2, zz3, i64_w, i32_w]; rfl)
        refine take_ (i := 3) (N := some 32) (v := ?_) (a' := ?_) #[τ,τ,τ,τ,φ,φ,φ,φ,φ,φ,φ,φ,φ,φ,φ,φ] rfl rfl (take_ofW HT_.out HW_.out (by kernel_rfl)) (fun _ _ _ h => h) (Or.inl ⟨by rfl, ?_⟩) hHeld ?_ ?_
        rotate_left; (rintro w' ⟨s0, s1, s2, s3, s4, s5, s6, s7, s8, s9, s10⟩; go_simp; with_reducible rfl); rotate_left; (simp only [Act.put, zz1, zz2, zz3, i64_w, i32_w]; rfl)
        refine pure_ (i := 4) (N := some 33) (v := ?_) (a' := ?_) #[τ,τ,τ,τ,τ,φ,φ,φ,φ,φ,φ,φ,φ,φ,φ,φ] rfl rfl (any_of HT_.out (by kernel_rfl)) (fun _ _ _ h => h) (Or.inl ⟨by rfl, ?_⟩) ?_ ?_
        rotate_left; (intro w'; go_simp; with_reducible rfl); rotate_left; (simp only [Act.put, zz1, zz2, zz3, i64_w, i32_w]; rfl)
        refine pure_ (i := 5) (N := some 34) (v := ?_) (a' := ?_) #[τ,τ,τ,τ,τ,τ,φ,φ,φ,φ,φ,φ,φ,φ,φ,φ] rfl rfl (any_of HT_.out (by kernel_rfl)) (fun _ _ _ h => h) (Or.inl ⟨by rfl, ?_⟩) ?_ ?_
        rotate_left; (intro w'; go_simp; with_reducible rfl); rotate_left; (simp only [Act.put, zz1, zz2, zz3, i64_w, i32_w]; rfl)
        refine pure_ (i := 6) (N := some 35) (v := ?_) (a' := ?_) #[τ,τ,τ,τ,τ,τ,τ,φ,φ,φ,φ,φ,φ,φ,φ,φ] rfl rfl (any_of HT_.out (by kernel_rfl)) (fun _ _ _ h => h) (Or.inl ⟨by rfl, ?_⟩) ?_ ?_
        rotate_left; (intro w'; go_simp; with_reducible rfl); rotate_left; (simp only [Act.put, zz1, zz2, zz3, i64_w, i32_w]; rfl)
        refine pure_ (i := 10) (N := some 39) (v := ?_) (a' := ?_) #[τ,τ,τ,τ,τ,τ,τ,φ,φ,φ,τ,φ,φ,φ,φ,φ] rfl rfl (any_of HT_.out (by kernel_rfl)) (fun _ _ _ h => h) (Or.inl ⟨by rfl, ?_⟩) ?_ ?_
        rotate_left; (intro w'; go_simp; with_reducible rfl); rotate_left; (simp only [Act.put, zz1, zz2, zz3, i64_w, i32_w]; rfl)
        refine take_ (i := 7) (N := some 36) (v := ?_) (a' := ?_) #[τ,τ,τ,τ,τ,τ,τ,τ,φ,φ,τ,φ,φ,φ,φ,φ] rfl rfl (take_ofW HT_.out HW_.out (by kernel_rfl)) (fun _ _ _ h => h) (Or.inl ⟨by rfl, ?_⟩) hHeld ?_ ?_
        rotate_left; (rintro w' ⟨s0, s1, s2, s3, s4, s5, s6, s7, s8, s9, s10⟩; go_simp; with_reducible rfl); rotate_left; (simp only [Act.put, zz1, zz2, zz3, i64_w, i32_w]; rfl)
        refine pure_ (i := 8) (N := some 37) (v := ?_) (a' := ?_) #[τ,τ,τ,τ,τ,τ,τ,τ,τ,φ,τ,φ,φ,φ,φ,φ] rfl rfl (any_of HT_.out (by kernel_rfl)) (fun _ _ _ h => h) (Or.inl ⟨by rfl, ?_⟩) ?_ ?_
        rotate_left; (intro w'; go_simp; with_reducible rfl); rotate_left; (simp only [Act.put, zz1, zz2, zz3, i64_w, i32_w]; rfl)
        refine take_ (i := 9) (N := some 38) (v := ?_) (a' := ?_) #[τ,τ,τ,τ,τ,τ,τ,τ,τ,τ,τ,φ,φ,φ,φ,φ] rfl rfl (take_ofW HT_.out HW_.out (by kernel_rfl)) (fun _ _ _ h => h) (Or.inl ⟨by rfl, ?_⟩) hHeld ?_ ?_
        rotate_left; (rintro w' ⟨s0, s1, s2, s3, s4, s5, s6, s7, s8, s9, s10⟩; go_simp; with_reducible rfl); rotate_left; (simp only [Act.put, zz1, zz2, zz3, i64_w, i32_w]; rfl)
        refine take_ (i := 11) (N := some 40) (v := ?_) (a' := ?_) #[τ,τ,τ,τ,τ,τ,τ,τ,τ,τ,τ,τ,φ,φ,φ,φ] rfl rfl (take_ofW HT_.out HW_.out (by kernel_rfl)) (fun _ _ _ h => h) (Or.inl ⟨by rfl, ?_⟩) hHeld ?_ ?_
        rotate_left; (rintro w' ⟨s0, s1, s2, s3, s4, s5, s6, s7, s8, s9, s10⟩; go_simp; with_reducible rfl); rotate_left; (simp only [Act.put, zz1, zz2, zz3, i64_w, i32_w]; rfl)
        refine take_ (i := 12) (N := some 41) (v := ?_) (a' := ?_) #[τ,τ,τ,τ,τ,τ,τ,τ,τ,τ,τ,τ,τ,φ,φ,φ] rfl rfl (take_ofW HT_.out HW_.out (by kernel_rfl)) (fun _ _ _ h => h) (Or.inl ⟨by rfl, ?_⟩) hHeld ?_ ?_
        rotate_left; (rintro w' ⟨s0, s1, s2, s3, s4, s5, s6, s7, s8, s9, s10⟩; go_simp; with_reducible rfl); rotate_left; (simp only [Act.put, zz1, zz2, zz3, i64_w, i32_w]; rfl)
        refine last_ (i := 13) (N := some 42) #[τ,τ,τ,τ,τ,τ,τ,τ,τ,τ,τ,τ,τ,τ,φ,φ] rfl rfl (one_of HT_.out (by kernel_rfl)) (by decide) (fun K hK => ?_)
        refine L0.goesV_ Tryd.func78 (by kernel_rfl) rfl #[.pointer (some ⟨sb, 0, none⟩), .agg #[.int .i64 7, .int .i64 sn, .string ss, .slice Aks sks.length cks, .slice Als sl.length cls], .agg #[.int .i64 7, .int .i64 tn, .string ts, .slice Akt tks.length ckt, .slice Alt tl.length clt]] (by rfl) rfl rfl (by rfl) (by simp only [List.map_toArray, List.map_cons, List.map_nil]; rfl) ?_
        with_reducible refine (hcon w0 _ sb m A0 c0 g st f HS4.out.drew HSr.out HTr.out Aks cks Als cls Akt ckt Alt clt HNs.out HNt.out).mono ?_
        rintro e w3 ⟨rfl, hm, hg⟩
        refine ⟨_, rfl, ?_⟩
        have HM3 := Aside0.mk hm
        have HG3 := Aside0.mk ((grown_drew HG4.out).trans hg)
        clear hm hg
        refine hK.out _ _ ?_
        clear hK K
        refine norm_ (a' := ?_) ?_ ?_
        rotate_left
        · show Act.put _ (some 42) _ = _
          simp only [Act.put, zz1, zz2, zz3, i64_w, i32_w]
          rfl
        refine pure_ (i := 14) (N := some 43) (v := ?_) (a' := ?_) #[τ,τ,τ,τ,τ,τ,τ,τ,τ,τ,τ,τ,τ,τ,τ,φ] rfl rfl (any_of HT_.out (by kernel_rfl)) (fun _ _ _ h => h) (Or.inl ⟨by rfl, ?_⟩) ?_ ?_
        rotate_left; (intro w'; go_simp; with_reducible rfl); rotate_left; (simp only [Act.put, zz1, zz2, zz3, i64_w, i32_w]; rfl)
        refine pure_ (i := 15) (N := some 6) (v := ?_) (a' := ?_) #[τ,τ,τ,τ,τ,τ,τ,τ,τ,τ,τ,τ,τ,τ,τ,τ] rfl rfl (any_of HT_.out (by kernel_rfl)) (fun _ _ _ h => h) (Or.inl ⟨by rfl, ?_⟩) ?_ ?_
        rotate_left; (intro w'; go_simp; with_reducible rfl); rotate_left; (simp only [Act.put, zz1, zz2, zz3, i64_w, i32_w]; rfl)
        refine done_ (done_of HT_.out (by kernel_rfl)) ?_
        go_wp2_with (fail)
        go_ret
        exact ⟨by rw [HF2.out]; first | rfl | (cases (recF (⟨7, sn, ss, sks, sl⟩ : GN) (⟨7, tn, ts, tks, tl⟩ : GN) tks 0 f).1 <;> rfl), by rw [HF2.out]; exact HM3.out, HG3.out⟩
      · have hcon : Rule 79 variableF ⟨9, sn, ss, sks, sl⟩ ⟨9, tn, ts, tks, tl⟩ := variable_yes _ _ (by rw [HOs.out.var rfl]; omega) (by rw [HOt.out.var rfl]; omega)
        have HF2 : Aside0 (doesF st f ⟨9, sn, ss, sks, sl⟩ ⟨9, tn, ts, tks, tl⟩ = variableF f (⟨9, sn, ss, sks, sl⟩ : GN) (⟨9, tn, ts, tks, tl⟩ : GN)) := ⟨by rw [HF.out, if_neg (by decide), if_neg (by decide), if_pos rfl]⟩
        clear HF
        have d0 : W4.cell? ⟨w.heap.size + 1 + 1, 9, none⟩ = some (.func (.func 79) #[] #[]) := (hcell 9).trans rfl
        clear hcell
        refine start_ (n := 16) (S := fun w' => w'.cell? ⟨w.heap.size, 0, none⟩ = some (.int .i64 9) ∧ w'.cell? ⟨w.heap.size, 1, none⟩ = some (.int .i64 sn) ∧ w'.cell? ⟨w.heap.size, 2, none⟩ = some (.string ss) ∧ w'.cell? ⟨w.heap.size, 3, none⟩ = some (.slice Aks sks.length cks) ∧ w'.cell? ⟨w.heap.size, 4, none⟩ = some (.slice Als sl.length cls) ∧ w'.cell? ⟨w.heap.size + 1, 0, none⟩ = some (.int .i64 9) ∧ w'.cell? ⟨w.heap.size + 1, 1, none⟩ = some (.int .i64 tn) ∧ w'.cell? ⟨w.heap.size + 1, 2, none⟩ = some (.string ts) ∧ w'.cell? ⟨w.heap.size + 1, 3, none⟩ = some (.slice Akt tks.length ckt) ∧ w'.cell? ⟨w.heap.size + 1, 4, none⟩ = some (.slice Alt tl.length clt) ∧ w'.cell? ⟨w.heap.size + 1 + 1, 9, none⟩ = some (.func (.func 79) #[] #[])) (ds := [13]) #[φ,φ,φ,φ,φ,φ,φ,φ,φ,φ,φ,φ,φ,φ,φ,φ] (by kernel_rfl) rfl rfl ⟨a0, a1, a2, a3, a4, b0, b1, b2, b3, b4, d0⟩ (fun hHeld => ?_)
        refine with_tabW dz4.tab4 dz4.bits4 (fun HT_ HW_ => ?_)
        refine pure_ (i := 0) (N := some 29) (v := ?_) (a' := ?_) #[τ,φ,φ,φ,φ,φ,φ,φ,φ,φ,φ,φ,φ,φ,φ,φ] rfl rfl (any_of HT_.out (by kernel_rfl)) (fun _ _ _ h => h) (Or.inl ⟨by rfl, ?_⟩) ?_ ?_
        rotate_left; (intro w'; go_simp; with_reducible rfl); rotate_left; (simp only [Act.put, zz1, zz2, zz3, i64_w, i32_w]; rfl)
        refine pure_ (i := 2) (N := some 31) (v := ?_) (a' := ?_) #[τ,φ,τ,φ,φ,φ,φ,φ,φ,φ,φ,φ,φ,φ,φ,φ] rfl rfl (any_of HT_.out (by kernel_rfl)) (fun _ _ _ h => h) (Or.inl ⟨by rfl, ?_⟩) ?_ ?_
        rotate_left; (intro w'; go_simp; with_reducible rfl); rotate_left; (simp only [Act.put, zz1, zz2, zz3, i64_w, i32_w]; rfl)
        refine take_ (i := 1) (N := some 30) (v := ?_) (a' := ?_) #[τ,τ,τ,φ,φ,φ,φ,φ,φ,φ,φ,φ,φ,φ,φ,φ] rfl rfl (take_ofW HT_.out HW_.out (by kernel_rfl)) (fun _ _ _ h => h) (Or.inl ⟨by rfl, ?_⟩) hHeld ?_ ?_
        rotate_left; (rintro w' ⟨s0, s1, s2, s3, s4, s5, s6, s7, s8, s9, s10⟩; go_simp; with_reducible rfl); rotate_left; (simp only [Act.put, zz1, zz2, zz3, i64_w, i32_w]; rfl)
        refine take_ (i := 3) (N := some 32) (v := ?_) (a' := ?_) #[τ,τ,τ,τ,φ,φ,φ,φ,φ,φ,φ,φ,φ,φ,φ,φ] rfl rfl (take_ofW HT_.out HW_.out (by kernel_rfl)) (fun _ _ _ h => h) (Or.inl ⟨by rfl, ?_⟩) hHeld ?_ ?_
        rotate_left; (rintro w' ⟨s0, s1, s2, s3, s4, s5, s6, s7, s8, s9, s10⟩; go_simp; with_reducible rfl); rotate_left; (simp only [Act.put, zz1, zz2, zz3, i64_w, i32_w]; rfl)
        refine pure_ (i := 4) (N := some 33) (v := ?_) (a' := ?_) #[τ,τ,τ,τ,τ,φ,φ,φ,φ,φ,φ,φ,φ,φ,φ,φ] rfl rfl (any_of HT_.out (by kernel_rfl)) (fun _ _ _ h => h) (Or.inl ⟨by rfl, ?_⟩) ?_ ?_
        rotate_left; (intro w'; go_simp; with_reducible rfl); rotate_left; (simp only [Act.put, zz1, zz2, zz3, i64_w, i32_w]; rfl)
        refine pure_ (i := 5) (N := some 34) (v := ?_) (a' := ?_) #[τ,τ,τ,τ,τ,τ,φ,φ,φ,φ,φ,φ,φ,φ,φ,φ] rfl rfl (any_of HT_.out (by kernel_rfl)) (fun _ _ _ h => h) (Or.inl ⟨by rfl, ?_⟩) ?_ ?_
        rotate_left; (intro w'; go_simp; with_reducible rfl); rotate_left; (simp only [Act.put, zz1, zz2, zz3, i64_w, i32_w]; rfl)
        refine pure_ (i := 6) (N := some 35) (v := ?_) (a' := ?_) #[τ,τ,τ,τ,τ,τ,τ,φ,φ,φ,φ,φ,φ,φ,φ,φ] rfl rfl (any_of HT_.out (by kernel_rfl)) (fun _ _ _ h => h) (Or.inl ⟨by rfl, ?_⟩) ?_ ?_
        rotate_left; (intro w'; go_simp; with_reducible rfl); rotate_left; (simp only [Act.put, zz1, zz2, zz3, i64_w, i32_w]; rfl)
        refine pure_ (i := 10) (N := some 39) (v := ?_) (a' := ?_) #[τ,τ,τ,τ,τ,τ,τ,φ,φ,φ,τ,φ,φ,φ,φ,φ] rfl rfl (any_of HT_.out (by kernel_rfl)) (fun _ _ _ h => h) (Or.inl ⟨by rfl, ?_⟩) ?_ ?_
        rotate_left; (intro w'; go_simp; with_reducible rfl); rotate_left; (simp only [Act.put, zz1, zz2, zz3, i64_w, i32_w]; rfl)
        refine take_ (i := 7) (N := some 36) (v := ?_) (a' := ?_) #[τ,τ,τ,τ,τ,τ,τ,τ,φ,φ,τ,φ,φ,φ,φ,φ] rfl rfl (take_ofW HT_.out HW_.out (by kernel_rfl)) (fun _ _ _ h => h) (Or.inl ⟨by rfl, ?_⟩) hHeld ?_ ?_
        rotate_left; (rintro w' ⟨s0, s1, s2, s3, s4, s5, s6, s7, s8, s9, s10⟩; go_simp; with_reducible rfl); rotate_left; (simp only [Act.put, zz1, zz2, zz3, i64_w, i32_w]; rfl)
        refine pure_ (i := 8) (N := some 37) (v := ?_) (a' := ?_) #[τ,τ,τ,τ,τ,τ,τ,τ,τ,φ,τ,φ,φ,φ,φ,φ] rfl rfl (any_of HT_.out (by kernel_rfl)) (fun _ _ _ h => h) (Or.inl ⟨by rfl, ?_⟩) ?_ ?_
        rotate_left; (intro w'; go_simp; with_reducible rfl); rotate_left; (simp only [Act.put, zz1, zz2, zz3, i64_w, i32_w]; rfl)
        refine take_ (i := 9) (N := some 38) (v := ?_) (a' := ?_) #[τ,τ,τ,τ,τ,τ,τ,τ,τ,τ,τ,φ,φ,φ,φ,φ] rfl rfl (take_ofW HT_.out HW_.out (by kernel_rfl)) (fun _ _ _ h => h) (Or.inl ⟨by rfl, ?_⟩) hHeld ?_ ?_
        rotate_left; (rintro w' ⟨s0, s1, s2, s3, s4, s5, s6, s7, s8, s9, s10⟩; go_simp; with_reducible rfl); rotate_left; (simp only [Act.put, zz1, zz2, zz3, i64_w, i32_w]; rfl)
        refine take_ (i := 11) (N := some 40) (v := ?_) (a' := ?_) #[τ,τ,τ,τ,τ,τ,τ,τ,τ,τ,τ,τ,φ,φ,φ,φ] rfl rfl (take_ofW HT_.out HW_.out (by kernel_rfl)) (fun _ _ _ h => h) (Or.inl ⟨by rfl, ?_⟩) hHeld ?_ ?_
        rotate_left; (rintro w' ⟨s0, s1, s2, s3, s4, s5, s6, s7, s8, s9, s10⟩; go_simp; with_reducible rfl); rotate_left; (simp only [Act.put, zz1, zz2, zz3, i64_w, i32_w]; rfl)
        refine take_ (i := 12) (N := some 41) (v := ?_) (a' := ?_) #[τ,τ,τ,τ,τ,τ,τ,τ,τ,τ,τ,τ,τ,φ,φ,φ] rfl rfl (take_ofW HT_.out HW_.out (by kernel_rfl)) (fun _ _ _ h => h) (Or.inl ⟨by rfl, ?_⟩) hHeld ?_ ?_
        rotate_left; (rintro w' ⟨s0, s1, s2, s3, s4, s5, s6, s7, s8, s9, s10⟩; go_simp; with_reducible rfl); rotate_left; (simp only [Act.put, zz1, zz2, zz3, i64_w, i32_w]; rfl)
        refine last_ (i := 13) (N := some 42) #[τ,τ,τ,τ,τ,τ,τ,τ,τ,τ,τ,τ,τ,τ,φ,φ] rfl rfl (one_of HT_.out (by kernel_rfl)) (by decide) (fun K hK => ?_)
        refine L0.goesV_ Tryd.func79 (by kernel_rfl) rfl #[.pointer (some ⟨sb, 0, none⟩), .agg #[.int .i64 9, .int .i64 sn, .string ss, .slice Aks sks.length cks, .slice Als sl.length cls], .agg #[.int .i64 9, .int .i64 tn, .string ts, .slice Akt tks.length ckt, .slice Alt tl.length clt]] (by rfl) rfl rfl (by rfl) (by simp only [List.map_toArray, List.map_cons, List.map_nil]; rfl) ?_
        with_reducible refine (hcon w0 _ sb m A0 c0 g st f HS4.out.drew HSr.out HTr.out Aks cks Als cls Akt ckt Alt clt HNs.out HNt.out).mono ?_
        rintro e w3 ⟨rfl, hm, hg⟩
        refine ⟨_, rfl, ?_⟩
        have HM3 := Aside0.mk hm
        have HG3 := Aside0.mk ((grown_drew HG4.out).trans hg)
        clear hm hg
        refine hK.out _ _ ?_
        clear hK K
        refine norm_ (a' := ?_) ?_ ?_
        rotate_left
        · show Act.put _ (some 42) _ = _
          simp only [Act.put, zz1, zz2, zz3, i64_w, i32_w]
          rfl
        refine pure_ (i := 14) (N := some 43) (v := ?_) (a' := ?_) #[τ,τ,τ,τ,τ,τ,τ,τ,τ,τ,τ,τ,τ,τ,τ,φ] rfl rfl (any_of HT_.out (by kernel_rfl)) (fun _ _ _ h => h) (Or.inl ⟨by rfl, ?_⟩) ?_ ?_
        rotate_left; (intro w'; go_simp; with_reducible rfl); rotate_left; (simp only [Act.put, zz1, zz2, zz3, i64_w, i32_w]; rfl)
        refine pure_ (i := 15) (N := some 6) (v := ?_) (a' := ?_) #[τ,τ,τ,τ,τ,τ,τ,τ,τ,τ,τ,τ,τ,τ,τ,τ] rfl rfl (any_of HT_.out (by kernel_rfl)) (fun _ _ _ h => h) (Or.inl ⟨by rfl, ?_⟩) ?_ ?_
        rotate_left; (intro w'; go_simp; with_reducible rfl); rotate_left; (simp only [Act.put, zz1, zz2, zz3, i64_w, i32_w]; rfl)
        refine done_ (done_of HT_.out (by kernel_rfl)) ?_
        go_wp2_with (fail)
        go_ret
        exact ⟨by rw [HF2.out]; first | rfl | (cases (variableF f (⟨9, sn, ss, sks, sl⟩ : GN) (⟨9, tn, ts, tks, tl⟩ : GN)).1 <;> rfl), by rw [HF2.out]; exact HM3.out, HG3.out⟩
    · have HF := Aside0.mk (show doesF st f ⟨sk, sn, ss, sks, sl⟩ ⟨tk, tn, ts, tks, tl⟩ = (false, f) by unfold doesF; rw [if_neg HD.out, if_neg hk])
      have hkb : (sk == tk) = false := by simp [hk]
      clear hk hcell
      refine start_ (n := 16) (S := fun w' => w'.cell? ⟨w.heap.size, 0, none⟩ = some (.int .i64 sk) ∧ w'.cell? ⟨w.heap.size + 1, 0, none⟩ = some (.int .i64 tk)) (ds := []) #[φ,φ,φ,φ,φ,φ,φ,φ,φ,φ,φ,φ,φ,φ,φ,φ] (by kernel_rfl) rfl rfl ⟨a0, b0⟩ (fun hHeld => ?_)
      refine with_tabW dz4.tab4 dz4.bits4 (fun HT_ HW_ => ?_)
      refine pure_ (i := 0) (N := some 29) (v := ?_) (a' := ?_) #[τ,φ,φ,φ,φ,φ,φ,φ,φ,φ,φ,φ,φ,φ,φ,φ] rfl rfl (any_of HT_.out (by kernel_rfl)) (fun _ _ _ h => h) (Or.inl ⟨by rfl, ?_⟩) ?_ ?_
      rotate_left; (intro w'; go_simp; with_reducible rfl); rotate_left; (simp only [Act.put, zz1, zz2, zz3, i64_w, i32_w]; rfl)
      refine pure_ (i := 2) (N := some 31) (v := ?_) (a' := ?_) #[τ,φ,τ,φ,φ,φ,φ,φ,φ,φ,φ,φ,φ,φ,φ,φ] rfl rfl (any_of HT_.out (by kernel_rfl)) (fun _ _ _ h => h) (Or.inl ⟨by rfl, ?_⟩) ?_ ?_
      rotate_left; (intro w'; go_simp; with_reducible rfl); rotate_left; (simp only [Act.put, zz1, zz2, zz3, i64_w, i32_w]; rfl)
      refine take_ (i := 1) (N := some 30) (v := ?_) (a' := ?_) #[τ,τ,τ,φ,φ,φ,φ,φ,φ,φ,φ,φ,φ,φ,φ,φ] rfl rfl (take_ofW HT_.out HW_.out (by kernel_rfl)) (fun _ _ _ h => h) (Or.inl ⟨by rfl, ?_⟩) hHeld ?_ ?_
      rotate_left; (rintro w' ⟨s0, s1⟩; go_simp; with_reducible rfl); rotate_left; (simp only [Act.put, zz1, zz2, zz3, i64_w, i32_w]; rfl)
      refine take_ (i := 3) (N := some 32) (v := ?_) (a' := ?_) #[τ,τ,τ,τ,φ,φ,φ,φ,φ,φ,φ,φ,φ,φ,φ,φ] rfl rfl (take_ofW HT_.out HW_.out (by kernel_rfl)) (fun _ _ _ h => h) (Or.inl ⟨by rfl, ?_⟩) hHeld ?_ ?_
      rotate_left; (rintro w' ⟨s0, s1⟩; go_simp; with_reducible rfl); rotate_left; (simp only [Act.put, zz1, zz2, zz3, i64_w, i32_w]; rfl)
      refine pure_ (i := 4) (N := some 33) (v := ?_) (a' := ?_) #[τ,τ,τ,τ,τ,φ,φ,φ,φ,φ,φ,φ,φ,φ,φ,φ] rfl rfl (any_of HT_.out (by kernel_rfl)) (fun _ _ _ h => h) (Or.inl ⟨by rfl, ?_⟩) ?_ ?_
      rotate_left; (intro w'; go_simp; with_reducible rfl); rotate_left; (simp only [Act.put, zz1, zz2, zz3, i64_w, i32_w]; rfl)
      refine pure_ (i := 5) (N := some 34) (v := ?_) (a' := ?_) #[τ,τ,τ,τ,τ,τ,φ,φ,φ,φ,φ,φ,φ,φ,φ,φ] rfl rfl (any_of HT_.out (by kernel_rfl)) (fun _ _ _ h => h) (Or.inl ⟨by rfl, ?_⟩) ?_ ?_
      rotate_left; (intro w'; go_simp; with_reducible rfl); rotate_left; (simp only [Act.put, zz1, zz2, zz3, i64_w, i32_w]; rfl)
      refine pure_ (i := 6) (N := some 35) (v := undef) (a' := ?_) #[τ,τ,τ,τ,τ,τ,τ,φ,φ,φ,φ,φ,φ,φ,φ,φ] rfl rfl (any_of HT_.out (by kernel_rfl)) (fun _ _ _ h => h) (Or.inr ⟨by rfl, rfl⟩) ?_ ?_
      rotate_left; (simp only [Act.put, zz1, zz2, zz3, i64_w, i32_w]; rfl)
      refine pure_ (i := 7) (N := some 36) (v := undef) (a' := ?_) #[τ,τ,τ,τ,τ,τ,τ,τ,φ,φ,φ,φ,φ,φ,φ,φ] rfl rfl (any_of HT_.out (by kernel_rfl)) (fun _ _ _ h => h) (Or.inr ⟨by rfl, rfl⟩) ?_ ?_
      rotate_left; (simp only [Act.put, zz1, zz2, zz3, i64_w, i32_w]; rfl)
      refine pure_ (i := 8) (N := some 37) (v := undef) (a' := ?_) #[τ,τ,τ,τ,τ,τ,τ,τ,τ,φ,φ,φ,φ,φ,φ,φ] rfl rfl (any_of HT_.out (by kernel_rfl)) (fun _ _ _ h => h) (Or.inr ⟨by rfl, rfl⟩) ?_ ?_
      rotate_left; (simp only [Act.put, zz1, zz2, zz3, i64_w, i32_w]; rfl)
      refine pure_ (i := 9) (N := some 38) (v := undef) (a' := ?_) #[τ,τ,τ,τ,τ,τ,τ,τ,τ,τ,φ,φ,φ,φ,φ,φ] rfl rfl (any_of HT_.out (by kernel_rfl)) (fun _ _ _ h => h) (Or.inr ⟨by rfl, rfl⟩) ?_ ?_
      rotate_left; (simp only [Act.put, zz1, zz2, zz3, i64_w, i32_w]; rfl)
      refine pure_ (i := 10) (N := some 39) (v := undef) (a' := ?_) #[τ,τ,τ,τ,τ,τ,τ,τ,τ,τ,τ,φ,φ,φ,φ,φ] rfl rfl (any_of HT_.out (by kernel_rfl)) (fun _ _ _ h => h) (Or.inr ⟨by rfl, rfl⟩) ?_ ?_
      rotate_left; (simp only [Act.put, zz1, zz2, zz3, i64_w, i32_w]; rfl)
      refine pure_ (i := 11) (N := some 40) (v := undef) (a' := ?_) #[τ,τ,τ,τ,τ,τ,τ,τ,τ,τ,τ,τ,φ,φ,φ,φ] rfl rfl (any_of HT_.out (by kernel_rfl)) (fun _ _ _ h => h) (Or.inr ⟨by rfl, rfl⟩) ?_ ?_
      rotate_left; (simp only [Act.put, zz1, zz2, zz3, i64_w, i32_w]; rfl)
      refine pure_ (i := 12) (N := some 41) (v := undef) (a' := ?_) #[τ,τ,τ,τ,τ,τ,τ,τ,τ,τ,τ,τ,τ,φ,φ,φ] rfl rfl (any_of HT_.out (by kernel_rfl)) (fun _ _ _ h => h) (Or.inr ⟨by rfl, rfl⟩) ?_ ?_
      rotate_left; (simp only [Act.put, zz1, zz2, zz3, i64_w, i32_w]; rfl)
      refine pure_ (i := 13) (N := some 42) (v := undef) (a' := ?_) #[τ,τ,τ,τ,τ,τ,τ,τ,τ,τ,τ,τ,τ,τ,φ,φ] rfl rfl (any_of HT_.out (by kernel_rfl)) (fun _ _ _ h => h) (Or.inr ⟨by rfl, rfl⟩) ?_ ?_
      rotate_left; (simp only [Act.put, zz1, zz2, zz3, i64_w, i32_w]; rfl)
      refine pure_ (i := 14) (N := some 43) (v := ?_) (a' := ?_) #[τ,τ,τ,τ,τ,τ,τ,τ,τ,τ,τ,τ,τ,τ,τ,φ] rfl rfl (any_of HT_.out (by kernel_rfl)) (fun _ _ _ h => h) (Or.inl ⟨by rfl, ?_⟩) ?_ ?_
      rotate_left; (intro w'; go_simp; with_reducible rfl); rotate_left; (simp only [Act.put, zz1, zz2, zz3, i64_w, i32_w]; rfl)
      refine pure_ (i := 15) (N := some 6) (v := ?_) (a' := ?_) #[τ,τ,τ,τ,τ,τ,τ,τ,τ,τ,τ,τ,τ,τ,τ,τ] rfl rfl (any_of HT_.out (by kernel_rfl)) (fun _ _ _ h => h) (Or.inl ⟨by rfl, ?_⟩) ?_ ?_
      rotate_left; (intro w'; go_simp; with_reducible rfl); rotate_left; (simp only [Act.put, zz1, zz2, zz3, i64_w, i32_w]; rfl)
      refine done_ (done_of HT_.out (by kernel_rfl)) ?_
      go_wp2_with (fail)
      go_ret
      exact ⟨by rw [HF.out]; rfl, by rw [HF.out]; exact HS4.out.mp.drew, grown_drew HG4.out⟩
end Go.Proofs.YtgppcpghpeenhaaDoor.S4
