/- holds: does a pair hold, as far as is known? -/
import Derived.Test.YtgppcpghpeenhaaDoorProg
import Derived.Test.YtgppcpghpeenhaaDoorWWords
import Derived.Test.YtgppcpghpeenhaaDoorWLast
import Derived.Test.YtgppcpghpeenhaaDoorS5
namespace Go.Proofs.YtgppcpghpeenhaaDoor.S6
open Go.RowKit Go.Proofs.YtgppcpghpeenhaaDoorW.PrintWords Go.Proofs.YtgppcpghpeenhaaDoorW.PrintLast Go.Proofs.YtgppcpghpeenhaaDoorW.PrintMore Go.Proofs.YtgppcpghpeenhaaDoor L1 L3 L4 G1 G2 S0 S1 S2 S3 S4 S5
set_option linter.unusedVariables false
set_option linter.unusedSimpArgs false
def holdsL (st : Bool) (g : List GN) (b : Nat) : List Int → F2 → Bool × F2
  | [], f => (true, f)
  | s :: r, f => if (pickF st g f s b).1 = -2 then (false, (pickF st g f s b).2) else holdsL st g b r (pickF st g f s b).2
def holdsF (st : Bool) (g : List GN) (f : F2) (a b : Nat) : Bool × F2 := holdsL st g b (membersP g a) f
set_option maxHeartbeats 4000000 in
set_option maxRecDepth 100000 in
theorem picked (w0 w : World) (sb m gb gd : Nat) (A0 : Option Addr) (c0 : Nat) (g : List GN) (st : Bool) (f : F2) (hS : Sv w0 w sb m A0 c0 g st f) (s b : Nat) (hs : s < g.length) (hb : b < g.length) (h8 : (nd g s).f0 ≠ 8)
    (h1 : w.cell? ⟨gb, 0, none⟩ = some (.pointer (some ⟨sb, 0, none⟩))) (h2 : w.cell? ⟨gd, 1, none⟩ = some (.int .i64 b)) :
    Calls Tryd.prog 47 #[.int .i64 s, .pointer (some ⟨gb, 0, none⟩), .pointer (some ⟨gd, 0, none⟩)] w
      fun e w' => e = .returned (.bool (decide ((pickF st g f s b).1 = -2))) ∧ Mp w' m g.length (pickF st g f s b).2 ∧ w.grownBy w' (some m) := by
  have HP := Aside0.mk (pick_yes w0 w sb m A0 c0 g st f hS s b hs hb h8)
  clear hS hs hb h8
  go_enter Tryd.func47, Tryd.ntmps47
  go_wp2_with (fail)
  refine HP.out.mono ?_
  rintro e w' ⟨rfl, hm, hg⟩
  have HM := Aside0.mk hm
  have HG := Aside0.mk hg
  clear hm hg
  go_wp2_with (fail)
  go_ret
  refine ⟨?_, HM.out, HG.out⟩
  show Ending.returned (Value.bool _) = Ending.returned (Value.bool _)
  congr 2
theorem holds_step (w0 W3 : World) (sb m gb gd : Nat) (A0 : Option Addr) (c0 : Nat) (g : List GN) (st : Bool) (f : F2) (hS : Sv w0 W3 sb m A0 c0 g st f) (b : Nat) (hb : b < g.length) (ms : List Int) (hms : ∀ y ∈ ms, 0 ≤ y ∧ y < (g.length : Int) ∧ (nd g y).f0 ≠ 8)
    (h1 : W3.cell? ⟨gb, 0, none⟩ = some (.pointer (some ⟨sb, 0, none⟩))) (h2 : W3.cell? ⟨gd, 1, none⟩ = some (.int .i64 b)) (n1 : some gb ≠ some m) (n2 : some gd ≠ some m) :
    ∀ i W, i < ms.length → (∃ fi, Mp W m g.length fi ∧ W3.grownBy W (some m) ∧ holdsL st g b ms f = holdsL st g b (ms.drop i) fi) →
      Calls Tryd.prog 47 #[.int .i64 (rd ms (i : Int)), .pointer (some ⟨gb, 0, none⟩), .pointer (some ⟨gd, 0, none⟩)] W fun e W' =>
        (e = .returned (.bool true) ∧ ∃ fi, Mp W' m g.length fi ∧ W3.grownBy W' (some m) ∧ holdsL st g b ms f = (false, fi)) ∨ (e = .returned (.bool false) ∧ ∃ fi, Mp W' m g.length fi ∧ W3.grownBy W' (some m) ∧ holdsL st g b ms f = holdsL st g b (ms.drop (i + 1)) fi) := by
  rintro i W hi ⟨fi, hm, hg, hh⟩
  have hx0 : rd ms (i : Int) = ms[i] := by
    show ms.getD i _ = _
    rw [List.getD_eq_getElem?_getD, List.getElem?_eq_getElem hi]; rfl
  obtain ⟨y0, y1, y2⟩ := hms _ (List.getElem_mem hi)
  obtain ⟨n, hn⟩ := Int.eq_ofNat_of_zero_le y0
  rw [List.drop_eq_getElem_cons hi, hn] at hh
  rw [hx0, hn]
  rw [hn] at y1 y2
  have hpk := picked w0 W sb m gb gd A0 c0 g st fi (hS.grown hg hm) n b (by omega) hb y2 (hg.cell h1 n1) (hg.cell h2 n2)
  have hst : holdsL st g b ((n : Int) :: ms.drop (i + 1)) fi = if (pickF st g fi n b).1 = -2 then (false, (pickF st g fi n b).2) else holdsL st g b (ms.drop (i + 1)) (pickF st g fi n b).2 := rfl
  rw [hst] at hh
  refine hpk.mono ?_
  rintro e w' ⟨rfl, hm', hg'⟩
  by_cases hp : (pickF st g fi n b).1 = -2
  · rw [if_pos hp] at hh
    exact .inl ⟨by rw [decide_eq_true hp], _, hm', hg.trans hg', hh⟩
  · rw [if_neg hp] at hh
    exact .inr ⟨by rw [decide_eq_false hp], _, hm', hg.trans hg', hh⟩
def ho1.T1 : Bool × List (List Nat × List Nat) := (true, [([], []), ([0], [0]), ([1], [1]), ([2], [2]), ([], []), ([4], [4]), ([3, 5], [3, 5]), ([], []), ([6, 7, 6], [6, 7]), ([8], [8]), ([9, 8, 0, 1, 2, 3, 4, 5, 6, 7, 8, 9], [9])])
def ho1.B1 : List Nat := [0, 1, 3, 7, 0, 16, 63, 0, 255, 511, 1023]
theorem ho1.tab1 : rtab .any (opsOf Tryd.f28 1) = ho1.T1 := by kernel_rfl
theorem ho1.bits1 : waitsOk ho1.T1.2 ho1.B1 = true := by kernel_rfl
set_option maxHeartbeats 4000000 in
set_option maxRecDepth 100000 in
theorem holds_yes (w0 w : World) (sb m : Nat) (A0 : Option Addr) (c0 : Nat) (g : List GN) (st : Bool) (f : F2) (hS : Sv w0 w sb m A0 c0 g st f) (a b : Nat) (ha : a < g.length) (hb : b < g.length) :
    Calls Tryd.prog 28 #[.pointer (some ⟨sb, 0, none⟩), .agg #[.int .i64 a, .int .i64 b]] w
      fun e w' => e = .returned (.bool (holdsF st g f a b).1) ∧ Mp w' m g.length (holdsF st g f a b).2 ∧ w.grownBy w' (some m) := by
  have HS := Aside0.mk hS
  have HA := Aside0.mk ha
  have HBn := Aside0.mk hb
  have HQ1 := Aside0.mk (hS.box_ne (Nat.le_refl w.heap.size))
  have HQ2 := Aside0.mk (hS.box_ne (Nat.le_succ w.heap.size))
  have HS2 := Aside0.mk ((hS.alloc (.cells #[.pointer (some ⟨sb, 0, none⟩)] 44)).alloc (.cells #[.int .i64 a, .int .i64 b] 49))
  have HG2 := Aside0.mk ((World.grownBy_alloc w (.cells #[.pointer (some ⟨sb, 0, none⟩)] 44) (some m)).trans (World.grownBy_alloc (w.alloc (.cells #[.pointer (some ⟨sb, 0, none⟩)] 44)) (.cells #[.int .i64 a, .int .i64 b] 49) (some m)))
  have h1 := heap_alloc_new w (.cells #[.pointer (some ⟨sb, 0, none⟩)] 44)
  have h2 := heap_alloc_new (w.alloc (.cells #[.pointer (some ⟨sb, 0, none⟩)] 44)) (.cells #[.int .i64 a, .int .i64 b] 49)
  rw [World.size_alloc] at h2
  have y0 : ((w.alloc (.cells #[.pointer (some ⟨sb, 0, none⟩)] 44)).alloc (.cells #[.int .i64 a, .int .i64 b] 49)).cell? ⟨w.heap.size, 0, none⟩ = some (.pointer (some ⟨sb, 0, none⟩)) := (blk_cell (blk_alloc h1 (.cells #[.int .i64 a, .int .i64 b] 49)) 0).trans rfl
  have y1 : ((w.alloc (.cells #[.pointer (some ⟨sb, 0, none⟩)] 44)).alloc (.cells #[.int .i64 a, .int .i64 b] 49)).cell? ⟨w.heap.size + 1, 0, none⟩ = some (.int .i64 a) := (blk_cell h2 0).trans rfl
  have y2 : ((w.alloc (.cells #[.pointer (some ⟨sb, 0, none⟩)] 44)).alloc (.cells #[.int .i64 a, .int .i64 b] 49)).cell? ⟨w.heap.size + 1, 1, none⟩ = some (.int .i64 b) := (blk_cell h2 1).trans rfl
  have z0 := HS2.out.z0
  clear hS ha hb h1 h2
  go_enter Tryd.func28, Tryd.ntmps28
  go_wp2_with (fail)
  generalize (w.alloc (.cells #[.pointer (some ⟨sb, 0, none⟩)] 44)).alloc (.cells #[.int .i64 a, .int .i64 b] 49) = W2 at HS2 HG2 y0 y1 y2 z0 ⊢
  try rw [World.size_alloc]
  refine start_ (n := 11) (S := fun w' => w'.cell? ⟨w.heap.size, 0, none⟩ = some (.pointer (some ⟨sb, 0, none⟩)) ∧ w'.cell? ⟨w.heap.size + 1, 0, none⟩ = some (.int .i64 a) ∧ w'.cell? ⟨sb, 0, none⟩ = some (.slice A0 g.length c0)) (ds := [6, 8]) #[φ,φ,φ,φ,φ,φ,φ,φ,φ,φ,φ] (by kernel_rfl) rfl rfl ⟨y0, y1, z0⟩ (fun hHeld => ?_)
  refine with_tabW ho1.tab1 ho1.bits1 (fun HT_ HW_ => ?_)
  refine pure_ (i := 4) (N := some 9) (v := ?_) (a' := ?_) #[φ,φ,φ,φ,τ,φ,φ,φ,φ,φ,φ] rfl rfl (any_of HT_.out (by kernel_rfl)) (fun _ _ _ h => h) (Or.inl ⟨by rfl, ?_⟩) ?_ ?_
  rotate_left; (intro w'; go_simp; with_reducible rfl); rotate_left; (simp only [Act.put, zz1, zz2, zz3, i64_w, i32_w]; rfl)
  refine pure_ (i := 7) (N := some 12) (v := ?_) (a' := ?_) #[φ,φ,φ,φ,τ,φ,φ,τ,φ,φ,φ] rfl rfl (any_of HT_.out (by kernel_rfl)) (fun _ _ _ h => h) (Or.inl ⟨by rfl, ?_⟩) ?_ ?_
  rotate_left; (intro w'; go_simp; with_reducible rfl); rotate_left; (simp only [Act.put, zz1, zz2, zz3, i64_w, i32_w]; rfl)
  refine take_ (i := 0) (N := some 5) (v := ?_) (a' := ?_) #[τ,φ,φ,φ,τ,φ,φ,τ,φ,φ,φ] rfl rfl (take_ofW HT_.out HW_.out (by kernel_rfl)) (fun _ _ _ h => h) (Or.inl ⟨by rfl, ?_⟩) hHeld ?_ ?_
  rotate_left; (rintro w' ⟨s0, s1, s2⟩; go_simp; with_reducible rfl); rotate_left; (simp only [Act.put, zz1, zz2, zz3, i64_w, i32_w]; rfl)
  refine pure_ (i := 1) (N := some 6) (v := ?_) (a' := ?_) #[τ,τ,φ,φ,τ,φ,φ,τ,φ,φ,φ] rfl rfl (any_of HT_.out (by kernel_rfl)) (fun _ _ _ h => h) (Or.inl ⟨by rfl, ?_⟩) ?_ ?_
  rotate_left; (intro w'; go_simp; with_reducible rfl); rotate_left; (simp only [Act.put, zz1, zz2, zz3, i64_w, i32_w]; rfl)
  refine pure_ (i := 2) (N := some 7) (v := ?_) (a' := ?_) #[τ,τ,τ,φ,τ,φ,φ,τ,φ,φ,φ] rfl rfl (any_of HT_.out (by kernel_rfl)) (fun _ _ _ h => h) (Or.inl ⟨by rfl, ?_⟩) ?_ ?_
  rotate_left; (intro w'; go_simp; with_reducible rfl); rotate_left; (simp only [Act.put, zz1, zz2, zz3, i64_w, i32_w]; rfl)
  refine take_ (i := 3) (N := some 8) (v := ?_) (a' := ?_) #[τ,τ,τ,τ,τ,φ,φ,τ,φ,φ,φ] rfl rfl (take_ofW HT_.out HW_.out (by kernel_rfl)) (fun _ _ _ h => h) (Or.inl ⟨by rfl, ?_⟩) hHeld ?_ ?_
  rotate_left; (rintro w' ⟨s0, s1, s2⟩; go_simp; with_reducible rfl); rotate_left; (simp only [Act.put, zz1, zz2, zz3, i64_w, i32_w]; rfl)
  refine take_ (i := 5) (N := some 10) (v := ?_) (a' := ?_) #[τ,τ,τ,τ,τ,τ,φ,τ,φ,φ,φ] rfl rfl (take_ofW HT_.out HW_.out (by kernel_rfl)) (fun _ _ _ h => h) (Or.inl ⟨by rfl, ?_⟩) hHeld ?_ ?_
  rotate_left; (rintro w' ⟨s0, s1, s2⟩; go_simp; with_reducible rfl); rotate_left; (simp only [Act.put, zz1, zz2, zz3, i64_w, i32_w]; rfl)
  refine last_ (i := 6) (N := some 11) #[τ,τ,τ,τ,τ,τ,τ,τ,φ,φ,φ] rfl rfl (one_of HT_.out (by kernel_rfl)) (by decide) (fun K hK => ?_)
  refine goes_ Tryd.func32 (by kernel_rfl) rfl #[.slice A0 g.length c0, .int .i64 a] (by rfl) rfl rfl (by simp only [List.map_toArray, List.map_cons, List.map_nil]; rfl) ?_
  with_reducible refine (members_yes A0 c0 g (a : Int) W2.drew (Kd.C_below HS2.out.gr HS2.out.drew.old) HS2.out.gc (members_small HS2.out.ok)).mono ?_
  rintro e W3 ⟨v, rfl, hr, hb3⟩
  obtain ⟨A6, c6, rfl, hc6, hr6⟩ := Kd.R_reads hr
  have HS3 := Aside0.mk (Sv.below HS2.out.drew hb3)
  have HG3 := Aside0.mk ((grown_drew HG2.out).trans (S5.grown_of_below hb3 (some m)))
  have x1 := pw_cell_below hb3 (show W2.drew.cell? ⟨w.heap.size, 0, none⟩ = some (.pointer (some ⟨sb, 0, none⟩)) from y0)
  have x2 := pw_cell_below hb3 (show W2.drew.cell? ⟨w.heap.size + 1, 1, none⟩ = some (.int .i64 b) from y2)
  have HMi := Aside0.mk (members_in HS2.out.ok (n := (a : Int)) (by omega) (by have := HA.out; omega))
  obtain ⟨ms, hms⟩ : ∃ ms, ms = membersP g (a : Int) := ⟨_, rfl⟩
  rw [← hms] at hr hc6 hr6 HMi ⊢
  have HC6 : Aside0 (∀ W', W3.grownBy W' (some m) → Kd.C (Kd.int .i64) W' A6 ms.length ms) := ⟨fun W' hg => (Kd.R_reads' (Kd.R_grown (Kd.R_bound hr) hg (fun k hk e => by have h1 := hk.2.1; have h2 := HS2.out.mp.lt; cases e; exact absurd h2 (Nat.not_lt.2 h1)))).2.2⟩
  have Hc6 := Aside0.mk hc6
  have HMs := Aside0.mk hms
  have HX1 := Aside0.mk x1
  have HX2 := Aside0.mk x2
  clear hr hb3 hc6 hr6 hms x1 x2
  refine ⟨_, rfl, ?_⟩
  refine hK.out _ _ ?_
  clear hK K
  refine norm_ (a' := ?_) ?_ ?_
  rotate_left
  · show Act.put _ (some 11) _ = _
    simp only [Act.put, zz1, zz2, zz3, i64_w, i32_w]
    rfl
  refine last_ (i := 8) (N := some 13) #[τ,τ,τ,τ,τ,τ,τ,τ,τ,φ,φ] rfl rfl (one_of HT_.out (by kernel_rfl)) (by decide) (fun K hK => ?_)
  refine goes_ Tryd.func25 (by kernel_rfl) rfl #[.slice A6 ms.length c6, .func (.func 47) #[] #[.pointer (some ⟨w.heap.size, 0, none⟩), .pointer (some ⟨w.heap.size + 1, 0, none⟩)]] (by rfl) rfl rfl (by simp only [List.map_toArray, List.map_cons, List.map_nil]; rfl) ?_
  with_reducible refine (holds1_contains w.heap.size (w.heap.size + 1) A6 c6 ms W3 (fun i W => ∃ fi, Mp W m g.length fi ∧ W3.grownBy W (some m) ∧ holdsL st g b ms f = holdsL st g b (ms.drop i) fi) (fun W => ∃ fi, Mp W m g.length fi ∧ W3.grownBy W (some m) ∧ holdsL st g b ms f = (false, fi)) (fun i W hR => by obtain ⟨fi, _, hg, _⟩ := hR; exact HC6.out W hg) Hc6.out (holds_step w0 W3 sb m w.heap.size (w.heap.size + 1) A0 c0 g st f HS3.out b HBn.out ms HMi.out HX1.out HX2.out HQ1.out HQ2.out) ⟨f, HS3.out.mp, World.grownBy.refl _ _, rfl⟩).mono ?_
  rintro e W9 hh9
  obtain ⟨fi, r, rfl, hm, hg, hh⟩ : ∃ (fi : F2) (r : Bool), e = .returned (.bool (!r)) ∧ Mp W9 m g.length fi ∧ W3.grownBy W9 (some m) ∧ holdsL st g b ms f = (r, fi) := by
    rcases hh9 with ⟨e9, fi, hm, hg, hh⟩ | ⟨e9, fi, hm, hg, hh⟩
    · exact ⟨fi, false, e9, hm, hg, hh⟩
    · exact ⟨fi, true, e9, hm, hg, by rw [hh, List.drop_length]; rfl⟩
  have HF := Aside0.mk (show holdsF st g f a b = (r, fi) by unfold holdsF; rw [← HMs.out]; exact hh)
  have HM9 := Aside0.mk hm
  have HG9 := Aside0.mk (HG3.out.trans hg)
  clear hm hg hh
  refine ⟨_, rfl, ?_⟩
  refine hK.out _ _ ?_
  clear hK K
  refine norm_ (a' := ?_) ?_ ?_
  rotate_left
  · show Act.put _ (some 13) _ = _
    simp only [Act.put, zz1, zz2, zz3, i64_w, i32_w]
    rfl
  refine pure_ (i := 9) (N := some 14) (v := ?_) (a' := ?_) #[τ,τ,τ,τ,τ,τ,τ,τ,τ,τ,φ] rfl rfl (any_of HT_.out (by kernel_rfl)) (fun _ _ _ h => h) (Or.inl ⟨by rfl, ?_⟩) ?_ ?_
  rotate_left; (intro w'; go_simp; with_reducible rfl); rotate_left; (simp only [Act.put, zz1, zz2, zz3, i64_w, i32_w]; rfl)
  refine pure_ (i := 10) (N := some 4) (v := ?_) (a' := ?_) #[τ,τ,τ,τ,τ,τ,τ,τ,τ,τ,τ] rfl rfl (any_of HT_.out (by kernel_rfl)) (fun _ _ _ h => h) (Or.inl ⟨by rfl, ?_⟩) ?_ ?_
  rotate_left; (intro w'; go_simp; with_reducible rfl); rotate_left; (simp only [Act.put, zz1, zz2, zz3, i64_w, i32_w]; rfl)
  refine done_ (done_of HT_.out (by kernel_rfl)) ?_
  go_wp2_with (fail)
  go_ret
  exact ⟨by rw [HF.out]; rfl, by rw [HF.out]; exact HM9.out, HG9.out⟩
end Go.Proofs.YtgppcpghpeenhaaDoor.S6
