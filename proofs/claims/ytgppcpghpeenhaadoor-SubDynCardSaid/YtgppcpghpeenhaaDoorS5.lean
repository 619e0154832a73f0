/- pick: which one does for a node? -/
import Derived.Test.YtgppcpghpeenhaaDoorProg
import Derived.Test.YtgppcpghpeenhaaDoorWWords
import Derived.Test.YtgppcpghpeenhaaDoorWLast
import Derived.Test.YtgppcpghpeenhaaDoorS4
namespace Go.Proofs.YtgppcpghpeenhaaDoor.S5
open Go.RowKit Go.Proofs.YtgppcpghpeenhaaDoorW.PrintWords Go.Proofs.YtgppcpghpeenhaaDoorW.PrintLast Go.Proofs.YtgppcpghpeenhaaDoorW.PrintMore Go.Proofs.YtgppcpghpeenhaaDoor L1 L4 G1 G2 S0 S1 S2 S3 S4
set_option linter.unusedVariables false
set_option linter.unusedSimpArgs false
theorem does_yes (s t : GN) (w0 w : World) (sb m : Nat) (A0 : Option Addr) (c0 : Nat) (g : List GN) (st : Bool) (f : F2) (hS : Sv w0 w sb m A0 c0 g st f)
    (hos : Okn g s) (hot : Okn g t) (h8 : s.f0 ≠ 8) (Aks : Option Addr) (cks : Nat) (Als : Option Addr) (cls : Nat) (Akt : Option Addr) (ckt : Nat) (Alt : Option Addr) (clt : Nat) (hns : Nd w0 s Aks cks Als cls) (hnt : Nd w0 t Akt ckt Alt clt) :
    Calls Tryd.prog 58 #[.pointer (some ⟨sb, 0, none⟩), .agg #[.int .i64 s.f0, .int .i64 s.f1, .string s.f2, .slice Aks s.f3.length cks, .slice Als s.f4.length cls], .agg #[.int .i64 t.f0, .int .i64 t.f1, .string t.f2, .slice Akt t.f3.length ckt, .slice Alt t.f4.length clt]] w
      fun e w' => e = .returned (.bool (doesF st f s t).1) ∧ Mp w' m g.length (doesF st f s t).2 ∧ w.grownBy w' (some m) := by
  obtain ⟨sk, sn, ss, sks, sl⟩ := s
  obtain ⟨tk, tn, ts, tks, tl⟩ := t
  exact does_yes0 sk sn ss sks sl tk tn ts tks tl w0 w sb m A0 c0 g st f hS hos hot h8 Aks cks Als cls Akt ckt Alt clt hns hnt
theorem grown_of_below {w w' : World} (h : Below w.heap.size w w') (row : Option Nat) : w.grownBy w' row := ⟨h.os, h.tape, h.output, h.size, fun k hk _ => h.block k hk⟩
theorem Sv.below {w0 w w' : World} {sb m : Nat} {A0 : Option Addr} {c0 : Nat} {g : List GN} {st : Bool} {f : F2} (h : Sv w0 w sb m A0 c0 g st f) (hb : Below w.heap.size w w') : Sv w0 w' sb m A0 c0 g st f := h.grown (grown_of_below hb _) (h.mp.kept (grown_of_below hb none) (by simp))
def nd (g : List GN) (k : Int) : GN := g.getD k.toNat P.z33
theorem nd_mem {g : List GN} {k : Int} (h0 : 0 ≤ k) (h1 : k < g.length) : nd g k ∈ g := by
  unfold nd
  rw [List.getD_eq_getElem?_getD, List.getElem?_eq_getElem (by omega)]
  exact List.getElem_mem _
theorem members_in {g : List GN} (hc : checkP g = 0) {n : Int} (h0 : 0 ≤ n) (h1 : n < g.length) : ∀ y ∈ membersP g n, 0 ≤ y ∧ y < (g.length : Int) ∧ (nd g y).f0 ≠ 8 := by
  intro y hy
  have ho := (check_ok hc).2 _ (nd_mem h0 h1)
  unfold membersP at hy
  rw [if_neg (by omega), if_neg (by omega)] at hy
  change y ∈ (if (nd g n).f0 = 8 then (nd g n).f4 else [n]) at hy
  split at hy
  · rename_i h8
    exact ⟨(ho.range y hy).1, (ho.range y hy).2, ho.union h8 y hy⟩
  · rename_i h8
    rw [List.mem_singleton] at hy
    subst hy
    exact ⟨h0, h1, h8⟩
theorem nodup_le {N : Nat} : ∀ {l : List Int}, l.Nodup → (∀ y ∈ l, 0 ≤ y ∧ y < (N : Int)) → l.length ≤ N := by
  induction N with
  | zero => intro l _ h; rcases l with _ | ⟨x, r⟩; exact Nat.le_refl _; have := h x (by simp); omega
  | succ N ih =>
    intro l hn h
    have h1 : (l.filter (fun y => decide (y ≠ (N : Int)))).length ≤ N := ih (hn.filter _) (fun y hy => by
      have h2 := h y (List.mem_filter.1 hy).1
      have h3 := (List.mem_filter.1 hy).2
      simp at h3
      omega)
    have h2 : l.length ≤ (l.filter (fun y => decide (y ≠ (N : Int)))).length + 1 := by
      clear ih h h1
      induction l with
      | nil => simp
      | cons x r ihr =>
        obtain ⟨hx, hr⟩ := List.nodup_cons.1 hn
        have := ihr hr
        by_cases e : x = (N : Int)
        · have hall : r.filter (fun y => decide (y ≠ (N : Int))) = r := List.filter_eq_self.2 (fun y hy => by simp; intro e2; exact hx (by rw [e, ← e2]; exact hy))
          rw [List.filter_cons, if_neg (by simp [e]), hall]
          simp
        · rw [List.filter_cons, if_pos (by simp [e])]
          simp
          simp at this
          omega
    omega
theorem members_small {g : List GN} (hc : checkP g = 0) : ∀ x ∈ g, x.f4.length ≤ 1000000000 := by
  intro x hx
  obtain ⟨h1, h2⟩ := check_ok hc
  have hb : checkP g = 0 := hc
  unfold checkP at hb
  rw [if_neg (by omega)] at hb
  have ha : g.all (mayP g) = true := by
    cases h : g.all (mayP g) with
    | true => rfl
    | false => rw [h] at hb; simp at hb
  have hm := List.all_eq_true.1 ha x hx
  have ho := h2 x hx
  have hle : x.f0 = 8 → x.f4.length ≤ g.length := fun h8 => by
    unfold mayP at hm
    simp only [Bool.and_eq_true] at hm
    have hk := hm.2
    unfold byKind at hk
    rw [if_neg (by omega), if_neg (by omega), if_neg (by omega), if_pos h8] at hk
    simp only [Bool.and_eq_true, decide_eq_true_eq] at hk
    exact nodup_le hk.2 ho.range
  have hk := ho.kind
  have := ho.base
  have := ho.recd
  have := ho.var
  by_cases c8 : x.f0 = 8
  · have := hle c8; omega
  · by_cases c7 : x.f0 = 7
    · have := (ho.recd c7); omega
    · by_cases c9 : x.f0 = 9
      · have := ho.var c9; omega
      · rw [ho.base (by omega)]; simp
def pickL (st : Bool) (g : List GN) (s : GN) : List Int → Nat → F2 → Int × F2
  | [], _, f => (-2, f)
  | k :: r, i, f => if (doesF st f s (nd g k)).1 then ((i : Int), (doesF st f s (nd g k)).2) else pickL st g s r (i + 1) (doesF st f s (nd g k)).2
def boundF (s : GN) (b : Nat) (f : F2) : Int × F2 := if s.f0 = 9 then (if (grantedF f (at_ s.f4 0) b).1 then -1 else -2, (grantedF f (at_ s.f4 0) b).2) else (-2, f)
def pickF (st : Bool) (g : List GN) (f : F2) (a : Int) (b : Nat) : Int × F2 :=
  if (pickL st g (nd g a) (membersP g b) 0 f).1 = -2 then boundF (nd g a) b (pickL st g (nd g a) (membersP g b) 0 f).2 else pickL st g (nd g a) (membersP g b) 0 f
def pk5.T5 : Bool × List (List Nat × List Nat) := (true, [([], []), ([], []), ([], []), ([2], [2]), ([3], [3]), ([4], [4]), ([], []), ([5, 6], [5, 6]), ([7], [7]), ([0, 1, 8], [0, 1, 8])])
def pk5.B5 : List Nat := [0, 0, 0, 4, 12, 28, 0, 124, 252, 511]
theorem pk5.tab5 : rtab .any (opsOf Tryd.f36 5) = pk5.T5 := by kernel_rfl
theorem pk5.bits5 : waitsOk pk5.T5.2 pk5.B5 = true := by kernel_rfl
set_option maxHeartbeats 8000000 in
set_option maxRecDepth 100000 in
theorem pick_yes (w0 w : World) (sb m : Nat) (A0 : Option Addr) (c0 : Nat) (g : List GN) (st : Bool) (f : F2) (hS : Sv w0 w sb m A0 c0 g st f) (a b : Nat) (ha : a < g.length) (hb : b < g.length) (h8 : (nd g a).f0 ≠ 8) :
    Calls Tryd.prog 36 #[.pointer (some ⟨sb, 0, none⟩), .int .i64 a, .int .i64 b] w
      fun e w' => e = .returned (.int .i64 (pickF st g f a b).1) ∧ Mp w' m g.length (pickF st g f a b).2 ∧ w.grownBy w' (some m) := by
  have HS := Aside0.mk hS
  have HA := Aside0.mk ha
  have HBn := Aside0.mk hb
  have z0 := hS.z0
  have hq := hS.box_ne (Nat.le_refl w.heap.size)
  obtain ⟨ad, A3, c3, A4, c4, eA, q0, q1, q2, q3, q4, l3, g3, l4, g4⟩ := P.at_T33 hS.gr (a : Int) (by omega) (by omega)
  obtain ⟨x, hx⟩ : ∃ x, x = nd g a := ⟨_, rfl⟩
  rw [show P.rd_T33 g (a : Int) = nd g a from rfl, ← hx] at q0 q1 q2 q3 q4 l3 g3 l4 g4
  rw [Int.toNat_natCast] at q0 q1 q2 q3 q4
  have HN := Aside0.mk (show Nd w0 x A3 c3 A4 c4 from ⟨g3, l3, g4, l4⟩)
  have HO := Aside0.mk (show Okn g x by rw [hx]; exact (check_ok hS.ok).2 _ (nd_mem (by omega) (by omega)))
  have HX := Aside0.mk hx
  have HE := Aside0.mk (show x.f0 ≠ 8 by rw [hx]; exact h8)
  have hold := hS.old
  have k0 := (hold.cell (World.block_lt_of_cell? w0 _ q0)).trans q0
  have k1 := (hold.cell (World.block_lt_of_cell? w0 _ q1)).trans q1
  have k2 := (hold.cell (World.block_lt_of_cell? w0 _ q2)).trans q2
  have k3 := (hold.cell (World.block_lt_of_cell? w0 _ q3)).trans q3
  have k4 := (hold.cell (World.block_lt_of_cell? w0 _ q4)).trans q4
  subst eA
  have HS1 := Aside0.mk (hS.alloc (.cells #[.int .i64 x.f0, .int .i64 x.f1, .string x.f2, .slice A3 x.f3.length c3, .slice A4 x.f4.length c4] 33))
  have z0' := HS1.out.z0
  have HG1 := Aside0.mk (World.grownBy_alloc w (.cells #[.int .i64 x.f0, .int .i64 x.f1, .string x.f2, .slice A3 x.f3.length c3, .slice A4 x.f4.length c4] 33) (some m))
  have HBx := Aside0.mk (box_new w x A3 c3 A4 c4)
  have HQ := Aside0.mk hq
  have hlen := hS.gr.2.1
  clear q0 q1 q2 q3 q4 l3 g3 l4 g4 hx hold hS ha hb h8 hq
  have hA1 : ((a : Int) < (g.length : Int)) = True := eq_true (by have := HA.out; omega)
  go_enter Tryd.func36, Tryd.ntmps36
  go_wp2_with (fail)
  clear k0 k1 k2 k3 k4 z0
  generalize w.alloc (.cells #[.int .i64 x.f0, .int .i64 x.f1, .string x.f2, .slice A3 x.f3.length c3, .slice A4 x.f4.length c4] 33) = W1 at HS1 HG1 HBx z0' ⊢
  refine (members_yes (some ad) c0 g (b : Int) W1 (Kd.C_below HS1.out.gr HS1.out.old) HS1.out.gc (members_small HS1.out.ok)).mono ?_
  rintro e W3 ⟨v, rfl, hr, hb3⟩
  obtain ⟨A6, c6, rfl, hc6, hr6⟩ := Kd.R_reads hr
  have HGb := Aside0.mk (grown_of_below hb3 (some m))
  have HG3 := Aside0.mk (HG1.out.trans HGb.out)
  have HS3 := Aside0.mk (Sv.below HS1.out hb3)
  have HBx3 := Aside0.mk (HBx.out.grown HGb.out HQ.out)
  have HMi := Aside0.mk (members_in HS1.out.ok (n := (b : Int)) (by omega) (by have := HBn.out; omega))
  obtain ⟨ms, hms⟩ : ∃ ms, ms = membersP g (b : Int) := ⟨_, rfl⟩
  rw [← hms] at hr hc6 hr6 HMi ⊢
  have HC6 : Aside0 (∀ W', W3.grownBy W' (some m) → Kd.C (Kd.int .i64) W' A6 ms.length ms) := ⟨fun W' hg => (Kd.R_reads' (Kd.R_grown (Kd.R_bound hr) hg (fun k hk e => by have h1 := hk.2.1; have h2 := HS1.out.mp.lt; cases e; omega))).2.2⟩
  have hml := hr6.2.1
  have Hc6 := Aside0.mk hc6
  have HMs := Aside0.mk hms
  clear hr hb3 hc6 hr6 hms z0'
  go_wp2_with (fail)
  go_loopw [24] (fun v24 wr => ∃ (i : Nat) (fi : F2), i ≤ ms.length ∧ v24 = .int .i64 i ∧ Aside0 (Mp wr m g.length fi) ∧ Aside0 (W3.grownBy wr (some m)) ∧ Aside0 (pickL st g x ms 0 f = pickL st g x (ms.drop i) i fi)) (fun v24 _ => ms.length + 1 - (intOf v24).toNat)
  case atStart => exact ⟨0, f, by omega, rfl, ⟨HS3.out.mp⟩, ⟨World.grownBy.refl _ _⟩, ⟨rfl⟩⟩
  case round =>
    obtain ⟨i, fi, hi, rfl, HMf, HGi, HI⟩ := hrel
    have HSi := Aside0.mk (HS3.out.grown HGi.out HMf.out)
    have HGr := Aside0.mk (HG3.out.trans HGi.out)
    have HBi := Aside0.mk (HBx3.out.grown HGi.out HQ.out)
    obtain ⟨a0, a1, a2, a3, a4⟩ := HBi.out
    by_cases hlt : i < ms.length
    · obtain ⟨adm, em, hx⟩ := Kd.at_int (HC6.out wr HGi.out) (i : Int) (by omega) (by omega)
      cases em
      simp only [Int.toNat_natCast] at hx
      have hx0 : rd ms (i : Int) = ms[i] := by
        show ms.getD i _ = _
        rw [List.getD_eq_getElem?_getD, List.getElem?_eq_getElem hlt]; rfl
      obtain ⟨y, hy⟩ : ∃ y, y = ms[i] := ⟨_, rfl⟩
      rw [hx0, ← hy] at hx
      have hyr := HMi.out y (by rw [hy]; exact List.getElem_mem hlt)
      obtain ⟨n, rfl⟩ := Int.eq_ofNat_of_zero_le hyr.1
      have hdr : pickL st g x (ms.drop i) i fi = if (doesF st fi x (nd g n)).1 then ((i : Int), (doesF st fi x (nd g n)).2) else pickL st g x (ms.drop (i + 1)) (i + 1) (doesF st fi x (nd g n)).2 := by rw [List.drop_eq_getElem_cons hlt, ← hy]; rfl
      have HD := Aside0.mk hdr
      have HNl := Aside0.mk hyr
      obtain ⟨ad2, B3, d3, B4, d4, eA, q0, q1, q2, q3, q4, l3, g3, l4, g4⟩ := P.at_T33 HSi.out.gr (n : Int) (by omega) (by omega)
      cases eA
      obtain ⟨t, ht⟩ : ∃ t, t = nd g n := ⟨_, rfl⟩
      rw [show P.rd_T33 g (n : Int) = nd g n from rfl, ← ht] at q0 q1 q2 q3 q4 l3 g3 l4 g4
      rw [Int.toNat_natCast] at q0 q1 q2 q3 q4
      rw [← ht] at HD
      have HNt := Aside0.mk (show Nd w0 t B3 d3 B4 d4 from ⟨g3, l3, g4, l4⟩)
      have HOt := Aside0.mk (show Okn g t by rw [ht]; exact (check_ok HSi.out.ok).2 _ (nd_mem (by omega) (by omega)))
      have hold := HSi.out.old
      have b0 := (hold.cell (World.block_lt_of_cell? w0 _ q0)).trans q0
      have b1 := (hold.cell (World.block_lt_of_cell? w0 _ q1)).trans q1
      have b2 := (hold.cell (World.block_lt_of_cell? w0 _ q2)).trans q2
      have b3 := (hold.cell (World.block_lt_of_cell? w0 _ q3)).trans q3
      have b4 := (hold.cell (World.block_lt_of_cell? w0 _ q4)).trans q4
      have z0 := HSi.out.z0
      have e1 : ((n : Int) < (g.length : Int)) = True := eq_true hyr.2.1
      have e0 : ((0 : Int) ≤ (n : Int)) = True := eq_true hyr.1
      clear q0 q1 q2 q3 q4 l3 g3 l4 g4 hold ht hdr hyr hx0 hy
      go_wp2_with (fail)
      refine start_ (n := 10) (S := fun w' => w'.cell? ⟨sb, 0, none⟩ = some (.slice (some ad) g.length c0) ∧ w'.cell? ⟨w.heap.size, 0, none⟩ = some (.int .i64 x.f0) ∧ w'.cell? ⟨w.heap.size, 1, none⟩ = some (.int .i64 x.f1) ∧ w'.cell? ⟨w.heap.size, 2, none⟩ = some (.string x.f2) ∧ w'.cell? ⟨w.heap.size, 3, none⟩ = some (.slice A3 x.f3.length c3) ∧ w'.cell? ⟨w.heap.size, 4, none⟩ = some (.slice A4 x.f4.length c4) ∧ w'.cell? (ad.add (n * 5)) = some (.int .i64 t.f0) ∧ w'.cell? ⟨(ad.add (n * 5)).block, (ad.add (n * 5)).off + 1, none⟩ = some (.int .i64 t.f1) ∧ w'.cell? ⟨(ad.add (n * 5)).block, (ad.add (n * 5)).off + 2, none⟩ = some (.string t.f2) ∧ w'.cell? ⟨(ad.add (n * 5)).block, (ad.add (n * 5)).off + 3, none⟩ = some (.slice B3 t.f3.length d3) ∧ w'.cell? ⟨(ad.add (n * 5)).block, (ad.add (n * 5)).off + 4, none⟩ = some (.slice B4 t.f4.length d4)) (ds := [9]) #[φ,φ,φ,φ,φ,φ,φ,φ,φ,φ] (by kernel_rfl) rfl rfl ⟨z0, a0, a1, a2, a3, a4, b0, b1, b2, b3, b4⟩ (fun hHeld => ?_)
      refine with_tabW pk5.tab5 pk5.bits5 (fun HT_ HW_ => ?_)
      refine pure_ (i := 0) (N := some 29) (v := ?_) (a' := ?_) #[τ,φ,φ,φ,φ,φ,φ,φ,φ,φ] rfl rfl (any_of HT_.out (by kernel_rfl)) (fun _ _ _ h => h) (Or.inl ⟨by rfl, ?_⟩) ?_ ?_
      rotate_left; (intro w'; go_simp; with_reducible rfl); rotate_left; (simp only [Act.put, zz1, zz2, zz3, i64_w, i32_w]; rfl)
      refine pure_ (i := 2) (N := some 31) (v := ?_) (a' := ?_) #[τ,φ,τ,φ,φ,φ,φ,φ,φ,φ] rfl rfl (any_of HT_.out (by kernel_rfl)) (fun _ _ _ h => h) (Or.inl ⟨by rfl, ?_⟩) ?_ ?_
      rotate_left; (intro w'; go_simp; with_reducible rfl); rotate_left; (simp only [Act.put, zz1, zz2, zz3, i64_w, i32_w]; rfl)
      refine pure_ (i := 3) (N := some 32) (v := ?_) (a' := ?_) #[τ,φ,τ,τ,φ,φ,φ,φ,φ,φ] rfl rfl (any_of HT_.out (by kernel_rfl)) (fun _ _ _ h => h) (Or.inl ⟨by rfl, ?_⟩) ?_ ?_
      rotate_left; (intro w'; go_simp; with_reducible rfl); rotate_left; (simp only [Act.put, zz1, zz2, zz3, i64_w, i32_w]; rfl)
      refine pure_ (i := 4) (N := some 33) (v := ?_) (a' := ?_) #[τ,φ,τ,τ,τ,φ,φ,φ,φ,φ] rfl rfl (any_of HT_.out (by kernel_rfl)) (fun _ _ _ h => h) (Or.inl ⟨by rfl, ?_⟩) ?_ ?_
      rotate_left; (intro w'; go_simp; with_reducible rfl); rotate_left; (simp only [Act.put, zz1, zz2, zz3, i64_w, i32_w]; rfl)
      refine pure_ (i := 6) (N := some 35) (v := ?_) (a' := ?_) #[τ,φ,τ,τ,τ,φ,τ,φ,φ,φ] rfl rfl (any_of HT_.out (by kernel_rfl)) (fun _ _ _ h => h) (Or.inl ⟨by rfl, ?_⟩) ?_ ?_
      rotate_left; (intro w'; go_simp; with_reducible rfl); rotate_left; (simp only [Act.put, zz1, zz2, zz3, i64_w, i32_w]; rfl)
      refine take_ (i := 1) (N := some 30) (v := ?_) (a' := ?_) #[τ,τ,τ,τ,τ,φ,τ,φ,φ,φ] rfl rfl (take_ofW HT_.out HW_.out (by kernel_rfl)) (fun _ _ _ h => h) (Or.inl ⟨by rfl, ?_⟩) hHeld ?_ ?_
      rotate_left; (rintro w' ⟨s0, s1, s2, s3, s4, s5, s6, s7, s8, s9, s10⟩; go_simp; with_reducible rfl); rotate_left; (simp only [Act.put, zz1, zz2, zz3, i64_w, i32_w]; rfl)
      refine take_ (i := 5) (N := some 34) (v := ?_) (a' := ?_) #[τ,τ,τ,τ,τ,τ,τ,φ,φ,φ] rfl rfl (take_ofW HT_.out HW_.out (by kernel_rfl)) (fun _ _ _ h => h) (Or.inl ⟨by rfl, ?_⟩) hHeld ?_ ?_
      rotate_left; (rintro w' ⟨s0, s1, s2, s3, s4, s5, s6, s7, s8, s9, s10⟩; go_simp; with_reducible rfl); rotate_left; (simp only [Act.put, zz1, zz2, zz3, i64_w, i32_w]; rfl)
      refine pure_ (i := 7) (N := some 36) (v := ?_) (a' := ?_) #[τ,τ,τ,τ,τ,τ,τ,τ,φ,φ] rfl rfl (any_of HT_.out (by kernel_rfl)) (fun _ _ _ h => h) (Or.inl ⟨by rfl, ?_⟩) ?_ ?_
      rotate_left; (intro w'; go_simp; with_reducible rfl); rotate_left; (simp only [Act.put, zz1, zz2, zz3, i64_w, i32_w]; rfl)
      refine take_ (i := 8) (N := some 37) (v := ?_) (a' := ?_) #[τ,τ,τ,τ,τ,τ,τ,τ,τ,φ] rfl rfl (take_ofW HT_.out HW_.out (by kernel_rfl)) (fun _ _ _ h => h) (Or.inl ⟨by rfl, ?_⟩) hHeld ?_ ?_
      rotate_left; (rintro w' ⟨s0, s1, s2, s3, s4, s5, s6, s7, s8, s9, s10⟩; go_simp; with_reducible rfl); rotate_left; (simp only [Act.put, zz1, zz2, zz3, i64_w, i32_w]; rfl)
      refine last_ (i := 9) (N := some 38) #[τ,τ,τ,τ,τ,τ,τ,τ,τ,τ] rfl rfl (one_of HT_.out (by kernel_rfl)) (by decide) (fun K hK => ?_)
      refine goes_ Tryd.func58 (by kernel_rfl) rfl #[.pointer (some ⟨sb, 0, none⟩), .agg #[.int .i64 x.f0, .int .i64 x.f1, .string x.f2, .slice A3 x.f3.length c3, .slice A4 x.f4.length c4], .agg #[.int .i64 t.f0, .int .i64 t.f1, .string t.f2, .slice B3 t.f3.length d3, .slice B4 t.f4.length d4]] (by rfl) rfl rfl (by simp only [List.map_toArray, List.map_cons, List.map_nil]; rfl) ?_
      with_reducible refine (does_yes x t w0 _ sb m (some ad) c0 g st fi HSi.out.drew HO.out HOt.out HE.out A3 c3 A4 c4 B3 d3 B4 d4 HN.out HNt.out).mono ?_
      rintro e w9 ⟨rfl, hm, hg⟩
      refine ⟨_, rfl, ?_⟩
      have HM9 := Aside0.mk hm
      have HG9 := Aside0.mk ((grown_drew HGr.out).trans hg)
      have HG9' := Aside0.mk hg
      clear hm hg
      refine hK.out _ _ ?_
      clear hK K
      refine norm_ (a' := ?_) ?_ ?_
      rotate_left
      · show Act.put _ (some 38) _ = _
        simp only [Act.put, zz1, zz2, zz3, i64_w, i32_w]
        rfl
      refine done_ (done_of HT_.out (by kernel_rfl)) ?_
      have hw : wrap64 ((i : Int) + 1) = ((i + 1 : Nat) : Int) := by unfold wrap64; omega
      cases hdo : (doesF st fi x t).1 with
      | true =>
        rw [hdo] at HD
        have HF := Aside0.mk (show pickL st g x ms 0 f = ((i : Int), (doesF st fi x t).2) by rw [HI.out, HD.out]; rfl)
        have HP := Aside0.mk (show pickF st g f a b = ((i : Int), (doesF st fi x t).2) by
          unfold pickF
          rw [← HX.out, ← HMs.out, HF.out, if_neg (by show ¬ ((i : Int) = -2); omega)])
        clear hdo
        go_wp2_with (fail)
        go_ret
        exact ⟨by rw [HP.out]; rfl, by rw [HP.out]; exact HM9.out, HG9.out⟩
      | false =>
        rw [hdo] at HD
        clear hdo
        go_wp2_with (fail)
        go_roundw
        case rel => exact ⟨i + 1, (doesF st fi x t).2, by omega, by first | (rw [hw]; done) | (rw [Int.natCast_add]; rfl), HM9, ⟨(grown_drew HGi.out).trans HG9'.out⟩, ⟨by rw [HI.out, HD.out]; rfl⟩⟩
        case measure => first | (rw [hw]; simp only [intOf]; omega) | (simp only [intOf]; omega)
    · obtain rfl : i = ms.length := by omega
      have HF := Aside0.mk (show pickL st g x ms 0 f = (-2, fi) by rw [HI.out, List.drop_length]; rfl)
      have HP := Aside0.mk (show pickF st g f a b = boundF x b fi by
        unfold pickF
        rw [← HX.out, ← HMs.out, HF.out]; rfl)
      by_cases h9 : x.f0 = 9
      · have h1 := HO.out.var h9
        have HP2 := Aside0.mk (show pickF st g f a b = (if (grantedF fi (at_ x.f4 0) b).1 then -1 else -2, (grantedF fi (at_ x.f4 0) b).2) by rw [HP.out]; exact if_pos h9)
        obtain ⟨adl, el, x1⟩ := Kd.at_int (Kd.C_below HN.out.ls HSi.out.old) 0 (by omega) (by omega)
        replace a4 := a4.trans (congrArg (fun A => some (Value.slice A x.f4.length c4)) el)
        obtain ⟨z1, z2⟩ := at_eq HO.out.range (i := 0) (by omega)
        rw [show rd x.f4 (0 : Int) = x.f4.getD 0 0 from rfl, z1, show Int.toNat 0 = 0 from rfl, add_zero_] at x1
        obtain ⟨k, hk⟩ : ∃ k, k = at_ x.f4 0 := ⟨_, rfl⟩
        rw [← hk] at x1 z2 HP2
        have hl1 : 0 < x.f4.length := by omega
        rw [h9] at a0
        have HZ2 := Aside0.mk z2
        clear el z1 hk h1 h9 z2
        go_wp2_with (fail)
        refine (granted_yes sb m g.length k b fi wr HSi.out.z2 HSi.out.mp HZ2.out HBn.out).mono ?_
        rintro e w' ⟨rfl, hm, hg⟩
        have HM7 := Aside0.mk hm
        have HG7 := Aside0.mk (HGr.out.trans hg)
        clear hm hg
        cases hgr : (grantedF fi k b).1 with
        | true =>
          rw [hgr] at HP2
          clear hgr
          go_wp2_with (fail)
          go_ret
          exact ⟨by rw [HP2.out]; rfl, by rw [HP2.out]; exact HM7.out, HG7.out⟩
        | false =>
          rw [hgr] at HP2
          clear hgr
          go_wp2_with (fail)
          go_ret
          exact ⟨by rw [HP2.out]; rfl, by rw [HP2.out]; exact HM7.out, HG7.out⟩
      · have HP2 := Aside0.mk (show pickF st g f a b = (-2, fi) by rw [HP.out]; exact if_neg h9)
        have h9b : (x.f0 == 9) = false := by simp [h9]
        clear h9
        go_wp2_with (fail)
        go_ret
        exact ⟨by rw [HP2.out]; rfl, by rw [HP2.out]; exact HSi.out.mp, HGr.out⟩
end Go.Proofs.YtgppcpghpeenhaaDoor.S5
