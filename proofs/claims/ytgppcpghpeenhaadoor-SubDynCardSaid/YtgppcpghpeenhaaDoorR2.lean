/- Least. -/
import Derived.Test.YtgppcpghpeenhaaDoorProg
import Derived.Test.YtgppcpghpeenhaaDoorWWords
import Derived.Test.YtgppcpghpeenhaaDoorWLast
import Derived.Test.YtgppcpghpeenhaaDoorR1
namespace Go.Proofs.YtgppcpghpeenhaaDoor.R2
open Go.RowKit Go.Proofs.YtgppcpghpeenhaaDoorW.PrintWords Go.Proofs.YtgppcpghpeenhaaDoorW.PrintLast Go.Proofs.YtgppcpghpeenhaaDoorW.PrintMore Go.Proofs.YtgppcpghpeenhaaDoor L1 L2 L3 L4 G1 G2 S0 S1 S2 S3 S4 S5 S6 S7 S8 S9 S10 S11 R1
set_option linter.unusedVariables false
set_option linter.unusedSimpArgs false
set_option maxHeartbeats 4000000 in
set_option maxRecDepth 100000 in
theorem least1_index (gb : Nat) (gd : Nat) (A : Option Addr) (c : Nat) (l : List Int) (w : World) (R : Nat → World → Prop) (T : World → Prop) (hC : ∀ i W, R i W → Kd.C (Kd.int .i64) W A l.length l) (hc : l.length ≤ c)
    (hcl : ∀ i W, i < l.length → R i W → Calls Tryd.prog 37 #[.int .i64 (rd l (i : Int)), .pointer (some ⟨gb, 0, none⟩), .pointer (some ⟨gd, 0, none⟩)] W fun e W' => (e = .returned (.bool true) ∧ T W') ∨ (e = .returned (.bool false) ∧ R (i + 1) W')) (hR : R 0 w) :
    Calls Tryd.prog 46 #[.slice A l.length c, .func (.func 37) #[] #[.pointer (some ⟨gb, 0, none⟩), .pointer (some ⟨gd, 0, none⟩)]] w fun e w' => (∃ n : Int, e = .returned (.int .i64 n) ∧ 0 ≤ n ∧ T w') ∨ (e = .returned (.int .i64 (-1)) ∧ R l.length w') := by
  have HC := Aside0.mk hC
  have Hc := Aside0.mk hc
  have HL := Aside0.mk (hC 0 w hR).2.1
  have HCl := Aside0.mk hcl
  have HR := Aside0.mk hR
  clear hC hc hcl hR
  go_enter Tryd.func46, Tryd.ntmps46
  go_wp2_with (fail)
  go_loopw [8] (fun v8 wr => ∃ i : Nat, i ≤ l.length ∧ v8 = .int .i64 i ∧ Aside0 (R i wr)) (fun v8 _ => l.length + 1 - (intOf v8).toNat)
  case atStart => exact ⟨0, by omega, rfl, HR⟩
  case round =>
    obtain ⟨i, hi, rfl, HRi⟩ := hrel
    by_cases hlt : i < l.length
    · obtain ⟨ad, ea, hx⟩ := Kd.at_int (HC.out i wr HRi.out) (i : Int) (by omega) (by omega)
      cases ea
      simp only [Int.toNat_natCast] at hx
      have hL := HL.out
      have hw : wrap64 ((i : Int) + 1) = ((i + 1 : Nat) : Int) := by unfold wrap64; omega
      go_wp2_with (fail)
      refine (HCl.out i wr hlt HRi.out).mono ?_
      rintro e w' (⟨rfl, ht⟩ | ⟨rfl, hr⟩)
      · have HT := Aside0.mk ht
        clear ht
        go_wp2_with (fail)
        go_ret
        exact .inl ⟨i, rfl, by omega, HT.out⟩
      · have HR2 := Aside0.mk hr
        clear hr
        go_wp2_with (fail)
        go_roundw
        case rel => exact ⟨i + 1, by omega, by first | (rw [hw]; done) | (rw [Int.natCast_add]; rfl), HR2⟩
        case measure => first | (rw [hw]; simp only [intOf]; omega) | (simp only [intOf]; omega)
    · obtain rfl : i = l.length := by omega
      go_wp2_with (fail)
      go_ret
      exact .inr ⟨rfl, HRi.out⟩
set_option maxRecDepth 100000 in
theorem least1_contains (gb : Nat) (gd : Nat) (A : Option Addr) (c : Nat) (l : List Int) (w : World) (R : Nat → World → Prop) (T : World → Prop) (hC : ∀ i W, R i W → Kd.C (Kd.int .i64) W A l.length l) (hc : l.length ≤ c)
    (hcl : ∀ i W, i < l.length → R i W → Calls Tryd.prog 37 #[.int .i64 (rd l (i : Int)), .pointer (some ⟨gb, 0, none⟩), .pointer (some ⟨gd, 0, none⟩)] W fun e W' => (e = .returned (.bool true) ∧ T W') ∨ (e = .returned (.bool false) ∧ R (i + 1) W')) (hR : R 0 w) :
    Calls Tryd.prog 25 #[.slice A l.length c, .func (.func 37) #[] #[.pointer (some ⟨gb, 0, none⟩), .pointer (some ⟨gd, 0, none⟩)]] w fun e w' => (e = .returned (.bool true) ∧ T w') ∨ (e = .returned (.bool false) ∧ R l.length w') := by
  have HI := Aside0.mk (least1_index gb gd A c l w R T hC hc hcl hR)
  clear hC hc hcl hR
  go_enter Tryd.func25, Tryd.ntmps25
  go_wp2_with (fail)
  refine HI.out.mono ?_
  rintro e w' (⟨n, rfl, hn, ht⟩ | ⟨rfl, hr⟩)
  · have hd : decide (0 ≤ n) = true := decide_eq_true hn
    have HT := Aside0.mk ht
    have hne := eq_true hn
    clear ht
    go_wp2_with (fail)
    go_ret
    exact .inl ⟨rfl, HT.out⟩
  · have HR := Aside0.mk hr
    clear hr
    go_wp2_with (fail)
    go_ret
    exact .inr ⟨rfl, HR.out⟩
def le1.T1 : Bool × List (List Nat × List Nat) := (true, [([], []), ([0], [0]), ([1], [1]), ([2], [2]), ([], []), ([], []), ([4, 5], [4, 5]), ([3, 6], [3, 6]), ([7], [7]), ([8, 0, 1, 2, 3, 4, 5, 6, 7, 8], [8])])
def le1.B1 : List Nat := [0, 1, 3, 7, 0, 0, 48, 127, 255, 511]
theorem le1.tab1 : rtab .any (opsOf Tryd.f37 1) = le1.T1 := by kernel_rfl
theorem le1.bits1 : waitsOk le1.T1.2 le1.B1 = true := by kernel_rfl
set_option maxHeartbeats 4000000 in
set_option maxRecDepth 100000 in
theorem least1_yes (gb gd sb m N a b : Nat) (f : F2) (w : World) (h1 : w.cell? ⟨gb, 0, none⟩ = some (.pointer (some ⟨sb, 0, none⟩))) (h2 : w.cell? ⟨sb, 2, none⟩ = some (.map (some m))) (h3 : w.cell? ⟨gd, 0, none⟩ = some (.int .i64 a)) (hm : Mp w m N f) (ha : a < N) (hb : b < N) :
    Calls Tryd.prog 37 #[.int .i64 b, .pointer (some ⟨gb, 0, none⟩), .pointer (some ⟨gd, 0, none⟩)] w fun e w' => e = .returned (.bool (vl (f a b) == 0)) ∧ w' = w.drew := by
  have HLk := Aside0.mk (hm.drew.look ha hb)
  clear hm ha hb
  go_enter Tryd.func37, Tryd.ntmps37
  go_wp2_with (fail)
  refine start_ (n := 10) (S := fun w' => w'.cell? ⟨gb, 0, none⟩ = some (.pointer (some ⟨sb, 0, none⟩)) ∧ w'.cell? ⟨sb, 2, none⟩ = some (.map (some m)) ∧ w'.cell? ⟨gd, 0, none⟩ = some (.int .i64 a) ∧ (Instr.lookup 51 (.map (some m)) (.agg #[.int .i64 a, .int .i64 b]) false).run Tryd.prog w' = .ok (.int .i64 (vl (f a b))) w') (ds := []) #[φ,φ,φ,φ,φ,φ,φ,φ,φ,φ] (by kernel_rfl) rfl rfl ⟨h1, h2, h3, HLk.out⟩ (fun hHeld => ?_)
  refine with_tabW le1.tab1 le1.bits1 (fun HT_ HW_ => ?_)
  refine pure_ (i := 5) (N := some 10) (v := ?_) (a' := ?_) #[φ,φ,φ,φ,φ,τ,φ,φ,φ,φ] rfl rfl (any_of HT_.out (by kernel_rfl)) (fun _ _ _ h => h) (Or.inl ⟨by rfl, ?_⟩) ?_ ?_
  rotate_left; (intro w'; go_simp; with_reducible rfl); rotate_left; (simp only [Act.put, zz1, zz2, zz3, i64_w, i32_w]; rfl)
  refine take_ (i := 0) (N := some 5) (v := ?_) (a' := ?_) #[τ,φ,φ,φ,φ,τ,φ,φ,φ,φ] rfl rfl (take_ofW HT_.out HW_.out (by kernel_rfl)) (fun _ _ _ h => h) (Or.inl ⟨by rfl, ?_⟩) hHeld ?_ ?_
  rotate_left; (rintro w' ⟨s0, s1, s2, s3⟩; go_simp; with_reducible rfl); rotate_left; (simp only [Act.put, zz1, zz2, zz3, i64_w, i32_w]; rfl)
  refine pure_ (i := 1) (N := some 6) (v := ?_) (a' := ?_) #[τ,τ,φ,φ,φ,τ,φ,φ,φ,φ] rfl rfl (any_of HT_.out (by kernel_rfl)) (fun _ _ _ h => h) (Or.inl ⟨by rfl, ?_⟩) ?_ ?_
  rotate_left; (intro w'; go_simp; with_reducible rfl); rotate_left; (simp only [Act.put, zz1, zz2, zz3, i64_w, i32_w]; rfl)
  refine pure_ (i := 2) (N := some 7) (v := ?_) (a' := ?_) #[τ,τ,τ,φ,φ,τ,φ,φ,φ,φ] rfl rfl (any_of HT_.out (by kernel_rfl)) (fun _ _ _ h => h) (Or.inl ⟨by rfl, ?_⟩) ?_ ?_
  rotate_left; (intro w'; go_simp; with_reducible rfl); rotate_left; (simp only [Act.put, zz1, zz2, zz3, i64_w, i32_w]; rfl)
  refine take_ (i := 3) (N := some 8) (v := ?_) (a' := ?_) #[τ,τ,τ,τ,φ,τ,φ,φ,φ,φ] rfl rfl (take_ofW HT_.out HW_.out (by kernel_rfl)) (fun _ _ _ h => h) (Or.inl ⟨by rfl, ?_⟩) hHeld ?_ ?_
  rotate_left; (rintro w' ⟨s0, s1, s2, s3⟩; go_simp; with_reducible rfl); rotate_left; (simp only [Act.put, zz1, zz2, zz3, i64_w, i32_w]; rfl)
  refine take_ (i := 4) (N := some 9) (v := ?_) (a' := ?_) #[τ,τ,τ,τ,τ,τ,φ,φ,φ,φ] rfl rfl (take_ofW HT_.out HW_.out (by kernel_rfl)) (fun _ _ _ h => h) (Or.inl ⟨by rfl, ?_⟩) hHeld ?_ ?_
  rotate_left; (rintro w' ⟨s0, s1, s2, s3⟩; go_simp; with_reducible rfl); rotate_left; (simp only [Act.put, zz1, zz2, zz3, i64_w, i32_w]; rfl)
  refine pure_ (i := 6) (N := some 11) (v := ?_) (a' := ?_) #[τ,τ,τ,τ,τ,τ,τ,φ,φ,φ] rfl rfl (any_of HT_.out (by kernel_rfl)) (fun _ _ _ h => h) (Or.inl ⟨by rfl, ?_⟩) ?_ ?_
  rotate_left; (intro w'; go_simp; with_reducible rfl); rotate_left; (simp only [Act.put, zz1, zz2, zz3, i64_w, i32_w]; rfl)
  refine take_ (i := 7) (N := some 12) (v := ?_) (a' := ?_) #[τ,τ,τ,τ,τ,τ,τ,τ,φ,φ] rfl rfl (take_ofW HT_.out HW_.out (by kernel_rfl)) (fun _ _ _ h => h) (Or.inl ⟨by rfl, ?_⟩) hHeld ?_ ?_
  rotate_left; (rintro w' ⟨s0, s1, s2, s3⟩; go_simp; with_reducible rfl); rotate_left; (simp only [Act.put, zz1, zz2, zz3, i64_w, i32_w]; rfl)
  refine pure_ (i := 8) (N := some 13) (v := ?_) (a' := ?_) #[τ,τ,τ,τ,τ,τ,τ,τ,τ,φ] rfl rfl (any_of HT_.out (by kernel_rfl)) (fun _ _ _ h => h) (Or.inl ⟨by rfl, ?_⟩) ?_ ?_
  rotate_left; (intro w'; go_simp; with_reducible rfl); rotate_left; (simp only [Act.put, zz1, zz2, zz3, i64_w, i32_w]; rfl)
  refine pure_ (i := 9) (N := some 4) (v := ?_) (a' := ?_) #[τ,τ,τ,τ,τ,τ,τ,τ,τ,τ] rfl rfl (any_of HT_.out (by kernel_rfl)) (fun _ _ _ h => h) (Or.inl ⟨by rfl, ?_⟩) ?_ ?_
  rotate_left; (intro w'; go_simp; with_reducible rfl); rotate_left; (simp only [Act.put, zz1, zz2, zz3, i64_w, i32_w]; rfl)
  refine done_ (done_of HT_.out (by kernel_rfl)) ?_
  go_wp2_with (fail)
  go_ret
  exact ⟨rfl, rfl⟩
def LeastP (g : List GN) (l : List Int) (n e : Int) : Prop :=
  if checkP g = 0 then (if l.any (outP g.length) = true then n = 0 ∧ e = 9 else
    ((∃ i, ∃ _ : i < l.length, n = l[i] ∧ e = 0 ∧ (∀ b ∈ l, Sub true g l[i].toNat b.toNat) ∧ ∀ i', i' < i → ∀ a, l[i']? = some a → ∃ b ∈ l, ¬ Sub true g a.toNat b.toNat) ∨
      (n = 0 ∧ e = 2 ∧ ∀ a ∈ l, ∃ b ∈ l, ¬ Sub true g a.toNat b.toNat)))
  else n = 0 ∧ e = checkP g
/-- The pairs of two lists. -/
def prod (l r : List Nat) : List (Nat × Nat) := l.flatMap fun a => r.map fun b => (a, b)
theorem prod_take (l r : List Nat) (i : Nat) (a : Nat) (h : l[i]? = some a) : prod (l.take (i + 1)) r = prod (l.take i) r ++ r.map fun b => (a, b) := by
  unfold prod
  rw [List.take_add_one, h]
  simp
theorem prod_len (l r : List Nat) : (prod l r).length = l.length * r.length := by
  unfold prod
  induction l with
  | nil => simp
  | cons x l ih => simp [ih, Nat.succ_mul]; omega
theorem mem_prod {l r : List Nat} {p : Nat × Nat} : p ∈ prod l r ↔ p.1 ∈ l ∧ p.2 ∈ r := by
  unfold prod
  simp only [List.mem_flatMap, List.mem_map]
  constructor
  · rintro ⟨a, ha, b, hb, rfl⟩; exact ⟨ha, hb⟩
  · rintro ⟨h1, h2⟩; exact ⟨p.1, h1, p.2, h2, rfl⟩
set_option maxHeartbeats 8000000 in
set_option maxRecDepth 100000 in
theorem least_yes (A0 : Option Addr) (c0 : Nat) (g : List GN) (A1 : Option Addr) (c1 : Nat) (l : List Int) (w : World) (hK : Keys w) (hg : Kd.C P.k33 w A0 g.length g) (hgc : g.length ≤ c0) (hl : Kd.C (Kd.int .i64) w A1 l.length l) (hlc : l.length ≤ c1) (hl10 : l.length ≤ 1000) :
    Calls Tryd.prog 23 #[.slice A0 g.length c0, .slice A1 l.length c1] w fun e w' => ∃ n r, e = .returned (.tuple #[.int .i64 n, .int .i64 r]) ∧ LeastP g l n r ∧ Below w.heap.size w w' := by
  have HK := Aside0.mk hK
  have HG := Aside0.mk hg
  have HGc := Aside0.mk hgc
  have HL := Aside0.mk hl
  have HLc := Aside0.mk hlc
  have HL1 := Aside0.mk hl10
  clear hK hg hgc hl hlc hl10
  go_enter Tryd.func23, Tryd.ntmps23
  go_wp2_with (fail)
  refine (check_yes A0 c0 g w HK.out HG.out HGc.out).mono ?_
  rintro e W1 ⟨rfl, hb⟩
  have HB1 := Aside0.mk hb
  clear hb
  by_cases hc : checkP g = 0
  · have HC := Aside0.mk hc
    have hcb : (checkP g != 0) = false := by simp [hc]
    clear hc
    go_wp2_with (fail)
    refine (of_yes A0 c0 g true A1 c1 l W1 (HK.out.below HB1.out) (Kd.C_below HG.out HB1.out) HGc.out (Kd.C_below HL.out HB1.out) HLc.out).mono ?_
    rintro e W3 ⟨hb3, ⟨hof, sb, m, rfl, hS⟩ | ⟨hof, rfl⟩⟩
    · have HOf := Aside0.mk (show l.any (outP g.length) = false by
        unfold ofP at hof
        rw [decide_eq_true HC.out, Bool.true_and, Bool.not_eq_true'] at hof
        exact hof)
      have HB3 := Aside0.mk (HB1.out.trans (hb3.mono HB1.out.size))
      have HS3 := Aside0.mk (hS.alloc (.cells #[.pointer (some ⟨sb, 0, none⟩)] 44))
      have hblk := heap_alloc_new W3 (.cells #[.pointer (some ⟨sb, 0, none⟩)] 44)
      have y7 : (W3.alloc (.cells #[.pointer (some ⟨sb, 0, none⟩)] 44)).cell? ⟨W3.heap.size, 0, none⟩ = some (.pointer (some ⟨sb, 0, none⟩)) := (blk_cell hblk 0).trans rfl
      have HB4 := Aside0.mk (below_alloc HB3.out (.cells #[.pointer (some ⟨sb, 0, none⟩)] 44))
      have HN3 := Aside0.mk (hS.box_ne (Nat.le_refl W3.heap.size))
      clear hof hb3 hS hblk
      go_wp2_with (fail)
      generalize W3.alloc (.cells #[.pointer (some ⟨sb, 0, none⟩)] 44) = V at HS3 y7 HB4 ⊢
      obtain ⟨b7, hb7⟩ : ∃ b, b = W3.heap.size := ⟨_, rfl⟩
      rw [← hb7] at y7 HN3 ⊢
      clear hb7
      obtain ⟨ln, hln⟩ : ∃ ln : List Nat, l = ln.map (fun a : Nat => (a : Int)) := ⟨l.map Int.toNat, by
        rw [List.map_map]
        conv => lhs; rw [← List.map_id l]
        exact List.map_congr_left (fun x hx => by
          have := List.any_eq_false.1 HOf.out x hx
          unfold outP at this
          simp at this
          show x = ((x.toNat : Nat) : Int)
          omega)⟩
      have HIn := Aside0.mk (show ∀ a ∈ ln, a < g.length from fun a ha => by
        have := List.any_eq_false.1 HOf.out (a : Int) (by rw [hln]; exact List.mem_map_of_mem ha)
        unfold outP at this
        simp at this
        omega)
      have hlen : l.length = ln.length := by rw [hln]; simp
      have HX := Aside0.mk (show ∀ i, ∀ h : i < ln.length, ∀ W, Below w.heap.size w W → ∃ ad, A1 = some ad ∧ W.cell? (ad.add i) = some (.int .i64 (ln[i] : Int)) from fun i h W hW => by
        obtain ⟨ad, e, hx⟩ := Kd.at_int (Kd.C_below HL.out hW) (i : Int) (by omega) (by omega)
        refine ⟨ad, e, ?_⟩
        rw [Int.toNat_natCast] at hx
        rw [hx]
        congr 2
        show l.getD i 0 = _
        rw [hln, List.getD_eq_getElem?_getD, List.getElem?_map, List.getElem?_eq_getElem h]
        rfl)
      have HLn := Aside0.mk hln
      have HL2 := Aside0.mk (show ln.length ≤ 1000 by have := HL1.out; omega)
      have hl9 : ln.length ≤ 9223372036854775807 := by have := HL2.out; omega
      rw [hlen]
      clear hln
      go_loopw [9, 31] (fun v9 v31 wr => ∃ i : Nat, i ≤ ln.length ∧ v31 = .int .i64 i ∧ Aside0 (Kd.R kP 49 wr V.heap.size (fun _ => True) v9 (ints (prod (ln.take i) ln))) ∧ Aside0 (Below V.heap.size V wr)) (fun v9 v31 _ => ln.length + 1 - (intOf v31).toNat)
      case atStart => exact ⟨0, by omega, rfl, ⟨Kd.R_nil _ _ _ _ _⟩, ⟨Below.refl _ _⟩⟩
      case round =>
        obtain ⟨i, hi, rfl, HRo, HBo⟩ := hrel
        by_cases hlt : i < ln.length
        · have hBw := HB4.out.trans (HBo.out.mono HB4.out.size)
          obtain ⟨ad, ea, hx⟩ := HX.out i hlt wr hBw
          cases ea
          obtain ⟨x, hxx⟩ : ∃ x, x = ln[i] := ⟨_, rfl⟩
          rw [← hxx] at hx
          have HPt := Aside0.mk (prod_take ln ln i x (by rw [hxx]; exact List.getElem?_eq_getElem hlt))
          have HXin := Aside0.mk (HIn.out x (by rw [hxx]; exact List.getElem_mem hlt))
          clear hxx
          go_wp2_with (fail)
          go_loopw [9, 37] (fun v9 v37 wx => ∃ j : Nat, j ≤ ln.length ∧ v37 = .int .i64 j ∧ Aside0 (Kd.R kP 49 wx V.heap.size (fun _ => True) v9 (ints (prod (ln.take i) ln ++ (ln.take j).map fun b => (x, b)))) ∧ Aside0 (Below V.heap.size V wx)) (fun v9 v37 _ => ln.length + 1 - (intOf v37).toNat)
          case atStart => exact ⟨0, by omega, rfl, ⟨by simpa using HRo.out⟩, HBo⟩
          case round =>
            clear HRo HBo
            obtain ⟨j, hj, rfl, HRo, HBo⟩ := hrel
            by_cases hlj : j < ln.length
            · obtain ⟨ad2, ea2, hy⟩ := HX.out j hlj _ (HB4.out.trans (HBo.out.mono HB4.out.size))
              cases ea2
              rename World => X
              obtain ⟨y, hyy⟩ : ∃ y, y = ln[j] := ⟨_, rfl⟩
              rw [← hyy] at hy
              have hmem := List.getElem_mem hlj
              have HTk := Aside0.mk (show (ln.take (j + 1)).map (fun b => (x, b)) = (ln.take j).map (fun b => (x, b)) ++ [(x, y)] by
                rw [List.take_add_one, List.getElem?_eq_getElem hlj, ← hyy]; simp)
              have HAL : Aside0 (((ints (prod (ln.take i) ln ++ (ln.take j).map fun b => (x, b))).length + 1) * 16 ≤ 140737488355328) := ⟨by
                rw [ints_len, List.length_append, prod_len, List.length_map, List.length_take, List.length_take]
                have h1 := HL2.out
                have h2 : min i ln.length * ln.length ≤ 1000 * 1000 := Nat.mul_le_mul (by omega) h1
                omega⟩
              have hw : wrap64 ((j : Int) + 1) = ((j + 1 : Nat) : Int) := by unfold wrap64; omega
              clear hyy hmem
              go_wp2_with (first | ((with_reducible refine gate_builtin (b := .append) (xs := #[.tmp 41, .tmp 45]) rfl ?_); at_builtin; refine Kd.R_append kP (w0 := V) V.heap.size rfl (.tmp 41) (.tmp 45) 47 49 (.agg #[.int .i64 0, .int .i64 0]) 16 rfl Tryd.underlying47 infoP rfl (by decide) (by omega) u9 _ ((x : Int), (y : Int)) [.int .i64 x, .int .i64 y] (fun _ => True) (fun _ => False) rfl rfl (kP_mkM _ _ _ _) (fun _ hk => hk.elim) (fun _ _ => trivial) HRo.out HBo.out HBo.out.size HAL.out ?_; intro v9 W9 ho hb hg9 hat9))
              have HO := Aside0.mk (show Kd.R kP 49 W9 V.heap.size (fun _ => True) v9 (ints (prod (ln.take i) ln ++ (ln.take (j + 1)).map fun b => (x, b))) by
                rw [HTk.out]
                unfold ints at ho ⊢
                rw [← List.append_assoc, List.map_append]
                exact ho)
              have HB9 := Aside0.mk hb
              clear ho hb hg9 hat9
              go_wp2_with (fail)
              go_roundw
              case rel => exact ⟨j + 1, by omega, by first | (rw [hw]; done) | (rw [Int.natCast_add]; rfl), HO, HB9⟩
              case measure => first | (rw [hw]; simp only [intOf]; omega) | (simp only [intOf]; omega)
            · obtain rfl : j = ln.length := by omega
              have hw : wrap64 ((i : Int) + 1) = ((i + 1 : Nat) : Int) := by unfold wrap64; omega
              go_wp2_with (fail)
              go_roundw
              case rel => exact ⟨i + 1, by omega, by first | (rw [hw]; done) | (rw [Int.natCast_add]; rfl), ⟨by have := HRo.out; rw [List.take_length] at this; rw [HPt.out]; exact this⟩, HBo⟩
              case measure => first | (rw [hw]; simp only [intOf]; omega) | (simp only [intOf]; omega)
        · obtain rfl : i = ln.length := by omega
          rename World => X
          rw [List.take_length] at HRo
          obtain ⟨A9, c9, rfl, hc9, hr9⟩ := Kd.R_reads HRo.out
          have HSX := Aside0.mk (Sv.below HS3.out HBo.out)
          have y7' := pw_cell_below HBo.out y7
          have HRb := Aside0.mk (Kd.R_bound HRo.out)
          have HC9 := Aside0.mk hc9
          have HVm := Aside0.mk (Nat.lt_of_lt_of_le HS3.out.mp.lt (Nat.le_refl _))
          clear hr9 hc9 y7
          go_wp2_with (fail)
          rw [ints_len]
          refine (solve_yes W1 X sb m A0 c0 g true F2.none_ HSX.out (Inv.none_ true g) A9 c9 (prod ln ln) (fun p hp => ⟨HIn.out _ (mem_prod.1 hp).1, HIn.out _ (mem_prod.1 hp).2⟩) (fun W' hg => by
            have h1 := (Kd.R_reads' (Kd.R_grown HRb.out hg (fun k hk e => by have h1 := hk.2.1; have h2 := HVm.out; cases e; omega))).2.2
            rw [ints_len] at h1
            exact h1) (by have := HC9.out; rw [ints_len] at this; exact this)).mono ?_
          rintro e W5 ⟨rfl, f, hm5, hg5, hen, hkn⟩
          have HEn := Aside0.mk hen
          have HKn := Aside0.mk (show ∀ a ∈ ln, ∀ b ∈ ln, (vl (f a b) == 0) = true ↔ ¬ Sub true g a b from fun a ha b hb => by
            have hk := hkn (a, b) (mem_prod.2 ⟨ha, hb⟩)
            rw [← hen.sub hk]
            cases hfx : f a b with
            | none => exact absurd hfx hk
            | some v => cases v <;> simp [vl])
          have HS5 := Aside0.mk (HSX.out.grown hg5 hm5)
          have HB5 := Aside0.mk (HB1.out.trans (HS5.out.old.mono HB1.out.size))
          have y5 := hg5.cell y7' HN3.out
          have hb75 : b7 < W5.heap.size := World.block_lt_of_cell? W5 _ y5
          clear hm5 hg5 hen hkn y7'
          go_wp2_with (fail)
          go_loopw [54] (fun v54 wr => ∃ i : Nat, i ≤ ln.length ∧ v54 = .int .i64 i ∧ Aside0 (W5.grownBy wr (some m)) ∧ Aside0 (Mp wr m g.length f) ∧ Aside0 (∀ i', i' < i → ∀ a, ln[i']? = some a → ∃ b ∈ ln, ¬ Sub true g a b)) (fun v54 _ => ln.length + 1 - (intOf v54).toNat)
          case atStart => exact ⟨0, by omega, rfl, ⟨World.grownBy.refl _ _⟩, ⟨HS5.out.mp⟩, ⟨fun i' h => by omega⟩⟩
          case round =>
            rename World => Y
            obtain ⟨i, hi, rfl, HGi, HMi, HNo⟩ := hrel
            have HSY := Aside0.mk (HS5.out.grown HGi.out HMi.out)
            have HBY := Aside0.mk (HB1.out.trans (HSY.out.old.mono HB1.out.size))
            by_cases hlt : i < ln.length
            · obtain ⟨ad, ea, hx⟩ := HX.out i hlt Y HBY.out
              obtain ⟨x, hxx⟩ : ∃ x, x = ln[i] := ⟨_, rfl⟩
              rw [← hxx] at hx
              have HXm := Aside0.mk (show x ∈ ln by rw [hxx]; exact List.getElem_mem hlt)
              have HXa := Aside0.mk (show ln[i]? = some x by rw [hxx]; exact List.getElem?_eq_getElem hlt)
              have HSZ := Aside0.mk (HSY.out.alloc (.cells #[.int .i64 x] 3))
              have hblk := heap_alloc_new Y (.cells #[.int .i64 x] 3)
              have yx : (Y.alloc (.cells #[.int .i64 x] 3)).cell? ⟨Y.heap.size, 0, none⟩ = some (.int .i64 x) := (blk_cell hblk 0).trans rfl
              have HGZ := Aside0.mk (HGi.out.trans (World.grownBy_alloc Y (.cells #[.int .i64 x] 3) (some m)))
              have yb := HGZ.out.cell y5 HN3.out
              have HBZ := Aside0.mk (below_alloc HBY.out (.cells #[.int .i64 x] 3))
              have HYm := Aside0.mk (HSY.out.box_ne (Nat.le_refl Y.heap.size))
              clear hxx hblk
              have HEA := Aside0.mk ea
              rw [ea] at HX HL ⊢
              go_wp2_with (fail)
              generalize Y.alloc (.cells #[.int .i64 x] 3) = Z at HSZ yx HGZ yb HBZ ⊢
              have hcont := least1_contains b7 Y.heap.size (some ad) c1 l Z (fun j W => Z.grownBy W (some m) ∧ Mp W m g.length f ∧ ∀ j', j' < j → ∀ b, ln[j']? = some b → Sub true g x b) (fun W => Z.grownBy W (some m) ∧ Mp W m g.length f ∧ ∃ b ∈ ln, ¬ Sub true g x b)
                (fun j W hW => Kd.C_below HL.out (HB1.out.trans ((HSZ.out.grown hW.1 hW.2.1).old.mono HB1.out.size))) HLc.out (fun j W hj hW => by
                  have hj2 : j < ln.length := by omega
                  have hrd : rd l (j : Int) = (ln[j] : Int) := by
                    show l.getD j 0 = _
                    rw [HLn.out, List.getD_eq_getElem?_getD, List.getElem?_map, List.getElem?_eq_getElem hj2]
                    rfl
                  rw [hrd]
                  have hmem := List.getElem_mem hj2
                  refine (least1_yes b7 Y.heap.size sb m g.length x ln[j] f W (hW.1.cell yb HN3.out) (hW.1.cell HSZ.out.z2 (fun e => HSZ.out.ne (by cases e; rfl))) (hW.1.cell yx HYm.out) hW.2.1 (HIn.out _ HXm.out) (HIn.out _ hmem)).mono ?_
                  rintro e W' ⟨rfl, rfl⟩
                  have hk := HKn.out x HXm.out ln[j] hmem
                  cases hv : (vl (f x ln[j]) == 0) with
                  | true => exact .inl ⟨rfl, grown_drew hW.1, hW.2.1.drew, ln[j], hmem, hk.1 hv⟩
                  | false =>
                    refine .inr ⟨rfl, grown_drew hW.1, hW.2.1.drew, fun j' hj' b hb => ?_⟩
                    by_cases e : j' = j
                    · subst e
                      rw [List.getElem?_eq_getElem hj2] at hb
                      cases hb
                      exact Classical.byContradiction (fun h => by have := hk.2 h; rw [hv] at this; cases this)
                    · exact hW.2.2 j' (by omega) b hb) ⟨World.grownBy.refl _ _, HSZ.out.mp, fun j' h => by omega⟩
              rw [hlen] at hcont
              refine hcont.mono ?_
              rintro e W9 (⟨rfl, hg9, hm9, hno⟩ | ⟨rfl, hg9, hm9, hall⟩)
              · have HG9 := Aside0.mk (HGZ.out.trans hg9)
                have HM9 := Aside0.mk hm9
                have HNo2 := Aside0.mk (show ∀ i', i' < i + 1 → ∀ a, ln[i']? = some a → ∃ b ∈ ln, ¬ Sub true g a b from fun i' hi' a ha => by
                  by_cases e : i' = i
                  · subst e
                    rw [HXa.out] at ha
                    cases ha
                    exact hno
                  · exact HNo.out i' (by omega) a ha)
                have hw : wrap64 ((i : Int) + 1) = ((i + 1 : Nat) : Int) := by unfold wrap64; omega
                clear hg9 hm9 hno hcont
                go_wp2_with (fail)
                go_roundw
                case rel => exact ⟨i + 1, by omega, by first | (rw [hw]; done) | (rw [Int.natCast_add]; rfl), HG9, HM9, HNo2⟩
                case measure => first | (rw [hw]; simp only [intOf]; omega) | (simp only [intOf]; omega)
              · have yx9 := hg9.cell yx HYm.out
                have HB9 := Aside0.mk (HB1.out.trans ((HSZ.out.grown hg9 hm9).old.mono HB1.out.size))
                have HF := Aside0.mk (show LeastP g l x 0 by
                  unfold LeastP
                  rw [if_pos HC.out, if_neg (by rw [HOf.out]; simp)]
                  have hli : l[i]? = some (x : Int) := by rw [HLn.out, List.getElem?_map, HXa.out]; rfl
                  obtain ⟨hil, hie⟩ := List.getElem?_eq_some_iff.1 hli
                  refine .inl ⟨i, hil, hie.symm, rfl, fun b hb => ?_, fun i' hi' a ha => ?_⟩
                  · rw [HLn.out] at hb
                    obtain ⟨b', hb', rfl⟩ := List.mem_map.1 hb
                    obtain ⟨j, hj, e⟩ := List.getElem_of_mem hb'
                    rw [hie]
                    simpa using hall j (by omega) b' (by rw [List.getElem?_eq_getElem hj, e])
                  · rw [HLn.out, List.getElem?_map] at ha
                    cases hl' : ln[i']? with
                    | none => rw [hl'] at ha; cases ha
                    | some a' =>
                      rw [hl'] at ha
                      simp at ha
                      subst ha
                      obtain ⟨b, hb, hs⟩ := HNo.out i' hi' a' hl'
                      exact ⟨(b : Int), by rw [HLn.out]; exact List.mem_map_of_mem hb, by simpa using hs⟩)
                clear hg9 hm9 hall hcont
                go_wp2_with (fail)
                go_ret2
                exact ⟨_, _, rfl, HF.out, HB9.out⟩
            · obtain rfl : i = ln.length := by omega
              have HF := Aside0.mk (show LeastP g l 0 2 by
                unfold LeastP
                rw [if_pos HC.out, if_neg (by rw [HOf.out]; simp)]
                refine .inr ⟨rfl, rfl, fun a ha => ?_⟩
                rw [HLn.out] at ha ⊢
                obtain ⟨a', ha', rfl⟩ := List.mem_map.1 ha
                obtain ⟨i', hi', e⟩ := List.getElem_of_mem ha'
                obtain ⟨b, hb, hs⟩ := HNo.out i' hi' a' (by rw [List.getElem?_eq_getElem hi', e])
                exact ⟨(b : Int), List.mem_map_of_mem hb, by simpa using hs⟩)
              go_wp2_with (fail)
              go_ret2
              exact ⟨_, _, rfl, HF.out, HBY.out⟩
    · have hof2 : l.any (outP g.length) = true := by
        unfold ofP at hof
        rw [decide_eq_true HC.out, Bool.true_and] at hof
        simpa using hof
      have HF := Aside0.mk (show LeastP g l 0 9 by unfold LeastP; rw [if_pos HC.out, if_pos hof2]; exact ⟨rfl, rfl⟩)
      have HB3 := Aside0.mk (HB1.out.trans (hb3.mono HB1.out.size))
      clear hof hof2 hb3
      go_wp2_with (fail)
      go_ret2
      exact ⟨_, _, rfl, HF.out, below_alloc HB3.out _⟩
  · have hcb : (checkP g != 0) = true := by simp [hc]
    have HF := Aside0.mk (show LeastP g l 0 (checkP g) by unfold LeastP; rw [if_neg hc]; exact ⟨rfl, rfl⟩)
    clear hc
    go_wp2_with (fail)
    go_ret2
    exact ⟨_, _, rfl, HF.out, HB1.out⟩
end Go.Proofs.YtgppcpghpeenhaaDoor.R2
