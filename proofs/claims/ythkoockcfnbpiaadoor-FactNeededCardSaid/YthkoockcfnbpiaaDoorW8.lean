/- Facts: formed. -/
import Derived.Test.YthkoockcfnbpiaaDoorProg
import Derived.Test.YthkoockcfnbpiaaDoorWWords
import Derived.Test.YthkoockcfnbpiaaDoorWLast
import Derived.Test.YthkoockcfnbpiaaDoorW7
namespace Go.Proofs.YthkoockcfnbpiaaDoor.W8
open Go.RowKit Go.Proofs.YthkoockcfnbpiaaDoorW.PrintWords Go.Proofs.YthkoockcfnbpiaaDoorW.PrintLast Go.Proofs.YthkoockcfnbpiaaDoorW.PrintMore Go.Proofs.YthkoockcfnbpiaaDoor L1 L4 G1 G2 S0 S1 S2 S3 S4 S5 S8 F1 W1 F2 F3 W2 W3 W4 W5 W6 W7
set_option linter.unusedVariables false
set_option linter.unusedSimpArgs false
set_option maxHeartbeats 4000000 in
set_option maxRecDepth 100000 in
theorem odd_index (gb : Nat) (A : Option Addr) (c : Nat) (l : List Int) (w : World) (R : Nat → World → Prop) (T : World → Prop) (hC : ∀ i W, R i W → Kd.C (Kd.int .i64) W A l.length l) (hc : l.length ≤ c)
    (hcl : ∀ i W, i < l.length → R i W → Calls Tryd.prog 66 #[.int .i64 (rd l (i : Int)), .pointer (some ⟨gb, 0, none⟩)] W fun e W' => (e = .returned (.bool true) ∧ T W') ∨ (e = .returned (.bool false) ∧ R (i + 1) W')) (hR : R 0 w) :
    Calls Tryd.prog 51 #[.slice A l.length c, .func (.func 66) #[] #[.pointer (some ⟨gb, 0, none⟩)]] w fun e w' => (∃ n : Int, e = .returned (.int .i64 n) ∧ 0 ≤ n ∧ T w') ∨ (e = .returned (.int .i64 (-1)) ∧ R l.length w') := by
  have HC := Aside0.mk hC
  have Hc := Aside0.mk hc
  have HL := Aside0.mk (hC 0 w hR).2.1
  have HCl := Aside0.mk hcl
  have HR := Aside0.mk hR
  clear hC hc hcl hR
  go_enter Tryd.func51, Tryd.ntmps51
  go_wp2_with (fail)
  go_loopw [8] (fun v8 wr => ∃ i : Nat, i ≤ l.length ∧ v8 = .int .i64 i ∧ Aside0 (R i wr)) (fun v8 _ => l.length + 1 - (intOf v8).toNat)
  case atStart => exact ⟨0, by omega, rfl, HR⟩
  case round =>
    obtain ⟨i, hi, rfl, HRi⟩ := hrel
    by_cases hlt : i < l.length
    · obtain ⟨ad, ea, hx⟩ := Kd.at_int (HC.out i wr HRi.out) (i : Int) (by omega) (by omega)
      cases ea
      simp only [Int.toNat_natCast] at hx
      have hL := HL.out
      have hw : wrap64 ((i : Int) + 1) = ((i + 1 : Nat) : Int) := by unfold wrap64; omega
      go_wp2_with (fail)
      refine (HCl.out i wr hlt HRi.out).mono ?_
      rintro e w' (⟨rfl, ht⟩ | ⟨rfl, hr⟩)
      · have HT := Aside0.mk ht
        clear ht
        go_wp2_with (fail)
        go_ret
        exact .inl ⟨i, rfl, by omega, HT.out⟩
      · have HR2 := Aside0.mk hr
        clear hr
        go_wp2_with (fail)
        go_roundw
        case rel => exact ⟨i + 1, by omega, by first | (rw [hw]; done) | (rw [Int.natCast_add]; rfl), HR2⟩
        case measure => first | (rw [hw]; simp only [intOf]; omega) | (simp only [intOf]; omega)
    · obtain rfl : i = l.length := by omega
      go_wp2_with (fail)
      go_ret
      exact .inr ⟨rfl, HRi.out⟩
set_option maxRecDepth 100000 in
theorem odd_contains (gb : Nat) (A : Option Addr) (c : Nat) (l : List Int) (w : World) (R : Nat → World → Prop) (T : World → Prop) (hC : ∀ i W, R i W → Kd.C (Kd.int .i64) W A l.length l) (hc : l.length ≤ c)
    (hcl : ∀ i W, i < l.length → R i W → Calls Tryd.prog 66 #[.int .i64 (rd l (i : Int)), .pointer (some ⟨gb, 0, none⟩)] W fun e W' => (e = .returned (.bool true) ∧ T W') ∨ (e = .returned (.bool false) ∧ R (i + 1) W')) (hR : R 0 w) :
    Calls Tryd.prog 39 #[.slice A l.length c, .func (.func 66) #[] #[.pointer (some ⟨gb, 0, none⟩)]] w fun e w' => (e = .returned (.bool true) ∧ T w') ∨ (e = .returned (.bool false) ∧ R l.length w') := by
  have HI := Aside0.mk (odd_index gb A c l w R T hC hc hcl hR)
  clear hC hc hcl hR
  go_enter Tryd.func39, Tryd.ntmps39
  go_wp2_with (fail)
  refine HI.out.mono ?_
  rintro e w' (⟨n, rfl, hn, ht⟩ | ⟨rfl, hr⟩)
  · have hd : decide (0 ≤ n) = true := decide_eq_true hn
    have HT := Aside0.mk ht
    have hne := eq_true hn
    clear ht
    go_wp2_with (fail)
    go_ret
    exact .inl ⟨rfl, HT.out⟩
  · have HR := Aside0.mk hr
    clear hr
    go_wp2_with (fail)
    go_ret
    exact .inr ⟨rfl, HR.out⟩
theorem odd_yes (k : Int) (gb xb n : Nat) (A1 : Option Addr) (c1 : Nat) (w : World) (h0 : w.cell? ⟨gb, 0, none⟩ = some (.pointer (some ⟨xb, 0, none⟩))) (h1 : w.cell? ⟨xb, 1, none⟩ = some (.slice A1 n c1)) :
    Calls Tryd.prog 66 #[.int .i64 k, .pointer (some ⟨gb, 0, none⟩)] w fun e w' => e = .returned (.bool (!inP n k)) ∧ Below w.heap.size w w' := by
  by_cases h : 0 ≤ k
  · have e0 : decide (k < 0) = false := by simp; omega
    by_cases h' : k < n
    · have HP := Aside0.mk (show inP n k = true by unfold inP; simp [h, h'])
      have e1 : ((n : Int) ≤ k) = False := eq_false (by omega)
      go_enter Tryd.func66, Tryd.ntmps66
      go_wp2_with (fail)
      go_ret
      exact ⟨by rw [HP.out]; rfl, Below.refl _ _⟩
    · have HP := Aside0.mk (show inP n k = false by unfold inP; simp [h'])
      have e1 : ((n : Int) ≤ k) = True := eq_true (by omega)
      go_enter Tryd.func66, Tryd.ntmps66
      go_wp2_with (fail)
      go_ret
      exact ⟨by rw [HP.out]; rfl, Below.refl _ _⟩
  · have e0 : decide (k < 0) = true := by simp; omega
    have HP := Aside0.mk (show inP n k = false by unfold inP; simp [h])
    go_enter Tryd.func66, Tryd.ntmps66
    go_wp2_with (fail)
    go_ret
    exact ⟨by rw [HP.out]; rfl, Below.refl _ _⟩
/-- Are all numbers of facts? -/
theorem odds_yes (gb xb n : Nat) (A1 : Option Addr) (c1 : Nat) (A : Option Addr) (c : Nat) (ks : List Int) (w : World) (h0 : w.cell? ⟨gb, 0, none⟩ = some (.pointer (some ⟨xb, 0, none⟩))) (h1 : w.cell? ⟨xb, 1, none⟩ = some (.slice A1 n c1)) (hk : Kd.C (Kd.int .i64) w A ks.length ks) (hc : ks.length ≤ c) :
    Calls Tryd.prog 39 #[.slice A ks.length c, .func (.func 66) #[] #[.pointer (some ⟨gb, 0, none⟩)]] w fun e w' => e = .returned (.bool (!ks.all (inP n))) ∧ Below w.heap.size w w' := by
  refine (odd_contains gb A c ks w (fun i W => Below w.heap.size w W ∧ (ks.take i).all (inP n) = true) (fun W => Below w.heap.size w W ∧ ks.all (inP n) = false) (fun i W h => Kd.C_below hk h.1) hc (fun i W hi hR => ?_) ⟨Below.refl _ _, rfl⟩).mono ?_
  · refine (odd_yes _ gb xb n A1 c1 W (pw_cell_below hR.1 h0) (pw_cell_below hR.1 h1)).mono ?_
    rintro e W' ⟨rfl, hb⟩
    have hg : rd ks (i : Int) = ks.getD i 0 := by show ks.getD (i : Int).toNat _ = _; rw [Int.toNat_natCast]
    rw [hg]
    cases hp : inP n (ks.getD i 0) with
    | true =>
      refine .inr ⟨rfl, hR.1.trans (hb.mono hR.1.size), ?_⟩
      rw [take_one hi, List.all_append, hR.2]
      simp only [List.all_cons, List.all_nil, Bool.and_true, Bool.true_and]
      exact hp
    | false =>
      refine .inl ⟨rfl, hR.1.trans (hb.mono hR.1.size), ?_⟩
      rw [← Bool.not_eq_true, List.all_eq_true]
      intro h
      have := h (ks.getD i 0) (by rw [List.getD_eq_getElem?_getD, List.getElem?_eq_getElem hi]; exact List.getElem_mem hi)
      rw [hp] at this
      cases this
  · rintro e W (⟨rfl, hb, h⟩ | ⟨rfl, hb, h⟩)
    · exact ⟨by rw [h]; rfl, hb⟩
    · rw [List.take_length] at h
      exact ⟨by rw [h]; rfl, hb⟩
def fo3.T3 : Bool × List (List Nat × List Nat) := (true, [([], []), ([0], [0]), ([1], [1]), ([2], [2]), ([], []), ([4], [4]), ([3, 5], [3, 5]), ([6], [6]), ([], []), ([8, 7, 0, 1, 2, 3, 4, 5, 6, 7, 8], [7, 8]), ([9, 0, 1, 2, 3, 4, 5, 6, 7, 8, 9], [])])
def fo3.B3 : List Nat := [0, 1, 3, 7, 0, 16, 63, 127, 0, 511, 1023]
theorem fo3.tab3 : rtab .any (opsOf Tryd.f49 3) = fo3.T3 := by kernel_rfl
theorem fo3.bits3 : waitsOk fo3.T3.2 fo3.B3 = true := by kernel_rfl
def fo15.T15 : Bool × List (List Nat × List Nat) := (true, [([], []), ([0], [0]), ([1], [1]), ([2], [2]), ([3], [3]), ([4], [4]), ([5], [5]), ([6, 5], [5, 6]), ([7, 5], [5, 7]), ([8, 5], [5, 8]), ([5], [5]), ([10, 5], [5, 10]), ([11, 5], [5, 11]), ([12, 5], [5, 12]), ([5], [5]), ([14, 5], [5, 14]), ([13, 15, 5, 5], [5, 13, 15]), ([16, 5], [5, 16]), ([9, 17, 5], [5, 9, 17]), ([5, 18], [5, 18]), ([19, 16], [19])])
def fo15.B15 : List Nat := [0, 1, 3, 7, 15, 31, 63, 127, 255, 511, 63, 1087, 3135, 7231, 63, 16447, 64575, 130111, 262143, 524287, 1048575]
theorem fo15.tab15 : rtab .any (opsOf Tryd.f49 15) = fo15.T15 := by kernel_rfl
theorem fo15.bits15 : waitsOk fo15.T15.2 fo15.B15 = true := by kernel_rfl
set_option maxHeartbeats 16000000 in
set_option maxRecDepth 100000 in
theorem formed_yes (xb : Nat) (A0 : Option Addr) (c0 : Nat) (g : List GN) (A1 : Option Addr) (c1 : Nat) (l : List FC) (A B : Int) (ws : List Int) (Aw : Option Addr) (cw : Nat) (w : World) (hx : Fx w xb A0 c0 g A1 c1 l) (hw : Kd.C (Kd.int .i64) w Aw ws.length ws) (hwc : ws.length ≤ cw) (hc : checkP g = 0) :
    Calls Tryd.prog 49 #[.pointer (some ⟨xb, 0, none⟩), .agg #[.int .i64 A, .int .i64 B, .slice Aw ws.length cw]] w fun e w' => e = .returned (.bool (frmP g l.length ⟨A, B, ws⟩)) ∧ Below w.heap.size w w' := by
  have h1 := heap_alloc_new w (.cells #[.pointer (some ⟨xb, 0, none⟩)] 73)
  have h2 := heap_alloc_new (w.alloc (.cells #[.pointer (some ⟨xb, 0, none⟩)] 73)) (.cells #[.int .i64 A, .int .i64 B, .slice Aw ws.length cw] 37)
  rw [World.size_alloc] at h2
  have y0 := (blk_cell (blk_alloc h1 (.cells #[.int .i64 A, .int .i64 B, .slice Aw ws.length cw] 37)) 0).trans rfl
  have y1 := (blk_cell h2 0).trans rfl
  have y2 := (blk_cell h2 1).trans rfl
  have y3 := (blk_cell h2 2).trans rfl
  have HB1 := Aside0.mk (below_alloc (below_alloc (Below.refl w.heap.size w) (.cells #[.pointer (some ⟨xb, 0, none⟩)] 73)) (.cells #[.int .i64 A, .int .i64 B, .slice Aw ws.length cw] 37))
  have HX := Aside0.mk hx
  have HW := Aside0.mk hw
  have HWc := Aside0.mk hwc
  have HC := Aside0.mk hc
  have HMs := Aside0.mk (members_small hc)
  have HN2 := Aside0.mk (check_ok hc).1
  clear h1 h2 hx hw hwc hc
  go_enter Tryd.func49, Tryd.ntmps49
  go_wp2_with (fail)
  generalize hW2 : ((w.alloc (.cells #[.pointer (some ⟨xb, 0, none⟩)] 73)).alloc (.cells #[.int .i64 A, .int .i64 B, .slice Aw ws.length cw] 37)) = W2 at y0 y1 y2 y3 HB1 ⊢
  try rw [World.size_alloc]
  refine (place_yes xb A0 g.length c0 A W2 (HX.out.below HB1.out).z0).mono ?_
  rintro e W3 ⟨rfl, hb3⟩
  have HB3 := Aside0.mk (HB1.out.trans (hb3.mono HB1.out.size))
  have u0 := pw_cell_below hb3 y0
  have u1 := pw_cell_below hb3 y1
  have u2 := pw_cell_below hb3 y2
  have u3 := pw_cell_below hb3 y3
  clear y0 y1 y2 y3 hb3 hW2 HB1
  cases hA : inP g.length A with
  | false =>
    have HPf := Aside0.mk (show frmP g l.length ⟨A, B, ws⟩ = false by unfold frmP; dsimp only; rw [hA]; rfl)
    clear hA
    go_wp2_with (fail)
    go_ret
    rw [HPf.out]
    exact ⟨rfl, HB3.out⟩
  | true =>
    have HA' := Aside0.mk hA
    rw [inP_iff] at hA
    obtain ⟨a, rfl⟩ := Int.eq_ofNat_of_zero_le hA.1
    have ha : a < g.length := by omega
    have HA := Aside0.mk ha
    clear hA
    go_wp2_with (fail)
    refine (place_yes xb A0 g.length c0 B W3 (HX.out.below HB3.out).z0).mono ?_
    rintro e W4 ⟨rfl, hb4⟩
    have HB4 := Aside0.mk (HB3.out.trans (hb4.mono HB3.out.size))
    have y0 := pw_cell_below hb4 u0
    have y1 := pw_cell_below hb4 u1
    have y2 := pw_cell_below hb4 u2
    have y3 := pw_cell_below hb4 u3
    clear u0 u1 u2 u3 hb4 HB3
    cases hB : inP g.length B with
    | false =>
      have HPf := Aside0.mk (show frmP g l.length ⟨a, B, ws⟩ = false by unfold frmP; dsimp only; rw [HA'.out, hB]; rfl)
      clear hB ha
      go_wp2_with (fail)
      go_ret
      rw [HPf.out]
      exact ⟨rfl, HB4.out⟩
    | true =>
      have HF0 := Aside0.mk (show frmP g l.length ⟨a, B, ws⟩ = (if (nd g a).f0 = 8 then decide (ws.length = (nd g a).f4.length) && (onP g ⟨a, B, ws⟩).all (inP l.length)
        else if ws.length = 0 then false
        else if (nd g a).f0 = 9 ∧ ws.getD 0 0 = -1 then decide (ws.length = 2) && (onP g ⟨a, B, ws⟩).all (inP l.length)
        else if ws.getD 0 0 < 0 ∨ ((membersP g B).length : Int) ≤ ws.getD 0 0 then false
        else decide (ws.length = if (nd g a).f0 = 7 ∧ (chosenN g ⟨a, B, ws⟩).f0 = 7 then 1 + (chosenN g ⟨a, B, ws⟩).f3.length else if (nd g a).f0 = 9 ∧ (chosenN g ⟨a, B, ws⟩).f0 = 9 then 2 else 1) && (onP g ⟨a, B, ws⟩).all (inP l.length)) by
        unfold frmP
        dsimp only
        rw [HA'.out, hB]
        rfl)
      rw [inP_iff] at hB
      have HB_ := Aside0.mk hB
      obtain ⟨ad, Ak, ck, Al, cl, eA, hN⟩ := node_at HX.out.gr ha
      subst eA
      obtain ⟨x, hxx⟩ : ∃ x, x = nd g a := ⟨_, rfl⟩
      rw [← hxx] at hN HF0
      have HXX := Aside0.mk hxx
      have HOx := Aside0.mk (show Okn g x by rw [hxx]; exact (check_ok HC.out).2 _ (nd_mem (by omega) (by omega)))
      have HNw := Aside0.mk hN
      have e1 : ((a : Int) < (g.length : Int)) = True := eq_true (by omega)
      have hNz := hN.below (below_drew HB4.out)
      have n0 := hNz.c0
      have n1 := hNz.c1
      have n2 := hNz.c2
      have n3 := hNz.c3
      have n4 := hNz.c4
      have y0d := drew_cell y0
      have y1d := drew_cell y1
      have y2d := drew_cell y2
      have y3d := drew_cell y3
      have z0d := (HX.out.below (below_drew HB4.out)).z0
      have HB2 := Aside0.mk (below_drew HB4.out)
      clear hB ha hN hNz hxx y0 y1 y2 y3 HB4
      go_wp2_with (fail)
      refine start_ (n := 11) (S := fun w' => w'.cell? ⟨w.heap.size, 0, none⟩ = some (.pointer (some ⟨xb, 0, none⟩)) ∧ w'.cell? ⟨xb, 0, none⟩ = some (.slice (some ad) g.length c0) ∧ w'.cell? ⟨w.heap.size + 1, 0, none⟩ = some (.int .i64 (a : Int)) ∧ w'.cell? (ad.add (a * 5)) = some (.int .i64 x.f0) ∧ w'.cell? ⟨(ad.add (a * 5)).block, (ad.add (a * 5)).off + 1, none⟩ = some (.int .i64 x.f1) ∧ w'.cell? ⟨(ad.add (a * 5)).block, (ad.add (a * 5)).off + 2, none⟩ = some (.string x.f2) ∧ w'.cell? ⟨(ad.add (a * 5)).block, (ad.add (a * 5)).off + 3, none⟩ = some (.slice Ak x.f3.length ck) ∧ w'.cell? ⟨(ad.add (a * 5)).block, (ad.add (a * 5)).off + 4, none⟩ = some (.slice Al x.f4.length cl)) (ds := [9]) #[φ,φ,φ,φ,φ,φ,φ,φ,φ,φ,φ] (by kernel_rfl) rfl rfl ⟨y0d, z0d, y1d, n0, n1, n2, n3, n4⟩ (fun hHeld => ?_)
      generalize W4.drew = X2 at y0d y1d y2d y3d z0d n0 n1 n2 n3 n4 HB2 hHeld ⊢
      refine with_tabW fo3.tab3 fo3.bits3 (fun HT_ HW_ => ?_)
      refine pure_ (i := 4) (N := some 25) (v := ?_) (a' := ?_) #[φ,φ,φ,φ,τ,φ,φ,φ,φ,φ,φ] rfl rfl (any_of HT_.out (by kernel_rfl)) (fun _ _ _ h => h) (Or.inl ⟨by rfl, ?_⟩) ?_ ?_
      rotate_left; (intro w'; go_simp; with_reducible rfl); rotate_left; (simp only [Act.put, zz1, zz2, zz3, i64_w, i32_w]; rfl)
      refine take_ (i := 0) (N := some 21) (v := ?_) (a' := ?_) #[τ,φ,φ,φ,τ,φ,φ,φ,φ,φ,φ] rfl rfl (take_ofW HT_.out HW_.out (by kernel_rfl)) (fun _ _ _ h => h) (Or.inl ⟨by rfl, ?_⟩) hHeld ?_ ?_
      rotate_left; (rintro w' ⟨s0, s1, s2, s3, s4, s5, s6, s7⟩; go_simp; with_reducible rfl); rotate_left; (simp only [Act.put, zz1, zz2, zz3, i64_w, i32_w]; rfl)
      refine pure_ (i := 1) (N := some 22) (v := ?_) (a' := ?_) #[τ,τ,φ,φ,τ,φ,φ,φ,φ,φ,φ] rfl rfl (any_of HT_.out (by kernel_rfl)) (fun _ _ _ h => h) (Or.inl ⟨by rfl, ?_⟩) ?_ ?_
      rotate_left; (intro w'; go_simp; with_reducible rfl); rotate_left; (simp only [Act.put, zz1, zz2, zz3, i64_w, i32_w]; rfl)
      refine pure_ (i := 2) (N := some 23) (v := ?_) (a' := ?_) #[τ,τ,τ,φ,τ,φ,φ,φ,φ,φ,φ] rfl rfl (any_of HT_.out (by kernel_rfl)) (fun _ _ _ h => h) (Or.inl ⟨by rfl, ?_⟩) ?_ ?_
      rotate_left; (intro w'; go_simp; with_reducible rfl); rotate_left; (simp only [Act.put, zz1, zz2, zz3, i64_w, i32_w]; rfl)
      refine take_ (i := 3) (N := some 24) (v := ?_) (a' := ?_) #[τ,τ,τ,τ,τ,φ,φ,φ,φ,φ,φ] rfl rfl (take_ofW HT_.out HW_.out (by kernel_rfl)) (fun _ _ _ h => h) (Or.inl ⟨by rfl, ?_⟩) hHeld ?_ ?_
      rotate_left; (rintro w' ⟨s0, s1, s2, s3, s4, s5, s6, s7⟩; go_simp; with_reducible rfl); rotate_left; (simp only [Act.put, zz1, zz2, zz3, i64_w, i32_w]; rfl)
      refine take_ (i := 5) (N := some 26) (v := ?_) (a' := ?_) #[τ,τ,τ,τ,τ,τ,φ,φ,φ,φ,φ] rfl rfl (take_ofW HT_.out HW_.out (by kernel_rfl)) (fun _ _ _ h => h) (Or.inl ⟨by rfl, ?_⟩) hHeld ?_ ?_
      rotate_left; (rintro w' ⟨s0, s1, s2, s3, s4, s5, s6, s7⟩; go_simp; with_reducible rfl); rotate_left; (simp only [Act.put, zz1, zz2, zz3, i64_w, i32_w]; rfl)
      refine pure_ (i := 6) (N := some 27) (v := ?_) (a' := ?_) #[τ,τ,τ,τ,τ,τ,τ,φ,φ,φ,φ] rfl rfl (any_of HT_.out (by kernel_rfl)) (fun _ _ _ h => h) (Or.inl ⟨by rfl, ?_⟩) ?_ ?_
      rotate_left; (intro w'; go_simp; with_reducible rfl); rotate_left; (simp only [Act.put, zz1, zz2, zz3, i64_w, i32_w]; rfl)
      refine take_ (i := 7) (N := some 28) (v := ?_) (a' := ?_) #[τ,τ,τ,τ,τ,τ,τ,τ,φ,φ,φ] rfl rfl (take_ofW HT_.out HW_.out (by kernel_rfl)) (fun _ _ _ h => h) (Or.inl ⟨by rfl, ?_⟩) hHeld ?_ ?_
      rotate_left; (rintro w' ⟨s0, s1, s2, s3, s4, s5, s6, s7⟩; go_simp; with_reducible rfl); rotate_left; (simp only [Act.put, zz1, zz2, zz3, i64_w, i32_w]; rfl)
      refine one_ (i := 8) (N := some 5) #[τ,τ,τ,τ,τ,τ,τ,τ,τ,φ,φ] rfl rfl (one_of HT_.out (by kernel_rfl)) (by decide) (fun K hK => ?_)
      refine value_ (w1 := ?_) (v := ?_) (by rfl) rfl ?_ ?_
      rotate_left 2
      · go_simp
        constructor
        · rfl
        · rfl
      have hzb := heap_alloc_new X2 (.cells #[.int .i64 0, .int .i64 0, .string ⟨#[]⟩, .slice none 0 0, .slice none 0 0] 45)
      obtain ⟨s0, t0, s1, t1, s2, t2, s3, t3, s4, t4, hfin⟩ := store5_ hzb (.int .i64 x.f0) (.int .i64 x.f1) (.string x.f2) (.slice Ak x.f3.length ck) (.slice Al x.f4.length cl)
      refine hK.out _ _ ⟨pw_cell_below (below_alloc (Below.refl _ _) _) y0d, pw_cell_below (below_alloc (Below.refl _ _) _) z0d, pw_cell_below (below_alloc (Below.refl _ _) _) y1d, pw_cell_below (below_alloc (Below.refl _ _) _) n0, pw_cell_below (below_alloc (Below.refl _ _) _) n1, pw_cell_below (below_alloc (Below.refl _ _) _) n2, pw_cell_below (below_alloc (Below.refl _ _) _) n3, pw_cell_below (below_alloc (Below.refl _ _) _) n4⟩ (fun hHeld => ?_)
      clear hK K
      refine norm_ (a' := ?_) ?_ ?_
      rotate_left
      · show Act.put _ (some 5) _ = _
        simp only [Act.put, zz1, zz2, zz3, i64_w, i32_w]
        rfl
      refine last_ (i := 9) (N := none) #[τ,τ,τ,τ,τ,τ,τ,τ,τ,τ,φ] rfl rfl (one_of HT_.out (by kernel_rfl)) (by decide) (fun K hK => ?_)
      refine skip_ (w1 := ?_) (by rfl) rfl ?_ ?_
      rotate_left
      · go_simp
        rfl
      refine hK.out _ _ ?_
      clear hK K
      refine pure_ (i := 10) (N := some 6) (v := ?_) (a' := ?_) #[τ,τ,τ,τ,τ,τ,τ,τ,τ,τ,τ] rfl rfl (any_of HT_.out (by kernel_rfl)) (fun _ _ _ h => h) (Or.inl ⟨by rfl, ?_⟩) ?_ ?_
      rotate_left; (intro w'; go_simp; with_reducible rfl); rotate_left; (simp only [Act.put, zz1, zz2, zz3, i64_w, i32_w]; rfl)
      refine done_ (done_of HT_.out (by kernel_rfl)) ?_
      clear s0 t0 s1 t1 s2 t2 s3 t3 s4 t4 hzb hfin hHeld
      have hxb := heap_alloc_new X2 (.cells #[.int .i64 x.f0, .int .i64 x.f1, .string x.f2, .slice Ak x.f3.length ck, .slice Al x.f4.length cl] 45)
      have HBU := Aside0.mk (below_alloc HB2.out (.cells #[.int .i64 x.f0, .int .i64 x.f1, .string x.f2, .slice Ak x.f3.length ck, .slice Al x.f4.length cl] 45))
      have hbx := below_alloc (Below.refl X2.heap.size X2) (.cells #[.int .i64 x.f0, .int .i64 x.f1, .string x.f2, .slice Ak x.f3.length ck, .slice Al x.f4.length cl] 45)
      have u0 := pw_cell_below hbx y0d
      have u1 := pw_cell_below hbx y1d
      have u2 := pw_cell_below hbx y2d
      have u3 := pw_cell_below hbx y3d
      have z0u := pw_cell_below hbx z0d
      generalize X2.alloc (.cells #[.int .i64 x.f0, .int .i64 x.f1, .string x.f2, .slice Ak x.f3.length ck, .slice Al x.f4.length cl] 45) = U at hxb HBU u0 u1 u2 u3 z0u hbx ⊢
      have k0 := (blk_cell hxb 0).trans rfl
      have k4 := (blk_cell hxb 4).trans rfl
      clear hbx hxb y0d y1d y2d y3d z0d n0 n1 n2 n3 n4 HB2
      by_cases h8 : x.f0 = 8
      · have b8 : (x.f0 == 8) = true := by simpa using h8
        have HPf := Aside0.mk (show frmP g l.length ⟨a, B, ws⟩ = (decide (ws.length = x.f4.length) && (onP g ⟨a, B, ws⟩).all (inP l.length)) by rw [HF0.out, if_pos h8])
        have HOk := Aside0.mk (show (nd g a).f0 = 8 ∨ 1 ≤ ws.length from .inl (by rw [← HXX.out]; exact h8))
        clear h8
        by_cases hm : ws.length = x.f4.length
        · have q9 : ((ws.length : Int) == (x.f4.length : Int)) = true := by simp; omega
          have HM := Aside0.mk (show decide (ws.length = x.f4.length) = true from decide_eq_true hm)
          clear hm
          go_wp2_with (fail)
          refine (on_yes xb (some ad) c0 g a B ws Aw cw U (HX.out.below HBU.out).z0 (HX.out.below HBU.out).gr HX.out.gc (Kd.C_below HW.out HBU.out) HWc.out HA.out HOk.out).mono ?_
          rintro e Z2 ⟨Ao, co, rfl, hco, hro, hbo⟩
          have HO := Aside0.mk hro
          have HOc := Aside0.mk hco
          have HBO := Aside0.mk (HBU.out.trans (hbo.mono HBU.out.size))
          have v0 := pw_cell_below hbo u0
          clear hro hco hbo
          go_wp2_with (fail)
          refine (odds_yes w.heap.size xb l.length A1 c1 Ao co (onP g ⟨a, B, ws⟩) Z2 v0 (HX.out.below HBO.out).z1 HO.out HOc.out).mono ?_
          rintro e Z3 ⟨rfl, hb3⟩
          have HB3 := Aside0.mk (HBO.out.trans (hb3.mono HBO.out.size))
          clear hb3
          go_wp2_with (fail)
          go_ret
          rw [HPf.out, HM.out]
          exact ⟨by simp, HB3.out⟩
        · have q9 : ((ws.length : Int) == (x.f4.length : Int)) = false := by simp; omega
          have HM := Aside0.mk (show decide (ws.length = x.f4.length) = false from decide_eq_false hm)
          clear hm
          go_wp2_with (fail)
          go_ret
          rw [HPf.out, HM.out]
          exact ⟨rfl, HBU.out⟩
      · have b8 : (x.f0 == 8) = false := by simpa using h8
        have HF1 := Aside0.mk (HF0.out.trans (if_neg h8))
        clear h8 HF0
        by_cases hz : ws.length = 0
        · have bz : ((ws.length : Int) == 0) = true := by simp [hz]
          have HPf := Aside0.mk (HF1.out.trans (if_pos hz))
          clear hz
          go_wp2_with (fail)
          go_ret
          rw [HPf.out]
          exact ⟨rfl, HBU.out⟩
        · have bz : ((ws.length : Int) == 0) = false := by simp; intro e; exact hz (by rw [e]; rfl)
          have HF2 := Aside0.mk (HF1.out.trans (if_neg hz))
          have HOk := Aside0.mk (show (nd g a).f0 = 8 ∨ 1 ≤ ws.length from .inr (by omega))
          have h0w : 0 < ws.length := by omega
          obtain ⟨adw, eW, hw0⟩ := ints_at0 (Kd.C_below HW.out HBU.out) h0w
          subst eW
          obtain ⟨q, hq⟩ : ∃ q, q = ws.getD 0 0 := ⟨_, rfl⟩
          rw [← hq] at hw0 HF2
          have HQ := Aside0.mk hq
          have HL0 := Aside0.mk h0w
          have e2 : (0 < ws.length) = True := eq_true h0w
          clear hz HF1 hq h0w
          by_cases h9 : x.f0 = 9 ∧ q = -1
          · have b9 : (x.f0 == 9) = true := by simpa using h9.1
            have c9 : (q == -1) = true := by simpa using h9.2
            have HPf := Aside0.mk (HF2.out.trans (if_pos h9))
            clear h9 HF2
            by_cases hm : ws.length = 2
            · have q9 : ((ws.length : Int) == 2) = true := by simp; omega
              have HM := Aside0.mk (show decide (ws.length = 2) = true from decide_eq_true hm)
              clear hm
              go_wp2_with (fail)
              refine (on_yes xb (some ad) c0 g a B ws (some adw) cw U (HX.out.below HBU.out).z0 (HX.out.below HBU.out).gr HX.out.gc (Kd.C_below HW.out HBU.out) HWc.out HA.out HOk.out).mono ?_
              rintro e Z2 ⟨Ao, co, rfl, hco, hro, hbo⟩
              have HO := Aside0.mk hro
              have HOc := Aside0.mk hco
              have HBO := Aside0.mk (HBU.out.trans (hbo.mono HBU.out.size))
              have v0 := pw_cell_below hbo u0
              clear hro hco hbo
              go_wp2_with (fail)
              refine (odds_yes w.heap.size xb l.length A1 c1 Ao co (onP g ⟨a, B, ws⟩) Z2 v0 (HX.out.below HBO.out).z1 HO.out HOc.out).mono ?_
              rintro e Z3 ⟨rfl, hb3⟩
              have HB3 := Aside0.mk (HBO.out.trans (hb3.mono HBO.out.size))
              clear hb3
              go_wp2_with (fail)
              go_ret
              rw [HPf.out, HM.out]
              exact ⟨by simp, HB3.out⟩
            · have q9 : ((ws.length : Int) == 2) = false := by simp; omega
              have HM := Aside0.mk (show decide (ws.length = 2) = false from decide_eq_false hm)
              clear hm
              go_wp2_with (fail)
              go_ret
              rw [HPf.out, HM.out]
              exact ⟨rfl, HBU.out⟩
          · have HF3 := Aside0.mk (HF2.out.trans (if_neg h9))
            have u0d := drew_cell u0
            have u1d := drew_cell u1
            have u2d := drew_cell u2
            have u3d := drew_cell u3
            have w0d := drew_cell hw0
            have k0d := drew_cell k0
            have HBUd := Aside0.mk (below_drew HBU.out)
            have z0u := drew_cell z0u
            have hbb : (x.f0 == 9 && q == -1) = false := by
              rw [← Bool.not_eq_true]
              simp
              exact fun h e => h9 ⟨h, e⟩
            clear HF2
            have key : (x.f0 == 9) = false ∨ ((x.f0 == 9) = true ∧ (q == -1) = false) := by
              cases h : (x.f0 == 9) with
              | false => exact .inl rfl
              | true => rw [h] at hbb; exact .inr ⟨rfl, by simpa using hbb⟩
            clear hbb h9
            have KEY := Aside0.mk key
            clear key
            by_cases hneg : q < 0
            · have c0_ : (q < 0) = True := eq_true hneg
              have HPf := Aside0.mk (HF3.out.trans (if_pos (.inl hneg)))
              clear hneg HF3
              rcases KEY.out with b9 | ⟨b9, c9⟩
              · go_wp2_with (fail)
                refine start_ (n := 21) (S := fun w' => w'.cell? ⟨w.heap.size + 1, 2, none⟩ = some (.slice (some adw) ws.length cw) ∧ w'.cell? adw = some (.int .i64 q)) (ds := []) #[φ,φ,φ,φ,φ,φ,φ,φ,φ,φ,φ,φ,φ,φ,φ,φ,φ,φ,φ,φ,φ] (by kernel_rfl) rfl rfl ⟨u3d, w0d⟩ (fun hHeld => ?_)
                refine with_tabW fo15.tab15 fo15.bits15 (fun HT_ HW_ => ?_)
                refine pure_ (i := 0) (N := some 81) (v := ?_) (a' := ?_) #[τ,φ,φ,φ,φ,φ,φ,φ,φ,φ,φ,φ,φ,φ,φ,φ,φ,φ,φ,φ,φ] rfl rfl (any_of HT_.out (by kernel_rfl)) (fun _ _ _ h => h) (Or.inl ⟨by rfl, ?_⟩) ?_ ?_
                rotate_left; (intro w'; go_simp; with_reducible rfl); rotate_left; (simp only [Act.put, zz1, zz2, zz3, i64_w, i32_w]; rfl)
                refine take_ (i := 1) (N := some 82) (v := ?_) (a' := ?_) #[τ,τ,φ,φ,φ,φ,φ,φ,φ,φ,φ,φ,φ,φ,φ,φ,φ,φ,φ,φ,φ] rfl rfl (take_ofW HT_.out HW_.out (by kernel_rfl)) (fun _ _ _ h => h) (Or.inl ⟨by rfl, ?_⟩) hHeld ?_ ?_
                rotate_left; (rintro w' ⟨s0, s1⟩; go_simp; with_reducible rfl); rotate_left; (simp only [Act.put, zz1, zz2, zz3, i64_w, i32_w]; rfl)
                refine pure_ (i := 2) (N := some 83) (v := ?_) (a' := ?_) #[τ,τ,τ,φ,φ,φ,φ,φ,φ,φ,φ,φ,φ,φ,φ,φ,φ,φ,φ,φ,φ] rfl rfl (any_of HT_.out (by kernel_rfl)) (fun _ _ _ h => h) (Or.inl ⟨by rfl, ?_⟩) ?_ ?_
                rotate_left; (intro w'; go_simp; with_reducible rfl); rotate_left; (simp only [Act.put, zz1, zz2, zz3, i64_w, i32_w]; rfl)
                refine take_ (i := 3) (N := some 84) (v := ?_) (a' := ?_) #[τ,τ,τ,τ,φ,φ,φ,φ,φ,φ,φ,φ,φ,φ,φ,φ,φ,φ,φ,φ,φ] rfl rfl (take_ofW HT_.out HW_.out (by kernel_rfl)) (fun _ _ _ h => h) (Or.inl ⟨by rfl, ?_⟩) hHeld ?_ ?_
                rotate_left; (rintro w' ⟨s0, s1⟩; go_simp; with_reducible rfl); rotate_left; (simp only [Act.put, zz1, zz2, zz3, i64_w, i32_w]; rfl)
                refine pure_ (i := 4) (N := some 85) (v := ?_) (a' := ?_) #[τ,τ,τ,τ,τ,φ,φ,φ,φ,φ,φ,φ,φ,φ,φ,φ,φ,φ,φ,φ,φ] rfl rfl (any_of HT_.out (by kernel_rfl)) (fun _ _ _ h => h) (Or.inl ⟨by rfl, ?_⟩) ?_ ?_
                rotate_left; (intro w'; go_simp; with_reducible rfl); rotate_left; (simp only [Act.put, zz1, zz2, zz3, i64_w, i32_w]; rfl)
                refine pure_ (i := 5) (N := some 86) (v := ?_) (a' := ?_) #[τ,τ,τ,τ,τ,τ,φ,φ,φ,φ,φ,φ,φ,φ,φ,φ,φ,φ,φ,φ,φ] rfl rfl (any_of HT_.out (by kernel_rfl)) (fun _ _ _ h => h) (Or.inl ⟨by rfl, ?_⟩) ?_ ?_
                rotate_left; (intro w'; go_simp; with_reducible rfl); rotate_left; (simp only [Act.put, zz1, zz2, zz3, i64_w, i32_w]; rfl)
                refine pure_ (i := 6) (N := some 87) (v := undef) (a' := ?_) #[τ,τ,τ,τ,τ,τ,τ,φ,φ,φ,φ,φ,φ,φ,φ,φ,φ,φ,φ,φ,φ] rfl rfl (any_of HT_.out (by kernel_rfl)) (fun _ _ _ h => h) (Or.inr ⟨by rfl, rfl⟩) ?_ ?_
                rotate_left; (simp only [Act.put, zz1, zz2, zz3, i64_w, i32_w]; rfl)
                refine pure_ (i := 7) (N := some 88) (v := undef) (a' := ?_) #[τ,τ,τ,τ,τ,τ,τ,τ,φ,φ,φ,φ,φ,φ,φ,φ,φ,φ,φ,φ,φ] rfl rfl (any_of HT_.out (by kernel_rfl)) (fun _ _ _ h => h) (Or.inr ⟨by rfl, rfl⟩) ?_ ?_
                rotate_left; (simp only [Act.put, zz1, zz2, zz3, i64_w, i32_w]; rfl)
                refine pure_ (i := 8) (N := some 89) (v := undef) (a' := ?_) #[τ,τ,τ,τ,τ,τ,τ,τ,τ,φ,φ,φ,φ,φ,φ,φ,φ,φ,φ,φ,φ] rfl rfl (any_of HT_.out (by kernel_rfl)) (fun _ _ _ h => h) (Or.inr ⟨by rfl, rfl⟩) ?_ ?_
                rotate_left; (simp only [Act.put, zz1, zz2, zz3, i64_w, i32_w]; rfl)
                refine pure_ (i := 9) (N := some 90) (v := undef) (a' := ?_) #[τ,τ,τ,τ,τ,τ,τ,τ,τ,τ,φ,φ,φ,φ,φ,φ,φ,φ,φ,φ,φ] rfl rfl (any_of HT_.out (by kernel_rfl)) (fun _ _ _ h => h) (Or.inr ⟨by rfl, rfl⟩) ?_ ?_
                rotate_left; (simp only [Act.put, zz1, zz2, zz3, i64_w, i32_w]; rfl)
                refine pure_ (i := 10) (N := some 91) (v := undef) (a' := ?_) #[τ,τ,τ,τ,τ,τ,τ,τ,τ,τ,τ,φ,φ,φ,φ,φ,φ,φ,φ,φ,φ] rfl rfl (any_of HT_.out (by kernel_rfl)) (fun _ _ _ h => h) (Or.inr ⟨by rfl, rfl⟩) ?_ ?_
                rotate_left; (simp only [Act.put, zz1, zz2, zz3, i64_w, i32_w]; rfl)
                refine pure_ (i := 11) (N := some 92) (v := undef) (a' := ?_) #[τ,τ,τ,τ,τ,τ,τ,τ,τ,τ,τ,τ,φ,φ,φ,φ,φ,φ,φ,φ,φ] rfl rfl (any_of HT_.out (by kernel_rfl)) (fun _ _ _ h => h) (Or.inr ⟨by rfl, rfl⟩) ?_ ?_
                rotate_left; (simp only [Act.put, zz1, zz2, zz3, i64_w, i32_w]; rfl)
                refine pure_ (i := 12) (N := some 93) (v := undef) (a' := ?_) #[τ,τ,τ,τ,τ,τ,τ,τ,τ,τ,τ,τ,τ,φ,φ,φ,φ,φ,φ,φ,φ] rfl rfl (any_of HT_.out (by kernel_rfl)) (fun _ _ _ h => h) (Or.inr ⟨by rfl, rfl⟩) ?_ ?_
                rotate_left; (simp only [Act.put, zz1, zz2, zz3, i64_w, i32_w]; rfl)
                refine pure_ (i := 13) (N := some 94) (v := undef) (a' := ?_) #[τ,τ,τ,τ,τ,τ,τ,τ,τ,τ,τ,τ,τ,τ,φ,φ,φ,φ,φ,φ,φ] rfl rfl (any_of HT_.out (by kernel_rfl)) (fun _ _ _ h => h) (Or.inr ⟨by rfl, rfl⟩) ?_ ?_
                rotate_left; (simp only [Act.put, zz1, zz2, zz3, i64_w, i32_w]; rfl)
                refine pure_ (i := 14) (N := some 95) (v := undef) (a' := ?_) #[τ,τ,τ,τ,τ,τ,τ,τ,τ,τ,τ,τ,τ,τ,τ,φ,φ,φ,φ,φ,φ] rfl rfl (any_of HT_.out (by kernel_rfl)) (fun _ _ _ h => h) (Or.inr ⟨by rfl, rfl⟩) ?_ ?_
                rotate_left; (simp only [Act.put, zz1, zz2, zz3, i64_w, i32_w]; rfl)
                refine pure_ (i := 15) (N := some 96) (v := undef) (a' := ?_) #[τ,τ,τ,τ,τ,τ,τ,τ,τ,τ,τ,τ,τ,τ,τ,τ,φ,φ,φ,φ,φ] rfl rfl (any_of HT_.out (by kernel_rfl)) (fun _ _ _ h => h) (Or.inr ⟨by rfl, rfl⟩) ?_ ?_
                rotate_left; (simp only [Act.put, zz1, zz2, zz3, i64_w, i32_w]; rfl)
                refine pure_ (i := 16) (N := some 97) (v := undef) (a' := ?_) #[τ,τ,τ,τ,τ,τ,τ,τ,τ,τ,τ,τ,τ,τ,τ,τ,τ,φ,φ,φ,φ] rfl rfl (any_of HT_.out (by kernel_rfl)) (fun _ _ _ h => h) (Or.inr ⟨by rfl, rfl⟩) ?_ ?_
                rotate_left; (simp only [Act.put, zz1, zz2, zz3, i64_w, i32_w]; rfl)
                refine pure_ (i := 17) (N := some 98) (v := undef) (a' := ?_) #[τ,τ,τ,τ,τ,τ,τ,τ,τ,τ,τ,τ,τ,τ,τ,τ,τ,τ,φ,φ,φ] rfl rfl (any_of HT_.out (by kernel_rfl)) (fun _ _ _ h => h) (Or.inr ⟨by rfl, rfl⟩) ?_ ?_
                rotate_left; (simp only [Act.put, zz1, zz2, zz3, i64_w, i32_w]; rfl)
                refine pure_ (i := 18) (N := some 99) (v := undef) (a' := ?_) #[τ,τ,τ,τ,τ,τ,τ,τ,τ,τ,τ,τ,τ,τ,τ,τ,τ,τ,τ,φ,φ] rfl rfl (any_of HT_.out (by kernel_rfl)) (fun _ _ _ h => h) (Or.inr ⟨by rfl, rfl⟩) ?_ ?_
                rotate_left; (simp only [Act.put, zz1, zz2, zz3, i64_w, i32_w]; rfl)
                refine pure_ (i := 19) (N := some 100) (v := ?_) (a' := ?_) #[τ,τ,τ,τ,τ,τ,τ,τ,τ,τ,τ,τ,τ,τ,τ,τ,τ,τ,τ,τ,φ] rfl rfl (any_of HT_.out (by kernel_rfl)) (fun _ _ _ h => h) (Or.inl ⟨by rfl, ?_⟩) ?_ ?_
                rotate_left; (intro w'; go_simp; with_reducible rfl); rotate_left; (simp only [Act.put, zz1, zz2, zz3, i64_w, i32_w]; rfl)
                refine pure_ (i := 20) (N := some 80) (v := ?_) (a' := ?_) #[τ,τ,τ,τ,τ,τ,τ,τ,τ,τ,τ,τ,τ,τ,τ,τ,τ,τ,τ,τ,τ] rfl rfl (any_of HT_.out (by kernel_rfl)) (fun _ _ _ h => h) (Or.inl ⟨by rfl, ?_⟩) ?_ ?_
                rotate_left; (intro w'; go_simp; with_reducible rfl); rotate_left; (simp only [Act.put, zz1, zz2, zz3, i64_w, i32_w]; rfl)
                refine done_ (done_of HT_.out (by kernel_rfl)) ?_
                go_wp2_with (fail)
                go_ret
                rw [HPf.out]
                exact ⟨rfl, HBUd.out⟩
              · go_wp2_with (fail)
                refine start_ (n := 21) (S := fun w' => w'.cell? ⟨w.heap.size + 1, 2, none⟩ = some (.slice (some adw) ws.length cw) ∧ w'.cell? adw = some (.int .i64 q)) (ds := []) #[φ,φ,φ,φ,φ,φ,φ,φ,φ,φ,φ,φ,φ,φ,φ,φ,φ,φ,φ,φ,φ] (by kernel_rfl) rfl rfl ⟨u3d, w0d⟩ (fun hHeld => ?_)
                refine with_tabW fo15.tab15 fo15.bits15 (fun HT_ HW_ => ?_)
                refine pure_ (i := 0) (N := some 81) (v := ?_) (a' := ?_) #[τ,φ,φ,φ,φ,φ,φ,φ,φ,φ,φ,φ,φ,φ,φ,φ,φ,φ,φ,φ,φ] rfl rfl (any_of HT_.out (by kernel_rfl)) (fun _ _ _ h => h) (Or.inl ⟨by rfl, ?_⟩) ?_ ?_
                rotate_left; (intro w'; go_simp; with_reducible rfl); rotate_left; (simp only [Act.put, zz1, zz2, zz3, i64_w, i32_w]; rfl)
                refine take_ (i := 1) (N := some 82) (v := ?_) (a' := ?_) #[τ,τ,φ,φ,φ,φ,φ,φ,φ,φ,φ,φ,φ,φ,φ,φ,φ,φ,φ,φ,φ] rfl rfl (take_ofW HT_.out HW_.out (by kernel_rfl)) (fun _ _ _ h => h) (Or.inl ⟨by rfl, ?_⟩) hHeld ?_ ?_
                rotate_left; (rintro w' ⟨s0, s1⟩; go_simp; with_reducible rfl); rotate_left; (simp only [Act.put, zz1, zz2, zz3, i64_w, i32_w]; rfl)
                refine pure_ (i := 2) (N := some 83) (v := ?_) (a' := ?_) #[τ,τ,τ,φ,φ,φ,φ,φ,φ,φ,φ,φ,φ,φ,φ,φ,φ,φ,φ,φ,φ] rfl rfl (any_of HT_.out (by kernel_rfl)) (fun _ _ _ h => h) (Or.inl ⟨by rfl, ?_⟩) ?_ ?_
                rotate_left; (intro w'; go_simp; with_reducible rfl); rotate_left; (simp only [Act.put, zz1, zz2, zz3, i64_w, i32_w]; rfl)
                refine take_ (i := 3) (N := some 84) (v := ?_) (a' := ?_) #[τ,τ,τ,τ,φ,φ,φ,φ,φ,φ,φ,φ,φ,φ,φ,φ,φ,φ,φ,φ,φ] rfl rfl (take_ofW HT_.out HW_.out (by kernel_rfl)) (fun _ _ _ h => h) (Or.inl ⟨by rfl, ?_⟩) hHeld ?_ ?_
                rotate_left; (rintro w' ⟨s0, s1⟩; go_simp; with_reducible rfl); rotate_left; (simp only [Act.put, zz1, zz2, zz3, i64_w, i32_w]; rfl)
                refine pure_ (i := 4) (N := some 85) (v := ?_) (a' := ?_) #[τ,τ,τ,τ,τ,φ,φ,φ,φ,φ,φ,φ,φ,φ,φ,φ,φ,φ,φ,φ,φ] rfl rfl (any_of HT_.out (by kernel_rfl)) (fun _ _ _ h => h) (Or.inl ⟨by rfl, ?_⟩) ?_ ?_
                rotate_left; (intro w'; go_simp; with_reducible rfl); rotate_left; (simp only [Act.put, zz1, zz2, zz3, i64_w, i32_w]; rfl)
                refine pure_ (i := 5) (N := some 86) (v := ?_) (a' := ?_) #[τ,τ,τ,τ,τ,τ,φ,φ,φ,φ,φ,φ,φ,φ,φ,φ,φ,φ,φ,φ,φ] rfl rfl (any_of HT_.out (by kernel_rfl)) (fun _ _ _ h => h) (Or.inl ⟨by rfl, ?_⟩) ?_ ?_
                rotate_left; (intro w'; go_simp; with_reducible rfl); rotate_left; (simp only [Act.put, zz1, zz2, zz3, i64_w, i32_w]; rfl)
                refine pure_ (i := 6) (N := some 87) (v := undef) (a' := ?_) #[τ,τ,τ,τ,τ,τ,τ,φ,φ,φ,φ,φ,φ,φ,φ,φ,φ,φ,φ,φ,φ] rfl rfl (any_of HT_.out (by kernel_rfl)) (fun _ _ _ h => h) (Or.inr ⟨by rfl, rfl⟩) ?_ ?_
                rotate_left; (simp only [Act.put, zz1, zz2, zz3, i64_w, i32_w]; rfl)
                refine pure_ (i := 7) (N := some 88) (v := undef) (a' := ?_) #[τ,τ,τ,τ,τ,τ,τ,τ,φ,φ,φ,φ,φ,φ,φ,φ,φ,φ,φ,φ,φ] rfl rfl (any_of HT_.out (by kernel_rfl)) (fun _ _ _ h => h) (Or.inr ⟨by rfl, rfl⟩) ?_ ?_
                rotate_left; (simp only [Act.put, zz1, zz2, zz3, i64_w, i32_w]; rfl)
                refine pure_ (i := 8) (N := some 89) (v := undef) (a' := ?_) #[τ,τ,τ,τ,τ,τ,τ,τ,τ,φ,φ,φ,φ,φ,φ,φ,φ,φ,φ,φ,φ] rfl rfl (any_of HT_.out (by kernel_rfl)) (fun _ _ _ h => h) (Or.inr ⟨by rfl, rfl⟩) ?_ ?_
                rotate_left; (simp only [Act.put, zz1, zz2, zz3, i64_w, i32_w]; rfl)
                refine pure_ (i := 9) (N := some 90) (v := undef) (a' := ?_) #[τ,τ,τ,τ,τ,τ,τ,τ,τ,τ,φ,φ,φ,φ,φ,φ,φ,φ,φ,φ,φ] rfl rfl (any_of HT_.out (by kernel_rfl)) (fun _ _ _ h => h) (Or.inr ⟨by rfl, rfl⟩) ?_ ?_
                rotate_left; (simp only [Act.put, zz1, zz2, zz3, i64_w, i32_w]; rfl)
                refine pure_ (i := 10) (N := some 91) (v := undef) (a' := ?_) #[τ,τ,τ,τ,τ,τ,τ,τ,τ,τ,τ,φ,φ,φ,φ,φ,φ,φ,φ,φ,φ] rfl rfl (any_of HT_.out (by kernel_rfl)) (fun _ _ _ h => h) (Or.inr ⟨by rfl, rfl⟩) ?_ ?_
                rotate_left; (simp only [Act.put, zz1, zz2, zz3, i64_w, i32_w]; rfl)
                refine pure_ (i := 11) (N := some 92) (v := undef) (a' := ?_) #[τ,τ,τ,τ,τ,τ,τ,τ,τ,τ,τ,τ,φ,φ,φ,φ,φ,φ,φ,φ,φ] rfl rfl (any_of HT_.out (by kernel_rfl)) (fun _ _ _ h => h) (Or.inr ⟨by rfl, rfl⟩) ?_ ?_
                rotate_left; (simp only [Act.put, zz1, zz2, zz3, i64_w, i32_w]; rfl)
                refine pure_ (i := 12) (N := some 93) (v := undef) (a' := ?_) #[τ,τ,τ,τ,τ,τ,τ,τ,τ,τ,τ,τ,τ,φ,φ,φ,φ,φ,φ,φ,φ] rfl rfl (any_of HT_.out (by kernel_rfl)) (fun _ _ _ h => h) (Or.inr ⟨by rfl, rfl⟩) ?_ ?_
                rotate_left; (simp only [Act.put, zz1, zz2, zz3, i64_w, i32_w]; rfl)
                refine pure_ (i := 13) (N := some 94) (v := undef) (a' := ?_) #[τ,τ,τ,τ,τ,τ,τ,τ,τ,τ,τ,τ,τ,τ,φ,φ,φ,φ,φ,φ,φ] rfl rfl (any_of HT_.out (by kernel_rfl)) (fun _ _ _ h => h) (Or.inr ⟨by rfl, rfl⟩) ?_ ?_
                rotate_left; (simp only [Act.put, zz1, zz2, zz3, i64_w, i32_w]; rfl)
                refine pure_ (i := 14) (N := some 95) (v := undef) (a' := ?_) #[τ,τ,τ,τ,τ,τ,τ,τ,τ,τ,τ,τ,τ,τ,τ,φ,φ,φ,φ,φ,φ] rfl rfl (any_of HT_.out (by kernel_rfl)) (fun _ _ _ h => h) (Or.inr ⟨by rfl, rfl⟩) ?_ ?_
                rotate_left; (simp only [Act.put, zz1, zz2, zz3, i64_w, i32_w]; rfl)
                refine pure_ (i := 15) (N := some 96) (v := undef) (a' := ?_) #[τ,τ,τ,τ,τ,τ,τ,τ,τ,τ,τ,τ,τ,τ,τ,τ,φ,φ,φ,φ,φ] rfl rfl (any_of HT_.out (by kernel_rfl)) (fun _ _ _ h => h) (Or.inr ⟨by rfl, rfl⟩) ?_ ?_
                rotate_left; (simp only [Act.put, zz1, zz2, zz3, i64_w, i32_w]; rfl)
                refine pure_ (i := 16) (N := some 97) (v := undef) (a' := ?_) #[τ,τ,τ,τ,τ,τ,τ,τ,τ,τ,τ,τ,τ,τ,τ,τ,τ,φ,φ,φ,φ] rfl rfl (any_of HT_.out (by kernel_rfl)) (fun _ _ _ h => h) (Or.inr ⟨by rfl, rfl⟩) ?_ ?_
                rotate_left; (simp only [Act.put, zz1, zz2, zz3, i64_w, i32_w]; rfl)
                refine pure_ (i := 17) (N := some 98) (v := undef) (a' := ?_) #[τ,τ,τ,τ,τ,τ,τ,τ,τ,τ,τ,τ,τ,τ,τ,τ,τ,τ,φ,φ,φ] rfl rfl (any_of HT_.out (by kernel_rfl)) (fun _ _ _ h => h) (Or.inr ⟨by rfl, rfl⟩) ?_ ?_
                rotate_left; (simp only [Act.put, zz1, zz2, zz3, i64_w, i32_w]; rfl)
                refine pure_ (i := 18) (N := some 99) (v := undef) (a' := ?_) #[τ,τ,τ,τ,τ,τ,τ,τ,τ,τ,τ,τ,τ,τ,τ,τ,τ,τ,τ,φ,φ] rfl rfl (any_of HT_.out (by kernel_rfl)) (fun _ _ _ h => h) (Or.inr ⟨by rfl, rfl⟩) ?_ ?_
                rotate_left; (simp only [Act.put, zz1, zz2, zz3, i64_w, i32_w]; rfl)
                refine pure_ (i := 19) (N := some 100) (v := ?_) (a' := ?_) #[τ,τ,τ,τ,τ,τ,τ,τ,τ,τ,τ,τ,τ,τ,τ,τ,τ,τ,τ,τ,φ] rfl rfl (any_of HT_.out (by kernel_rfl)) (fun _ _ _ h => h) (Or.inl ⟨by rfl, ?_⟩) ?_ ?_
                rotate_left; (intro w'; go_simp; with_reducible rfl); rotate_left; (simp only [Act.put, zz1, zz2, zz3, i64_w, i32_w]; rfl)
                refine pure_ (i := 20) (N := some 80) (v := ?_) (a' := ?_) #[τ,τ,τ,τ,τ,τ,τ,τ,τ,τ,τ,τ,τ,τ,τ,τ,τ,τ,τ,τ,τ] rfl rfl (any_of HT_.out (by kernel_rfl)) (fun _ _ _ h => h) (Or.inl ⟨by rfl, ?_⟩) ?_ ?_
                rotate_left; (intro w'; go_simp; with_reducible rfl); rotate_left; (simp only [Act.put, zz1, zz2, zz3, i64_w, i32_w]; rfl)
                refine done_ (done_of HT_.out (by kernel_rfl)) ?_
                go_wp2_with (fail)
                go_ret
                rw [HPf.out]
                exact ⟨rfl, HBUd.out⟩
            · have c0_ : (q < 0) = False := eq_false hneg
              obtain ⟨k, rfl⟩ := Int.eq_ofNat_of_zero_le (by omega : 0 ≤ q)
              have HKK := Aside0.mk HQ.out
              clear hneg
              by_cases hge : (membersP g B).length ≤ k
              · have HPf := Aside0.mk (HF3.out.trans (if_pos (.inr (by omega))))
                have c1_ : (((membersP g B).length : Int) ≤ (k : Int)) = True := eq_true (by omega)
                clear hge HF3
                rcases KEY.out with b9 | ⟨b9, c9⟩
                · go_wp2_with (fail)
                  refine start_ (n := 21) (S := fun w' => w'.cell? ⟨w.heap.size + 1, 2, none⟩ = some (.slice (some adw) ws.length cw) ∧ w'.cell? adw = some (.int .i64 (k : Int)) ∧ w'.cell? ⟨w.heap.size, 0, none⟩ = some (.pointer (some ⟨xb, 0, none⟩)) ∧ w'.cell? ⟨xb, 0, none⟩ = some (.slice (some ad) g.length c0) ∧ w'.cell? ⟨w.heap.size + 1, 1, none⟩ = some (.int .i64 B)) (ds := []) #[φ,φ,φ,φ,φ,φ,φ,φ,φ,φ,φ,φ,φ,φ,φ,φ,φ,φ,φ,φ,φ] (by kernel_rfl) rfl rfl ⟨u3d, w0d, u0d, z0u, u2d⟩ (fun hHeld => ?_)
                  refine with_tabW fo15.tab15 fo15.bits15 (fun HT_ HW_ => ?_)
                  refine pure_ (i := 0) (N := some 81) (v := ?_) (a' := ?_) #[τ,φ,φ,φ,φ,φ,φ,φ,φ,φ,φ,φ,φ,φ,φ,φ,φ,φ,φ,φ,φ] rfl rfl (any_of HT_.out (by kernel_rfl)) (fun _ _ _ h => h) (Or.inl ⟨by rfl, ?_⟩) ?_ ?_
                  rotate_left; (intro w'; go_simp; with_reducible rfl); rotate_left; (simp only [Act.put, zz1, zz2, zz3, i64_w, i32_w]; rfl)
                  refine take_ (i := 1) (N := some 82) (v := ?_) (a' := ?_) #[τ,τ,φ,φ,φ,φ,φ,φ,φ,φ,φ,φ,φ,φ,φ,φ,φ,φ,φ,φ,φ] rfl rfl (take_ofW HT_.out HW_.out (by kernel_rfl)) (fun _ _ _ h => h) (Or.inl ⟨by rfl, ?_⟩) hHeld ?_ ?_
                  rotate_left; (rintro w' ⟨s0, s1, s2, s3, s4⟩; go_simp; with_reducible rfl); rotate_left; (simp only [Act.put, zz1, zz2, zz3, i64_w, i32_w]; rfl)
                  refine pure_ (i := 2) (N := some 83) (v := ?_) (a' := ?_) #[τ,τ,τ,φ,φ,φ,φ,φ,φ,φ,φ,φ,φ,φ,φ,φ,φ,φ,φ,φ,φ] rfl rfl (any_of HT_.out (by kernel_rfl)) (fun _ _ _ h => h) (Or.inl ⟨by rfl, ?_⟩) ?_ ?_
                  rotate_left; (intro w'; go_simp; with_reducible rfl); rotate_left; (simp only [Act.put, zz1, zz2, zz3, i64_w, i32_w]; rfl)
                  refine take_ (i := 3) (N := some 84) (v := ?_) (a' := ?_) #[τ,τ,τ,τ,φ,φ,φ,φ,φ,φ,φ,φ,φ,φ,φ,φ,φ,φ,φ,φ,φ] rfl rfl (take_ofW HT_.out HW_.out (by kernel_rfl)) (fun _ _ _ h => h) (Or.inl ⟨by rfl, ?_⟩) hHeld ?_ ?_
                  rotate_left; (rintro w' ⟨s0, s1, s2, s3, s4⟩; go_simp; with_reducible rfl); rotate_left; (simp only [Act.put, zz1, zz2, zz3, i64_w, i32_w]; rfl)
                  refine pure_ (i := 4) (N := some 85) (v := ?_) (a' := ?_) #[τ,τ,τ,τ,τ,φ,φ,φ,φ,φ,φ,φ,φ,φ,φ,φ,φ,φ,φ,φ,φ] rfl rfl (any_of HT_.out (by kernel_rfl)) (fun _ _ _ h => h) (Or.inl ⟨by rfl, ?_⟩) ?_ ?_
                  rotate_left; (intro w'; go_simp; with_reducible rfl); rotate_left; (simp only [Act.put, zz1, zz2, zz3, i64_w, i32_w]; rfl)
                  refine pure_ (i := 5) (N := some 86) (v := ?_) (a' := ?_) #[τ,τ,τ,τ,τ,τ,φ,φ,φ,φ,φ,φ,φ,φ,φ,φ,φ,φ,φ,φ,φ] rfl rfl (any_of HT_.out (by kernel_rfl)) (fun _ _ _ h => h) (Or.inl ⟨by rfl, ?_⟩) ?_ ?_
                  rotate_left; (intro w'; go_simp; with_reducible rfl); rotate_left; (simp only [Act.put, zz1, zz2, zz3, i64_w, i32_w]; rfl)
                  refine pure_ (i := 6) (N := some 87) (v := ?_) (a' := ?_) #[τ,τ,τ,τ,τ,τ,τ,φ,φ,φ,φ,φ,φ,φ,φ,φ,φ,φ,φ,φ,φ] rfl rfl (any_of HT_.out (by kernel_rfl)) (fun _ _ _ h => h) (Or.inl ⟨by rfl, ?_⟩) ?_ ?_
                  rotate_left; (intro w'; go_simp; with_reducible rfl); rotate_left; (simp only [Act.put, zz1, zz2, zz3, i64_w, i32_w]; rfl)
                  refine pure_ (i := 14) (N := some 95) (v := ?_) (a' := ?_) #[τ,τ,τ,τ,τ,τ,τ,φ,φ,φ,φ,φ,φ,φ,τ,φ,φ,φ,φ,φ,φ] rfl rfl (any_of HT_.out (by kernel_rfl)) (fun _ _ _ h => h) (Or.inl ⟨by rfl, ?_⟩) ?_ ?_
                  rotate_left; (intro w'; go_simp; with_reducible rfl); rotate_left; (simp only [Act.put, zz1, zz2, zz3, i64_w, i32_w]; rfl)
                  refine take_ (i := 7) (N := some 88) (v := ?_) (a' := ?_) #[τ,τ,τ,τ,τ,τ,τ,τ,φ,φ,φ,φ,φ,φ,τ,φ,φ,φ,φ,φ,φ] rfl rfl (take_ofW HT_.out HW_.out (by kernel_rfl)) (fun _ _ _ h => h) (Or.inl ⟨by rfl, ?_⟩) hHeld ?_ ?_
                  rotate_left; (rintro w' ⟨s0, s1, s2, s3, s4⟩; go_simp; with_reducible rfl); rotate_left; (simp only [Act.put, zz1, zz2, zz3, i64_w, i32_w]; rfl)
                  refine pure_ (i := 8) (N := some 89) (v := ?_) (a' := ?_) #[τ,τ,τ,τ,τ,τ,τ,τ,τ,φ,φ,φ,φ,φ,τ,φ,φ,φ,φ,φ,φ] rfl rfl (any_of HT_.out (by kernel_rfl)) (fun _ _ _ h => h) (Or.inl ⟨by rfl, ?_⟩) ?_ ?_
                  rotate_left; (intro w'; go_simp; with_reducible rfl); rotate_left; (simp only [Act.put, zz1, zz2, zz3, i64_w, i32_w]; rfl)
                  refine take_ (i := 9) (N := some 90) (v := ?_) (a' := ?_) #[τ,τ,τ,τ,τ,τ,τ,τ,τ,τ,φ,φ,φ,φ,τ,φ,φ,φ,φ,φ,φ] rfl rfl (take_ofW HT_.out HW_.out (by kernel_rfl)) (fun _ _ _ h => h) (Or.inl ⟨by rfl, ?_⟩) hHeld ?_ ?_
                  rotate_left; (rintro w' ⟨s0, s1, s2, s3, s4⟩; go_simp; with_reducible rfl); rotate_left; (simp only [Act.put, zz1, zz2, zz3, i64_w, i32_w]; rfl)
                  refine take_ (i := 10) (N := some 91) (v := ?_) (a' := ?_) #[τ,τ,τ,τ,τ,τ,τ,τ,τ,τ,τ,φ,φ,φ,τ,φ,φ,φ,φ,φ,φ] rfl rfl (take_ofW HT_.out HW_.out (by kernel_rfl)) (fun _ _ _ h => h) (Or.inl ⟨by rfl, ?_⟩) hHeld ?_ ?_
                  rotate_left; (rintro w' ⟨s0, s1, s2, s3, s4⟩; go_simp; with_reducible rfl); rotate_left; (simp only [Act.put, zz1, zz2, zz3, i64_w, i32_w]; rfl)
                  refine pure_ (i := 11) (N := some 92) (v := ?_) (a' := ?_) #[τ,τ,τ,τ,τ,τ,τ,τ,τ,τ,τ,τ,φ,φ,τ,φ,φ,φ,φ,φ,φ] rfl rfl (any_of HT_.out (by kernel_rfl)) (fun _ _ _ h => h) (Or.inl ⟨by rfl, ?_⟩) ?_ ?_
                  rotate_left; (intro w'; go_simp; with_reducible rfl); rotate_left; (simp only [Act.put, zz1, zz2, zz3, i64_w, i32_w]; rfl)
                  refine pure_ (i := 12) (N := some 93) (v := ?_) (a' := ?_) #[τ,τ,τ,τ,τ,τ,τ,τ,τ,τ,τ,τ,τ,φ,τ,φ,φ,φ,φ,φ,φ] rfl rfl (any_of HT_.out (by kernel_rfl)) (fun _ _ _ h => h) (Or.inl ⟨by rfl, ?_⟩) ?_ ?_
                  rotate_left; (intro w'; go_simp; with_reducible rfl); rotate_left; (simp only [Act.put, zz1, zz2, zz3, i64_w, i32_w]; rfl)
                  refine take_ (i := 13) (N := some 94) (v := ?_) (a' := ?_) #[τ,τ,τ,τ,τ,τ,τ,τ,τ,τ,τ,τ,τ,τ,τ,φ,φ,φ,φ,φ,φ] rfl rfl (take_ofW HT_.out HW_.out (by kernel_rfl)) (fun _ _ _ h => h) (Or.inl ⟨by rfl, ?_⟩) hHeld ?_ ?_
                  rotate_left; (rintro w' ⟨s0, s1, s2, s3, s4⟩; go_simp; with_reducible rfl); rotate_left; (simp only [Act.put, zz1, zz2, zz3, i64_w, i32_w]; rfl)
                  refine take_ (i := 15) (N := some 96) (v := ?_) (a' := ?_) #[τ,τ,τ,τ,τ,τ,τ,τ,τ,τ,τ,τ,τ,τ,τ,τ,φ,φ,φ,φ,φ] rfl rfl (take_ofW HT_.out HW_.out (by kernel_rfl)) (fun _ _ _ h => h) (Or.inl ⟨by rfl, ?_⟩) hHeld ?_ ?_
                  rotate_left; (rintro w' ⟨s0, s1, s2, s3, s4⟩; go_simp; with_reducible rfl); rotate_left; (simp only [Act.put, zz1, zz2, zz3, i64_w, i32_w]; rfl)
                  refine one_ (i := 16) (N := some 97) #[τ,τ,τ,τ,τ,τ,τ,τ,τ,τ,τ,τ,τ,τ,τ,τ,τ,φ,φ,φ,φ] rfl rfl (one_of HT_.out (by kernel_rfl)) (by decide) (fun K hK => ?_)
                  refine goes_ Tryd.func19 (by kernel_rfl) rfl #[.slice (some ad) g.length c0, .int .i64 B] (by rfl) rfl rfl (by simp only [List.map_toArray, List.map_cons, List.map_nil]; rfl) ?_
                  with_reducible refine (members_yes (some ad) c0 g B U.drew (HX.out.below HBUd.out).gr HX.out.gc HMs.out).mono ?_
                  rintro e V ⟨v, rfl, hr, hbv⟩
                  obtain ⟨A6, c6, rfl, hc6, hr6⟩ := Kd.R_reads hr
                  have HBV := Aside0.mk (HBUd.out.trans (hbv.mono HBUd.out.size))
                  have r0 := pw_cell_below hbv u3d
                  have r1 := pw_cell_below hbv w0d
                  have r2 := pw_cell_below hbv u0d
                  have r3 := pw_cell_below hbv z0u
                  have r4 := pw_cell_below hbv u2d
                  have m0 := pw_cell_below hbv u1d
                  have m4 := pw_cell_below hbv k0d
                  clear hr hr6 hbv
                  refine ⟨_, rfl, ?_⟩
                  refine hK.out _ _ ⟨r0, r1, r2, r3, r4⟩ (fun hHeld => ?_)
                  clear hK K
                  refine norm_ (a' := ?_) ?_ ?_
                  rotate_left
                  · show Act.put _ (some 97) _ = _
                    simp only [Act.put, zz1, zz2, zz3, i64_w, i32_w]
                    rfl
                  refine pure_ (i := 17) (N := some 98) (v := ?_) (a' := ?_) #[τ,τ,τ,τ,τ,τ,τ,τ,τ,τ,τ,τ,τ,τ,τ,τ,τ,τ,φ,φ,φ] rfl rfl (any_of HT_.out (by kernel_rfl)) (fun _ _ _ h => h) (Or.inl ⟨by rfl, ?_⟩) ?_ ?_
                  rotate_left; (intro w'; go_simp; with_reducible rfl); rotate_left; (simp only [Act.put, zz1, zz2, zz3, i64_w, i32_w]; rfl)
                  refine pure_ (i := 18) (N := some 99) (v := ?_) (a' := ?_) #[τ,τ,τ,τ,τ,τ,τ,τ,τ,τ,τ,τ,τ,τ,τ,τ,τ,τ,τ,φ,φ] rfl rfl (any_of HT_.out (by kernel_rfl)) (fun _ _ _ h => h) (Or.inl ⟨by rfl, ?_⟩) ?_ ?_
                  rotate_left; (intro w'; go_simp; with_reducible rfl); rotate_left; (simp only [Act.put, zz1, zz2, zz3, i64_w, i32_w]; rfl)
                  refine pure_ (i := 19) (N := some 100) (v := ?_) (a' := ?_) #[τ,τ,τ,τ,τ,τ,τ,τ,τ,τ,τ,τ,τ,τ,τ,τ,τ,τ,τ,τ,φ] rfl rfl (any_of HT_.out (by kernel_rfl)) (fun _ _ _ h => h) (Or.inl ⟨by rfl, ?_⟩) ?_ ?_
                  rotate_left; (intro w'; go_simp; with_reducible rfl); rotate_left; (simp only [Act.put, zz1, zz2, zz3, i64_w, i32_w]; rfl)
                  refine pure_ (i := 20) (N := some 80) (v := ?_) (a' := ?_) #[τ,τ,τ,τ,τ,τ,τ,τ,τ,τ,τ,τ,τ,τ,τ,τ,τ,τ,τ,τ,τ] rfl rfl (any_of HT_.out (by kernel_rfl)) (fun _ _ _ h => h) (Or.inl ⟨by rfl, ?_⟩) ?_ ?_
                  rotate_left; (intro w'; go_simp; with_reducible rfl); rotate_left; (simp only [Act.put, zz1, zz2, zz3, i64_w, i32_w]; rfl)
                  refine done_ (done_of HT_.out (by kernel_rfl)) ?_
                  go_wp2_with (fail)
                  go_ret
                  rw [HPf.out]
                  exact ⟨rfl, HBV.out⟩
                · go_wp2_with (fail)
                  refine start_ (n := 21) (S := fun w' => w'.cell? ⟨w.heap.size + 1, 2, none⟩ = some (.slice (some adw) ws.length cw) ∧ w'.cell? adw = some (.int .i64 (k : Int)) ∧ w'.cell? ⟨w.heap.size, 0, none⟩ = some (.pointer (some ⟨xb, 0, none⟩)) ∧ w'.cell? ⟨xb, 0, none⟩ = some (.slice (some ad) g.length c0) ∧ w'.cell? ⟨w.heap.size + 1, 1, none⟩ = some (.int .i64 B)) (ds := []) #[φ,φ,φ,φ,φ,φ,φ,φ,φ,φ,φ,φ,φ,φ,φ,φ,φ,φ,φ,φ,φ] (by kernel_rfl) rfl rfl ⟨u3d, w0d, u0d, z0u, u2d⟩ (fun hHeld => ?_)
                  refine with_tabW fo15.tab15 fo15.bits15 (fun HT_ HW_ => ?_)
                  refine pure_ (i := 0) (N := some 81) (v := ?_) (a' := ?_) #[τ,φ,φ,φ,φ,φ,φ,φ,φ,φ,φ,φ,φ,φ,φ,φ,φ,φ,φ,φ,φ] rfl rfl (any_of HT_.out (by kernel_rfl)) (fun _ _ _ h => h) (Or.inl ⟨by rfl, ?_⟩) ?_ ?_
                  rotate_left; (intro w'; go_simp; with_reducible rfl); rotate_left; (simp only [Act.put, zz1, zz2, zz3, i64_w, i32_w]; rfl)
                  refine take_ (i := 1) (N := some 82) (v := ?_) (a' := ?_) #[τ,τ,φ,φ,φ,φ,φ,φ,φ,φ,φ,φ,φ,φ,φ,φ,φ,φ,φ,φ,φ] rfl rfl (take_ofW HT_.out HW_.out (by kernel_rfl)) (fun _ _ _ h => h) (Or.inl ⟨by rfl, ?_⟩) hHeld ?_ ?_
                  rotate_left; (rintro w' ⟨s0, s1, s2, s3, s4⟩; go_simp; with_reducible rfl); rotate_left; (simp only [Act.put, zz1, zz2, zz3, i64_w, i32_w]; rfl)
                  refine pure_ (i := 2) (N := some 83) (v := ?_) (a' := ?_) #[τ,τ,τ,φ,φ,φ,φ,φ,φ,φ,φ,φ,φ,φ,φ,φ,φ,φ,φ,φ,φ] rfl rfl (any_of HT_.out (by kernel_rfl)) (fun _ _ _ h => h) (Or.inl ⟨by rfl, ?_⟩) ?_ ?_
                  rotate_left; (intro w'; go_simp; with_reducible rfl); rotate_left; (simp only [Act.put, zz1, zz2, zz3, i64_w, i32_w]; rfl)
                  refine take_ (i := 3) (N := some 84) (v := ?_) (a' := ?_) #[τ,τ,τ,τ,φ,φ,φ,φ,φ,φ,φ,φ,φ,φ,φ,φ,φ,φ,φ,φ,φ] rfl rfl (take_ofW HT_.out HW_.out (by kernel_rfl)) (fun _ _ _ h => h) (Or.inl ⟨by rfl, ?_⟩) hHeld ?_ ?_
                  rotate_left; (rintro w' ⟨s0, s1, s2, s3, s4⟩; go_simp; with_reducible rfl); rotate_left; (simp only [Act.put, zz1, zz2, zz3, i64_w, i32_w]; rfl)
                  refine pure_ (i := 4) (N := some 85) (v := ?_) (a' := ?_) #[τ,τ,τ,τ,τ,φ,φ,φ,φ,φ,φ,φ,φ,φ,φ,φ,φ,φ,φ,φ,φ] rfl rfl (any_of HT_.out (by kernel_rfl)) (fun _ _ _ h => h) (Or.inl ⟨by rfl, ?_⟩) ?_ ?_
                  rotate_left; (intro w'; go_simp; with_reducible rfl); rotate_left; (simp only [Act.put, zz1, zz2, zz3, i64_w, i32_w]; rfl)
                  refine pure_ (i := 5) (N := some 86) (v := ?_) (a' := ?_) #[τ,τ,τ,τ,τ,τ,φ,φ,φ,φ,φ,φ,φ,φ,φ,φ,φ,φ,φ,φ,φ] rfl rfl (any_of HT_.out (by kernel_rfl)) (fun _ _ _ h => h) (Or.inl ⟨by rfl, ?_⟩) ?_ ?_
                  rotate_left; (intro w'; go_simp; with_reducible rfl); rotate_left; (simp only [Act.put, zz1, zz2, zz3, i64_w, i32_w]; rfl)
                  refine pure_ (i := 6) (N := some 87) (v := ?_) (a' := ?_) #[τ,τ,τ,τ,τ,τ,τ,φ,φ,φ,φ,φ,φ,φ,φ,φ,φ,φ,φ,φ,φ] rfl rfl (any_of HT_.out (by kernel_rfl)) (fun _ _ _ h => h) (Or.inl ⟨by rfl, ?_⟩) ?_ ?_
                  rotate_left; (intro w'; go_simp; with_reducible rfl); rotate_left; (simp only [Act.put, zz1, zz2, zz3, i64_w, i32_w]; rfl)
                  refine pure_ (i := 14) (N := some 95) (v := ?_) (a' := ?_) #[τ,τ,τ,τ,τ,τ,τ,φ,φ,φ,φ,φ,φ,φ,τ,φ,φ,φ,φ,φ,φ] rfl rfl (any_of HT_.out (by kernel_rfl)) (fun _ _ _ h => h) (Or.inl ⟨by rfl, ?_⟩) ?_ ?_
                  rotate_left; (intro w'; go_simp; with_reducible rfl); rotate_left; (simp only [Act.put, zz1, zz2, zz3, i64_w, i32_w]; rfl)
                  refine take_ (i := 7) (N := some 88) (v := ?_) (a' := ?_) #[τ,τ,τ,τ,τ,τ,τ,τ,φ,φ,φ,φ,φ,φ,τ,φ,φ,φ,φ,φ,φ] rfl rfl (take_ofW HT_.out HW_.out (by kernel_rfl)) (fun _ _ _ h => h) (Or.inl ⟨by rfl, ?_⟩) hHeld ?_ ?_
                  rotate_left; (rintro w' ⟨s0, s1, s2, s3, s4⟩; go_simp; with_reducible rfl); rotate_left; (simp only [Act.put, zz1, zz2, zz3, i64_w, i32_w]; rfl)
                  refine pure_ (i := 8) (N := some 89) (v := ?_) (a' := ?_) #[τ,τ,τ,τ,τ,τ,τ,τ,τ,φ,φ,φ,φ,φ,τ,φ,φ,φ,φ,φ,φ] rfl rfl (any_of HT_.out (by kernel_rfl)) (fun _ _ _ h => h) (Or.inl ⟨by rfl, ?_⟩) ?_ ?_
                  rotate_left; (intro w'; go_simp; with_reducible rfl); rotate_left; (simp only [Act.put, zz1, zz2, zz3, i64_w, i32_w]; rfl)
                  refine take_ (i := 9) (N := some 90) (v := ?_) (a' := ?_) #[τ,τ,τ,τ,τ,τ,τ,τ,τ,τ,φ,φ,φ,φ,τ,φ,φ,φ,φ,φ,φ] rfl rfl (take_ofW HT_.out HW_.out (by kernel_rfl)) (fun _ _ _ h => h) (Or.inl ⟨by rfl, ?_⟩) hHeld ?_ ?_
                  rotate_left; (rintro w' ⟨s0, s1, s2, s3, s4⟩; go_simp; with_reducible rfl); rotate_left; (simp only [Act.put, zz1, zz2, zz3, i64_w, i32_w]; rfl)
                  refine take_ (i := 10) (N := some 91) (v := ?_) (a' := ?_) #[τ,τ,τ,τ,τ,τ,τ,τ,τ,τ,τ,φ,φ,φ,τ,φ,φ,φ,φ,φ,φ] rfl rfl (take_ofW HT_.out HW_.out (by kernel_rfl)) (fun _ _ _ h => h) (Or.inl ⟨by rfl, ?_⟩) hHeld ?_ ?_
                  rotate_left; (rintro w' ⟨s0, s1, s2, s3, s4⟩; go_simp; with_reducible rfl); rotate_left; (simp only [Act.put, zz1, zz2, zz3, i64_w, i32_w]; rfl)
                  refine pure_ (i := 11) (N := some 92) (v := ?_) (a' := ?_) #[τ,τ,τ,τ,τ,τ,τ,τ,τ,τ,τ,τ,φ,φ,τ,φ,φ,φ,φ,φ,φ] rfl rfl (any_of HT_.out (by kernel_rfl)) (fun _ _ _ h => h) (Or.inl ⟨by rfl, ?_⟩) ?_ ?_
                  rotate_left; (intro w'; go_simp; with_reducible rfl); rotate_left; (simp only [Act.put, zz1, zz2, zz3, i64_w, i32_w]; rfl)
                  refine pure_ (i := 12) (N := some 93) (v := ?_) (a' := ?_) #[τ,τ,τ,τ,τ,τ,τ,τ,τ,τ,τ,τ,τ,φ,τ,φ,φ,φ,φ,φ,φ] rfl rfl (any_of HT_.out (by kernel_rfl)) (fun _ _ _ h => h) (Or.inl ⟨by rfl, ?_⟩) ?_ ?_
                  rotate_left; (intro w'; go_simp; with_reducible rfl); rotate_left; (simp only [Act.put, zz1, zz2, zz3, i64_w, i32_w]; rfl)
                  refine take_ (i := 13) (N := some 94) (v := ?_) (a' := ?_) #[τ,τ,τ,τ,τ,τ,τ,τ,τ,τ,τ,τ,τ,τ,τ,φ,φ,φ,φ,φ,φ] rfl rfl (take_ofW HT_.out HW_.out (by kernel_rfl)) (fun _ _ _ h => h) (Or.inl ⟨by rfl, ?_⟩) hHeld ?_ ?_
                  rotate_left; (rintro w' ⟨s0, s1, s2, s3, s4⟩; go_simp; with_reducible rfl); rotate_left; (simp only [Act.put, zz1, zz2, zz3, i64_w, i32_w]; rfl)
                  refine take_ (i := 15) (N := some 96) (v := ?_) (a' := ?_) #[τ,τ,τ,τ,τ,τ,τ,τ,τ,τ,τ,τ,τ,τ,τ,τ,φ,φ,φ,φ,φ] rfl rfl (take_ofW HT_.out HW_.out (by kernel_rfl)) (fun _ _ _ h => h) (Or.inl ⟨by rfl, ?_⟩) hHeld ?_ ?_
                  rotate_left; (rintro w' ⟨s0, s1, s2, s3, s4⟩; go_simp; with_reducible rfl); rotate_left; (simp only [Act.put, zz1, zz2, zz3, i64_w, i32_w]; rfl)
                  refine one_ (i := 16) (N := some 97) #[τ,τ,τ,τ,τ,τ,τ,τ,τ,τ,τ,τ,τ,τ,τ,τ,τ,φ,φ,φ,φ] rfl rfl (one_of HT_.out (by kernel_rfl)) (by decide) (fun K hK => ?_)
                  refine goes_ Tryd.func19 (by kernel_rfl) rfl #[.slice (some ad) g.length c0, .int .i64 B] (by rfl) rfl rfl (by simp only [List.map_toArray, List.map_cons, List.map_nil]; rfl) ?_
                  with_reducible refine (members_yes (some ad) c0 g B U.drew (HX.out.below HBUd.out).gr HX.out.gc HMs.out).mono ?_
                  rintro e V ⟨v, rfl, hr, hbv⟩
                  obtain ⟨A6, c6, rfl, hc6, hr6⟩ := Kd.R_reads hr
                  have HBV := Aside0.mk (HBUd.out.trans (hbv.mono HBUd.out.size))
                  have r0 := pw_cell_below hbv u3d
                  have r1 := pw_cell_below hbv w0d
                  have r2 := pw_cell_below hbv u0d
                  have r3 := pw_cell_below hbv z0u
                  have r4 := pw_cell_below hbv u2d
                  have m0 := pw_cell_below hbv u1d
                  have m4 := pw_cell_below hbv k0d
                  clear hr hr6 hbv
                  refine ⟨_, rfl, ?_⟩
                  refine hK.out _ _ ⟨r0, r1, r2, r3, r4⟩ (fun hHeld => ?_)
                  clear hK K
                  refine norm_ (a' := ?_) ?_ ?_
                  rotate_left
                  · show Act.put _ (some 97) _ = _
                    simp only [Act.put, zz1, zz2, zz3, i64_w, i32_w]
                    rfl
                  refine pure_ (i := 17) (N := some 98) (v := ?_) (a' := ?_) #[τ,τ,τ,τ,τ,τ,τ,τ,τ,τ,τ,τ,τ,τ,τ,τ,τ,τ,φ,φ,φ] rfl rfl (any_of HT_.out (by kernel_rfl)) (fun _ _ _ h => h) (Or.inl ⟨by rfl, ?_⟩) ?_ ?_
                  rotate_left; (intro w'; go_simp; with_reducible rfl); rotate_left; (simp only [Act.put, zz1, zz2, zz3, i64_w, i32_w]; rfl)
                  refine pure_ (i := 18) (N := some 99) (v := ?_) (a' := ?_) #[τ,τ,τ,τ,τ,τ,τ,τ,τ,τ,τ,τ,τ,τ,τ,τ,τ,τ,τ,φ,φ] rfl rfl (any_of HT_.out (by kernel_rfl)) (fun _ _ _ h => h) (Or.inl ⟨by rfl, ?_⟩) ?_ ?_
                  rotate_left; (intro w'; go_simp; with_reducible rfl); rotate_left; (simp only [Act.put, zz1, zz2, zz3, i64_w, i32_w]; rfl)
                  refine pure_ (i := 19) (N := some 100) (v := ?_) (a' := ?_) #[τ,τ,τ,τ,τ,τ,τ,τ,τ,τ,τ,τ,τ,τ,τ,τ,τ,τ,τ,τ,φ] rfl rfl (any_of HT_.out (by kernel_rfl)) (fun _ _ _ h => h) (Or.inl ⟨by rfl, ?_⟩) ?_ ?_
                  rotate_left; (intro w'; go_simp; with_reducible rfl); rotate_left; (simp only [Act.put, zz1, zz2, zz3, i64_w, i32_w]; rfl)
                  refine pure_ (i := 20) (N := some 80) (v := ?_) (a' := ?_) #[τ,τ,τ,τ,τ,τ,τ,τ,τ,τ,τ,τ,τ,τ,τ,τ,τ,τ,τ,τ,τ] rfl rfl (any_of HT_.out (by kernel_rfl)) (fun _ _ _ h => h) (Or.inl ⟨by rfl, ?_⟩) ?_ ?_
                  rotate_left; (intro w'; go_simp; with_reducible rfl); rotate_left; (simp only [Act.put, zz1, zz2, zz3, i64_w, i32_w]; rfl)
                  refine done_ (done_of HT_.out (by kernel_rfl)) ?_
                  go_wp2_with (fail)
                  go_ret
                  rw [HPf.out]
                  exact ⟨rfl, HBV.out⟩
              · have c1_ : (((membersP g B).length : Int) ≤ (k : Int)) = False := eq_false (by omega)
                have HKl := Aside0.mk (show k < (membersP g B).length by omega)
                have HF4 := Aside0.mk (HF3.out.trans (if_neg (by omega)))
                clear hge HF3
                have hmm := members_in HC.out HB_.out.1 HB_.out.2 ((membersP g B).getD k 0) (by rw [List.getD_eq_getElem?_getD, List.getElem?_eq_getElem HKl.out]; exact List.getElem_mem HKl.out)
                obtain ⟨m, hm⟩ := Int.eq_ofNat_of_zero_le hmm.1
                have HMv := Aside0.mk hm
                have HMl := Aside0.mk (show m < g.length by omega)
                obtain ⟨ad', Bk, dk, Bl, dl, eB, hT⟩ := node_at HX.out.gr HMl.out
                cases eB
                have HCN := Aside0.mk (show chosenN g ⟨a, B, ws⟩ = nd g m by show nd g ((membersP g B).getD (ws.getD 0 0).toNat 0) = _; rw [← HKK.out, Int.toNat_natCast, hm])
                obtain ⟨t, ht⟩ : ∃ t, t = nd g m := ⟨_, rfl⟩
                have HTT := Aside0.mk ht
                have HNt := Aside0.mk hT
                have HOt := Aside0.mk (show Okn g t by rw [ht]; exact (check_ok HC.out).2 _ (nd_mem (by omega) (by have := HMl.out; omega)))
                have HF5 := HF4.out
                rw [HCN.out, ← ht] at HF5
                have HF6 := Aside0.mk HF5
                have HCH := Aside0.mk (show ∀ (W : World), Below w.heap.size w W → Calls Tryd.prog 65 #[.pointer (some ⟨xb, 0, none⟩), .agg #[.int .i64 (a : Int), .int .i64 B, .slice (some adw) ws.length cw]] W fun e w' => e = .returned (.agg #[.int .i64 t.f0, .int .i64 t.f1, .string t.f2, .slice Bk t.f3.length dk, .slice Bl t.f4.length dl]) ∧ Below W.heap.size W w' from fun W hW => by
                  rw [ht]
                  exact chosen_yes xb ad c0 g a B ws (some adw) cw W (HX.out.below hW).z0 (HX.out.below hW).gr HX.out.gc (Kd.C_below HW.out hW) HC.out k m HL0.out HKK.out.symm HKl.out HMv.out HMl.out Bk dk Bl dl (HNt.out.below hW))
                have h16 : t.f3.length ≤ 16 := by
                  by_cases h7 : t.f0 = 7
                  · exact (HOt.out.recd h7).2
                  · rw [HOt.out.keys h7]; simp
                have hwt : wrap64 (1 + (t.f3.length : Int)) = ((1 + t.f3.length : Nat) : Int) := by unfold wrap64; omega
                have H16 := Aside0.mk h16
                clear hmm hm HF4 HF5 hT ht h16
                rcases KEY.out with b9 | ⟨b9, c9⟩
                · clear KEY
                  go_wp2_with (fail)
                  refine start_ (n := 21) (S := fun w' => w'.cell? ⟨w.heap.size + 1, 2, none⟩ = some (.slice (some adw) ws.length cw) ∧ w'.cell? adw = some (.int .i64 (k : Int)) ∧ w'.cell? ⟨w.heap.size, 0, none⟩ = some (.pointer (some ⟨xb, 0, none⟩)) ∧ w'.cell? ⟨xb, 0, none⟩ = some (.slice (some ad) g.length c0) ∧ w'.cell? ⟨w.heap.size + 1, 1, none⟩ = some (.int .i64 B)) (ds := []) #[φ,φ,φ,φ,φ,φ,φ,φ,φ,φ,φ,φ,φ,φ,φ,φ,φ,φ,φ,φ,φ] (by kernel_rfl) rfl rfl ⟨u3d, w0d, u0d, z0u, u2d⟩ (fun hHeld => ?_)
                  refine with_tabW fo15.tab15 fo15.bits15 (fun HT_ HW_ => ?_)
                  refine pure_ (i := 0) (N := some 81) (v := ?_) (a' := ?_) #[τ,φ,φ,φ,φ,φ,φ,φ,φ,φ,φ,φ,φ,φ,φ,φ,φ,φ,φ,φ,φ] rfl rfl (any_of HT_.out (by kernel_rfl)) (fun _ _ _ h => h) (Or.inl ⟨by rfl, ?_⟩) ?_ ?_
                  rotate_left; (intro w'; go_simp; with_reducible rfl); rotate_left; (simp only [Act.put, zz1, zz2, zz3, i64_w, i32_w]; rfl)
                  refine take_ (i := 1) (N := some 82) (v := ?_) (a' := ?_) #[τ,τ,φ,φ,φ,φ,φ,φ,φ,φ,φ,φ,φ,φ,φ,φ,φ,φ,φ,φ,φ] rfl rfl (take_ofW HT_.out HW_.out (by kernel_rfl)) (fun _ _ _ h => h) (Or.inl ⟨by rfl, ?_⟩) hHeld ?_ ?_
                  rotate_left; (rintro w' ⟨s0, s1, s2, s3, s4⟩; go_simp; with_reducible rfl); rotate_left; (simp only [Act.put, zz1, zz2, zz3, i64_w, i32_w]; rfl)
                  refine pure_ (i := 2) (N := some 83) (v := ?_) (a' := ?_) #[τ,τ,τ,φ,φ,φ,φ,φ,φ,φ,φ,φ,φ,φ,φ,φ,φ,φ,φ,φ,φ] rfl rfl (any_of HT_.out (by kernel_rfl)) (fun _ _ _ h => h) (Or.inl ⟨by rfl, ?_⟩) ?_ ?_
                  rotate_left; (intro w'; go_simp; with_reducible rfl); rotate_left; (simp only [Act.put, zz1, zz2, zz3, i64_w, i32_w]; rfl)
                  refine take_ (i := 3) (N := some 84) (v := ?_) (a' := ?_) #[τ,τ,τ,τ,φ,φ,φ,φ,φ,φ,φ,φ,φ,φ,φ,φ,φ,φ,φ,φ,φ] rfl rfl (take_ofW HT_.out HW_.out (by kernel_rfl)) (fun _ _ _ h => h) (Or.inl ⟨by rfl, ?_⟩) hHeld ?_ ?_
                  rotate_left; (rintro w' ⟨s0, s1, s2, s3, s4⟩; go_simp; with_reducible rfl); rotate_left; (simp only [Act.put, zz1, zz2, zz3, i64_w, i32_w]; rfl)
                  refine pure_ (i := 4) (N := some 85) (v := ?_) (a' := ?_) #[τ,τ,τ,τ,τ,φ,φ,φ,φ,φ,φ,φ,φ,φ,φ,φ,φ,φ,φ,φ,φ] rfl rfl (any_of HT_.out (by kernel_rfl)) (fun _ _ _ h => h) (Or.inl ⟨by rfl, ?_⟩) ?_ ?_
                  rotate_left; (intro w'; go_simp; with_reducible rfl); rotate_left; (simp only [Act.put, zz1, zz2, zz3, i64_w, i32_w]; rfl)
                  refine pure_ (i := 5) (N := some 86) (v := ?_) (a' := ?_) #[τ,τ,τ,τ,τ,τ,φ,φ,φ,φ,φ,φ,φ,φ,φ,φ,φ,φ,φ,φ,φ] rfl rfl (any_of HT_.out (by kernel_rfl)) (fun _ _ _ h => h) (Or.inl ⟨by rfl, ?_⟩) ?_ ?_
                  rotate_left; (intro w'; go_simp; with_reducible rfl); rotate_left; (simp only [Act.put, zz1, zz2, zz3, i64_w, i32_w]; rfl)
                  refine pure_ (i := 6) (N := some 87) (v := ?_) (a' := ?_) #[τ,τ,τ,τ,τ,τ,τ,φ,φ,φ,φ,φ,φ,φ,φ,φ,φ,φ,φ,φ,φ] rfl rfl (any_of HT_.out (by kernel_rfl)) (fun _ _ _ h => h) (Or.inl ⟨by rfl, ?_⟩) ?_ ?_
                  rotate_left; (intro w'; go_simp; with_reducible rfl); rotate_left; (simp only [Act.put, zz1, zz2, zz3, i64_w, i32_w]; rfl)
                  refine pure_ (i := 14) (N := some 95) (v := ?_) (a' := ?_) #[τ,τ,τ,τ,τ,τ,τ,φ,φ,φ,φ,φ,φ,φ,τ,φ,φ,φ,φ,φ,φ] rfl rfl (any_of HT_.out (by kernel_rfl)) (fun _ _ _ h => h) (Or.inl ⟨by rfl, ?_⟩) ?_ ?_
                  rotate_left; (intro w'; go_simp; with_reducible rfl); rotate_left; (simp only [Act.put, zz1, zz2, zz3, i64_w, i32_w]; rfl)
                  refine take_ (i := 7) (N := some 88) (v := ?_) (a' := ?_) #[τ,τ,τ,τ,τ,τ,τ,τ,φ,φ,φ,φ,φ,φ,τ,φ,φ,φ,φ,φ,φ] rfl rfl (take_ofW HT_.out HW_.out (by kernel_rfl)) (fun _ _ _ h => h) (Or.inl ⟨by rfl, ?_⟩) hHeld ?_ ?_
                  rotate_left; (rintro w' ⟨s0, s1, s2, s3, s4⟩; go_simp; with_reducible rfl); rotate_left; (simp only [Act.put, zz1, zz2, zz3, i64_w, i32_w]; rfl)
                  refine pure_ (i := 8) (N := some 89) (v := ?_) (a' := ?_) #[τ,τ,τ,τ,τ,τ,τ,τ,τ,φ,φ,φ,φ,φ,τ,φ,φ,φ,φ,φ,φ] rfl rfl (any_of HT_.out (by kernel_rfl)) (fun _ _ _ h => h) (Or.inl ⟨by rfl, ?_⟩) ?_ ?_
                  rotate_left; (intro w'; go_simp; with_reducible rfl); rotate_left; (simp only [Act.put, zz1, zz2, zz3, i64_w, i32_w]; rfl)
                  refine take_ (i := 9) (N := some 90) (v := ?_) (a' := ?_) #[τ,τ,τ,τ,τ,τ,τ,τ,τ,τ,φ,φ,φ,φ,τ,φ,φ,φ,φ,φ,φ] rfl rfl (take_ofW HT_.out HW_.out (by kernel_rfl)) (fun _ _ _ h => h) (Or.inl ⟨by rfl, ?_⟩) hHeld ?_ ?_
                  rotate_left; (rintro w' ⟨s0, s1, s2, s3, s4⟩; go_simp; with_reducible rfl); rotate_left; (simp only [Act.put, zz1, zz2, zz3, i64_w, i32_w]; rfl)
                  refine take_ (i := 10) (N := some 91) (v := ?_) (a' := ?_) #[τ,τ,τ,τ,τ,τ,τ,τ,τ,τ,τ,φ,φ,φ,τ,φ,φ,φ,φ,φ,φ] rfl rfl (take_ofW HT_.out HW_.out (by kernel_rfl)) (fun _ _ _ h => h) (Or.inl ⟨by rfl, ?_⟩) hHeld ?_ ?_
                  rotate_left; (rintro w' ⟨s0, s1, s2, s3, s4⟩; go_simp; with_reducible rfl); rotate_left; (simp only [Act.put, zz1, zz2, zz3, i64_w, i32_w]; rfl)
                  refine pure_ (i := 11) (N := some 92) (v := ?_) (a' := ?_) #[τ,τ,τ,τ,τ,τ,τ,τ,τ,τ,τ,τ,φ,φ,τ,φ,φ,φ,φ,φ,φ] rfl rfl (any_of HT_.out (by kernel_rfl)) (fun _ _ _ h => h) (Or.inl ⟨by rfl, ?_⟩) ?_ ?_
                  rotate_left; (intro w'; go_simp; with_reducible rfl); rotate_left; (simp only [Act.put, zz1, zz2, zz3, i64_w, i32_w]; rfl)
                  refine pure_ (i := 12) (N := some 93) (v := ?_) (a' := ?_) #[τ,τ,τ,τ,τ,τ,τ,τ,τ,τ,τ,τ,τ,φ,τ,φ,φ,φ,φ,φ,φ] rfl rfl (any_of HT_.out (by kernel_rfl)) (fun _ _ _ h => h) (Or.inl ⟨by rfl, ?_⟩) ?_ ?_
                  rotate_left; (intro w'; go_simp; with_reducible rfl); rotate_left; (simp only [Act.put, zz1, zz2, zz3, i64_w, i32_w]; rfl)
                  refine take_ (i := 13) (N := some 94) (v := ?_) (a' := ?_) #[τ,τ,τ,τ,τ,τ,τ,τ,τ,τ,τ,τ,τ,τ,τ,φ,φ,φ,φ,φ,φ] rfl rfl (take_ofW HT_.out HW_.out (by kernel_rfl)) (fun _ _ _ h => h) (Or.inl ⟨by rfl, ?_⟩) hHeld ?_ ?_
                  rotate_left; (rintro w' ⟨s0, s1, s2, s3, s4⟩; go_simp; with_reducible rfl); rotate_left; (simp only [Act.put, zz1, zz2, zz3, i64_w, i32_w]; rfl)
                  refine take_ (i := 15) (N := some 96) (v := ?_) (a' := ?_) #[τ,τ,τ,τ,τ,τ,τ,τ,τ,τ,τ,τ,τ,τ,τ,τ,φ,φ,φ,φ,φ] rfl rfl (take_ofW HT_.out HW_.out (by kernel_rfl)) (fun _ _ _ h => h) (Or.inl ⟨by rfl, ?_⟩) hHeld ?_ ?_
                  rotate_left; (rintro w' ⟨s0, s1, s2, s3, s4⟩; go_simp; with_reducible rfl); rotate_left; (simp only [Act.put, zz1, zz2, zz3, i64_w, i32_w]; rfl)
                  refine one_ (i := 16) (N := some 97) #[τ,τ,τ,τ,τ,τ,τ,τ,τ,τ,τ,τ,τ,τ,τ,τ,τ,φ,φ,φ,φ] rfl rfl (one_of HT_.out (by kernel_rfl)) (by decide) (fun K hK => ?_)
                  refine goes_ Tryd.func19 (by kernel_rfl) rfl #[.slice (some ad) g.length c0, .int .i64 B] (by rfl) rfl rfl (by simp only [List.map_toArray, List.map_cons, List.map_nil]; rfl) ?_
                  with_reducible refine (members_yes (some ad) c0 g B U.drew (HX.out.below HBUd.out).gr HX.out.gc HMs.out).mono ?_
                  rintro e V ⟨v, rfl, hr, hbv⟩
                  obtain ⟨A6, c6, rfl, hc6, hr6⟩ := Kd.R_reads hr
                  have HBV := Aside0.mk (HBUd.out.trans (hbv.mono HBUd.out.size))
                  have r0 := pw_cell_below hbv u3d
                  have r1 := pw_cell_below hbv w0d
                  have r2 := pw_cell_below hbv u0d
                  have r3 := pw_cell_below hbv z0u
                  have r4 := pw_cell_below hbv u2d
                  have m0 := pw_cell_below hbv u1d
                  have m4 := pw_cell_below hbv k0d
                  clear hr hr6 hbv
                  refine ⟨_, rfl, ?_⟩
                  refine hK.out _ _ ⟨r0, r1, r2, r3, r4⟩ (fun hHeld => ?_)
                  clear hK K
                  refine norm_ (a' := ?_) ?_ ?_
                  rotate_left
                  · show Act.put _ (some 97) _ = _
                    simp only [Act.put, zz1, zz2, zz3, i64_w, i32_w]
                    rfl
                  refine pure_ (i := 17) (N := some 98) (v := ?_) (a' := ?_) #[τ,τ,τ,τ,τ,τ,τ,τ,τ,τ,τ,τ,τ,τ,τ,τ,τ,τ,φ,φ,φ] rfl rfl (any_of HT_.out (by kernel_rfl)) (fun _ _ _ h => h) (Or.inl ⟨by rfl, ?_⟩) ?_ ?_
                  rotate_left; (intro w'; go_simp; with_reducible rfl); rotate_left; (simp only [Act.put, zz1, zz2, zz3, i64_w, i32_w]; rfl)
                  refine pure_ (i := 18) (N := some 99) (v := ?_) (a' := ?_) #[τ,τ,τ,τ,τ,τ,τ,τ,τ,τ,τ,τ,τ,τ,τ,τ,τ,τ,τ,φ,φ] rfl rfl (any_of HT_.out (by kernel_rfl)) (fun _ _ _ h => h) (Or.inl ⟨by rfl, ?_⟩) ?_ ?_
                  rotate_left; (intro w'; go_simp; with_reducible rfl); rotate_left; (simp only [Act.put, zz1, zz2, zz3, i64_w, i32_w]; rfl)
                  refine pure_ (i := 19) (N := some 100) (v := ?_) (a' := ?_) #[τ,τ,τ,τ,τ,τ,τ,τ,τ,τ,τ,τ,τ,τ,τ,τ,τ,τ,τ,τ,φ] rfl rfl (any_of HT_.out (by kernel_rfl)) (fun _ _ _ h => h) (Or.inl ⟨by rfl, ?_⟩) ?_ ?_
                  rotate_left; (intro w'; go_simp; with_reducible rfl); rotate_left; (simp only [Act.put, zz1, zz2, zz3, i64_w, i32_w]; rfl)
                  refine pure_ (i := 20) (N := some 80) (v := ?_) (a' := ?_) #[τ,τ,τ,τ,τ,τ,τ,τ,τ,τ,τ,τ,τ,τ,τ,τ,τ,τ,τ,τ,τ] rfl rfl (any_of HT_.out (by kernel_rfl)) (fun _ _ _ h => h) (Or.inl ⟨by rfl, ?_⟩) ?_ ?_
                  rotate_left; (intro w'; go_simp; with_reducible rfl); rotate_left; (simp only [Act.put, zz1, zz2, zz3, i64_w, i32_w]; rfl)
                  refine done_ (done_of HT_.out (by kernel_rfl)) ?_
                  go_wp2_with (fail)
                  refine (HCH.out V HBV.out).mono ?_
                  rintro e V2 ⟨rfl, hb5⟩
                  have HBV2 := Aside0.mk (HBV.out.trans (hb5.mono HBV.out.size))
                  have v0 := pw_cell_below hb5 r2
                  have v1 := pw_cell_below hb5 m0
                  have v2 := pw_cell_below hb5 r4
                  have v3 := pw_cell_below hb5 r0
                  have l0 := pw_cell_below hb5 m4
                  clear r0 r1 r2 r3 r4 m0 m4 hb5 hHeld
                  have htb := heap_alloc_new V2 (.cells #[.int .i64 t.f0, .int .i64 t.f1, .string t.f2, .slice Bk t.f3.length dk, .slice Bl t.f4.length dl] 45)
                  have hbt := below_alloc (Below.refl V2.heap.size V2) (.cells #[.int .i64 t.f0, .int .i64 t.f1, .string t.f2, .slice Bk t.f3.length dk, .slice Bl t.f4.length dl] 45)
                  have HBY := Aside0.mk (below_alloc HBV2.out (.cells #[.int .i64 t.f0, .int .i64 t.f1, .string t.f2, .slice Bk t.f3.length dk, .slice Bl t.f4.length dl] 45))
                  have i0 := pw_cell_below hbt v0
                  have i1 := pw_cell_below hbt v1
                  have i2 := pw_cell_below hbt v2
                  have i3 := pw_cell_below hbt v3
                  have j0 := pw_cell_below hbt l0
                  have t0 := (blk_cell htb 0).trans rfl
                  have t3 := (blk_cell htb 3).trans rfl
                  clear v0 v1 v2 v3 l0 hbt htb u0d u1d u2d u3d w0d k0d u0 u1 u2 u3 k0 k4 z0u
                  by_cases h7 : x.f0 = 7 ∧ t.f0 = 7
                  · have d7 : (x.f0 == 7) = true := by simpa using h7.1
                    have g7 : (t.f0 == 7) = true := by simpa using h7.2
                    have HPf := Aside0.mk (show frmP g l.length ⟨a, B, ws⟩ = (decide (ws.length = 1 + t.f3.length) && (onP g ⟨a, B, ws⟩).all (inP l.length)) by rw [HF6.out, if_pos h7])
                    clear h7 HF6
                    skip
                    by_cases hm : ws.length = 1 + t.f3.length
                    · have q9 : ((ws.length : Int) == (1 + (t.f3.length : Int))) = true := by simp; omega
                      have HM := Aside0.mk (show decide (ws.length = 1 + t.f3.length) = true from decide_eq_true hm)
                      clear hm
                      go_wp2_with (fail)
                      refine (on_yes xb (some ad) c0 g a B ws (some adw) cw (V2.alloc (.cells #[.int .i64 t.f0, .int .i64 t.f1, .string t.f2, .slice Bk t.f3.length dk, .slice Bl t.f4.length dl] 45)) (HX.out.below HBY.out).z0 (HX.out.below HBY.out).gr HX.out.gc (Kd.C_below HW.out HBY.out) HWc.out HA.out HOk.out).mono ?_
                      rintro e Z2 ⟨Ao, co, rfl, hco, hro, hbo⟩
                      have HO := Aside0.mk hro
                      have HOc := Aside0.mk hco
                      have HBO := Aside0.mk (HBY.out.trans (hbo.mono HBY.out.size))
                      have v0 := pw_cell_below hbo i0
                      clear hro hco hbo
                      go_wp2_with (fail)
                      refine (odds_yes w.heap.size xb l.length A1 c1 Ao co (onP g ⟨a, B, ws⟩) Z2 v0 (HX.out.below HBO.out).z1 HO.out HOc.out).mono ?_
                      rintro e Z3 ⟨rfl, hb3⟩
                      have HB3 := Aside0.mk (HBO.out.trans (hb3.mono HBO.out.size))
                      clear hb3
                      go_wp2_with (fail)
                      go_ret
                      rw [HPf.out, HM.out]
                      exact ⟨by simp, HB3.out⟩
                    · have q9 : ((ws.length : Int) == (1 + (t.f3.length : Int))) = false := by simp; omega
                      have HM := Aside0.mk (show decide (ws.length = 1 + t.f3.length) = false from decide_eq_false hm)
                      clear hm
                      go_wp2_with (fail)
                      go_ret
                      rw [HPf.out, HM.out]
                      exact ⟨rfl, HBY.out⟩
                  · have HPf := Aside0.mk (show frmP g l.length ⟨a, B, ws⟩ = (decide (ws.length = 1) && (onP g ⟨a, B, ws⟩).all (inP l.length)) by rw [HF6.out, if_neg h7, if_neg (by rintro ⟨h, _⟩; rw [h] at b9; simp at b9)])
                    have h7' : (x.f0 == 7) = false ∨ ((x.f0 == 7) = true ∧ (t.f0 == 7) = false) := by
                      cases h : (x.f0 == 7) with
                      | false => exact .inl rfl
                      | true => exact .inr ⟨rfl, by
                          rw [← Bool.not_eq_true]
                          intro e
                          exact h7 ⟨by simpa using h, by simpa using e⟩⟩
                    clear h7 HF6
                    rcases h7' with d7 | ⟨d7, g7⟩
                    · skip
                      skip
                      by_cases hm : ws.length = 1
                      · have q9 : ((ws.length : Int) == 1) = true := by simp; omega
                        have HM := Aside0.mk (show decide (ws.length = 1) = true from decide_eq_true hm)
                        clear hm
                        go_wp2_with (fail)
                        refine (on_yes xb (some ad) c0 g a B ws (some adw) cw (V2.alloc (.cells #[.int .i64 t.f0, .int .i64 t.f1, .string t.f2, .slice Bk t.f3.length dk, .slice Bl t.f4.length dl] 45)) (HX.out.below HBY.out).z0 (HX.out.below HBY.out).gr HX.out.gc (Kd.C_below HW.out HBY.out) HWc.out HA.out HOk.out).mono ?_
                        rintro e Z2 ⟨Ao, co, rfl, hco, hro, hbo⟩
                        have HO := Aside0.mk hro
                        have HOc := Aside0.mk hco
                        have HBO := Aside0.mk (HBY.out.trans (hbo.mono HBY.out.size))
                        have v0 := pw_cell_below hbo i0
                        clear hro hco hbo
                        go_wp2_with (fail)
                        refine (odds_yes w.heap.size xb l.length A1 c1 Ao co (onP g ⟨a, B, ws⟩) Z2 v0 (HX.out.below HBO.out).z1 HO.out HOc.out).mono ?_
                        rintro e Z3 ⟨rfl, hb3⟩
                        have HB3 := Aside0.mk (HBO.out.trans (hb3.mono HBO.out.size))
                        clear hb3
                        go_wp2_with (fail)
                        go_ret
                        rw [HPf.out, HM.out]
                        exact ⟨by simp, HB3.out⟩
                      · have q9 : ((ws.length : Int) == 1) = false := by simp; omega
                        have HM := Aside0.mk (show decide (ws.length = 1) = false from decide_eq_false hm)
                        clear hm
                        go_wp2_with (fail)
                        go_ret
                        rw [HPf.out, HM.out]
                        exact ⟨rfl, HBY.out⟩
                    · skip
                      skip
                      by_cases hm : ws.length = 1
                      · have q9 : ((ws.length : Int) == 1) = true := by simp; omega
                        have HM := Aside0.mk (show decide (ws.length = 1) = true from decide_eq_true hm)
                        clear hm
                        go_wp2_with (fail)
                        refine (on_yes xb (some ad) c0 g a B ws (some adw) cw (V2.alloc (.cells #[.int .i64 t.f0, .int .i64 t.f1, .string t.f2, .slice Bk t.f3.length dk, .slice Bl t.f4.length dl] 45)) (HX.out.below HBY.out).z0 (HX.out.below HBY.out).gr HX.out.gc (Kd.C_below HW.out HBY.out) HWc.out HA.out HOk.out).mono ?_
                        rintro e Z2 ⟨Ao, co, rfl, hco, hro, hbo⟩
                        have HO := Aside0.mk hro
                        have HOc := Aside0.mk hco
                        have HBO := Aside0.mk (HBY.out.trans (hbo.mono HBY.out.size))
                        have v0 := pw_cell_below hbo i0
                        clear hro hco hbo
                        go_wp2_with (fail)
                        refine (odds_yes w.heap.size xb l.length A1 c1 Ao co (onP g ⟨a, B, ws⟩) Z2 v0 (HX.out.below HBO.out).z1 HO.out HOc.out).mono ?_
                        rintro e Z3 ⟨rfl, hb3⟩
                        have HB3 := Aside0.mk (HBO.out.trans (hb3.mono HBO.out.size))
                        clear hb3
                        go_wp2_with (fail)
                        go_ret
                        rw [HPf.out, HM.out]
                        exact ⟨by simp, HB3.out⟩
                      · have q9 : ((ws.length : Int) == 1) = false := by simp; omega
                        have HM := Aside0.mk (show decide (ws.length = 1) = false from decide_eq_false hm)
                        clear hm
                        go_wp2_with (fail)
                        go_ret
                        rw [HPf.out, HM.out]
                        exact ⟨rfl, HBY.out⟩
                · clear KEY
                  go_wp2_with (fail)
                  refine start_ (n := 21) (S := fun w' => w'.cell? ⟨w.heap.size + 1, 2, none⟩ = some (.slice (some adw) ws.length cw) ∧ w'.cell? adw = some (.int .i64 (k : Int)) ∧ w'.cell? ⟨w.heap.size, 0, none⟩ = some (.pointer (some ⟨xb, 0, none⟩)) ∧ w'.cell? ⟨xb, 0, none⟩ = some (.slice (some ad) g.length c0) ∧ w'.cell? ⟨w.heap.size + 1, 1, none⟩ = some (.int .i64 B)) (ds := []) #[φ,φ,φ,φ,φ,φ,φ,φ,φ,φ,φ,φ,φ,φ,φ,φ,φ,φ,φ,φ,φ] (by kernel_rfl) rfl rfl ⟨u3d, w0d, u0d, z0u, u2d⟩ (fun hHeld => ?_)
                  refine with_tabW fo15.tab15 fo15.bits15 (fun HT_ HW_ => ?_)
                  refine pure_ (i := 0) (N := some 81) (v := ?_) (a' := ?_) #[τ,φ,φ,φ,φ,φ,φ,φ,φ,φ,φ,φ,φ,φ,φ,φ,φ,φ,φ,φ,φ] rfl rfl (any_of HT_.out (by kernel_rfl)) (fun _ _ _ h => h) (Or.inl ⟨by rfl, ?_⟩) ?_ ?_
                  rotate_left; (intro w'; go_simp; with_reducible rfl); rotate_left; (simp only [Act.put, zz1, zz2, zz3, i64_w, i32_w]; rfl)
                  refine take_ (i := 1) (N := some 82) (v := ?_) (a' := ?_) #[τ,τ,φ,φ,φ,φ,φ,φ,φ,φ,φ,φ,φ,φ,φ,φ,φ,φ,φ,φ,φ] rfl rfl (take_ofW HT_.out HW_.out (by kernel_rfl)) (fun _ _ _ h => h) (Or.inl ⟨by rfl, ?_⟩) hHeld ?_ ?_
                  rotate_left; (rintro w' ⟨s0, s1, s2, s3, s4⟩; go_simp; with_reducible rfl); rotate_left; (simp only [Act.put, zz1, zz2, zz3, i64_w, i32_w]; rfl)
                  refine pure_ (i := 2) (N := some 83) (v := ?_) (a' := ?_) #[τ,τ,τ,φ,φ,φ,φ,φ,φ,φ,φ,φ,φ,φ,φ,φ,φ,φ,φ,φ,φ] rfl rfl (any_of HT_.out (by kernel_rfl)) (fun _ _ _ h => h) (Or.inl ⟨by rfl, ?_⟩) ?_ ?_
                  rotate_left; (intro w'; go_simp; with_reducible rfl); rotate_left; (simp only [Act.put, zz1, zz2, zz3, i64_w, i32_w]; rfl)
                  refine take_ (i := 3) (N := some 84) (v := ?_) (a' := ?_) #[τ,τ,τ,τ,φ,φ,φ,φ,φ,φ,φ,φ,φ,φ,φ,φ,φ,φ,φ,φ,φ] rfl rfl (take_ofW HT_.out HW_.out (by kernel_rfl)) (fun _ _ _ h => h) (Or.inl ⟨by rfl, ?_⟩) hHeld ?_ ?_
                  rotate_left; (rintro w' ⟨s0, s1, s2, s3, s4⟩; go_simp; with_reducible rfl); rotate_left; (simp only [Act.put, zz1, zz2, zz3, i64_w, i32_w]; rfl)
                  refine pure_ (i := 4) (N := some 85) (v := ?_) (a' := ?_) #[τ,τ,τ,τ,τ,φ,φ,φ,φ,φ,φ,φ,φ,φ,φ,φ,φ,φ,φ,φ,φ] rfl rfl (any_of HT_.out (by kernel_rfl)) (fun _ _ _ h => h) (Or.inl ⟨by rfl, ?_⟩) ?_ ?_
                  rotate_left; (intro w'; go_simp; with_reducible rfl); rotate_left; (simp only [Act.put, zz1, zz2, zz3, i64_w, i32_w]; rfl)
                  refine pure_ (i := 5) (N := some 86) (v := ?_) (a' := ?_) #[τ,τ,τ,τ,τ,τ,φ,φ,φ,φ,φ,φ,φ,φ,φ,φ,φ,φ,φ,φ,φ] rfl rfl (any_of HT_.out (by kernel_rfl)) (fun _ _ _ h => h) (Or.inl ⟨by rfl, ?_⟩) ?_ ?_
                  rotate_left; (intro w'; go_simp; with_reducible rfl); rotate_left; (simp only [Act.put, zz1, zz2, zz3, i64_w, i32_w]; rfl)
                  refine pure_ (i := 6) (N := some 87) (v := ?_) (a' := ?_) #[τ,τ,τ,τ,τ,τ,τ,φ,φ,φ,φ,φ,φ,φ,φ,φ,φ,φ,φ,φ,φ] rfl rfl (any_of HT_.out (by kernel_rfl)) (fun _ _ _ h => h) (Or.inl ⟨by rfl, ?_⟩) ?_ ?_
                  rotate_left; (intro w'; go_simp; with_reducible rfl); rotate_left; (simp only [Act.put, zz1, zz2, zz3, i64_w, i32_w]; rfl)
                  refine pure_ (i := 14) (N := some 95) (v := ?_) (a' := ?_) #[τ,τ,τ,τ,τ,τ,τ,φ,φ,φ,φ,φ,φ,φ,τ,φ,φ,φ,φ,φ,φ] rfl rfl (any_of HT_.out (by kernel_rfl)) (fun _ _ _ h => h) (Or.inl ⟨by rfl, ?_⟩) ?_ ?_
                  rotate_left; (intro w'; go_simp; with_reducible rfl); rotate_left; (simp only [Act.put, zz1, zz2, zz3, i64_w, i32_w]; rfl)
                  refine take_ (i := 7) (N := some 88) (v := ?_) (a' := ?_) #[τ,τ,τ,τ,τ,τ,τ,τ,φ,φ,φ,φ,φ,φ,τ,φ,φ,φ,φ,φ,φ] rfl rfl (take_ofW HT_.out HW_.out (by kernel_rfl)) (fun _ _ _ h => h) (Or.inl ⟨by rfl, ?_⟩) hHeld ?_ ?_
                  rotate_left; (rintro w' ⟨s0, s1, s2, s3, s4⟩; go_simp; with_reducible rfl); rotate_left; (simp only [Act.put, zz1, zz2, zz3, i64_w, i32_w]; rfl)
                  refine pure_ (i := 8) (N := some 89) (v := ?_) (a' := ?_) #[τ,τ,τ,τ,τ,τ,τ,τ,τ,φ,φ,φ,φ,φ,τ,φ,φ,φ,φ,φ,φ] rfl rfl (any_of HT_.out (by kernel_rfl)) (fun _ _ _ h => h) (Or.inl ⟨by rfl, ?_⟩) ?_ ?_
                  rotate_left; (intro w'; go_simp; with_reducible rfl); rotate_left; (simp only [Act.put, zz1, zz2, zz3, i64_w, i32_w]; rfl)
                  refine take_ (i := 9) (N := some 90) (v := ?_) (a' := ?_) #[τ,τ,τ,τ,τ,τ,τ,τ,τ,τ,φ,φ,φ,φ,τ,φ,φ,φ,φ,φ,φ] rfl rfl (take_ofW HT_.out HW_.out (by kernel_rfl)) (fun _ _ _ h => h) (Or.inl ⟨by rfl, ?_⟩) hHeld ?_ ?_
                  rotate_left; (rintro w' ⟨s0, s1, s2, s3, s4⟩; go_simp; with_reducible rfl); rotate_left; (simp only [Act.put, zz1, zz2, zz3, i64_w, i32_w]; rfl)
                  refine take_ (i := 10) (N := some 91) (v := ?_) (a' := ?_) #[τ,τ,τ,τ,τ,τ,τ,τ,τ,τ,τ,φ,φ,φ,τ,φ,φ,φ,φ,φ,φ] rfl rfl (take_ofW HT_.out HW_.out (by kernel_rfl)) (fun _ _ _ h => h) (Or.inl ⟨by rfl, ?_⟩) hHeld ?_ ?_
                  rotate_left; (rintro w' ⟨s0, s1, s2, s3, s4⟩; go_simp; with_reducible rfl); rotate_left; (simp only [Act.put, zz1, zz2, zz3, i64_w, i32_w]; rfl)
                  refine pure_ (i := 11) (N := some 92) (v := ?_) (a' := ?_) #[τ,τ,τ,τ,τ,τ,τ,τ,τ,τ,τ,τ,φ,φ,τ,φ,φ,φ,φ,φ,φ] rfl rfl (any_of HT_.out (by kernel_rfl)) (fun _ _ _ h => h) (Or.inl ⟨by rfl, ?_⟩) ?_ ?_
                  rotate_left; (intro w'; go_simp; with_reducible rfl); rotate_left; (simp only [Act.put, zz1, zz2, zz3, i64_w, i32_w]; rfl)
                  refine pure_ (i := 12) (N := some 93) (v := ?_) (a' := ?_) #[τ,τ,τ,τ,τ,τ,τ,τ,τ,τ,τ,τ,τ,φ,τ,φ,φ,φ,φ,φ,φ] rfl rfl (any_of HT_.out (by kernel_rfl)) (fun _ _ _ h => h) (Or.inl ⟨by rfl, ?_⟩) ?_ ?_
                  rotate_left; (intro w'; go_simp; with_reducible rfl); rotate_left; (simp only [Act.put, zz1, zz2, zz3, i64_w, i32_w]; rfl)
                  refine take_ (i := 13) (N := some 94) (v := ?_) (a' := ?_) #[τ,τ,τ,τ,τ,τ,τ,τ,τ,τ,τ,τ,τ,τ,τ,φ,φ,φ,φ,φ,φ] rfl rfl (take_ofW HT_.out HW_.out (by kernel_rfl)) (fun _ _ _ h => h) (Or.inl ⟨by rfl, ?_⟩) hHeld ?_ ?_
                  rotate_left; (rintro w' ⟨s0, s1, s2, s3, s4⟩; go_simp; with_reducible rfl); rotate_left; (simp only [Act.put, zz1, zz2, zz3, i64_w, i32_w]; rfl)
                  refine take_ (i := 15) (N := some 96) (v := ?_) (a' := ?_) #[τ,τ,τ,τ,τ,τ,τ,τ,τ,τ,τ,τ,τ,τ,τ,τ,φ,φ,φ,φ,φ] rfl rfl (take_ofW HT_.out HW_.out (by kernel_rfl)) (fun _ _ _ h => h) (Or.inl ⟨by rfl, ?_⟩) hHeld ?_ ?_
                  rotate_left; (rintro w' ⟨s0, s1, s2, s3, s4⟩; go_simp; with_reducible rfl); rotate_left; (simp only [Act.put, zz1, zz2, zz3, i64_w, i32_w]; rfl)
                  refine one_ (i := 16) (N := some 97) #[τ,τ,τ,τ,τ,τ,τ,τ,τ,τ,τ,τ,τ,τ,τ,τ,τ,φ,φ,φ,φ] rfl rfl (one_of HT_.out (by kernel_rfl)) (by decide) (fun K hK => ?_)
                  refine goes_ Tryd.func19 (by kernel_rfl) rfl #[.slice (some ad) g.length c0, .int .i64 B] (by rfl) rfl rfl (by simp only [List.map_toArray, List.map_cons, List.map_nil]; rfl) ?_
                  with_reducible refine (members_yes (some ad) c0 g B U.drew (HX.out.below HBUd.out).gr HX.out.gc HMs.out).mono ?_
                  rintro e V ⟨v, rfl, hr, hbv⟩
                  obtain ⟨A6, c6, rfl, hc6, hr6⟩ := Kd.R_reads hr
                  have HBV := Aside0.mk (HBUd.out.trans (hbv.mono HBUd.out.size))
                  have r0 := pw_cell_below hbv u3d
                  have r1 := pw_cell_below hbv w0d
                  have r2 := pw_cell_below hbv u0d
                  have r3 := pw_cell_below hbv z0u
                  have r4 := pw_cell_below hbv u2d
                  have m0 := pw_cell_below hbv u1d
                  have m4 := pw_cell_below hbv k0d
                  clear hr hr6 hbv
                  refine ⟨_, rfl, ?_⟩
                  refine hK.out _ _ ⟨r0, r1, r2, r3, r4⟩ (fun hHeld => ?_)
                  clear hK K
                  refine norm_ (a' := ?_) ?_ ?_
                  rotate_left
                  · show Act.put _ (some 97) _ = _
                    simp only [Act.put, zz1, zz2, zz3, i64_w, i32_w]
                    rfl
                  refine pure_ (i := 17) (N := some 98) (v := ?_) (a' := ?_) #[τ,τ,τ,τ,τ,τ,τ,τ,τ,τ,τ,τ,τ,τ,τ,τ,τ,τ,φ,φ,φ] rfl rfl (any_of HT_.out (by kernel_rfl)) (fun _ _ _ h => h) (Or.inl ⟨by rfl, ?_⟩) ?_ ?_
                  rotate_left; (intro w'; go_simp; with_reducible rfl); rotate_left; (simp only [Act.put, zz1, zz2, zz3, i64_w, i32_w]; rfl)
                  refine pure_ (i := 18) (N := some 99) (v := ?_) (a' := ?_) #[τ,τ,τ,τ,τ,τ,τ,τ,τ,τ,τ,τ,τ,τ,τ,τ,τ,τ,τ,φ,φ] rfl rfl (any_of HT_.out (by kernel_rfl)) (fun _ _ _ h => h) (Or.inl ⟨by rfl, ?_⟩) ?_ ?_
                  rotate_left; (intro w'; go_simp; with_reducible rfl); rotate_left; (simp only [Act.put, zz1, zz2, zz3, i64_w, i32_w]; rfl)
                  refine pure_ (i := 19) (N := some 100) (v := ?_) (a' := ?_) #[τ,τ,τ,τ,τ,τ,τ,τ,τ,τ,τ,τ,τ,τ,τ,τ,τ,τ,τ,τ,φ] rfl rfl (any_of HT_.out (by kernel_rfl)) (fun _ _ _ h => h) (Or.inl ⟨by rfl, ?_⟩) ?_ ?_
                  rotate_left; (intro w'; go_simp; with_reducible rfl); rotate_left; (simp only [Act.put, zz1, zz2, zz3, i64_w, i32_w]; rfl)
                  refine pure_ (i := 20) (N := some 80) (v := ?_) (a' := ?_) #[τ,τ,τ,τ,τ,τ,τ,τ,τ,τ,τ,τ,τ,τ,τ,τ,τ,τ,τ,τ,τ] rfl rfl (any_of HT_.out (by kernel_rfl)) (fun _ _ _ h => h) (Or.inl ⟨by rfl, ?_⟩) ?_ ?_
                  rotate_left; (intro w'; go_simp; with_reducible rfl); rotate_left; (simp only [Act.put, zz1, zz2, zz3, i64_w, i32_w]; rfl)
                  refine done_ (done_of HT_.out (by kernel_rfl)) ?_
                  go_wp2_with (fail)
                  refine (HCH.out V HBV.out).mono ?_
                  rintro e V2 ⟨rfl, hb5⟩
                  have HBV2 := Aside0.mk (HBV.out.trans (hb5.mono HBV.out.size))
                  have v0 := pw_cell_below hb5 r2
                  have v1 := pw_cell_below hb5 m0
                  have v2 := pw_cell_below hb5 r4
                  have v3 := pw_cell_below hb5 r0
                  have l0 := pw_cell_below hb5 m4
                  clear r0 r1 r2 r3 r4 m0 m4 hb5 hHeld
                  have htb := heap_alloc_new V2 (.cells #[.int .i64 t.f0, .int .i64 t.f1, .string t.f2, .slice Bk t.f3.length dk, .slice Bl t.f4.length dl] 45)
                  have hbt := below_alloc (Below.refl V2.heap.size V2) (.cells #[.int .i64 t.f0, .int .i64 t.f1, .string t.f2, .slice Bk t.f3.length dk, .slice Bl t.f4.length dl] 45)
                  have HBY := Aside0.mk (below_alloc HBV2.out (.cells #[.int .i64 t.f0, .int .i64 t.f1, .string t.f2, .slice Bk t.f3.length dk, .slice Bl t.f4.length dl] 45))
                  have i0 := pw_cell_below hbt v0
                  have i1 := pw_cell_below hbt v1
                  have i2 := pw_cell_below hbt v2
                  have i3 := pw_cell_below hbt v3
                  have j0 := pw_cell_below hbt l0
                  have t0 := (blk_cell htb 0).trans rfl
                  have t3 := (blk_cell htb 3).trans rfl
                  clear v0 v1 v2 v3 l0 hbt htb u0d u1d u2d u3d w0d k0d u0 u1 u2 u3 k0 k4 z0u
                  have d7 : (x.f0 == 7) = false := by
                    have h : x.f0 = 9 := by simpa using b9
                    rw [h]
                    rfl
                  by_cases h9 : t.f0 = 9
                  · have g9 : (t.f0 == 9) = true := by simpa using h9
                    have HPf := Aside0.mk (show frmP g l.length ⟨a, B, ws⟩ = (decide (ws.length = 2) && (onP g ⟨a, B, ws⟩).all (inP l.length)) by rw [HF6.out, if_neg (by rintro ⟨h, _⟩; rw [h] at d7; simp at d7), if_pos ⟨by simpa using b9, h9⟩])
                    clear h9 HF6
                    skip
                    by_cases hm : ws.length = 2
                    · have q9 : ((ws.length : Int) == 2) = true := by simp; omega
                      have HM := Aside0.mk (show decide (ws.length = 2) = true from decide_eq_true hm)
                      clear hm
                      go_wp2_with (fail)
                      refine (on_yes xb (some ad) c0 g a B ws (some adw) cw (V2.alloc (.cells #[.int .i64 t.f0, .int .i64 t.f1, .string t.f2, .slice Bk t.f3.length dk, .slice Bl t.f4.length dl] 45)) (HX.out.below HBY.out).z0 (HX.out.below HBY.out).gr HX.out.gc (Kd.C_below HW.out HBY.out) HWc.out HA.out HOk.out).mono ?_
                      rintro e Z2 ⟨Ao, co, rfl, hco, hro, hbo⟩
                      have HO := Aside0.mk hro
                      have HOc := Aside0.mk hco
                      have HBO := Aside0.mk (HBY.out.trans (hbo.mono HBY.out.size))
                      have v0 := pw_cell_below hbo i0
                      clear hro hco hbo
                      go_wp2_with (fail)
                      refine (odds_yes w.heap.size xb l.length A1 c1 Ao co (onP g ⟨a, B, ws⟩) Z2 v0 (HX.out.below HBO.out).z1 HO.out HOc.out).mono ?_
                      rintro e Z3 ⟨rfl, hb3⟩
                      have HB3 := Aside0.mk (HBO.out.trans (hb3.mono HBO.out.size))
                      clear hb3
                      go_wp2_with (fail)
                      go_ret
                      rw [HPf.out, HM.out]
                      exact ⟨by simp, HB3.out⟩
                    · have q9 : ((ws.length : Int) == 2) = false := by simp; omega
                      have HM := Aside0.mk (show decide (ws.length = 2) = false from decide_eq_false hm)
                      clear hm
                      go_wp2_with (fail)
                      go_ret
                      rw [HPf.out, HM.out]
                      exact ⟨rfl, HBY.out⟩
                  · have g9 : (t.f0 == 9) = false := by simpa using h9
                    have HPf := Aside0.mk (show frmP g l.length ⟨a, B, ws⟩ = (decide (ws.length = 1) && (onP g ⟨a, B, ws⟩).all (inP l.length)) by rw [HF6.out, if_neg (by rintro ⟨h, _⟩; rw [h] at d7; simp at d7), if_neg (by rintro ⟨_, h⟩; exact h9 h)])
                    clear h9 HF6
                    skip
                    by_cases hm : ws.length = 1
                    · have q9 : ((ws.length : Int) == 1) = true := by simp; omega
                      have HM := Aside0.mk (show decide (ws.length = 1) = true from decide_eq_true hm)
                      clear hm
                      go_wp2_with (fail)
                      refine (on_yes xb (some ad) c0 g a B ws (some adw) cw (V2.alloc (.cells #[.int .i64 t.f0, .int .i64 t.f1, .string t.f2, .slice Bk t.f3.length dk, .slice Bl t.f4.length dl] 45)) (HX.out.below HBY.out).z0 (HX.out.below HBY.out).gr HX.out.gc (Kd.C_below HW.out HBY.out) HWc.out HA.out HOk.out).mono ?_
                      rintro e Z2 ⟨Ao, co, rfl, hco, hro, hbo⟩
                      have HO := Aside0.mk hro
                      have HOc := Aside0.mk hco
                      have HBO := Aside0.mk (HBY.out.trans (hbo.mono HBY.out.size))
                      have v0 := pw_cell_below hbo i0
                      clear hro hco hbo
                      go_wp2_with (fail)
                      refine (odds_yes w.heap.size xb l.length A1 c1 Ao co (onP g ⟨a, B, ws⟩) Z2 v0 (HX.out.below HBO.out).z1 HO.out HOc.out).mono ?_
                      rintro e Z3 ⟨rfl, hb3⟩
                      have HB3 := Aside0.mk (HBO.out.trans (hb3.mono HBO.out.size))
                      clear hb3
                      go_wp2_with (fail)
                      go_ret
                      rw [HPf.out, HM.out]
                      exact ⟨by simp, HB3.out⟩
                    · have q9 : ((ws.length : Int) == 1) = false := by simp; omega
                      have HM := Aside0.mk (show decide (ws.length = 1) = false from decide_eq_false hm)
                      clear hm
                      go_wp2_with (fail)
                      go_ret
                      rw [HPf.out, HM.out]
                      exact ⟨rfl, HBY.out⟩
end Go.Proofs.YthkoockcfnbpiaaDoor.W8
