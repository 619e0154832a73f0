/- Facts: First, Holds. -/
import Derived.Test.YthkoockcfnbpiaaDoorProg
import Derived.Test.YthkoockcfnbpiaaDoorWWords
import Derived.Test.YthkoockcfnbpiaaDoorWLast
import Derived.Test.YthkoockcfnbpiaaDoorW9
namespace Go.Proofs.YthkoockcfnbpiaaDoor.W10
open Go.RowKit Go.Proofs.YthkoockcfnbpiaaDoorW.PrintWords Go.Proofs.YthkoockcfnbpiaaDoorW.PrintLast Go.Proofs.YthkoockcfnbpiaaDoorW.PrintMore Go.Proofs.YthkoockcfnbpiaaDoor L1 L4 G1 G2 S0 S1 S2 S3 S4 S5 S8 F1 W1 F2 F3 W2 W3 W4 W5 W6 W7 W8 W9
set_option linter.unusedVariables false
set_option linter.unusedSimpArgs false
theorem rise_of {g : List GN} (hc : checkP g = 0) {a : Nat} (ha : a < g.length) : RiseP (nd g a).f3 := by
  have hall : g.all (mayP g) = true := by
    unfold checkP at hc
    split at hc
    · cases hc
    · split at hc
      · assumption
      · cases hc
  have ho := (check_ok hc).2 _ (nd_mem (g := g) (k := (a : Int)) (by omega) (by omega))
  have hm := List.all_eq_true.1 hall _ (nd_mem (g := g) (k := (a : Int)) (by omega) (by omega))
  by_cases h7 : (nd g a).f0 = 7
  · unfold mayP at hm
    simp only [Bool.and_eq_true] at hm
    have hk := hm.2
    unfold byKind at hk
    rw [if_neg (by omega), if_neg (by omega), if_pos h7] at hk
    simp only [Bool.and_eq_true, decide_eq_true_eq] at hk
    exact hk.1.2
  · rw [ho.keys h7]
    intro i hi
    simp at hi
/-- What is known of a fact that has a form. -/
theorem frm_ok {g : List GN} (hc : checkP g = 0) {n : Nat} {f : FC} (h : frmP g n f = true) :
    ∃ a : Nat, f.f0 = (a : Int) ∧ a < g.length ∧ (0 ≤ f.f1 ∧ f.f1 < g.length) ∧ Fok g a f.f1 f.f2 ∧ (onP g ⟨a, f.f1, f.f2⟩).all (inP n) = true ∧ f.f2.length ≤ 1000000000 := by
  obtain ⟨A, B, ws⟩ := f
  unfold frmP at h
  dsimp only at h ⊢
  rw [Bool.and_eq_true, Bool.and_eq_true, inP_iff, inP_iff] at h
  obtain ⟨⟨hA, hB⟩, h⟩ := h
  obtain ⟨a, rfl⟩ := Int.eq_ofNat_of_zero_le hA.1
  have ha : a < g.length := by omega
  have hms := members_small hc _ (nd_mem (g := g) (k := (a : Int)) (by omega) (by omega))
  refine ⟨a, rfl, ha, hB, ?_⟩
  by_cases h8 : (nd g a).f0 = 8
  · rw [if_pos h8, Bool.and_eq_true, decide_eq_true_eq] at h
    exact ⟨.inl h8, h.2, by omega⟩
  · rw [if_neg h8] at h
    by_cases hz : ws.length = 0
    · rw [if_pos hz] at h
      cases h
    · rw [if_neg hz] at h
      by_cases h9 : (nd g a).f0 = 9 ∧ ws.getD 0 0 = -1
      · rw [if_pos h9, Bool.and_eq_true, decide_eq_true_eq] at h
        exact ⟨.inr (.inl ⟨h9.1, by omega, h9.2⟩), h.2, by omega⟩
      · rw [if_neg h9] at h
        by_cases hr : ws.getD 0 0 < 0 ∨ ((membersP g B).length : Int) ≤ ws.getD 0 0
        · rw [if_pos hr] at h
          cases h
        · rw [if_neg hr, Bool.and_eq_true, decide_eq_true_eq] at h
          obtain ⟨k, hk⟩ := Int.eq_ofNat_of_zero_le (show 0 ≤ ws.getD 0 0 by omega)
          have hkl : k < (membersP g B).length := by omega
          have hmm := members_in hc hB.1 hB.2 ((membersP g B).getD k 0) (by rw [List.getD_eq_getElem?_getD, List.getElem?_eq_getElem hkl]; exact List.getElem_mem hkl)
          obtain ⟨m, hm⟩ := Int.eq_ofNat_of_zero_le hmm.1
          have hml : m < g.length := by omega
          refine ⟨.inr (.inr ⟨k, m, by omega, hk, hkl, hm, hml⟩), h.2, ?_⟩
          have hcn : chosenN g ⟨a, B, ws⟩ = nd g m := by
            show nd g ((membersP g B).getD (ws.getD 0 0).toNat 0) = _
            rw [hk, Int.toNat_natCast, hm]
          have ho := (check_ok hc).2 _ (nd_mem (g := g) (k := (m : Int)) (by omega) (by omega))
          rw [hcn] at h
          have h1 := h.1
          split at h1
          · rename_i h7
            have := (ho.recd h7.2).2
            omega
          · split at h1 <;> omega
theorem checkFP_ok {g : List GN} {l : List FC} (h : checkFP g l = 0) : checkP g = 0 ∧ l.length ≤ 8000 ∧ ∀ f ∈ l, frmP g l.length f = true := by
  unfold checkFP at h
  split at h
  · rename_i hc
    exact absurd h hc
  · rename_i hc
    split at h
    · cases h
    · rename_i hl
      split at h
      · rename_i hall
        exact ⟨by simpa using hc, by omega, List.all_eq_true.1 hall⟩
      · cases h
set_option maxHeartbeats 4000000 in
set_option maxRecDepth 100000 in
theorem first_yes (A0 : Option Addr) (c0 : Nat) (g : List GN) (A1 : Option Addr) (c1 : Nat) (l : List FC) (w : World) (hK : Keys w) (hg : Kd.C P.k45 w A0 g.length g) (hgc : g.length ≤ c0) (hl : Kd.C P.k37 w A1 l.length l) (hlc : l.length ≤ c1) :
    Calls Tryd.prog 13 #[.slice A0 g.length c0, .slice A1 l.length c1] w fun e w' => e = .returned (.tuple #[.int .i64 (firstP g l).1, .int .i64 (firstP g l).2]) ∧ Below w.heap.size w w' := by
  have h1 := heap_alloc_new w (.cells #[.slice A0 g.length c0, .slice A1 l.length c1] 65)
  have h2 := heap_alloc_new (w.alloc (.cells #[.slice A0 g.length c0, .slice A1 l.length c1] 65)) (.cells #[.pointer (some ⟨w.heap.size, 0, none⟩)] 73)
  rw [World.size_alloc] at h2
  have HB1 := Aside0.mk (below_alloc (below_alloc (Below.refl w.heap.size w) (.cells #[.slice A0 g.length c0, .slice A1 l.length c1] 65)) (.cells #[.pointer (some ⟨w.heap.size, 0, none⟩)] 73))
  have x0 := (blk_cell (blk_alloc h1 (.cells #[.pointer (some ⟨w.heap.size, 0, none⟩)] 73)) 0).trans rfl
  have x1 := (blk_cell (blk_alloc h1 (.cells #[.pointer (some ⟨w.heap.size, 0, none⟩)] 73)) 1).trans rfl
  have y0 := (blk_cell h2 0).trans rfl
  have HX := Aside0.mk (show Fx ((w.alloc (.cells #[.slice A0 g.length c0, .slice A1 l.length c1] 65)).alloc (.cells #[.pointer (some ⟨w.heap.size, 0, none⟩)] 73)) w.heap.size A0 c0 g A1 c1 l from ⟨x0, x1, Kd.C_below hg HB1.out, hgc, Kd.C_below hl HB1.out, hlc⟩)
  have HK := Aside0.mk hK
  clear h1 h2 hK hg hgc hl hlc x0 x1
  go_enter Tryd.func13, Tryd.ntmps13
  go_wp2_with (fail)
  generalize (w.alloc (.cells #[.slice A0 g.length c0, .slice A1 l.length c1] 65)).alloc (.cells #[.pointer (some ⟨w.heap.size, 0, none⟩)] 73) = W1 at y0 HB1 HX ⊢
  try rw [World.size_alloc]
  refine (check_facts_yes w.heap.size A0 c0 g A1 c1 l W1 (HK.out.below HB1.out) HX.out).mono ?_
  rintro e W2 ⟨rfl, hb⟩
  have HB2 := Aside0.mk (HB1.out.trans (hb.mono HB1.out.size))
  have HX2 := Aside0.mk (HX.out.below hb)
  have g0 := pw_cell_below hb y0
  clear hb y0
  by_cases hc : checkFP g l = 0
  · have hcb : (checkFP g l != 0) = false := by simp [hc]
    obtain ⟨hcg, hl8, hfr⟩ := checkFP_ok hc
    have HI := Aside0.mk (fs_index (w.heap.size + 1) A1 c1 l W2 (fun i W => Below W2.heap.size W2 W ∧ (l.take i).all (holdsP g l) = true) (fun i W => Below W2.heap.size W2 W ∧ (l.take i).all (holdsP g l) = true ∧ holdsP g l (l.getD i zF) = false) (fun i W h => Kd.C_below HX2.out.lr h.1) HX2.out.lc (fun i W Aw cw hi hR hw hwc => by
      have hmem : l.getD i zF ∈ l := by rw [List.getD_eq_getElem?_getD, List.getElem?_eq_getElem hi]; exact List.getElem_mem hi
      obtain ⟨a, ea, ha, hB, hfok, hon, hwl⟩ := frm_ok hcg (hfr _ hmem)
      generalize hgo : l.getD i zF = o at *
      obtain ⟨A, B, ws⟩ := o
      dsimp only at ea hfok hon hwl hw hwc hB ⊢
      subst ea
      refine (fs1_yes (w.heap.size + 1) w.heap.size A0 c0 g A1 c1 l a B ws Aw cw W (pw_cell_below hR.1 g0) (HX2.out.below hR.1) hw hwc ha hcg (rise_of hcg ha) hfok hon (by omega) hwl).mono ?_
      rintro e W' ⟨rfl, hb⟩
      cases hp : holdsP g l ⟨a, B, ws⟩ with
      | true => exact .inr ⟨rfl, hR.1.trans (hb.mono hR.1.size), by rw [all_take hi, hR.2, hgo]; exact hp⟩
      | false => exact .inl ⟨rfl, hR.1.trans (hb.mono hR.1.size), hR.2, rfl⟩) ⟨Below.refl _ _, rfl⟩)
    have HC := Aside0.mk hc
    clear hc hcg hl8 hfr
    go_wp2_with (fail)
    refine HI.out.mono ?_
    rintro e W3 (⟨n, hn, rfl, hb, hall, hno⟩ | ⟨rfl, hb, hall⟩)
    · have HB3 := Aside0.mk (HB2.out.trans (hb.mono HB2.out.size))
      have HP := Aside0.mk (show firstP g l = ((n : Int), 0) by
        unfold firstP
        rw [if_neg (by rw [HC.out]; simp)]
        have : l.findIdx? (fun f => !holdsP g l f) = some n := by
          rw [List.findIdx?_eq_some_iff_getElem]
          refine ⟨hn, by rw [List.getD_eq_getElem?_getD, List.getElem?_eq_getElem hn] at hno; simpa using hno, fun j hj => ?_⟩
          have h := List.all_eq_true.1 hall l[j] (List.mem_take_iff_getElem.2 ⟨j, by omega, rfl⟩)
          simp [h]
        rw [this])
      clear hb hall hno
      go_wp2_with (fail)
      go_ret2
      rw [HP.out]
      exact ⟨rfl, HB3.out⟩
    · have HB3 := Aside0.mk (HB2.out.trans (hb.mono HB2.out.size))
      have HP := Aside0.mk (show firstP g l = (-1, 0) by
        unfold firstP
        rw [if_neg (by rw [HC.out]; simp)]
        rw [List.take_length] at hall
        have : l.findIdx? (fun f => !holdsP g l f) = none := by
          rw [List.findIdx?_eq_none_iff]
          intro f hf
          rw [List.all_eq_true.1 hall f hf]
          rfl
        rw [this])
      clear hb hall
      go_wp2_with (fail)
      go_ret2
      rw [HP.out]
      exact ⟨rfl, HB3.out⟩
  · have hcb : (checkFP g l != 0) = true := by simpa using hc
    have HP := Aside0.mk (show firstP g l = (0, checkFP g l) from if_pos hc)
    clear hc
    go_wp2_with (fail)
    go_ret2
    rw [HP.out]
    exact ⟨rfl, HB2.out⟩
set_option maxHeartbeats 4000000 in
set_option maxRecDepth 100000 in
theorem holds_at_yes (A0 : Option Addr) (c0 : Nat) (g : List GN) (A1 : Option Addr) (c1 : Nat) (l : List FC) (k : Int) (w : World) (hK : Keys w) (hg : Kd.C P.k45 w A0 g.length g) (hgc : g.length ≤ c0) (hl : Kd.C P.k37 w A1 l.length l) (hlc : l.length ≤ c1) :
    Calls Tryd.prog 21 #[.slice A0 g.length c0, .slice A1 l.length c1, .int .i64 k] w fun e w' => e = .returned (.bool (holdsAtP g l k)) ∧ Below w.heap.size w w' := by
  have h1 := heap_alloc_new w (.cells #[.slice A0 g.length c0, .slice A1 l.length c1] 65)
  have HB1 := Aside0.mk (below_alloc (Below.refl w.heap.size w) (.cells #[.slice A0 g.length c0, .slice A1 l.length c1] 65))
  have x0 := (blk_cell h1 0).trans rfl
  have x1 := (blk_cell h1 1).trans rfl
  have HX := Aside0.mk (show Fx (w.alloc (.cells #[.slice A0 g.length c0, .slice A1 l.length c1] 65)) w.heap.size A0 c0 g A1 c1 l from ⟨x0, x1, Kd.C_below hg HB1.out, hgc, Kd.C_below hl HB1.out, hlc⟩)
  have HK := Aside0.mk hK
  clear h1 hK hg hgc hl hlc x0 x1
  go_enter Tryd.func21, Tryd.ntmps21
  go_wp2_with (fail)
  generalize w.alloc (.cells #[.slice A0 g.length c0, .slice A1 l.length c1] 65) = W1 at HB1 HX ⊢
  refine (has_yes w.heap.size A0 c0 g A1 c1 l k W1 (HK.out.below HB1.out) HX.out).mono ?_
  rintro e W2 ⟨rfl, hb⟩
  have HB2 := Aside0.mk (HB1.out.trans (hb.mono HB1.out.size))
  have HX2 := Aside0.mk (HX.out.below hb)
  clear hb
  cases hh : hasFP g l k with
  | false =>
    have HP := Aside0.mk (show holdsAtP g l k = false by unfold holdsAtP; rw [hh]; rfl)
    clear hh
    go_wp2_with (fail)
    go_ret
    exact ⟨by rw [HP.out]; first | rfl | simp [*], HB2.out⟩
  | true =>
    have HP := Aside0.mk (show holdsAtP g l k = holdsP g l (l.getD k.toNat zF) by unfold holdsAtP; rw [hh]; rfl)
    have hh2 := hh
    unfold hasFP at hh2
    rw [Bool.and_eq_true, decide_eq_true_eq, inP_iff] at hh2
    obtain ⟨hc, hk0, hk1⟩ := hh2
    obtain ⟨hcg, hl8, hfr⟩ := checkFP_ok hc
    obtain ⟨i, rfl⟩ := Int.eq_ofNat_of_zero_le hk0
    have hi : i < l.length := by omega
    rw [Int.toNat_natCast] at HP
    have hmem : l.getD i zF ∈ l := by rw [List.getD_eq_getElem?_getD, List.getElem?_eq_getElem hi]; exact List.getElem_mem hi
    obtain ⟨a, ea, ha, hB, hfok, hon, hwl⟩ := frm_ok hcg (hfr _ hmem)
    obtain ⟨ad, Aw, cw, eA, hF⟩ := fact_at HX2.out.lr hi
    subst eA
    generalize l.getD i zF = o at *
    obtain ⟨A, B, ws⟩ := o
    dsimp only at ea hfok hon hwl hB
    subst ea
    have HHo := Aside0.mk (holds_yes w.heap.size A0 c0 g (some ad) c1 l a B ws Aw cw W2 HX2.out hF.ws hF.wc ha hcg (rise_of hcg ha) hfok hon (by omega) hwl)
    have q0 := hF.c0
    have q1 := hF.c1
    have q2 := hF.c2
    have e1 : ((i : Int) < (l.length : Int)) = True := eq_true (by omega)
    clear hh hc hk0 hk1 hcg hl8 hfr hi hmem ha hB hfok hon hwl hF
    dsimp only at q0 q1 q2
    go_wp2_with (fail)
    refine HHo.out.mono ?_
    rintro e W3 ⟨rfl, hb⟩
    have HB3 := Aside0.mk (HB2.out.trans (hb.mono HB2.out.size))
    clear hb
    go_wp2_with (fail)
    go_ret
    rw [HP.out]
    exact ⟨rfl, HB3.out⟩
end Go.Proofs.YthkoockcfnbpiaaDoor.W10
