/- SubDyn walked: it answers true, of all rows. -/
import Derived.Test.YtgppcpghpeenhaaDoorProg
import Derived.Test.YtgppcpghpeenhaaDoorWWords
import Derived.Test.YtgppcpghpeenhaaDoorWLast
import Derived.Test.YtgppcpghpeenhaaDoorR3
import Derived.Test.YtgppcpghpeenhaaDoorR5
import Derived.Test.YtgppcpghpeenhaaDoorN1
import Derived.Test.YtgppcpghpeenhaaDoorN8
import Derived.Test.YtgppcpghpeenhaaDoorCJ
namespace Go.Proofs.YtgppcpghpeenhaaDoor.TD
open Go.RowKit Go.Proofs.YtgppcpghpeenhaaDoorW.PrintWords Go.Proofs.YtgppcpghpeenhaaDoorW.PrintLast Go.Proofs.YtgppcpghpeenhaaDoorW.PrintMore Go.Proofs.YtgppcpghpeenhaaDoor L1 L4 G1 G2 S4 S5 S7 S9 S10 R1 R3 R4 R5 R6 R7 N1 N8 CK CJ
set_option linter.unusedVariables false
set_option linter.unusedSimpArgs false
theorem tab_at {st : Bool} {g : List GN} {w : World} {A : Option Addr} (h : Kd.C (Kd.slice 4 Kd.bool) w A g.length (tabN st g g.length)) (hn : 0 < g.length) :
    ∃ ad, A = some ad ∧ ∀ a, a < g.length → ∃ ad2 c2, w.cell? (ad.add a) = some (.slice (some ad2) g.length c2) ∧ ∀ b, b < g.length → w.cell? (ad2.add b) = some (.bool (subB st g a b)) := by
  obtain ⟨ad, c, e, _, _, _⟩ := Kd.C_get h [] (0 : Int) (by omega) (by omega)
  refine ⟨ad, e, fun a ha => ?_⟩
  obtain ⟨ad', cs, e', _, hK, hc⟩ := Kd.C_get h [] (a : Int) (by omega) (by omega)
  rw [e] at e'
  cases e'
  have hrow : (tabN st g g.length).getD a [] = (List.range g.length).map (subB st g a) := by
    unfold tabN
    rw [List.getD_eq_getElem?_getD, List.getElem?_map, List.getElem?_range ha]
    rfl
  obtain ⟨A2, c2, rfl, hl, hC⟩ := hK
  rw [Int.toNat_natCast] at hl hC hc
  rw [hrow] at hl hC hc
  have hlen : ((List.range g.length).map (subB st g a)).length = g.length := by simp
  rw [hlen] at hl hC hc
  have h0 := hc 0 _ rfl
  obtain ⟨ad2, e2, _⟩ := Kd.at_bool hC (0 : Int) (by omega) (by omega)
  subst e2
  rw [show a * (Kd.slice 4 Kd.bool).sz + 0 = a by show a * 1 + 0 = a; omega] at h0
  refine ⟨ad2, c2, h0, fun b hb => ?_⟩
  obtain ⟨ad3, e3, hx⟩ := Kd.at_bool hC (b : Int) (by omega) (by omega)
  cases e3
  rw [Int.toNat_natCast] at hx
  rw [hx]
  congr 2
  show ((List.range g.length).map (subB st g a)).getD b false = _
  rw [List.getD_eq_getElem?_getD, List.getElem?_map, List.getElem?_range hb]
  rfl
theorem subB_true {st : Bool} {g : List GN} {a b : Nat} (h : Sub st g a b) : subB st g a b = true := (subB_iff st g a b).2 h
theorem made_small {dyn : Bool} {g : List GN} (hn : g.length ≤ 14) (h : GraphP dyn g.length (plainN g.length) g) : ∀ x ∈ g, x.f0 = 8 → x.f4.length ≤ 12 := by
  intro x hx h8
  obtain ⟨i, hi, e⟩ := List.getElem_of_mem hx
  rcases h i x (by rw [List.getElem?_eq_getElem hi, e]) with ⟨k, h1, h2, h3, rfl⟩ | ⟨s, _, rfl⟩ | ⟨m, y, _, _, y0, y1, rfl⟩ | ⟨l, hl, hin, rfl⟩ | ⟨_, u, _, hnd, hin, rfl⟩
  · dsimp only at h8; omega
  · dsimp only at h8; omega
  · dsimp only at h8; omega
  · dsimp only [recG] at h8; omega
  · have := nodup_len u ((List.range (plainN g.length)).map fun (v : Nat) => (v : Int)) hnd (fun y hy => by
      have := hin y hy
      exact List.mem_map.2 ⟨y.toNat, List.mem_range.2 (by omega), by omega⟩)
    rw [List.length_map, List.length_range] at this
    have h3 : plainN g.length ≤ 10 := by unfold plainN; omega
    show u.length ≤ 12
    omega
/-- What the laws say of two places. -/
structure Law2 (g : List GN) (dyn : Bool) (a b : Nat) : Prop where
  mono : subB true g a b = true → subB false g a b = true
  same : dyn = false → subB false g a b = subB true g a b
  dynl : (nd g (a : Int)).f0 = 1 → subB false g a b = true
  dynr : (nd g (b : Int)).f0 = 1 → subB false g a b = true
  one : OneP g (a : Int) (b : Int) → subB true g a b = true ∧ subB true g b a = true
theorem law2 {dyn : Bool} {g : List GN} (hn : g.length ≤ 14) (hc : checkP g = 0) (h : GraphP dyn g.length (plainN g.length) g) {a b : Nat} (ha : a < g.length) (hb : b < g.length) : Law2 g dyn a b where
  mono := fun e => subB_true (strict_may ((subB_iff _ _ _ _).1 e))
  same := fun e => by
    subst e
    rw [Bool.eq_iff_iff, subB_iff, subB_iff]
    exact ⟨may_strict hc (no_dyn h), strict_may⟩
  dynl := fun e => subB_true (dyn_may h ha hb (.inl e))
  dynr := fun e => subB_true (dyn_may h ha hb (.inr e))
  one := fun e => ⟨subB_true (one_strict hc h ha hb e), subB_true (one_strict hc h hb ha (OneP.symm e))⟩
theorem kind_at {w : World} {A0 : Option Addr} {g : List GN} (h : Kd.C P.k33 w A0 g.length g) {a : Nat} (ha : a < g.length) : ∃ ad, A0 = some ad ∧ w.cell? (ad.add (a * 5)) = some (.int .i64 (nd g (a : Int)).f0) := by
  obtain ⟨ad, Ak, ck, Al, cl, eA, q0, _⟩ := node_at h ha
  exact ⟨ad, eA, q0⟩
set_option maxHeartbeats 8000000 in
set_option maxRecDepth 100000 in
theorem dyn_walk (A : Option Addr) (c : Nat) (l : List RW) (dyn : Bool) (w : World) (hK : Keys w) (hr : Kd.C kRW w A l.length l) (hc : l.length ≤ c) :
    Calls Tryd.prog 3 #[.slice A l.length c, .bool dyn] w fun e w' => e = .returned (.bool true) ∧ Below w.heap.size w w' := by
  have HK := Aside0.mk hK
  have HR := Aside0.mk hr
  have HC := Aside0.mk hc
  clear hK hr hc
  go_enter Tryd.func3, Tryd.ntmps3
  go_wp2_with (fail)
  refine (made_yes A c l dyn w HR.out HC.out).mono ?_
  rintro e W2 ⟨v, g, rfl, ho, hb, hlen, hgp⟩
  have HB2 := Aside0.mk hb
  obtain ⟨A2, c2, rfl, hc2, hC2⟩ := Kd.R_reads ho
  have HC2 := Aside0.mk hC2
  have hn : g.length ≤ 14 := by omega
  have HP := Aside0.mk hgp
  have hc0 : checkP g = 0 := graph_check (plain_le _) (by omega) hgp
  have HC0 := Aside0.mk hc0
  have H12 := Aside0.mk (made_small hn hgp)
  have HL2 := Aside0.mk (fun a b (ha : a < g.length) (hb : b < g.length) => law2 hn hc0 hgp ha hb)
  clear ho hb hC2 hgp hlen
  go_wp2_with (fail)
  refine (all_yes A2 c2 g false W2 (HK.out.below HB2.out) HC2.out hc2).mono ?_
  rintro e W3 ⟨⟨_, A3, c3, rfl, ht, hc3⟩ | ⟨hne, _⟩, hb⟩
  rotate_left
  · exact absurd HC0.out hne
  have HT3 := Aside0.mk ht
  have HB3 := Aside0.mk (HB2.out.trans (hb.mono HB2.out.size))
  have HC3 := Aside0.mk (Kd.C_below HC2.out hb)
  clear ht hb
  go_wp2_with (fail)
  refine (all_yes A2 c2 g true W3 (HK.out.below HB3.out) HC3.out hc2).mono ?_
  rintro e W4 ⟨⟨_, A4, c4, rfl, ht, hc4⟩ | ⟨hne, _⟩, hb⟩
  rotate_left
  · exact absurd HC0.out hne
  have HT4 := Aside0.mk ht
  have HB4 := Aside0.mk (HB3.out.trans (hb.mono HB3.out.size))
  have HC4 := Aside0.mk (Kd.C_below HC3.out hb)
  have HT34 := Aside0.mk (Kd.C_below HT3.out hb)
  clear ht hb hc0 HT3 HC3 HC2
  go_wp2_with (fail)
  go_loopw [10] (fun v10 wr => ∃ a : Nat, a ≤ g.length ∧ v10 = .int .i64 a ∧ Aside0 (Below W4.heap.size W4 wr)) (fun v10 _ => g.length + 1 - (intOf v10).toNat)
  case atStart => exact ⟨0, by omega, rfl, ⟨Below.refl _ _⟩⟩
  case round =>
    obtain ⟨a, ha, rfl, HBa⟩ := hrel
    rename World => X
    have hwa : wrap64 ((a : Int) + 1) = ((a + 1 : Nat) : Int) := by unfold wrap64; omega
    by_cases hlt : a < g.length
    · go_wp2_with (fail)
      go_loopw [11] (fun v11 wr => ∃ b : Nat, b ≤ g.length ∧ v11 = .int .i64 b ∧ Aside0 (Below W4.heap.size W4 wr)) (fun v11 _ => g.length + 1 - (intOf v11).toNat)
      case atStart => exact ⟨0, by omega, rfl, HBa⟩
      case round =>
        clear HBa
        obtain ⟨b, hb, rfl, HBb⟩ := hrel
        rename World => Y
        have hwb : wrap64 ((b : Int) + 1) = ((b + 1 : Nat) : Int) := by unfold wrap64; omega
        by_cases hltb : b < g.length
        · have HLw := Aside0.mk (HL2.out a b hlt hltb)
          obtain ⟨ad3, e3, ht3⟩ := tab_at (Kd.C_below HT34.out HBb.out) (by omega)
          obtain ⟨ad4, e4, ht4⟩ := tab_at (Kd.C_below HT4.out HBb.out) (by omega)
          obtain ⟨adg, eg, hka⟩ := kind_at (Kd.C_below HC4.out HBb.out) hlt
          obtain ⟨adg', eg', hkb⟩ := kind_at (Kd.C_below HC4.out HBb.out) hltb
          subst e3 e4 eg
          cases eg'
          obtain ⟨ma, mc, hma, hmr⟩ := ht3 a hlt
          obtain ⟨sa, sc, hsa, hsr⟩ := ht4 a hlt
          obtain ⟨sb, sd, hsb, hsr2⟩ := ht4 b hltb
          have hmab := hmr b hltb
          have hsab := hsr b hltb
          have hsba := hsr2 a hlt
          clear ht3 ht4 hmr hsr hsr2
          have e1 : ((a : Int) < (g.length : Int)) = True := eq_true (by omega)
          have e2 : ((b : Int) < (g.length : Int)) = True := eq_true (by omega)
          have hcs : (subB true g a b = true ∧ subB false g a b = true ∧ (!dyn) = false) ∨ (subB true g a b = true ∧ subB false g a b = true ∧ (!dyn) = true) ∨ (subB true g a b = false ∧ subB false g a b = true ∧ (!dyn) = false) ∨ (subB true g a b = false ∧ subB false g a b = false ∧ (!dyn) = false) ∨ (subB true g a b = false ∧ subB false g a b = false ∧ (!dyn) = true) := by
            have h1 := HLw.out.mono
            have h2 := HLw.out.same
            revert h1 h2
            cases subB true g a b <;> cases subB false g a b <;> cases dyn <;> simp
          rcases hcs with ⟨c1, c2, c3⟩ | ⟨c1, c2, c3⟩ | ⟨c1, c2, c3⟩ | ⟨c1, c2, c3⟩ | ⟨c1, c2, c3⟩
          · rw [c1] at hsab
            rw [c2] at hmab
            have HC1 := Aside0.mk c1
            have HC2 := Aside0.mk c2
            clear c1 c2
            go_wp2_with (fail)
            go_quiet (fail)
            by_cases hk : (nd g (a : Int)).f0 = 1
            · have k1 : ((nd g (a : Int)).f0 == 1) = true := by rw [hk]; rfl
              clear hk
              go_wp2_with (fail)
              refine (one_calls (some adg) c2 g (a : Int) (b : Int) (Y.drewN nq) (HK.out.below (pw_below_drewN (HB4.out.trans (HBb.out.mono HB4.out.size)) nq)) (Kd.C_drewN (Kd.C_below HC4.out HBb.out) nq) hc2 HC0.out H12.out (Int.natCast_nonneg _) (Int.ofNat_lt.2 hlt) (Int.natCast_nonneg _) (Int.ofNat_lt.2 hltb) (fun W hW => rank_calls (some adg) c2 g W hW hc2 HC0.out H12.out (Nat.le_trans hn (by decide)))).mono ?_
              rintro e W5 ⟨o, rfl, hoo, hb5⟩
              have hB5 : Below Y.heap.size Y W5 := ⟨hb5.os, hb5.tape, hb5.output, hb5.size, hb5.block⟩
              have HB5 := Aside0.mk (below_then HBb.out HBb.out.size hB5)
              cases o with
              | false =>
                clear hoo hb5 hB5
                go_wp2_with (fail)
                go_roundw
                case rel => exact ⟨b + 1, by omega, by first | (rw [hwb]; done) | (rw [Int.natCast_add]; rfl), HB5⟩
                case measure => first | (rw [hwb]; simp only [intOf]; omega) | (simp only [intOf]; omega)
              | true =>
                obtain ⟨o1, o2⟩ := HLw.out.one (hoo.1 rfl)
                rw [o2] at hsba
                have q0 := pw_cell_below hB5 hsa
                have q1 := pw_cell_below hB5 hsab
                have q2 := pw_cell_below hB5 hsb
                have q3 := pw_cell_below hB5 hsba
                clear hoo hb5 hB5 o1 o2 hsa hsab hsb hsba
                go_wp2_with (fail)
                go_roundw
                case rel => exact ⟨b + 1, by omega, by first | (rw [hwb]; done) | (rw [Int.natCast_add]; rfl), HB5⟩
                case measure => first | (rw [hwb]; simp only [intOf]; omega) | (simp only [intOf]; omega)
            · have k1 : ((nd g (a : Int)).f0 == 1) = false := beq_eq_false_iff_ne.2 hk
              clear hk
              by_cases hk : (nd g (b : Int)).f0 = 1
              · have k2 : ((nd g (b : Int)).f0 == 1) = true := by rw [hk]; rfl
                clear hk
                go_wp2_with (fail)
                refine (one_calls (some adg) c2 g (a : Int) (b : Int) (Y.drewN nq) (HK.out.below (pw_below_drewN (HB4.out.trans (HBb.out.mono HB4.out.size)) nq)) (Kd.C_drewN (Kd.C_below HC4.out HBb.out) nq) hc2 HC0.out H12.out (Int.natCast_nonneg _) (Int.ofNat_lt.2 hlt) (Int.natCast_nonneg _) (Int.ofNat_lt.2 hltb) (fun W hW => rank_calls (some adg) c2 g W hW hc2 HC0.out H12.out (Nat.le_trans hn (by decide)))).mono ?_
                rintro e W5 ⟨o, rfl, hoo, hb5⟩
                have hB5 : Below Y.heap.size Y W5 := ⟨hb5.os, hb5.tape, hb5.output, hb5.size, hb5.block⟩
                have HB5 := Aside0.mk (below_then HBb.out HBb.out.size hB5)
                cases o with
                | false =>
                  clear hoo hb5 hB5
                  go_wp2_with (fail)
                  go_roundw
                  case rel => exact ⟨b + 1, by omega, by first | (rw [hwb]; done) | (rw [Int.natCast_add]; rfl), HB5⟩
                  case measure => first | (rw [hwb]; simp only [intOf]; omega) | (simp only [intOf]; omega)
                | true =>
                  obtain ⟨o1, o2⟩ := HLw.out.one (hoo.1 rfl)
                  rw [o2] at hsba
                  have q0 := pw_cell_below hB5 hsa
                  have q1 := pw_cell_below hB5 hsab
                  have q2 := pw_cell_below hB5 hsb
                  have q3 := pw_cell_below hB5 hsba
                  clear hoo hb5 hB5 o1 o2 hsa hsab hsb hsba
                  go_wp2_with (fail)
                  go_roundw
                  case rel => exact ⟨b + 1, by omega, by first | (rw [hwb]; done) | (rw [Int.natCast_add]; rfl), HB5⟩
                  case measure => first | (rw [hwb]; simp only [intOf]; omega) | (simp only [intOf]; omega)
              · have k2 : ((nd g (b : Int)).f0 == 1) = false := beq_eq_false_iff_ne.2 hk
                clear hk
                go_wp2_with (fail)
                refine (one_calls (some adg) c2 g (a : Int) (b : Int) (Y.drewN nq) (HK.out.below (pw_below_drewN (HB4.out.trans (HBb.out.mono HB4.out.size)) nq)) (Kd.C_drewN (Kd.C_below HC4.out HBb.out) nq) hc2 HC0.out H12.out (Int.natCast_nonneg _) (Int.ofNat_lt.2 hlt) (Int.natCast_nonneg _) (Int.ofNat_lt.2 hltb) (fun W hW => rank_calls (some adg) c2 g W hW hc2 HC0.out H12.out (Nat.le_trans hn (by decide)))).mono ?_
                rintro e W5 ⟨o, rfl, hoo, hb5⟩
                have hB5 : Below Y.heap.size Y W5 := ⟨hb5.os, hb5.tape, hb5.output, hb5.size, hb5.block⟩
                have HB5 := Aside0.mk (below_then HBb.out HBb.out.size hB5)
                cases o with
                | false =>
                  clear hoo hb5 hB5
                  go_wp2_with (fail)
                  go_roundw
                  case rel => exact ⟨b + 1, by omega, by first | (rw [hwb]; done) | (rw [Int.natCast_add]; rfl), HB5⟩
                  case measure => first | (rw [hwb]; simp only [intOf]; omega) | (simp only [intOf]; omega)
                | true =>
                  obtain ⟨o1, o2⟩ := HLw.out.one (hoo.1 rfl)
                  rw [o2] at hsba
                  have q0 := pw_cell_below hB5 hsa
                  have q1 := pw_cell_below hB5 hsab
                  have q2 := pw_cell_below hB5 hsb
                  have q3 := pw_cell_below hB5 hsba
                  clear hoo hb5 hB5 o1 o2 hsa hsab hsb hsba
                  go_wp2_with (fail)
                  go_roundw
                  case rel => exact ⟨b + 1, by omega, by first | (rw [hwb]; done) | (rw [Int.natCast_add]; rfl), HB5⟩
                  case measure => first | (rw [hwb]; simp only [intOf]; omega) | (simp only [intOf]; omega)
          · rw [c1] at hsab
            rw [c2] at hmab
            have HC1 := Aside0.mk c1
            have HC2 := Aside0.mk c2
            clear c1 c2
            go_wp2_with (fail)
            go_quiet (fail)
            by_cases hk : (nd g (a : Int)).f0 = 1
            · have k1 : ((nd g (a : Int)).f0 == 1) = true := by rw [hk]; rfl
              clear hk
              go_wp2_with (fail)
              refine (one_calls (some adg) c2 g (a : Int) (b : Int) (Y.drewN nq) (HK.out.below (pw_below_drewN (HB4.out.trans (HBb.out.mono HB4.out.size)) nq)) (Kd.C_drewN (Kd.C_below HC4.out HBb.out) nq) hc2 HC0.out H12.out (Int.natCast_nonneg _) (Int.ofNat_lt.2 hlt) (Int.natCast_nonneg _) (Int.ofNat_lt.2 hltb) (fun W hW => rank_calls (some adg) c2 g W hW hc2 HC0.out H12.out (Nat.le_trans hn (by decide)))).mono ?_
              rintro e W5 ⟨o, rfl, hoo, hb5⟩
              have hB5 : Below Y.heap.size Y W5 := ⟨hb5.os, hb5.tape, hb5.output, hb5.size, hb5.block⟩
              have HB5 := Aside0.mk (below_then HBb.out HBb.out.size hB5)
              cases o with
              | false =>
                clear hoo hb5 hB5
                go_wp2_with (fail)
                go_roundw
                case rel => exact ⟨b + 1, by omega, by first | (rw [hwb]; done) | (rw [Int.natCast_add]; rfl), HB5⟩
                case measure => first | (rw [hwb]; simp only [intOf]; omega) | (simp only [intOf]; omega)
              | true =>
                obtain ⟨o1, o2⟩ := HLw.out.one (hoo.1 rfl)
                rw [o2] at hsba
                have q0 := pw_cell_below hB5 hsa
                have q1 := pw_cell_below hB5 hsab
                have q2 := pw_cell_below hB5 hsb
                have q3 := pw_cell_below hB5 hsba
                clear hoo hb5 hB5 o1 o2 hsa hsab hsb hsba
                go_wp2_with (fail)
                go_roundw
                case rel => exact ⟨b + 1, by omega, by first | (rw [hwb]; done) | (rw [Int.natCast_add]; rfl), HB5⟩
                case measure => first | (rw [hwb]; simp only [intOf]; omega) | (simp only [intOf]; omega)
            · have k1 : ((nd g (a : Int)).f0 == 1) = false := beq_eq_false_iff_ne.2 hk
              clear hk
              by_cases hk : (nd g (b : Int)).f0 = 1
              · have k2 : ((nd g (b : Int)).f0 == 1) = true := by rw [hk]; rfl
                clear hk
                go_wp2_with (fail)
                refine (one_calls (some adg) c2 g (a : Int) (b : Int) (Y.drewN nq) (HK.out.below (pw_below_drewN (HB4.out.trans (HBb.out.mono HB4.out.size)) nq)) (Kd.C_drewN (Kd.C_below HC4.out HBb.out) nq) hc2 HC0.out H12.out (Int.natCast_nonneg _) (Int.ofNat_lt.2 hlt) (Int.natCast_nonneg _) (Int.ofNat_lt.2 hltb) (fun W hW => rank_calls (some adg) c2 g W hW hc2 HC0.out H12.out (Nat.le_trans hn (by decide)))).mono ?_
                rintro e W5 ⟨o, rfl, hoo, hb5⟩
                have hB5 : Below Y.heap.size Y W5 := ⟨hb5.os, hb5.tape, hb5.output, hb5.size, hb5.block⟩
                have HB5 := Aside0.mk (below_then HBb.out HBb.out.size hB5)
                cases o with
                | false =>
                  clear hoo hb5 hB5
                  go_wp2_with (fail)
                  go_roundw
                  case rel => exact ⟨b + 1, by omega, by first | (rw [hwb]; done) | (rw [Int.natCast_add]; rfl), HB5⟩
                  case measure => first | (rw [hwb]; simp only [intOf]; omega) | (simp only [intOf]; omega)
                | true =>
                  obtain ⟨o1, o2⟩ := HLw.out.one (hoo.1 rfl)
                  rw [o2] at hsba
                  have q0 := pw_cell_below hB5 hsa
                  have q1 := pw_cell_below hB5 hsab
                  have q2 := pw_cell_below hB5 hsb
                  have q3 := pw_cell_below hB5 hsba
                  clear hoo hb5 hB5 o1 o2 hsa hsab hsb hsba
                  go_wp2_with (fail)
                  go_roundw
                  case rel => exact ⟨b + 1, by omega, by first | (rw [hwb]; done) | (rw [Int.natCast_add]; rfl), HB5⟩
                  case measure => first | (rw [hwb]; simp only [intOf]; omega) | (simp only [intOf]; omega)
              · have k2 : ((nd g (b : Int)).f0 == 1) = false := beq_eq_false_iff_ne.2 hk
                clear hk
                go_wp2_with (fail)
                refine (one_calls (some adg) c2 g (a : Int) (b : Int) (Y.drewN nq) (HK.out.below (pw_below_drewN (HB4.out.trans (HBb.out.mono HB4.out.size)) nq)) (Kd.C_drewN (Kd.C_below HC4.out HBb.out) nq) hc2 HC0.out H12.out (Int.natCast_nonneg _) (Int.ofNat_lt.2 hlt) (Int.natCast_nonneg _) (Int.ofNat_lt.2 hltb) (fun W hW => rank_calls (some adg) c2 g W hW hc2 HC0.out H12.out (Nat.le_trans hn (by decide)))).mono ?_
                rintro e W5 ⟨o, rfl, hoo, hb5⟩
                have hB5 : Below Y.heap.size Y W5 := ⟨hb5.os, hb5.tape, hb5.output, hb5.size, hb5.block⟩
                have HB5 := Aside0.mk (below_then HBb.out HBb.out.size hB5)
                cases o with
                | false =>
                  clear hoo hb5 hB5
                  go_wp2_with (fail)
                  go_roundw
                  case rel => exact ⟨b + 1, by omega, by first | (rw [hwb]; done) | (rw [Int.natCast_add]; rfl), HB5⟩
                  case measure => first | (rw [hwb]; simp only [intOf]; omega) | (simp only [intOf]; omega)
                | true =>
                  obtain ⟨o1, o2⟩ := HLw.out.one (hoo.1 rfl)
                  rw [o2] at hsba
                  have q0 := pw_cell_below hB5 hsa
                  have q1 := pw_cell_below hB5 hsab
                  have q2 := pw_cell_below hB5 hsb
                  have q3 := pw_cell_below hB5 hsba
                  clear hoo hb5 hB5 o1 o2 hsa hsab hsb hsba
                  go_wp2_with (fail)
                  go_roundw
                  case rel => exact ⟨b + 1, by omega, by first | (rw [hwb]; done) | (rw [Int.natCast_add]; rfl), HB5⟩
                  case measure => first | (rw [hwb]; simp only [intOf]; omega) | (simp only [intOf]; omega)
          · rw [c1] at hsab
            rw [c2] at hmab
            have HC1 := Aside0.mk c1
            have HC2 := Aside0.mk c2
            clear c1 c2
            go_wp2_with (fail)
            go_quiet (fail)
            by_cases hk : (nd g (a : Int)).f0 = 1
            · have k1 : ((nd g (a : Int)).f0 == 1) = true := by rw [hk]; rfl
              clear hk
              go_wp2_with (fail)
              refine (one_calls (some adg) c2 g (a : Int) (b : Int) (Y.drewN nq) (HK.out.below (pw_below_drewN (HB4.out.trans (HBb.out.mono HB4.out.size)) nq)) (Kd.C_drewN (Kd.C_below HC4.out HBb.out) nq) hc2 HC0.out H12.out (Int.natCast_nonneg _) (Int.ofNat_lt.2 hlt) (Int.natCast_nonneg _) (Int.ofNat_lt.2 hltb) (fun W hW => rank_calls (some adg) c2 g W hW hc2 HC0.out H12.out (Nat.le_trans hn (by decide)))).mono ?_
              rintro e W5 ⟨o, rfl, hoo, hb5⟩
              have hB5 : Below Y.heap.size Y W5 := ⟨hb5.os, hb5.tape, hb5.output, hb5.size, hb5.block⟩
              have HB5 := Aside0.mk (below_then HBb.out HBb.out.size hB5)
              cases o with
              | false =>
                clear hoo hb5 hB5
                go_wp2_with (fail)
                go_roundw
                case rel => exact ⟨b + 1, by omega, by first | (rw [hwb]; done) | (rw [Int.natCast_add]; rfl), HB5⟩
                case measure => first | (rw [hwb]; simp only [intOf]; omega) | (simp only [intOf]; omega)
              | true =>
                obtain ⟨o1, o2⟩ := HLw.out.one (hoo.1 rfl)
                rw [HC1.out] at o1
                cases o1
            · have k1 : ((nd g (a : Int)).f0 == 1) = false := beq_eq_false_iff_ne.2 hk
              clear hk
              by_cases hk : (nd g (b : Int)).f0 = 1
              · have k2 : ((nd g (b : Int)).f0 == 1) = true := by rw [hk]; rfl
                clear hk
                go_wp2_with (fail)
                refine (one_calls (some adg) c2 g (a : Int) (b : Int) (Y.drewN nq) (HK.out.below (pw_below_drewN (HB4.out.trans (HBb.out.mono HB4.out.size)) nq)) (Kd.C_drewN (Kd.C_below HC4.out HBb.out) nq) hc2 HC0.out H12.out (Int.natCast_nonneg _) (Int.ofNat_lt.2 hlt) (Int.natCast_nonneg _) (Int.ofNat_lt.2 hltb) (fun W hW => rank_calls (some adg) c2 g W hW hc2 HC0.out H12.out (Nat.le_trans hn (by decide)))).mono ?_
                rintro e W5 ⟨o, rfl, hoo, hb5⟩
                have hB5 : Below Y.heap.size Y W5 := ⟨hb5.os, hb5.tape, hb5.output, hb5.size, hb5.block⟩
                have HB5 := Aside0.mk (below_then HBb.out HBb.out.size hB5)
                cases o with
                | false =>
                  clear hoo hb5 hB5
                  go_wp2_with (fail)
                  go_roundw
                  case rel => exact ⟨b + 1, by omega, by first | (rw [hwb]; done) | (rw [Int.natCast_add]; rfl), HB5⟩
                  case measure => first | (rw [hwb]; simp only [intOf]; omega) | (simp only [intOf]; omega)
                | true =>
                  obtain ⟨o1, o2⟩ := HLw.out.one (hoo.1 rfl)
                  rw [HC1.out] at o1
                  cases o1
              · have k2 : ((nd g (b : Int)).f0 == 1) = false := beq_eq_false_iff_ne.2 hk
                clear hk
                go_wp2_with (fail)
                refine (one_calls (some adg) c2 g (a : Int) (b : Int) (Y.drewN nq) (HK.out.below (pw_below_drewN (HB4.out.trans (HBb.out.mono HB4.out.size)) nq)) (Kd.C_drewN (Kd.C_below HC4.out HBb.out) nq) hc2 HC0.out H12.out (Int.natCast_nonneg _) (Int.ofNat_lt.2 hlt) (Int.natCast_nonneg _) (Int.ofNat_lt.2 hltb) (fun W hW => rank_calls (some adg) c2 g W hW hc2 HC0.out H12.out (Nat.le_trans hn (by decide)))).mono ?_
                rintro e W5 ⟨o, rfl, hoo, hb5⟩
                have hB5 : Below Y.heap.size Y W5 := ⟨hb5.os, hb5.tape, hb5.output, hb5.size, hb5.block⟩
                have HB5 := Aside0.mk (below_then HBb.out HBb.out.size hB5)
                cases o with
                | false =>
                  clear hoo hb5 hB5
                  go_wp2_with (fail)
                  go_roundw
                  case rel => exact ⟨b + 1, by omega, by first | (rw [hwb]; done) | (rw [Int.natCast_add]; rfl), HB5⟩
                  case measure => first | (rw [hwb]; simp only [intOf]; omega) | (simp only [intOf]; omega)
                | true =>
                  obtain ⟨o1, o2⟩ := HLw.out.one (hoo.1 rfl)
                  rw [HC1.out] at o1
                  cases o1
          · rw [c1] at hsab
            rw [c2] at hmab
            have HC1 := Aside0.mk c1
            have HC2 := Aside0.mk c2
            clear c1 c2
            go_wp2_with (fail)
            go_quiet (fail)
            by_cases hk : (nd g (a : Int)).f0 = 1
            · have := HLw.out.dynl hk
              rw [HC2.out] at this
              cases this
            · have k1 : ((nd g (a : Int)).f0 == 1) = false := beq_eq_false_iff_ne.2 hk
              clear hk
              by_cases hk : (nd g (b : Int)).f0 = 1
              · have := HLw.out.dynr hk
                rw [HC2.out] at this
                cases this
              · have k2 : ((nd g (b : Int)).f0 == 1) = false := beq_eq_false_iff_ne.2 hk
                clear hk
                go_wp2_with (fail)
                refine (one_calls (some adg) c2 g (a : Int) (b : Int) (Y.drewN nq) (HK.out.below (pw_below_drewN (HB4.out.trans (HBb.out.mono HB4.out.size)) nq)) (Kd.C_drewN (Kd.C_below HC4.out HBb.out) nq) hc2 HC0.out H12.out (Int.natCast_nonneg _) (Int.ofNat_lt.2 hlt) (Int.natCast_nonneg _) (Int.ofNat_lt.2 hltb) (fun W hW => rank_calls (some adg) c2 g W hW hc2 HC0.out H12.out (Nat.le_trans hn (by decide)))).mono ?_
                rintro e W5 ⟨o, rfl, hoo, hb5⟩
                have hB5 : Below Y.heap.size Y W5 := ⟨hb5.os, hb5.tape, hb5.output, hb5.size, hb5.block⟩
                have HB5 := Aside0.mk (below_then HBb.out HBb.out.size hB5)
                cases o with
                | false =>
                  clear hoo hb5 hB5
                  go_wp2_with (fail)
                  go_roundw
                  case rel => exact ⟨b + 1, by omega, by first | (rw [hwb]; done) | (rw [Int.natCast_add]; rfl), HB5⟩
                  case measure => first | (rw [hwb]; simp only [intOf]; omega) | (simp only [intOf]; omega)
                | true =>
                  obtain ⟨o1, o2⟩ := HLw.out.one (hoo.1 rfl)
                  rw [HC1.out] at o1
                  cases o1
          · rw [c1] at hsab
            rw [c2] at hmab
            have HC1 := Aside0.mk c1
            have HC2 := Aside0.mk c2
            clear c1 c2
            go_wp2_with (fail)
            go_quiet (fail)
            by_cases hk : (nd g (a : Int)).f0 = 1
            · have := HLw.out.dynl hk
              rw [HC2.out] at this
              cases this
            · have k1 : ((nd g (a : Int)).f0 == 1) = false := beq_eq_false_iff_ne.2 hk
              clear hk
              by_cases hk : (nd g (b : Int)).f0 = 1
              · have := HLw.out.dynr hk
                rw [HC2.out] at this
                cases this
              · have k2 : ((nd g (b : Int)).f0 == 1) = false := beq_eq_false_iff_ne.2 hk
                clear hk
                go_wp2_with (fail)
                refine (one_calls (some adg) c2 g (a : Int) (b : Int) (Y.drewN nq) (HK.out.below (pw_below_drewN (HB4.out.trans (HBb.out.mono HB4.out.size)) nq)) (Kd.C_drewN (Kd.C_below HC4.out HBb.out) nq) hc2 HC0.out H12.out (Int.natCast_nonneg _) (Int.ofNat_lt.2 hlt) (Int.natCast_nonneg _) (Int.ofNat_lt.2 hltb) (fun W hW => rank_calls (some adg) c2 g W hW hc2 HC0.out H12.out (Nat.le_trans hn (by decide)))).mono ?_
                rintro e W5 ⟨o, rfl, hoo, hb5⟩
                have hB5 : Below Y.heap.size Y W5 := ⟨hb5.os, hb5.tape, hb5.output, hb5.size, hb5.block⟩
                have HB5 := Aside0.mk (below_then HBb.out HBb.out.size hB5)
                cases o with
                | false =>
                  clear hoo hb5 hB5
                  go_wp2_with (fail)
                  go_roundw
                  case rel => exact ⟨b + 1, by omega, by first | (rw [hwb]; done) | (rw [Int.natCast_add]; rfl), HB5⟩
                  case measure => first | (rw [hwb]; simp only [intOf]; omega) | (simp only [intOf]; omega)
                | true =>
                  obtain ⟨o1, o2⟩ := HLw.out.one (hoo.1 rfl)
                  rw [HC1.out] at o1
                  cases o1
        · go_wp2_with (fail)
          go_roundw
          case rel => exact ⟨a + 1, by omega, by first | (rw [hwa]; done) | (rw [Int.natCast_add]; rfl), HBb⟩
          case measure => first | (rw [hwa]; simp only [intOf]; omega) | (simp only [intOf]; omega)
    · go_wp2_with (fail)
      refine (works_yes X (HK.out.below (HB4.out.trans (HBa.out.mono HB4.out.size)))).mono ?_
      rintro e W5 ⟨rfl, hb5⟩
      have HB5 := Aside0.mk (below_then (HB4.out.trans (HBa.out.mono HB4.out.size)) (HB4.out.trans (HBa.out.mono HB4.out.size)).size hb5)
      clear hb5
      go_wp2_with (fail)
      first | go_ret | go_ret2
      exact ⟨rfl, HB5.out⟩
end Go.Proofs.YtgppcpghpeenhaaDoor.TD
