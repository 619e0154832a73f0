/- The chapter's facts: finds, works. -/
import Derived.Test.YthkoockcfnbpiaaDoorProg
import Derived.Test.YthkoockcfnbpiaaDoorWWords
import Derived.Test.YthkoockcfnbpiaaDoorWLast
import Derived.Test.YthkoockcfnbpiaaDoorW17
import Derived.Test.YthkoockcfnbpiaaDoorW15
import Derived.Test.YthkoockcfnbpiaaDoorW13
namespace Go.Proofs.YthkoockcfnbpiaaDoor.W18
open Go.RowKit Go.Proofs.YthkoockcfnbpiaaDoorW.PrintWords Go.Proofs.YthkoockcfnbpiaaDoorW.PrintLast Go.Proofs.YthkoockcfnbpiaaDoorW.PrintMore Go.Proofs.YthkoockcfnbpiaaDoor L1 G1 G2 S3 S8 S10 F1 F2 F3 W1 W10 W13 W15 C0 C1 W16 W17
set_option linter.unusedVariables false
set_option linter.unusedSimpArgs false
def prC (p : Int × Int) : List Value := [.int .i64 p.1, .int .i64 p.2]
theorem prs_fst (ps : List (Int × Int)) : (ps.map fun p => (p, prC p)).map Prod.fst = ps := by
  induction ps with
  | nil => rfl
  | cons x xs ih => rw [List.map_cons, List.map_cons, ih]
theorem C_pairs {W : World} {q : Nat} {t : TypeId} (ps : List (Int × Int)) (h : W.heap[q]? = some (.cells ((ps.map fun p => (p, prC p)).flatMap Prod.snd).toArray t (0, 0))) (hn : ps.length ≤ 9223372036854775807) : Kd.C kP W (some ⟨q, 0, none⟩) ps.length ps := by
  have := C_lit kP (ps.map fun p => (p, prC p)) h (by simpa using hn) (fun r hr => by
    obtain ⟨x, _, rfl⟩ := List.mem_map.1 hr
    exact ⟨⟨[.int .i64 x.1], [.int .i64 x.2], rfl, rfl, rfl⟩, rfl⟩)
  rw [prs_fst, List.length_map] at this
  exact this
def fcV (r : FC × Nat) : FC × List Value := (r.1, [.int .i64 r.1.f0, .int .i64 r.1.f1, sl1 r.2 r.1.f2.length])
theorem fcs_fst (rs : List (FC × Nat)) : (rs.map fcV).map Prod.fst = rs.map Prod.fst := by
  induction rs with
  | nil => rfl
  | cons x xs ih => rw [List.map_cons, List.map_cons, ih]; rfl
theorem C_facts {W : World} {q : Nat} {t : TypeId} (rs : List (FC × Nat)) (h : W.heap[q]? = some (.cells ((rs.map fcV).flatMap Prod.snd).toArray t (0, 0))) (hn : rs.length ≤ 9223372036854775807) (hr : ∀ r ∈ rs, W.heap[r.2]? = some (.cells (nums .i64 r.1.f2).toArray 3 (0, 0)) ∧ r.1.f2.length ≤ 9223372036854775807) :
    Kd.C P.k37 W (some ⟨q, 0, none⟩) rs.length (rs.map Prod.fst) := by
  have := C_lit P.k37 (rs.map fcV) h (by simpa using hn) (fun r hr' => by
    obtain ⟨x, hx, rfl⟩ := List.mem_map.1 hr'
    obtain ⟨h1, h2⟩ := hr x hx
    exact ⟨P.k37_mk W x.1 (Nat.le_refl _) (C_ints x.1.f2 h1 h2), rfl⟩)
  rw [fcs_fst, List.length_map] at this
  exact this
theorem ok_may {p : Int × Int} (h : Pr smallG p) : mayB false smallG p.1 p.2 = true := by
  obtain ⟨a, b⟩ := p
  obtain ⟨a, rfl⟩ := Int.eq_ofNat_of_zero_le h.a0
  obtain ⟨b, rfl⟩ := Int.eq_ofNat_of_zero_le h.b0
  have h1 := h.a1
  have h2 := h.b1
  have h7 : smallG.length = 7 := rfl
  dsimp only at h1 h2
  rw [small_may a b (by omega) (by omega)]
  exact (small_table a b (by omega) (by omega)).2 h.sub
theorem pr_small (a b : Nat) (ha : a < 7) (hb : b < 7) (h : smallL.contains (a, b) = true) : Pr smallG ((a : Int), (b : Int)) := by
  have h7 : smallG.length = 7 := rfl
  exact ⟨by dsimp only; omega, by dsimp only; omega, by dsimp only; omega, by dsimp only; omega, (small_table a b (by omega) (by omega)).1 h⟩
set_option maxHeartbeats 4000000 in
set_option maxRecDepth 100000 in
theorem finds_call (A2 Aw Aa : Option Addr) (c2 cw ca : Nat) (ps : List (Int × Int)) (want : List FC) (ats : List Int) (w : World) (hK : Keys w) (hp : Kd.C kP w A2 ps.length ps) (hpc : ps.length ≤ c2) (hpl : ps.length ≤ 1000) (hw : Kd.C P.k37 w Aw want.length want) (ha : Kd.C (Kd.int .i64) w Aa ats.length ats) (hpr : ∀ p ∈ ps, Pr smallG p) (he : findsP (pickN smallG) smallG ps = (ats, want)) :
    Calls Tryd.prog 26 #[.slice A2 ps.length c2, .slice Aw want.length cw, .slice Aa ats.length ca] w fun e w' => e = .returned (.bool true) ∧ Below w.heap.size w w' := by
  have HK := Aside0.mk hK
  have HP := Aside0.mk hp
  have HPc := Aside0.mk hpc
  have HPl := Aside0.mk hpl
  have HW := Aside0.mk hw
  have HA := Aside0.mk ha
  have HPr := Aside0.mk hpr
  have HE := Aside0.mk he
  clear hK hp hpc hpl hw ha hpr he
  go_enter Tryd.func26, Tryd.ntmps26
  go_wp2_with (fail)
  refine (small_yes w).mono ?_
  rintro e W1 ⟨A, rfl, hg, hb⟩
  have HG := Aside0.mk hg
  have HB := Aside0.mk hb
  clear hg hb
  go_wp2_with (fail)
  refine (finds_yes A 7 smallG A2 c2 ps W1 (HK.out.below HB.out) HG.out (Nat.le_refl 7) (Nat.le_of_ble_eq_true rfl) (Kd.C_below HP.out HB.out) HPc.out HPl.out).mono ?_
  rintro e W2 ⟨(⟨h1, h2⟩ | ⟨_, ⟨p, hp, h1⟩, h2⟩ | ⟨_, _, ⟨p, hp, h1⟩, h2⟩ | ⟨_, _, vl, va, rfl, hl, ha⟩), hb⟩
  · exact absurd small_ok h1
  · have h3 := HPr.out p hp
    have h4 : inP smallG.length p.1 = true := inP_iff.2 ⟨h3.a0, h3.a1⟩
    have h5 : inP smallG.length p.2 = true := inP_iff.2 ⟨h3.b0, h3.b1⟩
    rw [h4, h5] at h1
    cases h1
  · rw [ok_may (HPr.out p hp)] at h1
    cases h1
  rw [HE.out] at hl ha
  obtain ⟨Al, cl, rfl, _, hl⟩ := Kd.R_reads hl
  obtain ⟨Ab, cb, rfl, _, ha⟩ := Kd.R_reads ha
  have HB2 := Aside0.mk (HB.out.trans (hb.mono HB.out.size))
  have HL := Aside0.mk hl
  have HA2 := Aside0.mk ha
  clear hb hl ha
  dsimp only
  go_wp2_with (fail)
  refine (same_yes Al Aw cl cw want W2 HL.out (Kd.C_below HW.out HB2.out)).mono ?_
  rintro e W3 ⟨rfl, hb⟩
  have HB3 := Aside0.mk (HB2.out.trans (hb.mono HB2.out.size))
  have HA3 := Aside0.mk (Kd.C_below HA2.out hb)
  clear hb
  go_wp2_with (fail)
  refine (eqints_yes Ab Aa cb ca ats W3 HA3.out (Kd.C_below HA.out HB3.out)).mono ?_
  rintro e W4 ⟨rfl, hb⟩
  have HB4 := Aside0.mk (HB3.out.trans (hb.mono HB3.out.size))
  clear hb
  go_wp2_with (fail)
  go_ret
  exact ⟨rfl, HB4.out⟩
theorem find_no {e : Ending} {w w' : World} (h : FindP smallG [(2, 0)] w e w') : e = .returned (.tuple #[.slice none 0 0, .slice none 0 0, .int .i64 160]) := by
  have hm : mayB false smallG 2 0 = false := small_may 2 0 (by decide) (by decide)
  rcases h with ⟨h1, h2⟩ | ⟨_, ⟨p, hp, h1⟩, h2⟩ | ⟨_, _, ⟨p, hp, h1⟩, h2⟩ | ⟨_, h1, _⟩
  · exact absurd small_ok h1
  · simp only [List.mem_cons, List.not_mem_nil, or_false] at hp
    subst hp
    exact absurd h1 (by decide)
  · exact h2
  · have := ok_may (h1 (2, 0) List.mem_cons_self)
    rw [hm] at this
    cases this
theorem find_out {e : Ending} {w w' : World} (h : FindP smallG [(7, 0)] w e w') : e = .returned (.tuple #[.slice none 0 0, .slice none 0 0, .int .i64 9]) := by
  rcases h with ⟨h1, h2⟩ | ⟨_, ⟨p, hp, h1⟩, h2⟩ | ⟨_, h1, _, _⟩ | ⟨_, h1, _⟩
  · exact absurd small_ok h1
  · exact h2
  · exact absurd (h1 (7, 0) List.mem_cons_self) (by decide)
  · exact absurd (h1 (7, 0) List.mem_cons_self).a1 (by decide)
set_option maxHeartbeats 8000000 in
set_option maxRecDepth 100000 in
theorem works_yes (w : World) (hK : Keys w) : Calls Tryd.prog 9 #[] w fun e w' => e = .returned (.bool true) ∧ Below w.heap.size w w' := by
  have HK := Aside0.mk hK
  have HC0 := Aside0.mk (Below.refl w.heap.size w)
  clear hK
  go_enter Tryd.func9, Tryd.ntmps9
  have HB1 := Aside0.mk (allocs_new w [.cells #[.int .i64 0, .int .i64 2] 28, .cells #[.int .i64 0] 3, .cells #[.int .i64 0, .int .i64 2, .slice (some ⟨w.heap.size + 1, 0, none⟩) 1 1] 37, .cells #[.int .i64 0] 3])
  have HP1 := Aside0.mk (C_pairs (W := allocs w [.cells #[.int .i64 0, .int .i64 2] 28, .cells #[.int .i64 0] 3, .cells #[.int .i64 0, .int .i64 2, .slice (some ⟨w.heap.size + 1, 0, none⟩) 1 1] 37, .cells #[.int .i64 0] 3]) (q := w.heap.size + 0) [(0, 2)] (allocs_get [.cells #[.int .i64 0, .int .i64 2] 28, .cells #[.int .i64 0] 3, .cells #[.int .i64 0, .int .i64 2, .slice (some ⟨w.heap.size + 1, 0, none⟩) 1 1] 37, .cells #[.int .i64 0] 3] w 0 _ _ rfl) (by decide))
  have HF1 := Aside0.mk (C_facts (W := allocs w [.cells #[.int .i64 0, .int .i64 2] 28, .cells #[.int .i64 0] 3, .cells #[.int .i64 0, .int .i64 2, .slice (some ⟨w.heap.size + 1, 0, none⟩) 1 1] 37, .cells #[.int .i64 0] 3]) (q := w.heap.size + 2) [(⟨0, 2, [0]⟩, w.heap.size + 1)] (allocs_get [.cells #[.int .i64 0, .int .i64 2] 28, .cells #[.int .i64 0] 3, .cells #[.int .i64 0, .int .i64 2, .slice (some ⟨w.heap.size + 1, 0, none⟩) 1 1] 37, .cells #[.int .i64 0] 3] w 2 _ _ rfl) (Nat.le_of_ble_eq_true rfl) (fun r hr => by
    simp only [List.mem_cons, List.not_mem_nil, or_false] at hr
    rcases hr with rfl
    · exact ⟨allocs_get [.cells #[.int .i64 0, .int .i64 2] 28, .cells #[.int .i64 0] 3, .cells #[.int .i64 0, .int .i64 2, .slice (some ⟨w.heap.size + 1, 0, none⟩) 1 1] 37, .cells #[.int .i64 0] 3] w 1 _ _ rfl, Nat.le_of_ble_eq_true rfl⟩))
  have HA1 := Aside0.mk (C_ints (W := allocs w [.cells #[.int .i64 0, .int .i64 2] 28, .cells #[.int .i64 0] 3, .cells #[.int .i64 0, .int .i64 2, .slice (some ⟨w.heap.size + 1, 0, none⟩) 1 1] 37, .cells #[.int .i64 0] 3]) (q := w.heap.size + 3) [0] (allocs_get [.cells #[.int .i64 0, .int .i64 2] 28, .cells #[.int .i64 0] 3, .cells #[.int .i64 0, .int .i64 2, .slice (some ⟨w.heap.size + 1, 0, none⟩) 1 1] 37, .cells #[.int .i64 0] 3] w 3 _ _ rfl) (by decide))
  go_wp2_with (fail)
  refine (finds_call (some ⟨w.heap.size + 0, 0, none⟩) (some ⟨w.heap.size + 2, 0, none⟩) (some ⟨w.heap.size + 3, 0, none⟩) 1 1 1 [(0, 2)] [⟨0, 2, [0]⟩] [0] (allocs w [.cells #[.int .i64 0, .int .i64 2] 28, .cells #[.int .i64 0] 3, .cells #[.int .i64 0, .int .i64 2, .slice (some ⟨w.heap.size + 1, 0, none⟩) 1 1] 37, .cells #[.int .i64 0] 3]) ((HK.out.below HC0.out).below HB1.out) HP1.out (Nat.le_refl _) (by decide) HF1.out HA1.out (fun p hp => ?_) small_f1).mono ?_
  · simp only [List.mem_cons, List.not_mem_nil, or_false] at hp
    rcases hp with rfl
    · exact pr_small 0 2 (by decide) (by decide) (by rfl)
  rintro e U1 ⟨rfl, hb⟩
  have HC1 := Aside0.mk (HC0.out.trans ((HB1.out.trans (hb.mono HB1.out.size)).mono HC0.out.size))
  clear hb HB1 HP1 HF1 HA1
  have HB2 := Aside0.mk (allocs_new U1 [.cells #[.int .i64 3, .int .i64 4] 28, .cells #[.int .i64 0, .int .i64 1] 3, .cells #[.int .i64 0] 3, .cells #[.int .i64 3, .int .i64 4, .slice (some ⟨U1.heap.size + 1, 0, none⟩) 2 2, .int .i64 0, .int .i64 2, .slice (some ⟨U1.heap.size + 1 + 1, 0, none⟩) 1 1] 37, .cells #[.int .i64 0] 3])
  have HP2 := Aside0.mk (C_pairs (W := allocs U1 [.cells #[.int .i64 3, .int .i64 4] 28, .cells #[.int .i64 0, .int .i64 1] 3, .cells #[.int .i64 0] 3, .cells #[.int .i64 3, .int .i64 4, .slice (some ⟨U1.heap.size + 1, 0, none⟩) 2 2, .int .i64 0, .int .i64 2, .slice (some ⟨U1.heap.size + 1 + 1, 0, none⟩) 1 1] 37, .cells #[.int .i64 0] 3]) (q := U1.heap.size + 0) [(3, 4)] (allocs_get [.cells #[.int .i64 3, .int .i64 4] 28, .cells #[.int .i64 0, .int .i64 1] 3, .cells #[.int .i64 0] 3, .cells #[.int .i64 3, .int .i64 4, .slice (some ⟨U1.heap.size + 1, 0, none⟩) 2 2, .int .i64 0, .int .i64 2, .slice (some ⟨U1.heap.size + 1 + 1, 0, none⟩) 1 1] 37, .cells #[.int .i64 0] 3] U1 0 _ _ rfl) (by decide))
  have HF2 := Aside0.mk (C_facts (W := allocs U1 [.cells #[.int .i64 3, .int .i64 4] 28, .cells #[.int .i64 0, .int .i64 1] 3, .cells #[.int .i64 0] 3, .cells #[.int .i64 3, .int .i64 4, .slice (some ⟨U1.heap.size + 1, 0, none⟩) 2 2, .int .i64 0, .int .i64 2, .slice (some ⟨U1.heap.size + 1 + 1, 0, none⟩) 1 1] 37, .cells #[.int .i64 0] 3]) (q := U1.heap.size + 3) [(⟨3, 4, [0, 1]⟩, U1.heap.size + 1), (⟨0, 2, [0]⟩, U1.heap.size + 2)] (allocs_get [.cells #[.int .i64 3, .int .i64 4] 28, .cells #[.int .i64 0, .int .i64 1] 3, .cells #[.int .i64 0] 3, .cells #[.int .i64 3, .int .i64 4, .slice (some ⟨U1.heap.size + 1, 0, none⟩) 2 2, .int .i64 0, .int .i64 2, .slice (some ⟨U1.heap.size + 1 + 1, 0, none⟩) 1 1] 37, .cells #[.int .i64 0] 3] U1 3 _ _ rfl) (Nat.le_of_ble_eq_true rfl) (fun r hr => by
    simp only [List.mem_cons, List.not_mem_nil, or_false] at hr
    rcases hr with rfl | rfl
    · exact ⟨allocs_get [.cells #[.int .i64 3, .int .i64 4] 28, .cells #[.int .i64 0, .int .i64 1] 3, .cells #[.int .i64 0] 3, .cells #[.int .i64 3, .int .i64 4, .slice (some ⟨U1.heap.size + 1, 0, none⟩) 2 2, .int .i64 0, .int .i64 2, .slice (some ⟨U1.heap.size + 1 + 1, 0, none⟩) 1 1] 37, .cells #[.int .i64 0] 3] U1 1 _ _ rfl, Nat.le_of_ble_eq_true rfl⟩
    · exact ⟨allocs_get [.cells #[.int .i64 3, .int .i64 4] 28, .cells #[.int .i64 0, .int .i64 1] 3, .cells #[.int .i64 0] 3, .cells #[.int .i64 3, .int .i64 4, .slice (some ⟨U1.heap.size + 1, 0, none⟩) 2 2, .int .i64 0, .int .i64 2, .slice (some ⟨U1.heap.size + 1 + 1, 0, none⟩) 1 1] 37, .cells #[.int .i64 0] 3] U1 2 _ _ rfl, Nat.le_of_ble_eq_true rfl⟩))
  have HA2 := Aside0.mk (C_ints (W := allocs U1 [.cells #[.int .i64 3, .int .i64 4] 28, .cells #[.int .i64 0, .int .i64 1] 3, .cells #[.int .i64 0] 3, .cells #[.int .i64 3, .int .i64 4, .slice (some ⟨U1.heap.size + 1, 0, none⟩) 2 2, .int .i64 0, .int .i64 2, .slice (some ⟨U1.heap.size + 1 + 1, 0, none⟩) 1 1] 37, .cells #[.int .i64 0] 3]) (q := U1.heap.size + 4) [0] (allocs_get [.cells #[.int .i64 3, .int .i64 4] 28, .cells #[.int .i64 0, .int .i64 1] 3, .cells #[.int .i64 0] 3, .cells #[.int .i64 3, .int .i64 4, .slice (some ⟨U1.heap.size + 1, 0, none⟩) 2 2, .int .i64 0, .int .i64 2, .slice (some ⟨U1.heap.size + 1 + 1, 0, none⟩) 1 1] 37, .cells #[.int .i64 0] 3] U1 4 _ _ rfl) (by decide))
  go_wp2_with (fail)
  refine (finds_call (some ⟨U1.heap.size + 0, 0, none⟩) (some ⟨U1.heap.size + 3, 0, none⟩) (some ⟨U1.heap.size + 4, 0, none⟩) 1 2 1 [(3, 4)] [⟨3, 4, [0, 1]⟩, ⟨0, 2, [0]⟩] [0] (allocs U1 [.cells #[.int .i64 3, .int .i64 4] 28, .cells #[.int .i64 0, .int .i64 1] 3, .cells #[.int .i64 0] 3, .cells #[.int .i64 3, .int .i64 4, .slice (some ⟨U1.heap.size + 1, 0, none⟩) 2 2, .int .i64 0, .int .i64 2, .slice (some ⟨U1.heap.size + 1 + 1, 0, none⟩) 1 1] 37, .cells #[.int .i64 0] 3]) ((HK.out.below HC1.out).below HB2.out) HP2.out (Nat.le_refl _) (by decide) HF2.out HA2.out (fun p hp => ?_) small_f2).mono ?_
  · simp only [List.mem_cons, List.not_mem_nil, or_false] at hp
    rcases hp with rfl
    · exact pr_small 3 4 (by decide) (by decide) (by rfl)
  rintro e U2 ⟨rfl, hb⟩
  have HC2 := Aside0.mk (HC1.out.trans ((HB2.out.trans (hb.mono HB2.out.size)).mono HC1.out.size))
  clear hb HB2 HP2 HF2 HA2
  have HB3 := Aside0.mk (allocs_new U2 [.cells #[.int .i64 6, .int .i64 4, .int .i64 2, .int .i64 5] 28, .cells #[.int .i64 (-1), .int .i64 1] 3, .cells #[.int .i64 0, .int .i64 2] 3, .cells #[.int .i64 0] 3, .cells #[.int .i64 4, .int .i64 5] 3, .cells #[.int .i64 0] 3, .cells #[.int .i64 0] 3, .cells #[.int .i64 6, .int .i64 4, .slice (some ⟨U2.heap.size + 1, 0, none⟩) 2 2, .int .i64 3, .int .i64 4, .slice (some ⟨U2.heap.size + 1 + 1, 0, none⟩) 2 2, .int .i64 0, .int .i64 2, .slice (some ⟨U2.heap.size + 1 + 1 + 1, 0, none⟩) 1 1, .int .i64 2, .int .i64 5, .slice (some ⟨U2.heap.size + 1 + 1 + 1 + 1, 0, none⟩) 2 2, .int .i64 0, .int .i64 5, .slice (some ⟨U2.heap.size + 1 + 1 + 1 + 1 + 1, 0, none⟩) 1 1, .int .i64 1, .int .i64 5, .slice (some ⟨U2.heap.size + 1 + 1 + 1 + 1 + 1 + 1, 0, none⟩) 1 1] 37, .cells #[.int .i64 0, .int .i64 3] 3])
  have HP3 := Aside0.mk (C_pairs (W := allocs U2 [.cells #[.int .i64 6, .int .i64 4, .int .i64 2, .int .i64 5] 28, .cells #[.int .i64 (-1), .int .i64 1] 3, .cells #[.int .i64 0, .int .i64 2] 3, .cells #[.int .i64 0] 3, .cells #[.int .i64 4, .int .i64 5] 3, .cells #[.int .i64 0] 3, .cells #[.int .i64 0] 3, .cells #[.int .i64 6, .int .i64 4, .slice (some ⟨U2.heap.size + 1, 0, none⟩) 2 2, .int .i64 3, .int .i64 4, .slice (some ⟨U2.heap.size + 1 + 1, 0, none⟩) 2 2, .int .i64 0, .int .i64 2, .slice (some ⟨U2.heap.size + 1 + 1 + 1, 0, none⟩) 1 1, .int .i64 2, .int .i64 5, .slice (some ⟨U2.heap.size + 1 + 1 + 1 + 1, 0, none⟩) 2 2, .int .i64 0, .int .i64 5, .slice (some ⟨U2.heap.size + 1 + 1 + 1 + 1 + 1, 0, none⟩) 1 1, .int .i64 1, .int .i64 5, .slice (some ⟨U2.heap.size + 1 + 1 + 1 + 1 + 1 + 1, 0, none⟩) 1 1] 37, .cells #[.int .i64 0, .int .i64 3] 3]) (q := U2.heap.size + 0) [(6, 4), (2, 5)] (allocs_get [.cells #[.int .i64 6, .int .i64 4, .int .i64 2, .int .i64 5] 28, .cells #[.int .i64 (-1), .int .i64 1] 3, .cells #[.int .i64 0, .int .i64 2] 3, .cells #[.int .i64 0] 3, .cells #[.int .i64 4, .int .i64 5] 3, .cells #[.int .i64 0] 3, .cells #[.int .i64 0] 3, .cells #[.int .i64 6, .int .i64 4, .slice (some ⟨U2.heap.size + 1, 0, none⟩) 2 2, .int .i64 3, .int .i64 4, .slice (some ⟨U2.heap.size + 1 + 1, 0, none⟩) 2 2, .int .i64 0, .int .i64 2, .slice (some ⟨U2.heap.size + 1 + 1 + 1, 0, none⟩) 1 1, .int .i64 2, .int .i64 5, .slice (some ⟨U2.heap.size + 1 + 1 + 1 + 1, 0, none⟩) 2 2, .int .i64 0, .int .i64 5, .slice (some ⟨U2.heap.size + 1 + 1 + 1 + 1 + 1, 0, none⟩) 1 1, .int .i64 1, .int .i64 5, .slice (some ⟨U2.heap.size + 1 + 1 + 1 + 1 + 1 + 1, 0, none⟩) 1 1] 37, .cells #[.int .i64 0, .int .i64 3] 3] U2 0 _ _ rfl) (by decide))
  have HF3 := Aside0.mk (C_facts (W := allocs U2 [.cells #[.int .i64 6, .int .i64 4, .int .i64 2, .int .i64 5] 28, .cells #[.int .i64 (-1), .int .i64 1] 3, .cells #[.int .i64 0, .int .i64 2] 3, .cells #[.int .i64 0] 3, .cells #[.int .i64 4, .int .i64 5] 3, .cells #[.int .i64 0] 3, .cells #[.int .i64 0] 3, .cells #[.int .i64 6, .int .i64 4, .slice (some ⟨U2.heap.size + 1, 0, none⟩) 2 2, .int .i64 3, .int .i64 4, .slice (some ⟨U2.heap.size + 1 + 1, 0, none⟩) 2 2, .int .i64 0, .int .i64 2, .slice (some ⟨U2.heap.size + 1 + 1 + 1, 0, none⟩) 1 1, .int .i64 2, .int .i64 5, .slice (some ⟨U2.heap.size + 1 + 1 + 1 + 1, 0, none⟩) 2 2, .int .i64 0, .int .i64 5, .slice (some ⟨U2.heap.size + 1 + 1 + 1 + 1 + 1, 0, none⟩) 1 1, .int .i64 1, .int .i64 5, .slice (some ⟨U2.heap.size + 1 + 1 + 1 + 1 + 1 + 1, 0, none⟩) 1 1] 37, .cells #[.int .i64 0, .int .i64 3] 3]) (q := U2.heap.size + 7) [(⟨6, 4, [-1, 1]⟩, U2.heap.size + 1), (⟨3, 4, [0, 2]⟩, U2.heap.size + 2), (⟨0, 2, [0]⟩, U2.heap.size + 3), (⟨2, 5, [4, 5]⟩, U2.heap.size + 4), (⟨0, 5, [0]⟩, U2.heap.size + 5), (⟨1, 5, [0]⟩, U2.heap.size + 6)] (allocs_get [.cells #[.int .i64 6, .int .i64 4, .int .i64 2, .int .i64 5] 28, .cells #[.int .i64 (-1), .int .i64 1] 3, .cells #[.int .i64 0, .int .i64 2] 3, .cells #[.int .i64 0] 3, .cells #[.int .i64 4, .int .i64 5] 3, .cells #[.int .i64 0] 3, .cells #[.int .i64 0] 3, .cells #[.int .i64 6, .int .i64 4, .slice (some ⟨U2.heap.size + 1, 0, none⟩) 2 2, .int .i64 3, .int .i64 4, .slice (some ⟨U2.heap.size + 1 + 1, 0, none⟩) 2 2, .int .i64 0, .int .i64 2, .slice (some ⟨U2.heap.size + 1 + 1 + 1, 0, none⟩) 1 1, .int .i64 2, .int .i64 5, .slice (some ⟨U2.heap.size + 1 + 1 + 1 + 1, 0, none⟩) 2 2, .int .i64 0, .int .i64 5, .slice (some ⟨U2.heap.size + 1 + 1 + 1 + 1 + 1, 0, none⟩) 1 1, .int .i64 1, .int .i64 5, .slice (some ⟨U2.heap.size + 1 + 1 + 1 + 1 + 1 + 1, 0, none⟩) 1 1] 37, .cells #[.int .i64 0, .int .i64 3] 3] U2 7 _ _ rfl) (Nat.le_of_ble_eq_true rfl) (fun r hr => by
    simp only [List.mem_cons, List.not_mem_nil, or_false] at hr
    rcases hr with rfl | rfl | rfl | rfl | rfl | rfl
    · exact ⟨allocs_get [.cells #[.int .i64 6, .int .i64 4, .int .i64 2, .int .i64 5] 28, .cells #[.int .i64 (-1), .int .i64 1] 3, .cells #[.int .i64 0, .int .i64 2] 3, .cells #[.int .i64 0] 3, .cells #[.int .i64 4, .int .i64 5] 3, .cells #[.int .i64 0] 3, .cells #[.int .i64 0] 3, .cells #[.int .i64 6, .int .i64 4, .slice (some ⟨U2.heap.size + 1, 0, none⟩) 2 2, .int .i64 3, .int .i64 4, .slice (some ⟨U2.heap.size + 1 + 1, 0, none⟩) 2 2, .int .i64 0, .int .i64 2, .slice (some ⟨U2.heap.size + 1 + 1 + 1, 0, none⟩) 1 1, .int .i64 2, .int .i64 5, .slice (some ⟨U2.heap.size + 1 + 1 + 1 + 1, 0, none⟩) 2 2, .int .i64 0, .int .i64 5, .slice (some ⟨U2.heap.size + 1 + 1 + 1 + 1 + 1, 0, none⟩) 1 1, .int .i64 1, .int .i64 5, .slice (some ⟨U2.heap.size + 1 + 1 + 1 + 1 + 1 + 1, 0, none⟩) 1 1] 37, .cells #[.int .i64 0, .int .i64 3] 3] U2 1 _ _ rfl, Nat.le_of_ble_eq_true rfl⟩
    · exact ⟨allocs_get [.cells #[.int .i64 6, .int .i64 4, .int .i64 2, .int .i64 5] 28, .cells #[.int .i64 (-1), .int .i64 1] 3, .cells #[.int .i64 0, .int .i64 2] 3, .cells #[.int .i64 0] 3, .cells #[.int .i64 4, .int .i64 5] 3, .cells #[.int .i64 0] 3, .cells #[.int .i64 0] 3, .cells #[.int .i64 6, .int .i64 4, .slice (some ⟨U2.heap.size + 1, 0, none⟩) 2 2, .int .i64 3, .int .i64 4, .slice (some ⟨U2.heap.size + 1 + 1, 0, none⟩) 2 2, .int .i64 0, .int .i64 2, .slice (some ⟨U2.heap.size + 1 + 1 + 1, 0, none⟩) 1 1, .int .i64 2, .int .i64 5, .slice (some ⟨U2.heap.size + 1 + 1 + 1 + 1, 0, none⟩) 2 2, .int .i64 0, .int .i64 5, .slice (some ⟨U2.heap.size + 1 + 1 + 1 + 1 + 1, 0, none⟩) 1 1, .int .i64 1, .int .i64 5, .slice (some ⟨U2.heap.size + 1 + 1 + 1 + 1 + 1 + 1, 0, none⟩) 1 1] 37, .cells #[.int .i64 0, .int .i64 3] 3] U2 2 _ _ rfl, Nat.le_of_ble_eq_true rfl⟩
    · exact ⟨allocs_get [.cells #[.int .i64 6, .int .i64 4, .int .i64 2, .int .i64 5] 28, .cells #[.int .i64 (-1), .int .i64 1] 3, .cells #[.int .i64 0, .int .i64 2] 3, .cells #[.int .i64 0] 3, .cells #[.int .i64 4, .int .i64 5] 3, .cells #[.int .i64 0] 3, .cells #[.int .i64 0] 3, .cells #[.int .i64 6, .int .i64 4, .slice (some ⟨U2.heap.size + 1, 0, none⟩) 2 2, .int .i64 3, .int .i64 4, .slice (some ⟨U2.heap.size + 1 + 1, 0, none⟩) 2 2, .int .i64 0, .int .i64 2, .slice (some ⟨U2.heap.size + 1 + 1 + 1, 0, none⟩) 1 1, .int .i64 2, .int .i64 5, .slice (some ⟨U2.heap.size + 1 + 1 + 1 + 1, 0, none⟩) 2 2, .int .i64 0, .int .i64 5, .slice (some ⟨U2.heap.size + 1 + 1 + 1 + 1 + 1, 0, none⟩) 1 1, .int .i64 1, .int .i64 5, .slice (some ⟨U2.heap.size + 1 + 1 + 1 + 1 + 1 + 1, 0, none⟩) 1 1] 37, .cells #[.int .i64 0, .int .i64 3] 3] U2 3 _ _ rfl, Nat.le_of_ble_eq_true rfl⟩
    · exact ⟨allocs_get [.cells #[.int .i64 6, .int .i64 4, .int .i64 2, .int .i64 5] 28, .cells #[.int .i64 (-1), .int .i64 1] 3, .cells #[.int .i64 0, .int .i64 2] 3, .cells #[.int .i64 0] 3, .cells #[.int .i64 4, .int .i64 5] 3, .cells #[.int .i64 0] 3, .cells #[.int .i64 0] 3, .cells #[.int .i64 6, .int .i64 4, .slice (some ⟨U2.heap.size + 1, 0, none⟩) 2 2, .int .i64 3, .int .i64 4, .slice (some ⟨U2.heap.size + 1 + 1, 0, none⟩) 2 2, .int .i64 0, .int .i64 2, .slice (some ⟨U2.heap.size + 1 + 1 + 1, 0, none⟩) 1 1, .int .i64 2, .int .i64 5, .slice (some ⟨U2.heap.size + 1 + 1 + 1 + 1, 0, none⟩) 2 2, .int .i64 0, .int .i64 5, .slice (some ⟨U2.heap.size + 1 + 1 + 1 + 1 + 1, 0, none⟩) 1 1, .int .i64 1, .int .i64 5, .slice (some ⟨U2.heap.size + 1 + 1 + 1 + 1 + 1 + 1, 0, none⟩) 1 1] 37, .cells #[.int .i64 0, .int .i64 3] 3] U2 4 _ _ rfl, Nat.le_of_ble_eq_true rfl⟩
    · exact ⟨allocs_get [.cells #[.int .i64 6, .int .i64 4, .int .i64 2, .int .i64 5] 28, .cells #[.int .i64 (-1), .int .i64 1] 3, .cells #[.int .i64 0, .int .i64 2] 3, .cells #[.int .i64 0] 3, .cells #[.int .i64 4, .int .i64 5] 3, .cells #[.int .i64 0] 3, .cells #[.int .i64 0] 3, .cells #[.int .i64 6, .int .i64 4, .slice (some ⟨U2.heap.size + 1, 0, none⟩) 2 2, .int .i64 3, .int .i64 4, .slice (some ⟨U2.heap.size + 1 + 1, 0, none⟩) 2 2, .int .i64 0, .int .i64 2, .slice (some ⟨U2.heap.size + 1 + 1 + 1, 0, none⟩) 1 1, .int .i64 2, .int .i64 5, .slice (some ⟨U2.heap.size + 1 + 1 + 1 + 1, 0, none⟩) 2 2, .int .i64 0, .int .i64 5, .slice (some ⟨U2.heap.size + 1 + 1 + 1 + 1 + 1, 0, none⟩) 1 1, .int .i64 1, .int .i64 5, .slice (some ⟨U2.heap.size + 1 + 1 + 1 + 1 + 1 + 1, 0, none⟩) 1 1] 37, .cells #[.int .i64 0, .int .i64 3] 3] U2 5 _ _ rfl, Nat.le_of_ble_eq_true rfl⟩
    · exact ⟨allocs_get [.cells #[.int .i64 6, .int .i64 4, .int .i64 2, .int .i64 5] 28, .cells #[.int .i64 (-1), .int .i64 1] 3, .cells #[.int .i64 0, .int .i64 2] 3, .cells #[.int .i64 0] 3, .cells #[.int .i64 4, .int .i64 5] 3, .cells #[.int .i64 0] 3, .cells #[.int .i64 0] 3, .cells #[.int .i64 6, .int .i64 4, .slice (some ⟨U2.heap.size + 1, 0, none⟩) 2 2, .int .i64 3, .int .i64 4, .slice (some ⟨U2.heap.size + 1 + 1, 0, none⟩) 2 2, .int .i64 0, .int .i64 2, .slice (some ⟨U2.heap.size + 1 + 1 + 1, 0, none⟩) 1 1, .int .i64 2, .int .i64 5, .slice (some ⟨U2.heap.size + 1 + 1 + 1 + 1, 0, none⟩) 2 2, .int .i64 0, .int .i64 5, .slice (some ⟨U2.heap.size + 1 + 1 + 1 + 1 + 1, 0, none⟩) 1 1, .int .i64 1, .int .i64 5, .slice (some ⟨U2.heap.size + 1 + 1 + 1 + 1 + 1 + 1, 0, none⟩) 1 1] 37, .cells #[.int .i64 0, .int .i64 3] 3] U2 6 _ _ rfl, Nat.le_of_ble_eq_true rfl⟩))
  have HA3 := Aside0.mk (C_ints (W := allocs U2 [.cells #[.int .i64 6, .int .i64 4, .int .i64 2, .int .i64 5] 28, .cells #[.int .i64 (-1), .int .i64 1] 3, .cells #[.int .i64 0, .int .i64 2] 3, .cells #[.int .i64 0] 3, .cells #[.int .i64 4, .int .i64 5] 3, .cells #[.int .i64 0] 3, .cells #[.int .i64 0] 3, .cells #[.int .i64 6, .int .i64 4, .slice (some ⟨U2.heap.size + 1, 0, none⟩) 2 2, .int .i64 3, .int .i64 4, .slice (some ⟨U2.heap.size + 1 + 1, 0, none⟩) 2 2, .int .i64 0, .int .i64 2, .slice (some ⟨U2.heap.size + 1 + 1 + 1, 0, none⟩) 1 1, .int .i64 2, .int .i64 5, .slice (some ⟨U2.heap.size + 1 + 1 + 1 + 1, 0, none⟩) 2 2, .int .i64 0, .int .i64 5, .slice (some ⟨U2.heap.size + 1 + 1 + 1 + 1 + 1, 0, none⟩) 1 1, .int .i64 1, .int .i64 5, .slice (some ⟨U2.heap.size + 1 + 1 + 1 + 1 + 1 + 1, 0, none⟩) 1 1] 37, .cells #[.int .i64 0, .int .i64 3] 3]) (q := U2.heap.size + 8) [0, 3] (allocs_get [.cells #[.int .i64 6, .int .i64 4, .int .i64 2, .int .i64 5] 28, .cells #[.int .i64 (-1), .int .i64 1] 3, .cells #[.int .i64 0, .int .i64 2] 3, .cells #[.int .i64 0] 3, .cells #[.int .i64 4, .int .i64 5] 3, .cells #[.int .i64 0] 3, .cells #[.int .i64 0] 3, .cells #[.int .i64 6, .int .i64 4, .slice (some ⟨U2.heap.size + 1, 0, none⟩) 2 2, .int .i64 3, .int .i64 4, .slice (some ⟨U2.heap.size + 1 + 1, 0, none⟩) 2 2, .int .i64 0, .int .i64 2, .slice (some ⟨U2.heap.size + 1 + 1 + 1, 0, none⟩) 1 1, .int .i64 2, .int .i64 5, .slice (some ⟨U2.heap.size + 1 + 1 + 1 + 1, 0, none⟩) 2 2, .int .i64 0, .int .i64 5, .slice (some ⟨U2.heap.size + 1 + 1 + 1 + 1 + 1, 0, none⟩) 1 1, .int .i64 1, .int .i64 5, .slice (some ⟨U2.heap.size + 1 + 1 + 1 + 1 + 1 + 1, 0, none⟩) 1 1] 37, .cells #[.int .i64 0, .int .i64 3] 3] U2 8 _ _ rfl) (by decide))
  go_wp2_with (fail)
  refine (finds_call (some ⟨U2.heap.size + 0, 0, none⟩) (some ⟨U2.heap.size + 7, 0, none⟩) (some ⟨U2.heap.size + 8, 0, none⟩) 2 6 2 [(6, 4), (2, 5)] [⟨6, 4, [-1, 1]⟩, ⟨3, 4, [0, 2]⟩, ⟨0, 2, [0]⟩, ⟨2, 5, [4, 5]⟩, ⟨0, 5, [0]⟩, ⟨1, 5, [0]⟩] [0, 3] (allocs U2 [.cells #[.int .i64 6, .int .i64 4, .int .i64 2, .int .i64 5] 28, .cells #[.int .i64 (-1), .int .i64 1] 3, .cells #[.int .i64 0, .int .i64 2] 3, .cells #[.int .i64 0] 3, .cells #[.int .i64 4, .int .i64 5] 3, .cells #[.int .i64 0] 3, .cells #[.int .i64 0] 3, .cells #[.int .i64 6, .int .i64 4, .slice (some ⟨U2.heap.size + 1, 0, none⟩) 2 2, .int .i64 3, .int .i64 4, .slice (some ⟨U2.heap.size + 1 + 1, 0, none⟩) 2 2, .int .i64 0, .int .i64 2, .slice (some ⟨U2.heap.size + 1 + 1 + 1, 0, none⟩) 1 1, .int .i64 2, .int .i64 5, .slice (some ⟨U2.heap.size + 1 + 1 + 1 + 1, 0, none⟩) 2 2, .int .i64 0, .int .i64 5, .slice (some ⟨U2.heap.size + 1 + 1 + 1 + 1 + 1, 0, none⟩) 1 1, .int .i64 1, .int .i64 5, .slice (some ⟨U2.heap.size + 1 + 1 + 1 + 1 + 1 + 1, 0, none⟩) 1 1] 37, .cells #[.int .i64 0, .int .i64 3] 3]) ((HK.out.below HC2.out).below HB3.out) HP3.out (Nat.le_refl _) (by decide) HF3.out HA3.out (fun p hp => ?_) small_f3).mono ?_
  · simp only [List.mem_cons, List.not_mem_nil, or_false] at hp
    rcases hp with rfl | rfl
    · exact pr_small 6 4 (by decide) (by decide) (by rfl)
    · exact pr_small 2 5 (by decide) (by decide) (by rfl)
  rintro e U3 ⟨rfl, hb⟩
  have HC3 := Aside0.mk (HC2.out.trans ((HB3.out.trans (hb.mono HB3.out.size)).mono HC2.out.size))
  clear hb HB3 HP3 HF3 HA3
  go_wp2_with (fail)
  refine (small_yes U3).mono ?_
  rintro e V4 ⟨A4, rfl, hg, hb⟩
  have HG4 := Aside0.mk hg
  have HV4 := Aside0.mk (HC3.out.trans (hb.mono HC3.out.size))
  clear hg hb
  have HB4 := Aside0.mk (allocs_new V4 [.cells #[.int .i64 2, .int .i64 0] 28])
  have HP4 := Aside0.mk (C_pairs (W := allocs V4 [.cells #[.int .i64 2, .int .i64 0] 28]) (q := V4.heap.size + 0) [(2, 0)] (allocs_get [.cells #[.int .i64 2, .int .i64 0] 28] V4 0 _ _ rfl) (by decide))
  go_wp2_with (fail)
  refine (finds_yes A4 7 smallG (some ⟨V4.heap.size + 0, 0, none⟩) 1 [(2, 0)] (allocs V4 [.cells #[.int .i64 2, .int .i64 0] 28]) ((HK.out.below HV4.out).below HB4.out) (Kd.C_below HG4.out HB4.out) (Nat.le_refl 7) (Nat.le_of_ble_eq_true rfl) HP4.out (Nat.le_refl _) (by decide)).mono ?_
  rintro e U4 ⟨hf, hb⟩
  have HC4 := Aside0.mk (HV4.out.trans ((HB4.out.trans (hb.mono HB4.out.size)).mono HV4.out.size))
  obtain rfl := find_no hf
  clear hb hf HB4 HP4 HG4
  dsimp only
  go_wp2_with (fail)
  refine (small_yes U4).mono ?_
  rintro e V5 ⟨A5, rfl, hg, hb⟩
  have HG5 := Aside0.mk hg
  have HV5 := Aside0.mk (HC4.out.trans (hb.mono HC4.out.size))
  clear hg hb
  have HB5 := Aside0.mk (allocs_new V5 [.cells #[.int .i64 7, .int .i64 0] 28])
  have HP5 := Aside0.mk (C_pairs (W := allocs V5 [.cells #[.int .i64 7, .int .i64 0] 28]) (q := V5.heap.size + 0) [(7, 0)] (allocs_get [.cells #[.int .i64 7, .int .i64 0] 28] V5 0 _ _ rfl) (by decide))
  go_wp2_with (fail)
  refine (finds_yes A5 7 smallG (some ⟨V5.heap.size + 0, 0, none⟩) 1 [(7, 0)] (allocs V5 [.cells #[.int .i64 7, .int .i64 0] 28]) ((HK.out.below HV5.out).below HB5.out) (Kd.C_below HG5.out HB5.out) (Nat.le_refl 7) (Nat.le_of_ble_eq_true rfl) HP5.out (Nat.le_refl _) (by decide)).mono ?_
  rintro e U5 ⟨hf, hb⟩
  have HC5 := Aside0.mk (HV5.out.trans ((HB5.out.trans (hb.mono HB5.out.size)).mono HV5.out.size))
  obtain rfl := find_out hf
  clear hb hf HB5 HP5 HG5
  dsimp only
  go_wp2_with (fail)
  refine (small_yes U5).mono ?_
  rintro e V6 ⟨A6, rfl, hg, hb⟩
  have HG6 := Aside0.mk hg
  have HV6 := Aside0.mk (HC5.out.trans (hb.mono HC5.out.size))
  clear hg hb
  have HB6 := Aside0.mk (allocs_new V6 [.cells #[.int .i64 0] 3, .cells #[.int .i64 0, .int .i64 1, .slice (some ⟨V6.heap.size, 0, none⟩) 1 1] 37])
  have HF6 := Aside0.mk (C_facts (W := allocs V6 [.cells #[.int .i64 0] 3, .cells #[.int .i64 0, .int .i64 1, .slice (some ⟨V6.heap.size, 0, none⟩) 1 1] 37]) (q := V6.heap.size + 1) [(⟨0, 1, [0]⟩, V6.heap.size + 0)] (allocs_get [.cells #[.int .i64 0] 3, .cells #[.int .i64 0, .int .i64 1, .slice (some ⟨V6.heap.size, 0, none⟩) 1 1] 37] V6 1 _ _ rfl) (Nat.le_of_ble_eq_true rfl) (fun r hr => by
    simp only [List.mem_cons, List.not_mem_nil, or_false] at hr
    rcases hr with rfl
    · exact ⟨allocs_get [.cells #[.int .i64 0] 3, .cells #[.int .i64 0, .int .i64 1, .slice (some ⟨V6.heap.size, 0, none⟩) 1 1] 37] V6 0 _ _ rfl, Nat.le_of_ble_eq_true rfl⟩))
  have H6 := Aside0.mk (first_yes A6 7 smallG (some ⟨V6.heap.size + 1, 0, none⟩) 1 [⟨0, 1, [0]⟩] (allocs V6 [.cells #[.int .i64 0] 3, .cells #[.int .i64 0, .int .i64 1, .slice (some ⟨V6.heap.size, 0, none⟩) 1 1] 37]) ((HK.out.below HV6.out).below HB6.out) (Kd.C_below HG6.out HB6.out) (Nat.le_refl 7) HF6.out (Nat.le_refl _))
  rw [small_first1] at H6
  go_wp2_with (fail)
  refine H6.out.mono ?_
  rintro e U6 ⟨rfl, hb⟩
  have HC6 := Aside0.mk (HV6.out.trans ((HB6.out.trans (hb.mono HB6.out.size)).mono HV6.out.size))
  clear hb H6 HB6 HF6 HG6
  dsimp only
  go_wp2_with (fail)
  refine (small_yes U6).mono ?_
  rintro e V7 ⟨A7, rfl, hg, hb⟩
  have HG7 := Aside0.mk hg
  have HV7 := Aside0.mk (HC6.out.trans (hb.mono HC6.out.size))
  clear hg hb
  have HB7 := Aside0.mk (allocs_new V7 [.cells #[.int .i64 0, .int .i64 0] 3, .cells #[.int .i64 3, .int .i64 4, .slice (some ⟨V7.heap.size, 0, none⟩) 2 2] 37])
  have HF7 := Aside0.mk (C_facts (W := allocs V7 [.cells #[.int .i64 0, .int .i64 0] 3, .cells #[.int .i64 3, .int .i64 4, .slice (some ⟨V7.heap.size, 0, none⟩) 2 2] 37]) (q := V7.heap.size + 1) [(⟨3, 4, [0, 0]⟩, V7.heap.size + 0)] (allocs_get [.cells #[.int .i64 0, .int .i64 0] 3, .cells #[.int .i64 3, .int .i64 4, .slice (some ⟨V7.heap.size, 0, none⟩) 2 2] 37] V7 1 _ _ rfl) (Nat.le_of_ble_eq_true rfl) (fun r hr => by
    simp only [List.mem_cons, List.not_mem_nil, or_false] at hr
    rcases hr with rfl
    · exact ⟨allocs_get [.cells #[.int .i64 0, .int .i64 0] 3, .cells #[.int .i64 3, .int .i64 4, .slice (some ⟨V7.heap.size, 0, none⟩) 2 2] 37] V7 0 _ _ rfl, Nat.le_of_ble_eq_true rfl⟩))
  have H7 := Aside0.mk (first_yes A7 7 smallG (some ⟨V7.heap.size + 1, 0, none⟩) 1 [⟨3, 4, [0, 0]⟩] (allocs V7 [.cells #[.int .i64 0, .int .i64 0] 3, .cells #[.int .i64 3, .int .i64 4, .slice (some ⟨V7.heap.size, 0, none⟩) 2 2] 37]) ((HK.out.below HV7.out).below HB7.out) (Kd.C_below HG7.out HB7.out) (Nat.le_refl 7) HF7.out (Nat.le_refl _))
  rw [small_first2] at H7
  go_wp2_with (fail)
  refine H7.out.mono ?_
  rintro e U7 ⟨rfl, hb⟩
  have HC7 := Aside0.mk (HV7.out.trans ((HB7.out.trans (hb.mono HB7.out.size)).mono HV7.out.size))
  clear hb H7 HB7 HF7 HG7
  dsimp only
  go_wp2_with (fail)
  refine (small_yes U7).mono ?_
  rintro e V8 ⟨A8, rfl, hg, hb⟩
  have HG8 := Aside0.mk hg
  have HV8 := Aside0.mk (HC7.out.trans (hb.mono HC7.out.size))
  clear hg hb
  have HB8 := Aside0.mk (allocs_new V8 [.cells #[.int .i64 0] 3, .cells #[.int .i64 5, .int .i64 0, .slice (some ⟨V8.heap.size, 0, none⟩) 1 1] 37])
  have HF8 := Aside0.mk (C_facts (W := allocs V8 [.cells #[.int .i64 0] 3, .cells #[.int .i64 5, .int .i64 0, .slice (some ⟨V8.heap.size, 0, none⟩) 1 1] 37]) (q := V8.heap.size + 1) [(⟨5, 0, [0]⟩, V8.heap.size + 0)] (allocs_get [.cells #[.int .i64 0] 3, .cells #[.int .i64 5, .int .i64 0, .slice (some ⟨V8.heap.size, 0, none⟩) 1 1] 37] V8 1 _ _ rfl) (Nat.le_of_ble_eq_true rfl) (fun r hr => by
    simp only [List.mem_cons, List.not_mem_nil, or_false] at hr
    rcases hr with rfl
    · exact ⟨allocs_get [.cells #[.int .i64 0] 3, .cells #[.int .i64 5, .int .i64 0, .slice (some ⟨V8.heap.size, 0, none⟩) 1 1] 37] V8 0 _ _ rfl, Nat.le_of_ble_eq_true rfl⟩))
  have H8 := Aside0.mk (casts_yes A8 7 smallG (some ⟨V8.heap.size + 1, 0, none⟩) 1 [⟨5, 0, [0]⟩] 0 (allocs V8 [.cells #[.int .i64 0] 3, .cells #[.int .i64 5, .int .i64 0, .slice (some ⟨V8.heap.size, 0, none⟩) 1 1] 37]) ((HK.out.below HV8.out).below HB8.out) (Kd.C_below HG8.out HB8.out) (Nat.le_refl 7) HF8.out (Nat.le_refl _))
  rw [small_casts1] at H8
  go_wp2_with (fail)
  refine H8.out.mono ?_
  rintro e U8 ⟨rfl, hb⟩
  have HC8 := Aside0.mk (HV8.out.trans ((HB8.out.trans (hb.mono HB8.out.size)).mono HV8.out.size))
  clear hb H8 HB8 HF8 HG8
  go_wp2_with (fail)
  refine (small_yes U8).mono ?_
  rintro e V9 ⟨A9, rfl, hg, hb⟩
  have HG9 := Aside0.mk hg
  have HV9 := Aside0.mk (HC8.out.trans (hb.mono HC8.out.size))
  clear hg hb
  have HB9 := Aside0.mk (allocs_new V9 [.cells #[.int .i64 0] 3, .cells #[.int .i64 0, .int .i64 5, .slice (some ⟨V9.heap.size, 0, none⟩) 1 1] 37])
  have HF9 := Aside0.mk (C_facts (W := allocs V9 [.cells #[.int .i64 0] 3, .cells #[.int .i64 0, .int .i64 5, .slice (some ⟨V9.heap.size, 0, none⟩) 1 1] 37]) (q := V9.heap.size + 1) [(⟨0, 5, [0]⟩, V9.heap.size + 0)] (allocs_get [.cells #[.int .i64 0] 3, .cells #[.int .i64 0, .int .i64 5, .slice (some ⟨V9.heap.size, 0, none⟩) 1 1] 37] V9 1 _ _ rfl) (Nat.le_of_ble_eq_true rfl) (fun r hr => by
    simp only [List.mem_cons, List.not_mem_nil, or_false] at hr
    rcases hr with rfl
    · exact ⟨allocs_get [.cells #[.int .i64 0] 3, .cells #[.int .i64 0, .int .i64 5, .slice (some ⟨V9.heap.size, 0, none⟩) 1 1] 37] V9 0 _ _ rfl, Nat.le_of_ble_eq_true rfl⟩))
  have H9 := Aside0.mk (casts_yes A9 7 smallG (some ⟨V9.heap.size + 1, 0, none⟩) 1 [⟨0, 5, [0]⟩] 0 (allocs V9 [.cells #[.int .i64 0] 3, .cells #[.int .i64 0, .int .i64 5, .slice (some ⟨V9.heap.size, 0, none⟩) 1 1] 37]) ((HK.out.below HV9.out).below HB9.out) (Kd.C_below HG9.out HB9.out) (Nat.le_refl 7) HF9.out (Nat.le_refl _))
  rw [small_casts2] at H9
  go_wp2_with (fail)
  refine H9.out.mono ?_
  rintro e U9 ⟨rfl, hb⟩
  have HC9 := Aside0.mk (HV9.out.trans ((HB9.out.trans (hb.mono HB9.out.size)).mono HV9.out.size))
  clear hb H9 HB9 HF9 HG9
  go_wp2_with (fail)
  go_ret
  exact ⟨rfl, HC9.out⟩
end Go.Proofs.YthkoockcfnbpiaaDoor.W18
