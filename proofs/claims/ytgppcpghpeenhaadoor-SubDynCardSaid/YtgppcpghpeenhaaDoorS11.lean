/- Pick. -/
import Derived.Test.YtgppcpghpeenhaaDoorProg
import Derived.Test.YtgppcpghpeenhaaDoorWWords
import Derived.Test.YtgppcpghpeenhaaDoorWLast
import Derived.Test.YtgppcpghpeenhaaDoorS10
namespace Go.Proofs.YtgppcpghpeenhaaDoor.S11
open Go.RowKit Go.Proofs.YtgppcpghpeenhaaDoorW.PrintWords Go.Proofs.YtgppcpghpeenhaaDoorW.PrintLast Go.Proofs.YtgppcpghpeenhaaDoorW.PrintMore Go.Proofs.YtgppcpghpeenhaaDoor L1 L3 L4 G1 G2 S0 S1 S2 S3 S4 S5 S6 S7 S8 S9 S10
set_option linter.unusedVariables false
set_option linter.unusedSimpArgs false
theorem members_self {g : List GN} {a : Int} (h0 : 0 ≤ a) (h1 : a < g.length) (h8 : (nd g a).f0 ≠ 8) : membersP g a = [a] := by
  unfold membersP
  rw [if_neg (by omega), if_neg (by omega)]
  exact if_neg h8
/-- What Pick tells. -/
def PickP (g : List GN) (a b k : Int) : Prop :=
  if ofP g [a, b] = true ∧ (nd g a).f0 ≠ 8 then Picks false g (Sub false g) (Sub false g) a b.toNat k ∧ (k = -2 ↔ ¬ Sub false g a.toNat b.toNat) else k = -2
set_option maxHeartbeats 4000000 in
set_option maxRecDepth 100000 in
theorem pick_ok (A0 : Option Addr) (c0 : Nat) (g : List GN) (a b : Int) (w : World) (hK : Keys w) (hg : Kd.C P.k33 w A0 g.length g) (hgc : g.length ≤ c0) :
    Calls Tryd.prog 22 #[.slice A0 g.length c0, .int .i64 a, .int .i64 b] w fun e w' => ∃ k, e = .returned (.int .i64 k) ∧ PickP g a b k ∧ Below w.heap.size w w' := by
  have HK := Aside0.mk hK
  have HG := Aside0.mk hg
  have HGc := Aside0.mk hgc
  have hr : Kd.R (Kd.int .i64) 3 (w.alloc (.cells #[.int .i64 a, .int .i64 b] 3)) w.heap.size (fun _ => True) (.slice (some ⟨w.heap.size, 0, none⟩) 2 2) [a, b] := Kd.R_of_own (own_lit w w.heap.size 3 .i64 [a, b] (Nat.le_refl _) (by simp)) (fun _ _ => trivial)
  have hr2 : Kd.C (Kd.int .i64) (w.alloc (.cells #[.int .i64 a, .int .i64 b] 3)) (some ⟨w.heap.size, 0, none⟩) 2 [a, b] := (Kd.R_reads' hr).2.2
  have HB2 := Aside0.mk (below_alloc (Below.refl w.heap.size w) (.cells #[.int .i64 a, .int .i64 b] 3))
  clear hK hg hgc hr
  go_enter Tryd.func22, Tryd.ntmps22
  go_wp2_with (fail)
  generalize w.alloc (.cells #[.int .i64 a, .int .i64 b] 3) = W2 at HB2 hr2 ⊢
  refine (of_yes A0 c0 g false (some ⟨w.heap.size, 0, none⟩) 2 [a, b] W2 (HK.out.below HB2.out) (Kd.C_below HG.out HB2.out) HGc.out hr2 (Nat.le_refl _)).mono ?_
  rintro e W3 ⟨hb3, ⟨hof, sb, m, rfl, hS⟩ | ⟨hof, rfl⟩⟩
  · have HOf := Aside0.mk hof
    have HS := Aside0.mk hS
    obtain ⟨h1, h2, h3⟩ := ofP_two hof
    have HB3 := Aside0.mk (HB2.out.trans (hb3.mono HB2.out.size))
    clear hof hS hb3 hr2
    obtain ⟨x, rfl⟩ := Int.eq_ofNat_of_zero_le h2.1
    obtain ⟨y, rfl⟩ := Int.eq_ofNat_of_zero_le h3.1
    have HX := Aside0.mk (show x < g.length by omega)
    have HY := Aside0.mk (show y < g.length by omega)
    have HL := Aside0.mk (lit_P W3 ((x : Int), (y : Int)))
    have HS4 := Aside0.mk (HS.out.alloc (.cells #[.int .i64 x, .int .i64 y] 49))
    have HM3 := Aside0.mk HS.out.mp.lt
    obtain ⟨ad, A3, c3, A4, c4, eA, q0, _⟩ := P.at_T33 (Kd.C_below HG.out HB3.out) (x : Int) (by omega) (by omega)
    rw [show P.rd_T33 g (x : Int) = nd g x from rfl, Int.toNat_natCast] at q0
    obtain ⟨kx, hkx⟩ : ∃ kx, kx = (nd g x).f0 := ⟨_, rfl⟩
    rw [← hkx] at q0
    have HKx := Aside0.mk hkx
    subst eA
    have hx1 : ((x : Int) < (g.length : Int)) = True := eq_true (by omega)
    have hx0 : ((0 : Int) ≤ (x : Int)) = True := eq_true (by omega)
    have hlen := HG.out.2.1
    clear h1 h2 h3 hkx
    by_cases h8 : kx = 8
    · have HF := Aside0.mk (show PickP g x y (-2) by unfold PickP; rw [if_neg (by rw [← HKx.out]; intro h; exact h.2 h8)])
      subst h8
      go_wp2_with (fail)
      go_ret
      exact ⟨_, rfl, HF.out, HB3.out⟩
    · have h8b : (kx == 8) = false := by simp [h8]
      have H8 := Aside0.mk (show (nd g x).f0 ≠ 8 by rw [← HKx.out]; exact h8)
      clear h8
      go_wp2_with (fail)
      refine (solve_yes W2 (W3.alloc (.cells #[.int .i64 x, .int .i64 y] 49)) sb m (some ad) c0 g false F2.none_ HS4.out (Inv.none_ false g) (some ⟨W3.heap.size, 0, none⟩) 1 [(x, y)] (fun p hp => by simp at hp; subst hp; exact ⟨HX.out, HY.out⟩) (fun W' hg => (Kd.R_reads' (Kd.R_grown (Kd.R_bound HL.out) hg (fun k hk e => by have h1 := hk.2.1; have h2 := HM3.out; cases e; omega))).2.2) (Nat.le_refl _)).mono ?_
      rintro e W5 ⟨rfl, f, hm5, hg5, hen, hkn⟩
      have hk0 := hkn (x, y) (by simp)
      have HEn := Aside0.mk hen
      have HKn := Aside0.mk hk0
      have HS5 := Aside0.mk (HS4.out.grown hg5 hm5)
      have HAns := Aside0.mk (show PickP g x y (pickF false g f x y).1 by
        unfold PickP
        rw [if_pos ⟨HOf.out, H8.out⟩]
        have h1 := hen.picks hk0 (members_self (by omega) (by have := HX.out; omega) H8.out)
        simpa only [Int.toNat_natCast] using h1)
      clear hen hkn hk0 hm5 hg5 q0
      go_wp2_with (fail)
      refine (pick_yes W2 W5 sb m (some ad) c0 g false f HS5.out x y HX.out HY.out H8.out).mono ?_
      rintro e W6 ⟨rfl, hm6, hg6⟩
      have HS6 := Aside0.mk (HS5.out.grown hg6 hm6)
      clear hm6 hg6
      go_wp2_with (fail)
      go_ret
      exact ⟨_, rfl, HAns.out, HB2.out.trans (HS6.out.old.mono HB2.out.size)⟩
  · have HF := Aside0.mk (show PickP g a b (-2) by unfold PickP; rw [if_neg (by rw [hof]; simp)])
    have HB3 := Aside0.mk (HB2.out.trans (hb3.mono HB2.out.size))
    clear hof hb3 hr2
    go_wp2_with (fail)
    go_ret
    exact ⟨_, rfl, HF.out, HB3.out⟩
end Go.Proofs.YtgppcpghpeenhaaDoor.S11
