/- The statements' own helpers: num, fails. -/
import Derived.Test.YtcpnjlagmnlecaaProg
import Derived.Below
import Derived.Deep.Draws
import Derived.Deep.AppendLies
import Derived.Maps.AppendAt
import Derived.OwnWalk
import Derived.Laws.BytesArg
import Derived.Laws.MakeOwn
import Derived.Laws.OwnMore
import Derived.Deep.OwnRows
import Derived.Tactics
import Derived.Lib.ConvBytes
import Derived.Laws.Slices
import Derived.WalkKit
import Derived.KernelRfl
import Derived.RowKit3
import Derived.Deep.LoopGhost
import Derived.Deep.QuietTactic
import Derived.BigQuiet
import Derived.WideLaws
import Derived.Deep.DeepCutAuto
import Derived.Deep.CutBlock
import Derived.Deep.RegionHeld3
import Derived.Laws.Rows
import Derived.Lib.AppendStr
import Derived.ArgAppend
import Derived.Laws.IdiomCopy
import Derived.OrdersHeld
import Derived.Laws.BitsLemmas
import Derived.RowKit
import Derived.WalkSpells
import Derived.Laws.CopyOwn
import Derived.Test.YtcpnjlagmnlecaaWWords
import Derived.Test.YtcpnjlagmnlecaaWLast
import Derived.Test.YtcpnjlagmnlecaaWMore
import Derived.Test.YtcpnjlagmnlecaaHx1
import Derived.Test.YtcpnjlagmnlecaaA9
import Derived.Test.YtcpnjlagmnlecaaA6
namespace Go.Proofs.Ytcpnjlagmnlecaa.B1
open Go.RowKit Go.Proofs.YtcpnjlagmnlecaaW.PrintWords Go.Proofs.YtcpnjlagmnlecaaW.PrintLast Go.Proofs.YtcpnjlagmnlecaaW.PrintMore Go.Proofs.Ytcpnjlagmnlecaa Go.Proofs.Ytcpnjlagmnlecaa.A2 Go.Proofs.Ytcpnjlagmnlecaa.A3 Go.Proofs.Ytcpnjlagmnlecaa.A4 Go.Proofs.Ytcpnjlagmnlecaa.A5 Go.Proofs.Ytcpnjlagmnlecaa.A6 Go.Proofs.Ytcpnjlagmnlecaa.A8 Go.Proofs.Ytcpnjlagmnlecaa.H
set_option linter.unusedVariables false
set_option linter.unusedSimpArgs false
theorem num_f (xs : List Int) (n : Int) (hx : xs.length + 9 < 140737488355328 - 9) : wire_Num.f (n.toNat + 2) xs n = some (dig xs n) := by
  unfold wire_Num.f A1.slices_Clone_byte_byte.f
  rw [if_pos (by omega), Option.bind_some, digits_f xs n hx]
  rfl
theorem num_own (A0 : Option Addr) (c0 : Nat) (l0 : List Int) (n : Int) (w : World) (hr0 : Kd.C (Kd.int .u8) w A0 l0.length l0) (hc0 : l0.length ≤ c0) (hx : l0.length + 9 < 140737488355328 - 9) :
    Calls Try.prog 17 #[.slice A0 l0.length c0, .int .i64 n] w fun e w' => ∃ v0_ : Value, e = .returned (.tuple #[v0_, .int .i64 (dig l0 n).2]) ∧ Kd.R (Kd.int .u8) 5 w' w.heap.size (fun _ => True) v0_ (dig l0 n).1 ∧ Below w.heap.size w w' :=
  wire_Num.calls _ A0 c0 l0 n _ _ w hr0 hc0 (num_f l0 n hx)
def numOk (n : Int) (l : List Int) : Bool := okB l && decide (l.length < 1000) && decide (dig [] n = (l, 0)) && decide (WireP.num (l, 0) = (n, [], 0))
def armillarylaw01_num.f (n : Int) (l : List Int) : Option Bool := if numOk n l = true then some true else none
set_option maxHeartbeats 4000000 in
set_option maxRecDepth 100000 in
theorem armillarylaw01_num.calls (a0 : Int) (A1_ : Option Addr) (c1 : Nat) (l1 : List Int) (r : Bool) (w : World) (hr1 : Kd.C (Kd.int .u8) w A1_ l1.length l1) (hc1 : l1.length ≤ c1) (h : armillarylaw01_num.f a0 l1 = some r) :
    Calls Try.prog 41 #[.int .i64 a0, .slice A1_ l1.length c1] w fun e w' => e = .returned (.bool r) ∧ Below w.heap.size w w' := by
  have HR := Aside0.mk hr1
  have HC := Aside0.mk hc1
  clear hr1 hc1
  unfold armillarylaw01_num.f at h
  by_cases hn : numOk a0 l1 = true
  · rw [if_pos hn] at h
    obtain rfl := Option.some.inj h
    unfold numOk at hn
    simp only [Bool.and_eq_true, decide_eq_true_eq] at hn
    obtain ⟨⟨⟨h1, h2⟩, h3⟩, h4⟩ := hn
    have H1 := Aside0.mk h1
    have H2 := Aside0.mk h2
    have H3 := Aside0.mk h3
    have H4 := Aside0.mk h4
    have HN := Aside0.mk (Kd.C_nil (Kd.int .u8) w)
    have HX := Aside0.mk (show ([] : List Int).length + 9 < 140737488355328 - 9 by decide)
    have HZ := Aside0.mk (show ([] : List Int).length ≤ 0 by decide)
    have HE := Aside0.mk (show armillaryref00_EqBytes.f l1 l1 = some true by unfold armillaryref00_EqBytes.f; simp)
    clear h h1 h2 h3 h4
    go_enter Try.func41, Try.ntmps41
    go_wp2_with (first | (go_at_call 17; refine (num_own none 0 [] a0 _ HN.out HZ.out HX.out).mono ?_; rw [H3.out]; rintro e w1 ⟨v0, rfl, hr, hb⟩; obtain ⟨A2, c2, hv, hc2, hC2⟩ := Kd.R_reads hr; rw [hv]; have HC2 := Aside0.mk hC2; have Hc2 := Aside0.mk hc2; have HB1 := Aside0.mk hb; clear hr hb hv hC2 hc2) | (go_at_call 26; refine (newReader_yes _ _ l1 _ (Kd.C_below HR.out HB1.out) HC.out (by have := H2.out; omega) H1.out).mono ?_; rintro e w2 ⟨g, rfl, hgl, hr, hb⟩; have HGL := Aside0.mk hgl; have HRd := Aside0.mk hr; clear hgl; have HB2 := Aside0.mk hb; clear hr hb) | (go_at_call 13; refine (armillaryref00_EqBytes.calls _ _ l1 _ _ l1 _ _ (Kd.C_below HC2.out HB2.out) Hc2.out (Kd.C_below HR.out (below_then HB1.out HB1.out.size HB2.out)) HC.out HE.out).mono ?_; rintro e w' ⟨rfl, ⟨nd, rfl⟩⟩) | (go_at_call 36; refine (num_at w1.heap.size g l1 0 (w2.drewN nd) HRd.out _ _ _ H4.out).mono ?_; rintro e w3 ⟨rfl, hr, hk⟩; have HR3 := Aside0.mk hr; have HK3 := Aside0.mk hk; clear hr hk) | (go_at_call 31; refine (err_yes _ _ _ _ _ HR3.out).mono ?_; rintro e w' ⟨rfl, rfl⟩) | (go_at_call 29; refine (left_yes _ _ _ _ _ HR3.out).mono ?_; rintro e w' ⟨rfl, rfl⟩))
    go_ret
    have h1 := HB1.out.size
    have h2 := HGL.out
    exact ⟨rfl, ((below_then HB1.out h1 HB2.out).trans (pw_below_drewN (Below.refl _ _) nd)).trans (HK3.out.below (by omega))⟩
  · rw [if_neg hn] at h
    cases h
def failsOk (e : Int) (l : List Int) : Bool := okB l && decide (l.length < 1000) && decide ((WireP.num (l, 0)).1 = 0) && decide ((WireP.num (l, 0)).2.2 = e) && decide (e ≠ 0)
def armillarylaw01_fails.f (e : Int) (l : List Int) : Option Bool := if failsOk e l = true then some true else none
set_option maxHeartbeats 4000000 in
set_option maxRecDepth 100000 in
theorem armillarylaw01_fails.calls (a0 : Int) (A1_ : Option Addr) (c1 : Nat) (l1 : List Int) (r : Bool) (w : World) (hr1 : Kd.C (Kd.int .u8) w A1_ l1.length l1) (hc1 : l1.length ≤ c1) (h : armillarylaw01_fails.f a0 l1 = some r) :
    Calls Try.prog 42 #[.int .i64 a0, .slice A1_ l1.length c1] w fun e w' => e = .returned (.bool r) ∧ Below w.heap.size w w' := by
  have HR := Aside0.mk hr1
  have HC := Aside0.mk hc1
  clear hr1 hc1
  unfold armillarylaw01_fails.f at h
  by_cases hn : failsOk a0 l1 = true
  · rw [if_pos hn] at h
    obtain rfl := Option.some.inj h
    unfold failsOk at hn
    simp only [Bool.and_eq_true, decide_eq_true_eq] at hn
    obtain ⟨⟨⟨⟨h1, h2⟩, h3⟩, h4⟩, h5⟩ := hn
    obtain ⟨⟨x, bb, e1⟩, hq⟩ : ∃ R, WireP.num (l1, 0) = R := ⟨_, rfl⟩
    rw [hq] at h3 h4
    have h3' : x = 0 := h3
    have h4' : e1 = a0 := h4
    subst h3' h4'
    have H1 := Aside0.mk h1
    have H2 := Aside0.mk h2
    have HQ := Aside0.mk hq
    have H5 : Aside0 (left bb e1 = 0) := ⟨if_neg h5⟩
    clear h h1 h2 h3 h4 h5 hq
    go_enter Try.func42, Try.ntmps42
    go_wp2_with (first | (go_at_call 26; refine (newReader_yes _ _ l1 _ HR.out HC.out (by have := H2.out; omega) H1.out).mono ?_; rintro e w2 ⟨g, rfl, hgl, hr, hb⟩; have HGL := Aside0.mk hgl; have HRd := Aside0.mk hr; clear hgl; have HB2 := Aside0.mk hb; clear hr hb) | (go_at_call 36; refine (num_at w.heap.size g l1 0 _ HRd.out _ _ _ HQ.out).mono ?_; rintro e w3 ⟨rfl, hr, hk⟩; have HR3 := Aside0.mk hr; have HK3 := Aside0.mk hk; clear hr hk) | (go_at_call 31; refine (err_yes _ _ _ _ _ HR3.out).mono ?_; rintro e w' ⟨rfl, rfl⟩) | (go_at_call 29; refine (left_yes _ _ _ _ _ HR3.out).mono ?_; rw [H5.out]; rintro e w' ⟨rfl, rfl⟩))
    go_ret
    exact ⟨rfl, HB2.out.trans (HK3.out.below HGL.out)⟩
  · rw [if_neg hn] at h
    cases h
end Go.Proofs.Ytcpnjlagmnlecaa.B1
