/- A thing is read by the program's reader and by the document's. -/
import Derived.Test.YtcpnjlagmnlecaaProg
import Derived.Below
import Derived.Deep.Draws
import Derived.Deep.AppendLies
import Derived.Maps.AppendAt
import Derived.OwnWalk
import Derived.Laws.BytesArg
import Derived.Laws.MakeOwn
import Derived.Laws.OwnMore
import Derived.Deep.OwnRows
import Derived.Tactics
import Derived.Lib.ConvBytes
import Derived.Laws.Slices
import Derived.WalkKit
import Derived.KernelRfl
import Derived.RowKit3
import Derived.Deep.LoopGhost
import Derived.Deep.QuietTactic
import Derived.BigQuiet
import Derived.WideLaws
import Derived.Deep.DeepCutAuto
import Derived.Deep.CutBlock
import Derived.Deep.RegionHeld3
import Derived.Laws.Rows
import Derived.Lib.AppendStr
import Derived.ArgAppend
import Derived.Laws.IdiomCopy
import Derived.OrdersHeld
import Derived.Laws.BitsLemmas
import Derived.RowKit
import Derived.WalkSpells
import Derived.Laws.CopyOwn
import Derived.Test.YtcpnjlagmnlecaaWWords
import Derived.Test.YtcpnjlagmnlecaaWLast
import Derived.Test.YtcpnjlagmnlecaaWMore
import Derived.Test.YtcpnjlagmnlecaaHx3
import Derived.Test.YtcpnjlagmnlecaaA11
namespace Go.Proofs.Ytcpnjlagmnlecaa.B3
open Go.RowKit Go.Proofs.YtcpnjlagmnlecaaW.PrintWords Go.Proofs.YtcpnjlagmnlecaaW.PrintLast Go.Proofs.YtcpnjlagmnlecaaW.PrintMore Go.Proofs.Ytcpnjlagmnlecaa Go.Proofs.Ytcpnjlagmnlecaa.A2 Go.Proofs.Ytcpnjlagmnlecaa.A3 Go.Proofs.Ytcpnjlagmnlecaa.A4 Go.Proofs.Ytcpnjlagmnlecaa.A5 Go.Proofs.Ytcpnjlagmnlecaa.A6 Go.Proofs.Ytcpnjlagmnlecaa.A7 Go.Proofs.Ytcpnjlagmnlecaa.A11
set_option linter.unusedVariables false
set_option linter.unusedSimpArgs false
theorem bring_some (a n : Int) (h0 : 0 < n) (h1 : n ≤ 9223372036854775807) : ∃ r, H.armillaryref00_Bring.f a n = some r ∧ 0 ≤ r ∧ r < n := by
  unfold H.armillaryref00_Bring.f
  rw [if_neg (by omega)]
  have hlt := Int.tmod_lt_of_pos a h0
  have hgt : -n < Int.tmod a n := by
    have := Int.lt_tmod_of_pos a h0
    omega
  split
  · refine ⟨_, rfl, ?_, ?_⟩ <;> unfold wrap64 <;> omega
  · exact ⟨_, rfl, by omega, hlt⟩
theorem eqInts_l0 (l : List Int) (hl : l.length ≤ 1000000) : ∀ (d i : Nat), i + d = l.length → H.armillaryref00_EqInts.l0 (d + 1) l l i = some true := by
  intro d
  induction d with
  | zero => intro i hi; rw [H.armillaryref00_EqInts.l0, if_neg (by omega)]
  | succ d ih =>
    intro i hi
    rw [H.armillaryref00_EqInts.l0, if_pos (by omega), if_pos (by omega), if_pos (by omega), if_pos rfl, show wrap64 ((i : Int) + 1) = ((i + 1 : Nat) : Int) by unfold wrap64; omega]
    exact ih (i + 1) (by omega)
theorem eqInts (l : List Int) (hl : l.length ≤ 1000000) : H.armillaryref00_EqInts.f (l.length + 1) l l = some true := by
  unfold H.armillaryref00_EqInts.f
  rw [if_pos rfl]
  exact eqInts_l0 l hl l.length 0 (by omega)
theorem eqTexts_l0 (l : List ByteArray) (hl : l.length ≤ 1000000) : ∀ (d i : Nat), i + d = l.length → H.armillaryref00_EqTexts.l0 (d + 1) l l i = some true := by
  intro d
  induction d with
  | zero => intro i hi; rw [H.armillaryref00_EqTexts.l0, if_neg (by omega)]
  | succ d ih =>
    intro i hi
    rw [H.armillaryref00_EqTexts.l0, if_pos (by omega), if_pos (by omega), if_pos (by omega), if_pos rfl, show wrap64 ((i : Int) + 1) = ((i + 1 : Nat) : Int) by unfold wrap64; omega]
    exact ih (i + 1) (by omega)
theorem eqTexts (l : List ByteArray) (hl : l.length ≤ 1000000) : H.armillaryref00_EqTexts.f (l.length + 1) l l = some true := by
  unfold H.armillaryref00_EqTexts.f
  rw [if_pos rfl]
  exact eqTexts_l0 l hl l.length 0 (by omega)
theorem elems_len {α : Type} (one : List Int × Int → α × List Int × Int) : ∀ (k : Nat) (s : List Int × Int) (out : List α), (WireP.elems one k s out).1.length ≤ out.length + k := by
  intro k
  induction k with
  | zero => intro s out; exact Nat.le_refl _
  | succ k ih =>
    intro s out
    rw [elems_succ]
    split
    · simp
    · have := ih (one s).2 (out ++ [(one s).1])
      simp only [List.length_append, List.length_singleton] at this
      omega
theorem list_len {α : Type} (one : List Int × Int → α × List Int × Int) (s : List Int × Int) : (WireP.list one s).1.length ≤ 8000 := by
  rw [list_eq]
  have h1 := elems_len one (WireP.many 8000 s).1.toNat (WireP.many 8000 s).2 []
  have h2 := many_le 8000 s (by omega)
  simp only [List.length_nil] at h1
  omega
theorem R_at2 {α : Type} {d : Kd α} {w : World} {base : Nat} {l : List α} {A : Option Addr} {n c : Nat} {e : Nat} {ok : Nat → Prop} (h : Kd.R d e w base ok (.slice A n c) l) : ∀ ad, A = some ad → base ≤ ad.block ∧ ad.block < w.heap.size := by
  obtain ⟨inner, hi⟩ := Kd.R_own h
  rintro ad rfl
  exact ⟨own_base hi ad.block (by simp [Value.ownBlock]), own_lt hi ad.block (by simp [Value.ownBlock])⟩
/-- A row that is read from blocks that stay. -/
theorem C_block2 {α : Type} {d : Kd α} {w w1 : World} {A : Option Addr} {l : List α} (hK : ∀ x cs, d.K w x cs → d.K w1 x cs) (h : Kd.C d w A l.length l) (hb : ∀ ad, A = some ad → w1.heap[ad.block]? = w.heap[ad.block]?) : Kd.C d w1 A l.length l := by
  obtain ⟨h1, h2, h3⟩ := h
  refine ⟨h1, h2, fun hn => ?_⟩
  obtain ⟨ad, rfl, hc⟩ := h3 hn
  refine ⟨ad, rfl, fun j p hj => ?_⟩
  obtain ⟨c, hl, hk, hcell⟩ := hc j p hj
  refine ⟨c, hl, hK _ _ hk, fun i u hu => ?_⟩
  rw [← hcell i u hu]
  have e : ∀ n, (ad.add n).block = ad.block := fun n => by unfold Addr.add; split <;> rfl
  unfold World.cell?
  rw [e, hb ad rfl]
/-- Both readers at one state. -/
structure Two (W : World) (l1 g1 l2 g2 : Nat) (s : List Int × Int) : Prop where
  r : Rd W l1 g1 s.1 s.2
  m : Rm W l2 g2 s.1 s.2
  apart : g1 < l2
  low : l2 ≤ g2
set_option maxHeartbeats 4000000 in
set_option maxRecDepth 100000 in
theorem read_num (l1 g1 l2 g2 : Nat) (s : List Int × Int) (k : Int) (w : World) (h : Two w l1 g1 l2 g2 s) (hk : H.armillaryref00_Bring.f k 5 = some 0) :
    Calls Try.prog 28 #[.pointer (some ⟨g1, 0, none⟩), .pointer (some ⟨g2, 0, none⟩), .int .i64 k] w fun en w' => en = .returned (.bool true) ∧ (∃ s', Two w' l1 g1 l2 g2 s') ∧ Below g1 w w' := by
  obtain ⟨hr, hm, hgg, hlo⟩ := h
  have HR := Aside0.mk hr
  have HM := Aside0.mk hm
  have HGG := Aside0.mk hgg
  have HLO := Aside0.mk hlo
  have HBr := Aside0.mk hk
  have HGL := Aside0.mk hr.lt
  clear hr hm hgg hlo hk
  obtain ⟨b, e⟩ := s
  obtain ⟨⟨n, bb, e1⟩, hq⟩ : ∃ R, WireP.num (b, e) = R := ⟨_, rfl⟩
  have HQ := Aside0.mk hq
  clear hq
  go_enter Try.func28, Try.ntmps28
  go_wp2_with (first | (go_at_call 15; refine (H.armillaryref00_Bring.calls _ 5 _ _ HBr.out).mono ?_; rintro e w' ⟨rfl, ⟨nd, rfl⟩⟩) | (go_at_call 36; refine (num_at l1 g1 b e (w.drewN nd) HR.out _ _ _ HQ.out).mono ?_; rintro e w1 ⟨rfl, hr, hk⟩; have HK1 := Aside0.mk (((Kp.refl w g1).drewN nd).trans hk); have HR1 := Aside0.mk hr; have HM1 := Aside0.mk (Rm.keep HM.out HK1.out (by have := HGG.out; have := HLO.out; omega) (by have := HGG.out; omega)); clear hr hk) | (go_at_call 51; refine (rnum _ _ _ _ _ HM1.out _ _ _ HQ.out).mono ?_; rintro e w2 ⟨rfl, hr, hk⟩; have HM2 := Aside0.mk hr; have HR2 := Aside0.mk (Rd.keep HR1.out hk (by have := HGG.out; have := HLO.out; omega) (.inr (by have := HGG.out; have := HLO.out; omega))); have HB2 := Aside0.mk ((HK1.out.below (Nat.le_refl _)).trans (hk.below (by have := HGG.out; have := HLO.out; omega))); clear hr hk))
  go_ret
  exact ⟨rfl, ⟨(bb, e1), HR2.out, HM2.out, HGG.out, HLO.out⟩, HB2.out⟩
set_option maxHeartbeats 4000000 in
set_option maxRecDepth 100000 in
theorem read_text (l1 g1 l2 g2 : Nat) (s : List Int × Int) (k : Int) (w : World) (h : Two w l1 g1 l2 g2 s) (hk : H.armillaryref00_Bring.f k 5 = some 1) :
    Calls Try.prog 28 #[.pointer (some ⟨g1, 0, none⟩), .pointer (some ⟨g2, 0, none⟩), .int .i64 k] w fun en w' => en = .returned (.bool true) ∧ (∃ s', Two w' l1 g1 l2 g2 s') ∧ Below g1 w w' := by
  obtain ⟨hr, hm, hgg, hlo⟩ := h
  have HR := Aside0.mk hr
  have HM := Aside0.mk hm
  have HGG := Aside0.mk hgg
  have HLO := Aside0.mk hlo
  have HBr := Aside0.mk hk
  have HGL := Aside0.mk hr.lt
  clear hr hm hgg hlo hk
  obtain ⟨b, e⟩ := s
  obtain ⟨⟨n, bb, e1⟩, hq⟩ : ∃ R, textS (b, e) = R := ⟨_, rfl⟩
  have HQ := Aside0.mk hq
  clear hq
  go_enter Try.func28, Try.ntmps28
  go_wp2_with (first | (go_at_call 15; refine (H.armillaryref00_Bring.calls _ 5 _ _ HBr.out).mono ?_; rintro e w' ⟨rfl, ⟨nd, rfl⟩⟩) | (go_at_call 37; refine (text_at l1 g1 b e (w.drewN nd) HR.out _ _ _ HQ.out).mono ?_; rintro e w1 ⟨rfl, hr, hk⟩; have HK1 := Aside0.mk (((Kp.refl w g1).drewN nd).trans hk); have HR1 := Aside0.mk hr; have HM1 := Aside0.mk (Rm.keep HM.out HK1.out (by have := HGG.out; have := HLO.out; omega) (by have := HGG.out; omega)); clear hr hk) | (go_at_call 52; refine (rtext _ _ _ _ _ HM1.out _ _ _ HQ.out).mono ?_; rintro e w2 ⟨rfl, hr, hk⟩; have HM2 := Aside0.mk hr; have HR2 := Aside0.mk (Rd.keep HR1.out hk (by have := HGG.out; have := HLO.out; omega) (.inr (by have := HGG.out; have := HLO.out; omega))); have HB2 := Aside0.mk ((HK1.out.below (Nat.le_refl _)).trans (hk.below (by have := HGG.out; have := HLO.out; omega))); clear hr hk))
  go_ret
  exact ⟨rfl, ⟨(bb, e1), HR2.out, HM2.out, HGG.out, HLO.out⟩, HB2.out⟩
set_option maxHeartbeats 4000000 in
set_option maxRecDepth 100000 in
theorem read_nums (l1 g1 l2 g2 : Nat) (s : List Int × Int) (k : Int) (w : World) (h : Two w l1 g1 l2 g2 s) (hk : H.armillaryref00_Bring.f k 5 = some 2) :
    Calls Try.prog 28 #[.pointer (some ⟨g1, 0, none⟩), .pointer (some ⟨g2, 0, none⟩), .int .i64 k] w fun en w' => en = .returned (.bool true) ∧ (∃ s', Two w' l1 g1 l2 g2 s') ∧ Below g1 w w' := by
  obtain ⟨hr, hm, hgg, hlo⟩ := h
  have HR := Aside0.mk hr
  have HM := Aside0.mk hm
  have HGG := Aside0.mk hgg
  have HLO := Aside0.mk hlo
  have HBr := Aside0.mk hk
  have HGL := Aside0.mk hr.lt
  clear hr hm hgg hlo hk
  obtain ⟨b, e⟩ := s
  have HLen := Aside0.mk (list_len WireP.num (b, e))
  obtain ⟨⟨n, bb, e1⟩, hq⟩ : ∃ R, WireP.list WireP.num (b, e) = R := ⟨_, rfl⟩
  have HQ := Aside0.mk hq
  rw [hq] at HLen
  clear hq
  go_enter Try.func28, Try.ntmps28
  go_wp2_with (first | (go_at_call 15; refine (H.armillaryref00_Bring.calls _ 5 _ _ HBr.out).mono ?_; rintro e w' ⟨rfl, ⟨nd, rfl⟩⟩) | (go_at_call 38; refine (nums_yes l1 g1 b e (w.drewN nd) HR.out).mono ?_; rw [HQ.out]; rintro e w1 ⟨v1, rfl, hv, hr, hk⟩; obtain ⟨A1, c1, ev, hc1, hC1⟩ := Kd.R_reads hv; rw [ev] at hv; have hA1 := R_at2 hv; rw [ev]; have HA1 := Aside0.mk (show ∀ ad, A1 = some ad → w.heap.size ≤ ad.block ∧ ad.block < w1.heap.size from hA1); have HC1 := Aside0.mk hC1; have Hc1 := Aside0.mk hc1; clear hv ev hA1 hC1 hc1; have HK1 := Aside0.mk (((Kp.refl w g1).drewN nd).trans hk); have HR1 := Aside0.mk hr; have HM1 := Aside0.mk (Rm.keep HM.out HK1.out (by have := HGG.out; have := HLO.out; omega) (by have := HGG.out; omega)); clear hr hk) | (go_at_call 54; refine (rnums _ _ b e _ HM1.out).mono ?_; rw [HQ.out]; rintro e w2 ⟨v2, rfl, hv, hr, hk⟩; obtain ⟨A2, c2, ev, hc2, hC2⟩ := Kd.R_reads hv; rw [ev]; have HC2 := Aside0.mk hC2; have Hc2 := Aside0.mk hc2; have HC1' := Aside0.mk (C_block2 (w := w1) (w1 := w2) (fun _ _ h => h) HC1.out (fun ad ea => hk.block (HA1.out ad ea).2 (by have h1 := (HA1.out ad ea).1; have h2 := HM.out.lt; omega))); clear hv ev hC2 hc2; have HM2 := Aside0.mk hr; have HR2 := Aside0.mk (Rd.keep HR1.out hk (by have := HGG.out; have := HLO.out; omega) (.inr (by have := HGG.out; have := HLO.out; omega))); have HB2 := Aside0.mk ((HK1.out.below (Nat.le_refl _)).trans (hk.below (by have := HGG.out; have := HLO.out; omega))); clear hr hk) | (go_at_call 53; refine (H.armillaryref00_EqInts.calls _ _ _ n _ _ n true _ HC1'.out Hc1.out HC2.out Hc2.out (eqInts n (by have := HLen.out; omega))).mono ?_; rintro e w' ⟨rfl, ⟨nd2, rfl⟩⟩))
  go_ret
  exact ⟨rfl, ⟨(bb, e1), HR2.out, HM2.out, HGG.out, HLO.out⟩, pw_below_drewN HB2.out nd2⟩
set_option maxHeartbeats 4000000 in
set_option maxRecDepth 100000 in
theorem read_texts (l1 g1 l2 g2 : Nat) (s : List Int × Int) (k : Int) (w : World) (h : Two w l1 g1 l2 g2 s) (hk : H.armillaryref00_Bring.f k 5 = some 3) :
    Calls Try.prog 28 #[.pointer (some ⟨g1, 0, none⟩), .pointer (some ⟨g2, 0, none⟩), .int .i64 k] w fun en w' => en = .returned (.bool true) ∧ (∃ s', Two w' l1 g1 l2 g2 s') ∧ Below g1 w w' := by
  obtain ⟨hr, hm, hgg, hlo⟩ := h
  have HR := Aside0.mk hr
  have HM := Aside0.mk hm
  have HGG := Aside0.mk hgg
  have HLO := Aside0.mk hlo
  have HBr := Aside0.mk hk
  have HGL := Aside0.mk hr.lt
  clear hr hm hgg hlo hk
  obtain ⟨b, e⟩ := s
  have HLen := Aside0.mk (list_len textS (b, e))
  obtain ⟨⟨n, bb, e1⟩, hq⟩ : ∃ R, WireP.list textS (b, e) = R := ⟨_, rfl⟩
  have HQ := Aside0.mk hq
  rw [hq] at HLen
  clear hq
  go_enter Try.func28, Try.ntmps28
  go_wp2_with (first | (go_at_call 15; refine (H.armillaryref00_Bring.calls _ 5 _ _ HBr.out).mono ?_; rintro e w' ⟨rfl, ⟨nd, rfl⟩⟩) | (go_at_call 39; refine (texts_yes l1 g1 b e (w.drewN nd) HR.out).mono ?_; rw [HQ.out]; rintro e w1 ⟨v1, rfl, hv, hr, hk⟩; obtain ⟨A1, c1, ev, hc1, hC1⟩ := Kd.R_reads hv; rw [ev] at hv; have hA1 := R_at2 hv; rw [ev]; have HA1 := Aside0.mk (show ∀ ad, A1 = some ad → w.heap.size ≤ ad.block ∧ ad.block < w1.heap.size from hA1); have HC1 := Aside0.mk hC1; have Hc1 := Aside0.mk hc1; clear hv ev hA1 hC1 hc1; have HK1 := Aside0.mk (((Kp.refl w g1).drewN nd).trans hk); have HR1 := Aside0.mk hr; have HM1 := Aside0.mk (Rm.keep HM.out HK1.out (by have := HGG.out; have := HLO.out; omega) (by have := HGG.out; omega)); clear hr hk) | (go_at_call 56; refine (rtexts _ _ b e _ HM1.out).mono ?_; rw [HQ.out]; rintro e w2 ⟨v2, rfl, hv, hr, hk⟩; obtain ⟨A2, c2, ev, hc2, hC2⟩ := Kd.R_reads hv; rw [ev]; have HC2 := Aside0.mk hC2; have Hc2 := Aside0.mk hc2; have HC1' := Aside0.mk (C_block2 (w := w1) (w1 := w2) (fun _ _ h => h) HC1.out (fun ad ea => hk.block (HA1.out ad ea).2 (by have h1 := (HA1.out ad ea).1; have h2 := HM.out.lt; omega))); clear hv ev hC2 hc2; have HM2 := Aside0.mk hr; have HR2 := Aside0.mk (Rd.keep HR1.out hk (by have := HGG.out; have := HLO.out; omega) (.inr (by have := HGG.out; have := HLO.out; omega))); have HB2 := Aside0.mk ((HK1.out.below (Nat.le_refl _)).trans (hk.below (by have := HGG.out; have := HLO.out; omega))); clear hr hk) | (go_at_call 55; refine (H.armillaryref00_EqTexts.calls _ _ _ n _ _ n true _ HC1'.out Hc1.out HC2.out Hc2.out (eqTexts n (by have := HLen.out; omega))).mono ?_; rintro e w' ⟨rfl, ⟨nd2, rfl⟩⟩))
  go_ret
  exact ⟨rfl, ⟨(bb, e1), HR2.out, HM2.out, HGG.out, HLO.out⟩, pw_below_drewN HB2.out nd2⟩
set_option maxHeartbeats 4000000 in
set_option maxRecDepth 100000 in
theorem read_end (l1 g1 l2 g2 : Nat) (s : List Int × Int) (k : Int) (w : World) (h : Two w l1 g1 l2 g2 s) (hk : H.armillaryref00_Bring.f k 5 = some 4) :
    Calls Try.prog 28 #[.pointer (some ⟨g1, 0, none⟩), .pointer (some ⟨g2, 0, none⟩), .int .i64 k] w fun en w' => en = .returned (.bool true) ∧ (∃ s', Two w' l1 g1 l2 g2 s') ∧ Below g1 w w' := by
  obtain ⟨hr, hm, hgg, hlo⟩ := h
  have HR := Aside0.mk hr
  have HM := Aside0.mk hm
  have HGG := Aside0.mk hgg
  have HLO := Aside0.mk hlo
  have HBr := Aside0.mk hk
  have HGL := Aside0.mk hr.lt
  clear hr hm hgg hlo hk
  obtain ⟨b, e⟩ := s
  go_enter Try.func28, Try.ntmps28
  go_wp2_with (first | (go_at_call 15; refine (H.armillaryref00_Bring.calls _ 5 _ _ HBr.out).mono ?_; rintro e w' ⟨rfl, ⟨nd, rfl⟩⟩) | (go_at_call 32; refine (end_yes l1 g1 b e (w.drewN nd) HR.out).mono ?_; rintro e w1 ⟨rfl, hr, hk⟩; have HK1 := Aside0.mk (((Kp.refl w g1).drewN nd).trans hk); have HR1 := Aside0.mk hr; have HM1 := Aside0.mk (Rm.keep HM.out HK1.out (by have := HGG.out; have := HLO.out; omega) (by have := HGG.out; omega)); clear hr hk) | (go_at_call 33; refine (rend _ _ _ _ _ HM1.out).mono ?_; rintro e w2 ⟨rfl, hr, hk⟩; have HM2 := Aside0.mk hr; have HR2 := Aside0.mk (Rd.keep HR1.out hk (by have := HGG.out; have := HLO.out; omega) (.inr (by have := HGG.out; have := HLO.out; omega))); have HB2 := Aside0.mk ((HK1.out.below (Nat.le_refl _)).trans (hk.below (by have := HGG.out; have := HLO.out; omega))); clear hr hk))
  go_ret
  exact ⟨rfl, ⟨(b, ended b e), HR2.out, HM2.out, HGG.out, HLO.out⟩, HB2.out⟩
theorem read_yes (l1 g1 l2 g2 : Nat) (s : List Int × Int) (k : Int) (w : World) (h : Two w l1 g1 l2 g2 s) :
    Calls Try.prog 28 #[.pointer (some ⟨g1, 0, none⟩), .pointer (some ⟨g2, 0, none⟩), .int .i64 k] w fun en w' => en = .returned (.bool true) ∧ (∃ s', Two w' l1 g1 l2 g2 s') ∧ Below g1 w w' := by
  obtain ⟨r, hr, h0, h5⟩ := bring_some k 5 (by omega) (by omega)
  rcases (show r = 0 ∨ r = 1 ∨ r = 2 ∨ r = 3 ∨ r = 4 by omega) with rfl | rfl | rfl | rfl | rfl
  · exact read_num l1 g1 l2 g2 s k w h hr
  · exact read_text l1 g1 l2 g2 s k w h hr
  · exact read_nums l1 g1 l2 g2 s k w h hr
  · exact read_texts l1 g1 l2 g2 s k w h hr
  · exact read_end l1 g1 l2 g2 s k w h hr
end Go.Proofs.Ytcpnjlagmnlecaa.B3
