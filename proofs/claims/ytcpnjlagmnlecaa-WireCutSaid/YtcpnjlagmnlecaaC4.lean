/- got: a row's thing read. -/
import Derived.Test.YtcpnjlagmnlecaaProg
import Derived.Below
import Derived.Deep.Draws
import Derived.Deep.AppendLies
import Derived.Maps.AppendAt
import Derived.OwnWalk
import Derived.Laws.BytesArg
import Derived.Laws.MakeOwn
import Derived.Laws.OwnMore
import Derived.Deep.OwnRows
import Derived.Tactics
import Derived.Lib.ConvBytes
import Derived.Laws.Slices
import Derived.WalkKit
import Derived.KernelRfl
import Derived.RowKit3
import Derived.Deep.LoopGhost
import Derived.Deep.QuietTactic
import Derived.BigQuiet
import Derived.WideLaws
import Derived.Deep.DeepCutAuto
import Derived.Deep.CutBlock
import Derived.Deep.RegionHeld3
import Derived.Laws.Rows
import Derived.Lib.AppendStr
import Derived.ArgAppend
import Derived.Laws.IdiomCopy
import Derived.OrdersHeld
import Derived.Laws.BitsLemmas
import Derived.RowKit
import Derived.WalkSpells
import Derived.Laws.CopyOwn
import Derived.Test.YtcpnjlagmnlecaaWWords
import Derived.Test.YtcpnjlagmnlecaaWLast
import Derived.Test.YtcpnjlagmnlecaaWMore
import Derived.Test.YtcpnjlagmnlecaaC3
import Derived.Test.YtcpnjlagmnlecaaB3
import Derived.Test.YtcpnjlagmnlecaaWTab
namespace Go.Proofs.Ytcpnjlagmnlecaa.C4
open Go.RowKit Go.Proofs.YtcpnjlagmnlecaaW.PrintWords Go.Proofs.YtcpnjlagmnlecaaW.PrintLast Go.Proofs.YtcpnjlagmnlecaaW.PrintMore Go.Proofs.Ytcpnjlagmnlecaa Go.Proofs.Ytcpnjlagmnlecaa.A2 Go.Proofs.Ytcpnjlagmnlecaa.A3 Go.Proofs.Ytcpnjlagmnlecaa.A4 Go.Proofs.Ytcpnjlagmnlecaa.A5 Go.Proofs.Ytcpnjlagmnlecaa.A6 Go.Proofs.Ytcpnjlagmnlecaa.B3 Go.Proofs.Ytcpnjlagmnlecaa.C1 Go.Proofs.Ytcpnjlagmnlecaa.C2
set_option linter.unusedVariables false
set_option linter.unusedSimpArgs false
def gt3.T3 : Bool × List (List Nat × List Nat) := (true, [([], []), ([0], [0]), ([], []), ([2], [2]), ([3, 1], [3]), ([1, 4], [1, 4]), ([5, 4, 0, 1, 2, 3, 4, 5], [5])])
def gt3.B3 : List Nat := [0, 1, 0, 4, 15, 31, 63]
theorem gt3.tab3 : rtab .any (opsOf Try.f35 3) = gt3.T3 := by kernel_rfl
theorem gt3.bits3 : waitsOk gt3.T3.2 gt3.B3 = true := by kernel_rfl
def gt5.T5 : Bool × List (List Nat × List Nat) := (true, [([], []), ([0], [0]), ([], []), ([2], [2]), ([], []), ([4], [4]), ([5], [5]), ([6], [6]), ([3, 7], [3, 7]), ([1, 8], [1, 8]), ([9, 1, 0, 1, 2, 3, 4, 5, 6, 7, 8, 9], [9])])
def gt5.B5 : List Nat := [0, 1, 0, 4, 0, 16, 48, 112, 252, 511, 1023]
theorem gt5.tab5 : rtab .any (opsOf Try.f35 5) = gt5.T5 := by kernel_rfl
theorem gt5.bits5 : waitsOk gt5.T5.2 gt5.B5 = true := by kernel_rfl
def gt7.T7 : Bool × List (List Nat × List Nat) := (true, [([], []), ([0], [0]), ([], []), ([2], [2]), ([3, 1], [3]), ([1, 4, 4], [1, 4]), ([5, 5, 0, 1, 2, 3, 4, 5], [5])])
def gt7.B7 : List Nat := [0, 1, 0, 4, 15, 31, 63]
theorem gt7.tab7 : rtab .any (opsOf Try.f35 7) = gt7.T7 := by kernel_rfl
theorem gt7.bits7 : waitsOk gt7.T7.2 gt7.B7 = true := by kernel_rfl
def gt8.T8 : Bool × List (List Nat × List Nat) := (true, [([], []), ([0], [0]), ([], []), ([2, 1], [2]), ([1, 3, 3], [1, 3]), ([4, 4, 0, 1, 2, 3, 4], [4])])
def gt8.B8 : List Nat := [0, 1, 0, 7, 15, 31]
theorem gt8.tab8 : rtab .any (opsOf Try.f35 8) = gt8.T8 := by kernel_rfl
theorem gt8.bits8 : waitsOk gt8.T8.2 gt8.B8 = true := by kernel_rfl
theorem eqInts_x0 (a b : List Int) (ha : a.length ≤ 1000000) (he : a.length = b.length) : ∀ (d i : Nat), i + d = a.length → ∃ r, H.armillaryref00_EqInts.l0 (d + 1) a b i = some r := by
  intro d
  induction d with
  | zero => intro i hi; exact ⟨true, by rw [H.armillaryref00_EqInts.l0, if_neg (by omega)]⟩
  | succ d ih =>
    intro i hi
    rw [H.armillaryref00_EqInts.l0, if_pos (by omega), if_pos (by omega), if_pos (by omega), show wrap64 ((i : Int) + 1) = ((i + 1 : Nat) : Int) by unfold wrap64; omega]
    by_cases h : rd a (i : Int) = rd b (i : Int)
    · rw [if_pos h]; exact ih (i + 1) (by omega)
    · rw [if_neg h]; exact ⟨false, rfl⟩
theorem eqInts_x (a b : List Int) (ha : a.length ≤ 1000000) : ∃ r, H.armillaryref00_EqInts.f (a.length + 1) a b = some r ∧ (a = b → r = true) := by
  by_cases h : a = b
  · subst h; exact ⟨true, eqInts a ha, fun _ => rfl⟩
  · by_cases he : a.length = b.length
    · obtain ⟨r, hr⟩ := eqInts_x0 a b ha he a.length 0 (by omega)
      exact ⟨r, by unfold H.armillaryref00_EqInts.f; rw [if_pos (by omega)]; exact hr, fun e => absurd e h⟩
    · exact ⟨false, by unfold H.armillaryref00_EqInts.f; rw [if_neg (by omega)], fun e => absurd e h⟩
theorem eqTexts_x0 (a b : List ByteArray) (ha : a.length ≤ 1000000) (he : a.length = b.length) : ∀ (d i : Nat), i + d = a.length → ∃ r, H.armillaryref00_EqTexts.l0 (d + 1) a b i = some r := by
  intro d
  induction d with
  | zero => intro i hi; exact ⟨true, by rw [H.armillaryref00_EqTexts.l0, if_neg (by omega)]⟩
  | succ d ih =>
    intro i hi
    rw [H.armillaryref00_EqTexts.l0, if_pos (by omega), if_pos (by omega), if_pos (by omega), show wrap64 ((i : Int) + 1) = ((i + 1 : Nat) : Int) by unfold wrap64; omega]
    by_cases h : (rdOf ByteArray.empty a (i : Int)).toList = (rdOf ByteArray.empty b (i : Int)).toList
    · rw [if_pos h]; exact ih (i + 1) (by omega)
    · rw [if_neg h]; exact ⟨false, rfl⟩
theorem eqTexts_x (a b : List ByteArray) (ha : a.length ≤ 1000000) : ∃ r, H.armillaryref00_EqTexts.f (a.length + 1) a b = some r ∧ (a = b → r = true) := by
  by_cases h : a = b
  · subst h; exact ⟨true, eqTexts a ha, fun _ => rfl⟩
  · by_cases he : a.length = b.length
    · obtain ⟨r, hr⟩ := eqTexts_x0 a b ha he a.length 0 (by omega)
      exact ⟨r, by unfold H.armillaryref00_EqTexts.f; rw [if_pos (by omega)]; exact hr, fun e => absurd e h⟩
    · exact ⟨false, by unfold H.armillaryref00_EqTexts.f; rw [if_neg (by omega)], fun e => absurd e h⟩
theorem nums_at (lo g : Nat) (b : List Int) (e : Int) (w : World) (h : Rd w lo g b e) (nv : List Int) (bb : List Int) (e1 : Int) (hq : WireP.list WireP.num (b, e) = (nv, bb, e1)) :
    Calls Try.prog 38 #[.pointer (some ⟨g, 0, none⟩)] w fun en w' => ∃ A2 c2, en = .returned (.slice A2 nv.length c2) ∧ nv.length ≤ c2 ∧ Kd.C (Kd.int .i64) w' A2 nv.length nv ∧ Rd w' lo g bb e1 ∧ Kp w w' g := by
  refine (nums_yes lo g b e w h).mono ?_
  rw [hq]
  rintro en w1 ⟨v1, rfl, hv, hr, hk⟩
  obtain ⟨A2, c2, ev, hc2, hC2⟩ := Kd.R_reads hv
  subst ev
  exact ⟨A2, c2, rfl, hc2, hC2, hr, hk⟩
theorem texts_at (lo g : Nat) (b : List Int) (e : Int) (w : World) (h : Rd w lo g b e) (nv : List ByteArray) (bb : List Int) (e1 : Int) (hq : WireP.list textS (b, e) = (nv, bb, e1)) :
    Calls Try.prog 39 #[.pointer (some ⟨g, 0, none⟩)] w fun en w' => ∃ A2 c2, en = .returned (.slice A2 nv.length c2) ∧ nv.length ≤ c2 ∧ Kd.C Kd.string w' A2 nv.length nv ∧ Rd w' lo g bb e1 ∧ Kp w w' g := by
  refine (texts_yes lo g b e w h).mono ?_
  rw [hq]
  rintro en w1 ⟨v1, rfl, hv, hr, hk⟩
  obtain ⟨A2, c2, ev, hc2, hC2⟩ := Kd.R_reads hv
  subst ev
  exact ⟨A2, c2, rfl, hc2, hC2, hr, hk⟩
def gotS (x : H.S57) (s : List Int × Int) : List Int × Int :=
  if kindOf x.f0 = 0 then (WireP.num s).2 else if kindOf x.f0 = 1 then (textS s).2 else if kindOf x.f0 = 2 then (WireP.list WireP.num s).2 else (WireP.list textS s).2
def gotG (x : H.S57) (s : List Int × Int) : Prop :=
  if kindOf x.f0 = 0 then (WireP.num s).1 = bringI x.f1 9007199254740992 else if kindOf x.f0 = 1 then (textS s).1 = cut300 x.f2 else if kindOf x.f0 = 2 then (WireP.list WireP.num s).1 = numsP x.f3 else (WireP.list textS s).1 = textsP x.f2 x.f3
set_option maxHeartbeats 8000000 in
set_option maxRecDepth 100000 in
theorem got_yes (lo g : Nat) (b : List Int) (e : Int) (x : H.S57) (A1 : Option Addr) (c1 : Nat) (w0 w : World) (h : Rd w lo g b e) (hr1 : Kd.C (Kd.int .i64) w0 A1 x.f3.length x.f3) (hc1 : x.f3.length ≤ c1) (hb0 : Below w0.heap.size w0 w) (hgg : w0.heap.size ≤ g) :
    Calls Try.prog 35 #[.pointer (some ⟨g, 0, none⟩), .agg #[.int .i64 x.f0, .int .i64 x.f1, .string x.f2, .slice A1 x.f3.length c1]] w fun en w' => ∃ r : Bool, en = .returned (.bool r) ∧ (gotG x (b, e) → r = true) ∧ Rd w' lo g (gotS x (b, e)).1 (gotS x (b, e)).2 ∧ Kp w w' g := by
  obtain ⟨k, n, s, l1⟩ := x
  have HR0 := Aside0.mk (show Kd.C (Kd.int .i64) w0 A1 l1.length l1 from hr1)
  have HC0 := Aside0.mk (show l1.length ≤ c1 from hc1)
  have HB0 := Aside0.mk hb0
  have HGg := Aside0.mk hgg
  have HGl := Aside0.mk h.lt
  have HNl := Aside0.mk (numbered_f l1 hr1.2.1)
  have hk := bring_f k 4 (by omega) (by omega)
  have hn := bring_f n 9007199254740992 (by omega) (by omega)
  obtain ⟨nn, hnn⟩ : ∃ nn, nn = bringI n 9007199254740992 := ⟨_, rfl⟩
  rw [← hnn] at hn
  have HNn := Aside0.mk hnn
  have HBn := Aside0.mk hn.1
  obtain ⟨kk, hkk⟩ : ∃ kk, kk = bringI k 4 := ⟨_, rfl⟩
  rw [← hkk] at hk
  have HBk := Aside0.mk hk.1
  have HKk := Aside0.mk (show kindOf k = kk from hkk.symm)
  have h4 := hk.2
  have hG0 := heap_alloc_new w (.cells #[.int .i64 k, .int .i64 n, .string s, .slice A1 l1.length c1] 57)
  have hW := below_alloc (Below.refl w.heap.size w) (.cells #[.int .i64 k, .int .i64 n, .string s, .slice A1 l1.length c1] 57)
  have hR := h
  clear hr1 hc1 hb0 hgg hk hn hnn hkk h
  show Calls Try.prog 35 #[.pointer (some ⟨g, 0, none⟩), .agg #[.int .i64 k, .int .i64 n, .string s, .slice A1 l1.length c1]] w _
  have HG0 := Aside0.mk hG0
  have HW := Aside0.mk hW
  have HR := Aside0.mk hR
  clear hG0 hW hR
  go_enter Try.func35, Try.ntmps35
  rcases (show kk = 0 ∨ kk = 1 ∨ kk = 2 ∨ kk = 3 by omega) with rfl | rfl | rfl | rfl
  · obtain ⟨⟨nv, bb, e1⟩, hq⟩ : ∃ R, WireP.num (b, e) = R := ⟨_, rfl⟩
    have HP1 := Aside0.mk (show gotS ⟨k, n, s, l1⟩ (b, e) = (bb, e1) by unfold gotS; rw [if_pos HKk.out, hq])
    have HP2 := Aside0.mk (show gotG ⟨k, n, s, l1⟩ (b, e) → nv = nn by unfold gotG; rw [if_pos HKk.out, hq, HNn.out]; exact fun h => h)
    have HQ := Aside0.mk hq
    clear hq h4
    go_wp2_with (fail)
    refine (H.armillaryref00_Bring.calls k 4 _ _ HBk.out).mono ?_
    rintro en w' ⟨rfl, ⟨nd, rfl⟩⟩
    have hW2 := pw_below_drewN HW.out nd
    have hG2 : ((w.alloc (.cells #[.int .i64 k, .int .i64 n, .string s, .slice A1 l1.length c1] 57)).drewN nd).heap[w.heap.size]? = _ := HG0.out
    generalize (w.alloc (.cells #[.int .i64 k, .int .i64 n, .string s, .slice A1 l1.length c1] 57)).drewN nd = Wb at hW2 hG2 ⊢
    have HKd := Aside0.mk (show Kp w Wb.drew g from Kp.of_below (below_drew1 hW2) (Nat.le_of_lt HGl.out))
    have HRd := Aside0.mk (HR.out.below (below_drew1 hW2))
    have HGd := Aside0.mk (show Wb.drew.heap[w.heap.size]? = _ from hG2)
    have HSz := Aside0.mk (blk_lt HGd.out)
    have p0 : Wb.drew.cell? ⟨w.heap.size, 0, none⟩ = some (.int .i64 k) := (blk_cell HGd.out 0).trans rfl
    have p1 : Wb.drew.cell? ⟨w.heap.size, 1, none⟩ = some (.int .i64 n) := (blk_cell HGd.out 1).trans rfl
    have p2 : Wb.drew.cell? ⟨w.heap.size, 2, none⟩ = some (.string s) := (blk_cell HGd.out 2).trans rfl
    have p3 : Wb.drew.cell? ⟨w.heap.size, 3, none⟩ = some (.slice A1 l1.length c1) := (blk_cell HGd.out 3).trans rfl
    clear hW2 hG2
    go_wp2_with (fail)
    refine start_ (n := 7) (S := fun w' => w'.cell? ⟨w.heap.size, 1, none⟩ = some (.int .i64 n)) (ds := []) #[false, false, false, false, false, false, false] (by kernel_rfl) rfl rfl (p1) (fun hHeld => ?_)
    refine with_tabW gt3.tab3 gt3.bits3 (fun HT_ HW_ => ?_)
    refine pure_ (i := 0) (N := some 10) (v := ?_) (a' := ?_) #[true, false, false, false, false, false, false] rfl rfl (any_of HT_.out (by kernel_rfl)) (fun _ _ _ h => h) (Or.inl ⟨by rfl, ?_⟩) ?_ ?_
    rotate_left
    · intro w'
      go_simp
      with_reducible rfl
    rotate_left
    · simp only [Act.put, List.setIfInBounds_toArray, List.set_cons_zero, List.set_cons_succ, i64_w, i32_w]
      rfl
    refine pure_ (i := 2) (N := some 12) (v := ?_) (a' := ?_) #[true, false, true, false, false, false, false] rfl rfl (any_of HT_.out (by kernel_rfl)) (fun _ _ _ h => h) (Or.inl ⟨by rfl, ?_⟩) ?_ ?_
    rotate_left
    · intro w'
      go_simp
      with_reducible rfl
    rotate_left
    · simp only [Act.put, List.setIfInBounds_toArray, List.set_cons_zero, List.set_cons_succ, i64_w, i32_w]
      rfl
    refine take_ (i := 3) (N := some 13) (v := ?_) (a' := ?_) #[true, false, true, true, false, false, false] rfl rfl (take_ofW HT_.out HW_.out (by kernel_rfl)) (fun _ _ _ h => h) (Or.inl ⟨by rfl, ?_⟩) hHeld ?_ ?_
    rotate_left
    · intro w' s0
      go_simp
      with_reducible rfl
    rotate_left
    · simp only [Act.put, List.setIfInBounds_toArray, List.set_cons_zero, List.set_cons_succ, i64_w, i32_w]
      rfl
    refine one_ (i := 1) (N := some 11) #[true, true, true, true, false, false, false] rfl rfl (one_of HT_.out (by kernel_rfl)) (by decide) (fun K hK => ?_)
    refine goes_ Try.func36 (by kernel_rfl) rfl #[.pointer (some ⟨g, 0, none⟩)] (by rfl) rfl rfl (by simp only [List.map_toArray, List.map_cons, List.map_nil]; rfl) ?_
    with_reducible refine (num_at lo g b e _ HRd.out _ _ _ HQ.out).mono ?_
    rintro en w1 ⟨rfl, hr, hk⟩
    refine ⟨_, rfl, ?_⟩
    have HR1 := Aside0.mk hr
    have HK1 := Aside0.mk (HKd.out.trans hk)
    have hG1 : w1.heap[w.heap.size]? = _ := (hk.block (by have := HSz.out; omega) (by have := HGl.out; omega)).trans HGd.out
    have q1 : w1.cell? ⟨w.heap.size, 1, none⟩ = some (.int .i64 n) := (blk_cell hG1 1).trans rfl
    refine hK.out _ _ (q1) (fun hHeld => ?_)
    clear hK K
    refine norm_ (a' := ?_) ?_ ?_
    rotate_left
    · show Act.put _ (some 11) _ = _
      simp only [Act.put, List.setIfInBounds_toArray, List.set_cons_zero, List.set_cons_succ, i64_w, i32_w]
      rfl
    refine one_ (i := 4) (N := some 14) #[true, true, true, true, true, false, false] rfl rfl (one_of HT_.out (by kernel_rfl)) (by decide) (fun K hK => ?_)
    refine goes_ Try.func15 (by kernel_rfl) rfl #[.int .i64 n, .int .i64 9007199254740992] (by rfl) rfl rfl (by simp only [List.map_toArray, List.map_cons, List.map_nil]; rfl) ?_
    with_reducible refine (H.armillaryref00_Bring.calls n 9007199254740992 nn w1 HBn.out).mono ?_
    rintro en w2 ⟨rfl, ⟨nd2, rfl⟩⟩
    refine ⟨_, rfl, ?_⟩
    refine hK.out _ _ (q1) (fun hHeld => ?_)
    clear hK K
    refine norm_ (a' := ?_) ?_ ?_
    rotate_left
    · show Act.put _ (some 14) _ = _
      simp only [Act.put, List.setIfInBounds_toArray, List.set_cons_zero, List.set_cons_succ, i64_w, i32_w]
      rfl
    refine pure_ (i := 5) (N := some 15) (v := ?_) (a' := ?_) #[true, true, true, true, true, true, false] rfl rfl (any_of HT_.out (by kernel_rfl)) (fun _ _ _ h => h) (Or.inl ⟨by rfl, ?_⟩) ?_ ?_
    rotate_left
    · intro w'
      go_simp
      with_reducible rfl
    rotate_left
    · simp only [Act.put, List.setIfInBounds_toArray, List.set_cons_zero, List.set_cons_succ, i64_w, i32_w]
      rfl
    refine pure_ (i := 6) (N := some 4) (v := ?_) (a' := ?_) #[true, true, true, true, true, true, true] rfl rfl (any_of HT_.out (by kernel_rfl)) (fun _ _ _ h => h) (Or.inl ⟨by rfl, ?_⟩) ?_ ?_
    rotate_left
    · intro w'
      go_simp
      with_reducible rfl
    rotate_left
    · simp only [Act.put, List.setIfInBounds_toArray, List.set_cons_zero, List.set_cons_succ, i64_w, i32_w]
      rfl
    refine done_ (done_of HT_.out (by kernel_rfl)) ?_
    go_wp2_with (fail)
    go_ret
    exact ⟨nv == nn, rfl, fun h_ => by rw [HP2.out h_]; exact beq_self_eq_true _, by rw [HP1.out]; exact HR1.out.below (pw_below_drewN (Below.refl _ _) nd2), HK1.out.drewN nd2⟩
  · obtain ⟨⟨nv, bb, e1⟩, hq⟩ : ∃ R, textS (b, e) = R := ⟨_, rfl⟩
    have HP1 := Aside0.mk (show gotS ⟨k, n, s, l1⟩ (b, e) = (bb, e1) by unfold gotS; rw [if_neg (by rw [HKk.out]; decide), if_pos HKk.out, hq])
    have HP2 := Aside0.mk (show gotG ⟨k, n, s, l1⟩ (b, e) → nv = cut300 s by unfold gotG; rw [if_neg (by rw [HKk.out]; decide), if_pos HKk.out, hq]; exact fun h => h)
    have HQ := Aside0.mk hq
    obtain ⟨js, hjs⟩ : ∃ j_ : Int, (mn (s.size : Int) 300) = j_ := ⟨_, rfl⟩
    have b1 : 0 ≤ js := by rw [← hjs]; unfold mn; (repeat' split) <;> omega
    have b2 : js ≤ (s.size : Int) := by rw [← hjs]; unfold mn; (repeat' split) <;> omega
    have hjs_ : (if 300 < (s.size : Int) then 300 else (s.size : Int)) = js := hjs
    have d1 : decide (0 ≤ js) = true := decide_eq_true b1
    have d2 : decide (js ≤ (s.size : Int)) = true := decide_eq_true b2
    have HS := Aside0.mk (show s.extract 0 js.toNat = cut300 s by unfold cut300; rw [hjs])
    have b1e := eq_true b1
    have b2e := eq_true b2
    clear b1 b2
    clear hq h4
    go_wp2_with (fail)
    refine (H.armillaryref00_Bring.calls k 4 _ _ HBk.out).mono ?_
    rintro en w' ⟨rfl, ⟨nd, rfl⟩⟩
    have hW2 := pw_below_drewN HW.out nd
    have hG2 : ((w.alloc (.cells #[.int .i64 k, .int .i64 n, .string s, .slice A1 l1.length c1] 57)).drewN nd).heap[w.heap.size]? = _ := HG0.out
    generalize (w.alloc (.cells #[.int .i64 k, .int .i64 n, .string s, .slice A1 l1.length c1] 57)).drewN nd = Wb at hW2 hG2 ⊢
    have HKd := Aside0.mk (show Kp w Wb.drew g from Kp.of_below (below_drew1 hW2) (Nat.le_of_lt HGl.out))
    have HRd := Aside0.mk (HR.out.below (below_drew1 hW2))
    have HGd := Aside0.mk (show Wb.drew.heap[w.heap.size]? = _ from hG2)
    have HSz := Aside0.mk (blk_lt HGd.out)
    have p0 : Wb.drew.cell? ⟨w.heap.size, 0, none⟩ = some (.int .i64 k) := (blk_cell HGd.out 0).trans rfl
    have p1 : Wb.drew.cell? ⟨w.heap.size, 1, none⟩ = some (.int .i64 n) := (blk_cell HGd.out 1).trans rfl
    have p2 : Wb.drew.cell? ⟨w.heap.size, 2, none⟩ = some (.string s) := (blk_cell HGd.out 2).trans rfl
    have p3 : Wb.drew.cell? ⟨w.heap.size, 3, none⟩ = some (.slice A1 l1.length c1) := (blk_cell HGd.out 3).trans rfl
    clear hW2 hG2
    go_wp2_with (fail)
    refine start_ (n := 11) (S := fun w' => w'.cell? ⟨w.heap.size, 2, none⟩ = some (.string s)) (ds := []) #[false, false, false, false, false, false, false, false, false, false, false] (by kernel_rfl) rfl rfl (p2) (fun hHeld => ?_)
    refine with_tabW gt5.tab5 gt5.bits5 (fun HT_ HW_ => ?_)
    refine pure_ (i := 0) (N := some 18) (v := ?_) (a' := ?_) #[true, false, false, false, false, false, false, false, false, false, false] rfl rfl (any_of HT_.out (by kernel_rfl)) (fun _ _ _ h => h) (Or.inl ⟨by rfl, ?_⟩) ?_ ?_
    rotate_left
    · intro w'
      go_simp
      with_reducible rfl
    rotate_left
    · simp only [Act.put, List.setIfInBounds_toArray, List.set_cons_zero, List.set_cons_succ, i64_w, i32_w]
      rfl
    refine pure_ (i := 2) (N := some 20) (v := ?_) (a' := ?_) #[true, false, true, false, false, false, false, false, false, false, false] rfl rfl (any_of HT_.out (by kernel_rfl)) (fun _ _ _ h => h) (Or.inl ⟨by rfl, ?_⟩) ?_ ?_
    rotate_left
    · intro w'
      go_simp
      with_reducible rfl
    rotate_left
    · simp only [Act.put, List.setIfInBounds_toArray, List.set_cons_zero, List.set_cons_succ, i64_w, i32_w]
      rfl
    refine pure_ (i := 4) (N := some 22) (v := ?_) (a' := ?_) #[true, false, true, false, true, false, false, false, false, false, false] rfl rfl (any_of HT_.out (by kernel_rfl)) (fun _ _ _ h => h) (Or.inl ⟨by rfl, ?_⟩) ?_ ?_
    rotate_left
    · intro w'
      go_simp
      with_reducible rfl
    rotate_left
    · simp only [Act.put, List.setIfInBounds_toArray, List.set_cons_zero, List.set_cons_succ, i64_w, i32_w]
      rfl
    refine take_ (i := 3) (N := some 21) (v := ?_) (a' := ?_) #[true, false, true, true, true, false, false, false, false, false, false] rfl rfl (take_ofW HT_.out HW_.out (by kernel_rfl)) (fun _ _ _ h => h) (Or.inl ⟨by rfl, ?_⟩) hHeld ?_ ?_
    rotate_left
    · intro w' s0
      go_simp
      with_reducible rfl
    rotate_left
    · simp only [Act.put, List.setIfInBounds_toArray, List.set_cons_zero, List.set_cons_succ, i64_w, i32_w]
      rfl
    refine take_ (i := 5) (N := some 23) (v := ?_) (a' := ?_) #[true, false, true, true, true, true, false, false, false, false, false] rfl rfl (take_ofW HT_.out HW_.out (by kernel_rfl)) (fun _ _ _ h => h) (Or.inl ⟨by rfl, ?_⟩) hHeld ?_ ?_
    rotate_left
    · intro w' s0
      go_simp
      with_reducible rfl
    rotate_left
    · simp only [Act.put, List.setIfInBounds_toArray, List.set_cons_zero, List.set_cons_succ, i64_w, i32_w]
      rfl
    refine pure_ (i := 6) (N := some 24) (v := ?_) (a' := ?_) #[true, false, true, true, true, true, true, false, false, false, false] rfl rfl (any_of HT_.out (by kernel_rfl)) (fun _ _ _ h => h) (Or.inl ⟨by rfl, ?_⟩) ?_ ?_
    rotate_left
    · intro w'
      go_simp
      with_reducible rfl
    rotate_left
    · simp only [Act.put, List.setIfInBounds_toArray, List.set_cons_zero, List.set_cons_succ, i64_w, i32_w]
      rfl
    refine pure_ (i := 7) (N := some 25) (v := ?_) (a' := ?_) #[true, false, true, true, true, true, true, true, false, false, false] rfl rfl (any_of HT_.out (by kernel_rfl)) (fun _ _ _ h => h) (Or.inl ⟨by rfl, ?_⟩) ?_ ?_
    rotate_left
    · intro w'
      go_simp
      with_reducible rfl
    rotate_left
    · simp only [Act.put, List.setIfInBounds_toArray, List.set_cons_zero, List.set_cons_succ, i64_w, i32_w]
      rfl
    refine pure_ (i := 8) (N := some 26) (v := ?_) (a' := ?_) #[true, false, true, true, true, true, true, true, true, false, false] rfl rfl (any_of HT_.out (by kernel_rfl)) (fun _ _ _ h => h) (Or.inl ⟨by rfl, ?_⟩) ?_ ?_
    rotate_left
    · intro w'
      go_simp
      with_reducible rfl
    rotate_left
    · simp only [Act.put, List.setIfInBounds_toArray, List.set_cons_zero, List.set_cons_succ, i64_w, i32_w]
      rfl
    refine one_ (i := 1) (N := some 19) #[true, true, true, true, true, true, true, true, true, false, false] rfl rfl (one_of HT_.out (by kernel_rfl)) (by decide) (fun K hK => ?_)
    refine goes_ Try.func37 (by kernel_rfl) rfl #[.pointer (some ⟨g, 0, none⟩)] (by rfl) rfl rfl (by simp only [List.map_toArray, List.map_cons, List.map_nil]; rfl) ?_
    with_reducible refine (text_at lo g b e _ HRd.out _ _ _ HQ.out).mono ?_
    rintro en w1 ⟨rfl, hr, hk⟩
    refine ⟨_, rfl, ?_⟩
    have HR1 := Aside0.mk hr
    have HK1 := Aside0.mk (HKd.out.trans hk)
    have hG1 : w1.heap[w.heap.size]? = _ := (hk.block (by have := HSz.out; omega) (by have := HGl.out; omega)).trans HGd.out
    have q2 : w1.cell? ⟨w.heap.size, 2, none⟩ = some (.string s) := (blk_cell hG1 2).trans rfl
    refine hK.out _ _ (q2) (fun hHeld => ?_)
    clear hK K
    refine norm_ (a' := ?_) ?_ ?_
    rotate_left
    · show Act.put _ (some 19) _ = _
      simp only [Act.put, List.setIfInBounds_toArray, List.set_cons_zero, List.set_cons_succ, i64_w, i32_w]
      rfl
    refine pure_ (i := 9) (N := some 27) (v := ?_) (a' := ?_) #[true, true, true, true, true, true, true, true, true, true, false] rfl rfl (any_of HT_.out (by kernel_rfl)) (fun _ _ _ h => h) (Or.inl ⟨by rfl, ?_⟩) ?_ ?_
    rotate_left
    · intro w'
      go_simp
      with_reducible rfl
    rotate_left
    · simp only [Act.put, List.setIfInBounds_toArray, List.set_cons_zero, List.set_cons_succ, i64_w, i32_w]
      rfl
    refine pure_ (i := 10) (N := some 4) (v := ?_) (a' := ?_) #[true, true, true, true, true, true, true, true, true, true, true] rfl rfl (any_of HT_.out (by kernel_rfl)) (fun _ _ _ h => h) (Or.inl ⟨by rfl, ?_⟩) ?_ ?_
    rotate_left
    · intro w'
      go_simp
      with_reducible rfl
    rotate_left
    · simp only [Act.put, List.setIfInBounds_toArray, List.set_cons_zero, List.set_cons_succ, i64_w, i32_w]
      rfl
    refine done_ (done_of HT_.out (by kernel_rfl)) ?_
    go_wp2_with (fail)
    rw [HS.out]
    go_ret
    exact ⟨_, rfl, fun h_ => by rw [HP2.out h_]; exact beq_self_eq_true _, by rw [HP1.out]; exact HR1.out, HK1.out⟩
  · obtain ⟨⟨nv, bb, e1⟩, hq⟩ : ∃ R, WireP.list WireP.num (b, e) = R := ⟨_, rfl⟩
    have HP1 := Aside0.mk (show gotS ⟨k, n, s, l1⟩ (b, e) = (bb, e1) by unfold gotS; rw [if_neg (by rw [HKk.out]; decide), if_neg (by rw [HKk.out]; decide), if_pos HKk.out, hq])
    have HP2 := Aside0.mk (show gotG ⟨k, n, s, l1⟩ (b, e) → nv = numsP l1 by unfold gotG; rw [if_neg (by rw [HKk.out]; decide), if_neg (by rw [HKk.out]; decide), if_pos HKk.out, hq]; exact fun h => h)
    have HQ := Aside0.mk hq
    have hL := list_len WireP.num (b, e)
    rw [hq] at hL
    obtain ⟨re, he1, he2⟩ := eqInts_x nv (numsP l1) (by have : nv.length ≤ 8000 := hL; omega)
    have HEq := Aside0.mk he1
    have HEr := Aside0.mk he2
    clear hq h4 hL he1 he2
    go_wp2_with (fail)
    refine (H.armillaryref00_Bring.calls k 4 _ _ HBk.out).mono ?_
    rintro en w' ⟨rfl, ⟨nd, rfl⟩⟩
    have hW2 := pw_below_drewN HW.out nd
    have hG2 : ((w.alloc (.cells #[.int .i64 k, .int .i64 n, .string s, .slice A1 l1.length c1] 57)).drewN nd).heap[w.heap.size]? = _ := HG0.out
    generalize (w.alloc (.cells #[.int .i64 k, .int .i64 n, .string s, .slice A1 l1.length c1] 57)).drewN nd = Wb at hW2 hG2 ⊢
    have HKd := Aside0.mk (show Kp w Wb.drew g from Kp.of_below (below_drew1 hW2) (Nat.le_of_lt HGl.out))
    have HRd := Aside0.mk (HR.out.below (below_drew1 hW2))
    have HGd := Aside0.mk (show Wb.drew.heap[w.heap.size]? = _ from hG2)
    have HSz := Aside0.mk (blk_lt HGd.out)
    have p0 : Wb.drew.cell? ⟨w.heap.size, 0, none⟩ = some (.int .i64 k) := (blk_cell HGd.out 0).trans rfl
    have p1 : Wb.drew.cell? ⟨w.heap.size, 1, none⟩ = some (.int .i64 n) := (blk_cell HGd.out 1).trans rfl
    have p2 : Wb.drew.cell? ⟨w.heap.size, 2, none⟩ = some (.string s) := (blk_cell HGd.out 2).trans rfl
    have p3 : Wb.drew.cell? ⟨w.heap.size, 3, none⟩ = some (.slice A1 l1.length c1) := (blk_cell HGd.out 3).trans rfl
    clear hW2 hG2
    go_wp2_with (fail)
    refine start_ (n := 7) (S := fun w' => w'.cell? ⟨w.heap.size, 3, none⟩ = some (.slice A1 l1.length c1)) (ds := []) #[false, false, false, false, false, false, false] (by kernel_rfl) rfl rfl (p3) (fun hHeld => ?_)
    refine with_tabW gt7.tab7 gt7.bits7 (fun HT_ HW_ => ?_)
    refine pure_ (i := 0) (N := some 30) (v := ?_) (a' := ?_) #[true, false, false, false, false, false, false] rfl rfl (any_of HT_.out (by kernel_rfl)) (fun _ _ _ h => h) (Or.inl ⟨by rfl, ?_⟩) ?_ ?_
    rotate_left
    · intro w'
      go_simp
      with_reducible rfl
    rotate_left
    · simp only [Act.put, List.setIfInBounds_toArray, List.set_cons_zero, List.set_cons_succ, i64_w, i32_w]
      rfl
    refine pure_ (i := 2) (N := some 32) (v := ?_) (a' := ?_) #[true, false, true, false, false, false, false] rfl rfl (any_of HT_.out (by kernel_rfl)) (fun _ _ _ h => h) (Or.inl ⟨by rfl, ?_⟩) ?_ ?_
    rotate_left
    · intro w'
      go_simp
      with_reducible rfl
    rotate_left
    · simp only [Act.put, List.setIfInBounds_toArray, List.set_cons_zero, List.set_cons_succ, i64_w, i32_w]
      rfl
    refine take_ (i := 3) (N := some 33) (v := ?_) (a' := ?_) #[true, false, true, true, false, false, false] rfl rfl (take_ofW HT_.out HW_.out (by kernel_rfl)) (fun _ _ _ h => h) (Or.inl ⟨by rfl, ?_⟩) hHeld ?_ ?_
    rotate_left
    · intro w' s0
      go_simp
      with_reducible rfl
    rotate_left
    · simp only [Act.put, List.setIfInBounds_toArray, List.set_cons_zero, List.set_cons_succ, i64_w, i32_w]
      rfl
    refine one_ (i := 1) (N := some 31) #[true, true, true, true, false, false, false] rfl rfl (one_of HT_.out (by kernel_rfl)) (by decide) (fun K hK => ?_)
    refine goes_ Try.func38 (by kernel_rfl) rfl #[.pointer (some ⟨g, 0, none⟩)] (by rfl) rfl rfl (by simp only [List.map_toArray, List.map_cons, List.map_nil]; rfl) ?_
    with_reducible refine (nums_at lo g b e _ HRd.out _ _ _ HQ.out).mono ?_
    rintro en w1 ⟨A2, c2, rfl, hc2, hC2, hr, hk⟩
    refine ⟨_, rfl, ?_⟩
    have HC2 := Aside0.mk hC2
    have Hc2 := Aside0.mk hc2
    have HR1 := Aside0.mk hr
    have HK1 := Aside0.mk (HKd.out.trans hk)
    have hG1 : w1.heap[w.heap.size]? = _ := (hk.block (by have := HSz.out; omega) (by have := HGl.out; omega)).trans HGd.out
    have q3 : w1.cell? ⟨w.heap.size, 3, none⟩ = some (.slice A1 l1.length c1) := (blk_cell hG1 3).trans rfl
    refine hK.out _ _ (q3) (fun hHeld => ?_)
    clear hK K
    refine norm_ (a' := ?_) ?_ ?_
    rotate_left
    · show Act.put _ (some 31) _ = _
      simp only [Act.put, List.setIfInBounds_toArray, List.set_cons_zero, List.set_cons_succ, i64_w, i32_w]
      rfl
    refine one_ (i := 4) (N := some 34) #[true, true, true, true, true, false, false] rfl rfl (one_of HT_.out (by kernel_rfl)) (by decide) (fun K hK => ?_)
    refine goes_ Try.func60 (by kernel_rfl) rfl #[.slice A1 l1.length c1] (by rfl) rfl rfl (by simp only [List.map_toArray, List.map_cons, List.map_nil]; rfl) ?_
    with_reducible refine (H.armillarylaw01_numbered.calls 21 A1 c1 l1 (numsP l1) w1 (Kd.C_below HR0.out (HB0.out.trans ((HK1.out.below (Nat.le_refl _)).mono HGg.out))) HC0.out HNl.out).mono ?_
    rintro en w2 ⟨v2, rfl, hr2, hb2⟩
    refine ⟨_, rfl, ?_⟩
    obtain ⟨A3, c3, rfl⟩ := Kd.R_slice hr2
    have HO2 := Aside0.mk hr2
    have HB2 := Aside0.mk hb2
    have q3_ : w2.cell? ⟨w.heap.size, 3, none⟩ = some (.slice A1 l1.length c1) := (blk_cell ((hb2.block _ (blk_lt hG1)).trans hG1) 3).trans rfl
    have HR2 := Aside0.mk (HR1.out.below hb2)
    refine hK.out _ _ (q3_) (fun hHeld => ?_)
    clear hK K
    refine norm_ (a' := ?_) ?_ ?_
    rotate_left
    · show Act.put _ (some 34) _ = _
      simp only [Act.put, List.setIfInBounds_toArray, List.set_cons_zero, List.set_cons_succ, i64_w, i32_w]
      rfl
    refine one_ (i := 5) (N := some 35) #[true, true, true, true, true, true, false] rfl rfl (one_of HT_.out (by kernel_rfl)) (by decide) (fun K hK => ?_)
    refine goes_ Try.func53 (by kernel_rfl) rfl #[.slice A2 nv.length c2, .slice A3 (numsP l1).length c3] (by rfl) rfl rfl (by simp only [List.map_toArray, List.map_cons, List.map_nil]; rfl) ?_
    with_reducible refine (H.armillaryref00_EqInts.calls _ A2 c2 nv A3 c3 (numsP l1) re w2 (Kd.C_below HC2.out HB2.out) Hc2.out (Kd.R_reads' HO2.out).2.2 (Kd.R_reads' HO2.out).2.1 HEq.out).mono ?_
    rintro en w3 ⟨rfl, ⟨nd3, rfl⟩⟩
    refine ⟨_, rfl, ?_⟩
    refine hK.out _ _ (q3_) (fun hHeld => ?_)
    clear hK K
    refine norm_ (a' := ?_) ?_ ?_
    rotate_left
    · show Act.put _ (some 35) _ = _
      simp only [Act.put, List.setIfInBounds_toArray, List.set_cons_zero, List.set_cons_succ, i64_w, i32_w]
      rfl
    refine pure_ (i := 6) (N := some 4) (v := ?_) (a' := ?_) #[true, true, true, true, true, true, true] rfl rfl (any_of HT_.out (by kernel_rfl)) (fun _ _ _ h => h) (Or.inl ⟨by rfl, ?_⟩) ?_ ?_
    rotate_left
    · intro w'
      go_simp
      with_reducible rfl
    rotate_left
    · simp only [Act.put, List.setIfInBounds_toArray, List.set_cons_zero, List.set_cons_succ, i64_w, i32_w]
      rfl
    refine done_ (done_of HT_.out (by kernel_rfl)) ?_
    go_wp2_with (fail)
    go_ret
    exact ⟨re, rfl, fun h_ => HEr.out (HP2.out h_), by rw [HP1.out]; exact HR2.out.below (pw_below_drewN (Below.refl _ _) nd3), (Kp.then_ HK1.out (HB2.out.mono HK1.out.size) (Nat.le_of_lt HGl.out)).drewN nd3⟩
  · obtain ⟨⟨nv, bb, e1⟩, hq⟩ : ∃ R, WireP.list textS (b, e) = R := ⟨_, rfl⟩
    have HP1 := Aside0.mk (show gotS ⟨k, n, s, l1⟩ (b, e) = (bb, e1) by unfold gotS; rw [if_neg (by rw [HKk.out]; decide), if_neg (by rw [HKk.out]; decide), if_neg (by rw [HKk.out]; decide), hq])
    have HP2 := Aside0.mk (show gotG ⟨k, n, s, l1⟩ (b, e) → nv = textsP s l1 by unfold gotG; rw [if_neg (by rw [HKk.out]; decide), if_neg (by rw [HKk.out]; decide), if_neg (by rw [HKk.out]; decide), hq]; exact fun h => h)
    have HQ := Aside0.mk hq
    have hL := list_len textS (b, e)
    rw [hq] at hL
    obtain ⟨re, he1, he2⟩ := eqTexts_x nv (textsP s l1) (by have : nv.length ≤ 8000 := hL; omega)
    have HEq := Aside0.mk he1
    have HEr := Aside0.mk he2
    clear hq h4 hL he1 he2
    go_wp2_with (fail)
    refine (H.armillaryref00_Bring.calls k 4 _ _ HBk.out).mono ?_
    rintro en w' ⟨rfl, ⟨nd, rfl⟩⟩
    have hW2 := pw_below_drewN HW.out nd
    have hG2 : ((w.alloc (.cells #[.int .i64 k, .int .i64 n, .string s, .slice A1 l1.length c1] 57)).drewN nd).heap[w.heap.size]? = _ := HG0.out
    generalize (w.alloc (.cells #[.int .i64 k, .int .i64 n, .string s, .slice A1 l1.length c1] 57)).drewN nd = Wb at hW2 hG2 ⊢
    have HKd := Aside0.mk (show Kp w Wb.drew g from Kp.of_below (below_drew1 hW2) (Nat.le_of_lt HGl.out))
    have HRd := Aside0.mk (HR.out.below (below_drew1 hW2))
    have HGd := Aside0.mk (show Wb.drew.heap[w.heap.size]? = _ from hG2)
    have HSz := Aside0.mk (blk_lt HGd.out)
    have p0 : Wb.drew.cell? ⟨w.heap.size, 0, none⟩ = some (.int .i64 k) := (blk_cell HGd.out 0).trans rfl
    have p1 : Wb.drew.cell? ⟨w.heap.size, 1, none⟩ = some (.int .i64 n) := (blk_cell HGd.out 1).trans rfl
    have p2 : Wb.drew.cell? ⟨w.heap.size, 2, none⟩ = some (.string s) := (blk_cell HGd.out 2).trans rfl
    have p3 : Wb.drew.cell? ⟨w.heap.size, 3, none⟩ = some (.slice A1 l1.length c1) := (blk_cell HGd.out 3).trans rfl
    clear hW2 hG2
    go_wp2_with (fail)
    refine start_ (n := 6) (S := fun w' => w'.cell? ⟨w.heap.size, 0, none⟩ = some (.int .i64 k) ∧ w'.cell? ⟨w.heap.size, 1, none⟩ = some (.int .i64 n) ∧ w'.cell? ⟨w.heap.size, 2, none⟩ = some (.string s) ∧ w'.cell? ⟨w.heap.size, 3, none⟩ = some (.slice A1 l1.length c1)) (ds := []) #[false, false, false, false, false, false] (by kernel_rfl) rfl rfl ⟨p0, p1, p2, p3⟩ (fun hHeld => ?_)
    refine with_tabW gt8.tab8 gt8.bits8 (fun HT_ HW_ => ?_)
    refine pure_ (i := 0) (N := some 36) (v := ?_) (a' := ?_) #[true, false, false, false, false, false] rfl rfl (any_of HT_.out (by kernel_rfl)) (fun _ _ _ h => h) (Or.inl ⟨by rfl, ?_⟩) ?_ ?_
    rotate_left
    · intro w'
      go_simp
      with_reducible rfl
    rotate_left
    · simp only [Act.put, List.setIfInBounds_toArray, List.set_cons_zero, List.set_cons_succ, i64_w, i32_w]
      rfl
    refine take_ (i := 2) (N := some 38) (v := ?_) (a' := ?_) #[true, false, true, false, false, false] rfl rfl (take_ofW HT_.out HW_.out (by kernel_rfl)) (fun _ _ _ h => h) (Or.inl ⟨by rfl, ?_⟩) hHeld ?_ ?_
    rotate_left
    · rintro w' ⟨s0, s1, s2, s3⟩
      go_simp
      with_reducible rfl
    rotate_left
    · simp only [Act.put, List.setIfInBounds_toArray, List.set_cons_zero, List.set_cons_succ, i64_w, i32_w]
      rfl
    refine one_ (i := 1) (N := some 37) #[true, true, true, false, false, false] rfl rfl (one_of HT_.out (by kernel_rfl)) (by decide) (fun K hK => ?_)
    refine goes_ Try.func39 (by kernel_rfl) rfl #[.pointer (some ⟨g, 0, none⟩)] (by rfl) rfl rfl (by simp only [List.map_toArray, List.map_cons, List.map_nil]; rfl) ?_
    with_reducible refine (texts_at lo g b e _ HRd.out _ _ _ HQ.out).mono ?_
    rintro en w1 ⟨A2, c2, rfl, hc2, hC2, hr, hk⟩
    refine ⟨_, rfl, ?_⟩
    have HC2 := Aside0.mk hC2
    have Hc2 := Aside0.mk hc2
    have HR1 := Aside0.mk hr
    have HK1 := Aside0.mk (HKd.out.trans hk)
    have hG1 : w1.heap[w.heap.size]? = _ := (hk.block (by have := HSz.out; omega) (by have := HGl.out; omega)).trans HGd.out
    have q0 : w1.cell? ⟨w.heap.size, 0, none⟩ = some (.int .i64 k) := (blk_cell hG1 0).trans rfl
    have q1 : w1.cell? ⟨w.heap.size, 1, none⟩ = some (.int .i64 n) := (blk_cell hG1 1).trans rfl
    have q2 : w1.cell? ⟨w.heap.size, 2, none⟩ = some (.string s) := (blk_cell hG1 2).trans rfl
    have q3 : w1.cell? ⟨w.heap.size, 3, none⟩ = some (.slice A1 l1.length c1) := (blk_cell hG1 3).trans rfl
    refine hK.out _ _ ⟨q0, q1, q2, q3⟩ (fun hHeld => ?_)
    clear hK K
    refine norm_ (a' := ?_) ?_ ?_
    rotate_left
    · show Act.put _ (some 37) _ = _
      simp only [Act.put, List.setIfInBounds_toArray, List.set_cons_zero, List.set_cons_succ, i64_w, i32_w]
      rfl
    refine one_ (i := 3) (N := some 39) #[true, true, true, true, false, false] rfl rfl (one_of HT_.out (by kernel_rfl)) (by decide) (fun K hK => ?_)
    refine goes_ Try.func61 (by kernel_rfl) rfl #[.agg #[.int .i64 k, .int .i64 n, .string s, .slice A1 l1.length c1]] (by rfl) rfl rfl (by simp only [List.map_toArray, List.map_cons, List.map_nil]; rfl) ?_
    with_reducible refine (texts_own k n s A1 c1 l1 w1 (Kd.C_below HR0.out (HB0.out.trans ((HK1.out.below (Nat.le_refl _)).mono HGg.out))) HC0.out).mono ?_
    rintro en w2 ⟨v2, rfl, hr2, hb2⟩
    refine ⟨_, rfl, ?_⟩
    obtain ⟨A3, c3, rfl⟩ := Kd.R_slice hr2
    have HO2 := Aside0.mk hr2
    have HB2 := Aside0.mk hb2
    have q0_ : w2.cell? ⟨w.heap.size, 0, none⟩ = some (.int .i64 k) := (blk_cell ((hb2.block _ (blk_lt hG1)).trans hG1) 0).trans rfl
    have q1_ : w2.cell? ⟨w.heap.size, 1, none⟩ = some (.int .i64 n) := (blk_cell ((hb2.block _ (blk_lt hG1)).trans hG1) 1).trans rfl
    have q2_ : w2.cell? ⟨w.heap.size, 2, none⟩ = some (.string s) := (blk_cell ((hb2.block _ (blk_lt hG1)).trans hG1) 2).trans rfl
    have q3_ : w2.cell? ⟨w.heap.size, 3, none⟩ = some (.slice A1 l1.length c1) := (blk_cell ((hb2.block _ (blk_lt hG1)).trans hG1) 3).trans rfl
    have HR2 := Aside0.mk (HR1.out.below hb2)
    refine hK.out _ _ ⟨q0_, q1_, q2_, q3_⟩ (fun hHeld => ?_)
    clear hK K
    refine norm_ (a' := ?_) ?_ ?_
    rotate_left
    · show Act.put _ (some 39) _ = _
      simp only [Act.put, List.setIfInBounds_toArray, List.set_cons_zero, List.set_cons_succ, i64_w, i32_w]
      rfl
    refine one_ (i := 4) (N := some 40) #[true, true, true, true, true, false] rfl rfl (one_of HT_.out (by kernel_rfl)) (by decide) (fun K hK => ?_)
    refine goes_ Try.func55 (by kernel_rfl) rfl #[.slice A2 nv.length c2, .slice A3 (textsP s l1).length c3] (by rfl) rfl rfl (by simp only [List.map_toArray, List.map_cons, List.map_nil]; rfl) ?_
    with_reducible refine (H.armillaryref00_EqTexts.calls _ A2 c2 nv A3 c3 (textsP s l1) re w2 (Kd.C_below HC2.out HB2.out) Hc2.out (Kd.R_reads' HO2.out).2.2 (Kd.R_reads' HO2.out).2.1 HEq.out).mono ?_
    rintro en w3 ⟨rfl, ⟨nd3, rfl⟩⟩
    refine ⟨_, rfl, ?_⟩
    refine hK.out _ _ ⟨q0_, q1_, q2_, q3_⟩ (fun hHeld => ?_)
    clear hK K
    refine norm_ (a' := ?_) ?_ ?_
    rotate_left
    · show Act.put _ (some 40) _ = _
      simp only [Act.put, List.setIfInBounds_toArray, List.set_cons_zero, List.set_cons_succ, i64_w, i32_w]
      rfl
    refine pure_ (i := 5) (N := some 4) (v := ?_) (a' := ?_) #[true, true, true, true, true, true] rfl rfl (any_of HT_.out (by kernel_rfl)) (fun _ _ _ h => h) (Or.inl ⟨by rfl, ?_⟩) ?_ ?_
    rotate_left
    · intro w'
      go_simp
      with_reducible rfl
    rotate_left
    · simp only [Act.put, List.setIfInBounds_toArray, List.set_cons_zero, List.set_cons_succ, i64_w, i32_w]
      rfl
    refine done_ (done_of HT_.out (by kernel_rfl)) ?_
    go_wp2_with (fail)
    go_ret
    exact ⟨re, rfl, fun h_ => HEr.out (HP2.out h_), by rw [HP1.out]; exact HR2.out.below (pw_below_drewN (Below.refl _ _) nd3), (Kp.then_ HK1.out (HB2.out.mono HK1.out.size) (Nat.le_of_lt HGl.out)).drewN nd3⟩
end Go.Proofs.Ytcpnjlagmnlecaa.C4
