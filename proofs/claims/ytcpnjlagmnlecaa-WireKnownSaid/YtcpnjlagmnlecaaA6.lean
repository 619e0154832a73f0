/- wire.Reader's Nums and Texts. -/
import Derived.Test.YtcpnjlagmnlecaaProg
import Derived.Below
import Derived.Deep.Draws
import Derived.Deep.AppendLies
import Derived.Maps.AppendAt
import Derived.OwnWalk
import Derived.Laws.BytesArg
import Derived.Laws.MakeOwn
import Derived.Laws.OwnMore
import Derived.Deep.OwnRows
import Derived.Tactics
import Derived.Lib.ConvBytes
import Derived.Laws.Slices
import Derived.WalkKit
import Derived.KernelRfl
import Derived.RowKit3
import Derived.Deep.LoopGhost
import Derived.Deep.QuietTactic
import Derived.BigQuiet
import Derived.WideLaws
import Derived.Deep.DeepCutAuto
import Derived.Deep.CutBlock
import Derived.Deep.RegionHeld3
import Derived.Laws.Rows
import Derived.Lib.AppendStr
import Derived.ArgAppend
import Derived.Laws.IdiomCopy
import Derived.OrdersHeld
import Derived.Laws.BitsLemmas
import Derived.RowKit
import Derived.WalkSpells
import Derived.Laws.CopyOwn
import Derived.Test.YtcpnjlagmnlecaaWWords
import Derived.Test.YtcpnjlagmnlecaaWLast
import Derived.Test.YtcpnjlagmnlecaaWMore
import Derived.Test.YtcpnjlagmnlecaaA5
namespace Go.Proofs.Ytcpnjlagmnlecaa.A6
open Go.RowKit Go.Proofs.YtcpnjlagmnlecaaW.PrintWords Go.Proofs.YtcpnjlagmnlecaaW.PrintLast Go.Proofs.YtcpnjlagmnlecaaW.PrintMore Go.Proofs.Ytcpnjlagmnlecaa Go.Proofs.Ytcpnjlagmnlecaa.A2 Go.Proofs.Ytcpnjlagmnlecaa.A3 Go.Proofs.Ytcpnjlagmnlecaa.A4 Go.Proofs.Ytcpnjlagmnlecaa.A5
set_option linter.unusedVariables false
set_option linter.unusedSimpArgs false
theorem info3 : (Try.prog.info? 3).map (fun i => (i.zero, i.size, i.bytes)) = some (some (.int .i64 0), 1, 8) := by kernel_rfl
theorem info9 : (Try.prog.info? 9).map (fun i => (i.zero, i.size, i.bytes)) = some (some (.string ⟨#[]⟩), 1, 16) := by kernel_rfl
def textS (s : List Int × Int) : ByteArray × List Int × Int := (strOfNums (WireP.text s).1, (WireP.text s).2)
theorem Rd.belowB {W W1 : World} {lo g B : Nat} {b : List Int} {e : Int} (h : Rd W lo g b e) (hb : Below B W W1) (hg : g < B) : Rd W1 lo g b e := by
  obtain ⟨A, c, hh, hc, hC, hd, ho⟩ := h
  exact ⟨A, c, (hb.block g hg).trans hh, hc, C_block hC (fun ad e => hb.block _ (by have := hd ad e; omega)), hd, ho⟩
theorem Kp.then_ {w W W1 : World} {g : Nat} (h : Kp w W g) (hb : Below w.heap.size W W1) (hg : g ≤ w.heap.size) : Kp w W1 g :=
  ⟨h.low.trans (hb.mono hg), fun i hi hl => (hb.block i hl).trans (h.high i hi hl)⟩
theorem Rd.cell1 {W : World} {lo g : Nat} {b : List Int} {e : Int} (h : Rd W lo g b e) : W.cell? ⟨g, 1, none⟩ = some (.int .i64 e) := by
  obtain ⟨A, c, hh, _⟩ := h
  exact (blk_cell hh 1).trans rfl
theorem num_at (lo g : Nat) (b : List Int) (e : Int) (w : World) (h : Rd w lo g b e) (n : Int) (bb : List Int) (e1 : Int) (hq : WireP.num (b, e) = (n, bb, e1)) :
    Calls Try.prog 36 #[.pointer (some ⟨g, 0, none⟩)] w fun en w' => en = .returned (.int .i64 n) ∧ Rd w' lo g bb e1 ∧ Kp w w' g := by
  have := num_yes lo g b e w h
  rwa [hq] at this
theorem text_at (lo g : Nat) (b : List Int) (e : Int) (w : World) (h : Rd w lo g b e) (n : ByteArray) (bb : List Int) (e1 : Int) (hq : textS (b, e) = (n, bb, e1)) :
    Calls Try.prog 37 #[.pointer (some ⟨g, 0, none⟩)] w fun en w' => en = .returned (.string n) ∧ Rd w' lo g bb e1 ∧ Kp w w' g := by
  have := text_yes lo g b e w h
  unfold textS at hq
  simp only [Prod.mk.injEq] at hq
  obtain ⟨h1, h2⟩ := hq
  rw [h1, h2] at this
  exact this
theorem elems_stuck {α : Type} (one : List Int × Int → α × List Int × Int) (s : List Int × Int) (out : List α) : WireP.elems one 0 s out = (out, s) := rfl
theorem elems_succ {α : Type} (one : List Int × Int → α × List Int × Int) (k : Nat) (s : List Int × Int) (out : List α) : WireP.elems one (k + 1) s out = if (one s).2.2 ≠ 0 then ([], (one s).2) else WireP.elems one k (one s).2 (out ++ [(one s).1]) := rfl
theorem list_eq {α : Type} (one : List Int × Int → α × List Int × Int) (s : List Int × Int) : WireP.list one s = WireP.elems one (WireP.many 8000 s).1.toNat (WireP.many 8000 s).2 [] := rfl
set_option maxHeartbeats 4000000 in
set_option maxRecDepth 100000 in
theorem all_num (lo g : Nat) (b : List Int) (e : Int) (w : World) (h : Rd w lo g b e) :
    Calls Try.prog 63 #[.pointer (some ⟨g, 0, none⟩), .func (.func 36) #[.pointer (some ⟨g, 0, none⟩)] #[]] w fun en w' => ∃ v, en = .returned v ∧ Kd.R (Kd.int .i64) 3 w' w.heap.size (fun k => w.heap.size ≤ k) v (WireP.list WireP.num (b, e)).1 ∧ Rd w' lo g (WireP.list WireP.num (b, e)).2.1 (WireP.list WireP.num (b, e)).2.2 ∧ Kp w w' g := by
  have HR := Aside0.mk h
  have hgl := h.lt
  have HGL := Aside0.mk hgl
  have hn0 := many_nonneg 8000 (b, e) (Rd.ok h)
  have hn1 := many_le 8000 (b, e) (by omega)
  have hf := many_fail 8000 (b, e)
  have hte := list_eq WireP.num (b, e)
  obtain ⟨⟨n, bb, e1⟩, hq⟩ : ∃ R, WireP.many 8000 (b, e) = R := ⟨_, rfl⟩
  rw [hq] at hn0 hn1 hte hf
  have HQ := Aside0.mk hq
  simp only at hn0 hn1 hte hf
  obtain ⟨m, rfl⟩ := Int.eq_ofNat_of_zero_le hn0
  rw [Int.toNat_natCast] at hte
  have HT := Aside0.mk hte
  have hm : m ≤ 8000 := by omega
  have HF := Aside0.mk hf
  clear h hq hn0 hn1 hte hf hgl
  go_enter Try.func63, Try.ntmps63
  go_wp2_with (go_at_call 62; refine (many_at 8000 _ _ _ _ _ (by decide) HR.out _ _ _ HQ.out).mono ?_; rintro e w1 ⟨rfl, hr, hk⟩; have HR1 := Aside0.mk hr; have HK1 := Aside0.mk hk; clear hr hk)
  go_loopw [4, 7] (fun v4 v7 wr => ∃ (k : Nat) (s : List Int × Int) (out : List Int), k ≤ m ∧ v7 = .int .i64 k ∧ Aside0 (out.length = k) ∧ Aside0 (k < m → s.2 = 0) ∧ Aside0 (WireP.list WireP.num (b, e) = WireP.elems WireP.num (m - k) s out) ∧ Aside0 (Rd wr lo g s.1 s.2) ∧ Aside0 (Kp w wr g) ∧ Aside0 (Kd.R (Kd.int .i64) 3 wr w.heap.size (fun k => w.heap.size ≤ k) v4 out)) (fun _ v7 _ => m - (intOf v7).toNat)
  case atStart => exact ⟨0, (bb, e1), [], by omega, rfl, ⟨rfl⟩, ⟨fun h0 => by
    by_cases h1 : e1 = 0
    · exact h1
    · have := HF.out h1; omega⟩, ⟨by rw [HT.out]; rfl⟩, HR1, HK1, ⟨Kd.R_nil _ _ _ _ _⟩⟩
  case round =>
    obtain ⟨k, s, out, hk, rfl, HLn, HS, HE, HW, HK, HO⟩ := hrel
    by_cases hlt : k < m
    · obtain ⟨bs, es⟩ := s
      have hes : es = 0 := HS.out hlt
      subst hes
      obtain ⟨⟨x, b2, e2⟩, hx⟩ : ∃ R, WireP.num (bs, 0) = R := ⟨_, rfl⟩
      have HX := Aside0.mk hx
      have hst := elems_succ WireP.num (m - (k + 1)) (bs, 0) out
      rw [show m - (k + 1) + 1 = m - k by omega, hx] at hst
      have HST := Aside0.mk (HE.out.trans hst)
      clear hx hst
      by_cases he2 : e2 = 0
      · subst he2
        go_wp2_with (first | (go_at_call 36; refine (num_at _ _ _ _ _ HW.out _ _ _ HX.out).mono ?_; rintro e w2 ⟨rfl, hr, hk2⟩; have HR2 := Aside0.mk hr; have HO2 := Aside0.mk (Kd.R_step HO.out (fun k hk1 hk3 => hk2.block hk3 (by have := HGL.out; omega))); have HK2 := Aside0.mk (HK.out.trans hk2); clear hr hk2) | (at_builtin; refine Kd.R_append (Kd.int .i64) (w0 := w2) w.heap.size rfl (.tmp 9) (.tmp 12) 31 3 (.int .i64 0) 8 rfl Try.underlying31 info3 rfl (by decide) (by omega) u4 out x [.int .i64 x] (fun k => w.heap.size ≤ k) (fun _ => False) rfl rfl ?aP (fun _ hk => hk.elim) ?aF ?aO ?aB ?aS ?aL ?_; (case aP => exact rfl); (case aB => exact Below.refl _ _); (case aF => exact (fun k hk => Nat.le_trans HK2.out.size hk)); (case aO => exact HO2.out); (case aS => exact HK2.out.size); (case aL => have := HLn.out; omega); intro v1 w3 ho hb hg hat; have HO3 := Aside0.mk ho; have HR3 := Aside0.mk (Rd.belowB HR2.out hb HGL.out); have HK3 := Aside0.mk (Kp.then_ HK2.out hb (Nat.le_of_lt HGL.out)); have h1 := Rd.cell1 HR3.out; clear ho hb hg hat))
        go_roundw
        case rel => exact ⟨k + 1, (b2, 0), out ++ [x], by omega, by go_num, ⟨by rw [List.length_append, HLn.out]; rfl⟩, ⟨fun _ => rfl⟩, ⟨by rw [HST.out, if_neg (by simp)]⟩, HR3, HK3, HO3⟩
        case measure => simp [intOf]; omega
      · have he3 : (e2 != 0) = true := by simp [he2]
        have HE2 := Aside0.mk he2
        clear he2
        go_wp2_with (first | (go_at_call 36; refine (num_at _ _ _ _ _ HW.out _ _ _ HX.out).mono ?_; rintro e w2 ⟨rfl, hr, hk2⟩; have HR2 := Aside0.mk hr; have HO2 := Aside0.mk (Kd.R_step HO.out (fun k hk1 hk3 => hk2.block hk3 (by have := HGL.out; omega))); have HK2 := Aside0.mk (HK.out.trans hk2); clear hr hk2) | (at_builtin; refine Kd.R_append (Kd.int .i64) (w0 := w2) w.heap.size rfl (.tmp 9) (.tmp 12) 31 3 (.int .i64 0) 8 rfl Try.underlying31 info3 rfl (by decide) (by omega) u4 out x [.int .i64 x] (fun k => w.heap.size ≤ k) (fun _ => False) rfl rfl ?aP (fun _ hk => hk.elim) ?aF ?aO ?aB ?aS ?aL ?_; (case aP => exact rfl); (case aB => exact Below.refl _ _); (case aF => exact (fun k hk => Nat.le_trans HK2.out.size hk)); (case aO => exact HO2.out); (case aS => exact HK2.out.size); (case aL => have := HLn.out; omega); intro v1 w3 ho hb hg hat; have HR3 := Aside0.mk (Rd.belowB HR2.out hb HGL.out); have HK3 := Aside0.mk (Kp.then_ HK2.out hb (Nat.le_of_lt HGL.out)); have h1 := Rd.cell1 HR3.out; clear ho hb hg hat))
        go_ret
        rw [HST.out, if_pos HE2.out]
        exact ⟨_, rfl, Kd.R_nil _ _ _ _ _, HR3.out, HK3.out⟩
    · obtain rfl : k = m := by omega
      go_wp2
      go_ret
      rw [HE.out, Nat.sub_self]
      exact ⟨_, rfl, HO.out, HW.out, HK.out⟩
set_option maxHeartbeats 4000000 in
set_option maxRecDepth 100000 in
theorem nums_yes (lo g : Nat) (b : List Int) (e : Int) (w : World) (h : Rd w lo g b e) :
    Calls Try.prog 38 #[.pointer (some ⟨g, 0, none⟩)] w fun en w' => ∃ v, en = .returned v ∧ Kd.R (Kd.int .i64) 3 w' w.heap.size (fun k => w.heap.size ≤ k) v (WireP.list WireP.num (b, e)).1 ∧ Rd w' lo g (WireP.list WireP.num (b, e)).2.1 (WireP.list WireP.num (b, e)).2.2 ∧ Kp w w' g := by
  have HR := Aside0.mk h
  clear h
  go_enter Try.func38, Try.ntmps38
  go_wp2_with (go_at_call 63; refine (all_num _ _ _ _ _ HR.out).mono ?_; rintro e w1 ⟨v, rfl, ho, hr, hk⟩; have HO1 := Aside0.mk ho; have HR1 := Aside0.mk hr; have HK1 := Aside0.mk hk; clear ho hr hk)
  go_ret
  exact ⟨_, rfl, HO1.out, HR1.out, HK1.out⟩
set_option maxHeartbeats 4000000 in
set_option maxRecDepth 100000 in
theorem all_text (lo g : Nat) (b : List Int) (e : Int) (w : World) (h : Rd w lo g b e) :
    Calls Try.prog 64 #[.pointer (some ⟨g, 0, none⟩), .func (.func 37) #[.pointer (some ⟨g, 0, none⟩)] #[]] w fun en w' => ∃ v, en = .returned v ∧ Kd.R Kd.string 9 w' w.heap.size (fun k => w.heap.size ≤ k) v (WireP.list textS (b, e)).1 ∧ Rd w' lo g (WireP.list textS (b, e)).2.1 (WireP.list textS (b, e)).2.2 ∧ Kp w w' g := by
  have HR := Aside0.mk h
  have hgl := h.lt
  have HGL := Aside0.mk hgl
  have hn0 := many_nonneg 8000 (b, e) (Rd.ok h)
  have hn1 := many_le 8000 (b, e) (by omega)
  have hf := many_fail 8000 (b, e)
  have hte := list_eq textS (b, e)
  obtain ⟨⟨n, bb, e1⟩, hq⟩ : ∃ R, WireP.many 8000 (b, e) = R := ⟨_, rfl⟩
  rw [hq] at hn0 hn1 hte hf
  have HQ := Aside0.mk hq
  simp only at hn0 hn1 hte hf
  obtain ⟨m, rfl⟩ := Int.eq_ofNat_of_zero_le hn0
  rw [Int.toNat_natCast] at hte
  have HT := Aside0.mk hte
  have hm : m ≤ 8000 := by omega
  have HF := Aside0.mk hf
  clear h hq hn0 hn1 hte hf hgl
  go_enter Try.func64, Try.ntmps64
  go_wp2_with (go_at_call 62; refine (many_at 8000 _ _ _ _ _ (by decide) HR.out _ _ _ HQ.out).mono ?_; rintro e w1 ⟨rfl, hr, hk⟩; have HR1 := Aside0.mk hr; have HK1 := Aside0.mk hk; clear hr hk)
  go_loopw [4, 7] (fun v4 v7 wr => ∃ (k : Nat) (s : List Int × Int) (out : List ByteArray), k ≤ m ∧ v7 = .int .i64 k ∧ Aside0 (out.length = k) ∧ Aside0 (k < m → s.2 = 0) ∧ Aside0 (WireP.list textS (b, e) = WireP.elems textS (m - k) s out) ∧ Aside0 (Rd wr lo g s.1 s.2) ∧ Aside0 (Kp w wr g) ∧ Aside0 (Kd.R Kd.string 9 wr w.heap.size (fun k => w.heap.size ≤ k) v4 out)) (fun _ v7 _ => m - (intOf v7).toNat)
  case atStart => exact ⟨0, (bb, e1), [], by omega, rfl, ⟨rfl⟩, ⟨fun h0 => by
    by_cases h1 : e1 = 0
    · exact h1
    · have := HF.out h1; omega⟩, ⟨by rw [HT.out]; rfl⟩, HR1, HK1, ⟨Kd.R_nil _ _ _ _ _⟩⟩
  case round =>
    obtain ⟨k, s, out, hk, rfl, HLn, HS, HE, HW, HK, HO⟩ := hrel
    by_cases hlt : k < m
    · obtain ⟨bs, es⟩ := s
      have hes : es = 0 := HS.out hlt
      subst hes
      obtain ⟨⟨x, b2, e2⟩, hx⟩ : ∃ R, textS (bs, 0) = R := ⟨_, rfl⟩
      have HX := Aside0.mk hx
      have hst := elems_succ textS (m - (k + 1)) (bs, 0) out
      rw [show m - (k + 1) + 1 = m - k by omega, hx] at hst
      have HST := Aside0.mk (HE.out.trans hst)
      clear hx hst
      by_cases he2 : e2 = 0
      · subst he2
        go_wp2_with (first | (go_at_call 37; refine (text_at _ _ _ _ _ HW.out _ _ _ HX.out).mono ?_; rintro e w2 ⟨rfl, hr, hk2⟩; have HR2 := Aside0.mk hr; have HO2 := Aside0.mk (Kd.R_step HO.out (fun k hk1 hk3 => hk2.block hk3 (by have := HGL.out; omega))); have HK2 := Aside0.mk (HK.out.trans hk2); clear hr hk2) | (at_builtin; refine Kd.R_append Kd.string (w0 := w2) w.heap.size rfl (.tmp 9) (.tmp 12) 32 9 (.string ⟨#[]⟩) 16 rfl Try.underlying32 info9 rfl (by decide) (by omega) u4 out x [.string x] (fun k => w.heap.size ≤ k) (fun _ => False) rfl rfl ?aP (fun _ hk => hk.elim) ?aF ?aO ?aB ?aS ?aL ?_; (case aP => exact rfl); (case aB => exact Below.refl _ _); (case aF => exact (fun k hk => Nat.le_trans HK2.out.size hk)); (case aO => exact HO2.out); (case aS => exact HK2.out.size); (case aL => have := HLn.out; omega); intro v1 w3 ho hb hg hat; have HO3 := Aside0.mk ho; have HR3 := Aside0.mk (Rd.belowB HR2.out hb HGL.out); have HK3 := Aside0.mk (Kp.then_ HK2.out hb (Nat.le_of_lt HGL.out)); have h1 := Rd.cell1 HR3.out; clear ho hb hg hat))
        go_roundw
        case rel => exact ⟨k + 1, (b2, 0), out ++ [x], by omega, by go_num, ⟨by rw [List.length_append, HLn.out]; rfl⟩, ⟨fun _ => rfl⟩, ⟨by rw [HST.out, if_neg (by simp)]⟩, HR3, HK3, HO3⟩
        case measure => simp [intOf]; omega
      · have he3 : (e2 != 0) = true := by simp [he2]
        have HE2 := Aside0.mk he2
        clear he2
        go_wp2_with (first | (go_at_call 37; refine (text_at _ _ _ _ _ HW.out _ _ _ HX.out).mono ?_; rintro e w2 ⟨rfl, hr, hk2⟩; have HR2 := Aside0.mk hr; have HO2 := Aside0.mk (Kd.R_step HO.out (fun k hk1 hk3 => hk2.block hk3 (by have := HGL.out; omega))); have HK2 := Aside0.mk (HK.out.trans hk2); clear hr hk2) | (at_builtin; refine Kd.R_append Kd.string (w0 := w2) w.heap.size rfl (.tmp 9) (.tmp 12) 32 9 (.string ⟨#[]⟩) 16 rfl Try.underlying32 info9 rfl (by decide) (by omega) u4 out x [.string x] (fun k => w.heap.size ≤ k) (fun _ => False) rfl rfl ?aP (fun _ hk => hk.elim) ?aF ?aO ?aB ?aS ?aL ?_; (case aP => exact rfl); (case aB => exact Below.refl _ _); (case aF => exact (fun k hk => Nat.le_trans HK2.out.size hk)); (case aO => exact HO2.out); (case aS => exact HK2.out.size); (case aL => have := HLn.out; omega); intro v1 w3 ho hb hg hat; have HR3 := Aside0.mk (Rd.belowB HR2.out hb HGL.out); have HK3 := Aside0.mk (Kp.then_ HK2.out hb (Nat.le_of_lt HGL.out)); have h1 := Rd.cell1 HR3.out; clear ho hb hg hat))
        go_ret
        rw [HST.out, if_pos HE2.out]
        exact ⟨_, rfl, Kd.R_nil _ _ _ _ _, HR3.out, HK3.out⟩
    · obtain rfl : k = m := by omega
      go_wp2
      go_ret
      rw [HE.out, Nat.sub_self]
      exact ⟨_, rfl, HO.out, HW.out, HK.out⟩
set_option maxHeartbeats 4000000 in
set_option maxRecDepth 100000 in
theorem texts_yes (lo g : Nat) (b : List Int) (e : Int) (w : World) (h : Rd w lo g b e) :
    Calls Try.prog 39 #[.pointer (some ⟨g, 0, none⟩)] w fun en w' => ∃ v, en = .returned v ∧ Kd.R Kd.string 9 w' w.heap.size (fun k => w.heap.size ≤ k) v (WireP.list textS (b, e)).1 ∧ Rd w' lo g (WireP.list textS (b, e)).2.1 (WireP.list textS (b, e)).2.2 ∧ Kp w w' g := by
  have HR := Aside0.mk h
  clear h
  go_enter Try.func39, Try.ntmps39
  go_wp2_with (go_at_call 64; refine (all_text _ _ _ _ _ HR.out).mono ?_; rintro e w1 ⟨v, rfl, ho, hr, hk⟩; have HO1 := Aside0.mk ho; have HR1 := Aside0.mk hr; have HK1 := Aside0.mk hk; clear ho hr hk)
  go_ret
  exact ⟨_, rfl, HO1.out, HR1.out, HK1.out⟩
end Go.Proofs.Ytcpnjlagmnlecaa.A6
