/- The document's reader: Text, Nums, Texts, NewReader. -/
import Derived.Test.YtcpnjlagmnlecaaProg
import Derived.Below
import Derived.Deep.Draws
import Derived.Deep.AppendLies
import Derived.Maps.AppendAt
import Derived.OwnWalk
import Derived.Laws.BytesArg
import Derived.Laws.MakeOwn
import Derived.Laws.OwnMore
import Derived.Deep.OwnRows
import Derived.Tactics
import Derived.Lib.ConvBytes
import Derived.Laws.Slices
import Derived.WalkKit
import Derived.KernelRfl
import Derived.RowKit3
import Derived.Deep.LoopGhost
import Derived.Deep.QuietTactic
import Derived.BigQuiet
import Derived.WideLaws
import Derived.Deep.DeepCutAuto
import Derived.Deep.CutBlock
import Derived.Deep.RegionHeld3
import Derived.Laws.Rows
import Derived.Lib.AppendStr
import Derived.ArgAppend
import Derived.Laws.IdiomCopy
import Derived.OrdersHeld
import Derived.Laws.BitsLemmas
import Derived.RowKit
import Derived.WalkSpells
import Derived.Laws.CopyOwn
import Derived.Test.YtcpnjlagmnlecaaWWords
import Derived.Test.YtcpnjlagmnlecaaWLast
import Derived.Test.YtcpnjlagmnlecaaWMore
import Derived.Test.YtcpnjlagmnlecaaA7
namespace Go.Proofs.Ytcpnjlagmnlecaa.A11
open Go.RowKit Go.Proofs.YtcpnjlagmnlecaaW.PrintWords Go.Proofs.YtcpnjlagmnlecaaW.PrintLast Go.Proofs.YtcpnjlagmnlecaaW.PrintMore Go.Proofs.Ytcpnjlagmnlecaa Go.Proofs.Ytcpnjlagmnlecaa.A2 Go.Proofs.Ytcpnjlagmnlecaa.A3 Go.Proofs.Ytcpnjlagmnlecaa.A4 Go.Proofs.Ytcpnjlagmnlecaa.A5 Go.Proofs.Ytcpnjlagmnlecaa.A6 Go.Proofs.Ytcpnjlagmnlecaa.A7
set_option linter.unusedVariables false
set_option linter.unusedSimpArgs false
theorem text_eq (s : List Int × Int) : WireP.text s = if (WireP.many 65536 s).2.2 ≠ 0 then ([], (WireP.many 65536 s).2) else if ((WireP.many 65536 s).2.1.length : Int) < (WireP.many 65536 s).1 then ([], (WireP.many 65536 s).2.1, 3) else ((WireP.many 65536 s).2.1.take (WireP.many 65536 s).1.toNat, (WireP.many 65536 s).2.1.drop (WireP.many 65536 s).1.toNat, 0) := rfl
theorem strOf_nil : strOfNums [] = (⟨#[]⟩ : ByteArray) := rfl
set_option maxHeartbeats 4000000 in
set_option maxRecDepth 100000 in
theorem rtext (lo g : Nat) (b : List Int) (e : Int) (w : World) (h : Rm w lo g b e) (x : ByteArray) (b2 : List Int) (e2 : Int) (hq : textS (b, e) = (x, b2, e2)) :
    Calls Try.prog 52 #[.pointer (some ⟨g, 0, none⟩)] w fun en w' => en = .returned (.string x) ∧ Rm w' lo g b2 e2 ∧ Kp w w' g := by
  have HR := Aside0.mk h
  have hn0 := many_nonneg 65536 (b, e) (Rm.ok h)
  unfold textS at hq
  rw [text_eq] at hq
  obtain ⟨⟨n, bb, e1⟩, hm⟩ : ∃ R, WireP.many 65536 (b, e) = R := ⟨_, rfl⟩
  rw [hm] at hn0 hq
  have HQ := Aside0.mk hm
  simp only at hn0 hq
  clear h hm
  by_cases he : e1 = 0
  · subst he
    rw [if_neg (by simp)] at hq
    by_cases hl : (bb.length : Int) < n
    · rw [if_pos hl] at hq
      simp only [Prod.mk.injEq] at hq
      obtain ⟨rfl, rfl, rfl⟩ := hq
      have hF := Aside0.mk (show failed 0 3 = 3 from rfl)
      have hlb : decide ((bb.length : Int) < n) = true := decide_eq_true hl
      clear hl
      go_enter Try.func52, Try.ntmps52
      go_wp2_with (first | (go_at_call 65; refine (rmany 65536 _ _ _ _ _ (by decide) HR.out _ _ _ HQ.out).mono ?_; rintro e w1 ⟨rfl, hr, hk⟩; have HR1 := Aside0.mk hr; have HK1 := Aside0.mk hk; obtain ⟨A, c, A', h0, h1, hf, hc, hm, hC, hcut, hR'⟩ := Rm.open_ HR1.out 0 (Nat.zero_le _); clear hC hcut hR' hc hr hk) | (go_at_call 59; refine (rfail _ _ _ _ _ _ HR1.out).mono ?_; rintro e w2 ⟨rfl, hr, hk⟩; have HR2 := Aside0.mk hr; have HK2 := Aside0.mk hk; have hc2 := Rm.cell1 HR2.out; rw [hF.out] at hc2; clear hr hk))
      go_ret
      exact ⟨rfl, HR2.out, HK1.out.trans HK2.out⟩
    · rw [if_neg hl] at hq
      simp only [Prod.mk.injEq] at hq
      obtain ⟨rfl, rfl, rfl⟩ := hq
      obtain ⟨m, rfl⟩ := Int.eq_ofNat_of_zero_le hn0
      rw [Int.toNat_natCast]
      have hl' : m ≤ bb.length := by omega
      have hl2 : decide (bb.length < m) = false := decide_eq_false (by omega)
      clear hl hn0
      go_enter Try.func52, Try.ntmps52
      go_wp2_with (go_at_call 65; refine (rmany 65536 _ _ _ _ _ (by decide) HR.out _ _ _ HQ.out).mono ?_; rintro e w1 ⟨rfl, hr, hk⟩; have HR1 := Aside0.mk hr; have HK1 := Aside0.mk hk; have hc1 := Rm.cell1 HR1.out; obtain ⟨A, c, A', h0, hf, hc, hm, hcv, hcut, hR'⟩ := Rm.open_text HR1.out m hl'; have HR2 := Aside0.mk hR'; clear hR' hr hk)
      go_ret
      exact ⟨rfl, HR2.out, HK1.out.set 0 _⟩
  · rw [if_pos he] at hq
    simp only [Prod.mk.injEq] at hq
    obtain ⟨rfl, rfl, rfl⟩ := hq
    have he1 : (e1 == 0) = false := by simp [he]
    have he2 : (e1 != 0) = true := by simp [he]
    clear he
    go_enter Try.func52, Try.ntmps52
    go_wp2_with (go_at_call 65; refine (rmany 65536 _ _ _ _ _ (by decide) HR.out _ _ _ HQ.out).mono ?_; rintro e w1 ⟨rfl, hr, hk⟩; have HR1 := Aside0.mk hr; have HK1 := Aside0.mk hk; have hc1 := Rm.cell1 HR1.out; clear hr hk)
    go_ret
    exact ⟨rfl, HR1.out, HK1.out⟩
set_option maxHeartbeats 4000000 in
set_option maxRecDepth 100000 in
theorem rnew (A0 : Option Addr) (c0 : Nat) (l0 : List Int) (w : World) (hr0 : Kd.C (Kd.int .u8) w A0 l0.length l0) (hc0 : l0.length ≤ c0) (hl : l0.length < 140737488355328) (ho : okB l0 = true) :
    Calls Try.prog 27 #[.slice A0 l0.length c0] w fun en w' => ∃ g, en = .returned (.pointer (some ⟨g, 0, none⟩)) ∧ w.heap.size ≤ g ∧ Rm w' w.heap.size g l0 0 ∧ Below w.heap.size w w' := by
  have HR := Aside0.mk hr0
  have HC := Aside0.mk hc0
  have HL := Aside0.mk (show H.armillaryref00_CopyBytes.f l0 = some l0 by unfold H.armillaryref00_CopyBytes.f; rw [if_pos (by simpa using hl), List.nil_append])
  have HO := Aside0.mk ho
  clear hr0 hc0 hl ho
  go_enter Try.func27, Try.ntmps27
  go_wp2_with (go_at_call 10; refine (H.armillaryref00_CopyBytes.calls A0 c0 l0 l0 _ HR.out HC.out HL.out).mono ?_; rintro e w1 ⟨v0, rfl, hr, hk⟩; obtain ⟨A1, c1, hv, hc1, hC1⟩ := Kd.R_reads hr; rw [hv] at hr; have HR1 := Aside0.mk hr; have HK1 := Aside0.mk hk; have HC1 := Aside0.mk hC1; have Hc1 := Aside0.mk hc1; clear hr hk hC1 hc1; rw [hv]; clear hv)
  go_ret
  have hb := R_at HR1.out
  refine ⟨w1.heap.size, rfl, HK1.out.size, ⟨A1, c1, heap_alloc_new _ _, Hc1.out, Kd.C_alloc HC1.out _, hb, HO.out⟩, below_alloc HK1.out _⟩
set_option maxHeartbeats 4000000 in
set_option maxRecDepth 100000 in
theorem rnums (lo g : Nat) (b : List Int) (e : Int) (w : World) (h : Rm w lo g b e) :
    Calls Try.prog 54 #[.pointer (some ⟨g, 0, none⟩)] w fun en w' => ∃ v, en = .returned v ∧ Kd.R (Kd.int .i64) 3 w' w.heap.size (fun k => w.heap.size ≤ k) v (WireP.list WireP.num (b, e)).1 ∧ Rm w' lo g (WireP.list WireP.num (b, e)).2.1 (WireP.list WireP.num (b, e)).2.2 ∧ Kp w w' g := by
  have HR := Aside0.mk h
  have hgl := h.lt
  have HGL := Aside0.mk hgl
  have hn0 := many_nonneg 8000 (b, e) (Rm.ok h)
  have hn1 := many_le 8000 (b, e) (by omega)
  have hf := many_fail 8000 (b, e)
  have hte := list_eq WireP.num (b, e)
  obtain ⟨⟨n, bb, e1⟩, hq⟩ : ∃ R, WireP.many 8000 (b, e) = R := ⟨_, rfl⟩
  rw [hq] at hn0 hn1 hte hf
  have HQ := Aside0.mk hq
  simp only at hn0 hn1 hte hf
  obtain ⟨m, rfl⟩ := Int.eq_ofNat_of_zero_le hn0
  rw [Int.toNat_natCast] at hte
  have HT := Aside0.mk hte
  have hm : m ≤ 8000 := by omega
  have HF := Aside0.mk hf
  clear h hq hn0 hn1 hte hf hgl
  go_enter Try.func54, Try.ntmps54
  go_wp2_with (go_at_call 65; refine (rmany 8000 _ _ _ _ _ (by decide) HR.out _ _ _ HQ.out).mono ?_; rintro e w1 ⟨rfl, hr, hk⟩; have HR1 := Aside0.mk hr; have HK1 := Aside0.mk hk; clear hr hk)
  go_loopw [3, 5] (fun v4 v7 wr => ∃ (k : Nat) (s : List Int × Int) (out : List Int), k ≤ m ∧ v7 = .int .i64 k ∧ Aside0 (out.length = k) ∧ Aside0 (k < m → s.2 = 0 ∨ WireP.list WireP.num (b, e) = ([], s)) ∧ Aside0 (s.2 = 0 → WireP.list WireP.num (b, e) = WireP.elems WireP.num (m - k) s out) ∧ Aside0 (s.2 ≠ 0 → WireP.list WireP.num (b, e) = ([], s)) ∧ Aside0 (Rm wr lo g s.1 s.2) ∧ Aside0 (Kp w wr g) ∧ Aside0 (Kd.R (Kd.int .i64) 3 wr w.heap.size (fun k => w.heap.size ≤ k) v4 out)) (fun _ v7 _ => m - (intOf v7).toNat)
  case atStart => exact ⟨0, (bb, e1), [], by omega, rfl, ⟨rfl⟩, ⟨fun h0 => by
    by_cases h1 : e1 = 0
    · exact .inl h1
    · have := HF.out h1; omega⟩, ⟨fun _ => by rw [HT.out]; rfl⟩, ⟨fun h1 => by
      have hm0 : m = 0 := by have := HF.out h1; omega
      rw [HT.out, hm0]; rfl⟩, HR1, HK1, ⟨Kd.R_nil _ _ _ _ _⟩⟩
  case round =>
    obtain ⟨k, s, out, hk, rfl, HLn, HS, HE, HB, HW, HK, HO⟩ := hrel
    obtain ⟨bs, es⟩ := s
    have hc1 := Rm.cell1 HW.out
    by_cases hes : es = 0
    · have hse := HE.out hes
      subst hes
      by_cases hlt : k < m
      · obtain ⟨⟨x, b2, e2⟩, hx⟩ : ∃ R, WireP.num (bs, 0) = R := ⟨_, rfl⟩
        have HX := Aside0.mk hx
        have hst := elems_succ WireP.num (m - (k + 1)) (bs, 0) out
        rw [show m - (k + 1) + 1 = m - k by omega, hx] at hst
        have HST := Aside0.mk (hse.trans hst)
        clear hx hst hse
        go_wp2_with (first | (go_at_call 51; refine (rnum _ _ _ _ _ HW.out _ _ _ HX.out).mono ?_; rintro e w2 ⟨rfl, hr, hk2⟩; have HR2 := Aside0.mk hr; have HO2 := Aside0.mk (Kd.R_step HO.out (fun k hk1 hk3 => hk2.block hk3 (by have := HGL.out; omega))); have HK2 := Aside0.mk (HK.out.trans hk2); clear hr hk2) | (at_builtin; refine Kd.R_append (Kd.int .i64) (w0 := w2) w.heap.size rfl _ _ 31 3 (.int .i64 0) 8 rfl Try.underlying31 A6.info3 rfl (by decide) (by omega) u3 out x [.int .i64 x] (fun k => w.heap.size ≤ k) (fun _ => False) rfl rfl ?aP (fun _ hk => hk.elim) ?aF ?aO ?aB ?aS ?aL ?_; (case aP => exact rfl); (case aB => exact Below.refl _ _); (case aF => exact (fun k hk => Nat.le_trans HK2.out.size hk)); (case aO => exact HO2.out); (case aS => exact HK2.out.size); (case aL => have := HLn.out; omega); intro v1 w3 ho hb hg hat; have HO3 := Aside0.mk ho; have HR3 := Aside0.mk (Rm.belowB HR2.out hb HGL.out); have HK3 := Aside0.mk (Kp.then_ HK2.out hb (Nat.le_of_lt HGL.out)); clear ho hb hg hat))
        go_roundw
        case rel =>
          by_cases he2 : e2 = 0
          · subst he2
            exact ⟨k + 1, (b2, 0), out ++ [x], by omega, by go_num, ⟨by rw [List.length_append, HLn.out]; rfl⟩, ⟨fun _ => .inl rfl⟩, ⟨fun _ => by rw [HST.out, if_neg (by simp)]⟩, ⟨fun h => absurd rfl h⟩, HR3, HK3, HO3⟩
          · have hs : WireP.list WireP.num (b, e) = ([], (b2, e2)) := by rw [HST.out, if_pos he2]
            exact ⟨k + 1, (b2, e2), out ++ [x], by omega, by go_num, ⟨by rw [List.length_append, HLn.out]; rfl⟩, ⟨fun _ => .inr hs⟩, ⟨fun h => absurd h he2⟩, ⟨fun _ => hs⟩, HR3, HK3, HO3⟩
        case measure => simp [intOf]; omega
      · obtain rfl : k = m := by omega
        rw [Nat.sub_self] at hse
        have HSE := Aside0.mk hse
        clear hse
        go_wp2
        go_ret
        rw [HSE.out]
        exact ⟨_, rfl, HO.out, HW.out, HK.out⟩
    · have HSB := Aside0.mk (HB.out hes)
      have he1 : (es == 0) = false := by simp [hes]
      have he2 : (es != 0) = true := by simp [hes]
      clear hes
      by_cases hlt : k < m
      · go_wp2
        go_ret
        rw [HSB.out]
        exact ⟨_, rfl, Kd.R_nil _ _ _ _ _, HW.out, HK.out⟩
      · obtain rfl : k = m := by omega
        go_wp2
        go_ret
        rw [HSB.out]
        exact ⟨_, rfl, Kd.R_nil _ _ _ _ _, HW.out, HK.out⟩
set_option maxHeartbeats 4000000 in
set_option maxRecDepth 100000 in
theorem rtexts (lo g : Nat) (b : List Int) (e : Int) (w : World) (h : Rm w lo g b e) :
    Calls Try.prog 56 #[.pointer (some ⟨g, 0, none⟩)] w fun en w' => ∃ v, en = .returned v ∧ Kd.R Kd.string 9 w' w.heap.size (fun k => w.heap.size ≤ k) v (WireP.list textS (b, e)).1 ∧ Rm w' lo g (WireP.list textS (b, e)).2.1 (WireP.list textS (b, e)).2.2 ∧ Kp w w' g := by
  have HR := Aside0.mk h
  have hgl := h.lt
  have HGL := Aside0.mk hgl
  have hn0 := many_nonneg 8000 (b, e) (Rm.ok h)
  have hn1 := many_le 8000 (b, e) (by omega)
  have hf := many_fail 8000 (b, e)
  have hte := list_eq textS (b, e)
  obtain ⟨⟨n, bb, e1⟩, hq⟩ : ∃ R, WireP.many 8000 (b, e) = R := ⟨_, rfl⟩
  rw [hq] at hn0 hn1 hte hf
  have HQ := Aside0.mk hq
  simp only at hn0 hn1 hte hf
  obtain ⟨m, rfl⟩ := Int.eq_ofNat_of_zero_le hn0
  rw [Int.toNat_natCast] at hte
  have HT := Aside0.mk hte
  have hm : m ≤ 8000 := by omega
  have HF := Aside0.mk hf
  clear h hq hn0 hn1 hte hf hgl
  go_enter Try.func56, Try.ntmps56
  go_wp2_with (go_at_call 65; refine (rmany 8000 _ _ _ _ _ (by decide) HR.out _ _ _ HQ.out).mono ?_; rintro e w1 ⟨rfl, hr, hk⟩; have HR1 := Aside0.mk hr; have HK1 := Aside0.mk hk; clear hr hk)
  go_loopw [3, 5] (fun v4 v7 wr => ∃ (k : Nat) (s : List Int × Int) (out : List ByteArray), k ≤ m ∧ v7 = .int .i64 k ∧ Aside0 (out.length = k) ∧ Aside0 (k < m → s.2 = 0 ∨ WireP.list textS (b, e) = ([], s)) ∧ Aside0 (s.2 = 0 → WireP.list textS (b, e) = WireP.elems textS (m - k) s out) ∧ Aside0 (s.2 ≠ 0 → WireP.list textS (b, e) = ([], s)) ∧ Aside0 (Rm wr lo g s.1 s.2) ∧ Aside0 (Kp w wr g) ∧ Aside0 (Kd.R Kd.string 9 wr w.heap.size (fun k => w.heap.size ≤ k) v4 out)) (fun _ v7 _ => m - (intOf v7).toNat)
  case atStart => exact ⟨0, (bb, e1), [], by omega, rfl, ⟨rfl⟩, ⟨fun h0 => by
    by_cases h1 : e1 = 0
    · exact .inl h1
    · have := HF.out h1; omega⟩, ⟨fun _ => by rw [HT.out]; rfl⟩, ⟨fun h1 => by
      have hm0 : m = 0 := by have := HF.out h1; omega
      rw [HT.out, hm0]; rfl⟩, HR1, HK1, ⟨Kd.R_nil _ _ _ _ _⟩⟩
  case round =>
    obtain ⟨k, s, out, hk, rfl, HLn, HS, HE, HB, HW, HK, HO⟩ := hrel
    obtain ⟨bs, es⟩ := s
    have hc1 := Rm.cell1 HW.out
    by_cases hes : es = 0
    · have hse := HE.out hes
      subst hes
      by_cases hlt : k < m
      · obtain ⟨⟨x, b2, e2⟩, hx⟩ : ∃ R, textS (bs, 0) = R := ⟨_, rfl⟩
        have HX := Aside0.mk hx
        have hst := elems_succ textS (m - (k + 1)) (bs, 0) out
        rw [show m - (k + 1) + 1 = m - k by omega, hx] at hst
        have HST := Aside0.mk (hse.trans hst)
        clear hx hst hse
        go_wp2_with (first | (go_at_call 52; refine (rtext _ _ _ _ _ HW.out _ _ _ HX.out).mono ?_; rintro e w2 ⟨rfl, hr, hk2⟩; have HR2 := Aside0.mk hr; have HO2 := Aside0.mk (Kd.R_step HO.out (fun k hk1 hk3 => hk2.block hk3 (by have := HGL.out; omega))); have HK2 := Aside0.mk (HK.out.trans hk2); clear hr hk2) | (at_builtin; refine Kd.R_append Kd.string (w0 := w2) w.heap.size rfl _ _ 32 9 (.string ⟨#[]⟩) 16 rfl Try.underlying32 A6.info9 rfl (by decide) (by omega) u3 out x [.string x] (fun k => w.heap.size ≤ k) (fun _ => False) rfl rfl ?aP (fun _ hk => hk.elim) ?aF ?aO ?aB ?aS ?aL ?_; (case aP => exact rfl); (case aB => exact Below.refl _ _); (case aF => exact (fun k hk => Nat.le_trans HK2.out.size hk)); (case aO => exact HO2.out); (case aS => exact HK2.out.size); (case aL => have := HLn.out; omega); intro v1 w3 ho hb hg hat; have HO3 := Aside0.mk ho; have HR3 := Aside0.mk (Rm.belowB HR2.out hb HGL.out); have HK3 := Aside0.mk (Kp.then_ HK2.out hb (Nat.le_of_lt HGL.out)); clear ho hb hg hat))
        go_roundw
        case rel =>
          by_cases he2 : e2 = 0
          · subst he2
            exact ⟨k + 1, (b2, 0), out ++ [x], by omega, by go_num, ⟨by rw [List.length_append, HLn.out]; rfl⟩, ⟨fun _ => .inl rfl⟩, ⟨fun _ => by rw [HST.out, if_neg (by simp)]⟩, ⟨fun h => absurd rfl h⟩, HR3, HK3, HO3⟩
          · have hs : WireP.list textS (b, e) = ([], (b2, e2)) := by rw [HST.out, if_pos he2]
            exact ⟨k + 1, (b2, e2), out ++ [x], by omega, by go_num, ⟨by rw [List.length_append, HLn.out]; rfl⟩, ⟨fun _ => .inr hs⟩, ⟨fun h => absurd h he2⟩, ⟨fun _ => hs⟩, HR3, HK3, HO3⟩
        case measure => simp [intOf]; omega
      · obtain rfl : k = m := by omega
        rw [Nat.sub_self] at hse
        have HSE := Aside0.mk hse
        clear hse
        go_wp2
        go_ret
        rw [HSE.out]
        exact ⟨_, rfl, HO.out, HW.out, HK.out⟩
    · have HSB := Aside0.mk (HB.out hes)
      have he1 : (es == 0) = false := by simp [hes]
      have he2 : (es != 0) = true := by simp [hes]
      clear hes
      by_cases hlt : k < m
      · go_wp2
        go_ret
        rw [HSB.out]
        exact ⟨_, rfl, Kd.R_nil _ _ _ _ _, HW.out, HK.out⟩
      · obtain rfl : k = m := by omega
        go_wp2
        go_ret
        rw [HSB.out]
        exact ⟨_, rfl, Kd.R_nil _ _ _ _ _, HW.out, HK.out⟩
end Go.Proofs.Ytcpnjlagmnlecaa.A11
