/- wire.Reader's many and Text; NewReader. -/
import Derived.Test.YtcpnjlagmnlecaaProg
import Derived.Below
import Derived.Deep.Draws
import Derived.Deep.AppendLies
import Derived.Maps.AppendAt
import Derived.OwnWalk
import Derived.Laws.BytesArg
import Derived.Laws.MakeOwn
import Derived.Laws.OwnMore
import Derived.Deep.OwnRows
import Derived.Tactics
import Derived.Lib.ConvBytes
import Derived.Laws.Slices
import Derived.WalkKit
import Derived.KernelRfl
import Derived.RowKit3
import Derived.Deep.LoopGhost
import Derived.Deep.QuietTactic
import Derived.BigQuiet
import Derived.WideLaws
import Derived.Deep.DeepCutAuto
import Derived.Deep.CutBlock
import Derived.Deep.RegionHeld3
import Derived.Laws.Rows
import Derived.Lib.AppendStr
import Derived.ArgAppend
import Derived.Laws.IdiomCopy
import Derived.OrdersHeld
import Derived.Laws.BitsLemmas
import Derived.RowKit
import Derived.WalkSpells
import Derived.Laws.CopyOwn
import Derived.Test.YtcpnjlagmnlecaaWWords
import Derived.Test.YtcpnjlagmnlecaaWLast
import Derived.Test.YtcpnjlagmnlecaaWMore
import Derived.Test.YtcpnjlagmnlecaaA1
import Derived.Test.YtcpnjlagmnlecaaA4
namespace Go.Proofs.Ytcpnjlagmnlecaa.A5
open Go.RowKit Go.Proofs.YtcpnjlagmnlecaaW.PrintWords Go.Proofs.YtcpnjlagmnlecaaW.PrintLast Go.Proofs.YtcpnjlagmnlecaaW.PrintMore Go.Proofs.Ytcpnjlagmnlecaa Go.Proofs.Ytcpnjlagmnlecaa.A2 Go.Proofs.Ytcpnjlagmnlecaa.A3 Go.Proofs.Ytcpnjlagmnlecaa.A4
set_option linter.unusedVariables false
set_option linter.unusedSimpArgs false
theorem num_yes (lo g : Nat) (b : List Int) (e : Int) (w : World) (h : Rd w lo g b e) :
    Calls Try.prog 36 #[.pointer (some ⟨g, 0, none⟩)] w fun en w' => en = .returned (.int .i64 (WireP.num (b, e)).1) ∧ Rd w' lo g (WireP.num (b, e)).2.1 (WireP.num (b, e)).2.2 ∧ Kp w w' g := by
  by_cases he : e = 0
  · subst he
    have hn : WireP.num (b, 0) = WireP.rdn 0 1 0 b := rfl
    rw [hn]
    exact num_good lo g b w h
  · rw [WireP.num_stuck (s := (b, e)) he]
    refine (num_bad lo g b e w h he).mono ?_
    rintro en w' ⟨rfl, rfl⟩
    exact ⟨rfl, h, Kp.refl _ _⟩
set_option maxHeartbeats 4000000 in
set_option maxRecDepth 100000 in
theorem many_yes (most : Int) (lo g : Nat) (b : List Int) (e : Int) (w : World) (hm : 0 ≤ most) (h : Rd w lo g b e) :
    Calls Try.prog 62 #[.pointer (some ⟨g, 0, none⟩), .int .i64 most] w fun en w' => en = .returned (.int .i64 (WireP.many most (b, e)).1) ∧ Rd w' lo g (WireP.many most (b, e)).2.1 (WireP.many most (b, e)).2.2 ∧ Kp w w' g := by
  have HR := Aside0.mk h
  clear h
  by_cases hgt : most < (WireP.num (b, e)).1
  · have he : (WireP.num (b, e)).2.2 = 0 := by
      by_cases h0 : (WireP.num (b, e)).2.2 = 0
      · exact h0
      · have := WireP.num_fail (b, e) h0; omega
    have HN : Aside0 (WireP.many most (b, e) = (0, (WireP.num (b, e)).2.1, 5)) := ⟨by unfold WireP.many; exact if_pos hgt⟩
    have HF : Aside0 (failed (WireP.num (b, e)).2.2 5 = 5) := ⟨by unfold failed; rw [if_pos he]⟩
    have hg1 : decide (most < (WireP.num (b, e)).1) = true := decide_eq_true hgt
    clear he hgt
    go_enter Try.func62, Try.ntmps62
    go_wp2_with (first | (go_at_call 36; refine (num_yes _ _ _ _ _ HR.out).mono ?_; rintro e w1 ⟨rfl, hr, hk⟩; have HR1 := Aside0.mk hr; have HK1 := Aside0.mk hk; clear hr hk) | (go_at_call 58; refine (fail_yes _ _ _ _ _ _ HR1.out).mono ?_; rintro e w2 ⟨rfl, hr, hk⟩; have HR2 := Aside0.mk hr; have HK2 := Aside0.mk hk; clear hr hk))
    go_ret
    exact ⟨by rw [HN.out]; rfl, by rw [HN.out]; rw [HF.out] at HR2; exact HR2.out, HK1.out.trans HK2.out⟩
  · have HN : Aside0 (WireP.many most (b, e) = WireP.num (b, e)) := ⟨by unfold WireP.many; exact if_neg hgt⟩
    have hg1 : decide (most < (WireP.num (b, e)).1) = false := decide_eq_false hgt
    clear hgt
    go_enter Try.func62, Try.ntmps62
    go_wp2_with (go_at_call 36; refine (num_yes _ _ _ _ _ HR.out).mono ?_; rintro e w1 ⟨rfl, hr, hk⟩; have HR1 := Aside0.mk hr; have HK1 := Aside0.mk hk; clear hr hk)
    go_ret
    exact ⟨by rw [HN.out]; rfl, by rw [HN.out]; exact HR1.out, HK1.out⟩
/-- What a row of the call's own lies in. -/
theorem R_at {w : World} {base : Nat} {l : List Int} {A : Option Addr} {n c : Nat} {k : IntKind} {e : Nat} {ok : Nat → Prop} (h : Kd.R (Kd.int k) e w base ok (.slice A n c) l) : ∀ ad, A = some ad → base ≤ ad.block ∧ ad.block < w.heap.size := by
  obtain ⟨inner, hi⟩ := Kd.R_own h
  rintro ad rfl
  exact ⟨own_base hi ad.block (by simp [Value.ownBlock]), own_lt hi ad.block (by simp [Value.ownBlock])⟩
set_option maxHeartbeats 4000000 in
set_option maxRecDepth 100000 in
theorem newReader_yes (A0 : Option Addr) (c0 : Nat) (l0 : List Int) (w : World) (hr0 : Kd.C (Kd.int .u8) w A0 l0.length l0) (hc0 : l0.length ≤ c0) (hl : l0.length < 140737488355328) (ho : okB l0 = true) :
    Calls Try.prog 26 #[.slice A0 l0.length c0] w fun en w' => ∃ g, en = .returned (.pointer (some ⟨g, 0, none⟩)) ∧ w.heap.size ≤ g ∧ Rd w' w.heap.size g l0 0 ∧ Below w.heap.size w w' := by
  have HR := Aside0.mk hr0
  have HC := Aside0.mk hc0
  have HL := Aside0.mk (show A1.slices_Clone_byte_byte.f l0 = some l0 from if_pos hl)
  have HO := Aside0.mk ho
  clear hr0 hc0 hl ho
  go_enter Try.func26, Try.ntmps26
  go_wp2_with (go_at_call 44; refine (A1.slices_Clone_byte_byte.calls A0 c0 l0 l0 _ HR.out HC.out HL.out).mono ?_; rintro e w1 ⟨v0, rfl, hr, hk⟩; obtain ⟨A1, c1, hv, hc1, hC1⟩ := Kd.R_reads hr; rw [hv] at hr; have HR1 := Aside0.mk hr; have HK1 := Aside0.mk hk; have HC1 := Aside0.mk hC1; have Hc1 := Aside0.mk hc1; clear hr hk hC1 hc1; rw [hv]; clear hv)
  go_ret
  have hb := R_at HR1.out
  refine ⟨w1.heap.size, rfl, HK1.out.size, ⟨A1, c1, heap_alloc_new _ _, Hc1.out, Kd.C_alloc HC1.out _, hb, HO.out⟩, below_alloc HK1.out _⟩
theorem many_eq (most : Int) (s : List Int × Int) : WireP.many most s = if most < (WireP.num s).1 then (0, (WireP.num s).2.1, 5) else WireP.num s := rfl
theorem many_fail (most : Int) (s : List Int × Int) (h : (WireP.many most s).2.2 ≠ 0) : (WireP.many most s).1 = 0 := by
  rw [many_eq] at *
  split
  · rfl
  · rename_i hn
    rw [if_neg hn] at h
    exact WireP.num_fail s h
theorem rdn_nonneg : ∀ (l : List Int) (i : Nat) (u n : Int), 0 ≤ u → 0 ≤ n → okB l = true → 0 ≤ (WireP.rdn i u n l).1 := by
  intro l
  induction l with
  | nil => intro i u n _ _ _; simp [WireP.rdn]
  | cons x l ih =>
    intro i u n hu hn hk
    have hx := okB_cons hk
    have hq : 0 ≤ x % 128 * u := Int.mul_nonneg (by omega) hu
    unfold WireP.rdn
    split
    · simp
    · split
      · show 0 ≤ n + x % 128 * u; omega
      · refine ih _ _ _ (by omega) (by omega) ?_
        unfold okB at hk ⊢
        rw [List.all_cons, Bool.and_eq_true] at hk
        exact hk.2
theorem num_nonneg (s : List Int × Int) (ho : okB s.1 = true) : 0 ≤ (WireP.num s).1 := by
  unfold WireP.num
  split
  · exact rdn_nonneg _ _ _ _ (by omega) (by omega) ho
  · simp
theorem many_nonneg (most : Int) (s : List Int × Int) (ho : okB s.1 = true) : 0 ≤ (WireP.many most s).1 := by
  rw [many_eq]
  split
  · simp
  · exact num_nonneg s ho
theorem many_le (most : Int) (s : List Int × Int) (h0 : 0 ≤ most) : (WireP.many most s).1 ≤ most := by
  rw [many_eq]
  split
  · exact h0
  · omega
theorem many_at (most : Int) (lo g : Nat) (b : List Int) (e : Int) (w : World) (hm : 0 ≤ most) (h : Rd w lo g b e) (n : Int) (bb : List Int) (e1 : Int) (hq : WireP.many most (b, e) = (n, bb, e1)) :
    Calls Try.prog 62 #[.pointer (some ⟨g, 0, none⟩), .int .i64 most] w fun en w' => en = .returned (.int .i64 n) ∧ Rd w' lo g bb e1 ∧ Kp w w' g := by
  have := many_yes most lo g b e w hm h
  rwa [hq] at this
theorem Rd.open_text {W : World} {lo g : Nat} {b : List Int} {e : Int} (h : Rd W lo g b e) (m : Nat) (hm : m ≤ b.length) :
    ∃ A c A', W.cell? ⟨g, 0, none⟩ = some (.slice A b.length c) ∧ W.frozen? ⟨g, 0, none⟩ = false ∧ m ≤ c ∧ b.length ≤ 9223372036854775807 ∧
      (convert 22 9 (.slice A m c)).run Try.prog W = .ok (.string (strOfNums (b.take m))) W ∧
      (∀ W1 : World, (Instr.slice 22 (.slice A b.length c) (some (.int .i64 (m : Int))) none none).run Try.prog W1 = .ok (.slice A' (b.length - m) (c - m)) W1) ∧
      Rd (W.setCell ⟨g, 0, none⟩ (.slice A' (b.length - m) (c - m))) lo g (b.drop m) e := by
  obtain ⟨A, c, A', h0, h1, hf, hc, hl, hC, hcut, hR'⟩ := Rd.open_ h m hm
  have hcv := Kd.C_string (P := Try.prog) (c := c) Try.underlying22 Try.underlying5 Try.underlying9 (Kd.C_take hC hm)
  rw [List.length_take, Nat.min_eq_left hm] at hcv
  exact ⟨A, c, A', h0, hf, by omega, hl, hcv, hcut, hR'⟩
set_option maxHeartbeats 4000000 in
set_option maxRecDepth 100000 in
theorem text_yes (lo g : Nat) (b : List Int) (e : Int) (w : World) (h : Rd w lo g b e) :
    Calls Try.prog 37 #[.pointer (some ⟨g, 0, none⟩)] w fun en w' => en = .returned (.string (strOfNums (WireP.text (b, e)).1)) ∧ Rd w' lo g (WireP.text (b, e)).2.1 (WireP.text (b, e)).2.2 ∧ Kp w w' g := by
  have HR := Aside0.mk h
  have hn0 := many_nonneg 65536 (b, e) (Rd.ok h)
  have hn1 := many_le 65536 (b, e) (by omega)
  have hte : WireP.text (b, e) = if (WireP.many 65536 (b, e)).2.2 ≠ 0 then ([], (WireP.many 65536 (b, e)).2) else if ((WireP.many 65536 (b, e)).2.1.length : Int) < (WireP.many 65536 (b, e)).1 then ([], (WireP.many 65536 (b, e)).2.1, 3) else ((WireP.many 65536 (b, e)).2.1.take (WireP.many 65536 (b, e)).1.toNat, (WireP.many 65536 (b, e)).2.1.drop (WireP.many 65536 (b, e)).1.toNat, 0) := rfl
  obtain ⟨⟨n, bb, e1⟩, hq⟩ : ∃ R, WireP.many 65536 (b, e) = R := ⟨_, rfl⟩
  rw [hq] at hn0 hn1 hte
  have HQ := Aside0.mk hq
  simp only at hn0 hn1 hte
  clear h hq
  by_cases he : e1 = 0
  · subst he
    rw [if_neg (by simp)] at hte
    by_cases hl : (bb.length : Int) < n
    · rw [if_pos hl] at hte
      have HN := Aside0.mk hte
      have HF : Aside0 (failed 0 3 = 3) := ⟨by unfold failed; rw [if_pos rfl]⟩
      clear hte
      go_enter Try.func37, Try.ntmps37
      go_wp2_with (first | (go_at_call 62; refine (many_at 65536 _ _ _ _ _ (by decide) HR.out _ _ _ HQ.out).mono ?_; rintro e w1 ⟨rfl, hr, hk⟩; have HR1 := Aside0.mk hr; have HK1 := Aside0.mk hk; clear hr hk) | (go_at_call 31; refine (err_yes _ _ _ _ _ HR1.out).mono ?_; rintro e w' ⟨rfl, rfl⟩; obtain ⟨A, c, A', h0, h1, hf, hc, hm, hC, hcut, hR'⟩ := Rd.open_ HR1.out 0 (Nat.zero_le _); clear hC hcut hR' hc hm) | (go_at_call 58; refine (fail_yes _ _ _ _ _ _ HR1.out).mono ?_; rintro e w2 ⟨rfl, hr, hk⟩; have HR2 := Aside0.mk hr; have HK2 := Aside0.mk hk; clear hr hk))
      go_ret
      exact ⟨by rw [HN.out]; rfl, by rw [HN.out]; rw [HF.out] at HR2; exact HR2.out, HK1.out.trans HK2.out⟩
    · rw [if_neg hl] at hte
      have HN := Aside0.mk hte
      clear hte
      obtain ⟨m, rfl⟩ := Int.eq_ofNat_of_zero_le hn0
      have hl' : m ≤ bb.length := by omega
      have hl2 : decide (bb.length < m) = false := decide_eq_false (by omega)
      clear hl hn0
      go_enter Try.func37, Try.ntmps37
      go_wp2_with (first | (go_at_call 62; refine (many_at 65536 _ _ _ _ _ (by decide) HR.out _ _ _ HQ.out).mono ?_; rintro e w1 ⟨rfl, hr, hk⟩; have HR1 := Aside0.mk hr; have HK1 := Aside0.mk hk; clear hr hk) | (go_at_call 31; refine (err_yes _ _ _ _ _ HR1.out).mono ?_; rintro e w' ⟨rfl, rfl⟩; obtain ⟨A, c, A', h0, hf, hc, hm, hcv, hcut, hR'⟩ := Rd.open_text HR1.out m hl'; have HR2 := Aside0.mk hR'; clear hR'))
      go_ret
      exact ⟨by rw [HN.out]; rfl, by rw [HN.out]; exact HR2.out, HK1.out.set 0 _⟩
  · rw [if_pos he] at hte
    have HN := Aside0.mk hte
    have he1 : (e1 != 0) = true := by simp [he]
    clear hte he
    go_enter Try.func37, Try.ntmps37
    go_wp2_with (first | (go_at_call 62; refine (many_at 65536 _ _ _ _ _ (by decide) HR.out _ _ _ HQ.out).mono ?_; rintro e w1 ⟨rfl, hr, hk⟩; have HR1 := Aside0.mk hr; have HK1 := Aside0.mk hk; clear hr hk) | (go_at_call 31; refine (err_yes _ _ _ _ _ HR1.out).mono ?_; rintro e w' ⟨rfl, rfl⟩))
    go_ret
    exact ⟨by rw [HN.out]; rfl, by rw [HN.out]; exact HR1.out, HK1.out⟩
end Go.Proofs.Ytcpnjlagmnlecaa.A5
