/- wire.Reader's Num, many and Text. -/
import Derived.Test.YtcpnjlagmnlecaaProg
import Derived.Below
import Derived.Deep.Draws
import Derived.Deep.AppendLies
import Derived.Maps.AppendAt
import Derived.OwnWalk
import Derived.Laws.BytesArg
import Derived.Laws.MakeOwn
import Derived.Laws.OwnMore
import Derived.Deep.OwnRows
import Derived.Tactics
import Derived.Lib.ConvBytes
import Derived.Laws.Slices
import Derived.WalkKit
import Derived.KernelRfl
import Derived.RowKit3
import Derived.Deep.LoopGhost
import Derived.Deep.QuietTactic
import Derived.BigQuiet
import Derived.WideLaws
import Derived.Deep.DeepCutAuto
import Derived.Deep.CutBlock
import Derived.Deep.RegionHeld3
import Derived.Laws.Rows
import Derived.Lib.AppendStr
import Derived.ArgAppend
import Derived.Laws.IdiomCopy
import Derived.OrdersHeld
import Derived.Laws.BitsLemmas
import Derived.RowKit
import Derived.WalkSpells
import Derived.Laws.CopyOwn
import Derived.Test.YtcpnjlagmnlecaaWWords
import Derived.Test.YtcpnjlagmnlecaaWLast
import Derived.Test.YtcpnjlagmnlecaaWMore
import Derived.Test.YtcpnjlagmnlecaaA3
namespace Go.Proofs.Ytcpnjlagmnlecaa.A4
open Go.RowKit Go.Proofs.YtcpnjlagmnlecaaW.PrintWords Go.Proofs.YtcpnjlagmnlecaaW.PrintLast Go.Proofs.YtcpnjlagmnlecaaW.PrintMore Go.Proofs.Ytcpnjlagmnlecaa Go.Proofs.Ytcpnjlagmnlecaa.A2 Go.Proofs.Ytcpnjlagmnlecaa.A3
set_option linter.unusedVariables false
set_option linter.unusedSimpArgs false
theorem info5 : (Try.prog.info? 5).map (fun i => (i.zero, i.size, i.bytes)) = some (some (.int .u8 0), 1, 1) := by kernel_rfl
theorem C_cut (A : Option Addr) (n c m : Nat) (hm : m ≤ n) :
    ∃ A' : Option Addr, (∀ W : World, (Instr.slice 22 (.slice A n c) (some (.int .i64 (m : Int))) none none).run Try.prog W = .ok (.slice A' (n - m) (c - m)) W) ∧
      (∀ (w : World) (xs : List Int), n ≤ c → (Kd.int .u8).C w A n xs → (Kd.int .u8).C w A' (n - m) (xs.drop m)) ∧ (∀ ad', A' = some ad' → ∃ ad, A = some ad ∧ ad'.block = ad.block) := by
  obtain ⟨i0, hi, hzz⟩ := Option.map_eq_some_iff.1 info5
  simp only [Prod.mk.injEq] at hzz
  refine ⟨if c = m then A else A.map (·.add m), fun W => ?_, fun w xs hc h => ?_, fun ad' e => ?_⟩
  · have hel : Try.prog.elem 22 = 5 := by simp [Program.elem, Try.underlying22]
    have hu : Try.prog.underlying 22 = some (.slice (Try.prog.elem 22)) := by rw [hel]; exact Try.underlying22
    rw [run_slice_l W 22 A n c hu .i64 (m : Int) (Int.natCast_nonneg _) (by omega), hel]
    simp [sizeOf, typeInfo, hi, hzz.2.1, sliced, Result.andThen]
  · exact Kd.C_of_reads (d := (0 : Int)) (h1 := fun _ => rfl) (ReadsOf.drop_ (Kd.reads_of_C (d := (0 : Int)) h) m hm hc)
  · split at e
    · exact ⟨ad', e, rfl⟩
    · obtain ⟨ad, rfl, rfl⟩ := Option.map_eq_some_iff.1 e
      exact ⟨ad, rfl, by unfold Addr.add; split <;> rfl⟩
/-- A reader opened: its cells, its first byte, the cut of its bytes and the reader behind it. -/
theorem Rd.open_ {W : World} {lo g : Nat} {b : List Int} {e : Int} (h : Rd W lo g b e) (m : Nat) (hm : m ≤ b.length) :
    ∃ A c A', W.cell? ⟨g, 0, none⟩ = some (.slice A b.length c) ∧ W.cell? ⟨g, 1, none⟩ = some (.int .i64 e) ∧ W.frozen? ⟨g, 0, none⟩ = false ∧ b.length ≤ c ∧ b.length ≤ 9223372036854775807 ∧
      Kd.C (Kd.int .u8) W A b.length b ∧
      (∀ W1 : World, (Instr.slice 22 (.slice A b.length c) (some (.int .i64 (m : Int))) none none).run Try.prog W1 = .ok (.slice A' (b.length - m) (c - m)) W1) ∧
      Rd (W.setCell ⟨g, 0, none⟩ (.slice A' (b.length - m) (c - m))) lo g (b.drop m) e := by
  obtain ⟨A, c, hg, hc, hC, hb, ho⟩ := h
  obtain ⟨A', h1, h2, h3⟩ := C_cut A b.length c m hm
  have h2' := h2 W b hc hC
  rw [← List.length_drop] at h2'
  refine ⟨A, c, A', (blk_cell hg 0).trans rfl, (blk_cell hg 1).trans rfl, blk_frozen hg 0, hc, hC.2.1, hC, h1, A', c - m, ?_, by rw [List.length_drop]; omega, ?_, ?_, ?_⟩
  · rw [List.length_drop]; simpa using blk_set hg 0 (.slice A' (b.length - m) (c - m))
  · exact C_block h2' (fun ad e => by
      obtain ⟨ad0, e0, he⟩ := h3 ad e
      exact Below.heap_setCell W ⟨g, 0, none⟩ _ _ (by have := hb ad0 e0; show ad.block ≠ g; omega))
  · intro ad e
    obtain ⟨ad0, e0, he⟩ := h3 ad e
    rw [he]; exact hb ad0 e0
  · unfold okB at ho ⊢
    rw [List.all_eq_true] at ho ⊢
    exact fun x hx => ho x (List.mem_of_mem_drop hx)
theorem okB_cons {x : Int} {b : List Int} (h : okB (x :: b) = true) : 0 ≤ x ∧ x < 256 := by
  have := List.all_eq_true.1 h x List.mem_cons_self
  simpa using this
theorem Rd.ok {W : World} {lo g : Nat} {b : List Int} {e : Int} (h : Rd W lo g b e) : okB b = true := by
  obtain ⟨A, c, hg, hc, hC, hb, ho⟩ := h; exact ho
theorem pow_le (i : Nat) (hi : i ≤ 7) : (1 : Int) ≤ (128 : Int) ^ i ∧ (128 : Int) ^ i ≤ 562949953421312 := by
  rcases i with _ | _ | _ | _ | _ | _ | _ | _ | i
  all_goals first | omega | decide

set_option maxHeartbeats 4000000 in
set_option maxRecDepth 100000 in
theorem num_bad (lo g : Nat) (b : List Int) (e : Int) (w : World) (h : Rd w lo g b e) (he : e ≠ 0) :
    Calls Try.prog 36 #[.pointer (some ⟨g, 0, none⟩)] w fun en w' => en = .returned (.int .i64 0) ∧ w = w' := by
  obtain ⟨A, c, hg, _⟩ := h
  have h1 : w.cell? ⟨g, 1, none⟩ = some (.int .i64 e) := (blk_cell hg 1).trans rfl
  have HG := Aside0.mk hg
  have he1 : (e == 0) = false := by simp [he]
  clear hg he
  go_enter Try.func36, Try.ntmps36
  go_wp2_with (go_at_call 57; refine (none_no _ _ _ _ HG.out).mono ?_; rintro e w' ⟨rfl, rfl⟩)
  go_loop [3, 4] (fun _ _ => True) (fun _ _ => 0)
  case atStart => trivial
  case round =>
    go_wp2
    go_ret
    exact ⟨rfl, rfl⟩
set_option maxHeartbeats 4000000 in
set_option maxRecDepth 100000 in
theorem num_good (lo g : Nat) (b : List Int) (w : World) (h : Rd w lo g b 0) :
    Calls Try.prog 36 #[.pointer (some ⟨g, 0, none⟩)] w fun en w' => en = .returned (.int .i64 (WireP.rdn 0 1 0 b).1) ∧ Rd w' lo g (WireP.rdn 0 1 0 b).2.1 (WireP.rdn 0 1 0 b).2.2 ∧ Kp w w' g := by
  have HR := Aside0.mk h
  obtain ⟨A, c, hg, _⟩ := h
  have HG := Aside0.mk hg
  clear hg
  go_enter Try.func36, Try.ntmps36
  go_wp2_with (go_at_call 57; refine (none_no _ _ _ _ HG.out).mono ?_; rintro e w' ⟨rfl, rfl⟩)
  go_loopw [2, 3, 4] (fun v2 v3 v4 wr => ∃ (i : Nat) (u n : Int) (bb : List Int), v3 = .int .i64 i ∧ v4 = .int .i64 u ∧ v2 = .int .i64 n ∧ i ≤ 7 ∧ u = 128 ^ i ∧ 0 ≤ n ∧ n < u ∧ Aside0 (Rd wr lo g bb 0) ∧ Aside0 (Kp w wr g) ∧ Aside0 (WireP.rdn 0 1 0 b = WireP.rdn i u n bb)) (fun _ v3 _ _ => 8 - (intOf v3).toNat)
  case atStart => exact ⟨0, 1, 0, b, rfl, rfl, rfl, by omega, rfl, by omega, by omega, HR, ⟨Kp.refl _ _⟩, ⟨rfl⟩⟩
  case round =>
    obtain ⟨i, u, n, bb, rfl, rfl, rfl, hi, hu, hn0, hn1, HW, HK, HE⟩ := hrel
    have hp := pow_le i hi
    rw [← hu] at hp
    obtain ⟨hu1, hu2⟩ := hp
    have HU := Aside0.mk hu
    clear hu
    cases bb with
    | nil =>
      obtain ⟨A, c, A', h0, h1, hf, hc, hm, hC, hcut, hR'⟩ := Rd.open_ HW.out 0 (by simp)
      clear hC hcut hR' hc hm
      go_wp2_with (go_at_call 58; refine (fail_yes _ _ _ _ _ _ HW.out).mono ?_; rintro e w1 ⟨rfl, hr, hk⟩; have HR1 := Aside0.mk hr; have HK1 := Aside0.mk hk; clear hr hk)
      go_ret
      exact ⟨by rw [HE.out]; rfl, by rw [HE.out]; exact HR1.out, HK.out.trans HK1.out⟩
    | cons x bb =>
      obtain ⟨A, c, A', h0, h1, hf, hc, hm, hC, hcut, hR'⟩ := Rd.open_ HW.out 1 (by simp)
      obtain ⟨hx0, hx1⟩ := okB_cons (Rd.ok HW.out)
      obtain ⟨ad, ea, hx⟩ := Kd.at_int hC 0 (by omega) (by simp)
      cases ea
      have hx2 : wr.cell? ad = some (.int .u8 x) := hx
      have HR1 := Aside0.mk (show Rd (wr.setCell ⟨g, 0, none⟩ (.slice A' bb.length (c - 1))) lo g bb 0 from hR')
      have hcut' : ∀ W1 : World, (Instr.slice 22 (.slice (some ad) (bb.length + 1) c) (some (.int .i64 1)) none none).run Try.prog W1 = .ok (.slice A' bb.length (c - 1)) W1 := hcut
      have h0' : wr.cell? ⟨g, 0, none⟩ = some (.slice (some ad) (bb.length + 1) c) := h0
      have hm' : bb.length + 1 ≤ 9223372036854775807 := hm
      have HK1 := Aside0.mk (HK.out.set 0 (.slice A' bb.length (c - 1)))
      clear hx hC hR' hc hcut h0 hm
      obtain ⟨q, hq⟩ : ∃ q : Int, q = x % 128 * u := ⟨_, rfl⟩
      have hq0 : 0 ≤ q := by rw [hq]; exact Int.mul_nonneg (by omega) (by omega)
      have hq1 : q ≤ 71494644084506624 := by
        rw [hq]
        exact Int.le_trans (Int.mul_le_mul (show x % 128 ≤ 127 by omega) hu2 (by omega) (by omega)) (by decide)
      have HQ := Aside0.mk hq
      have hqw : wrap64 (x % 128 * u) = q := by rw [← hq]; exact IntWalk.wrap64_in q ⟨by omega, by omega⟩
      clear hq
      by_cases hbad : (i = 7 ∧ 16 ≤ x) ∨ (0 < i ∧ x = 0)
      · have HN : Aside0 (WireP.rdn i u n (x :: bb) = (0, bb, 4)) := ⟨by rw [WireP.rdn, if_pos hbad]⟩
        by_cases h7 : i = 7
        · subst h7
          by_cases h16 : 16 ≤ x
          · clear hbad
            go_wp2_with (go_at_call 58; refine (fail_yes _ _ _ _ _ _ HR1.out).mono ?_; rintro e w1 ⟨rfl, hr, hk⟩; have HR2 := Aside0.mk hr; have HK2 := Aside0.mk hk; clear hr hk)
            go_ret
            exact ⟨by rw [HE.out, HN.out]; rfl, by rw [HE.out, HN.out]; exact HR2.out, HK1.out.trans HK2.out⟩
          · have hx0 : x = 0 := by omega
            subst hx0
            clear hbad
            go_wp2_with (go_at_call 58; refine (fail_yes _ _ _ _ _ _ HR1.out).mono ?_; rintro e w1 ⟨rfl, hr, hk⟩; have HR2 := Aside0.mk hr; have HK2 := Aside0.mk hk; clear hr hk)
            go_ret
            exact ⟨by rw [HE.out, HN.out]; rfl, by rw [HE.out, HN.out]; exact HR2.out, HK1.out.trans HK2.out⟩
        · have hx0 : x = 0 := by omega
          have hi0 : 0 < i := by omega
          have h7' : ¬ ((i : Int) = 7) := by omega
          subst hx0
          clear hbad h7
          go_wp2_with (go_at_call 58; refine (fail_yes _ _ _ _ _ _ HR1.out).mono ?_; rintro e w1 ⟨rfl, hr, hk⟩; have HR2 := Aside0.mk hr; have HK2 := Aside0.mk hk; clear hr hk)
          go_ret
          exact ⟨by rw [HE.out, HN.out]; rfl, by rw [HE.out, HN.out]; exact HR2.out, HK1.out.trans HK2.out⟩
      · have HN : Aside0 (WireP.rdn i u n (x :: bb) = if x < 128 then (n + x % 128 * u, bb, 0) else WireP.rdn (i + 1) (u * 128) (n + x % 128 * u) bb) := ⟨by rw [WireP.rdn, if_neg hbad]⟩
        by_cases h128 : x < 128
        · have HN' := Aside0.mk (HN.out.trans (if_pos h128))
          clear HN
          by_cases h7 : i = 7
          · have h16 : x < 16 := by omega
            have hxb : (x == 0) = false := by simp; omega
            subst h7
            clear hbad
            go_wp2
            go_ret
            exact ⟨by rw [HE.out, HN'.out, ← HQ.out]; rfl, by rw [HE.out, HN'.out]; exact HR1.out, HK1.out⟩
          · have h7' : ¬ ((i : Int) = 7) := by omega
            by_cases hi0 : 0 < i
            · have hx0 : ¬ (x = 0) := by omega
              clear hbad h7
              go_wp2
              go_ret
              exact ⟨by rw [HE.out, HN'.out, ← HQ.out]; rfl, by rw [HE.out, HN'.out]; exact HR1.out, HK1.out⟩
            · have hi0' : i = 0 := by omega
              subst hi0'
              clear hbad h7 hi0
              go_wp2
              go_ret
              exact ⟨by rw [HE.out, HN'.out, ← HQ.out]; rfl, by rw [HE.out, HN'.out]; exact HR1.out, HK1.out⟩
        · have HN' := Aside0.mk (HN.out.trans (if_neg h128))
          clear HN
          have h7 : i ≠ 7 := by omega
          have h7' : ¬ ((i : Int) = 7) := by omega
          have HI7 := Aside0.mk h7
          by_cases hi0 : 0 < i
          · have hx0 : ¬ (x = 0) := by omega
            clear hbad h7
            go_wp2
            go_roundw
            case rel => exact ⟨i + 1, u * 128, n + q, bb, by go_num, by first | rfl | go_num, rfl, by have := HI7.out; omega, by rw [HU.out, Int.pow_succ], by omega, (by have hq := HQ.out; have h1 : x % 128 * u ≤ 127 * u := Int.mul_le_mul_of_nonneg_right (by omega) (by omega); omega), HR1, HK1, ⟨by rw [HE.out, HN'.out, ← HQ.out]⟩⟩
            case measure => have := HI7.out; simp [intOf]; omega
          · have hi0' : i = 0 := by omega
            subst hi0'
            clear hbad h7 hi0
            go_wp2
            go_roundw
            case rel => exact ⟨0 + 1, u * 128, n + q, bb, by go_num, by first | rfl | go_num, rfl, by omega, by rw [HU.out, Int.pow_succ], by omega, (by have hq := HQ.out; have h1 : x % 128 * u ≤ 127 * u := Int.mul_le_mul_of_nonneg_right (by omega) (by omega); omega), HR1, HK1, ⟨by rw [HE.out, HN'.out, ← HQ.out]⟩⟩
            case measure => simp [intOf]
end Go.Proofs.Ytcpnjlagmnlecaa.A4
