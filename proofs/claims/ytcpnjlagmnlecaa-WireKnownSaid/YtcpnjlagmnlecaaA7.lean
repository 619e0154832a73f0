/- The document's reader (armillaryref01.Reader): its state in memory and its methods. -/
import Derived.Test.YtcpnjlagmnlecaaProg
import Derived.Below
import Derived.Deep.Draws
import Derived.Deep.AppendLies
import Derived.Maps.AppendAt
import Derived.OwnWalk
import Derived.Laws.BytesArg
import Derived.Laws.MakeOwn
import Derived.Laws.OwnMore
import Derived.Deep.OwnRows
import Derived.Tactics
import Derived.Lib.ConvBytes
import Derived.Laws.Slices
import Derived.WalkKit
import Derived.KernelRfl
import Derived.RowKit3
import Derived.Deep.LoopGhost
import Derived.Deep.QuietTactic
import Derived.BigQuiet
import Derived.WideLaws
import Derived.Deep.DeepCutAuto
import Derived.Deep.CutBlock
import Derived.Deep.RegionHeld3
import Derived.Laws.Rows
import Derived.Lib.AppendStr
import Derived.ArgAppend
import Derived.Laws.IdiomCopy
import Derived.OrdersHeld
import Derived.Laws.BitsLemmas
import Derived.RowKit
import Derived.WalkSpells
import Derived.Laws.CopyOwn
import Derived.Test.YtcpnjlagmnlecaaWWords
import Derived.Test.YtcpnjlagmnlecaaWLast
import Derived.Test.YtcpnjlagmnlecaaWMore
import Derived.Test.YtcpnjlagmnlecaaA6
import Derived.Test.YtcpnjlagmnlecaaHx1
namespace Go.Proofs.Ytcpnjlagmnlecaa.A7
open Go.RowKit Go.Proofs.YtcpnjlagmnlecaaW.PrintWords Go.Proofs.YtcpnjlagmnlecaaW.PrintLast Go.Proofs.YtcpnjlagmnlecaaW.PrintMore Go.Proofs.Ytcpnjlagmnlecaa Go.Proofs.Ytcpnjlagmnlecaa.A2 Go.Proofs.Ytcpnjlagmnlecaa.A3 Go.Proofs.Ytcpnjlagmnlecaa.A4 Go.Proofs.Ytcpnjlagmnlecaa.A5 Go.Proofs.Ytcpnjlagmnlecaa.A6
set_option linter.unusedVariables false
set_option linter.unusedSimpArgs false
/-- A reader at block g; its bytes lie in a block from lo on, below g. -/
def Rm (W : World) (lo g : Nat) (b : List Int) (e : Int) : Prop :=
  ∃ A c, W.heap[g]? = some (.cells #[.slice A b.length c, .int .i64 e] 52 (0, 0)) ∧ b.length ≤ c ∧ Kd.C (Kd.int .u8) W A b.length b ∧ (∀ ad, A = some ad → lo ≤ ad.block ∧ ad.block < g) ∧ okB b = true
theorem Rm.lt {W : World} {lo g : Nat} {b : List Int} {e : Int} (h : Rm W lo g b e) : g < W.heap.size := by
  obtain ⟨A, c, hg, _⟩ := h
  exact blk_lt hg
theorem Rm.keep {W W1 : World} {lo g g' : Nat} {b : List Int} {e : Int} (h : Rm W lo g b e) (hk : Kp W W1 g') (hne : g' ≠ g) (hlo : g' < lo ∨ g < g') : Rm W1 lo g b e := by
  obtain ⟨A, c, hg, hc, hC, hb, ho⟩ := h
  have hl := blk_lt hg
  refine ⟨A, c, (hk.block hl (Ne.symm hne)).trans hg, hc, C_block hC (fun ad e => hk.block (by have := hb ad e; omega) (by have := hb ad e; omega)), hb, ho⟩
theorem Rm.below {W W1 : World} {lo g : Nat} {b : List Int} {e : Int} (h : Rm W lo g b e) (hk : Below W.heap.size W W1) : Rm W1 lo g b e :=
  h.keep (g' := W.heap.size) (Kp.of_below hk (Nat.le_refl _)) (by have := h.lt; omega) (.inr h.lt)

/-- A store of the error. -/
theorem Rm.err {W : World} {lo g : Nat} {b : List Int} {e : Int} (h : Rm W lo g b e) (x : Int) : Rm (W.setCell ⟨g, 1, none⟩ (.int .i64 x)) lo g b x := by
  obtain ⟨A, c, hg, hc, hC, hb, ho⟩ := h
  refine ⟨A, c, by simpa using blk_set hg 1 (.int .i64 x), hc, C_block hC (fun ad e => Below.heap_setCell W ⟨g, 1, none⟩ _ _ (by have := hb ad e; show ad.block ≠ g; omega)), hb, ho⟩
/-- A reader opened: its cells, its first byte, the cut of its bytes and the reader behind it. -/
theorem Rm.open_ {W : World} {lo g : Nat} {b : List Int} {e : Int} (h : Rm W lo g b e) (m : Nat) (hm : m ≤ b.length) :
    ∃ A c A', W.cell? ⟨g, 0, none⟩ = some (.slice A b.length c) ∧ W.cell? ⟨g, 1, none⟩ = some (.int .i64 e) ∧ W.frozen? ⟨g, 0, none⟩ = false ∧ b.length ≤ c ∧ b.length ≤ 9223372036854775807 ∧
      Kd.C (Kd.int .u8) W A b.length b ∧
      (∀ W1 : World, (Instr.slice 22 (.slice A b.length c) (some (.int .i64 (m : Int))) none none).run Try.prog W1 = .ok (.slice A' (b.length - m) (c - m)) W1) ∧
      Rm (W.setCell ⟨g, 0, none⟩ (.slice A' (b.length - m) (c - m))) lo g (b.drop m) e := by
  obtain ⟨A, c, hg, hc, hC, hb, ho⟩ := h
  obtain ⟨A', h1, h2, h3⟩ := C_cut A b.length c m hm
  have h2' := h2 W b hc hC
  rw [← List.length_drop] at h2'
  refine ⟨A, c, A', (blk_cell hg 0).trans rfl, (blk_cell hg 1).trans rfl, blk_frozen hg 0, hc, hC.2.1, hC, h1, A', c - m, ?_, by rw [List.length_drop]; omega, ?_, ?_, ?_⟩
  · rw [List.length_drop]; simpa using blk_set hg 0 (.slice A' (b.length - m) (c - m))
  · exact C_block h2' (fun ad e => by
      obtain ⟨ad0, e0, he⟩ := h3 ad e
      exact Below.heap_setCell W ⟨g, 0, none⟩ _ _ (by have := hb ad0 e0; show ad.block ≠ g; omega))
  · intro ad e
    obtain ⟨ad0, e0, he⟩ := h3 ad e
    rw [he]; exact hb ad0 e0
  · unfold okB at ho ⊢
    rw [List.all_eq_true] at ho ⊢
    exact fun x hx => ho x (List.mem_of_mem_drop hx)
theorem Rm.ok {W : World} {lo g : Nat} {b : List Int} {e : Int} (h : Rm W lo g b e) : okB b = true := by
  obtain ⟨A, c, hg, hc, hC, hb, ho⟩ := h; exact ho
theorem Rm.open_text {W : World} {lo g : Nat} {b : List Int} {e : Int} (h : Rm W lo g b e) (m : Nat) (hm : m ≤ b.length) :
    ∃ A c A', W.cell? ⟨g, 0, none⟩ = some (.slice A b.length c) ∧ W.frozen? ⟨g, 0, none⟩ = false ∧ m ≤ c ∧ b.length ≤ 9223372036854775807 ∧
      (convert 22 9 (.slice A m c)).run Try.prog W = .ok (.string (strOfNums (b.take m))) W ∧
      (∀ W1 : World, (Instr.slice 22 (.slice A b.length c) (some (.int .i64 (m : Int))) none none).run Try.prog W1 = .ok (.slice A' (b.length - m) (c - m)) W1) ∧
      Rm (W.setCell ⟨g, 0, none⟩ (.slice A' (b.length - m) (c - m))) lo g (b.drop m) e := by
  obtain ⟨A, c, A', h0, h1, hf, hc, hl, hC, hcut, hR'⟩ := Rm.open_ h m hm
  have hcv := Kd.C_string (P := Try.prog) (c := c) Try.underlying22 Try.underlying5 Try.underlying9 (Kd.C_take hC hm)
  rw [List.length_take, Nat.min_eq_left hm] at hcv
  exact ⟨A, c, A', h0, hf, by omega, hl, hcv, hcut, hR'⟩
theorem Rm.belowB {W W1 : World} {lo g B : Nat} {b : List Int} {e : Int} (h : Rm W lo g b e) (hb : Below B W W1) (hg : g < B) : Rm W1 lo g b e := by
  obtain ⟨A, c, hh, hc, hC, hd, ho⟩ := h
  exact ⟨A, c, (hb.block g hg).trans hh, hc, C_block hC (fun ad e => hb.block _ (by have := hd ad e; omega)), hd, ho⟩
theorem Rm.cell1 {W : World} {lo g : Nat} {b : List Int} {e : Int} (h : Rm W lo g b e) : W.cell? ⟨g, 1, none⟩ = some (.int .i64 e) := by
  obtain ⟨A, c, hh, _⟩ := h
  exact (blk_cell hh 1).trans rfl

set_option maxRecDepth 100000 in
theorem rleft (lo g : Nat) (b : List Int) (e : Int) (w : World) (h : Rm w lo g b e) :
    Calls Try.prog 30 #[.pointer (some ⟨g, 0, none⟩)] w fun en w' => en = .returned (.int .i64 (left b e)) ∧ w = w' := by
  obtain ⟨A, c, hg, _⟩ := h
  have h1 : w.cell? ⟨g, 1, none⟩ = some (.int .i64 e) := (blk_cell hg 1).trans rfl
  have h0 : w.cell? ⟨g, 0, none⟩ = some (.slice A b.length c) := (blk_cell hg 0).trans rfl
  clear hg
  by_cases he : e = 0
  · subst he
    go_enter Try.func30, Try.ntmps30
    go_wp2
    go_ret
    exact ⟨rfl, rfl⟩
  · have he1 : (e != 0) = true := by simp [he]
    have HL := Aside0.mk (show left b e = 0 from if_neg he)
    clear he
    go_enter Try.func30, Try.ntmps30
    go_wp2
    go_ret
    exact ⟨by rw [HL.out]; rfl, rfl⟩
set_option maxRecDepth 100000 in
theorem rfail (lo g : Nat) (b : List Int) (e x : Int) (w : World) (h : Rm w lo g b e) :
    Calls Try.prog 59 #[.pointer (some ⟨g, 0, none⟩), .int .i64 x] w fun en w' => en = .returned (.tuple #[]) ∧ Rm w' lo g b (failed e x) ∧ Kp w w' g := by
  have HR := Aside0.mk h
  obtain ⟨A, c, hg, _⟩ := h
  have h1 : w.cell? ⟨g, 1, none⟩ = some (.int .i64 e) := (blk_cell hg 1).trans rfl
  have hf : w.frozen? ⟨g, 1, none⟩ = false := blk_frozen hg 1
  clear hg
  by_cases he : e = 0
  · have hx := Aside0.mk (show failed e x = x from if_pos he)
    subst he
    go_enter Try.func59, Try.ntmps59
    go_wp2
    first | go_end0 | ((try simp only [Exit.inBlock, Exit.then]); refine bodyPost_ret (results_none rfl _ _ _) rfl ?_)
    exact ⟨rfl, by rw [hx.out]; exact Rm.err HR.out x, (Kp.refl _ _).set 1 _⟩
  · have hx := Aside0.mk (show failed e x = e from if_neg he)
    have he1 : (e == 0) = false := by simp [he]
    clear he
    go_enter Try.func59, Try.ntmps59
    go_wp2
    first | go_end0 | ((try simp only [Exit.inBlock, Exit.then]); refine bodyPost_ret (results_none rfl _ _ _) rfl ?_)
    exact ⟨rfl, by rw [hx.out]; exact HR.out, Kp.refl _ _⟩
set_option maxRecDepth 100000 in
theorem rend (lo g : Nat) (b : List Int) (e : Int) (w : World) (h : Rm w lo g b e) :
    Calls Try.prog 33 #[.pointer (some ⟨g, 0, none⟩)] w fun en w' => en = .returned (.int .i64 (ended b e)) ∧ Rm w' lo g b (ended b e) ∧ Kp w w' g := by
  have HR := Aside0.mk h
  obtain ⟨A, c, hg, _⟩ := h
  have h1 : w.cell? ⟨g, 1, none⟩ = some (.int .i64 e) := (blk_cell hg 1).trans rfl
  have h0 : w.cell? ⟨g, 0, none⟩ = some (.slice A b.length c) := (blk_cell hg 0).trans rfl
  clear hg
  by_cases he : e = 0
  · subst he
    cases b with
    | nil =>
      have hx := Aside0.mk (show ended ([] : List Int) 0 = 0 from rfl)
      go_enter Try.func33, Try.ntmps33
      go_wp2
      go_ret
      exact ⟨rfl, HR.out, Kp.refl _ _⟩
    | cons x b =>
      have hx := Aside0.mk (show ended (x :: b) 0 = 4 from by unfold ended; simp)
      have hF := Aside0.mk (show failed 0 4 = 4 from rfl)
      have hl : ((x :: b).length : Int) > 0 := by simp
      go_enter Try.func33, Try.ntmps33
      go_wp2_with (go_at_call 59; refine (rfail _ _ _ _ _ _ HR.out).mono ?_; rintro e w1 ⟨rfl, hr, hk⟩; have HR1 := Aside0.mk hr; have HK1 := Aside0.mk hk; have hc1 := Rm.cell1 HR1.out; clear hr hk)
      go_ret
      exact ⟨by rw [hx.out]; rfl, by rw [hx.out]; exact HR1.out, HK1.out⟩
  · have he1 : (e == 0) = false := by simp [he]
    have hx := Aside0.mk (show ended b e = e from if_neg he)
    clear he
    go_enter Try.func33, Try.ntmps33
    go_wp2
    go_ret
    exact ⟨by rw [hx.out]; rfl, by rw [hx.out]; exact HR.out, Kp.refl _ _⟩
set_option maxHeartbeats 4000000 in
set_option maxRecDepth 100000 in
theorem rnum_bad (lo g : Nat) (b : List Int) (e : Int) (w : World) (h : Rm w lo g b e) (he : e ≠ 0) :
    Calls Try.prog 51 #[.pointer (some ⟨g, 0, none⟩)] w fun en w' => en = .returned (.int .i64 0) ∧ w = w' := by
  obtain ⟨A, c, hg, _⟩ := h
  have h1 : w.cell? ⟨g, 1, none⟩ = some (.int .i64 e) := (blk_cell hg 1).trans rfl
  have he1 : (e == 0) = false := by simp [he]
  clear hg he
  go_enter Try.func51, Try.ntmps51
  go_wp2
  go_loop [4] (fun _ => True) (fun _ => 0)
  case atStart => trivial
  case round =>
    go_wp2
    go_ret
    exact ⟨rfl, rfl⟩
set_option maxHeartbeats 4000000 in
set_option maxRecDepth 100000 in
theorem rnum_good (lo g : Nat) (b : List Int) (w : World) (h : Rm w lo g b 0) :
    Calls Try.prog 51 #[.pointer (some ⟨g, 0, none⟩)] w fun en w' => en = .returned (.int .i64 (WireP.rdn 0 1 0 b).1) ∧ Rm w' lo g (WireP.rdn 0 1 0 b).2.1 (WireP.rdn 0 1 0 b).2.2 ∧ Kp w w' g := by
  have HR := Aside0.mk h
  obtain ⟨A, c, hg, _⟩ := h
  have HG := Aside0.mk hg
  clear hg
  go_enter Try.func51, Try.ntmps51
  go_wp2
  go_loopw [3, 4, 5] (fun v2 v4 v3 wr => ∃ (i : Nat) (u n : Int) (bb : List Int), v3 = .int .i64 i ∧ v4 = .int .i64 u ∧ v2 = .int .i64 n ∧ i ≤ 7 ∧ u = 128 ^ i ∧ 0 ≤ n ∧ n < u ∧ Aside0 (Rm wr lo g bb 0) ∧ Aside0 (Kp w wr g) ∧ Aside0 (WireP.rdn 0 1 0 b = WireP.rdn i u n bb)) (fun _ _ v3 _ => 8 - (intOf v3).toNat)
  case atStart => exact ⟨0, 1, 0, b, rfl, rfl, rfl, by omega, rfl, by omega, by omega, HR, ⟨Kp.refl _ _⟩, ⟨rfl⟩⟩
  case round =>
    obtain ⟨i, u, n, bb, rfl, rfl, rfl, hi, hu, hn0, hn1, HW, HK, HE⟩ := hrel
    have hp := pow_le i hi
    rw [← hu] at hp
    obtain ⟨hu1, hu2⟩ := hp
    have HU := Aside0.mk hu
    clear hu
    cases bb with
    | nil =>
      obtain ⟨A, c, A', h0, h1, hf, hc, hm, hC, hcut, hR'⟩ := Rm.open_ HW.out 0 (by simp)
      clear hC hcut hR' hc hm
      go_wp2_with (go_at_call 59; refine (rfail _ _ _ _ _ _ HW.out).mono ?_; rintro e w1 ⟨rfl, hr, hk⟩; have HR1 := Aside0.mk hr; have HK1 := Aside0.mk hk; clear hr hk)
      go_ret
      exact ⟨by rw [HE.out]; rfl, by rw [HE.out]; exact HR1.out, HK.out.trans HK1.out⟩
    | cons x bb =>
      obtain ⟨A, c, A', h0, h1, hf, hc, hm, hC, hcut, hR'⟩ := Rm.open_ HW.out 1 (by simp)
      obtain ⟨hx0, hx1⟩ := okB_cons (Rm.ok HW.out)
      obtain ⟨ad, ea, hx⟩ := Kd.at_int hC 0 (by omega) (by simp)
      cases ea
      have hx2 : wr.cell? ad = some (.int .u8 x) := hx
      have HR1 := Aside0.mk (show Rm (wr.setCell ⟨g, 0, none⟩ (.slice A' bb.length (c - 1))) lo g bb 0 from hR')
      have hcut' : ∀ W1 : World, (Instr.slice 22 (.slice (some ad) (bb.length + 1) c) (some (.int .i64 1)) none none).run Try.prog W1 = .ok (.slice A' bb.length (c - 1)) W1 := hcut
      have h0' : wr.cell? ⟨g, 0, none⟩ = some (.slice (some ad) (bb.length + 1) c) := h0
      have hm' : bb.length + 1 ≤ 9223372036854775807 := hm
      have HK1 := Aside0.mk (HK.out.set 0 (.slice A' bb.length (c - 1)))
      clear hx hC hR' hc hcut h0 hm
      obtain ⟨q, hq⟩ : ∃ q : Int, q = x % 128 * u := ⟨_, rfl⟩
      have hq0 : 0 ≤ q := by rw [hq]; exact Int.mul_nonneg (by omega) (by omega)
      have hq1 : q ≤ 71494644084506624 := by
        rw [hq]
        exact Int.le_trans (Int.mul_le_mul (show x % 128 ≤ 127 by omega) hu2 (by omega) (by omega)) (by decide)
      have HQ := Aside0.mk hq
      have hqw : wrap64 (x % 128 * u) = q := by rw [← hq]; exact IntWalk.wrap64_in q ⟨by omega, by omega⟩
      clear hq
      by_cases hbad : (i = 7 ∧ 16 ≤ x) ∨ (0 < i ∧ x = 0)
      · have HN : Aside0 (WireP.rdn i u n (x :: bb) = (0, bb, 4)) := ⟨by rw [WireP.rdn, if_pos hbad]⟩
        by_cases h7 : i = 7
        · subst h7
          by_cases h16 : 16 ≤ x
          · clear hbad
            go_wp2_with (go_at_call 59; refine (rfail _ _ _ _ _ _ HR1.out).mono ?_; rintro e w1 ⟨rfl, hr, hk⟩; have HR2 := Aside0.mk hr; have HK2 := Aside0.mk hk; clear hr hk)
            go_ret
            exact ⟨by rw [HE.out, HN.out]; rfl, by rw [HE.out, HN.out]; exact HR2.out, HK1.out.trans HK2.out⟩
          · have hx0 : x = 0 := by omega
            subst hx0
            clear hbad
            go_wp2_with (go_at_call 59; refine (rfail _ _ _ _ _ _ HR1.out).mono ?_; rintro e w1 ⟨rfl, hr, hk⟩; have HR2 := Aside0.mk hr; have HK2 := Aside0.mk hk; clear hr hk)
            go_ret
            exact ⟨by rw [HE.out, HN.out]; rfl, by rw [HE.out, HN.out]; exact HR2.out, HK1.out.trans HK2.out⟩
        · have hx0 : x = 0 := by omega
          have hi0 : 0 < i := by omega
          have h7' : ¬ ((i : Int) = 7) := by omega
          subst hx0
          clear hbad h7
          go_wp2_with (go_at_call 59; refine (rfail _ _ _ _ _ _ HR1.out).mono ?_; rintro e w1 ⟨rfl, hr, hk⟩; have HR2 := Aside0.mk hr; have HK2 := Aside0.mk hk; clear hr hk)
          go_ret
          exact ⟨by rw [HE.out, HN.out]; rfl, by rw [HE.out, HN.out]; exact HR2.out, HK1.out.trans HK2.out⟩
      · have HN : Aside0 (WireP.rdn i u n (x :: bb) = if x < 128 then (n + x % 128 * u, bb, 0) else WireP.rdn (i + 1) (u * 128) (n + x % 128 * u) bb) := ⟨by rw [WireP.rdn, if_neg hbad]⟩
        by_cases h128 : x < 128
        · have HN' := Aside0.mk (HN.out.trans (if_pos h128))
          clear HN
          by_cases h7 : i = 7
          · have h16 : x < 16 := by omega
            have hxb : (x == 0) = false := by simp; omega
            subst h7
            clear hbad
            go_wp2
            go_ret
            exact ⟨by rw [HE.out, HN'.out, ← HQ.out]; rfl, by rw [HE.out, HN'.out]; exact HR1.out, HK1.out⟩
          · have h7' : ¬ ((i : Int) = 7) := by omega
            by_cases hi0 : 0 < i
            · have hx0 : ¬ (x = 0) := by omega
              clear hbad h7
              go_wp2
              go_ret
              exact ⟨by rw [HE.out, HN'.out, ← HQ.out]; rfl, by rw [HE.out, HN'.out]; exact HR1.out, HK1.out⟩
            · have hi0' : i = 0 := by omega
              subst hi0'
              clear hbad h7 hi0
              go_wp2
              go_ret
              exact ⟨by rw [HE.out, HN'.out, ← HQ.out]; rfl, by rw [HE.out, HN'.out]; exact HR1.out, HK1.out⟩
        · have HN' := Aside0.mk (HN.out.trans (if_neg h128))
          clear HN
          have h7 : i ≠ 7 := by omega
          have h7' : ¬ ((i : Int) = 7) := by omega
          have HI7 := Aside0.mk h7
          by_cases hi0 : 0 < i
          · have hx0 : ¬ (x = 0) := by omega
            clear hbad h7
            go_wp2
            go_roundw
            case rel => exact ⟨i + 1, u * 128, n + q, bb, by go_num, by first | rfl | go_num, rfl, by have := HI7.out; omega, by rw [HU.out, Int.pow_succ], by omega, (by have hq := HQ.out; have h1 : x % 128 * u ≤ 127 * u := Int.mul_le_mul_of_nonneg_right (by omega) (by omega); omega), HR1, HK1, ⟨by rw [HE.out, HN'.out, ← HQ.out]⟩⟩
            case measure => have := HI7.out; simp [intOf]; omega
          · have hi0' : i = 0 := by omega
            subst hi0'
            clear hbad h7 hi0
            go_wp2
            go_roundw
            case rel => exact ⟨0 + 1, u * 128, n + q, bb, by go_num, by first | rfl | go_num, rfl, by omega, by rw [HU.out, Int.pow_succ], by omega, (by have hq := HQ.out; have h1 : x % 128 * u ≤ 127 * u := Int.mul_le_mul_of_nonneg_right (by omega) (by omega); omega), HR1, HK1, ⟨by rw [HE.out, HN'.out, ← HQ.out]⟩⟩
            case measure => simp [intOf]
set_option maxHeartbeats 4000000 in
set_option maxRecDepth 100000 in
theorem rnum (lo g : Nat) (b : List Int) (e : Int) (w : World) (h : Rm w lo g b e) (n : Int) (bb : List Int) (e1 : Int) (hq : WireP.num (b, e) = (n, bb, e1)) :
    Calls Try.prog 51 #[.pointer (some ⟨g, 0, none⟩)] w fun en w' => en = .returned (.int .i64 n) ∧ Rm w' lo g bb e1 ∧ Kp w w' g := by
  by_cases he : e = 0
  · subst he
    have hn : WireP.num (b, 0) = WireP.rdn 0 1 0 b := rfl
    rw [hn] at hq
    have := rnum_good lo g b w h
    rwa [hq] at this
  · rw [WireP.num_stuck (s := (b, e)) he] at hq
    simp only [Prod.mk.injEq] at hq
    obtain ⟨rfl, rfl, rfl⟩ := hq
    refine (rnum_bad lo g b e w h he).mono ?_
    rintro en w' ⟨rfl, rfl⟩
    exact ⟨rfl, h, Kp.refl _ _⟩
set_option maxHeartbeats 4000000 in
set_option maxRecDepth 100000 in
theorem rmany (most : Int) (lo g : Nat) (b : List Int) (e : Int) (w : World) (hm : 0 ≤ most) (h : Rm w lo g b e) (n : Int) (bb : List Int) (e1 : Int) (hq : WireP.many most (b, e) = (n, bb, e1)) :
    Calls Try.prog 65 #[.pointer (some ⟨g, 0, none⟩), .int .i64 most] w fun en w' => en = .returned (.int .i64 n) ∧ Rm w' lo g bb e1 ∧ Kp w w' g := by
  have HR := Aside0.mk h
  clear h
  rw [many_eq] at hq
  obtain ⟨⟨n2, b2, e2⟩, hx⟩ : ∃ R, WireP.num (b, e) = R := ⟨_, rfl⟩
  have hf := WireP.num_fail (b, e)
  rw [hx] at hq hf
  simp only at hq hf
  have HX := Aside0.mk hx
  clear hx
  by_cases he : e2 = 0
  · subst he
    by_cases hgt : most < n2
    · rw [if_pos hgt] at hq
      simp only [Prod.mk.injEq] at hq
      obtain ⟨rfl, rfl, rfl⟩ := hq
      have hF := Aside0.mk (show failed 0 5 = 5 from rfl)
      have hg1 : decide (most < n2) = true := decide_eq_true hgt
      clear hgt hf
      go_enter Try.func65, Try.ntmps65
      go_wp2_with (first | (go_at_call 51; refine (rnum _ _ _ _ _ HR.out _ _ _ HX.out).mono ?_; rintro e w1 ⟨rfl, hr, hk⟩; have HR1 := Aside0.mk hr; have HK1 := Aside0.mk hk; have hc1 := Rm.cell1 HR1.out; clear hr hk) | (go_at_call 59; refine (rfail _ _ _ _ _ _ HR1.out).mono ?_; rintro e w2 ⟨rfl, hr, hk⟩; have HR2 := Aside0.mk hr; have HK2 := Aside0.mk hk; have hc2 := Rm.cell1 HR2.out; rw [hF.out] at hc2; clear hr hk))
      go_ret
      exact ⟨rfl, HR2.out, HK1.out.trans HK2.out⟩
    · rw [if_neg hgt] at hq
      simp only [Prod.mk.injEq] at hq
      obtain ⟨rfl, rfl, rfl⟩ := hq
      have hg1 : decide (most < n2) = false := decide_eq_false hgt
      clear hgt hf
      go_enter Try.func65, Try.ntmps65
      go_wp2_with (go_at_call 51; refine (rnum _ _ _ _ _ HR.out _ _ _ HX.out).mono ?_; rintro e w1 ⟨rfl, hr, hk⟩; have HR1 := Aside0.mk hr; have HK1 := Aside0.mk hk; have hc1 := Rm.cell1 HR1.out; clear hr hk)
      go_ret
      exact ⟨rfl, HR1.out, HK1.out⟩
  · have hn : n2 = 0 := hf he
    subst hn
    rw [if_neg (by omega)] at hq
    simp only [Prod.mk.injEq] at hq
    obtain ⟨rfl, rfl, rfl⟩ := hq
    have he1 : (e2 == 0) = false := by simp [he]
    have he2 : (e2 != 0) = true := by simp [he]
    clear he hf
    go_enter Try.func65, Try.ntmps65
    go_wp2_with (go_at_call 51; refine (rnum _ _ _ _ _ HR.out _ _ _ HX.out).mono ?_; rintro e w1 ⟨rfl, hr, hk⟩; have HR1 := Aside0.mk hr; have HK1 := Aside0.mk hk; have hc1 := Rm.cell1 HR1.out; clear hr hk)
    go_ret
    exact ⟨rfl, HR1.out, HK1.out⟩
end Go.Proofs.Ytcpnjlagmnlecaa.A7
