/- SubRules walked: it answers true, of all rows. -/
import Derived.Test.YtgllcpimkjlklaaDoorProg
import Derived.Below
import Derived.Deep.Draws
import Derived.Deep.AppendLies
import Derived.Maps.AppendAt
import Derived.OwnWalk
import Derived.Laws.BytesArg
import Derived.Laws.MakeOwn
import Derived.Laws.OwnMore
import Derived.Deep.OwnRows
import Derived.Tactics
import Derived.Lib.ConvBytes
import Derived.Laws.Slices
import Derived.WalkKit
import Derived.KernelRfl
import Derived.RowKit3
import Derived.Deep.LoopGhost
import Derived.Deep.QuietTactic
import Derived.BigQuiet
import Derived.WideLaws
import Derived.Deep.DeepCutAuto
import Derived.Deep.CutBlock
import Derived.Deep.RegionHeld3
import Derived.Laws.Rows
import Derived.Lib.AppendStr
import Derived.ArgAppend
import Derived.Laws.IdiomCopy
import Derived.OrdersHeld
import Derived.Laws.BitsLemmas
import Derived.RowKit
import Derived.WalkSpells
import Derived.Laws.CopyOwn
import Derived.Test.YtgllcpimkjlklaaDoorWWords
import Derived.Test.YtgllcpimkjlklaaDoorWLast
import Derived.Test.YtgllcpimkjlklaaDoorR8
import Derived.Test.YtgllcpimkjlklaaDoorT1
import Derived.Test.YtgllcpimkjlklaaDoorV3
namespace Go.Proofs.YtgllcpimkjlklaaDoor.V4
open Go.RowKit Go.Proofs.YtgllcpimkjlklaaDoorW.PrintWords Go.Proofs.YtgllcpimkjlklaaDoorW.PrintLast Go.Proofs.YtgllcpimkjlklaaDoorW.PrintMore Go.Proofs.YtgllcpimkjlklaaDoor Go.Proofs.YtgllcpimkjlklaaDoor.L1 Go.Proofs.YtgllcpimkjlklaaDoor.L4 Go.Proofs.YtgllcpimkjlklaaDoor.G1 Go.Proofs.YtgllcpimkjlklaaDoor.G2 Go.Proofs.YtgllcpimkjlklaaDoor.S4 Go.Proofs.YtgllcpimkjlklaaDoor.S5 Go.Proofs.YtgllcpimkjlklaaDoor.S7 Go.Proofs.YtgllcpimkjlklaaDoor.S9 Go.Proofs.YtgllcpimkjlklaaDoor.S10 Go.Proofs.YtgllcpimkjlklaaDoor.R1 Go.Proofs.YtgllcpimkjlklaaDoor.R3 Go.Proofs.YtgllcpimkjlklaaDoor.R4 Go.Proofs.YtgllcpimkjlklaaDoor.R5 Go.Proofs.YtgllcpimkjlklaaDoor.R6 Go.Proofs.YtgllcpimkjlklaaDoor.R7 Go.Proofs.YtgllcpimkjlklaaDoor.R8 Go.Proofs.YtgllcpimkjlklaaDoor.T1 Go.Proofs.YtgllcpimkjlklaaDoor.V1 Go.Proofs.YtgllcpimkjlklaaDoor.V2 Go.Proofs.YtgllcpimkjlklaaDoor.V3
set_option linter.unusedVariables false
set_option linter.unusedSimpArgs false
theorem made_block {α : Type} {d : Kd α} {e base B : Nat} {w : World} {ok : Nat → Prop} {v : Value} {xs : List α} (h : d.R e w base ok v xs) (hb : ∃ b, v.ownBlock = some b ∧ B ≤ b) :
    ∃ q cap cur, v = .slice (some ⟨q, 0, none⟩) xs.length cap ∧ B ≤ q ∧ w.heap[q]? = some (.cells cur e (0, 0)) ∧ xs.length ≤ cap ∧ cur.size = cap * d.sz := by
  obtain ⟨_, inner, hown, _⟩ := h
  obtain ⟨b, hvb, hB⟩ := hb
  rcases hown.2 with ⟨rfl, _⟩ | ⟨q, cap, cur, rfl, _, hg, hn, _, hs, _⟩
  · cases hvb
  · refine ⟨q, cap, cur, rfl, ?_, hg, hn, hs⟩
    have : q = b := by injection hvb
    omega
theorem TB.congr {w : World} {qi N n base : Nat} {blk cap : Nat → Nat} {f f' : Nat → Nat → Bool} (h : TB w qi N n blk cap f base) (hf : ∀ a, a < n → ∀ b, b < N → f' a b = f a b) : TB w qi N n blk cap f' base :=
  ⟨h.hq, h.hb, fun a ha => by
    obtain ⟨k1, k2, cs, k3, k4, k5⟩ := h.hr a ha
    exact ⟨k1, k2, cs, k3, k4, fun b hb => by rw [hf a ha b hb]; exact k5 b hb⟩, h.inj⟩
def ru34.T34 : Bool × List (List Nat × List Nat) := (true, [([], []), ([], []), ([0, 1], [0, 1]), ([2], [2]), ([], []), ([3, 4], [3, 4]), ([5], [5]), ([], []), ([], []), ([7, 8], [7, 8]), ([9], [9]), ([], []), ([10, 11], [10, 11]), ([12], [12]), ([6, 13], [6, 13]), ([14], [14]), ([15], [15]), ([15], [15]), ([16, 17, 15], [15, 16, 17]), ([18, 15], [15, 18]), ([15], [15]), ([19, 20, 15], [15, 19, 20]), ([21, 15], [15, 21]), ([22, 15, 15], [15, 22]), ([23], [23]), ([23], [23]), ([23], [23]), ([23], [23]), ([23], [23]), ([24, 25, 26, 27, 28, 23, 23], [23, 24, 25, 26, 27, 28]), ([29, 23], [23, 29]), ([23, 30, 15], [15, 23, 30]), ([15, 31], [15, 31])])
def ru34.B34 : List Nat := [0, 0, 3, 7, 0, 31, 63, 0, 0, 384, 896, 0, 3968, 8064, 16383, 32767, 65535, 65535, 262143, 524287, 65535, 2097151, 4194303, 8388607, 16777215, 16777215, 16777215, 16777215, 16777215, 536870911, 1073741823, 2147483647, 4294967295]
theorem ru34.tab34 : rtab .any (opsOf Tryd.f7 34) = ru34.T34 := by kernel_rfl
theorem ru34.bits34 : waitsOk ru34.T34.2 ru34.B34 = true := by kernel_rfl
theorem fput_row (a b x y : Nat) : (if x = a then decide (y < b + 1) else true) = fput (fun x y => if x = a then decide (y < b) else true) a b true x y := by
  unfold fput
  by_cases e : x = a
  · by_cases e2 : y = b
    · simp [e, e2]
    · simp only [e, e2, and_false, if_true, if_false]
      exact decide_eq_decide.2 (by omega)
  · simp [e]
def cell2 (w : World) (qi a b : Nat) : Nat := match w.cell? ⟨qi, a, none⟩ with
  | some (.slice (some ad) _ _) => (match w.cell? (ad.add b) with | some (.bool true) => 1 | _ => 0)
  | _ => 0
def cntW (w : World) (qi N : Nat) : Nat := S0.sum2 N (cell2 w qi)
theorem TB.cnt {w : World} {qi N base : Nat} {blk cap : Nat → Nat} {f : Nat → Nat → Bool} (h : TB w qi N N blk cap f base) : cntW w qi N = cnt N f := by
  have he : ∀ a b, a < N → b < N → cell2 w qi a b = if f a b then 1 else 0 := fun a b ha hb => by
    unfold cell2
    rw [h.row ha]
    simp only [add_plain]
    rw [(h.cell ha hb).1]
    cases f a b <;> rfl
  exact Nat.le_antisymm (S0.sum2_le fun a b ha hb => Nat.le_of_eq (he a b ha hb)) (S0.sum2_le fun a b ha hb => Nat.le_of_eq (he a b ha hb).symm)
theorem blk_old {w : World} {qi N n base : Nat} {blk cap : Nat → Nat} {f : Nat → Nat → Bool} (h : TB w qi N n blk cap f base) {a : Nat} (ha : a < n) : blk a < w.heap.size := by
  obtain ⟨_, _, _, k3, _⟩ := h.hr a ha
  exact blk_lt k3
set_option maxHeartbeats 16000000 in
set_option maxRecDepth 100000 in
theorem rules_walk (A : Option Addr) (c : Nat) (l : List RW) (st : Bool) (w : World) (hK : Keys w) (hr : Kd.C kRW w A l.length l) (hc : l.length ≤ c) :
    Calls Tryd.prog 7 #[.slice A l.length c, .bool st] w fun e w' => e = .returned (.bool true) ∧ Below w.heap.size w w' := by
  have HKw := Aside0.mk hK
  have HR := Aside0.mk hr
  have HC := Aside0.mk hc
  clear hK hr hc
  go_enter Tryd.func7, Tryd.ntmps7
  go_wp2_with (fail)
  refine (made_yes A c l true w HR.out HC.out).mono ?_
  rintro e W2 ⟨v, g, rfl, ho, hb, hlen, hgp⟩
  have HB2 := Aside0.mk hb
  obtain ⟨A2, c2, rfl, hc2, hC2⟩ := Kd.R_reads ho
  have HC2 := Aside0.mk hC2
  have hn : g.length ≤ 14 := by omega
  have HP := Aside0.mk hgp
  have HC0 := Aside0.mk (graph_check (plain_le _) (by omega) hgp)
  clear ho hb hC2 hgp hlen HR HC
  go_wp2_with (fail)
  refine (all_yes A2 c2 g st W2 (HKw.out.below HB2.out) HC2.out hc2).mono ?_
  rintro e W3 ⟨⟨_, A3, c3, rfl, ht, hc3⟩ | ⟨hne, _⟩, hb⟩
  · have HTb := Aside0.mk ht
    have HB3 := Aside0.mk (HB2.out.trans (hb.mono HB2.out.size))
    have HC3 := Aside0.mk (Kd.C_below HC2.out hb)
    have HAm := Aside0.mk (show ((g.length : Int)).toNat * 24 ≤ 281474976710656 from Nat.le_trans (Nat.mul_le_mul_right 24 (show ((g.length : Int)).toNat ≤ 14 by omega)) (by decide))
    have HAr := Aside0.mk (show ((g.length : Int)).toNat * 1 ≤ 281474976710656 from Nat.le_trans (Nat.mul_le_mul_right 1 (show ((g.length : Int)).toNat ≤ 14 by omega)) (by decide))
    clear ht hb HC2
    go_wp2_with (first | (at_make; refine Kd.R_make (Kd.slice 4 Kd.bool) (w0 := W3) W3.heap.size 45 rfl rfl 41 (.tmp 34) (.tmp 34) rfl (g.length : Int) rfl rfl Tryd.underlying41 (.slice none 0 0) 24 info45 rfl (by decide) (by decide) [] (ok := fun _ => True) (okp := fun _ => False) ⟨_, rfl, Kd.R_nil _ _ _ _ _⟩ (fun _ h => h.elim) trivial (by omega) HAm.out (Below.refl _ _) (Nat.le_refl _) ?_; intro v8 W4 ho4 hb4 hg4 hat4))
    obtain ⟨qi, cq, ci, rfl, hqi, hci, hcc, hcs⟩ := made_block ho4 hat4
    have HT0 := Aside0.mk (show TB W4 qi g.length 0 (fun _ => 0) (fun _ => 0) (fun _ _ => true) W3.heap.size from ⟨⟨ci, hci, by
      have h1 : (List.replicate ((g.length : Int)).toNat ([] : List Bool)).length = g.length := by simp
      rw [h1] at hcc
      rw [hcs]
      show g.length ≤ cq * 1
      omega, fun a ha => by omega⟩, hqi, fun a ha => by omega, fun a b ha => by omega⟩)
    have HB4 := Aside0.mk hb4
    rw [show (List.replicate ((g.length : Int)).toNat ([] : List Bool)).length = g.length by simp] at hcc ⊢
    clear ho4 hb4 hg4 hat4 hci hcs hqi
    go_wp2_with (fail)
    go_loopw [9] (fun v9 wr => ∃ (a : Nat) (blk cap : Nat → Nat), a ≤ g.length ∧ v9 = .int .i64 a ∧ Aside0 (TB wr qi g.length a blk cap (fun _ _ => true) W3.heap.size) ∧ Aside0 (Below W3.heap.size W3 wr)) (fun v9 _ => g.length + 1 - (intOf v9).toNat)
    case atStart => exact ⟨0, _, _, by omega, rfl, HT0, HB4⟩
    case round =>
      rename World => X
      obtain ⟨a, blk, cap, ha, rfl, HTa, HBa⟩ := hrel
      by_cases hlt : a < g.length
      · obtain ⟨ad3, e3, htab⟩ := tab_at (Kd.C_below HTb.out HBa.out) (by omega)
        cases e3
        obtain ⟨ad4, d4, hx, hrow⟩ := htab a hlt
        have hwa : wrap64 ((a : Int) + 1) = ((a + 1 : Nat) : Int) := by unfold wrap64; omega
        clear htab hrow
        have HXs := Aside0.mk (Nat.le_refl X.heap.size)
        go_wp2_with (first | (at_make; refine Kd.R_make Kd.bool (w0 := X) X.heap.size 4 rfl rfl 45 (.tmp 53) (.tmp 53) rfl (g.length : Int) rfl rfl Tryd.underlying45 (.bool false) 1 info4 rfl (by decide) (by decide) false (ok := fun _ => True) (okp := fun _ => False) rfl (fun _ h => h.elim) trivial (by omega) HAr.out (Below.refl _ _) (Nat.le_refl _) ?_; intro v5 W5 ho5 hb5 hg5 hat5; obtain ⟨g9, c9, cs9, rfl, hg9, hcs9, hn9, hsz9⟩ := made_block ho5 hat5; (have hl9 : (List.replicate ((g.length : Int)).toNat false).length = g.length := by simp); rw [hl9] at ho5 hn9 ⊢; have HT5 := Aside0.mk (TB.below HTa.out hb5); obtain ⟨vs, hs0, hs1⟩ := HT5.out.slot hlt))
        have HTn := Aside0.mk (TB.add (f' := fun x y => if x = a then decide (y < 0) else true) HT5.out hlt hcs9 (Nat.le_trans HBa.out.size hg9) hn9 (by rw [hsz9]; show g.length ≤ c9 * 1; omega) (fun x hx e => by
          have := blk_old HTa.out hx
          omega) (fun x hx y hy => by rw [if_neg (by omega)]) (fun y hy => by
          obtain ⟨hcy, _⟩ := Kd.R_celln false ho5 (y : Int) (by omega) (by omega)
          rw [Int.toNat_natCast, blk_cell hcs9] at hcy
          rw [hcy]
          congr 2
          show (List.replicate ((g.length : Int)).toNat false).getD y false = (if a = a then decide (y < 0) else true)
          rw [if_pos rfl, List.getD_eq_getElem?_getD, List.getElem?_replicate]
          split <;> simp))
        have HBn := Aside0.mk ((HBa.out.trans (hb5.mono HBa.out.size)).setCell (p := ⟨qi, a, none⟩) HTa.out.hb (.slice (some ⟨g9, 0, none⟩) g.length c9))
        clear ho5 hb5 hg5 hat5 hcs9 hn9 hsz9 hg9 hl9 hs0 hs1 HT5 HXs
        go_wp2_with (fail)
        go_loopw [10] (fun v10 wr => ∃ (b : Nat) (blk cap : Nat → Nat), b ≤ g.length ∧ v10 = .int .i64 b ∧ Aside0 (TB wr qi g.length (a + 1) blk cap (fun x y => if x = a then decide (y < b) else true) W3.heap.size) ∧ Aside0 (Below W3.heap.size W3 wr)) (fun v10 _ => g.length + 1 - (intOf v10).toNat)
        case atStart => exact ⟨0, _, _, by omega, rfl, HTn, HBn⟩
        case round =>
          clear HTn HBn HTa HBa
          rename World => Y
          obtain ⟨b, blk, cap, hb, rfl, HTa, HBa⟩ := hrel
          by_cases hltb : b < g.length
          · have hrw := HTa.out.row (Nat.lt_succ_self a)
            obtain ⟨hc0, hf0⟩ := HTa.out.cell (Nat.lt_succ_self a) hltb
            have HTp := Aside0.mk (TB.congr (f' := fun x y => if x = a then decide (y < b + 1) else true) (HTa.out.put (Nat.lt_succ_self a) hltb true) (fun x hx y hy => fput_row a b x y))
            have HBp := Aside0.mk (HBa.out.setCell (p := ⟨blk a, b, none⟩) (HTa.out.hr a (Nat.lt_succ_self a)).1 (.bool true))
            have hwb : wrap64 ((b : Int) + 1) = ((b + 1 : Nat) : Int) := by unfold wrap64; omega
            go_wp2_with (fail)
            go_roundw
            case rel => exact ⟨b + 1, blk, cap, by omega, by first | (rw [hwb]; done) | (rw [Int.natCast_add]; rfl), HTp, HBp⟩
            case measure => first | (rw [hwb]; simp only [intOf]; omega) | (simp only [intOf]; omega)
          · obtain rfl : b = g.length := by omega
            have HTe := Aside0.mk (TB.congr (f' := fun _ _ => true) HTa.out (fun x hx y hy => by
              by_cases e : x = a
              · rw [if_pos e]; simp; exact hy
              · rw [if_neg e]))
            go_wp2_with (fail)
            go_roundw
            case rel => exact ⟨a + 1, blk, cap, by omega, by first | (rw [hwa]; done) | (rw [Int.natCast_add]; rfl), HTe, HBa⟩
            case measure => first | (rw [hwa]; simp only [intOf]; omega) | (simp only [intOf]; omega)
      · obtain rfl : a = g.length := by omega
        have HAb0 := Aside0.mk (show Above st g (fun _ _ => true) from fun _ _ _ _ _ => rfl)
        clear hlt ha HB4 HAm HAr HT0
        go_wp2_with (fail)
        go_loopw [11] (fun v11 wr => ∃ (more : Bool) (f : Nat → Nat → Bool) (blk cap : Nat → Nat), v11 = .bool more ∧ Aside0 (TB wr qi g.length g.length blk cap f W3.heap.size) ∧ Aside0 (Below W3.heap.size W3 wr) ∧ Aside0 (Above st g f) ∧ Aside0 (more = false → ∀ a b, a < g.length → b < g.length → f a b = true → standsB st g (tb (tabF f g.length)) a b = true)) (fun v11 wr => 2 * cntW wr qi g.length + (match v11 with | .bool true => 1 | _ => 0))
        case atStart => exact ⟨true, _, blk, cap, rfl, HTa, HBa, HAb0, ⟨fun e => by cases e⟩⟩
        case round =>
          clear HTa HBa
          rename World => Y
          obtain ⟨more, f, blk, cap, rfl, HTf, HBf, HAb, HMo⟩ := hrel
          cases more with
          | true =>
            have HcY := Aside0.mk (TB.cnt HTf.out)
            go_wp2_with (fail)
            go_loopw [11, 12] (fun v11 v12 wr => ∃ (more : Bool) (x : Nat) (f1 : Nat → Nat → Bool) (blk cap : Nat → Nat), v11 = .bool more ∧ x ≤ g.length ∧ v12 = .int .i64 x ∧ Aside0 (TB wr qi g.length g.length blk cap f1 W3.heap.size) ∧ Aside0 (Below W3.heap.size W3 wr) ∧ Aside0 (Above st g f1) ∧ Aside0 (more = false → f1 = f ∧ ∀ a b, a < x → b < g.length → f1 a b = true → standsB st g (tb (tabF f1 g.length)) a b = true) ∧ Aside0 (cnt g.length f1 ≤ cnt g.length f ∧ (more = true → cnt g.length f1 < cnt g.length f))) (fun v11 v12 _ => g.length + 1 - (intOf v12).toNat)
            case atStart => exact ⟨false, 0, f, blk, cap, rfl, by omega, rfl, HTf, HBf, HAb, ⟨fun _ => ⟨rfl, fun a b ha => by omega⟩⟩, ⟨Nat.le_refl _, fun e => by cases e⟩⟩
            case round =>
              clear HTf HBf HAb HMo
              rename World => Z
              obtain ⟨more, x, f1, blk, cap, rfl, hx, rfl, HTf, HBf, HAb, HMo, HCt⟩ := hrel
              by_cases hltx : x < g.length
              · have hwx : wrap64 ((x : Int) + 1) = ((x + 1 : Nat) : Int) := by unfold wrap64; omega
                go_wp2_with (fail)
                go_loopw [11, 13] (fun v11 v13 wr => ∃ (more : Bool) (y : Nat) (f1 : Nat → Nat → Bool) (blk cap : Nat → Nat), v11 = .bool more ∧ y ≤ g.length ∧ v13 = .int .i64 y ∧ Aside0 (TB wr qi g.length g.length blk cap f1 W3.heap.size) ∧ Aside0 (Below W3.heap.size W3 wr) ∧ Aside0 (Above st g f1) ∧ Aside0 (more = false → f1 = f ∧ ∀ a b, (a < x ∨ (a = x ∧ b < y)) → b < g.length → f1 a b = true → standsB st g (tb (tabF f1 g.length)) a b = true) ∧ Aside0 (cnt g.length f1 ≤ cnt g.length f ∧ (more = true → cnt g.length f1 < cnt g.length f))) (fun v11 v13 _ => g.length + 1 - (intOf v13).toNat)
                case atStart => exact ⟨more, 0, f1, blk, cap, rfl, by omega, rfl, HTf, HBf, HAb, ⟨fun e => ⟨(HMo.out e).1, fun a b ha => (HMo.out e).2 a b (by omega)⟩⟩, HCt⟩
                case round =>
                  clear HTf HBf HAb HMo HCt
                  rename World => V
                  obtain ⟨more, y, f1, blk, cap, rfl, hy, rfl, HTf, HBf, HAb, HMo, HCt⟩ := hrel
                  by_cases hlty : y < g.length
                  · have hwy : wrap64 ((y : Int) + 1) = ((y + 1 : Nat) : Int) := by unfold wrap64; omega
                    have hrw := HTf.out.row hltx
                    obtain ⟨hcl, hfr⟩ := HTf.out.cell hltx hlty
                    cases hv : f1 x y with
                    | false =>
                      rw [hv] at hcl
                      have HMo2 := Aside0.mk (show more = false → f1 = f ∧ ∀ a b, (a < x ∨ (a = x ∧ b < y + 1)) → b < g.length → f1 a b = true → standsB st g (tb (tabF f1 g.length)) a b = true from fun e => ⟨(HMo.out e).1, fun a b ha hb hf => by
                        by_cases e2 : a = x ∧ b = y
                        · rw [e2.1, e2.2, hv] at hf; cases hf
                        · exact (HMo.out e).2 a b (by omega) hb hf⟩)
                      clear hv
                      go_wp2_with (fail)
                      go_roundw
                      case rel => exact ⟨more, y + 1, f1, blk, cap, rfl, by omega, by first | (rw [hwy]; done) | (rw [Int.natCast_add]; rfl), HTf, HBf, HAb, HMo2, HCt⟩
                      case measure => first | (rw [hwy]; simp only [intOf]; omega) | (simp only [intOf]; omega)
                    | true =>
                      rw [hv] at hcl
                      obtain ⟨kh, hkh⟩ := holds_ok (st := st) (sq_tabF f1 g.length) hn HP.out hltx hlty
                      have hcall := P.armillarylaw08_holds.calls kh A2 c2 g (some ⟨qi, 0, none⟩) cq (tabF f1 g.length) x y st _ V (Kd.C_below HC3.out HBf.out) hc2 (by rw [tabF_len]; exact HTf.out.C (by omega)) (by rw [tabF_len]; exact hcc) hkh
                      rw [tabF_len] at hcall
                      have HCl := Aside0.mk hcall
                      have Hv := Aside0.mk hv
                      clear hcall hkh hv
                      go_wp2_with (fail)
                      refine HCl.out.mono ?_
                      rintro e U ⟨rfl, hbu⟩
                      have HTu := Aside0.mk (TB.below HTf.out hbu)
                      have HBu := Aside0.mk (HBf.out.trans (hbu.mono HBf.out.size))
                      replace hrw := HTu.out.row hltx
                      obtain ⟨hcu, hfu⟩ := HTu.out.cell hltx hlty
                      clear hcl hfr hbu HCl
                      cases hs : standsB st g (tb (tabF f1 g.length)) x y with
                      | true =>
                        have HMo2 := Aside0.mk (show more = false → f1 = f ∧ ∀ a b, (a < x ∨ (a = x ∧ b < y + 1)) → b < g.length → f1 a b = true → standsB st g (tb (tabF f1 g.length)) a b = true from fun e => ⟨(HMo.out e).1, fun a b ha hb hf => by
                          by_cases e2 : a = x ∧ b = y
                          · rw [e2.1, e2.2]; exact hs
                          · exact (HMo.out e).2 a b (by omega) hb hf⟩)
                        clear hs
                        go_wp2_with (fail)
                        go_roundw
                        case rel => exact ⟨more, y + 1, f1, blk, cap, rfl, by omega, by first | (rw [hwy]; done) | (rw [Int.natCast_add]; rfl), HTu, HBu, HAb, HMo2, HCt⟩
                        case measure => first | (rw [hwy]; simp only [intOf]; omega) | (simp only [intOf]; omega)
                      | false =>
                        have HTp := Aside0.mk (HTu.out.put hltx hlty false)
                        have HBp := Aside0.mk (HBu.out.setCell (p := ⟨blk x, y, none⟩) (HTu.out.hr x hltx).1 (.bool false))
                        have HAp := Aside0.mk (HAb.out.away HC0.out hltx hlty hs)
                        have HCp := Aside0.mk (show cnt g.length (fput f1 x y false) ≤ cnt g.length f ∧ (true = true → cnt g.length (fput f1 x y false) < cnt g.length f) from by
                          have h1 := cnt_away hltx hlty Hv.out
                          have h2 := HCt.out.1
                          exact ⟨by omega, fun _ => by omega⟩)
                        clear hs
                        go_wp2_with (fail)
                        go_roundw
                        case rel => exact ⟨true, y + 1, fput f1 x y false, blk, cap, rfl, by omega, by first | (rw [hwy]; done) | (rw [Int.natCast_add]; rfl), HTp, HBp, HAp, ⟨fun e => by cases e⟩, ⟨HCp.out.1, fun _ => HCp.out.2 trivial⟩⟩
                        case measure => first | (rw [hwy]; simp only [intOf]; omega) | (simp only [intOf]; omega)
                  · have HMo2 := Aside0.mk (show more = false → f1 = f ∧ ∀ a b, a < x + 1 → b < g.length → f1 a b = true → standsB st g (tb (tabF f1 g.length)) a b = true from fun e => ⟨(HMo.out e).1, fun a b ha hb hf => (HMo.out e).2 a b (by omega) hb hf⟩)
                    go_wp2_with (fail)
                    go_roundw
                    case rel => exact ⟨more, x + 1, f1, blk, cap, rfl, by omega, by first | (rw [hwx]; done) | (rw [Int.natCast_add]; rfl), HTf, HBf, HAb, HMo2, HCt⟩
                    case measure => first | (rw [hwx]; simp only [intOf]; omega) | (simp only [intOf]; omega)
              · obtain rfl : x = g.length := by omega
                have HMo2 := Aside0.mk (show more = false → ∀ a b, a < g.length → b < g.length → f1 a b = true → standsB st g (tb (tabF f1 g.length)) a b = true from fun e => (HMo.out e).2)
                have Hc1 := Aside0.mk (TB.cnt HTf.out)
                go_wp2_with (fail)
                go_roundw
                case rel => exact ⟨more, f1, blk, cap, rfl, HTf, HBf, HAb, HMo2⟩
                case measure =>
                  rw [HcY.out, Hc1.out]
                  have h1 := HCt.out.1
                  have h2 := HCt.out.2
                  cases more with
                  | true => have := h2 rfl; simp only []; omega
                  | false => simp only []; omega
          | false =>
            have HEq := Aside0.mk (fun a b ha hb => left_is HAb.out (HMo.out rfl) (a := a) (b := b) ha hb)
            clear HMo HAb
            go_wp2_with (fail)
            go_loopw [14] (fun v14 wr => ∃ i : Nat, i ≤ g.length ∧ v14 = .int .i64 i ∧ Aside0 (TB wr qi g.length g.length blk cap f W3.heap.size) ∧ Aside0 (Below W3.heap.size W3 wr)) (fun v14 _ => g.length + 1 - (intOf v14).toNat)
            case atStart => exact ⟨0, by omega, rfl, HTf, HBf⟩
            case round =>
              clear HTf HBf
              rename World => Z
              obtain ⟨i, hi, rfl, HTf, HBf⟩ := hrel
              have hwi : wrap64 ((i : Int) + 1) = ((i + 1 : Nat) : Int) := by unfold wrap64; omega
              by_cases hlti : i < g.length
              · go_wp2_with (fail)
                go_loopw [15] (fun v15 wr => ∃ j : Nat, j ≤ g.length ∧ v15 = .int .i64 j ∧ Aside0 (TB wr qi g.length g.length blk cap f W3.heap.size) ∧ Aside0 (Below W3.heap.size W3 wr)) (fun v15 _ => g.length + 1 - (intOf v15).toNat)
                case atStart => exact ⟨0, by omega, rfl, HTf, HBf⟩
                case round =>
                  clear HTf HBf
                  rename World => V
                  obtain ⟨j, hj, rfl, HTf, HBf⟩ := hrel
                  have hwj : wrap64 ((j : Int) + 1) = ((j + 1 : Nat) : Int) := by unfold wrap64; omega
                  by_cases hltj : j < g.length
                  · have HBd := Aside0.mk (below_drew HBf.out)
                    have HTd := Aside0.mk (TB.below HTf.out (below_drew (Below.refl V.heap.size V)))
                    obtain ⟨ad3, e3, htab⟩ := tab_at HTb.out (by omega)
                    cases e3
                    obtain ⟨ad4, d4, hx, hrow⟩ := htab i hlti
                    have s0 := pw_cell_below HBd.out hx
                    have s1 := pw_cell_below HBd.out (hrow j hltj)
                    have s2 := HTd.out.row hlti
                    have s3 := (HTd.out.cell hlti hltj).1
                    rw [HEq.out i j hlti hltj] at s3
                    have hiT : (i < g.length) = True := eq_true hlti
                    have hjT : (j < g.length) = True := eq_true hltj
                    clear hx hrow htab
                    cases hs : subB st g i j with
                    | true =>
                    rw [hs] at s1 s3
                    have hth := table_holds HC0.out hlti hltj hs
                    obtain ⟨kh, hkh⟩ := holds_ok (st := st) (tab := tabN st g g.length) (by rw [tabN_is]; exact sq_tabF _ _) hn HP.out hlti hltj
                    rw [hth] at hkh
                    have hcall := P.armillarylaw08_holds.calls kh A2 c2 g (some ad3) c3 (tabN st g g.length) i j st _ V.drew (Kd.C_below HC3.out HBd.out) hc2 (by rw [tabN_len]; exact Kd.C_below HTb.out HBd.out) (by rw [tabN_len]; exact hc3) hkh
                    rw [tabN_len] at hcall
                    have HCl := Aside0.mk hcall
                    clear hcall hkh hth hs
                    go_wp2_with (fail)
                    refine start_ (n := 33) (S := fun w' => w'.cell? (ad3.add i) = some (.slice (some ad4) g.length d4) ∧ w'.cell? (ad4.add j) = some (.bool true) ∧ w'.cell? ⟨qi, i, none⟩ = some (.slice (some ⟨blk i, 0, none⟩) g.length (cap i)) ∧ w'.cell? ⟨blk i, j, none⟩ = some (.bool true)) (ds := []) #[false, false, false, false, false, false, false, false, false, false, false, false, false, false, false, false, false, false, false, false, false, false, false, false, false, false, false, false, false, false, false, false, false] (by kernel_rfl) rfl rfl ⟨s0, s1, s2, s3⟩ (fun hHeld => ?_)
                    refine with_tabW ru34.tab34 ru34.bits34 (fun HT_ HW_ => ?_)
                    refine pure_ (i := 0) (N := some 115) (v := ?_) (a' := ?_) #[true, false, false, false, false, false, false, false, false, false, false, false, false, false, false, false, false, false, false, false, false, false, false, false, false, false, false, false, false, false, false, false, false] rfl rfl (any_of HT_.out (by kernel_rfl)) (fun _ _ _ h => h) (Or.inl ⟨by rfl, ?_⟩) ?_ ?_
                    rotate_left
                    · intro w'
                      go_simp
                      with_reducible rfl
                    rotate_left
                    · simp only [Act.put, List.setIfInBounds_toArray, List.set_cons_zero, List.set_cons_succ, i64_w, i32_w]
                      rfl
                    refine pure_ (i := 1) (N := some 116) (v := ?_) (a' := ?_) #[true, true, false, false, false, false, false, false, false, false, false, false, false, false, false, false, false, false, false, false, false, false, false, false, false, false, false, false, false, false, false, false, false] rfl rfl (any_of HT_.out (by kernel_rfl)) (fun _ _ _ h => h) (Or.inl ⟨by rfl, ?_⟩) ?_ ?_
                    rotate_left
                    · intro w'
                      go_simp
                      with_reducible rfl
                    rotate_left
                    · simp only [Act.put, List.setIfInBounds_toArray, List.set_cons_zero, List.set_cons_succ, i64_w, i32_w]
                      rfl
                    refine pure_ (i := 2) (N := some 117) (v := ?_) (a' := ?_) #[true, true, true, false, false, false, false, false, false, false, false, false, false, false, false, false, false, false, false, false, false, false, false, false, false, false, false, false, false, false, false, false, false] rfl rfl (any_of HT_.out (by kernel_rfl)) (fun _ _ _ h => h) (Or.inl ⟨by rfl, ?_⟩) ?_ ?_
                    rotate_left
                    · intro w'
                      go_simp
                      with_reducible rfl
                    rotate_left
                    · simp only [Act.put, List.setIfInBounds_toArray, List.set_cons_zero, List.set_cons_succ, i64_w, i32_w]
                      rfl
                    refine pure_ (i := 4) (N := some 119) (v := ?_) (a' := ?_) #[true, true, true, false, true, false, false, false, false, false, false, false, false, false, false, false, false, false, false, false, false, false, false, false, false, false, false, false, false, false, false, false, false] rfl rfl (any_of HT_.out (by kernel_rfl)) (fun _ _ _ h => h) (Or.inl ⟨by rfl, ?_⟩) ?_ ?_
                    rotate_left
                    · intro w'
                      go_simp
                      with_reducible rfl
                    rotate_left
                    · simp only [Act.put, List.setIfInBounds_toArray, List.set_cons_zero, List.set_cons_succ, i64_w, i32_w]
                      rfl
                    refine pure_ (i := 7) (N := some 122) (v := ?_) (a' := ?_) #[true, true, true, false, true, false, false, true, false, false, false, false, false, false, false, false, false, false, false, false, false, false, false, false, false, false, false, false, false, false, false, false, false] rfl rfl (any_of HT_.out (by kernel_rfl)) (fun _ _ _ h => h) (Or.inl ⟨by rfl, ?_⟩) ?_ ?_
                    rotate_left
                    · intro w'
                      go_simp
                      with_reducible rfl
                    rotate_left
                    · simp only [Act.put, List.setIfInBounds_toArray, List.set_cons_zero, List.set_cons_succ, i64_w, i32_w]
                      rfl
                    refine pure_ (i := 8) (N := some 123) (v := ?_) (a' := ?_) #[true, true, true, false, true, false, false, true, true, false, false, false, false, false, false, false, false, false, false, false, false, false, false, false, false, false, false, false, false, false, false, false, false] rfl rfl (any_of HT_.out (by kernel_rfl)) (fun _ _ _ h => h) (Or.inl ⟨by rfl, ?_⟩) ?_ ?_
                    rotate_left
                    · intro w'
                      go_simp
                      with_reducible rfl
                    rotate_left
                    · simp only [Act.put, List.setIfInBounds_toArray, List.set_cons_zero, List.set_cons_succ, i64_w, i32_w]
                      rfl
                    refine pure_ (i := 9) (N := some 124) (v := ?_) (a' := ?_) #[true, true, true, false, true, false, false, true, true, true, false, false, false, false, false, false, false, false, false, false, false, false, false, false, false, false, false, false, false, false, false, false, false] rfl rfl (any_of HT_.out (by kernel_rfl)) (fun _ _ _ h => h) (Or.inl ⟨by rfl, ?_⟩) ?_ ?_
                    rotate_left
                    · intro w'
                      go_simp
                      with_reducible rfl
                    rotate_left
                    · simp only [Act.put, List.setIfInBounds_toArray, List.set_cons_zero, List.set_cons_succ, i64_w, i32_w]
                      rfl
                    refine pure_ (i := 11) (N := some 126) (v := ?_) (a' := ?_) #[true, true, true, false, true, false, false, true, true, true, false, true, false, false, false, false, false, false, false, false, false, false, false, false, false, false, false, false, false, false, false, false, false] rfl rfl (any_of HT_.out (by kernel_rfl)) (fun _ _ _ h => h) (Or.inl ⟨by rfl, ?_⟩) ?_ ?_
                    rotate_left
                    · intro w'
                      go_simp
                      with_reducible rfl
                    rotate_left
                    · simp only [Act.put, List.setIfInBounds_toArray, List.set_cons_zero, List.set_cons_succ, i64_w, i32_w]
                      rfl
                    refine take_ (i := 3) (N := some 118) (v := ?_) (a' := ?_) #[true, true, true, true, true, false, false, true, true, true, false, true, false, false, false, false, false, false, false, false, false, false, false, false, false, false, false, false, false, false, false, false, false] rfl rfl (take_ofW HT_.out HW_.out (by kernel_rfl)) (fun _ _ _ h => h) (Or.inl ⟨by rfl, ?_⟩) hHeld ?_ ?_
                    rotate_left
                    · rintro w' ⟨s0, s1, s2, s3⟩
                      go_simp
                      with_reducible rfl
                    rotate_left
                    · simp only [Act.put, List.setIfInBounds_toArray, List.set_cons_zero, List.set_cons_succ, i64_w, i32_w]
                      rfl
                    refine pure_ (i := 5) (N := some 120) (v := ?_) (a' := ?_) #[true, true, true, true, true, true, false, true, true, true, false, true, false, false, false, false, false, false, false, false, false, false, false, false, false, false, false, false, false, false, false, false, false] rfl rfl (any_of HT_.out (by kernel_rfl)) (fun _ _ _ h => h) (Or.inl ⟨by rfl, ?_⟩) ?_ ?_
                    rotate_left
                    · intro w'
                      go_simp
                      with_reducible rfl
                    rotate_left
                    · simp only [Act.put, List.setIfInBounds_toArray, List.set_cons_zero, List.set_cons_succ, i64_w, i32_w]
                      rfl
                    refine take_ (i := 6) (N := some 121) (v := ?_) (a' := ?_) #[true, true, true, true, true, true, true, true, true, true, false, true, false, false, false, false, false, false, false, false, false, false, false, false, false, false, false, false, false, false, false, false, false] rfl rfl (take_ofW HT_.out HW_.out (by kernel_rfl)) (fun _ _ _ h => h) (Or.inl ⟨by rfl, ?_⟩) hHeld ?_ ?_
                    rotate_left
                    · rintro w' ⟨s0, s1, s2, s3⟩
                      go_simp
                      with_reducible rfl
                    rotate_left
                    · simp only [Act.put, List.setIfInBounds_toArray, List.set_cons_zero, List.set_cons_succ, i64_w, i32_w]
                      rfl
                    refine take_ (i := 10) (N := some 125) (v := ?_) (a' := ?_) #[true, true, true, true, true, true, true, true, true, true, true, true, false, false, false, false, false, false, false, false, false, false, false, false, false, false, false, false, false, false, false, false, false] rfl rfl (take_ofW HT_.out HW_.out (by kernel_rfl)) (fun _ _ _ h => h) (Or.inl ⟨by rfl, ?_⟩) hHeld ?_ ?_
                    rotate_left
                    · rintro w' ⟨s0, s1, s2, s3⟩
                      go_simp
                      with_reducible rfl
                    rotate_left
                    · simp only [Act.put, List.setIfInBounds_toArray, List.set_cons_zero, List.set_cons_succ, i64_w, i32_w]
                      rfl
                    refine pure_ (i := 12) (N := some 127) (v := ?_) (a' := ?_) #[true, true, true, true, true, true, true, true, true, true, true, true, true, false, false, false, false, false, false, false, false, false, false, false, false, false, false, false, false, false, false, false, false] rfl rfl (any_of HT_.out (by kernel_rfl)) (fun _ _ _ h => h) (Or.inl ⟨by rfl, ?_⟩) ?_ ?_
                    rotate_left
                    · intro w'
                      go_simp
                      with_reducible rfl
                    rotate_left
                    · simp only [Act.put, List.setIfInBounds_toArray, List.set_cons_zero, List.set_cons_succ, i64_w, i32_w]
                      rfl
                    refine take_ (i := 13) (N := some 128) (v := ?_) (a' := ?_) #[true, true, true, true, true, true, true, true, true, true, true, true, true, true, false, false, false, false, false, false, false, false, false, false, false, false, false, false, false, false, false, false, false] rfl rfl (take_ofW HT_.out HW_.out (by kernel_rfl)) (fun _ _ _ h => h) (Or.inl ⟨by rfl, ?_⟩) hHeld ?_ ?_
                    rotate_left
                    · rintro w' ⟨s0, s1, s2, s3⟩
                      go_simp
                      with_reducible rfl
                    rotate_left
                    · simp only [Act.put, List.setIfInBounds_toArray, List.set_cons_zero, List.set_cons_succ, i64_w, i32_w]
                      rfl
                    refine pure_ (i := 14) (N := some 129) (v := ?_) (a' := ?_) #[true, true, true, true, true, true, true, true, true, true, true, true, true, true, true, false, false, false, false, false, false, false, false, false, false, false, false, false, false, false, false, false, false] rfl rfl (any_of HT_.out (by kernel_rfl)) (fun _ _ _ h => h) (Or.inl ⟨by rfl, ?_⟩) ?_ ?_
                    rotate_left
                    · intro w'
                      go_simp
                      with_reducible rfl
                    rotate_left
                    · simp only [Act.put, List.setIfInBounds_toArray, List.set_cons_zero, List.set_cons_succ, i64_w, i32_w]
                      rfl
                    refine pure_ (i := 15) (N := some 130) (v := ?_) (a' := ?_) #[true, true, true, true, true, true, true, true, true, true, true, true, true, true, true, true, false, false, false, false, false, false, false, false, false, false, false, false, false, false, false, false, false] rfl rfl (any_of HT_.out (by kernel_rfl)) (fun _ _ _ h => h) (Or.inl ⟨by rfl, ?_⟩) ?_ ?_
                    rotate_left
                    · intro w'
                      go_simp
                      with_reducible rfl
                    rotate_left
                    · simp only [Act.put, List.setIfInBounds_toArray, List.set_cons_zero, List.set_cons_succ, i64_w, i32_w]
                      rfl
                    refine pure_ (i := 16) (N := some 131) (v := ?_) (a' := ?_) #[true, true, true, true, true, true, true, true, true, true, true, true, true, true, true, true, true, false, false, false, false, false, false, false, false, false, false, false, false, false, false, false, false] rfl rfl (any_of HT_.out (by kernel_rfl)) (fun _ _ _ h => h) (Or.inl ⟨by rfl, ?_⟩) ?_ ?_
                    rotate_left
                    · intro w'
                      go_simp
                      with_reducible rfl
                    rotate_left
                    · simp only [Act.put, List.setIfInBounds_toArray, List.set_cons_zero, List.set_cons_succ, i64_w, i32_w]
                      rfl
                    refine pure_ (i := 17) (N := some 132) (v := ?_) (a' := ?_) #[true, true, true, true, true, true, true, true, true, true, true, true, true, true, true, true, true, true, false, false, false, false, false, false, false, false, false, false, false, false, false, false, false] rfl rfl (any_of HT_.out (by kernel_rfl)) (fun _ _ _ h => h) (Or.inl ⟨by rfl, ?_⟩) ?_ ?_
                    rotate_left
                    · intro w'
                      go_simp
                      with_reducible rfl
                    rotate_left
                    · simp only [Act.put, List.setIfInBounds_toArray, List.set_cons_zero, List.set_cons_succ, i64_w, i32_w]
                      rfl
                    refine pure_ (i := 18) (N := some 133) (v := ?_) (a' := ?_) #[true, true, true, true, true, true, true, true, true, true, true, true, true, true, true, true, true, true, true, false, false, false, false, false, false, false, false, false, false, false, false, false, false] rfl rfl (any_of HT_.out (by kernel_rfl)) (fun _ _ _ h => h) (Or.inl ⟨by rfl, ?_⟩) ?_ ?_
                    rotate_left
                    · intro w'
                      go_simp
                      with_reducible rfl
                    rotate_left
                    · simp only [Act.put, List.setIfInBounds_toArray, List.set_cons_zero, List.set_cons_succ, i64_w, i32_w]
                      rfl
                    refine pure_ (i := 20) (N := some 135) (v := ?_) (a' := ?_) #[true, true, true, true, true, true, true, true, true, true, true, true, true, true, true, true, true, true, true, false, true, false, false, false, false, false, false, false, false, false, false, false, false] rfl rfl (any_of HT_.out (by kernel_rfl)) (fun _ _ _ h => h) (Or.inl ⟨by rfl, ?_⟩) ?_ ?_
                    rotate_left
                    · intro w'
                      go_simp
                      with_reducible rfl
                    rotate_left
                    · simp only [Act.put, List.setIfInBounds_toArray, List.set_cons_zero, List.set_cons_succ, i64_w, i32_w]
                      rfl
                    refine take_ (i := 19) (N := some 134) (v := ?_) (a' := ?_) #[true, true, true, true, true, true, true, true, true, true, true, true, true, true, true, true, true, true, true, true, true, false, false, false, false, false, false, false, false, false, false, false, false] rfl rfl (take_ofW HT_.out HW_.out (by kernel_rfl)) (fun _ _ _ h => h) (Or.inl ⟨by rfl, ?_⟩) hHeld ?_ ?_
                    rotate_left
                    · rintro w' ⟨s0, s1, s2, s3⟩
                      go_simp
                      with_reducible rfl
                    rotate_left
                    · simp only [Act.put, List.setIfInBounds_toArray, List.set_cons_zero, List.set_cons_succ, i64_w, i32_w]
                      rfl
                    refine pure_ (i := 21) (N := some 136) (v := ?_) (a' := ?_) #[true, true, true, true, true, true, true, true, true, true, true, true, true, true, true, true, true, true, true, true, true, true, false, false, false, false, false, false, false, false, false, false, false] rfl rfl (any_of HT_.out (by kernel_rfl)) (fun _ _ _ h => h) (Or.inl ⟨by rfl, ?_⟩) ?_ ?_
                    rotate_left
                    · intro w'
                      go_simp
                      with_reducible rfl
                    rotate_left
                    · simp only [Act.put, List.setIfInBounds_toArray, List.set_cons_zero, List.set_cons_succ, i64_w, i32_w]
                      rfl
                    refine take_ (i := 22) (N := some 137) (v := ?_) (a' := ?_) #[true, true, true, true, true, true, true, true, true, true, true, true, true, true, true, true, true, true, true, true, true, true, true, false, false, false, false, false, false, false, false, false, false] rfl rfl (take_ofW HT_.out HW_.out (by kernel_rfl)) (fun _ _ _ h => h) (Or.inl ⟨by rfl, ?_⟩) hHeld ?_ ?_
                    rotate_left
                    · rintro w' ⟨s0, s1, s2, s3⟩
                      go_simp
                      with_reducible rfl
                    rotate_left
                    · simp only [Act.put, List.setIfInBounds_toArray, List.set_cons_zero, List.set_cons_succ, i64_w, i32_w]
                      rfl
                    refine pure_ (i := 23) (N := some 138) (v := ?_) (a' := ?_) #[true, true, true, true, true, true, true, true, true, true, true, true, true, true, true, true, true, true, true, true, true, true, true, true, false, false, false, false, false, false, false, false, false] rfl rfl (any_of HT_.out (by kernel_rfl)) (fun _ _ _ h => h) (Or.inl ⟨by rfl, ?_⟩) ?_ ?_
                    rotate_left
                    · intro w'
                      go_simp
                      with_reducible rfl
                    rotate_left
                    · simp only [Act.put, List.setIfInBounds_toArray, List.set_cons_zero, List.set_cons_succ, i64_w, i32_w]
                      rfl
                    refine pure_ (i := 24) (N := some 139) (v := ?_) (a' := ?_) #[true, true, true, true, true, true, true, true, true, true, true, true, true, true, true, true, true, true, true, true, true, true, true, true, true, false, false, false, false, false, false, false, false] rfl rfl (any_of HT_.out (by kernel_rfl)) (fun _ _ _ h => h) (Or.inl ⟨by rfl, ?_⟩) ?_ ?_
                    rotate_left
                    · intro w'
                      go_simp
                      with_reducible rfl
                    rotate_left
                    · simp only [Act.put, List.setIfInBounds_toArray, List.set_cons_zero, List.set_cons_succ, i64_w, i32_w]
                      rfl
                    refine pure_ (i := 25) (N := some 140) (v := ?_) (a' := ?_) #[true, true, true, true, true, true, true, true, true, true, true, true, true, true, true, true, true, true, true, true, true, true, true, true, true, true, false, false, false, false, false, false, false] rfl rfl (any_of HT_.out (by kernel_rfl)) (fun _ _ _ h => h) (Or.inl ⟨by rfl, ?_⟩) ?_ ?_
                    rotate_left
                    · intro w'
                      go_simp
                      with_reducible rfl
                    rotate_left
                    · simp only [Act.put, List.setIfInBounds_toArray, List.set_cons_zero, List.set_cons_succ, i64_w, i32_w]
                      rfl
                    refine pure_ (i := 26) (N := some 141) (v := ?_) (a' := ?_) #[true, true, true, true, true, true, true, true, true, true, true, true, true, true, true, true, true, true, true, true, true, true, true, true, true, true, true, false, false, false, false, false, false] rfl rfl (any_of HT_.out (by kernel_rfl)) (fun _ _ _ h => h) (Or.inl ⟨by rfl, ?_⟩) ?_ ?_
                    rotate_left
                    · intro w'
                      go_simp
                      with_reducible rfl
                    rotate_left
                    · simp only [Act.put, List.setIfInBounds_toArray, List.set_cons_zero, List.set_cons_succ, i64_w, i32_w]
                      rfl
                    refine pure_ (i := 27) (N := some 142) (v := ?_) (a' := ?_) #[true, true, true, true, true, true, true, true, true, true, true, true, true, true, true, true, true, true, true, true, true, true, true, true, true, true, true, true, false, false, false, false, false] rfl rfl (any_of HT_.out (by kernel_rfl)) (fun _ _ _ h => h) (Or.inl ⟨by rfl, ?_⟩) ?_ ?_
                    rotate_left
                    · intro w'
                      go_simp
                      with_reducible rfl
                    rotate_left
                    · simp only [Act.put, List.setIfInBounds_toArray, List.set_cons_zero, List.set_cons_succ, i64_w, i32_w]
                      rfl
                    refine pure_ (i := 28) (N := some 143) (v := ?_) (a' := ?_) #[true, true, true, true, true, true, true, true, true, true, true, true, true, true, true, true, true, true, true, true, true, true, true, true, true, true, true, true, true, false, false, false, false] rfl rfl (any_of HT_.out (by kernel_rfl)) (fun _ _ _ h => h) (Or.inl ⟨by rfl, ?_⟩) ?_ ?_
                    rotate_left
                    · intro w'
                      go_simp
                      with_reducible rfl
                    rotate_left
                    · simp only [Act.put, List.setIfInBounds_toArray, List.set_cons_zero, List.set_cons_succ, i64_w, i32_w]
                      rfl
                    refine one_ (i := 29) (N := some 144) #[true, true, true, true, true, true, true, true, true, true, true, true, true, true, true, true, true, true, true, true, true, true, true, true, true, true, true, true, true, true, false, false, false] rfl rfl (one_of HT_.out (by kernel_rfl)) (by decide) (fun K hK => ?_)
                    refine goes_ Tryd.func30 (by kernel_rfl) rfl #[.slice A2 g.length c2, .slice (some ad3) g.length c3, .int .i64 i, .int .i64 j, .bool st] (by rfl) rfl rfl (by simp only [List.map_toArray, List.map_cons, List.map_nil]; rfl) ?_
                    with_reducible refine (HCl.out).mono ?_
                    rintro e U ⟨rfl, hbu⟩
                    refine ⟨_, rfl, ?_⟩
                    have HBu := Aside0.mk (HBd.out.trans (hbu.mono HBd.out.size))
                    have HTu := Aside0.mk (TB.below HTd.out hbu)
                    have u0 := pw_cell_below hbu s0
                    have u1 := pw_cell_below hbu s1
                    have u2 := pw_cell_below hbu s2
                    have u3 := pw_cell_below hbu s3
                    clear hbu
                    refine hK.out _ _ ⟨u0, u1, u2, u3⟩ (fun hHeld => ?_)
                    clear hK K
                    refine norm_ (a' := ?_) ?_ ?_
                    rotate_left
                    · show Act.put _ (some 144) _ = _
                      simp only [Act.put, List.setIfInBounds_toArray, List.set_cons_zero, List.set_cons_succ, i64_w, i32_w]
                      rfl
                    refine pure_ (i := 30) (N := some 145) (v := ?_) (a' := ?_) #[true, true, true, true, true, true, true, true, true, true, true, true, true, true, true, true, true, true, true, true, true, true, true, true, true, true, true, true, true, true, true, false, false] rfl rfl (any_of HT_.out (by kernel_rfl)) (fun _ _ _ h => h) (Or.inl ⟨by rfl, ?_⟩) ?_ ?_
                    rotate_left
                    · intro w'
                      go_simp
                      with_reducible rfl
                    rotate_left
                    · simp only [Act.put, List.setIfInBounds_toArray, List.set_cons_zero, List.set_cons_succ, i64_w, i32_w]
                      rfl
                    refine pure_ (i := 31) (N := some 146) (v := ?_) (a' := ?_) #[true, true, true, true, true, true, true, true, true, true, true, true, true, true, true, true, true, true, true, true, true, true, true, true, true, true, true, true, true, true, true, true, false] rfl rfl (any_of HT_.out (by kernel_rfl)) (fun _ _ _ h => h) (Or.inl ⟨by rfl, ?_⟩) ?_ ?_
                    rotate_left
                    · intro w'
                      go_simp
                      with_reducible rfl
                    rotate_left
                    · simp only [Act.put, List.setIfInBounds_toArray, List.set_cons_zero, List.set_cons_succ, i64_w, i32_w]
                      rfl
                    refine pure_ (i := 32) (N := some 147) (v := ?_) (a' := ?_) #[true, true, true, true, true, true, true, true, true, true, true, true, true, true, true, true, true, true, true, true, true, true, true, true, true, true, true, true, true, true, true, true, true] rfl rfl (any_of HT_.out (by kernel_rfl)) (fun _ _ _ h => h) (Or.inl ⟨by rfl, ?_⟩) ?_ ?_
                    rotate_left
                    · intro w'
                      go_simp
                      with_reducible rfl
                    rotate_left
                    · simp only [Act.put, List.setIfInBounds_toArray, List.set_cons_zero, List.set_cons_succ, i64_w, i32_w]
                      rfl
                    refine done_ (done_of HT_.out (by kernel_rfl)) ?_
                    clear hiT hjT
                    go_wp2_with (fail)
                    go_roundw
                    case rel => exact ⟨j + 1, by omega, by first | (rw [hwj]; done) | (rw [Int.natCast_add]; rfl), HTu, HBu⟩
                    case measure => first | (rw [hwj]; simp only [intOf]; omega) | (simp only [intOf]; omega)
                    | false =>
                    rw [hs] at s1 s3
                    clear hs
                    go_wp2_with (fail)
                    refine start_ (n := 33) (S := fun w' => w'.cell? (ad3.add i) = some (.slice (some ad4) g.length d4) ∧ w'.cell? (ad4.add j) = some (.bool false) ∧ w'.cell? ⟨qi, i, none⟩ = some (.slice (some ⟨blk i, 0, none⟩) g.length (cap i)) ∧ w'.cell? ⟨blk i, j, none⟩ = some (.bool false)) (ds := []) #[false, false, false, false, false, false, false, false, false, false, false, false, false, false, false, false, false, false, false, false, false, false, false, false, false, false, false, false, false, false, false, false, false] (by kernel_rfl) rfl rfl ⟨s0, s1, s2, s3⟩ (fun hHeld => ?_)
                    refine with_tabW ru34.tab34 ru34.bits34 (fun HT_ HW_ => ?_)
                    refine pure_ (i := 0) (N := some 115) (v := ?_) (a' := ?_) #[true, false, false, false, false, false, false, false, false, false, false, false, false, false, false, false, false, false, false, false, false, false, false, false, false, false, false, false, false, false, false, false, false] rfl rfl (any_of HT_.out (by kernel_rfl)) (fun _ _ _ h => h) (Or.inl ⟨by rfl, ?_⟩) ?_ ?_
                    rotate_left
                    · intro w'
                      go_simp
                      with_reducible rfl
                    rotate_left
                    · simp only [Act.put, List.setIfInBounds_toArray, List.set_cons_zero, List.set_cons_succ, i64_w, i32_w]
                      rfl
                    refine pure_ (i := 1) (N := some 116) (v := ?_) (a' := ?_) #[true, true, false, false, false, false, false, false, false, false, false, false, false, false, false, false, false, false, false, false, false, false, false, false, false, false, false, false, false, false, false, false, false] rfl rfl (any_of HT_.out (by kernel_rfl)) (fun _ _ _ h => h) (Or.inl ⟨by rfl, ?_⟩) ?_ ?_
                    rotate_left
                    · intro w'
                      go_simp
                      with_reducible rfl
                    rotate_left
                    · simp only [Act.put, List.setIfInBounds_toArray, List.set_cons_zero, List.set_cons_succ, i64_w, i32_w]
                      rfl
                    refine pure_ (i := 2) (N := some 117) (v := ?_) (a' := ?_) #[true, true, true, false, false, false, false, false, false, false, false, false, false, false, false, false, false, false, false, false, false, false, false, false, false, false, false, false, false, false, false, false, false] rfl rfl (any_of HT_.out (by kernel_rfl)) (fun _ _ _ h => h) (Or.inl ⟨by rfl, ?_⟩) ?_ ?_
                    rotate_left
                    · intro w'
                      go_simp
                      with_reducible rfl
                    rotate_left
                    · simp only [Act.put, List.setIfInBounds_toArray, List.set_cons_zero, List.set_cons_succ, i64_w, i32_w]
                      rfl
                    refine pure_ (i := 4) (N := some 119) (v := ?_) (a' := ?_) #[true, true, true, false, true, false, false, false, false, false, false, false, false, false, false, false, false, false, false, false, false, false, false, false, false, false, false, false, false, false, false, false, false] rfl rfl (any_of HT_.out (by kernel_rfl)) (fun _ _ _ h => h) (Or.inl ⟨by rfl, ?_⟩) ?_ ?_
                    rotate_left
                    · intro w'
                      go_simp
                      with_reducible rfl
                    rotate_left
                    · simp only [Act.put, List.setIfInBounds_toArray, List.set_cons_zero, List.set_cons_succ, i64_w, i32_w]
                      rfl
                    refine pure_ (i := 7) (N := some 122) (v := ?_) (a' := ?_) #[true, true, true, false, true, false, false, true, false, false, false, false, false, false, false, false, false, false, false, false, false, false, false, false, false, false, false, false, false, false, false, false, false] rfl rfl (any_of HT_.out (by kernel_rfl)) (fun _ _ _ h => h) (Or.inl ⟨by rfl, ?_⟩) ?_ ?_
                    rotate_left
                    · intro w'
                      go_simp
                      with_reducible rfl
                    rotate_left
                    · simp only [Act.put, List.setIfInBounds_toArray, List.set_cons_zero, List.set_cons_succ, i64_w, i32_w]
                      rfl
                    refine pure_ (i := 8) (N := some 123) (v := ?_) (a' := ?_) #[true, true, true, false, true, false, false, true, true, false, false, false, false, false, false, false, false, false, false, false, false, false, false, false, false, false, false, false, false, false, false, false, false] rfl rfl (any_of HT_.out (by kernel_rfl)) (fun _ _ _ h => h) (Or.inl ⟨by rfl, ?_⟩) ?_ ?_
                    rotate_left
                    · intro w'
                      go_simp
                      with_reducible rfl
                    rotate_left
                    · simp only [Act.put, List.setIfInBounds_toArray, List.set_cons_zero, List.set_cons_succ, i64_w, i32_w]
                      rfl
                    refine pure_ (i := 9) (N := some 124) (v := ?_) (a' := ?_) #[true, true, true, false, true, false, false, true, true, true, false, false, false, false, false, false, false, false, false, false, false, false, false, false, false, false, false, false, false, false, false, false, false] rfl rfl (any_of HT_.out (by kernel_rfl)) (fun _ _ _ h => h) (Or.inl ⟨by rfl, ?_⟩) ?_ ?_
                    rotate_left
                    · intro w'
                      go_simp
                      with_reducible rfl
                    rotate_left
                    · simp only [Act.put, List.setIfInBounds_toArray, List.set_cons_zero, List.set_cons_succ, i64_w, i32_w]
                      rfl
                    refine pure_ (i := 11) (N := some 126) (v := ?_) (a' := ?_) #[true, true, true, false, true, false, false, true, true, true, false, true, false, false, false, false, false, false, false, false, false, false, false, false, false, false, false, false, false, false, false, false, false] rfl rfl (any_of HT_.out (by kernel_rfl)) (fun _ _ _ h => h) (Or.inl ⟨by rfl, ?_⟩) ?_ ?_
                    rotate_left
                    · intro w'
                      go_simp
                      with_reducible rfl
                    rotate_left
                    · simp only [Act.put, List.setIfInBounds_toArray, List.set_cons_zero, List.set_cons_succ, i64_w, i32_w]
                      rfl
                    refine take_ (i := 3) (N := some 118) (v := ?_) (a' := ?_) #[true, true, true, true, true, false, false, true, true, true, false, true, false, false, false, false, false, false, false, false, false, false, false, false, false, false, false, false, false, false, false, false, false] rfl rfl (take_ofW HT_.out HW_.out (by kernel_rfl)) (fun _ _ _ h => h) (Or.inl ⟨by rfl, ?_⟩) hHeld ?_ ?_
                    rotate_left
                    · rintro w' ⟨s0, s1, s2, s3⟩
                      go_simp
                      with_reducible rfl
                    rotate_left
                    · simp only [Act.put, List.setIfInBounds_toArray, List.set_cons_zero, List.set_cons_succ, i64_w, i32_w]
                      rfl
                    refine pure_ (i := 5) (N := some 120) (v := ?_) (a' := ?_) #[true, true, true, true, true, true, false, true, true, true, false, true, false, false, false, false, false, false, false, false, false, false, false, false, false, false, false, false, false, false, false, false, false] rfl rfl (any_of HT_.out (by kernel_rfl)) (fun _ _ _ h => h) (Or.inl ⟨by rfl, ?_⟩) ?_ ?_
                    rotate_left
                    · intro w'
                      go_simp
                      with_reducible rfl
                    rotate_left
                    · simp only [Act.put, List.setIfInBounds_toArray, List.set_cons_zero, List.set_cons_succ, i64_w, i32_w]
                      rfl
                    refine take_ (i := 6) (N := some 121) (v := ?_) (a' := ?_) #[true, true, true, true, true, true, true, true, true, true, false, true, false, false, false, false, false, false, false, false, false, false, false, false, false, false, false, false, false, false, false, false, false] rfl rfl (take_ofW HT_.out HW_.out (by kernel_rfl)) (fun _ _ _ h => h) (Or.inl ⟨by rfl, ?_⟩) hHeld ?_ ?_
                    rotate_left
                    · rintro w' ⟨s0, s1, s2, s3⟩
                      go_simp
                      with_reducible rfl
                    rotate_left
                    · simp only [Act.put, List.setIfInBounds_toArray, List.set_cons_zero, List.set_cons_succ, i64_w, i32_w]
                      rfl
                    refine take_ (i := 10) (N := some 125) (v := ?_) (a' := ?_) #[true, true, true, true, true, true, true, true, true, true, true, true, false, false, false, false, false, false, false, false, false, false, false, false, false, false, false, false, false, false, false, false, false] rfl rfl (take_ofW HT_.out HW_.out (by kernel_rfl)) (fun _ _ _ h => h) (Or.inl ⟨by rfl, ?_⟩) hHeld ?_ ?_
                    rotate_left
                    · rintro w' ⟨s0, s1, s2, s3⟩
                      go_simp
                      with_reducible rfl
                    rotate_left
                    · simp only [Act.put, List.setIfInBounds_toArray, List.set_cons_zero, List.set_cons_succ, i64_w, i32_w]
                      rfl
                    refine pure_ (i := 12) (N := some 127) (v := ?_) (a' := ?_) #[true, true, true, true, true, true, true, true, true, true, true, true, true, false, false, false, false, false, false, false, false, false, false, false, false, false, false, false, false, false, false, false, false] rfl rfl (any_of HT_.out (by kernel_rfl)) (fun _ _ _ h => h) (Or.inl ⟨by rfl, ?_⟩) ?_ ?_
                    rotate_left
                    · intro w'
                      go_simp
                      with_reducible rfl
                    rotate_left
                    · simp only [Act.put, List.setIfInBounds_toArray, List.set_cons_zero, List.set_cons_succ, i64_w, i32_w]
                      rfl
                    refine take_ (i := 13) (N := some 128) (v := ?_) (a' := ?_) #[true, true, true, true, true, true, true, true, true, true, true, true, true, true, false, false, false, false, false, false, false, false, false, false, false, false, false, false, false, false, false, false, false] rfl rfl (take_ofW HT_.out HW_.out (by kernel_rfl)) (fun _ _ _ h => h) (Or.inl ⟨by rfl, ?_⟩) hHeld ?_ ?_
                    rotate_left
                    · rintro w' ⟨s0, s1, s2, s3⟩
                      go_simp
                      with_reducible rfl
                    rotate_left
                    · simp only [Act.put, List.setIfInBounds_toArray, List.set_cons_zero, List.set_cons_succ, i64_w, i32_w]
                      rfl
                    refine pure_ (i := 14) (N := some 129) (v := ?_) (a' := ?_) #[true, true, true, true, true, true, true, true, true, true, true, true, true, true, true, false, false, false, false, false, false, false, false, false, false, false, false, false, false, false, false, false, false] rfl rfl (any_of HT_.out (by kernel_rfl)) (fun _ _ _ h => h) (Or.inl ⟨by rfl, ?_⟩) ?_ ?_
                    rotate_left
                    · intro w'
                      go_simp
                      with_reducible rfl
                    rotate_left
                    · simp only [Act.put, List.setIfInBounds_toArray, List.set_cons_zero, List.set_cons_succ, i64_w, i32_w]
                      rfl
                    refine pure_ (i := 15) (N := some 130) (v := ?_) (a' := ?_) #[true, true, true, true, true, true, true, true, true, true, true, true, true, true, true, true, false, false, false, false, false, false, false, false, false, false, false, false, false, false, false, false, false] rfl rfl (any_of HT_.out (by kernel_rfl)) (fun _ _ _ h => h) (Or.inl ⟨by rfl, ?_⟩) ?_ ?_
                    rotate_left
                    · intro w'
                      go_simp
                      with_reducible rfl
                    rotate_left
                    · simp only [Act.put, List.setIfInBounds_toArray, List.set_cons_zero, List.set_cons_succ, i64_w, i32_w]
                      rfl
                    refine pure_ (i := 16) (N := some 131) (v := ?_) (a' := ?_) #[true, true, true, true, true, true, true, true, true, true, true, true, true, true, true, true, true, false, false, false, false, false, false, false, false, false, false, false, false, false, false, false, false] rfl rfl (any_of HT_.out (by kernel_rfl)) (fun _ _ _ h => h) (Or.inl ⟨by rfl, ?_⟩) ?_ ?_
                    rotate_left
                    · intro w'
                      go_simp
                      with_reducible rfl
                    rotate_left
                    · simp only [Act.put, List.setIfInBounds_toArray, List.set_cons_zero, List.set_cons_succ, i64_w, i32_w]
                      rfl
                    refine pure_ (i := 17) (N := some 132) (v := ?_) (a' := ?_) #[true, true, true, true, true, true, true, true, true, true, true, true, true, true, true, true, true, true, false, false, false, false, false, false, false, false, false, false, false, false, false, false, false] rfl rfl (any_of HT_.out (by kernel_rfl)) (fun _ _ _ h => h) (Or.inl ⟨by rfl, ?_⟩) ?_ ?_
                    rotate_left
                    · intro w'
                      go_simp
                      with_reducible rfl
                    rotate_left
                    · simp only [Act.put, List.setIfInBounds_toArray, List.set_cons_zero, List.set_cons_succ, i64_w, i32_w]
                      rfl
                    refine pure_ (i := 18) (N := some 133) (v := ?_) (a' := ?_) #[true, true, true, true, true, true, true, true, true, true, true, true, true, true, true, true, true, true, true, false, false, false, false, false, false, false, false, false, false, false, false, false, false] rfl rfl (any_of HT_.out (by kernel_rfl)) (fun _ _ _ h => h) (Or.inl ⟨by rfl, ?_⟩) ?_ ?_
                    rotate_left
                    · intro w'
                      go_simp
                      with_reducible rfl
                    rotate_left
                    · simp only [Act.put, List.setIfInBounds_toArray, List.set_cons_zero, List.set_cons_succ, i64_w, i32_w]
                      rfl
                    refine pure_ (i := 20) (N := some 135) (v := ?_) (a' := ?_) #[true, true, true, true, true, true, true, true, true, true, true, true, true, true, true, true, true, true, true, false, true, false, false, false, false, false, false, false, false, false, false, false, false] rfl rfl (any_of HT_.out (by kernel_rfl)) (fun _ _ _ h => h) (Or.inl ⟨by rfl, ?_⟩) ?_ ?_
                    rotate_left
                    · intro w'
                      go_simp
                      with_reducible rfl
                    rotate_left
                    · simp only [Act.put, List.setIfInBounds_toArray, List.set_cons_zero, List.set_cons_succ, i64_w, i32_w]
                      rfl
                    refine take_ (i := 19) (N := some 134) (v := ?_) (a' := ?_) #[true, true, true, true, true, true, true, true, true, true, true, true, true, true, true, true, true, true, true, true, true, false, false, false, false, false, false, false, false, false, false, false, false] rfl rfl (take_ofW HT_.out HW_.out (by kernel_rfl)) (fun _ _ _ h => h) (Or.inl ⟨by rfl, ?_⟩) hHeld ?_ ?_
                    rotate_left
                    · rintro w' ⟨s0, s1, s2, s3⟩
                      go_simp
                      with_reducible rfl
                    rotate_left
                    · simp only [Act.put, List.setIfInBounds_toArray, List.set_cons_zero, List.set_cons_succ, i64_w, i32_w]
                      rfl
                    refine pure_ (i := 21) (N := some 136) (v := ?_) (a' := ?_) #[true, true, true, true, true, true, true, true, true, true, true, true, true, true, true, true, true, true, true, true, true, true, false, false, false, false, false, false, false, false, false, false, false] rfl rfl (any_of HT_.out (by kernel_rfl)) (fun _ _ _ h => h) (Or.inl ⟨by rfl, ?_⟩) ?_ ?_
                    rotate_left
                    · intro w'
                      go_simp
                      with_reducible rfl
                    rotate_left
                    · simp only [Act.put, List.setIfInBounds_toArray, List.set_cons_zero, List.set_cons_succ, i64_w, i32_w]
                      rfl
                    refine take_ (i := 22) (N := some 137) (v := ?_) (a' := ?_) #[true, true, true, true, true, true, true, true, true, true, true, true, true, true, true, true, true, true, true, true, true, true, true, false, false, false, false, false, false, false, false, false, false] rfl rfl (take_ofW HT_.out HW_.out (by kernel_rfl)) (fun _ _ _ h => h) (Or.inl ⟨by rfl, ?_⟩) hHeld ?_ ?_
                    rotate_left
                    · rintro w' ⟨s0, s1, s2, s3⟩
                      go_simp
                      with_reducible rfl
                    rotate_left
                    · simp only [Act.put, List.setIfInBounds_toArray, List.set_cons_zero, List.set_cons_succ, i64_w, i32_w]
                      rfl
                    refine pure_ (i := 23) (N := some 138) (v := ?_) (a' := ?_) #[true, true, true, true, true, true, true, true, true, true, true, true, true, true, true, true, true, true, true, true, true, true, true, true, false, false, false, false, false, false, false, false, false] rfl rfl (any_of HT_.out (by kernel_rfl)) (fun _ _ _ h => h) (Or.inl ⟨by rfl, ?_⟩) ?_ ?_
                    rotate_left
                    · intro w'
                      go_simp
                      with_reducible rfl
                    rotate_left
                    · simp only [Act.put, List.setIfInBounds_toArray, List.set_cons_zero, List.set_cons_succ, i64_w, i32_w]
                      rfl
                    refine pure_ (i := 24) (N := some 139) (v := undef) (a' := ?_) #[true, true, true, true, true, true, true, true, true, true, true, true, true, true, true, true, true, true, true, true, true, true, true, true, true, false, false, false, false, false, false, false, false] rfl rfl (any_of HT_.out (by kernel_rfl)) (fun _ _ _ h => h) (Or.inr ⟨by rfl, rfl⟩) ?_ ?_
                    rotate_left
                    · simp only [Act.put, List.setIfInBounds_toArray, List.set_cons_zero, List.set_cons_succ, i64_w, i32_w]
                      rfl
                    refine pure_ (i := 25) (N := some 140) (v := undef) (a' := ?_) #[true, true, true, true, true, true, true, true, true, true, true, true, true, true, true, true, true, true, true, true, true, true, true, true, true, true, false, false, false, false, false, false, false] rfl rfl (any_of HT_.out (by kernel_rfl)) (fun _ _ _ h => h) (Or.inr ⟨by rfl, rfl⟩) ?_ ?_
                    rotate_left
                    · simp only [Act.put, List.setIfInBounds_toArray, List.set_cons_zero, List.set_cons_succ, i64_w, i32_w]
                      rfl
                    refine pure_ (i := 26) (N := some 141) (v := undef) (a' := ?_) #[true, true, true, true, true, true, true, true, true, true, true, true, true, true, true, true, true, true, true, true, true, true, true, true, true, true, true, false, false, false, false, false, false] rfl rfl (any_of HT_.out (by kernel_rfl)) (fun _ _ _ h => h) (Or.inr ⟨by rfl, rfl⟩) ?_ ?_
                    rotate_left
                    · simp only [Act.put, List.setIfInBounds_toArray, List.set_cons_zero, List.set_cons_succ, i64_w, i32_w]
                      rfl
                    refine pure_ (i := 27) (N := some 142) (v := undef) (a' := ?_) #[true, true, true, true, true, true, true, true, true, true, true, true, true, true, true, true, true, true, true, true, true, true, true, true, true, true, true, true, false, false, false, false, false] rfl rfl (any_of HT_.out (by kernel_rfl)) (fun _ _ _ h => h) (Or.inr ⟨by rfl, rfl⟩) ?_ ?_
                    rotate_left
                    · simp only [Act.put, List.setIfInBounds_toArray, List.set_cons_zero, List.set_cons_succ, i64_w, i32_w]
                      rfl
                    refine pure_ (i := 28) (N := some 143) (v := undef) (a' := ?_) #[true, true, true, true, true, true, true, true, true, true, true, true, true, true, true, true, true, true, true, true, true, true, true, true, true, true, true, true, true, false, false, false, false] rfl rfl (any_of HT_.out (by kernel_rfl)) (fun _ _ _ h => h) (Or.inr ⟨by rfl, rfl⟩) ?_ ?_
                    rotate_left
                    · simp only [Act.put, List.setIfInBounds_toArray, List.set_cons_zero, List.set_cons_succ, i64_w, i32_w]
                      rfl
                    refine pure_ (i := 29) (N := some 144) (v := undef) (a' := ?_) #[true, true, true, true, true, true, true, true, true, true, true, true, true, true, true, true, true, true, true, true, true, true, true, true, true, true, true, true, true, true, false, false, false] rfl rfl (any_of HT_.out (by kernel_rfl)) (fun _ _ _ h => h) (Or.inr ⟨by rfl, rfl⟩) ?_ ?_
                    rotate_left
                    · simp only [Act.put, List.setIfInBounds_toArray, List.set_cons_zero, List.set_cons_succ, i64_w, i32_w]
                      rfl
                    refine pure_ (i := 30) (N := some 145) (v := undef) (a' := ?_) #[true, true, true, true, true, true, true, true, true, true, true, true, true, true, true, true, true, true, true, true, true, true, true, true, true, true, true, true, true, true, true, false, false] rfl rfl (any_of HT_.out (by kernel_rfl)) (fun _ _ _ h => h) (Or.inr ⟨by rfl, rfl⟩) ?_ ?_
                    rotate_left
                    · simp only [Act.put, List.setIfInBounds_toArray, List.set_cons_zero, List.set_cons_succ, i64_w, i32_w]
                      rfl
                    refine pure_ (i := 31) (N := some 146) (v := ?_) (a' := ?_) #[true, true, true, true, true, true, true, true, true, true, true, true, true, true, true, true, true, true, true, true, true, true, true, true, true, true, true, true, true, true, true, true, false] rfl rfl (any_of HT_.out (by kernel_rfl)) (fun _ _ _ h => h) (Or.inl ⟨by rfl, ?_⟩) ?_ ?_
                    rotate_left
                    · intro w'
                      go_simp
                      with_reducible rfl
                    rotate_left
                    · simp only [Act.put, List.setIfInBounds_toArray, List.set_cons_zero, List.set_cons_succ, i64_w, i32_w]
                      rfl
                    refine pure_ (i := 32) (N := some 147) (v := ?_) (a' := ?_) #[true, true, true, true, true, true, true, true, true, true, true, true, true, true, true, true, true, true, true, true, true, true, true, true, true, true, true, true, true, true, true, true, true] rfl rfl (any_of HT_.out (by kernel_rfl)) (fun _ _ _ h => h) (Or.inl ⟨by rfl, ?_⟩) ?_ ?_
                    rotate_left
                    · intro w'
                      go_simp
                      with_reducible rfl
                    rotate_left
                    · simp only [Act.put, List.setIfInBounds_toArray, List.set_cons_zero, List.set_cons_succ, i64_w, i32_w]
                      rfl
                    refine done_ (done_of HT_.out (by kernel_rfl)) ?_
                    clear hiT hjT
                    go_wp2_with (fail)
                    go_roundw
                    case rel => exact ⟨j + 1, by omega, by first | (rw [hwj]; done) | (rw [Int.natCast_add]; rfl), HTd, HBd⟩
                    case measure => first | (rw [hwj]; simp only [intOf]; omega) | (simp only [intOf]; omega)
                  · go_wp2_with (fail)
                    go_roundw
                    case rel => exact ⟨i + 1, by omega, by first | (rw [hwi]; done) | (rw [Int.natCast_add]; rfl), HTf, HBf⟩
                    case measure => first | (rw [hwi]; simp only [intOf]; omega) | (simp only [intOf]; omega)
              · have HBz := Aside0.mk (HB3.out.trans (HBf.out.mono HB3.out.size))
                go_wp2_with (fail)
                refine (works_yes Z (HKw.out.below HBz.out)).mono ?_
                rintro e U ⟨rfl, hbu⟩
                have HBU := Aside0.mk (HBz.out.trans (hbu.mono HBz.out.size))
                clear hbu
                go_wp2_with (fail)
                first | go_ret | go_ret2
                exact ⟨rfl, HBU.out⟩
  · exact absurd HC0.out hne
end Go.Proofs.YtgllcpimkjlklaaDoor.V4
