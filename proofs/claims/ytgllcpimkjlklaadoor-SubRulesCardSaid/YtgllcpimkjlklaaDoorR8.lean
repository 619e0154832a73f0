/- SubOrder walked: it answers true, of all rows. -/
import Derived.Test.YtgllcpimkjlklaaDoorProg
import Derived.Below
import Derived.Deep.Draws
import Derived.Deep.AppendLies
import Derived.Maps.AppendAt
import Derived.OwnWalk
import Derived.Laws.BytesArg
import Derived.Laws.MakeOwn
import Derived.Laws.OwnMore
import Derived.Deep.OwnRows
import Derived.Tactics
import Derived.Lib.ConvBytes
import Derived.Laws.Slices
import Derived.WalkKit
import Derived.KernelRfl
import Derived.RowKit3
import Derived.Deep.LoopGhost
import Derived.Deep.QuietTactic
import Derived.BigQuiet
import Derived.WideLaws
import Derived.Deep.DeepCutAuto
import Derived.Deep.CutBlock
import Derived.Deep.RegionHeld3
import Derived.Laws.Rows
import Derived.Lib.AppendStr
import Derived.ArgAppend
import Derived.Laws.IdiomCopy
import Derived.OrdersHeld
import Derived.Laws.BitsLemmas
import Derived.RowKit
import Derived.WalkSpells
import Derived.Laws.CopyOwn
import Derived.Test.YtgllcpimkjlklaaDoorWWords
import Derived.Test.YtgllcpimkjlklaaDoorWLast
import Derived.Test.YtgllcpimkjlklaaDoorR3
import Derived.Test.YtgllcpimkjlklaaDoorR5
import Derived.Test.YtgllcpimkjlklaaDoorR7
namespace Go.Proofs.YtgllcpimkjlklaaDoor.R8
open Go.RowKit Go.Proofs.YtgllcpimkjlklaaDoorW.PrintWords Go.Proofs.YtgllcpimkjlklaaDoorW.PrintLast Go.Proofs.YtgllcpimkjlklaaDoorW.PrintMore Go.Proofs.YtgllcpimkjlklaaDoor Go.Proofs.YtgllcpimkjlklaaDoor.L1 Go.Proofs.YtgllcpimkjlklaaDoor.L4 Go.Proofs.YtgllcpimkjlklaaDoor.G1 Go.Proofs.YtgllcpimkjlklaaDoor.G2 Go.Proofs.YtgllcpimkjlklaaDoor.S4 Go.Proofs.YtgllcpimkjlklaaDoor.S5 Go.Proofs.YtgllcpimkjlklaaDoor.S7 Go.Proofs.YtgllcpimkjlklaaDoor.S9 Go.Proofs.YtgllcpimkjlklaaDoor.S10 Go.Proofs.YtgllcpimkjlklaaDoor.R1 Go.Proofs.YtgllcpimkjlklaaDoor.R3 Go.Proofs.YtgllcpimkjlklaaDoor.R4 Go.Proofs.YtgllcpimkjlklaaDoor.R5 Go.Proofs.YtgllcpimkjlklaaDoor.R6 Go.Proofs.YtgllcpimkjlklaaDoor.R7
set_option linter.unusedVariables false
set_option linter.unusedSimpArgs false
theorem tab_at {st : Bool} {g : List GN} {w : World} {A : Option Addr} (h : Kd.C (Kd.slice 4 Kd.bool) w A g.length (tabN st g g.length)) (hn : 0 < g.length) :
    ∃ ad, A = some ad ∧ ∀ a, a < g.length → ∃ ad2 c2, w.cell? (ad.add a) = some (.slice (some ad2) g.length c2) ∧ ∀ b, b < g.length → w.cell? (ad2.add b) = some (.bool (subB st g a b)) := by
  obtain ⟨ad, c, e, _, _, _⟩ := Kd.C_get h [] (0 : Int) (by omega) (by omega)
  refine ⟨ad, e, fun a ha => ?_⟩
  obtain ⟨ad', cs, e', _, hK, hc⟩ := Kd.C_get h [] (a : Int) (by omega) (by omega)
  rw [e] at e'
  cases e'
  have hrow : (tabN st g g.length).getD a [] = (List.range g.length).map (subB st g a) := by
    unfold tabN
    rw [List.getD_eq_getElem?_getD, List.getElem?_map, List.getElem?_range ha]
    rfl
  obtain ⟨A2, c2, rfl, hl, hC⟩ := hK
  rw [Int.toNat_natCast] at hl hC hc
  rw [hrow] at hl hC hc
  have hlen : ((List.range g.length).map (subB st g a)).length = g.length := by simp
  rw [hlen] at hl hC hc
  have h0 := hc 0 _ rfl
  obtain ⟨ad2, e2, _⟩ := Kd.at_bool hC (0 : Int) (by omega) (by omega)
  subst e2
  rw [show a * (Kd.slice 4 Kd.bool).sz + 0 = a by show a * 1 + 0 = a; omega] at h0
  refine ⟨ad2, c2, h0, fun b hb => ?_⟩
  obtain ⟨ad3, e3, hx⟩ := Kd.at_bool hC (b : Int) (by omega) (by omega)
  cases e3
  rw [Int.toNat_natCast] at hx
  rw [hx]
  congr 2
  show ((List.range g.length).map (subB st g a)).getD b false = _
  rw [List.getD_eq_getElem?_getD, List.getElem?_map, List.getElem?_range hb]
  rfl
theorem subB_true {st : Bool} {g : List GN} {a b : Nat} (h : Sub st g a b) : subB st g a b = true := (subB_iff st g a b).2 h
theorem mayB_nat {st : Bool} {g : List GN} {a b : Nat} (hc : checkP g = 0) (ha : a < g.length) (hb : b < g.length) : mayB st g a b = subB st g a b := by
  have h1 : mayB st g a b = true ↔ subB st g a b = true := by
    rw [mayB_iff, subB_iff]
    unfold MayP
    simp only [Int.toNat_natCast]
    have : ofP g [(a : Int), (b : Int)] = true := by
      unfold ofP outP
      simp [hc]
      omega
    simp [this]
  exact Bool.eq_iff_iff.2 h1
set_option maxHeartbeats 8000000 in
set_option maxRecDepth 100000 in
theorem order_walk (A : Option Addr) (c : Nat) (l : List RW) (w : World) (hK : Keys w) (hr : Kd.C kRW w A l.length l) (hc : l.length ≤ c) :
    Calls Tryd.prog 6 #[.slice A l.length c] w fun e w' => e = .returned (.bool true) ∧ Below w.heap.size w w' := by
  have HK := Aside0.mk hK
  have HR := Aside0.mk hr
  have HC := Aside0.mk hc
  clear hK hr hc
  go_enter Tryd.func6, Tryd.ntmps6
  go_wp2_with (fail)
  refine (works_yes w HK.out).mono ?_
  rintro e W1 ⟨rfl, hb⟩
  have HB1 := Aside0.mk hb
  clear hb
  go_wp2_with (fail)
  refine (made_yes A c l true W1 (Kd.C_below HR.out HB1.out) HC.out).mono ?_
  rintro e W2 ⟨v, g, rfl, ho, hb, hlen, hgp⟩
  have HB2 := Aside0.mk (HB1.out.trans (hb.mono HB1.out.size))
  obtain ⟨A2, c2, rfl, hc2, hC2⟩ := Kd.R_reads ho
  have HC2 := Aside0.mk hC2
  have hn : g.length ≤ 14 := by omega
  have HP := Aside0.mk hgp
  have hc0 : checkP g = 0 := graph_check (plain_le _) (by omega) hgp
  have HC0 := Aside0.mk hc0
  have HS := Aside0.mk (show ∀ a, a < g.length → subB true g a a = true from fun a ha => subB_true (sub_same (plain_le _) (by omega) hgp ha))
  have HT := Aside0.mk (show ∀ a b c, subB true g a b = true → subB true g b c = true → subB true g a c = true from fun a b c h1 h2 => subB_true (sub_trans ((subB_iff _ _ _ _).1 h1) ((subB_iff _ _ _ _).1 h2)))
  clear ho hb hC2 hgp hlen
  go_wp2_with (fail)
  refine (all_yes A2 c2 g true W2 (HK.out.below HB2.out) HC2.out hc2).mono ?_
  rintro e W3 ⟨⟨_, A3, c3, rfl, ht, hc3⟩ | ⟨hne, _⟩, hb⟩
  · have HTb := Aside0.mk ht
    have HB3 := Aside0.mk (HB2.out.trans (hb.mono HB2.out.size))
    have HC3 := Aside0.mk (Kd.C_below HC2.out hb)
    clear ht hb
    go_wp2_with (fail)
    refine (check_yes A2 c2 g W3 (HK.out.below HB3.out) HC3.out hc2).mono ?_
    rintro e W4 ⟨rfl, hb⟩
    rw [HC0.out]
    have HB4 := Aside0.mk (HB3.out.trans (hb.mono HB3.out.size))
    have HC4 := Aside0.mk (Kd.C_below HC3.out hb)
    have HTb4 := Aside0.mk (Kd.C_below HTb.out hb)
    clear hb HTb HC3 hc0
    go_wp2_with (fail)
    go_loopw [6] (fun v6 wr => ∃ a : Nat, a ≤ g.length ∧ v6 = .int .i64 a ∧ Aside0 (Below W4.heap.size W4 wr)) (fun v6 _ => g.length + 1 - (intOf v6).toNat)
    case atStart => exact ⟨0, by omega, rfl, ⟨Below.refl _ _⟩⟩
    case round =>
      rename World => X
      obtain ⟨a, ha, rfl, HBx⟩ := hrel
      have HTx := Aside0.mk (Kd.C_below HTb4.out HBx.out)
      have HBX := Aside0.mk (HB4.out.trans (HBx.out.mono HB4.out.size))
      have HCX := Aside0.mk (Kd.C_below HC4.out HBx.out)
      by_cases hlt : a < g.length
      · obtain ⟨ad, e3, htab⟩ := tab_at HTx.out (by omega)
        cases e3
        obtain ⟨ad2, d2, hx, hrow⟩ := htab a hlt
        have hxx := hrow a hlt
        rw [HS.out a hlt] at hxx
        have hwa : wrap64 ((a : Int) + 1) = ((a + 1 : Nat) : Int) := by unfold wrap64; omega
        have HMay := Aside0.mk (show mayB true g a a = true by rw [mayB_nat HC0.out hlt hlt]; exact HS.out a hlt)
        clear htab hrow
        go_wp2_with (fail)
        refine (strict_yes A2 c2 g a a X (HK.out.below HBX.out) HCX.out hc2).mono ?_
        rintro e Y ⟨rfl, hb⟩
        rw [HMay.out]
        have HBy := Aside0.mk (HBx.out.trans (hb.mono HBx.out.size))
        clear hb
        go_wp2_with (fail)
        go_roundw
        case rel => exact ⟨a + 1, by omega, by first | (rw [hwa]; done) | (rw [Int.natCast_add]; rfl), HBy⟩
        case measure => first | (rw [hwa]; simp only [intOf]; omega) | (simp only [intOf]; omega)
      · obtain rfl : a = g.length := by omega
        go_wp2_with (fail)
        clear hlt ha
        go_loopw [7] (fun v7 wr => ∃ a : Nat, a ≤ g.length ∧ v7 = .int .i64 a ∧ wr = X) (fun v7 _ => g.length + 1 - (intOf v7).toNat)
        case atStart => exact ⟨0, by omega, rfl, rfl⟩
        case round =>
          obtain ⟨a, ha, rfl, rfl⟩ := hrel
          rename World => X
          have hwa : wrap64 ((a : Int) + 1) = ((a + 1 : Nat) : Int) := by unfold wrap64; omega
          by_cases hlt : a < g.length
          · go_wp2_with (fail)
            go_loopw [8] (fun v8 wr => ∃ b : Nat, b ≤ g.length ∧ v8 = .int .i64 b ∧ wr = X) (fun v8 _ => g.length + 1 - (intOf v8).toNat)
            case atStart => exact ⟨0, by omega, rfl, rfl⟩
            case round =>
              obtain ⟨b, hb, rfl, rfl⟩ := hrel
              rename World => X
              have hwb : wrap64 ((b : Int) + 1) = ((b + 1 : Nat) : Int) := by unfold wrap64; omega
              by_cases hltb : b < g.length
              · go_wp2_with (fail)
                go_loopw [9] (fun v9 wr => ∃ c : Nat, c ≤ g.length ∧ v9 = .int .i64 c ∧ wr = X) (fun v9 _ => g.length + 1 - (intOf v9).toNat)
                case atStart => exact ⟨0, by omega, rfl, rfl⟩
                case round =>
                  obtain ⟨c, hcg, rfl, rfl⟩ := hrel
                  rename World => X
                  have hwc : wrap64 ((c : Int) + 1) = ((c + 1 : Nat) : Int) := by unfold wrap64; omega
                  by_cases hltc : c < g.length
                  · obtain ⟨ad, e3, htab⟩ := tab_at HTx.out (by omega)
                    cases e3
                    obtain ⟨ada, da, hxa, hra⟩ := htab a hlt
                    obtain ⟨adb, db, hxb, hrb⟩ := htab b hltb
                    have hab := hra b hltb
                    have hac := hra c hltc
                    have hbc := hrb c hltc
                    have HTr := Aside0.mk (HT.out a b c)
                    clear htab hra hrb
                    cases e1 : subB true g a b with
                    | false =>
                      rw [e1] at hab
                      clear hac hbc e1
                      go_wp2_with (fail)
                      go_roundw
                      case rel => exact ⟨c + 1, by omega, by first | (rw [hwc]; done) | (rw [Int.natCast_add]; rfl), trivial⟩
                      case measure => first | (rw [hwc]; simp only [intOf]; omega) | (simp only [intOf]; omega)
                    | true =>
                      cases e2 : subB true g b c with
                      | false =>
                        rw [e1] at hab
                        rw [e2] at hbc
                        clear hac e1 e2
                        go_wp2_with (fail)
                        go_roundw
                        case rel => exact ⟨c + 1, by omega, by first | (rw [hwc]; done) | (rw [Int.natCast_add]; rfl), trivial⟩
                        case measure => first | (rw [hwc]; simp only [intOf]; omega) | (simp only [intOf]; omega)
                      | true =>
                        rw [HTr.out e1 e2] at hac
                        rw [e1] at hab
                        rw [e2] at hbc
                        clear e1 e2
                        go_wp2_with (fail)
                        go_roundw
                        case rel => exact ⟨c + 1, by omega, by first | (rw [hwc]; done) | (rw [Int.natCast_add]; rfl), trivial⟩
                        case measure => first | (rw [hwc]; simp only [intOf]; omega) | (simp only [intOf]; omega)
                  · go_wp2_with (fail)
                    go_roundw
                    case rel => exact ⟨b + 1, by omega, by first | (rw [hwb]; done) | (rw [Int.natCast_add]; rfl), trivial⟩
                    case measure => first | (rw [hwb]; simp only [intOf]; omega) | (simp only [intOf]; omega)
              · go_wp2_with (fail)
                go_roundw
                case rel => exact ⟨a + 1, by omega, by first | (rw [hwa]; done) | (rw [Int.natCast_add]; rfl), trivial⟩
                case measure => first | (rw [hwa]; simp only [intOf]; omega) | (simp only [intOf]; omega)
          · go_wp2_with (fail)
            first | go_ret | go_ret2
            exact ⟨rfl, HBX.out⟩
  · exact absurd HC0.out hne
end Go.Proofs.YtgllcpimkjlklaaDoor.R8
