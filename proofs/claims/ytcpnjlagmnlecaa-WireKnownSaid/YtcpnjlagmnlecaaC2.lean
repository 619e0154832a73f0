/- put: a row's thing written. -/
import Derived.Test.YtcpnjlagmnlecaaProg
import Derived.Below
import Derived.Deep.Draws
import Derived.Deep.AppendLies
import Derived.Maps.AppendAt
import Derived.OwnWalk
import Derived.Laws.BytesArg
import Derived.Laws.MakeOwn
import Derived.Laws.OwnMore
import Derived.Deep.OwnRows
import Derived.Tactics
import Derived.Lib.ConvBytes
import Derived.Laws.Slices
import Derived.WalkKit
import Derived.KernelRfl
import Derived.RowKit3
import Derived.Deep.LoopGhost
import Derived.Deep.QuietTactic
import Derived.BigQuiet
import Derived.WideLaws
import Derived.Deep.DeepCutAuto
import Derived.Deep.CutBlock
import Derived.Deep.RegionHeld3
import Derived.Laws.Rows
import Derived.Lib.AppendStr
import Derived.ArgAppend
import Derived.Laws.IdiomCopy
import Derived.OrdersHeld
import Derived.Laws.BitsLemmas
import Derived.RowKit
import Derived.WalkSpells
import Derived.Laws.CopyOwn
import Derived.Test.YtcpnjlagmnlecaaWWords
import Derived.Test.YtcpnjlagmnlecaaWLast
import Derived.Test.YtcpnjlagmnlecaaWMore
import Derived.Test.YtcpnjlagmnlecaaC1
import Derived.Test.YtcpnjlagmnlecaaB5
namespace Go.Proofs.Ytcpnjlagmnlecaa.C2
open Go.RowKit Go.Proofs.YtcpnjlagmnlecaaW.PrintWords Go.Proofs.YtcpnjlagmnlecaaW.PrintLast Go.Proofs.YtcpnjlagmnlecaaW.PrintMore Go.Proofs.Ytcpnjlagmnlecaa Go.Proofs.Ytcpnjlagmnlecaa.A2 Go.Proofs.Ytcpnjlagmnlecaa.A3 Go.Proofs.Ytcpnjlagmnlecaa.A8 Go.Proofs.Ytcpnjlagmnlecaa.A9 Go.Proofs.Ytcpnjlagmnlecaa.C1
set_option linter.unusedVariables false
set_option linter.unusedSimpArgs false
def numsP (l : List Int) : List Int := (l.take 20).map (fun x => bringI x 9007199254740992)
theorem numbered_l0 (l : List Int) (hl : l.length ≤ 9223372036854775807) : ∀ (d i : Nat), i + d = 20 → H.armillarylaw01_numbered.l0 (d + 1) l ((((l.take 20).take i)).map (fun x => bringI x 9007199254740992)) i = some (numsP l) := by
  intro d
  induction d with
  | zero =>
    intro i hi
    obtain rfl : i = 20 := by omega
    have e : ((l.take 20).take 20) = l.take 20 := by rw [List.take_take, Nat.min_self]
    rw [H.armillarylaw01_numbered.l0, e]
    by_cases h : ((20 : Nat) : Int) < (l.length : Int)
    · rw [if_pos h, if_neg (by omega)]; rfl
    · rw [if_neg h]; rfl
  | succ d ih =>
    intro i hi
    rw [H.armillarylaw01_numbered.l0]
    by_cases h : (i : Int) < (l.length : Int)
    · have hli : i < l.length := by omega
      have hx : rd l (i : Int) = l[i] := by
        show l.getD i 0 = _
        rw [List.getD_eq_getElem?_getD, List.getElem?_eq_getElem hli]; rfl
      have e : ((l.take 20).take (i + 1)) = (l.take 20).take i ++ [l[i]] := by
        rw [List.take_add_one]; congr 1
        rw [List.getElem?_take, if_pos (by omega), List.getElem?_eq_getElem hli]; rfl
      have := ih (i + 1) (by omega)
      rw [e, List.map_append] at this
      rw [if_pos h, if_pos (by omega), if_pos (by omega), hx, (bring_f l[i] 9007199254740992 (by omega) (by omega)).1, Option.bind_some, if_pos (by simp only [List.length_map, List.length_take]; omega), show wrap64 ((i : Int) + 1) = ((i + 1 : Nat) : Int) by unfold wrap64; omega]
      exact this
    · rw [if_neg h, List.take_of_length_le (show (l.take 20).length ≤ i by rw [List.length_take]; omega)]; rfl
theorem numbered_f (l : List Int) (hl : l.length ≤ 9223372036854775807) : H.armillarylaw01_numbered.f 21 l = some (numsP l) := numbered_l0 l hl 20 0 rfl
def kindOf (k : Int) : Int := bringI k 4
def cut300 (s : ByteArray) : ByteArray := s.extract 0 (mn (s.size : Int) 300).toNat
def putP (b : List Int) (x : H.S57) : List Int × Int :=
  if kindOf x.f0 = 0 then dig b (bringI x.f1 9007199254740992)
  else if kindOf x.f0 = 1 then let_ b (cut300 x.f2)
  else if kindOf x.f0 = 2 then listW dig (b ++ WireP.enc (numsP x.f3).length) (numsP x.f3)
  else listW let_ (b ++ WireP.enc (textsP x.f2 x.f3).length) (textsP x.f2 x.f3)
set_option maxHeartbeats 8000000 in
set_option maxRecDepth 100000 in
theorem put_own (A0 : Option Addr) (c0 : Nat) (l0 : List Int) (x : H.S57) (A1 : Option Addr) (c1 : Nat) (w : World) (hr0 : Kd.C (Kd.int .u8) w A0 l0.length l0) (hc0 : l0.length ≤ c0) (hr1 : Kd.C (Kd.int .i64) w A1 x.f3.length x.f3) (hc1 : x.f3.length ≤ c1) (hx : l0.length + 1000000000 < 140737488355328) :
    Calls Try.prog 34 #[.slice A0 l0.length c0, .agg #[.int .i64 x.f0, .int .i64 x.f1, .string x.f2, .slice A1 x.f3.length c1]] w fun e w' => ∃ v0_ : Value, e = .returned (.tuple #[v0_, .int .i64 (putP l0 x).2]) ∧ Kd.R (Kd.int .u8) 5 w' w.heap.size (fun _ => True) v0_ (putP l0 x).1 ∧ Below w.heap.size w w' := by
  obtain ⟨k, n, s, l1⟩ := x
  have HR0 := Aside0.mk hr0
  have HC0 := Aside0.mk hc0
  have HR1 := Aside0.mk (show Kd.C (Kd.int .i64) w A1 l1.length l1 from hr1)
  have HC1 := Aside0.mk (show l1.length ≤ c1 from hc1)
  have HX := Aside0.mk hx
  have HNl := Aside0.mk (numbered_f l1 hr1.2.1)
  clear hr0 hc0 hr1 hc1 hx
  have hk := bring_f k 4 (by omega) (by omega)
  have hn := bring_f n 9007199254740992 (by omega) (by omega)
  obtain ⟨nn, hnn⟩ : ∃ nn, nn = bringI n 9007199254740992 := ⟨_, rfl⟩
  rw [← hnn] at hn
  have HNn := Aside0.mk hnn
  have HBn := Aside0.mk hn.1
  have HG0 := Aside0.mk (heap_alloc_new w (.cells #[.int .i64 k, .int .i64 n, .string s, .slice A1 l1.length c1] 57))
  have HB0 := Aside0.mk (below_alloc (Below.refl w.heap.size w) (.cells #[.int .i64 k, .int .i64 n, .string s, .slice A1 l1.length c1] 57))
  obtain ⟨kk, hkk⟩ : ∃ kk, kk = bringI k 4 := ⟨_, rfl⟩
  rw [← hkk] at hk
  have HBk := Aside0.mk hk.1
  have HKk := Aside0.mk (show kindOf k = kk from hkk.symm)
  have h4 := hk.2
  clear hk hn hnn hkk
  show Calls Try.prog 34 #[.slice A0 l0.length c0, .agg #[.int .i64 k, .int .i64 n, .string s, .slice A1 l1.length c1]] w _
  go_enter Try.func34, Try.ntmps34
  rcases (show kk = 0 ∨ kk = 1 ∨ kk = 2 ∨ kk = 3 by omega) with rfl | rfl | rfl | rfl
  · have HP : Aside0 (putP l0 ⟨k, n, s, l1⟩ = dig l0 nn) := ⟨by unfold putP; rw [if_pos HKk.out, HNn.out]⟩
    go_wp2_with (fail)
    refine (H.armillaryref00_Bring.calls k 4 _ _ HBk.out).mono ?_
    rintro e w' ⟨rfl, ⟨nd, rfl⟩⟩
    have HBy := Aside0.mk (pw_below_drewN HB0.out nd)
    have HG1 := Aside0.mk (show ((w.alloc (.cells #[.int .i64 k, .int .i64 n, .string s, .slice A1 l1.length c1] 57)).drewN nd).heap[w.heap.size]? = _ from HG0.out)
    generalize (w.alloc (.cells #[.int .i64 k, .int .i64 n, .string s, .slice A1 l1.length c1] 57)).drewN nd = Wb at HBy HG1 ⊢
    have q0 : Wb.cell? ⟨w.heap.size, 0, none⟩ = some (.int .i64 k) := (blk_cell HG1.out 0).trans rfl
    have q1 : Wb.cell? ⟨w.heap.size, 1, none⟩ = some (.int .i64 n) := (blk_cell HG1.out 1).trans rfl
    have q2 : Wb.cell? ⟨w.heap.size, 2, none⟩ = some (.string s) := (blk_cell HG1.out 2).trans rfl
    have q3 : Wb.cell? ⟨w.heap.size, 3, none⟩ = some (.slice A1 l1.length c1) := (blk_cell HG1.out 3).trans rfl
    go_wp2_with (fail)
    refine (H.armillaryref00_Bring.calls n 9007199254740992 nn _ HBn.out).mono ?_
    rintro e w' ⟨rfl, ⟨nd2, rfl⟩⟩
    have HBx := Aside0.mk (pw_below_drewN HBy.out nd2)
    go_wp2_with (fail)
    refine (B1.num_own A0 c0 l0 nn _ (Kd.C_below HR0.out HBx.out) HC0.out (by have := HX.out; omega)).mono ?_
    rintro e w2 ⟨v, rfl, hr, hb⟩
    have HO := Aside0.mk hr
    have HBz := Aside0.mk (HBx.out.trans (hb.mono HBx.out.size))
    clear hr hb
    go_wp2_with (fail)
    go_ret2
    exact ⟨v, by rw [HP.out]; rfl, by rw [HP.out]; exact Kd.R_lower HO.out HBx.out.size, HBz.out⟩
  · have HP : Aside0 (putP l0 ⟨k, n, s, l1⟩ = let_ l0 (cut300 s)) := ⟨by unfold putP; rw [if_neg (by rw [HKk.out]; decide), if_pos HKk.out]⟩
    obtain ⟨js, hjs⟩ : ∃ j_ : Int, (mn (s.size : Int) 300) = j_ := ⟨_, rfl⟩
    have b1 : 0 ≤ js := by rw [← hjs]; unfold mn; (repeat' split) <;> omega
    have b2 : js ≤ (s.size : Int) := by rw [← hjs]; unfold mn; (repeat' split) <;> omega
    have hjs_ : (if 300 < (s.size : Int) then 300 else (s.size : Int)) = js := hjs
    have d1 : decide (0 ≤ js) = true := decide_eq_true b1
    have d2 : decide (js ≤ (s.size : Int)) = true := decide_eq_true b2
    have HS := Aside0.mk (show s.extract 0 js.toNat = cut300 s by unfold cut300; rw [hjs])
    clear b1 b2
    go_wp2_with (fail)
    refine (H.armillaryref00_Bring.calls k 4 _ _ HBk.out).mono ?_
    rintro e w' ⟨rfl, ⟨nd, rfl⟩⟩
    have HBy := Aside0.mk (pw_below_drewN HB0.out nd)
    have HG1 := Aside0.mk (show ((w.alloc (.cells #[.int .i64 k, .int .i64 n, .string s, .slice A1 l1.length c1] 57)).drewN nd).heap[w.heap.size]? = _ from HG0.out)
    generalize (w.alloc (.cells #[.int .i64 k, .int .i64 n, .string s, .slice A1 l1.length c1] 57)).drewN nd = Wb at HBy HG1 ⊢
    have q0 : Wb.cell? ⟨w.heap.size, 0, none⟩ = some (.int .i64 k) := (blk_cell HG1.out 0).trans rfl
    have q1 : Wb.cell? ⟨w.heap.size, 1, none⟩ = some (.int .i64 n) := (blk_cell HG1.out 1).trans rfl
    have q2 : Wb.cell? ⟨w.heap.size, 2, none⟩ = some (.string s) := (blk_cell HG1.out 2).trans rfl
    have q3 : Wb.cell? ⟨w.heap.size, 3, none⟩ = some (.slice A1 l1.length c1) := (blk_cell HG1.out 3).trans rfl
    go_wp2_with (fail)
    rw [HS.out]
    refine (wire_Text.calls A0 c0 l0 (cut300 s) (let_ l0 (cut300 s)).1 (let_ l0 (cut300 s)).2 _ (Kd.C_below HR0.out HBy.out) HC0.out (if_pos (by have := HX.out; omega))).mono ?_
    rintro e w2 ⟨v, rfl, hr, hb⟩
    have HO := Aside0.mk hr
    have HBz := Aside0.mk (HBy.out.trans (hb.mono HBy.out.size))
    clear hr hb
    go_wp2_with (fail)
    go_ret2
    exact ⟨v, by rw [HP.out]; rfl, by rw [HP.out]; exact Kd.R_lower HO.out HBy.out.size, HBz.out⟩
  · have HP : Aside0 (putP l0 ⟨k, n, s, l1⟩ = listW dig (l0 ++ WireP.enc (numsP l1).length) (numsP l1)) := ⟨by unfold putP; rw [if_neg (by rw [HKk.out]; decide), if_neg (by rw [HKk.out]; decide), if_pos HKk.out]⟩
    go_wp2_with (fail)
    refine (H.armillaryref00_Bring.calls k 4 _ _ HBk.out).mono ?_
    rintro e w' ⟨rfl, ⟨nd, rfl⟩⟩
    have HBy := Aside0.mk (pw_below_drewN HB0.out nd)
    have HG1 := Aside0.mk (show ((w.alloc (.cells #[.int .i64 k, .int .i64 n, .string s, .slice A1 l1.length c1] 57)).drewN nd).heap[w.heap.size]? = _ from HG0.out)
    generalize (w.alloc (.cells #[.int .i64 k, .int .i64 n, .string s, .slice A1 l1.length c1] 57)).drewN nd = Wb at HBy HG1 ⊢
    have q0 : Wb.cell? ⟨w.heap.size, 0, none⟩ = some (.int .i64 k) := (blk_cell HG1.out 0).trans rfl
    have q1 : Wb.cell? ⟨w.heap.size, 1, none⟩ = some (.int .i64 n) := (blk_cell HG1.out 1).trans rfl
    have q2 : Wb.cell? ⟨w.heap.size, 2, none⟩ = some (.string s) := (blk_cell HG1.out 2).trans rfl
    have q3 : Wb.cell? ⟨w.heap.size, 3, none⟩ = some (.slice A1 l1.length c1) := (blk_cell HG1.out 3).trans rfl
    have HNn2 := Aside0.mk (show (numsP l1).length ≤ 20 by unfold numsP; simp only [List.length_map, List.length_take]; omega)
    go_wp2_with (fail)
    refine (H.armillarylaw01_numbered.calls 21 A1 c1 l1 (numsP l1) _ (Kd.C_below HR1.out HBy.out) HC1.out HNl.out).mono ?_
    rintro e w1 ⟨v1, rfl, hr, hb⟩
    obtain ⟨A3, c3, rfl⟩ := Kd.R_slice hr
    have HO1 := Aside0.mk hr
    have HBx := Aside0.mk (HBy.out.trans (hb.mono HBy.out.size))
    clear hr hb
    go_wp2_with (fail)
    refine (wire_Nums.calls A0 c0 l0 A3 c3 (numsP l1) (listW dig (l0 ++ WireP.enc (numsP l1).length) (numsP l1)).1 (listW dig (l0 ++ WireP.enc (numsP l1).length) (numsP l1)).2 _ (Kd.C_below HR0.out HBx.out) HC0.out (Kd.R_reads' HO1.out).2.2 (Kd.R_reads' HO1.out).2.1 (by unfold wire_Nums.f; rw [if_pos HX.out, if_pos (by have := HNn2.out; omega)])).mono ?_
    rintro e w2 ⟨v, rfl, hr, hb⟩
    have HO := Aside0.mk hr
    have HBz := Aside0.mk (HBx.out.trans (hb.mono HBx.out.size))
    clear hr hb
    go_wp2_with (fail)
    go_ret2
    exact ⟨v, by rw [HP.out]; rfl, by rw [HP.out]; exact Kd.R_lower HO.out HBx.out.size, HBz.out⟩
  · have HP : Aside0 (putP l0 ⟨k, n, s, l1⟩ = listW let_ (l0 ++ WireP.enc (textsP s l1).length) (textsP s l1)) := ⟨by unfold putP; rw [if_neg (by rw [HKk.out]; decide), if_neg (by rw [HKk.out]; decide), if_neg (by rw [HKk.out]; decide)]⟩
    go_wp2_with (fail)
    refine (H.armillaryref00_Bring.calls k 4 _ _ HBk.out).mono ?_
    rintro e w' ⟨rfl, ⟨nd, rfl⟩⟩
    have HBy := Aside0.mk (pw_below_drewN HB0.out nd)
    have HG1 := Aside0.mk (show ((w.alloc (.cells #[.int .i64 k, .int .i64 n, .string s, .slice A1 l1.length c1] 57)).drewN nd).heap[w.heap.size]? = _ from HG0.out)
    generalize (w.alloc (.cells #[.int .i64 k, .int .i64 n, .string s, .slice A1 l1.length c1] 57)).drewN nd = Wb at HBy HG1 ⊢
    have q0 : Wb.cell? ⟨w.heap.size, 0, none⟩ = some (.int .i64 k) := (blk_cell HG1.out 0).trans rfl
    have q1 : Wb.cell? ⟨w.heap.size, 1, none⟩ = some (.int .i64 n) := (blk_cell HG1.out 1).trans rfl
    have q2 : Wb.cell? ⟨w.heap.size, 2, none⟩ = some (.string s) := (blk_cell HG1.out 2).trans rfl
    have q3 : Wb.cell? ⟨w.heap.size, 3, none⟩ = some (.slice A1 l1.length c1) := (blk_cell HG1.out 3).trans rfl
    have HNn2 := Aside0.mk (show (textsP s l1).length ≤ 8 by unfold textsP; simp only [List.length_map, List.length_take]; omega)
    go_wp2_with (fail)
    refine (texts_own k n s A1 c1 l1 _ (Kd.C_below HR1.out HBy.out) HC1.out).mono ?_
    rintro e w1 ⟨v1, rfl, hr, hb⟩
    obtain ⟨A3, c3, rfl⟩ := Kd.R_slice hr
    have HO1 := Aside0.mk hr
    have HBx := Aside0.mk (HBy.out.trans (hb.mono HBy.out.size))
    clear hr hb
    go_wp2_with (fail)
    refine (wire_Texts.calls A0 c0 l0 A3 c3 (textsP s l1) (listW let_ (l0 ++ WireP.enc (textsP s l1).length) (textsP s l1)).1 (listW let_ (l0 ++ WireP.enc (textsP s l1).length) (textsP s l1)).2 _ (Kd.C_below HR0.out HBx.out) HC0.out (Kd.R_reads' HO1.out).2.2 (Kd.R_reads' HO1.out).2.1 (by unfold wire_Texts.f; rw [if_pos HX.out, if_pos (by have := HNn2.out; omega)])).mono ?_
    rintro e w2 ⟨v, rfl, hr, hb⟩
    have HO := Aside0.mk hr
    have HBz := Aside0.mk (HBx.out.trans (hb.mono HBx.out.size))
    clear hr hb
    go_wp2_with (fail)
    go_ret2
    exact ⟨v, by rw [HP.out]; rfl, by rw [HP.out]; exact Kd.R_lower HO.out HBx.out.size, HBz.out⟩
end Go.Proofs.Ytcpnjlagmnlecaa.C2
