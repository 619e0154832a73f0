/- texts of a row. -/
import Derived.Test.YtcpnjlagmnlecaaProg
import Derived.Below
import Derived.Deep.Draws
import Derived.Deep.AppendLies
import Derived.Maps.AppendAt
import Derived.OwnWalk
import Derived.Laws.BytesArg
import Derived.Laws.MakeOwn
import Derived.Laws.OwnMore
import Derived.Deep.OwnRows
import Derived.Tactics
import Derived.Lib.ConvBytes
import Derived.Laws.Slices
import Derived.WalkKit
import Derived.KernelRfl
import Derived.RowKit3
import Derived.Deep.LoopGhost
import Derived.Deep.QuietTactic
import Derived.BigQuiet
import Derived.WideLaws
import Derived.Deep.DeepCutAuto
import Derived.Deep.CutBlock
import Derived.Deep.RegionHeld3
import Derived.Laws.Rows
import Derived.Lib.AppendStr
import Derived.ArgAppend
import Derived.Laws.IdiomCopy
import Derived.OrdersHeld
import Derived.Laws.BitsLemmas
import Derived.RowKit
import Derived.WalkSpells
import Derived.Laws.CopyOwn
import Derived.Test.YtcpnjlagmnlecaaWWords
import Derived.Test.YtcpnjlagmnlecaaWLast
import Derived.Test.YtcpnjlagmnlecaaWMore
import Derived.Test.YtcpnjlagmnlecaaB3
import Derived.Test.YtcpnjlagmnlecaaB6
namespace Go.Proofs.Ytcpnjlagmnlecaa.C1
open Go.RowKit Go.Proofs.YtcpnjlagmnlecaaW.PrintWords Go.Proofs.YtcpnjlagmnlecaaW.PrintLast Go.Proofs.YtcpnjlagmnlecaaW.PrintMore Go.Proofs.Ytcpnjlagmnlecaa Go.Proofs.Ytcpnjlagmnlecaa.A2 Go.Proofs.Ytcpnjlagmnlecaa.A3 Go.Proofs.Ytcpnjlagmnlecaa.A8 Go.Proofs.Ytcpnjlagmnlecaa.A9
set_option linter.unusedVariables false
set_option linter.unusedSimpArgs false
def bringI (a n : Int) : Int := (H.armillaryref00_Bring.f a n).getD 0
theorem bring_f (a n : Int) (h0 : 0 < n) (h1 : n ≤ 9223372036854775807) : H.armillaryref00_Bring.f a n = some (bringI a n) ∧ 0 ≤ bringI a n ∧ bringI a n < n := by
  obtain ⟨r, hr, h2, h3⟩ := B3.bring_some a n h0 h1
  have e : bringI a n = r := by unfold bringI; rw [hr]; rfl
  rw [e]
  exact ⟨hr, h2, h3⟩
def cut60 (s : ByteArray) : ByteArray := s.extract 0 (mn (s.size : Int) 60).toNat
def textOf (s : ByteArray) (x : Int) : ByteArray := s.extract 0 (bringI x ((s.size : Int) + 1)).toNat
def textsP (s : ByteArray) (l : List Int) : List ByteArray := (l.take 8).map (textOf (cut60 s))
theorem textsP_step {s : ByteArray} {l : List Int} {k : Nat} (h : k < l.length) (h8 : k < 8) : ((l.take 8).take (k + 1)).map (textOf s) = ((l.take 8).take k).map (textOf s) ++ [textOf s (rd l k)] := by
  have e : rd l (k : Int) = l[k] := by
    show l.getD k 0 = _
    rw [List.getD_eq_getElem?_getD, List.getElem?_eq_getElem h]; rfl
  rw [e, List.take_add_one, List.map_append]
  congr 1
  rw [List.getElem?_take, if_pos h8, List.getElem?_eq_getElem h]
  rfl
theorem cut60_size (s : ByteArray) : (cut60 s).size ≤ 60 := by
  unfold cut60
  rw [ByteArray.size_extract]
  unfold mn
  split <;> omega
set_option maxHeartbeats 8000000 in
set_option maxRecDepth 100000 in
theorem texts_own (k n : Int) (s : ByteArray) (A1 : Option Addr) (c1 : Nat) (l1 : List Int) (w : World) (hr1 : Kd.C (Kd.int .i64) w A1 l1.length l1) (hc1 : l1.length ≤ c1) :
    Calls Try.prog 61 #[.agg #[.int .i64 k, .int .i64 n, .string s, .slice A1 l1.length c1]] w fun e w' => ∃ v0_ : Value, e = .returned v0_ ∧ Kd.R Kd.string 9 w' w.heap.size (fun _ => True) v0_ (textsP s l1) ∧ Below w.heap.size w w' := by
  have HR1 := Aside0.mk hr1
  have HC1 := Aside0.mk hc1
  clear hr1 hc1
  obtain ⟨js, hjs⟩ : ∃ j_ : Int, (mn (s.size : Int) 60) = j_ := ⟨_, rfl⟩
  have b1 : 0 ≤ js := by rw [← hjs]; unfold mn; (repeat' split) <;> omega
  have b2 : js ≤ (s.size : Int) := by rw [← hjs]; unfold mn; (repeat' split) <;> omega
  have hjs_ : (if 60 < (s.size : Int) then 60 else (s.size : Int)) = js := hjs
  have d1 : decide (0 ≤ js) = true := decide_eq_true b1
  have d2 : decide (js ≤ (s.size : Int)) = true := decide_eq_true b2
  have hs : s.extract 0 js.toNat = cut60 s := by unfold cut60; rw [hjs]
  have HS := Aside0.mk hs
  clear hs b1 b2
  have hG0 := heap_alloc_new w (.cells #[.int .i64 k, .int .i64 n, .string s, .slice A1 l1.length c1] 57)
  have hB0 := below_alloc (Below.refl w.heap.size w) (.cells #[.int .i64 k, .int .i64 n, .string s, .slice A1 l1.length c1] 57)
  have HG0 := Aside0.mk hG0
  have HB0 := Aside0.mk hB0
  clear hG0 hB0
  go_enter Try.func61, Try.ntmps61
  go_wp2
  rw [HS.out]
  obtain ⟨q, hq⟩ : ∃ q, q = cut60 s := ⟨_, rfl⟩
  rw [← hq]
  have HQ := Aside0.mk hq
  have HQs := Aside0.mk (show q.size ≤ 60 by rw [hq]; exact cut60_size s)
  clear hq d1 d2 hjs hjs_ HS
  generalize w.alloc (.cells #[.int .i64 k, .int .i64 n, .string s, .slice A1 l1.length c1] 57) = Wa at HG0 HB0 ⊢
  obtain ⟨G, hGe⟩ : ∃ G, G = w.heap.size := ⟨_, rfl⟩
  rw [← hGe] at HG0 ⊢
  have HGl := Aside0.mk (blk_lt HG0.out)
  have HGe := Aside0.mk hGe
  clear hGe
  go_loopw [3, 5] (fun v3 v5 wr => ∃ (j : Nat), j ≤ 8 ∧ v5 = .int .i64 j ∧ Aside0 (Kd.R Kd.string 9 wr Wa.heap.size (fun _ => True) v3 (((l1.take 8).take j).map (textOf q))) ∧ Aside0 (Below Wa.heap.size Wa wr)) (fun _ v5 _ => 9 - (intOf v5).toNat)
  case atStart => exact ⟨0, by omega, rfl, ⟨Kd.R_nil _ _ _ _ _⟩, ⟨Below.refl _ _⟩⟩
  case round =>
    obtain ⟨j, hj, rfl, HO, HB⟩ := hrel
    have HBw := Aside0.mk (HB0.out.trans (HB.out.mono HB0.out.size))
    have hG3 : wr.cell? ⟨G, 3, none⟩ = some (.slice A1 l1.length c1) := (blk_cell ((HB.out.block G HGl.out).trans HG0.out) 3).trans rfl
    by_cases h1 : j < l1.length
    · by_cases h2 : j < 8
      · obtain ⟨ad, ea, hx⟩ := Kd.at_int HR1.out j (by omega) (by omega)
        cases ea
        have hx2 : wr.cell? (ad.add j) = some (.int .i64 (rd l1 j)) := (HBw.out.cell (World.block_lt_of_cell? w _ hx)).trans hx
        have hst := textsP_step (s := q) h1 h2
        obtain ⟨x, hxe⟩ : ∃ x, x = rd l1 (j : Int) := ⟨_, rfl⟩
        rw [← hxe] at hst hx2
        obtain ⟨m, hm⟩ : ∃ m, wrap64 ((q.size : Int) + 1) = m := ⟨_, rfl⟩
        have hme : m = (q.size : Int) + 1 := by rw [← hm]; have := HQs.out; unfold wrap64; omega
        have hb := bring_f x m (by omega) (by have := HQs.out; omega)
        obtain ⟨r, hr⟩ : ∃ r, r = bringI x m := ⟨_, rfl⟩
        rw [← hr] at hb
        have hT : textOf q x = q.extract 0 r.toNat := by unfold textOf; rw [hr, hme]
        rw [hT] at hst
        have HBr := Aside0.mk hb.1
        have r1 : decide (0 ≤ r) = true := decide_eq_true hb.2.1
        have r2 : decide (r ≤ (q.size : Int)) = true := decide_eq_true (by omega)
        have r1e := eq_true hb.2.1
        have r2e := eq_true (show r ≤ (q.size : Int) by omega)
        have HST := Aside0.mk hst
        have HLn := Aside0.mk (show (((l1.take 8).take j).map (textOf q)).length ≤ 8 by simp only [List.length_map, List.length_take]; omega)
        clear hst hxe hme hb hr hT hx
        generalize ((l1.take 8).take j).map (textOf q) = out at HO HST HLn
        obtain ⟨out2, ho2⟩ : ∃ o, o = ((l1.take 8).take (j + 1)).map (textOf q) := ⟨_, rfl⟩
        rw [← ho2] at HST
        have HE2 := Aside0.mk ho2
        clear ho2
        go_wp2_with (first | (go_at_call 15; refine (H.armillaryref00_Bring.calls x m r wr HBr.out).mono ?_; rintro e w' ⟨rfl, ⟨nd, rfl⟩⟩) | (at_builtin; refine Kd.R_append Kd.string (w0 := Wa) Wa.heap.size rfl (.tmp 24) (.tmp 36) 32 9 (.string ⟨#[]⟩) 16 rfl Try.underlying32 A6.info9 rfl (by decide) (by omega) u3 out (q.extract 0 r.toNat) [.string (q.extract 0 r.toNat)] (fun _ => True) (fun _ => False) rfl rfl ?aP (fun _ hk => hk.elim) ?aF ?aO ?aB ?aS ?aL ?_; (case aP => exact rfl); (case aB => exact pw_below_drewN HB.out nd); (case aF => exact (fun _ _ => trivial)); (case aO => exact Kd.R_drewN HO.out nd); (case aS => exact (pw_below_drewN HB.out nd).size); (case aL => have := HLn.out; omega); intro v1 w3 ho hb hg hat; rw [← HST.out] at ho; have HO3 := Aside0.mk ho; have HB3 := Aside0.mk hb; clear ho hb hg hat))
        go_roundw
        case rel => exact ⟨j + 1, by omega, by go_num, ⟨by rw [← HE2.out]; exact HO3.out⟩, HB3⟩
        case measure => simp [intOf]; omega
      · obtain rfl : j = 8 := by omega
        have HOe := Aside0.mk (show Kd.R Kd.string 9 wr Wa.heap.size (fun _ => True) u3 (textsP s l1) by have h_ := HO.out; rw [HQ.out, List.take_take, Nat.min_self] at h_; exact h_)
        go_wp2
        go_ret
        exact ⟨_, rfl, Kd.R_lower HOe.out HB0.out.size, HBw.out⟩
    · have HOe := Aside0.mk (show Kd.R Kd.string 9 wr Wa.heap.size (fun _ => True) u3 (textsP s l1) by have h_ := HO.out; rw [HQ.out, List.take_of_length_le (by rw [List.length_take]; omega)] at h_; exact h_)
      by_cases h2 : j < 8
      · go_wp2
        go_ret
        exact ⟨_, rfl, Kd.R_lower HOe.out HB0.out.size, HBw.out⟩
      · obtain rfl : j = 8 := by omega
        go_wp2
        go_ret
        exact ⟨_, rfl, Kd.R_lower HOe.out HB0.out.size, HBw.out⟩
end Go.Proofs.Ytcpnjlagmnlecaa.C1
