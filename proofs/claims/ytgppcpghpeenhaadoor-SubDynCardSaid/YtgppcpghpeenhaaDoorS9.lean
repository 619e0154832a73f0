/- of, asked, May, Strict, Pick. -/
import Derived.Test.YtgppcpghpeenhaaDoorProg
import Derived.Test.YtgppcpghpeenhaaDoorWWords
import Derived.Test.YtgppcpghpeenhaaDoorWLast
import Derived.Test.YtgppcpghpeenhaaDoorS8
namespace Go.Proofs.YtgppcpghpeenhaaDoor.S9
open Go.RowKit Go.Proofs.YtgppcpghpeenhaaDoorW.PrintWords Go.Proofs.YtgppcpghpeenhaaDoorW.PrintLast Go.Proofs.YtgppcpghpeenhaaDoorW.PrintMore Go.Proofs.YtgppcpghpeenhaaDoor L1 L3 L4 G1 G2 S0 S1 S2 S3 S4 S5 S6 S7 S8
set_option linter.unusedVariables false
set_option linter.unusedSimpArgs false
theorem outs2_yes (gb n : Nat) (A0 : Option Addr) (c0 : Nat) (A : Option Addr) (c : Nat) (l : List Int) (w : World) (h : w.cell? ⟨gb, 0, none⟩ = some (.slice A0 n c0)) (hr : Kd.C (Kd.int .i64) w A l.length l) (hc : l.length ≤ c) :
    Calls Tryd.prog 25 #[.slice A l.length c, .func (.func 26) #[] #[.pointer (some ⟨gb, 0, none⟩)]] w fun e w' => e = .returned (.bool (l.any (outP n))) ∧ w = w' := by
  refine (of1_contains gb A c l w (fun i W => W = w ∧ (l.take i).any (outP n) = false) (fun W => W = w ∧ l.any (outP n) = true) (fun i W hW => by rw [hW.1]; exact hr) hc (fun i W hi hW => ?_) ⟨rfl, rfl⟩).mono ?_
  · obtain ⟨rfl, ha⟩ := hW
    have hx : rd l (i : Int) = l[i] := by
      show l.getD i 0 = _
      rw [List.getD_eq_getElem?_getD, List.getElem?_eq_getElem hi]; rfl
    rw [hx]
    have hs : (l.take (i + 1)).any (outP n) = outP n l[i] := by
      rw [List.take_add_one, List.any_append, ha, Bool.false_or, List.getElem?_eq_getElem hi]
      simp
    refine (out2_yes l[i] gb n A0 c0 W h).mono ?_
    rintro e w' ⟨rfl, rfl⟩
    cases ho : outP n l[i] with
    | true => exact .inl ⟨rfl, rfl, List.any_eq_true.2 ⟨l[i], List.getElem_mem hi, ho⟩⟩
    | false => exact .inr ⟨rfl, rfl, by rw [hs, ho]⟩
  · rintro e w' (⟨rfl, rfl, h1⟩ | ⟨rfl, rfl, h1⟩)
    · exact ⟨by rw [h1], rfl⟩
    · rw [List.take_length] at h1
      exact ⟨by rw [h1], rfl⟩
def ofP (g : List GN) (places : List Int) : Bool := decide (checkP g = 0) && !(places.any (outP g.length))
set_option maxHeartbeats 4000000 in
set_option maxRecDepth 100000 in
theorem of_yes (A0 : Option Addr) (c0 : Nat) (g : List GN) (st : Bool) (A2 : Option Addr) (c2 : Nat) (l : List Int) (w : World) (hK : Keys w) (hg : Kd.C P.k33 w A0 g.length g) (hgc : g.length ≤ c0) (hl : Kd.C (Kd.int .i64) w A2 l.length l) (hlc : l.length ≤ c2) :
    Calls Tryd.prog 13 #[.slice A0 g.length c0, .bool st, .slice A2 l.length c2] w fun e w' => Below w.heap.size w w' ∧
      ((ofP g l = true ∧ ∃ sb m, e = .returned (.tuple #[.pointer (some ⟨sb, 0, none⟩), .bool true]) ∧ Sv w w' sb m A0 c0 g st F2.none_) ∨ (ofP g l = false ∧ e = .returned (.tuple #[.pointer none, .bool false]))) := by
  have HK := Aside0.mk hK
  have HG := Aside0.mk hg
  have HGc := Aside0.mk hgc
  have HL := Aside0.mk hl
  have HLc := Aside0.mk hlc
  have hmm := @run_makeMap Tryd.prog
  have hblk := heap_alloc_new w (.cells #[.slice A0 g.length c0] 23)
  have q0 : (w.alloc (.cells #[.slice A0 g.length c0] 23)).cell? ⟨w.heap.size, 0, none⟩ = some (.slice A0 g.length c0) := (blk_cell hblk 0).trans rfl
  have HB1 := Aside0.mk (below_alloc (Below.refl w.heap.size w) (.cells #[.slice A0 g.length c0] 23))
  clear hK hg hgc hl hlc hblk
  go_enter Tryd.func13, Tryd.ntmps13
  go_wp2_with (fail)
  generalize w.alloc (.cells #[.slice A0 g.length c0] 23) = W1 at q0 HB1 ⊢
  refine (check_yes A0 c0 g W1 (HK.out.below HB1.out) (Kd.C_below HG.out HB1.out) HGc.out).mono ?_
  rintro e W2 ⟨rfl, hb⟩
  have HB2 := Aside0.mk (HB1.out.trans (hb.mono HB1.out.size))
  have q2 := pw_cell_below hb q0
  clear hb q0
  by_cases hc : checkP g = 0
  · have HC := Aside0.mk hc
    have hcb : (checkP g != 0) = false := by simp [hc]
    clear hc
    go_wp2_with (fail)
    refine (outs2_yes w.heap.size g.length A0 c0 A2 c2 l W2 q2 (Kd.C_below HL.out HB2.out) HLc.out).mono ?_
    cases ho : l.any (outP g.length) with
    | true =>
      rintro e w' ⟨rfl, rfl⟩
      have HF := Aside0.mk (show ofP g l = false by unfold ofP; rw [ho]; simp)
      clear ho
      go_wp2_with (fail)
      first | go_ret | go_ret2
      exact ⟨HB2.out, .inr ⟨HF.out, rfl⟩⟩
    | false =>
      rintro e w' ⟨rfl, rfl⟩
      have HF := Aside0.mk (show ofP g l = true by unfold ofP; rw [ho, decide_eq_true HC.out]; rfl)
      clear ho
      go_wp2_with (fail)
      first | go_ret | go_ret2
      have hN : g.length ≤ 2000 := (check_ok HC.out).1
      have hM := Mp.made W2 hN
      have hb1 := heap_alloc_new (W2.alloc (.map #[] 0)) (.cells #[.slice A0 g.length c0, .bool st, .map (some W2.heap.size)] 53)
      rw [World.size_alloc] at hb1
      have hold := below_alloc (below_alloc HB2.out (.map #[] 0)) (.cells #[.slice A0 g.length c0, .bool st, .map (some W2.heap.size)] 53)
      refine ⟨hold, .inl ⟨HF.out, W2.heap.size + 1, W2.heap.size, rfl, ⟨hold, HB2.out.size, by omega, (blk_cell hb1 0).trans rfl, (blk_cell hb1 1).trans rfl, (blk_cell hb1 2).trans rfl, hM.alloc _, HG.out, HGc.out, HC.out⟩⟩⟩
  · have hcb : (checkP g != 0) = true := by simp [hc]
    have HF := Aside0.mk (show ofP g l = false by unfold ofP; rw [decide_eq_false hc]; rfl)
    clear hc
    go_wp2_with (fail)
    first | go_ret | go_ret2
    exact ⟨HB2.out, .inr ⟨HF.out, rfl⟩⟩
end Go.Proofs.YtgppcpghpeenhaaDoor.S9
