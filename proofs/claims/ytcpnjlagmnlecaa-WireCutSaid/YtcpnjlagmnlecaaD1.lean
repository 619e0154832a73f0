/- Things that are cut: the plain law. -/
import Derived.Test.YtcpnjlagmnlecaaProg
import Derived.Below
import Derived.Deep.Draws
import Derived.Deep.AppendLies
import Derived.Maps.AppendAt
import Derived.OwnWalk
import Derived.Laws.BytesArg
import Derived.Laws.MakeOwn
import Derived.Laws.OwnMore
import Derived.Deep.OwnRows
import Derived.Tactics
import Derived.Lib.ConvBytes
import Derived.Laws.Slices
import Derived.WalkKit
import Derived.KernelRfl
import Derived.RowKit3
import Derived.Deep.LoopGhost
import Derived.Deep.QuietTactic
import Derived.BigQuiet
import Derived.WideLaws
import Derived.Deep.DeepCutAuto
import Derived.Deep.CutBlock
import Derived.Deep.RegionHeld3
import Derived.Laws.Rows
import Derived.Lib.AppendStr
import Derived.ArgAppend
import Derived.Laws.IdiomCopy
import Derived.OrdersHeld
import Derived.Laws.BitsLemmas
import Derived.RowKit
import Derived.WalkSpells
import Derived.Laws.CopyOwn
import Derived.Test.YtcpnjlagmnlecaaWWords
import Derived.Test.YtcpnjlagmnlecaaWLast
import Derived.Test.YtcpnjlagmnlecaaWMore
import Derived.Test.YtcpnjlagmnlecaaC6
namespace Go.Proofs.Ytcpnjlagmnlecaa.D1
open Go.RowKit Go.Proofs.YtcpnjlagmnlecaaW.PrintWords Go.Proofs.YtcpnjlagmnlecaaW.PrintLast Go.Proofs.YtcpnjlagmnlecaaW.PrintMore Go.Proofs.Ytcpnjlagmnlecaa Go.Proofs.Ytcpnjlagmnlecaa.A2 Go.Proofs.Ytcpnjlagmnlecaa.A3 Go.Proofs.Ytcpnjlagmnlecaa.A4 Go.Proofs.Ytcpnjlagmnlecaa.A5 Go.Proofs.Ytcpnjlagmnlecaa.A6 Go.Proofs.Ytcpnjlagmnlecaa.A8 Go.Proofs.Ytcpnjlagmnlecaa.A9 Go.Proofs.Ytcpnjlagmnlecaa.C1 Go.Proofs.Ytcpnjlagmnlecaa.C2 Go.Proofs.Ytcpnjlagmnlecaa.C3 Go.Proofs.Ytcpnjlagmnlecaa.C4 Go.Proofs.Ytcpnjlagmnlecaa.C6
set_option linter.unusedVariables false
set_option linter.unusedSimpArgs false
theorem num_st (bb : List Int) : WireP.num (bb, 3) = (0, bb, 3) := rfl
theorem many_st (bb : List Int) (most : Int) (h : 0 ≤ most) : WireP.many most (bb, 3) = (0, bb, 3) := by
  rw [many_eq, num_st]
  exact if_neg (by simpa using h)
theorem text_st (bb : List Int) : textS (bb, 3) = (⟨#[]⟩, bb, 3) := by
  unfold textS WireP.text
  rw [many_st bb 65536 (by omega)]
  rfl
theorem list_st {α : Type} (one : List Int × Int → α × List Int × Int) (bb : List Int) : WireP.list one (bb, 3) = ([], bb, 3) := by
  rw [list_eq, many_st bb 8000 (by omega)]
  rfl
theorem got_st (x : H.S57) (bb : List Int) : gotS x (bb, 3) = (bb, 3) := by
  unfold gotS
  rw [num_st, text_st, list_st, list_st]
  split
  · rfl
  split
  · rfl
  split <;> rfl
theorem num_ct (n : Nat) (hn : n < 9007199254740992) (j : Nat) (h : j < (WireP.enc n).length) : WireP.num ((WireP.enc n).take j, 0) = (0, [], 3) := by
  show WireP.rdn 0 1 0 ((WireP.enc n).take j) = _
  exact WireP.rdn_cut n 0 1 0 j (by omega) (fun h => absurd h (by omega)) (by omega) h
theorem many_ct (n : Nat) (hn : n < 9007199254740992) (most : Int) (hm : 0 ≤ most) (j : Nat) (h : j < (WireP.enc n).length) : WireP.many most ((WireP.enc n).take j, 0) = (0, [], 3) := by
  rw [many_eq, num_ct n hn j h]
  exact if_neg (by simpa using hm)
theorem text_ct (s : ByteArray) (hs : s.size ≤ 65536) (j : Nat) (h : j < (wrText s).length) : (textS ((wrText s).take j, 0)).2.2 = 3 := by
  have hb := bytesOf_length s
  unfold wrText at h ⊢
  rw [List.length_append] at h
  unfold textS WireP.text
  by_cases hj : j < (WireP.enc s.size).length
  · rw [List.take_append_of_le_length (by omega), many_ct s.size (by omega) 65536 (by omega) j hj]
    rfl
  · have e : (WireP.enc s.size ++ bytesOf s).take j = WireP.enc s.size ++ (bytesOf s).take (j - (WireP.enc s.size).length) := by
      rw [List.take_append]
      rw [List.take_of_length_le (by omega)]
    rw [e, many_enc s.size 65536 (by omega) (by omega)]
    simp only
    rw [if_neg (by simp), if_pos (by simp only [List.length_take]; omega)]
theorem elems_ct {α : Type} {one : List Int × Int → α × List Int × Int} {wr : α → List Int} (l : List α) (h : ∀ x ∈ l, ∀ t, one (wr x ++ t, 0) = (x, t, 0)) (hc : ∀ x ∈ l, ∀ j, j < (wr x).length → (one ((wr x).take j, 0)).2.2 = 3) : ∀ (j : Nat) (out : List α), j < (l.flatMap wr).length → (WireP.elems one l.length ((l.flatMap wr).take j, 0) out).2.2 = 3 := by
  induction l with
  | nil => intro j out hj; simp at hj
  | cons x l ih =>
    intro j out hj
    rw [List.flatMap_cons, List.length_append] at hj
    rw [List.flatMap_cons, List.length_cons, elems_succ]
    by_cases hx : j < (wr x).length
    · rw [List.take_append_of_le_length (by omega)]
      have := hc x (by simp) j hx
      rw [if_pos (by rw [this]; decide)]
      exact this
    · have e : (wr x ++ l.flatMap wr).take j = wr x ++ (l.flatMap wr).take (j - (wr x).length) := by
        rw [List.take_append]
        rw [List.take_of_length_le (by omega)]
      rw [e, h x (by simp)]
      simp only
      rw [if_neg (by simp)]
      exact ih (fun y hy => h y (by simp [hy])) (fun y hy => hc y (by simp [hy])) _ _ (by omega)
theorem list_ct {α : Type} {one : List Int × Int → α × List Int × Int} {wr : α → List Int} (l : List α) (hl : l.length ≤ 8000) (h : ∀ x ∈ l, ∀ t, one (wr x ++ t, 0) = (x, t, 0)) (hc : ∀ x ∈ l, ∀ j, j < (wr x).length → (one ((wr x).take j, 0)).2.2 = 3) (j : Nat) (hj : j < (WireP.enc l.length ++ l.flatMap wr).length) : (WireP.list one ((WireP.enc l.length ++ l.flatMap wr).take j, 0)).2.2 = 3 := by
  rw [List.length_append] at hj
  rw [list_eq]
  by_cases hx : j < (WireP.enc l.length).length
  · rw [List.take_append_of_le_length (by omega), many_ct l.length (by omega) 8000 (by omega) j hx]
    rfl
  · have e : (WireP.enc l.length ++ l.flatMap wr).take j = WireP.enc l.length ++ (l.flatMap wr).take (j - (WireP.enc l.length).length) := by
      rw [List.take_append]
      rw [List.take_of_length_le (by omega)]
    rw [e, many_enc _ _ (by omega) (by omega)]
    simp only [Int.toNat_natCast]
    exact elems_ct l h hc _ _ (by omega)
theorem got_ct (x : H.S57) (j : Nat) (hj : j < (thing x).length) : (gotS x ((thing x).take j, 0)).2 = 3 := by
  have hn := bring_f x.f1 9007199254740992 (by omega) (by omega)
  unfold gotS
  unfold thing at hj ⊢
  by_cases h0 : kindOf x.f0 = 0
  · simp only [if_pos h0] at hj ⊢
    unfold wrNum at hj ⊢
    rw [num_ct _ (by omega) j hj]
  · simp only [if_neg h0] at hj ⊢
    by_cases h1 : kindOf x.f0 = 1
    · simp only [if_pos h1] at hj ⊢
      exact text_ct _ (by have := cut300_size x.f2; omega) j hj
    · simp only [if_neg h1] at hj ⊢
      by_cases h2 : kindOf x.f0 = 2
      · simp only [if_pos h2] at hj ⊢
        refine list_ct (wr := wrNum) _ (by have := (numsP_ok x.f3).1; omega) (fun y hy t => num_ok y ((numsP_ok x.f3).2 y hy).1 ((numsP_ok x.f3).2 y hy).2 t) (fun y hy j hj => ?_) j hj
        have := (numsP_ok x.f3).2 y hy
        unfold wrNum at hj ⊢
        rw [num_ct _ (by omega) j hj]
      · simp only [if_neg h2] at hj ⊢
        exact list_ct (wr := wrText) _ (by have := (textsP_ok x.f2 x.f3).1; omega) (fun y hy t => textS_ok y ((textsP_ok x.f2 x.f3).2 y hy) t) (fun y hy j hj => text_ct y ((textsP_ok x.f2 x.f3).2 y hy) j hj) j hj
theorem pre_mono (l : List H.S57) (k : Nat) (h : k < l.length) : (pre l k).length < (pre l (k + 1)).length := by
  rw [pre_succ l k h, List.length_append]
  have := thing_ne (H.rd_T57 l k)
  omega
theorem pre_rest (l : List H.S57) (m k : Nat) (hk : k ≤ m) : pre l m = pre l k ++ rest l m k := by
  unfold pre rest
  rw [← List.flatMap_append]
  congr 1
  have : l.take k = (l.take m).take k := by rw [List.take_take, Nat.min_eq_left hk]
  rw [this, List.take_append_drop]
/-- What is left of the first k bytes behind i things. -/
def cutAt (l : List H.S57) (m k i : Nat) : List Int := (rest l m i).take (k - (pre l i).length)
theorem cut_zero (l : List H.S57) (m k : Nat) : cutAt l m k 0 = (pre l m).take k := rfl
theorem cut_whole (l : List H.S57) (m k i : Nat) (hi : i < m) (hm : m ≤ l.length) (h : (pre l (i + 1)).length ≤ k) : cutAt l m k i = thing (H.rd_T57 l i) ++ cutAt l m k (i + 1) := by
  have hp := pre_succ l i (by omega)
  have hl : (pre l (i + 1)).length = (pre l i).length + (thing (H.rd_T57 l i)).length := by rw [hp, List.length_append]
  unfold cutAt
  rw [rest_succ l m i hi hm, List.take_append, List.take_of_length_le (by omega)]
  congr 2
  omega
theorem cut_part (l : List H.S57) (m k i : Nat) (hi : i < m) (hm : m ≤ l.length) (h0 : (pre l i).length ≤ k) (h : k < (pre l (i + 1)).length) : ∃ j, j < (thing (H.rd_T57 l i)).length ∧ cutAt l m k i = (thing (H.rd_T57 l i)).take j := by
  have hp := pre_succ l i (by omega)
  have hl : (pre l (i + 1)).length = (pre l i).length + (thing (H.rd_T57 l i)).length := by rw [hp, List.length_append]
  refine ⟨k - (pre l i).length, by omega, ?_⟩
  unfold cutAt
  rw [rest_succ l m i hi hm, List.take_append_of_le_length (by omega)]
def endsOf (l : List H.S57) (m : Nat) : List Int := (List.range m).map (fun j => ((pre l (j + 1)).length : Int))
theorem ends_succ (l : List H.S57) (m : Nat) : endsOf l (m + 1) = endsOf l m ++ [((pre l (m + 1)).length : Int)] := by
  unfold endsOf
  rw [List.range_succ, List.map_append]; rfl
theorem ends_len (l : List H.S57) (m : Nat) : (endsOf l m).length = m := by unfold endsOf; simp
theorem ends_at (l : List H.S57) (m i : Nat) (h : i < m) : rd (endsOf l m) (i : Int) = ((pre l (i + 1)).length : Int) := by
  show (endsOf l m).getD i 0 = _
  unfold endsOf
  rw [List.getD_eq_getElem?_getD, List.getElem?_map, List.getElem?_range h]; rfl
end Go.Proofs.Ytcpnjlagmnlecaa.D1
