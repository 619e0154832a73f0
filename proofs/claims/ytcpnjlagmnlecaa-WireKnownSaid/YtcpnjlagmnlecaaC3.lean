/- The plain law: a thing that is put is read back. -/
import Derived.Test.YtcpnjlagmnlecaaProg
import Derived.Below
import Derived.Deep.Draws
import Derived.Deep.AppendLies
import Derived.Maps.AppendAt
import Derived.OwnWalk
import Derived.Laws.BytesArg
import Derived.Laws.MakeOwn
import Derived.Laws.OwnMore
import Derived.Deep.OwnRows
import Derived.Tactics
import Derived.Lib.ConvBytes
import Derived.Laws.Slices
import Derived.WalkKit
import Derived.KernelRfl
import Derived.RowKit3
import Derived.Deep.LoopGhost
import Derived.Deep.QuietTactic
import Derived.BigQuiet
import Derived.WideLaws
import Derived.Deep.DeepCutAuto
import Derived.Deep.CutBlock
import Derived.Deep.RegionHeld3
import Derived.Laws.Rows
import Derived.Lib.AppendStr
import Derived.ArgAppend
import Derived.Laws.IdiomCopy
import Derived.OrdersHeld
import Derived.Laws.BitsLemmas
import Derived.RowKit
import Derived.WalkSpells
import Derived.Laws.CopyOwn
import Derived.Test.YtcpnjlagmnlecaaWWords
import Derived.Test.YtcpnjlagmnlecaaWLast
import Derived.Test.YtcpnjlagmnlecaaWMore
import Derived.Test.YtcpnjlagmnlecaaC2
import Derived.Test.YtcpnjlagmnlecaaA10
namespace Go.Proofs.Ytcpnjlagmnlecaa.C3
open Go.RowKit Go.Proofs.YtcpnjlagmnlecaaW.PrintWords Go.Proofs.YtcpnjlagmnlecaaW.PrintLast Go.Proofs.YtcpnjlagmnlecaaW.PrintMore Go.Proofs.Ytcpnjlagmnlecaa Go.Proofs.Ytcpnjlagmnlecaa.A6 Go.Proofs.Ytcpnjlagmnlecaa.A8 Go.Proofs.Ytcpnjlagmnlecaa.A9 Go.Proofs.Ytcpnjlagmnlecaa.A10 Go.Proofs.Ytcpnjlagmnlecaa.C1 Go.Proofs.Ytcpnjlagmnlecaa.C2
set_option linter.unusedVariables false
set_option linter.unusedSimpArgs false
theorem listW_ok {α : Type} {one : List Int → α → List Int × Int} {wr : α → List Int} : ∀ (l : List α) (acc : List Int), (∀ x ∈ l, ∀ a, one a x = (a ++ wr x, 0)) → listW one acc l = (acc ++ l.flatMap wr, 0)
  | [], acc, _ => by simp [listW]
  | x :: l, acc, h => by
    rw [listW, h x (List.mem_cons_self ..) acc, if_neg (by simp), listW_ok l _ (fun y hy => h y (List.mem_cons_of_mem _ hy))]
    simp
theorem elems_ok {α : Type} {one : List Int × Int → α × List Int × Int} {wr : α → List Int} : ∀ (l : List α) (tail : List Int) (out : List α), (∀ x ∈ l, ∀ t, one (wr x ++ t, 0) = (x, t, 0)) → WireP.elems one l.length (l.flatMap wr ++ tail, 0) out = (out ++ l, tail, 0)
  | [], tail, out, _ => by simp [WireP.elems]
  | x :: l, tail, out, h => by
    have e : ((x :: l).flatMap wr ++ tail) = wr x ++ (l.flatMap wr ++ tail) := by simp
    rw [List.length_cons, elems_succ, e, h x (List.mem_cons_self ..), if_neg (by simp), elems_ok l tail _ (fun y hy => h y (List.mem_cons_of_mem _ hy))]
    simp
theorem many_enc (n : Nat) (most : Int) (hn : n < 9007199254740992) (hm : (n : Int) ≤ most) (tail : List Int) : WireP.many most (WireP.enc n ++ tail, 0) = ((n : Int), tail, 0) := by
  unfold WireP.many
  rw [WireP.num_enc n hn]
  simp only
  rw [if_neg (by omega)]
theorem list_ok {α : Type} {one : List Int × Int → α × List Int × Int} {wr : α → List Int} (l : List α) (tail : List Int) (hl : l.length ≤ 8000) (h : ∀ x ∈ l, ∀ t, one (wr x ++ t, 0) = (x, t, 0)) : WireP.list one (WireP.enc l.length ++ (l.flatMap wr ++ tail), 0) = (l, tail, 0) := by
  rw [list_eq, many_enc _ _ (by omega) (by omega)]
  simp only [Int.toNat_natCast]
  rw [elems_ok l tail [] h, List.nil_append]
def wrText (s : ByteArray) : List Int := WireP.enc s.size ++ bytesOf s
theorem text_enc (s : ByteArray) (hs : s.size ≤ 65536) (tail : List Int) : WireP.text (wrText s ++ tail, 0) = (bytesOf s, tail, 0) := by
  have hb := bytesOf_length s
  unfold WireP.text wrText
  rw [List.append_assoc, many_enc s.size 65536 (by omega) (by omega)]
  simp only
  rw [if_neg (by simp), if_neg (by simp only [List.length_append]; omega), Int.toNat_natCast, List.take_append_of_le_length (by omega), List.drop_append_of_le_length (by omega), List.take_of_length_le (by omega), List.drop_eq_nil_of_le (by omega), List.nil_append]
theorem str_bytes (s : ByteArray) : strOfNums (bytesOf s) = s := by
  unfold strOfNums bytesOf
  rw [List.map_map]
  have e : (List.map ((fun n : Int => UInt8.ofNat n.toNat) ∘ fun b : UInt8 => (b.toNat : Int)) s.data.toList) = s.data.toList := by
    conv => rhs; rw [← List.map_id s.data.toList]
    apply List.map_congr_left
    intro b _
    simp
  rw [e]
theorem textS_ok (s : ByteArray) (hs : s.size ≤ 65536) (tail : List Int) : textS (wrText s ++ tail, 0) = (s, tail, 0) := by
  unfold textS
  rw [text_enc s hs]
  simp only
  rw [str_bytes]
def wrNum (n : Int) : List Int := WireP.enc n.toNat
theorem num_ok (n : Int) (h0 : 0 ≤ n) (h1 : n < 9007199254740992) (tail : List Int) : WireP.num (wrNum n ++ tail, 0) = (n, tail, 0) := by
  unfold wrNum
  rw [WireP.num_enc _ (by omega), Int.toNat_of_nonneg h0]
theorem dig_ok (b : List Int) (n : Int) (h0 : 0 ≤ n) (h1 : n < 9007199254740992) : dig b n = (b ++ wrNum n, 0) := if_pos ⟨h0, by omega⟩
theorem let_ok (b : List Int) (s : ByteArray) (hs : s.size ≤ 65536) : let_ b s = (b ++ wrText s, 0) := by
  unfold let_ wrText
  rw [if_pos hs, List.append_assoc]
theorem cut300_size (s : ByteArray) : (cut300 s).size ≤ 300 := by
  unfold cut300
  rw [ByteArray.size_extract]
  unfold mn
  split <;> omega
theorem numsP_ok (l : List Int) : (numsP l).length ≤ 20 ∧ ∀ x ∈ numsP l, 0 ≤ x ∧ x < 9007199254740992 := by
  constructor
  · unfold numsP; simp only [List.length_map, List.length_take]; omega
  · intro x hx
    unfold numsP at hx
    obtain ⟨y, _, rfl⟩ := List.mem_map.mp hx
    exact (bring_f y 9007199254740992 (by omega) (by omega)).2
theorem textsP_ok (s : ByteArray) (l : List Int) : (textsP s l).length ≤ 8 ∧ ∀ x ∈ textsP s l, x.size ≤ 65536 := by
  constructor
  · unfold textsP; simp only [List.length_map, List.length_take]; omega
  · intro x hx
    unfold textsP at hx
    obtain ⟨y, _, rfl⟩ := List.mem_map.mp hx
    have := cut60_size s
    unfold textOf
    rw [ByteArray.size_extract]
    omega
/-- A row's thing, as bytes. -/
def thing (x : H.S57) : List Int :=
  if kindOf x.f0 = 0 then wrNum (bringI x.f1 9007199254740992)
  else if kindOf x.f0 = 1 then wrText (cut300 x.f2)
  else if kindOf x.f0 = 2 then WireP.enc (numsP x.f3).length ++ (numsP x.f3).flatMap wrNum
  else WireP.enc (textsP x.f2 x.f3).length ++ (textsP x.f2 x.f3).flatMap wrText
theorem put_thing (b : List Int) (x : H.S57) : putP b x = (b ++ thing x, 0) := by
  have hn := bring_f x.f1 9007199254740992 (by omega) (by omega)
  unfold putP thing
  by_cases h0 : kindOf x.f0 = 0
  · rw [if_pos h0, if_pos h0, dig_ok _ _ hn.2.1 hn.2.2]
  · rw [if_neg h0, if_neg h0]
    by_cases h1 : kindOf x.f0 = 1
    · rw [if_pos h1, if_pos h1, let_ok _ _ (by have := cut300_size x.f2; omega)]
    · rw [if_neg h1, if_neg h1]
      by_cases h2 : kindOf x.f0 = 2
      · rw [if_pos h2, if_pos h2, listW_ok (wr := wrNum) _ _ (fun y hy a => dig_ok a y ((numsP_ok x.f3).2 y hy).1 ((numsP_ok x.f3).2 y hy).2), List.append_assoc]
      · rw [if_neg h2, if_neg h2, listW_ok (wr := wrText) _ _ (fun y hy a => let_ok a y ((textsP_ok x.f2 x.f3).2 y hy)), List.append_assoc]
theorem nums_back (l : List Int) (tail : List Int) : WireP.list WireP.num (WireP.enc (numsP l).length ++ ((numsP l).flatMap wrNum ++ tail), 0) = (numsP l, tail, 0) :=
  list_ok (wr := wrNum) _ _ (by have := (numsP_ok l).1; omega) (fun y hy t => num_ok y ((numsP_ok l).2 y hy).1 ((numsP_ok l).2 y hy).2 t)
theorem texts_back (s : ByteArray) (l : List Int) (tail : List Int) : WireP.list textS (WireP.enc (textsP s l).length ++ ((textsP s l).flatMap wrText ++ tail), 0) = (textsP s l, tail, 0) :=
  list_ok (wr := wrText) _ _ (by have := (textsP_ok s l).1; omega) (fun y hy t => textS_ok y ((textsP_ok s l).2 y hy) t)
end Go.Proofs.Ytcpnjlagmnlecaa.C3
