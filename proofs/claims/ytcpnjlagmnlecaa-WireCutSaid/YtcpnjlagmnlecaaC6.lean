/- Things of rows, one behind the other: the plain law. -/
import Derived.Test.YtcpnjlagmnlecaaProg
import Derived.Below
import Derived.Deep.Draws
import Derived.Deep.AppendLies
import Derived.Maps.AppendAt
import Derived.OwnWalk
import Derived.Laws.BytesArg
import Derived.Laws.MakeOwn
import Derived.Laws.OwnMore
import Derived.Deep.OwnRows
import Derived.Tactics
import Derived.Lib.ConvBytes
import Derived.Laws.Slices
import Derived.WalkKit
import Derived.KernelRfl
import Derived.RowKit3
import Derived.Deep.LoopGhost
import Derived.Deep.QuietTactic
import Derived.BigQuiet
import Derived.WideLaws
import Derived.Deep.DeepCutAuto
import Derived.Deep.CutBlock
import Derived.Deep.RegionHeld3
import Derived.Laws.Rows
import Derived.Lib.AppendStr
import Derived.ArgAppend
import Derived.Laws.IdiomCopy
import Derived.OrdersHeld
import Derived.Laws.BitsLemmas
import Derived.RowKit
import Derived.WalkSpells
import Derived.Laws.CopyOwn
import Derived.Test.YtcpnjlagmnlecaaWWords
import Derived.Test.YtcpnjlagmnlecaaWLast
import Derived.Test.YtcpnjlagmnlecaaWMore
import Derived.Test.YtcpnjlagmnlecaaC4
namespace Go.Proofs.Ytcpnjlagmnlecaa.C6
open Go.RowKit Go.Proofs.YtcpnjlagmnlecaaW.PrintWords Go.Proofs.YtcpnjlagmnlecaaW.PrintLast Go.Proofs.YtcpnjlagmnlecaaW.PrintMore Go.Proofs.Ytcpnjlagmnlecaa Go.Proofs.Ytcpnjlagmnlecaa.A2 Go.Proofs.Ytcpnjlagmnlecaa.A3 Go.Proofs.Ytcpnjlagmnlecaa.A4 Go.Proofs.Ytcpnjlagmnlecaa.A5 Go.Proofs.Ytcpnjlagmnlecaa.A6 Go.Proofs.Ytcpnjlagmnlecaa.A8 Go.Proofs.Ytcpnjlagmnlecaa.A9 Go.Proofs.Ytcpnjlagmnlecaa.C1 Go.Proofs.Ytcpnjlagmnlecaa.C2 Go.Proofs.Ytcpnjlagmnlecaa.C3 Go.Proofs.Ytcpnjlagmnlecaa.C4
set_option linter.unusedVariables false
set_option linter.unusedSimpArgs false
theorem okB_app {a b : List Int} (ha : okB a = true) (hb : okB b = true) : okB (a ++ b) = true := by
  unfold okB at *
  rw [List.all_append, ha, hb]; rfl
theorem okB_flat {α : Type} {f : α → List Int} {l : List α} (h : ∀ x ∈ l, okB (f x) = true) : okB (l.flatMap f) = true := by
  induction l with
  | nil => rfl
  | cons x l ih =>
    rw [List.flatMap_cons]
    exact okB_app (h x (by simp)) (ih (fun y hy => h y (by simp [hy])))
theorem okB_take {l : List Int} (h : okB l = true) (n : Nat) : okB (l.take n) = true := by
  unfold okB at h ⊢
  rw [List.all_eq_true] at h ⊢
  exact fun x hx => h x (List.mem_of_mem_take hx)
theorem okB_enc (n : Nat) : okB (WireP.enc n) = true := by
  induction n using Nat.strongRecOn with
  | _ n ih =>
    unfold WireP.enc
    split
    · unfold okB; simp only [List.all_cons, List.all_nil, Bool.and_true, Bool.and_eq_true, decide_eq_true_eq]; omega
    · have := ih (n / 128) (by omega)
      have h2 : okB [((n % 128 + 128 : Nat) : Int)] = true := by
        unfold okB; simp only [List.all_cons, List.all_nil, Bool.and_true, Bool.and_eq_true, decide_eq_true_eq]; omega
      have h3 := okB_app h2 this
      rwa [List.singleton_append] at h3
theorem okB_bytes (s : ByteArray) : okB (bytesOf s) = true := by
  unfold okB bytesOf
  rw [List.all_eq_true]
  intro x hx
  obtain ⟨b, _, rfl⟩ := List.mem_map.mp hx
  have := b.toNat_lt
  simp only [Bool.and_eq_true, decide_eq_true_eq]
  omega
theorem okB_thing (x : H.S57) : okB (thing x) = true := by
  unfold thing
  split
  · exact okB_enc _
  split
  · exact okB_app (okB_enc _) (okB_bytes _)
  split
  · exact okB_app (okB_enc _) (okB_flat (fun y _ => okB_enc _))
  · exact okB_app (okB_enc _) (okB_flat (fun y _ => okB_app (okB_enc _) (okB_bytes _)))
theorem flat_len {α : Type} {f : α → List Int} {l : List α} (B : Nat) (h : ∀ x ∈ l, (f x).length ≤ B) : (l.flatMap f).length ≤ l.length * B := by
  induction l with
  | nil => simp
  | cons x l ih =>
    rw [List.flatMap_cons, List.length_append, List.length_cons, Nat.succ_mul]
    have h1 := h x (by simp)
    have h2 := ih (fun y hy => h y (by simp [hy]))
    omega
theorem enc_len (n : Nat) (h : n ≤ 9007199254740991) : (WireP.enc n).length ≤ 65545 := by
  have := dig_len [] (n : Int)
  rw [dig_5 [] n h] at this
  simp only [List.nil_append, List.length_nil] at this
  omega
theorem wrText_len (s : ByteArray) (h : s.size ≤ 65536) : (wrText s).length ≤ 65545 := by
  have := let_len [] s
  rw [let_ok [] s h] at this
  simp only [List.nil_append, List.length_nil] at this
  omega
theorem thing_len (x : H.S57) : (thing x).length ≤ 2000000 := by
  unfold thing
  have hn := bring_f x.f1 9007199254740992 (by omega) (by omega)
  split
  · have := enc_len (bringI x.f1 9007199254740992).toNat (by omega)
    unfold wrNum; omega
  split
  · have := wrText_len (cut300 x.f2) (by have := cut300_size x.f2; omega)
    omega
  split
  · have h1 := (numsP_ok x.f3).1
    have h2 := flat_len (f := wrNum) (l := numsP x.f3) 65545 (fun y hy => by
      have := (numsP_ok x.f3).2 y hy
      exact enc_len y.toNat (by omega))
    have h3 := enc_len (numsP x.f3).length (by omega)
    rw [List.length_append]
    have : (numsP x.f3).length * 65545 ≤ 20 * 65545 := Nat.mul_le_mul_right _ h1
    omega
  · have h1 := (textsP_ok x.f2 x.f3).1
    have h2 := flat_len (f := wrText) (l := textsP x.f2 x.f3) 65545 (fun y hy => wrText_len y ((textsP_ok x.f2 x.f3).2 y hy))
    have h3 := enc_len (textsP x.f2 x.f3).length (by omega)
    rw [List.length_append]
    have : (textsP x.f2 x.f3).length * 65545 ≤ 8 * 65545 := Nat.mul_le_mul_right _ h1
    omega
theorem thing_ne (x : H.S57) : 0 < (thing x).length := by
  have e : ∀ n, 0 < (WireP.enc n).length := fun n => List.length_pos_iff.2 (WireP.enc_ne n)
  unfold thing
  split
  · exact e _
  split
  · unfold wrText; rw [List.length_append]; have := e (cut300 x.f2).size; omega
  split
  · rw [List.length_append]; have := e (numsP x.f3).length; omega
  · rw [List.length_append]; have := e (textsP x.f2 x.f3).length; omega
theorem got_back (x : H.S57) (tail : List Int) : gotG x (thing x ++ tail, 0) ∧ gotS x (thing x ++ tail, 0) = (tail, 0) := by
  have hn := bring_f x.f1 9007199254740992 (by omega) (by omega)
  unfold gotG gotS thing
  by_cases h0 : kindOf x.f0 = 0
  · simp only [if_pos h0]
    rw [num_ok _ hn.2.1 hn.2.2]
    exact ⟨rfl, rfl⟩
  · simp only [if_neg h0]
    by_cases h1 : kindOf x.f0 = 1
    · simp only [if_pos h1]
      rw [textS_ok _ (by have := cut300_size x.f2; omega)]
      exact ⟨rfl, rfl⟩
    · simp only [if_neg h1]
      by_cases h2 : kindOf x.f0 = 2
      · simp only [if_pos h2]
        rw [List.append_assoc, nums_back]
        exact ⟨rfl, rfl⟩
      · simp only [if_neg h2]
        rw [List.append_assoc, texts_back]
        exact ⟨rfl, rfl⟩
def pre (l : List H.S57) (k : Nat) : List Int := (l.take k).flatMap thing
theorem pre_succ (l : List H.S57) (k : Nat) (h : k < l.length) : pre l (k + 1) = pre l k ++ thing (H.rd_T57 l k) := by
  have hx : H.rd_T57 l (k : Int) = l[k] := by
    show l.getD k H.z57 = _
    rw [List.getD_eq_getElem?_getD, List.getElem?_eq_getElem h]; rfl
  unfold pre
  rw [List.take_add_one, List.getElem?_eq_getElem h, hx, List.flatMap_append, Option.toList_some, List.flatMap_cons, List.flatMap_nil, List.append_nil]
theorem pre_okB (l : List H.S57) (k : Nat) : okB (pre l k) = true := okB_flat (fun x _ => okB_thing x)
theorem pre_len (l : List H.S57) (k : Nat) (hk : k ≤ 30) : (pre l k).length ≤ 60000000 := by
  have := flat_len (f := thing) (l := l.take k) 2000000 (fun x _ => thing_len x)
  have h2 : (l.take k).length ≤ 30 := by rw [List.length_take]; omega
  have := Nat.mul_le_mul_right 2000000 h2
  unfold pre
  omega
def rest (l : List H.S57) (m k : Nat) : List Int := ((l.take m).drop k).flatMap thing
theorem rest_zero (l : List H.S57) (m : Nat) : rest l m 0 = pre l m := rfl
theorem rest_succ (l : List H.S57) (m k : Nat) (h : k < m) (hm : m ≤ l.length) : rest l m k = thing (H.rd_T57 l k) ++ rest l m (k + 1) := by
  have hkl : k < l.length := by omega
  have hx : H.rd_T57 l (k : Int) = l[k] := by
    show l.getD k H.z57 = _
    rw [List.getD_eq_getElem?_getD, List.getElem?_eq_getElem hkl]; rfl
  unfold rest
  rw [List.drop_eq_getElem_cons (by rw [List.length_take]; omega), List.flatMap_cons, List.getElem_take, hx]
theorem rest_end (l : List H.S57) (m : Nat) : rest l m m = [] := by
  unfold rest
  rw [List.drop_eq_nil_of_le (by rw [List.length_take]; omega)]; rfl
end Go.Proofs.Ytcpnjlagmnlecaa.C6
