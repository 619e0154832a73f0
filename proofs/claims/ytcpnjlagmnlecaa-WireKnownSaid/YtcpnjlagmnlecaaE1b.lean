/- What WireKnown asks of the writers and readers: the plain law. -/
import Derived.Test.YtcpnjlagmnlecaaProg
import Derived.Below
import Derived.Deep.Draws
import Derived.Deep.AppendLies
import Derived.Maps.AppendAt
import Derived.OwnWalk
import Derived.Laws.BytesArg
import Derived.Laws.MakeOwn
import Derived.Laws.OwnMore
import Derived.Deep.OwnRows
import Derived.Tactics
import Derived.Lib.ConvBytes
import Derived.Laws.Slices
import Derived.WalkKit
import Derived.KernelRfl
import Derived.RowKit3
import Derived.Deep.LoopGhost
import Derived.Deep.QuietTactic
import Derived.BigQuiet
import Derived.WideLaws
import Derived.Deep.DeepCutAuto
import Derived.Deep.CutBlock
import Derived.Deep.RegionHeld3
import Derived.Laws.Rows
import Derived.Lib.AppendStr
import Derived.ArgAppend
import Derived.Laws.IdiomCopy
import Derived.OrdersHeld
import Derived.Laws.BitsLemmas
import Derived.RowKit
import Derived.WalkSpells
import Derived.Laws.CopyOwn
import Derived.Test.YtcpnjlagmnlecaaWWords
import Derived.Test.YtcpnjlagmnlecaaWLast
import Derived.Test.YtcpnjlagmnlecaaWMore
import Derived.Test.YtcpnjlagmnlecaaE1
import Derived.Test.YtcpnjlagmnlecaaB2
import Derived.Test.YtcpnjlagmnlecaaC3
namespace Go.Proofs.Ytcpnjlagmnlecaa.E1b
open Go.RowKit Go.Proofs.YtcpnjlagmnlecaaW.PrintWords Go.Proofs.YtcpnjlagmnlecaaW.PrintLast Go.Proofs.YtcpnjlagmnlecaaW.PrintMore Go.Proofs.Ytcpnjlagmnlecaa Go.Proofs.Ytcpnjlagmnlecaa.A2 Go.Proofs.Ytcpnjlagmnlecaa.A3 Go.Proofs.Ytcpnjlagmnlecaa.A4 Go.Proofs.Ytcpnjlagmnlecaa.A5 Go.Proofs.Ytcpnjlagmnlecaa.A6 Go.Proofs.Ytcpnjlagmnlecaa.A8 Go.Proofs.Ytcpnjlagmnlecaa.A9 Go.Proofs.Ytcpnjlagmnlecaa.B2 Go.Proofs.Ytcpnjlagmnlecaa.C3 Go.Proofs.Ytcpnjlagmnlecaa.E1
set_option linter.unusedVariables false
set_option linter.unusedSimpArgs false
theorem C_litS (W : World) (l : List ByteArray) (cs : Array Value) (e : TypeId) (fr : Nat × Nat) (hcs : cs = (l.map Value.string).toArray) (n : Nat) (hn : n = l.length) (hl : l.length ≤ 9223372036854775807) :
    Kd.C Kd.string (W.alloc (.cells cs e fr)) (some ⟨W.heap.size, 0, none⟩) n l := by
  subst hn hcs
  refine Kd.C_of_reads (enc := Value.string) (d := ByteArray.empty) (h1 := fun _ => rfl) ⟨rfl, hl, fun h => ⟨_, rfl, fun j hj => ?_⟩⟩
  rw [add_plain, cell_of_row _ _ j _ _ _ (heap_alloc_new W _)]
  simp [List.getElem?_map, List.getElem?_eq_getElem hj, List.getD_eq_getElem?_getD]
theorem nums_at (lo g : Nat) (b : List Int) (e : Int) (w : World) (h : Rd w lo g b e) (nv : List Int) (bb : List Int) (e1 : Int) (hq : WireP.list WireP.num (b, e) = (nv, bb, e1)) :
    Calls Try.prog 38 #[.pointer (some ⟨g, 0, none⟩)] w fun en w' => ∃ A2 c2, en = .returned (.slice A2 nv.length c2) ∧ nv.length ≤ c2 ∧ Kd.C (Kd.int .i64) w' A2 nv.length nv ∧ Rd w' lo g bb e1 ∧ Kp w w' g := by
  refine (nums_yes lo g b e w h).mono ?_
  rw [hq]
  rintro en w1 ⟨v1, rfl, hv, hr, hk⟩
  obtain ⟨A2, c2, ev, hc2, hC2⟩ := Kd.R_reads hv
  subst ev
  exact ⟨A2, c2, rfl, hc2, hC2, hr, hk⟩
theorem end5 (lo g : Nat) (b : List Int) (w : World) (h : Rd w lo g b 5) :
    Calls Try.prog 32 #[.pointer (some ⟨g, 0, none⟩)] w fun en w' => en = .returned (.int .i64 5) ∧ Rd w' lo g b 5 ∧ Kp w w' g := end_yes lo g b 5 w h
theorem end0 (lo g : Nat) (w : World) (h : Rd w lo g [] 0) :
    Calls Try.prog 32 #[.pointer (some ⟨g, 0, none⟩)] w fun en w' => en = .returned (.int .i64 0) ∧ Rd w' lo g [] 0 ∧ Kp w w' g := end_yes lo g [] 0 w h
theorem text_long (s : ByteArray) (h : 65536 < s.size) : wire_Text.f [] s = some ([], 5) := by
  unfold wire_Text.f let_
  rw [if_pos (by simp), if_neg (by omega)]
theorem enc3 : (WireP.enc 65536).length = 3 := by
  rw [WireP.enc, if_neg (by decide), WireP.enc, if_neg (by decide), WireP.enc, if_pos (by decide)]; rfl
theorem enc2 : (WireP.enc 8000).length = 2 := by
  rw [WireP.enc, if_neg (by decide), WireP.enc, if_pos (by decide)]; rfl
theorem okB_enc8000 : okB (WireP.enc 8000) = true := by
  rw [WireP.enc, if_neg (by decide), WireP.enc, if_pos (by decide)]; rfl
theorem text_max (s : ByteArray) (h : s.size = 65536) : ∃ r, wire_Text.f [] s = some (r, 0) ∧ r.length = 65539 := by
  refine ⟨[] ++ WireP.enc s.size ++ bytesOf s, ?_, ?_⟩
  · unfold wire_Text.f let_
    rw [if_pos (by simp), if_pos (by omega)]
  · rw [List.nil_append, List.length_append, bytesOf_length, h, enc3]
theorem nums_long (l : List Int) (h : 8000 < l.length) : wire_Nums.f [] l = some ([], 5) := by
  unfold wire_Nums.f
  rw [if_pos (by simp), if_neg (by omega)]
theorem texts_long (l : List ByteArray) (h : 8000 < l.length) : wire_Texts.f [] l = some ([], 5) := by
  unfold wire_Texts.f
  rw [if_pos (by simp), if_neg (by omega)]
theorem wrNum0 : wrNum 0 = [0] := by
  unfold wrNum
  rw [Int.toNat_zero, WireP.enc, if_pos (by decide)]; rfl
theorem wrText0 : wrText ⟨#[]⟩ = [0] := by
  unfold wrText
  rw [show (⟨#[]⟩ : ByteArray).size = 0 from rfl, WireP.enc, if_pos (by decide)]; rfl
theorem flat_rep {α : Type} {f : α → List Int} {x : α} (h : f x = [0]) (n : Nat) : (List.replicate n x).flatMap f = List.replicate n 0 := by
  induction n with
  | zero => rfl
  | succ n ih => rw [List.replicate_succ, List.flatMap_cons, ih, h, List.replicate_succ]; rfl
theorem okB_rep (n : Nat) : okB (List.replicate n 0) = true := by
  unfold okB
  rw [List.all_eq_true]
  intro x hx
  rw [(List.mem_replicate.1 hx).2]; rfl
theorem nums_max (l : List Int) (m : Nat) (hm : m = 8000) (h : l = List.replicate m 0) : ∃ Y, wire_Nums.f [] l = some (Y, 0) ∧ Y.length = 8002 ∧ okB Y = true ∧ WireP.list WireP.num (Y, 0) = (l, [], 0) := by
  have hl : l.length = 8000 := by rw [h, List.length_replicate, hm]
  have h0 : ∀ x ∈ l, (0 : Int) ≤ x ∧ x < 9007199254740992 := by
    intro x hx
    rw [h] at hx
    rw [(List.mem_replicate.1 hx).2]; decide
  refine ⟨WireP.enc l.length ++ l.flatMap wrNum, ?_, ?_, ?_, ?_⟩
  · unfold wire_Nums.f
    rw [if_pos (by simp), if_pos (by omega), listW_ok (wr := wrNum) _ _ (fun y hy a => dig_ok a y (h0 y hy).1 (h0 y hy).2), List.nil_append]
  · rw [List.length_append, hl, enc2, h, flat_rep wrNum0, List.length_replicate, hm]
  · rw [hl, h, flat_rep wrNum0]
    exact okB_app okB_enc8000 (okB_rep m)
  · have := list_ok (wr := wrNum) (one := WireP.num) l [] (by omega) (fun y hy t => num_ok y (h0 y hy).1 (h0 y hy).2 t)
    rwa [List.append_nil] at this
theorem texts_max (l : List ByteArray) (m : Nat) (hm : m = 8000) (h : l = List.replicate m ⟨#[]⟩) : ∃ Y, wire_Texts.f [] l = some (Y, 0) ∧ Y.length = 8002 := by
  have hl : l.length = 8000 := by rw [h, List.length_replicate, hm]
  have h0 : ∀ x ∈ l, x.size ≤ 65536 := by
    intro x hx
    rw [h] at hx
    rw [(List.mem_replicate.1 hx).2]; decide
  refine ⟨WireP.enc l.length ++ l.flatMap wrText, ?_, ?_⟩
  · unfold wire_Texts.f
    rw [if_pos (by simp), if_pos (by omega), listW_ok (wr := wrText) _ _ (fun y hy a => let_ok a y (h0 y hy)), List.nil_append]
  · rw [List.length_append, hl, enc2, h, flat_rep wrText0, List.length_replicate, hm]
theorem texts_two (s : ByteArray) (h : 65536 < s.size) : wire_Texts.f [] [⟨#[97]⟩, s] = some ([], 5) := by
  unfold wire_Texts.f
  rw [if_pos (by simp), if_pos (by simp)]
  unfold listW
  rw [let_ok _ ⟨#[97]⟩ (by decide), if_neg (by simp)]
  unfold listW
  have e : ∀ a, let_ a s = ([], 5) := fun a => if_neg (by omega)
  rw [e, if_pos (by simp)]
theorem str_size (l : List Int) : (strOfNums l).size = l.length := by
  simp [strOfNums, ByteArray.size]
theorem read1 : textS ([129, 128, 4, 1], 0) = (⟨#[]⟩, [1], 5) := by
  have h : WireP.text ([129, 128, 4, 1], 0) = ([], [1], 5) := by decide
  unfold textS
  rw [h]; rfl
theorem read2 : WireP.list WireP.num ([193, 62, 1], 0) = ([], [1], 5) := by
  rw [list_eq]
  have h : WireP.many 8000 ([193, 62, 1], 0) = (0, [1], 5) := by decide
  rw [h]; rfl
end Go.Proofs.Ytcpnjlagmnlecaa.E1b
