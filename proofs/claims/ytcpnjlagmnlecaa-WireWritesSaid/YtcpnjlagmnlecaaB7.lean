/- WireWrites: its second parameter opened. -/
import Derived.Test.YtcpnjlagmnlecaaProg
import Derived.Below
import Derived.Deep.Draws
import Derived.Deep.AppendLies
import Derived.Maps.AppendAt
import Derived.OwnWalk
import Derived.Laws.BytesArg
import Derived.Laws.MakeOwn
import Derived.Laws.OwnMore
import Derived.Deep.OwnRows
import Derived.Tactics
import Derived.Lib.ConvBytes
import Derived.Laws.Slices
import Derived.WalkKit
import Derived.KernelRfl
import Derived.RowKit3
import Derived.Deep.LoopGhost
import Derived.Deep.QuietTactic
import Derived.BigQuiet
import Derived.WideLaws
import Derived.Deep.DeepCutAuto
import Derived.Deep.CutBlock
import Derived.Deep.RegionHeld3
import Derived.Laws.Rows
import Derived.Lib.AppendStr
import Derived.ArgAppend
import Derived.Laws.IdiomCopy
import Derived.OrdersHeld
import Derived.Laws.BitsLemmas
import Derived.RowKit
import Derived.WalkSpells
import Derived.Laws.CopyOwn
import Derived.Test.YtcpnjlagmnlecaaWWords
import Derived.Test.YtcpnjlagmnlecaaWLast
import Derived.Test.YtcpnjlagmnlecaaWMore
import Derived.Test.YtcpnjlagmnlecaaB6
import Derived.ChangeArms
import Derived.ChangeSlices
import Derived.SliceStrings
namespace Go.Proofs.Ytcpnjlagmnlecaa.B7
open Go.RowKit Go.ChangeShapes Go.WideShapes Go.Proofs.YtcpnjlagmnlecaaW.PrintWords Go.Proofs.YtcpnjlagmnlecaaW.PrintLast Go.Proofs.YtcpnjlagmnlecaaW.PrintMore Go.Proofs.Ytcpnjlagmnlecaa
set_option linter.unusedVariables false
set_option linter.unusedSimpArgs false
theorem strs_row {W : World} {a : Addr} {len cap : Nat} {ss : List ByteArray} (hl : len ≤ cap) (hm : cap ≤ maxLen) (hn : ss.length = cap) (hc : ∀ i, i < ss.length → W.cell? (a.add i) = some (.string (ss.getD i ByteArray.empty))) :
    ∃ l : List ByteArray, len = l.length ∧ Kd.C Kd.string W (some a) l.length l := by
  have hx : (ss.take len).length = len := by rw [List.length_take]; omega
  refine ⟨ss.take len, hx.symm, Kd.C_of_reads (enc := Value.string) (d := ByteArray.empty) (h1 := fun _ => rfl) ⟨rfl, ?_, fun h => ⟨_, rfl, fun j hj => ?_⟩⟩⟩
  · have : maxLen ≤ 9223372036854775807 := by decide
    omega
  · rw [hc j (by omega)]
    simp only [List.getD_eq_getElem?_getD, List.getElem?_take]
    rw [if_pos (by omega)]
theorem open34 {H : Type} {enc : TypeId × Value → H} {W : World} {v : Value} {d : DataW H} {p : List MemPlace} (h : DataW.Trod enc Try.prog W 0 (fun _ => true) true 34 v d p) :
    ∃ (n : Int) (s : ByteArray) (A1 : Option Addr) (c1 : Nat) (l1 : List Int) (A2 : Option Addr) (c2 : Nat) (l2 : List ByteArray), v = .agg #[.int .i64 n, .string s, .slice A1 l1.length c1, .slice A2 l2.length c2] ∧ Kd.C (Kd.int .i64) W A1 l1.length l1 ∧ l1.length ≤ c1 ∧ Kd.C Kd.string W A2 l2.length l2 ∧ l2.length ≤ c2 := by
  obtain ⟨fuel, hf⟩ := h
  obtain ⟨xs, m, rfl, _, hlen, hxs, hfs⟩ := DataW.trod_struct Try.underlying34 hf
  have k34 : Try.prog.cellsOf 34 = 4 := by kernel_rfl
  have k3 : Try.prog.cellsOf 3 = 1 := by kernel_rfl
  have k9 : Try.prog.cellsOf 9 = 1 := by kernel_rfl
  have k31 : Try.prog.cellsOf 31 = 1 := by kernel_rfl
  have k32 : Try.prog.cellsOf 32 = 1 := by kernel_rfl
  rw [k34] at hlen
  obtain ⟨cs, rfl⟩ : ∃ cs, v = .agg cs := by cases v <;> first | exact ⟨_, rfl⟩ | (exfalso; simp [Value.cells] at hlen)
  obtain ⟨L⟩ := cs
  have hlen : L.length = 4 := hlen
  match L, hlen, xs, hxs with
  | [x0, x1, x2, x3], _, [y0, y1, y2, y3], _ =>
    have f0 := hfs 0 _ rfl
    have f1 := hfs 1 _ rfl
    have f2 := hfs 2 _ rfl
    have f3 := hfs 3 _ rfl
    simp only [k3, k9, k31, k32, Value.cells] at f0 f1 f2 f3
    obtain ⟨n, e0, _, _⟩ := DataW.trod_int Try.underlying3 f0
    obtain ⟨s, e1, _, _⟩ := DataW.trod_string Try.underlying9 f1
    obtain rfl : x0 = .int .i64 n := by simpa [k3] using e0
    obtain rfl : x1 = .string s := by simpa [k9] using e1
    obtain ⟨A1, c1, l1, rfl, h1, h1c⟩ : ∃ (A1 : Option Addr) (c1 : Nat) (l1 : List Int), x2 = .slice A1 l1.length c1 ∧ Kd.C (Kd.int .i64) W A1 l1.length l1 ∧ l1.length ≤ c1 := by
      rcases open_ints Try.underlying31 Try.underlying3 k3 f2 with ⟨hcs, _⟩ | ⟨x, l, c, zs, hcs, _, hl, hm, hz, _, hcell, hwz⟩
      · exact ⟨none, 0, [], by simpa [k31, k32] using hcs, Kd.C_nil _ _, Nat.le_refl _⟩
      · obtain ⟨l1, e1, hr1, hm1, hw1, hc1⟩ := ReadsInt.ofRowC (k := .i64) (w := W) (a := some x) (len := l) (cap := c) (zs := zs) (.inr ⟨x, rfl, hl, hm, by simpa using hz, hcell, hwz⟩)
        subst e1
        exact ⟨some x, c, l1, by simpa [k31, k32] using hcs, Kd.C_of_reads (d := (0 : Int)) (h1 := fun _ => rfl) hr1, hc1⟩
    obtain ⟨A2, c2, l2, rfl, h2, h2c⟩ : ∃ (A2 : Option Addr) (c2 : Nat) (l2 : List ByteArray), x3 = .slice A2 l2.length c2 ∧ Kd.C Kd.string W A2 l2.length l2 ∧ l2.length ≤ c2 := by
      rcases open_strings Try.underlying32 Try.underlying9 k9 f3 with ⟨hcs, _⟩ | ⟨x, l, c, ss, hcs, _, hl, hm, hz, _, hcell, _⟩
      · exact ⟨none, 0, [], by simpa [k31, k32] using hcs, Kd.C_nil _ _, Nat.le_refl _⟩
      · obtain ⟨l2, rfl, hC⟩ := strs_row hl hm (by simpa using hz) hcell
        exact ⟨some x, c, l2, by simpa [k31, k32] using hcs, hC, hl⟩
    exact ⟨n, s, A1, c1, l1, A2, c2, l2, rfl, h1, h1c, h2, h2c⟩
theorem writes_row (a0 : Option Addr) (len0 cap0 : Nat) (z0 : List Int) (n : Int) (s : ByteArray) (A1 : Option Addr) (c1 : Nat) (l1 : List Int) (A2 : Option Addr) (c2 : Nat) (l2 : List ByteArray) (w : World) (w0 : (a0 = none ∧ len0 = 0 ∧ cap0 = 0 ∧ z0 = []) ∨ ∃ x, a0 = some x ∧ len0 ≤ cap0 ∧ cap0 ≤ maxLen ∧ z0.length = cap0 ∧ (∀ i, i < z0.length → w.cell? (x.add i) = some (.int .u8 (z0.getD i 0))) ∧ ∀ n ∈ z0, (Lit.int .u8 n).wf = true) (y0 : len0 * 1 ≤ 140737488351232) (hr1 : Kd.C (Kd.int .i64) w A1 l1.length l1) (hc1 : l1.length ≤ c1) (hr2 : Kd.C Kd.string w A2 l2.length l2) (hc2 : l2.length ≤ c2) :
    Calls Try.prog 5 #[.slice a0 len0 cap0, .agg #[.int .i64 n, .string s, .slice A1 l1.length c1, .slice A2 l2.length c2]] w fun e w' => e = .returned (.bool true) ∧ Below w.heap.size w w' := by
  obtain ⟨l0, rfl, hr0, hm0, hw0, hc0⟩ := ReadsInt.ofRowC w0
  exact B6.writes_walk _ _ l0 n s A1 c1 l1 A2 c2 l2 w (Kd.C_of_reads (d := (0 : Int)) (h1 := fun _ => rfl) hr0) hc0 hr1 hc1 hr2 hc2
end Go.Proofs.Ytcpnjlagmnlecaa.B7
