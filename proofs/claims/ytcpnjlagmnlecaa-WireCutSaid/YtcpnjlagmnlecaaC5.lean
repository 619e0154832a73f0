/- Rows of things as a parameter: opened. -/
import Derived.Test.YtcpnjlagmnlecaaProg
import Derived.Below
import Derived.Deep.Draws
import Derived.Deep.AppendLies
import Derived.Maps.AppendAt
import Derived.OwnWalk
import Derived.Laws.BytesArg
import Derived.Laws.MakeOwn
import Derived.Laws.OwnMore
import Derived.Deep.OwnRows
import Derived.Tactics
import Derived.Lib.ConvBytes
import Derived.Laws.Slices
import Derived.WalkKit
import Derived.KernelRfl
import Derived.RowKit3
import Derived.Deep.LoopGhost
import Derived.Deep.QuietTactic
import Derived.BigQuiet
import Derived.WideLaws
import Derived.Deep.DeepCutAuto
import Derived.Deep.CutBlock
import Derived.Deep.RegionHeld3
import Derived.Laws.Rows
import Derived.Lib.AppendStr
import Derived.ArgAppend
import Derived.Laws.IdiomCopy
import Derived.OrdersHeld
import Derived.Laws.BitsLemmas
import Derived.RowKit
import Derived.WalkSpells
import Derived.Laws.CopyOwn
import Derived.Test.YtcpnjlagmnlecaaWWords
import Derived.Test.YtcpnjlagmnlecaaWLast
import Derived.Test.YtcpnjlagmnlecaaWMore
import Derived.Test.YtcpnjlagmnlecaaHx0
import Derived.ChangeArms
import Derived.ChangeSlices
import Derived.SliceStrings
import Derived.Deep.Slices
namespace Go.Proofs.Ytcpnjlagmnlecaa.C5
open Go.RowKit Go.ChangeShapes Go.WideShapes Go.Proofs.YtcpnjlagmnlecaaW.PrintWords Go.Proofs.YtcpnjlagmnlecaaW.PrintLast Go.Proofs.YtcpnjlagmnlecaaW.PrintMore Go.Proofs.Ytcpnjlagmnlecaa Go.Proofs.Ytcpnjlagmnlecaa.H
set_option linter.unusedVariables false
set_option linter.unusedSimpArgs false
/-- A slice whose elements can be opened, opened. -/
theorem open_kd {α H : Type} {enc : TypeId × Value → H} {P : Program} {w : World} {sp : Nat → Bool} {held : Bool} (d : Kd α) [Inhabited α] {t e : TypeId} {fuel : Nat} {cs : List Value} {x : DataW H × List MemPlace} (ht : P.underlying t = some (.slice e)) (hsz : P.cellsOf e = d.sz)
    (hk : ∀ (n : Nat) (cs : List Value) (x : DataW H × List MemPlace), DataW.trod enc P w 0 sp held n e cs = some x → ∃ a, d.K w a cs) (h : DataW.trod enc P w 0 sp held fuel t cs = some x) :
    ∃ (A : Option Addr) (c : Nat) (l : List α), cs = [.slice A l.length c] ∧ Kd.C d w A l.length l ∧ l.length ≤ c := by
  rcases Go.Deep.open_slice ht h with ⟨rfl, _⟩ | ⟨a, len, cap, m, n, D, Pl, rfl, _, hl, hm, hmm, rfl, hx⟩
  · exact ⟨none, 0, [], rfl, Kd.C_nil _ _, Nat.le_refl _⟩
  · have hlm : len ≤ m := by rw [hmm]; split <;> omega
    obtain ⟨f, hf⟩ := Go.Deep.choose_lt (n := len) (p := fun i (y : α) => ∃ cs', w.cells? 0 (a.add (i * P.cellsOf e)) (P.cellsOf e) = some cs' ∧ d.K w y cs') (fun i hi => by
      obtain ⟨cs', h1, h2⟩ := hx i (by omega)
      obtain ⟨y, hy⟩ := hk n cs' _ h2
      exact ⟨y, cs', h1, hy⟩)
    have hlen : ((List.range len).map f).length = len := by simp
    refine ⟨some a, cap, (List.range len).map f, by rw [hlen], ?_, by rw [hlen]; exact hl⟩
    rw [hlen]
    have hmx : maxLen ≤ 9223372036854775807 := by decide
    refine ⟨hlen, by omega, fun _ => ⟨a, rfl, fun j p hj => ?_⟩⟩
    have hjl : j < len := by
      have := List.getElem?_eq_some_iff.1 hj
      obtain ⟨h1, _⟩ := this
      rwa [hlen] at h1
    have hp : p = f j := by
      rw [List.getElem?_map, List.getElem?_range hjl] at hj
      injection hj with hj
      exact hj.symm
    subst hp
    obtain ⟨cs', h1, h2⟩ := hf j hjl
    obtain ⟨_, h3, h4⟩ := World.cells?_some h1
    refine ⟨cs', by rw [h3, hsz], h2, fun i u hu => ?_⟩
    have hil : i < P.cellsOf e := by
      have := List.getElem?_eq_some_iff.1 hu
      obtain ⟨h5, _⟩ := this
      rwa [h3] at h5
    rw [← hsz, ← Go.Deep.add_add, h4 i hil, hu]
instance : Inhabited S57 := ⟨z57⟩
theorem open57 {H : Type} {enc : TypeId × Value → H} {w : World} {fuel : Nat} {cs : List Value} {x : DataW H × List MemPlace} (hf : DataW.trod enc Try.prog w 0 (fun _ => true) true fuel 57 cs = some x) : ∃ a : S57, k57.K w a cs := by
  obtain ⟨xs, m, hxf, hxe, hlen, hxs, hfs⟩ := DataW.trod_struct Try.underlying57 hf
  have k57_ : Try.prog.cellsOf 57 = 4 := by kernel_rfl
  have k3 : Try.prog.cellsOf 3 = 1 := by kernel_rfl
  have k9 : Try.prog.cellsOf 9 = 1 := by kernel_rfl
  have k31 : Try.prog.cellsOf 31 = 1 := by kernel_rfl
  rw [k57_] at hlen
  match cs, hlen, xs, hxs with
  | [x0, x1, x2, x3], _, [y0, y1, y2, y3], _ =>
    have f0 := hfs 0 _ rfl
    have f1 := hfs 1 _ rfl
    have f2 := hfs 2 _ rfl
    have f3 := hfs 3 _ rfl
    obtain ⟨n0, e0, _, _⟩ := DataW.trod_int Try.underlying3 f0
    obtain ⟨n1, e1, _, _⟩ := DataW.trod_int Try.underlying3 f1
    obtain ⟨s, e2, _, _⟩ := DataW.trod_string Try.underlying9 f2
    obtain rfl : x0 = .int .i64 n0 := by simpa [k3] using e0
    obtain rfl : x1 = .int .i64 n1 := by simpa [k3] using e1
    obtain rfl : x2 = .string s := by simpa [k9] using e2
    rcases open_ints Try.underlying31 Try.underlying3 k3 f3 with ⟨hcs, _⟩ | ⟨x, l, c, zs, hcs, _, hl, hm, hz, _, hcell, hwz⟩
    · obtain rfl : x3 = .slice none 0 0 := by simpa [k31, k3, k9] using hcs
      exact ⟨⟨n0, n1, s, []⟩, k57_mk w ⟨n0, n1, s, []⟩ (Nat.le_refl _) (Kd.C_nil _ _)⟩
    · obtain ⟨l1, e1, hr1, hm1, hw1, hc1⟩ := ReadsInt.ofRowC (k := .i64) (w := w) (a := some x) (len := l) (cap := c) (zs := zs) (.inr ⟨x, rfl, hl, hm, by simpa using hz, hcell, hwz⟩)
      subst e1
      obtain rfl : x3 = .slice (some x) l1.length c := by simpa [k31, k3, k9] using hcs
      exact ⟨⟨n0, n1, s, l1⟩, k57_mk w ⟨n0, n1, s, l1⟩ hc1 (Kd.C_of_reads (d := (0 : Int)) (h1 := fun _ => rfl) hr1)⟩
theorem open54 {H : Type} {enc : TypeId × Value → H} {W : World} {A0 : Option Addr} {n0 c0 : Nat} {d : DataW H} {p : List MemPlace} (h : DataW.Trod enc Try.prog W 0 (fun _ => true) true 54 (.slice A0 n0 c0) d p) :
    ∃ l0 : List S57, n0 = l0.length ∧ Kd.C k57 W A0 l0.length l0 ∧ l0.length ≤ c0 := by
  obtain ⟨fuel, hf⟩ := h
  obtain ⟨A, c, l, hcs, h1, h2⟩ := open_kd k57 Try.underlying54 (by kernel_rfl) (fun n cs x hx => open57 hx) hf
  have hcs : [Value.slice A0 n0 c0] = [.slice A l.length c] := hcs
  injection hcs with e _
  injection e with e1 e2 e3
  subst e1 e2 e3
  exact ⟨l, rfl, h1, h2⟩
end Go.Proofs.Ytcpnjlagmnlecaa.C5
