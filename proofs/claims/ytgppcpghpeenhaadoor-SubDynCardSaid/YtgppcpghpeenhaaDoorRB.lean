/- The listed words as memory; rows as a parameter. -/
import Derived.Test.YtgppcpghpeenhaaDoorProg
import Derived.Test.YtgppcpghpeenhaaDoorWWords
import Derived.Test.YtgppcpghpeenhaaDoorWLast
import Derived.Test.YtgppcpghpeenhaaDoorRows
import Derived.Test.YtgppcpghpeenhaaDoorR6
import Derived.ChangeArms
import Derived.ChangeSlices
import Derived.SliceStrings
import Derived.Deep.Slices
import Derived.LaidMore
import Derived.OpenShut
import Derived.Stop.Joined
import Derived.ProofKit
namespace Go.Proofs.YtgppcpghpeenhaaDoor.RB
open Go.ChangeShapes Go.WideShapes Go.ChangeAt Go.RowKit Go.Proofs.YtgppcpghpeenhaaDoorW.PrintWords Go.Proofs.YtgppcpghpeenhaaDoorW.PrintLast Go.Proofs.YtgppcpghpeenhaaDoorW.PrintMore Go.Proofs.YtgppcpghpeenhaaDoor L1 G1 R6
set_option linter.unusedVariables false
set_option linter.unusedSimpArgs false
/-- A slice whose elements can be opened, opened. -/
theorem open_kd {α H : Type} {enc : TypeId × Value → H} {P : Program} {w : World} {sp : Nat → Bool} {held : Bool} (d : Kd α) [Inhabited α] {t e : TypeId} {fuel : Nat} {cs : List Value} {x : DataW H × List MemPlace} (ht : P.underlying t = some (.slice e)) (hsz : P.cellsOf e = d.sz)
    (hk : ∀ (n : Nat) (cs : List Value) (x : DataW H × List MemPlace), DataW.trod enc P w 0 sp held n e cs = some x → ∃ a, d.K w a cs) (h : DataW.trod enc P w 0 sp held fuel t cs = some x) :
    ∃ (A : Option Addr) (c : Nat) (l : List α), cs = [.slice A l.length c] ∧ Kd.C d w A l.length l ∧ l.length ≤ c := by
  rcases Go.Deep.open_slice ht h with ⟨rfl, _⟩ | ⟨a, len, cap, m, n, D, Pl, rfl, _, hl, hm, hmm, rfl, hx⟩
  · exact ⟨none, 0, [], rfl, Kd.C_nil _ _, Nat.le_refl _⟩
  · have hlm : len ≤ m := by rw [hmm]; split <;> omega
    obtain ⟨f, hf⟩ := Go.Deep.choose_lt (n := len) (p := fun i (y : α) => ∃ cs', w.cells? 0 (a.add (i * P.cellsOf e)) (P.cellsOf e) = some cs' ∧ d.K w y cs') (fun i hi => by
      obtain ⟨cs', h1, h2⟩ := hx i (by omega)
      obtain ⟨y, hy⟩ := hk n cs' _ h2
      exact ⟨y, cs', h1, hy⟩)
    have hlen : ((List.range len).map f).length = len := by simp
    refine ⟨some a, cap, (List.range len).map f, by rw [hlen], ?_, by rw [hlen]; exact hl⟩
    rw [hlen]
    have hmx : maxLen ≤ 9223372036854775807 := by decide
    refine ⟨hlen, by omega, fun _ => ⟨a, rfl, fun j p hj => ?_⟩⟩
    have hjl : j < len := by
      have := List.getElem?_eq_some_iff.1 hj
      obtain ⟨h1, _⟩ := this
      rwa [hlen] at h1
    have hp : p = f j := by
      rw [List.getElem?_map, List.getElem?_range hjl] at hj
      injection hj with hj
      exact hj.symm
    subst hp
    obtain ⟨cs', h1, h2⟩ := hf j hjl
    obtain ⟨_, h3, h4⟩ := World.cells?_some h1
    refine ⟨cs', by rw [h3, hsz], h2, fun i u hu => ?_⟩
    have hil : i < P.cellsOf e := by
      have := List.getElem?_eq_some_iff.1 hu
      obtain ⟨h5, _⟩ := this
      rwa [h3] at h5
    rw [← hsz, ← Go.Deep.add_add, h4 i hil, hu]
instance : Inhabited RW := ⟨P.z38⟩
set_option maxRecDepth 100000 in
theorem openR {H : Type} {enc : TypeId × Value → H} {w : World} {fuel : Nat} {cs : List Value} {x : DataW H × List MemPlace} (hf : DataW.trod enc Tryd.prog w 0 (fun _ => true) true fuel 38 cs = some x) : ∃ a : RW, kRW.K w a cs := by
  obtain ⟨xs, m, hxf, hxe, hlen, hxs, hfs⟩ := DataW.trod_struct Tryd.underlying38 hf
  have kR_ : Tryd.prog.cellsOf 38 = 3 := by kernel_rfl
  have k3 : Tryd.prog.cellsOf 3 = 1 := by kernel_rfl
  have k31 : Tryd.prog.cellsOf 31 = 1 := by kernel_rfl
  rw [kR_] at hlen
  match cs, hlen, xs, hxs with
  | [x0, x1, x3], _, [y0, y1, y3], _ =>
    have f0 := hfs 0 _ rfl
    have f1 := hfs 1 _ rfl
    have f3 := hfs 2 _ rfl
    obtain ⟨n0, e0, _, _⟩ := DataW.trod_int Tryd.underlying3 f0
    obtain ⟨n1, e1, _, _⟩ := DataW.trod_int Tryd.underlying3 f1
    obtain rfl : x0 = .int .i64 n0 := by simpa [k3] using e0
    obtain rfl : x1 = .int .i64 n1 := by simpa [k3] using e1
    rcases open_ints Tryd.underlying31 Tryd.underlying3 k3 f3 with ⟨hcs, _⟩ | ⟨x, l, c, zs, hcs, _, hl, hm, hz, _, hcell, hwz⟩
    · obtain rfl : x3 = .slice none 0 0 := by simpa [k31, k3] using hcs
      exact ⟨⟨n0, n1, []⟩, P.k38_mk w ⟨n0, n1, []⟩ (Nat.le_refl _) (Kd.C_nil _ _)⟩
    · obtain ⟨l1, e1, hr1, hm1, hw1, hc1⟩ := ReadsInt.ofRowC (k := .i64) (w := w) (a := some x) (len := l) (cap := c) (zs := zs) (.inr ⟨x, rfl, hl, hm, by simpa using hz, hcell, hwz⟩)
      subst e1
      obtain rfl : x3 = .slice (some x) l1.length c := by simpa [k31, k3] using hcs
      exact ⟨⟨n0, n1, l1⟩, P.k38_mk w ⟨n0, n1, l1⟩ hc1 (Kd.C_of_reads (d := (0 : Int)) (h1 := fun _ => rfl) hr1)⟩
theorem openRs {H : Type} {enc : TypeId × Value → H} {W : World} {A0 : Option Addr} {n0 c0 : Nat} {d : DataW H} {p : List MemPlace} (h : DataW.Trod enc Tryd.prog W 0 (fun _ => true) true 22 (.slice A0 n0 c0) d p) :
    ∃ l0 : List RW, n0 = l0.length ∧ Kd.C kRW W A0 l0.length l0 ∧ l0.length ≤ c0 := by
  obtain ⟨fuel, hf⟩ := h
  obtain ⟨A, c, l, hcs, h1, h2⟩ := open_kd kRW Tryd.underlying22 (by kernel_rfl) (fun n cs x hx => openR hx) hf
  have hcs : [Value.slice A0 n0 c0] = [.slice A l.length c] := hcs
  injection hcs with e _
  injection e with e1 e2 e3
  subst e1 e2 e3
  exact ⟨l, rfl, h1, h2⟩
abbrev laidL : List (String × DataW Unit) := [("armillary/lex.keys", Rows.laid_armillary_lex_keys)]
theorem gKeys : Tryd.prog.globalNamed "armillary/lex.keys" = some 0 := by kernel_rfl
theorem tKeys : (Tryd.prog.globals[0]?).map (·.type) = some 91 := by kernel_rfl
theorem c9 : Tryd.prog.cellsOf 9 = 1 := by kernel_rfl
theorem keysD {H : Type} : (Rows.laid_armillary_lex_keys : DataW H) = .agg ((keysL.take 18).map fun s => .lit (.string s.data.toList)) := by kernel_rfl
theorem of_laid {W : World} (h : laidMetH Tryd.prog laidL W) : Keys W := by
  rw [MakeChecks.laidMetH_plain _ _ _ (by kernel_rfl)] at h
  obtain ⟨ps, ⟨g0, t0, cs0, f0, p0, q0, hg0, ht0, hv0, hd0, _, _⟩, _, _⟩ := h
  obtain rfl := Option.some.inj (gKeys.symm.trans hg0)
  obtain rfl := Option.some.inj (tKeys.symm.trans ht0)
  obtain ⟨xs, m1, rfl, hx1, hlen, hn3, hel⟩ := DataW.trod_array Tryd.underlying91 hd0
  simp only [Prod.mk.injEq] at hx1
  have hx2 := hx1.1
  rw [keysD, DataW.agg.injEq] at hx2
  intro i hi
  have h0 := hel i hi
  obtain ⟨y, hy⟩ : ∃ y, xs[i]? = some y := ⟨xs[i]'(by omega), List.getElem?_eq_getElem (by omega)⟩
  rw [hy] at h0
  obtain ⟨s, hs, he, _⟩ := DataW.trod_string Tryd.underlying9 h0
  rw [c9, Nat.mul_one] at hs
  have hcell : cs0.toList[i]? = some (.string s) := by
    have h1 : ((cs0.toList.drop i).take 1)[0]? = some (.string s) := by rw [hs]; rfl
    rw [List.getElem?_take_of_lt (by omega), List.getElem?_drop, Nat.add_zero] at h1
    exact h1
  have hk : (xs.map (·.1))[i]? = some (.lit (.string s.data.toList)) := by rw [List.getElem?_map, hy, he]; rfl
  rw [← hx2] at hk
  have hkl : keysL.length = 18 := by kernel_rfl
  have hki : keysL[i]? = some (keysL.getD i ByteArray.empty) := by
    rw [List.getD_eq_getElem?_getD, List.getElem?_eq_getElem (by omega)]; rfl
  rw [List.getElem?_map, List.getElem?_take_of_lt hi, hki] at hk
  simp only [Option.map_some, Option.some.injEq, DataW.lit.injEq, Lit.string.injEq] at hk
  have hss : keysL.getD i ByteArray.empty = s := by
    have h2 : (keysL.getD i ByteArray.empty).data = s.data := Array.toList_inj.1 hk
    cases hs1 : keysL.getD i ByteArray.empty with
    | mk a => rw [hs1] at h2; cases s; simp at h2; rw [h2]
  rw [hss]
  have := World.var?_cell hg0 hv0 i
  rw [this, ← Array.getElem?_toList, hcell]
/-- The door's own heap meets the condition. -/
theorem door_met (os : Os) (args : Array Value) : laidMetH Tryd.prog laidL ((World.doorLaid Tryd.prog 14 os).forCall (fun _ _ => 0) ⟨#[], args, []⟩).memory :=
  laidMetH_of_parts3 (fuel := 8) (laidMet_of_run' 8 (by kernel_rfl) (by kernel_rfl)) (by kernel_rfl) (by kernel_rfl)
end Go.Proofs.YtgppcpghpeenhaaDoor.RB
