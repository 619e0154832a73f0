/- The listed words as memory; graphs, facts, pairs as parameters. -/
import Derived.Test.YthkoockcfnbpiaaDoorProg
import Derived.Test.YthkoockcfnbpiaaDoorWWords
import Derived.Test.YthkoockcfnbpiaaDoorWLast
import Derived.Test.YthkoockcfnbpiaaDoorRows
import Derived.Test.YthkoockcfnbpiaaDoorW21
import Derived.ChangeArms
import Derived.ChangeSlices
import Derived.SliceStrings
import Derived.Deep.Slices
import Derived.LaidMore
import Derived.OpenShut
import Derived.Stop.Joined
import Derived.ProofKit
namespace Go.Proofs.YthkoockcfnbpiaaDoor.RA
open Go.ChangeShapes Go.WideShapes Go.ChangeAt Go.RowKit Go.Proofs.YthkoockcfnbpiaaDoorW.PrintWords Go.Proofs.YthkoockcfnbpiaaDoorW.PrintLast Go.Proofs.YthkoockcfnbpiaaDoorW.PrintMore Go.Proofs.YthkoockcfnbpiaaDoor L1 G1 F1 S8
set_option linter.unusedVariables false
set_option linter.unusedSimpArgs false
/-- A slice whose elements can be opened, opened. -/
theorem open_kd {α H : Type} {enc : TypeId × Value → H} {P : Program} {w : World} {sp : Nat → Bool} {held : Bool} (d : Kd α) [Inhabited α] {t e : TypeId} {fuel : Nat} {cs : List Value} {x : DataW H × List MemPlace} (ht : P.underlying t = some (.slice e)) (hsz : P.cellsOf e = d.sz)
    (hk : ∀ (n : Nat) (cs : List Value) (x : DataW H × List MemPlace), DataW.trod enc P w 0 sp held n e cs = some x → ∃ a, d.K w a cs) (h : DataW.trod enc P w 0 sp held fuel t cs = some x) :
    ∃ (A : Option Addr) (c : Nat) (l : List α), cs = [.slice A l.length c] ∧ Kd.C d w A l.length l ∧ l.length ≤ c := by
  rcases Go.Deep.open_slice ht h with ⟨rfl, _⟩ | ⟨a, len, cap, m, n, D, Pl, rfl, _, hl, hm, hmm, rfl, hx⟩
  · exact ⟨none, 0, [], rfl, Kd.C_nil _ _, Nat.le_refl _⟩
  · have hlm : len ≤ m := by rw [hmm]; split <;> omega
    obtain ⟨f, hf⟩ := Go.Deep.choose_lt (n := len) (p := fun i (y : α) => ∃ cs', w.cells? 0 (a.add (i * P.cellsOf e)) (P.cellsOf e) = some cs' ∧ d.K w y cs') (fun i hi => by
      obtain ⟨cs', h1, h2⟩ := hx i (by omega)
      obtain ⟨y, hy⟩ := hk n cs' _ h2
      exact ⟨y, cs', h1, hy⟩)
    have hlen : ((List.range len).map f).length = len := by simp
    refine ⟨some a, cap, (List.range len).map f, by rw [hlen], ?_, by rw [hlen]; exact hl⟩
    rw [hlen]
    have hmx : maxLen ≤ 9223372036854775807 := by decide
    refine ⟨hlen, by omega, fun _ => ⟨a, rfl, fun j p hj => ?_⟩⟩
    have hjl : j < len := by
      have := List.getElem?_eq_some_iff.1 hj
      obtain ⟨h1, _⟩ := this
      rwa [hlen] at h1
    have hp : p = f j := by
      rw [List.getElem?_map, List.getElem?_range hjl] at hj
      injection hj with hj
      exact hj.symm
    subst hp
    obtain ⟨cs', h1, h2⟩ := hf j hjl
    obtain ⟨_, h3, h4⟩ := World.cells?_some h1
    refine ⟨cs', by rw [h3, hsz], h2, fun i u hu => ?_⟩
    have hil : i < P.cellsOf e := by
      have := List.getElem?_eq_some_iff.1 hu
      obtain ⟨h5, _⟩ := this
      rwa [h3] at h5
    rw [← hsz, ← Go.Deep.add_add, h4 i hil, hu]
instance : Inhabited GN := ⟨P.z45⟩
instance : Inhabited FC := ⟨P.z37⟩
theorem openInts {H : Type} {enc : TypeId × Value → H} {w : World} {fuel : Nat} {cs : List Value} {x : DataW H × List MemPlace} (h : DataW.trod enc Tryd.prog w 0 (fun _ => true) true fuel 30 cs = some x) :
    ∃ (A : Option Addr) (c : Nat) (l : List Int), cs = [.slice A l.length c] ∧ Kd.C (Kd.int .i64) w A l.length l ∧ l.length ≤ c :=
  open_kd (Kd.int .i64) Tryd.underlying30 (by kernel_rfl) (fun n cs x hx => by
    obtain ⟨s, e, _, _⟩ := DataW.trod_int Tryd.underlying3 hx
    exact ⟨s, e⟩) h
instance : Inhabited ByteArray := ⟨ByteArray.empty⟩
theorem openStrs {H : Type} {enc : TypeId × Value → H} {w : World} {fuel : Nat} {cs : List Value} {x : DataW H × List MemPlace} (h : DataW.trod enc Tryd.prog w 0 (fun _ => true) true fuel 43 cs = some x) :
    ∃ (A : Option Addr) (c : Nat) (l : List ByteArray), cs = [.slice A l.length c] ∧ Kd.C Kd.string w A l.length l ∧ l.length ≤ c :=
  open_kd Kd.string Tryd.underlying43 (by kernel_rfl) (fun n cs x hx => by
    obtain ⟨s, e, _, _⟩ := DataW.trod_string Tryd.underlying9 hx
    exact ⟨s, e⟩) h
set_option maxRecDepth 100000 in
theorem openG {H : Type} {enc : TypeId × Value → H} {w : World} {fuel : Nat} {cs : List Value} {x : DataW H × List MemPlace} (hf : DataW.trod enc Tryd.prog w 0 (fun _ => true) true fuel 45 cs = some x) : ∃ a : GN, P.k45.K w a cs := by
  obtain ⟨xs, m, hxf, hxe, hlen, hxs, hfs⟩ := DataW.trod_struct Tryd.underlying45 hf
  have kR_ : Tryd.prog.cellsOf 45 = 5 := by kernel_rfl
  have k3 : Tryd.prog.cellsOf 3 = 1 := by kernel_rfl
  have k9 : Tryd.prog.cellsOf 9 = 1 := by kernel_rfl
  have k31 : Tryd.prog.cellsOf 30 = 1 := by kernel_rfl
  have k32 : Tryd.prog.cellsOf 43 = 1 := by kernel_rfl
  rw [kR_] at hlen
  match cs, hlen, xs, hxs with
  | [x0, x1, x2, x3, x4], _, [y0, y1, y2, y3, y4], _ =>
    have f0 := hfs 0 _ rfl
    have f1 := hfs 1 _ rfl
    have f2 := hfs 2 _ rfl
    have f3 := hfs 3 _ rfl
    have f4 := hfs 4 _ rfl
    obtain ⟨n0, e0, _, _⟩ := DataW.trod_int Tryd.underlying3 f0
    obtain ⟨n1, e1, _, _⟩ := DataW.trod_int Tryd.underlying3 f1
    obtain ⟨s, e2, _, _⟩ := DataW.trod_string Tryd.underlying9 f2
    obtain ⟨A3, c3, l3, e3, h3, g3⟩ := openStrs f3
    obtain ⟨A4, c4, l4, e4, h4, g4⟩ := openInts f4
    obtain rfl : x0 = .int .i64 n0 := by simpa [k3] using e0
    obtain rfl : x1 = .int .i64 n1 := by simpa [k3] using e1
    obtain rfl : x2 = .string s := by simpa [k3, k9] using e2
    obtain rfl : x3 = .slice A3 l3.length c3 := by simpa [k3, k9, k32] using e3
    obtain rfl : x4 = .slice A4 l4.length c4 := by simpa [k3, k9, k31, k32] using e4
    exact ⟨⟨n0, n1, s, l3, l4⟩, P.k45_mk w ⟨n0, n1, s, l3, l4⟩ g3 h3 g4 h4⟩
set_option maxRecDepth 100000 in
theorem openF {H : Type} {enc : TypeId × Value → H} {w : World} {fuel : Nat} {cs : List Value} {x : DataW H × List MemPlace} (hf : DataW.trod enc Tryd.prog w 0 (fun _ => true) true fuel 37 cs = some x) : ∃ a : FC, P.k37.K w a cs := by
  obtain ⟨xs, m, hxf, hxe, hlen, hxs, hfs⟩ := DataW.trod_struct Tryd.underlying37 hf
  have kR_ : Tryd.prog.cellsOf 37 = 3 := by kernel_rfl
  have k3 : Tryd.prog.cellsOf 3 = 1 := by kernel_rfl
  have k31 : Tryd.prog.cellsOf 30 = 1 := by kernel_rfl
  rw [kR_] at hlen
  match cs, hlen, xs, hxs with
  | [x0, x1, x3], _, [y0, y1, y3], _ =>
    have f0 := hfs 0 _ rfl
    have f1 := hfs 1 _ rfl
    have f3 := hfs 2 _ rfl
    obtain ⟨n0, e0, _, _⟩ := DataW.trod_int Tryd.underlying3 f0
    obtain ⟨n1, e1, _, _⟩ := DataW.trod_int Tryd.underlying3 f1
    obtain ⟨A3, c3, l3, e3, h3, g3⟩ := openInts f3
    obtain rfl : x0 = .int .i64 n0 := by simpa [k3] using e0
    obtain rfl : x1 = .int .i64 n1 := by simpa [k3] using e1
    obtain rfl : x3 = .slice A3 l3.length c3 := by simpa [k3, k31] using e3
    exact ⟨⟨n0, n1, l3⟩, P.k37_mk w ⟨n0, n1, l3⟩ g3 h3⟩
theorem openGs {H : Type} {enc : TypeId × Value → H} {W : World} {A0 : Option Addr} {n0 c0 : Nat} {d : DataW H} {p : List MemPlace} (h : DataW.Trod enc Tryd.prog W 0 (fun _ => true) true 22 (.slice A0 n0 c0) d p) :
    ∃ l0 : List GN, n0 = l0.length ∧ Kd.C P.k45 W A0 l0.length l0 ∧ l0.length ≤ c0 := by
  obtain ⟨fuel, hf⟩ := h
  obtain ⟨A, c, l, hcs, h1, h2⟩ := open_kd P.k45 Tryd.underlying22 (by kernel_rfl) (fun n cs x hx => openG hx) hf
  have hcs : [Value.slice A0 n0 c0] = [.slice A l.length c] := hcs
  injection hcs with e _
  injection e with e1 e2 e3
  subst e1 e2 e3
  exact ⟨l, rfl, h1, h2⟩
theorem openFs {H : Type} {enc : TypeId × Value → H} {W : World} {A0 : Option Addr} {n0 c0 : Nat} {d : DataW H} {p : List MemPlace} (h : DataW.Trod enc Tryd.prog W 0 (fun _ => true) true 29 (.slice A0 n0 c0) d p) :
    ∃ l0 : List FC, n0 = l0.length ∧ Kd.C P.k37 W A0 l0.length l0 ∧ l0.length ≤ c0 := by
  obtain ⟨fuel, hf⟩ := h
  obtain ⟨A, c, l, hcs, h1, h2⟩ := open_kd P.k37 Tryd.underlying29 (by kernel_rfl) (fun n cs x hx => openF hx) hf
  have hcs : [Value.slice A0 n0 c0] = [.slice A l.length c] := hcs
  injection hcs with e _
  injection e with e1 e2 e3
  subst e1 e2 e3
  exact ⟨l, rfl, h1, h2⟩
set_option maxRecDepth 100000 in
theorem openP2 {H : Type} {enc : TypeId × Value → H} {w : World} {fuel : Nat} {cs : List Value} {x : DataW H × List MemPlace} (hf : DataW.trod enc Tryd.prog w 0 (fun _ => true) true fuel 28 cs = some x) : ∃ a : Int × Int, kP.K w a cs := by
  obtain ⟨xs, m1, _, _, hlen, hn, hel⟩ := DataW.trod_array Tryd.underlying28 hf
  have k3 : Tryd.prog.cellsOf 3 = 1 := by kernel_rfl
  have k2 : Tryd.prog.cellsOf 28 = 2 := by kernel_rfl
  rw [k2] at hlen
  match cs, hlen with
  | [a, b], _ =>
    have h0 := hel 0 (by decide)
    have h1 := hel 1 (by decide)
    match xs, hn with
    | [x0, x1], _ =>
      obtain ⟨n0, e0, _, _⟩ := DataW.trod_int Tryd.underlying3 (show DataW.trod _ _ _ _ _ _ _ _ _ = some x0 from h0)
      obtain ⟨n1, e1, _, _⟩ := DataW.trod_int Tryd.underlying3 (show DataW.trod _ _ _ _ _ _ _ _ _ = some x1 from h1)
      rw [k3] at e0 e1
      simp at e0 e1
      exact ⟨(n0, n1), [.int .i64 n0], [.int .i64 n1], by rw [e0, e1]; rfl, rfl, rfl⟩
instance : Inhabited (Int × Int) := ⟨(0, 0)⟩
theorem openPs {H : Type} {enc : TypeId × Value → H} {W : World} {A0 : Option Addr} {n0 c0 : Nat} {d : DataW H} {p : List MemPlace} (h : DataW.Trod enc Tryd.prog W 0 (fun _ => true) true 23 (.slice A0 n0 c0) d p) :
    ∃ l0 : List (Int × Int), n0 = l0.length ∧ Kd.C kP W A0 l0.length l0 ∧ l0.length ≤ c0 := by
  obtain ⟨fuel, hf⟩ := h
  obtain ⟨A, c, l, hcs, h1, h2⟩ := open_kd kP Tryd.underlying23 (by kernel_rfl) (fun n cs x hx => openP2 hx) hf
  have hcs : [Value.slice A0 n0 c0] = [.slice A l.length c] := hcs
  injection hcs with e _
  injection e with e1 e2 e3
  subst e1 e2 e3
  exact ⟨l, rfl, h1, h2⟩
set_option maxRecDepth 100000 in
theorem okWide_arr3 {w : World} {r : Reach} {base : Nat} {v : Value} (h : Value.okWide Tryd.prog w r base 49 v) : ∃ cs : Array Value, v = .agg cs ∧ cs.size = 3 := by
  simp only [Value.okWide, Tryd.underlying49] at h
  obtain ⟨cs, h1, h2, _⟩ := h
  exact ⟨cs, h1, by rw [h2]; kernel_rfl⟩
set_option maxRecDepth 100000 in
theorem openA3 {H : Type} {enc : TypeId × Value → H} {W : World} {cs : Array Value} {d : DataW H} {p : List MemPlace} (hs : cs.size = 3) (h : DataW.Trod enc Tryd.prog W 0 (fun _ => true) true 49 (.agg cs) d p) :
    ∃ x y z : Int, cs = #[.int .i64 x, .int .i64 y, .int .i64 z] := by
  obtain ⟨fuel, hf⟩ := h
  obtain ⟨xs, m1, _, _, hlen, hn, hel⟩ := DataW.trod_array Tryd.underlying49 hf
  have hc : (Value.agg cs).cells = cs := rfl
  rw [hc] at hel
  obtain ⟨l⟩ := cs
  match l, hs with
  | [a, b, c], _ =>
    have k3 : Tryd.prog.cellsOf 3 = 1 := by kernel_rfl
    have h0 := hel 0 (by decide)
    have h1 := hel 1 (by decide)
    have h2 := hel 2 (by decide)
    match xs, hn with
    | [x0, x1, x2], _ =>
      obtain ⟨n0, e0, _, _⟩ := DataW.trod_int Tryd.underlying3 (show DataW.trod _ _ _ _ _ _ _ _ _ = some x0 from h0)
      obtain ⟨n1, e1, _, _⟩ := DataW.trod_int Tryd.underlying3 (show DataW.trod _ _ _ _ _ _ _ _ _ = some x1 from h1)
      obtain ⟨n2, e2, _, _⟩ := DataW.trod_int Tryd.underlying3 (show DataW.trod _ _ _ _ _ _ _ _ _ = some x2 from h2)
      rw [k3] at e0 e1 e2
      simp at e0 e1 e2
      exact ⟨n0, n1, n2, by rw [e0, e1, e2]⟩
abbrev laidL : List (String × DataW Unit) := [("armillary/lex.keys", Rows.laid_armillary_lex_keys)]
theorem gKeys : Tryd.prog.globalNamed "armillary/lex.keys" = some 0 := by kernel_rfl
theorem tKeys : (Tryd.prog.globals[0]?).map (·.type) = some 109 := by kernel_rfl
theorem c9 : Tryd.prog.cellsOf 9 = 1 := by kernel_rfl
theorem keysD {H : Type} : (Rows.laid_armillary_lex_keys : DataW H) = .agg ((keysL.take 18).map fun s => .lit (.string s.data.toList)) := by kernel_rfl
theorem of_laid {W : World} (h : laidMetH Tryd.prog laidL W) : Keys W := by
  rw [MakeChecks.laidMetH_plain _ _ _ (by kernel_rfl)] at h
  obtain ⟨ps, ⟨g0, t0, cs0, f0, p0, q0, hg0, ht0, hv0, hd0, _, _⟩, _, _⟩ := h
  obtain rfl := Option.some.inj (gKeys.symm.trans hg0)
  obtain rfl := Option.some.inj (tKeys.symm.trans ht0)
  obtain ⟨xs, m1, rfl, hx1, hlen, hn3, hel⟩ := DataW.trod_array Tryd.underlying109 hd0
  simp only [Prod.mk.injEq] at hx1
  have hx2 := hx1.1
  rw [keysD, DataW.agg.injEq] at hx2
  intro i hi
  have h0 := hel i hi
  obtain ⟨y, hy⟩ : ∃ y, xs[i]? = some y := ⟨xs[i]'(by omega), List.getElem?_eq_getElem (by omega)⟩
  rw [hy] at h0
  obtain ⟨s, hs, he, _⟩ := DataW.trod_string Tryd.underlying9 h0
  rw [c9, Nat.mul_one] at hs
  have hcell : cs0.toList[i]? = some (.string s) := by
    have h1 : ((cs0.toList.drop i).take 1)[0]? = some (.string s) := by rw [hs]; rfl
    rw [List.getElem?_take_of_lt (by omega), List.getElem?_drop, Nat.add_zero] at h1
    exact h1
  have hk : (xs.map (·.1))[i]? = some (.lit (.string s.data.toList)) := by rw [List.getElem?_map, hy, he]; rfl
  rw [← hx2] at hk
  have hkl : keysL.length = 18 := by kernel_rfl
  have hki : keysL[i]? = some (keysL.getD i ByteArray.empty) := by
    rw [List.getD_eq_getElem?_getD, List.getElem?_eq_getElem (by omega)]; rfl
  rw [List.getElem?_map, List.getElem?_take_of_lt hi, hki] at hk
  simp only [Option.map_some, Option.some.injEq, DataW.lit.injEq, Lit.string.injEq] at hk
  have hss : keysL.getD i ByteArray.empty = s := by
    have h2 : (keysL.getD i ByteArray.empty).data = s.data := Array.toList_inj.1 hk
    cases hs1 : keysL.getD i ByteArray.empty with
    | mk a => rw [hs1] at h2; cases s; simp at h2; rw [h2]
  rw [hss]
  have := World.var?_cell hg0 hv0 i
  rw [this, ← Array.getElem?_toList, hcell]
/-- The door's own heap meets the condition. -/
theorem door_met (os : Os) (args : Array Value) : laidMetH Tryd.prog laidL ((World.doorLaid Tryd.prog 14 os).forCall (fun _ _ => 0) ⟨#[], args, []⟩).memory :=
  laidMetH_of_parts3 (fuel := 8) (laidMet_of_run' 8 (by kernel_rfl) (by kernel_rfl)) (by kernel_rfl) (by kernel_rfl)
end Go.Proofs.YthkoockcfnbpiaaDoor.RA
