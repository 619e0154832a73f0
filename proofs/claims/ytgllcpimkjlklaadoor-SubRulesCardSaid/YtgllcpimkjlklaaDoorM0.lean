/- Members, in the printer's form. -/
import Derived.Test.YtgllcpimkjlklaaDoorProg
import Derived.Below
import Derived.Deep.Draws
import Derived.Deep.AppendLies
import Derived.Maps.AppendAt
import Derived.OwnWalk
import Derived.Laws.BytesArg
import Derived.Laws.MakeOwn
import Derived.Laws.OwnMore
import Derived.Deep.OwnRows
import Derived.Tactics
import Derived.Lib.ConvBytes
import Derived.Laws.Slices
import Derived.WalkKit
import Derived.KernelRfl
import Derived.RowKit3
import Derived.Deep.LoopGhost
import Derived.Deep.QuietTactic
import Derived.BigQuiet
import Derived.WideLaws
import Derived.Deep.DeepCutAuto
import Derived.Deep.CutBlock
import Derived.Deep.RegionHeld3
import Derived.Laws.Rows
import Derived.Lib.AppendStr
import Derived.ArgAppend
import Derived.Laws.IdiomCopy
import Derived.OrdersHeld
import Derived.Laws.BitsLemmas
import Derived.RowKit
import Derived.WalkSpells
import Derived.Laws.CopyOwn
import Derived.Test.YtgllcpimkjlklaaDoorWWords
import Derived.Test.YtgllcpimkjlklaaDoorWLast
import Derived.Test.YtgllcpimkjlklaaDoorG2
namespace Go.Proofs.YtgllcpimkjlklaaDoor.M0
open Go.RowKit Go.Proofs.YtgllcpimkjlklaaDoorW.PrintWords Go.Proofs.YtgllcpimkjlklaaDoorW.PrintLast Go.Proofs.YtgllcpimkjlklaaDoorW.PrintMore Go.Proofs.YtgllcpimkjlklaaDoor Go.Proofs.YtgllcpimkjlklaaDoor.G1 Go.Proofs.YtgllcpimkjlklaaDoor.G2
set_option linter.unusedVariables false
set_option linter.unusedSimpArgs false
def smallG (g : List GN) : Bool := g.all (fun x => decide (x.f4.length ≤ 1000000000))
def members.f (l0 : List GN) (a1 : Int) : Option (List Int) := if smallG l0 = true then some (membersP l0 a1) else none
theorem members.calls (A0 : Option Addr) (c0 : Nat) (l0 : List GN) (a1 : Int) (r : List Int) (w : World) (hr0 : Kd.C P.k37 w A0 l0.length l0) (hc0 : l0.length ≤ c0) (h : members.f l0 a1 = some r) :
    Calls Tryd.prog 18 #[.slice A0 l0.length c0, .int .i64 a1] w fun e w' => ∃ v0_ : Value, e = .returned v0_ ∧ Kd.R (Kd.int .i64) 3 w' w.heap.size (fun _ => True) v0_ r ∧ Below w.heap.size w w' := by
  unfold members.f at h
  by_cases hs : smallG l0 = true
  · rw [if_pos hs] at h
    cases h
    exact members_yes A0 c0 l0 a1 w hr0 hc0 (fun x hx => of_decide_eq_true (List.all_eq_true.1 hs x hx))
  · rw [if_neg hs] at h
    cases h
end Go.Proofs.YtgllcpimkjlklaaDoor.M0
