-- Written by a program of this session (hyb.py) that runs the kit's printer with some functions given.
import Derived.Test.YtcpnjlagmnlecaaProg
import Derived.Below
import Derived.Deep.Draws
import Derived.Deep.AppendLies
import Derived.Maps.AppendAt
import Derived.OwnWalk
import Derived.Laws.BytesArg
import Derived.Laws.MakeOwn
import Derived.Laws.OwnMore
import Derived.Deep.OwnRows
import Derived.Tactics
import Derived.Lib.ConvBytes
import Derived.Laws.Slices
import Derived.WalkKit
import Derived.KernelRfl
import Derived.RowKit3
import Derived.Deep.LoopGhost
import Derived.Deep.QuietTactic
import Derived.BigQuiet
import Derived.WideLaws
import Derived.Deep.DeepCutAuto
import Derived.Deep.CutBlock
import Derived.Deep.RegionHeld3
import Derived.Laws.Rows
import Derived.Lib.AppendStr
import Derived.ArgAppend
import Derived.Laws.IdiomCopy
import Derived.OrdersHeld
import Derived.Laws.BitsLemmas
import Derived.RowKit
import Derived.Test.YtcpnjlagmnlecaaA1
import Derived.Test.YtcpnjlagmnlecaaA2
import Derived.Test.YtcpnjlagmnlecaaA9
import Derived.Test.YtcpnjlagmnlecaaB1
import Derived.Test.YtcpnjlagmnlecaaB2
import Derived.Test.YtcpnjlagmnlecaaWWords
import Derived.Test.YtcpnjlagmnlecaaWLast
import Derived.Test.YtcpnjlagmnlecaaWTab
import Derived.Test.YtcpnjlagmnlecaaWFour
import Derived.Test.YtcpnjlagmnlecaaWQPut
import Derived.Test.YtcpnjlagmnlecaaWApart
import Derived.Test.YtcpnjlagmnlecaaWArr
import Derived.Test.YtcpnjlagmnlecaaWZeros
import Derived.Test.YtcpnjlagmnlecaaWFoot
import Derived.Test.YtcpnjlagmnlecaaWKept
import Derived.Test.YtcpnjlagmnlecaaWShare
import Derived.Test.YtcpnjlagmnlecaaWN
import Derived.Test.YtcpnjlagmnlecaaWFootNe
import Derived.Test.YtcpnjlagmnlecaaWAt
import Derived.Test.YtcpnjlagmnlecaaWEqStruct
import Derived.Test.YtcpnjlagmnlecaaWRepsOne
import Derived.Test.YtcpnjlagmnlecaaWInv
import Derived.Test.YtcpnjlagmnlecaaWInvWords
import Derived.Test.YtcpnjlagmnlecaaWGuard
import Derived.Test.YtcpnjlagmnlecaaWNEv
import Derived.Test.YtcpnjlagmnlecaaWMore
namespace Go.Proofs.Ytcpnjlagmnlecaa.G
open Go.RowKit Go.Proofs.Ytcpnjlagmnlecaa.A1 Go.Proofs.Ytcpnjlagmnlecaa.A2 Go.Proofs.Ytcpnjlagmnlecaa.A9 Go.Proofs.Ytcpnjlagmnlecaa.B1 Go.Proofs.Ytcpnjlagmnlecaa.B2 Go.Proofs.YtcpnjlagmnlecaaW.PrintWords Go.Proofs.YtcpnjlagmnlecaaW.PrintLast Go.Proofs.YtcpnjlagmnlecaaW.PrintMore
attribute [local go_sem] max2_int min2_int max_two min_two max_three min_three max_four min_four   -- for this text's walks alone
set_option linter.unusedVariables false
set_option linter.unusedSimpArgs false



def errW : Option Int → Value
  | none => .nilIface
  | some c => .iface 0 (.int .i64 c)
theorem errW_none : errW none = .nilIface := rfl
theorem errW_some (c : Int) : errW (some c) = .iface 0 (.int .i64 c) := rfl

theorem info5 : (Try.prog.info? 5).map (fun i => (i.zero, i.size, i.bytes)) = some (some (.int .u8 0), 1, 1) := by kernel_rfl
-- the values' own types

end Go.Proofs.Ytcpnjlagmnlecaa.G
