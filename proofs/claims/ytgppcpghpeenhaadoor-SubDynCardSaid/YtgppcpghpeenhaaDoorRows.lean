/-
  NARROWER THAN 'FOR EVERY INPUT', by the rows' own cells (each row's printed sentence says how): SubDyn: laid.
  DERIVED. THE GIVEN ROWS OF THIS SEAT. 1 by the template 'for every input the law returns true; each argument reads behind the call as it read before'; 0 by the template 'total and deterministic' (their statements: YtgppcpghpeenhaaDoorTotals.lean).
  GIVEN WITH THE SEED: the statements are not yours to turn. If you find one false, say at which input.
  Laid BY PROGRAM, IN A SANDBOX (cutbox-rows.mjs): the forced cells as the released guide's own fill.sh prints them over the translation 97942f6dbcfd3a27… (all of the seat's roots in one cut). By AI agents, Wed Nov 11 2026. No macro, syntax, notation, axiom, sorry.
-/
import Derived.Test.YtgppcpghpeenhaaDoorChecked
import GoSem.Claim
import GoSem.ClaimJoined
import GoSem.ClaimMapViews
import Derived.JoinedTies
import Derived.KernelRfl
namespace Go.Proofs.YtgppcpghpeenhaaDoor
/- THE CELL 'sum', in the pinned program and in every row, IS THE sha256 OF THE DUMP (.gsa) THAT YtgppcpghpeenhaaDoorProg.lean LOADS. Nothing in Lean hashes anything: it is a label: what it is worth is what the hold of that sum in a sandbox is worth. -/
noncomputable def Tryd.pinned : Pinned := { name := "ytgppcpghpeenhaadoor", sum := "97942f6dbcfd3a27edad2f54dd3f824047b8362e08652ab5209e7ec85789ecf0", checked := Tryd.checked }
namespace Rows
def none {H : Type} : Left H := { results := [], args := [] }

/- WHAT THE LISTED PACKAGE-LEVEL VARIABLES READ AS WHEN THE CALL BEGINS. Each datum BY PROGRAM (the guide's laid-datum.mjs) off the statement by which the dump's own 'gosem.cut.vars' lays the variable. In a bare row this is a premise. The card (YtgppcpghpeenhaaDoorCards.lean) ties it to the program's text. -/
def laid_armillary_lex_keys {H : Type} : DataW H := .agg [.lit (.string [109, 111, 100, 117, 108, 101]), .lit (.string [105, 109, 112, 111, 114, 116]), .lit (.string [116, 121, 112, 101]), .lit (.string [102, 110]), .lit (.string [108, 101, 116]), .lit (.string [105, 110]), .lit (.string [105, 102]), .lit (.string [116, 104, 101, 110]), .lit (.string [101, 108, 115, 101]), .lit (.string [105, 115]), .lit (.string [97, 115]), .lit (.string [116, 114, 117, 101]), .lit (.string [102, 97, 108, 115, 101]), .lit (.string [110, 117, 108, 108]), .lit (.string [100, 121, 110]), .lit (.string [98, 111, 111, 108]), .lit (.string [105, 110, 116]), .lit (.string [114, 101, 99])]

/-- 'armillarylaw08.SubDyn': WHATEVER THE INPUT: true; the input reads as it did. -/
def subDynSpec : ChangeSpec := { name := "subDyn", fn := fun _ => fun
  | [d1, d2] => { results := [.lit (.bool true)], args := [d1, d2] }
  | _ => none }
def subDynRow : OpenClaim := { program := "ytgppcpghpeenhaadoor", sum := "97942f6dbcfd3a27edad2f54dd3f824047b8362e08652ab5209e7ec85789ecf0", func := "armillary/armillarylaw08.SubDyn", spec := "subDyn", unfollowed := true, recurses := true, named := ["armillary/lex.keys"], plainKeys := false, apart := false, laid := [("armillary/lex.keys", laid_armillary_lex_keys)] }
def SubDynSaid : Prop := subDynRow.holds Tryd.pinned (OpenSpec.ofChange subDynSpec)

/-- ITS FALSE NEIGHBOUR: 'it returns false'. Refute it at one input. -/
def subDynWrong : ChangeSpec := { name := "subDyn", fn := fun _ => fun
  | [d1, d2] => { results := [.lit (.bool false)], args := [d1, d2] }
  | _ => none }
def SubDynWrongFalsely : Prop := subDynRow.holds Tryd.pinned (OpenSpec.ofChange subDynWrong)

/- THE SECOND FORM. 'bulk': how many values and letters a reading holds, each counted each time it is reached (what is shared counts as often as it is met; a slice's spare places count too). A statement '..UptoSaid' is the law's where the arguments, and the package variables that the reading takes, are together of bulk at most 1048576: NARROWER than '..Said'. Prove '..Said' where nothing that the law and all that it calls make is longer than what came in: it says more and counts as full. Else prove '..UptoSaid'. A law counts once. -/
mutual
def uptoBulk {H : Type} : DataW H → Nat
  | .lit (.string bytes) => bytes.length + 1
  | .lit _ => 1
  | .nil => 1
  | .ptr d => uptoBulk d + 1
  | .slice elems spare => uptoBulkAll elems + uptoBulkAll spare + 1
  | .agg parts => uptoBulkAll parts + 1
  | .iface _ d => uptoBulk d + 1
  | .map entries => uptoBulkEntries entries + 1
  | .held _ => 1
def uptoBulkAll {H : Type} : List (DataW H) → Nat
  | [] => 0
  | d :: r => uptoBulk d + uptoBulkAll r
def uptoBulkEntries {H : Type} : List (Lit × DataW H) → Nat
  | [] => 0
  | x :: r => uptoBulkEntry x + uptoBulkEntries r
def uptoBulkEntry {H : Type} : Lit × DataW H → Nat
  | (.string bytes, d) => bytes.length + uptoBulk d + 1
  | (_, d) => uptoBulk d + 1
 end
def uptoSmall : (H : Type) → List (DataW H) → Bool := fun _ ds => decide (uptoBulkAll ds ≤ 1048576)
def OpenSpec.upto (s : _root_.Go.ChangeSpec) : _root_.Go.OpenSpec := { _root_.Go.OpenSpec.ofChange s with cond := some uptoSmall }

/-- 'armillarylaw08.SubDyn', WHERE WHAT IT READS IS OF BULK AT MOST 1048576: true; the input reads as it did. -/
def subDynUptoRow : OpenClaim := { program := "ytgppcpghpeenhaadoor", sum := "97942f6dbcfd3a27edad2f54dd3f824047b8362e08652ab5209e7ec85789ecf0", func := "armillary/armillarylaw08.SubDyn", spec := "subDyn", unfollowed := true, recurses := true, named := ["armillary/lex.keys"], plainKeys := false, apart := false, laid := [("armillary/lex.keys", laid_armillary_lex_keys)], narrowed := true }
def SubDynUptoSaid : Prop := subDynUptoRow.holds Tryd.pinned (OpenSpec.upto subDynSpec)

end Rows
end Go.Proofs.YtgppcpghpeenhaaDoor
