/-
  NARROWER THAN 'FOR EVERY INPUT', by the rows' own cells (each row's printed sentence says how): FactWhole: laid · FactNeeded: laid · FactCasts: laid · FactTurned: laid · FactSound: laid.
  DERIVED. THE GIVEN ROWS OF THIS SEAT. 5 by the template 'for every input the law returns true; each argument reads behind the call as it read before'; 0 by the template 'total and deterministic' (their statements: YthkoockcfnbpiaaDoorTotals.lean).
  GIVEN WITH THE SEED: the statements are not yours to turn. If you find one false, say at which input.
  Laid BY PROGRAM, IN A SANDBOX (cutbox-rows.mjs): the forced cells as the released guide's own fill.sh prints them over the translation 90729ef2c98d2c6c… (all of the seat's roots in one cut). By AI agents, Wed Nov 11 2026. No macro, syntax, notation, axiom, sorry.
-/
import Derived.Test.YthkoockcfnbpiaaDoorChecked
import GoSem.Claim
import GoSem.ClaimJoined
import GoSem.ClaimMapViews
import Derived.JoinedTies
import Derived.KernelRfl
namespace Go.Proofs.YthkoockcfnbpiaaDoor
/- THE CELL 'sum', in the pinned program and in every row, IS THE sha256 OF THE DUMP (.gsa) THAT YthkoockcfnbpiaaDoorProg.lean LOADS. Nothing in Lean hashes anything: it is a label: what it is worth is what the hold of that sum in a sandbox is worth. -/
noncomputable def Tryd.pinned : Pinned := { name := "ythkoockcfnbpiaadoor", sum := "90729ef2c98d2c6c0fb015b9c1250c446486a06d93c001e98898039a628ea44f", checked := Tryd.checked }
namespace Rows
def none {H : Type} : Left H := { results := [], args := [] }

/- WHAT THE LISTED PACKAGE-LEVEL VARIABLES READ AS WHEN THE CALL BEGINS. Each datum BY PROGRAM (the guide's laid-datum.mjs) off the statement by which the dump's own 'gosem.cut.vars' lays the variable. In a bare row this is a premise. The card (YthkoockcfnbpiaaDoorCards.lean) ties it to the program's text. -/
def laid_armillary_lex_keys {H : Type} : DataW H := .agg [.lit (.string [109, 111, 100, 117, 108, 101]), .lit (.string [105, 109, 112, 111, 114, 116]), .lit (.string [116, 121, 112, 101]), .lit (.string [102, 110]), .lit (.string [108, 101, 116]), .lit (.string [105, 110]), .lit (.string [105, 102]), .lit (.string [116, 104, 101, 110]), .lit (.string [101, 108, 115, 101]), .lit (.string [105, 115]), .lit (.string [97, 115]), .lit (.string [116, 114, 117, 101]), .lit (.string [102, 97, 108, 115, 101]), .lit (.string [110, 117, 108, 108]), .lit (.string [100, 121, 110]), .lit (.string [98, 111, 111, 108]), .lit (.string [105, 110, 116]), .lit (.string [114, 101, 99])]

/-- 'armillarylaw12.FactWhole': WHATEVER THE INPUT: true; the input reads as it did. -/
def factWholeSpec : ChangeSpec := { name := "factWhole", fn := fun _ => fun
  | [d1, d2] => { results := [.lit (.bool true)], args := [d1, d2] }
  | _ => none }
def factWholeRow : OpenClaim := { program := "ythkoockcfnbpiaadoor", sum := "90729ef2c98d2c6c0fb015b9c1250c446486a06d93c001e98898039a628ea44f", func := "armillary/armillarylaw12.FactWhole", spec := "factWhole", unfollowed := true, recurses := true, named := ["armillary/lex.keys"], plainKeys := false, apart := false, laid := [("armillary/lex.keys", laid_armillary_lex_keys)] }
def FactWholeSaid : Prop := factWholeRow.holds Tryd.pinned (OpenSpec.ofChange factWholeSpec)

/-- ITS FALSE NEIGHBOUR: 'it returns false'. Refute it at one input. -/
def factWholeWrong : ChangeSpec := { name := "factWhole", fn := fun _ => fun
  | [d1, d2] => { results := [.lit (.bool false)], args := [d1, d2] }
  | _ => none }
def FactWholeWrongFalsely : Prop := factWholeRow.holds Tryd.pinned (OpenSpec.ofChange factWholeWrong)

/-- 'armillarylaw12.FactNeeded': WHATEVER THE INPUT: true; the input reads as it did. -/
def factNeededSpec : ChangeSpec := { name := "factNeeded", fn := fun _ => fun
  | [d1, d2, d3] => { results := [.lit (.bool true)], args := [d1, d2, d3] }
  | _ => none }
def factNeededRow : OpenClaim := { program := "ythkoockcfnbpiaadoor", sum := "90729ef2c98d2c6c0fb015b9c1250c446486a06d93c001e98898039a628ea44f", func := "armillary/armillarylaw12.FactNeeded", spec := "factNeeded", unfollowed := true, recurses := true, named := ["armillary/lex.keys"], plainKeys := false, apart := false, laid := [("armillary/lex.keys", laid_armillary_lex_keys)] }
def FactNeededSaid : Prop := factNeededRow.holds Tryd.pinned (OpenSpec.ofChange factNeededSpec)

/-- ITS FALSE NEIGHBOUR: 'it returns false'. Refute it at one input. -/
def factNeededWrong : ChangeSpec := { name := "factNeeded", fn := fun _ => fun
  | [d1, d2, d3] => { results := [.lit (.bool false)], args := [d1, d2, d3] }
  | _ => none }
def FactNeededWrongFalsely : Prop := factNeededRow.holds Tryd.pinned (OpenSpec.ofChange factNeededWrong)

/-- 'armillarylaw12.FactCasts': WHATEVER THE INPUT: true; the input reads as it did. -/
def factCastsSpec : ChangeSpec := { name := "factCasts", fn := fun _ => fun
  | [d1, d2] => { results := [.lit (.bool true)], args := [d1, d2] }
  | _ => none }
def factCastsRow : OpenClaim := { program := "ythkoockcfnbpiaadoor", sum := "90729ef2c98d2c6c0fb015b9c1250c446486a06d93c001e98898039a628ea44f", func := "armillary/armillarylaw12.FactCasts", spec := "factCasts", unfollowed := true, recurses := true, named := ["armillary/lex.keys"], plainKeys := false, apart := false, laid := [("armillary/lex.keys", laid_armillary_lex_keys)] }
def FactCastsSaid : Prop := factCastsRow.holds Tryd.pinned (OpenSpec.ofChange factCastsSpec)

/-- ITS FALSE NEIGHBOUR: 'it returns false'. Refute it at one input. -/
def factCastsWrong : ChangeSpec := { name := "factCasts", fn := fun _ => fun
  | [d1, d2] => { results := [.lit (.bool false)], args := [d1, d2] }
  | _ => none }
def FactCastsWrongFalsely : Prop := factCastsRow.holds Tryd.pinned (OpenSpec.ofChange factCastsWrong)

/-- 'armillarylaw12.FactTurned': WHATEVER THE INPUT: true; the input reads as it did. -/
def factTurnedSpec : ChangeSpec := { name := "factTurned", fn := fun _ => fun
  | [d1, d2, d3] => { results := [.lit (.bool true)], args := [d1, d2, d3] }
  | _ => none }
def factTurnedRow : OpenClaim := { program := "ythkoockcfnbpiaadoor", sum := "90729ef2c98d2c6c0fb015b9c1250c446486a06d93c001e98898039a628ea44f", func := "armillary/armillarylaw12.FactTurned", spec := "factTurned", unfollowed := true, recurses := true, named := ["armillary/lex.keys"], plainKeys := false, apart := false, laid := [("armillary/lex.keys", laid_armillary_lex_keys)] }
def FactTurnedSaid : Prop := factTurnedRow.holds Tryd.pinned (OpenSpec.ofChange factTurnedSpec)

/-- ITS FALSE NEIGHBOUR: 'it returns false'. Refute it at one input. -/
def factTurnedWrong : ChangeSpec := { name := "factTurned", fn := fun _ => fun
  | [d1, d2, d3] => { results := [.lit (.bool false)], args := [d1, d2, d3] }
  | _ => none }
def FactTurnedWrongFalsely : Prop := factTurnedRow.holds Tryd.pinned (OpenSpec.ofChange factTurnedWrong)

/-- 'armillarylaw12.FactSound': WHATEVER THE INPUT: true; the input reads as it did. -/
def factSoundSpec : ChangeSpec := { name := "factSound", fn := fun _ => fun
  | [d1, d2] => { results := [.lit (.bool true)], args := [d1, d2] }
  | _ => none }
def factSoundRow : OpenClaim := { program := "ythkoockcfnbpiaadoor", sum := "90729ef2c98d2c6c0fb015b9c1250c446486a06d93c001e98898039a628ea44f", func := "armillary/armillarylaw12.FactSound", spec := "factSound", unfollowed := true, recurses := true, named := ["armillary/lex.keys"], plainKeys := false, apart := false, laid := [("armillary/lex.keys", laid_armillary_lex_keys)] }
def FactSoundSaid : Prop := factSoundRow.holds Tryd.pinned (OpenSpec.ofChange factSoundSpec)

/-- ITS FALSE NEIGHBOUR: 'it returns false'. Refute it at one input. -/
def factSoundWrong : ChangeSpec := { name := "factSound", fn := fun _ => fun
  | [d1, d2] => { results := [.lit (.bool false)], args := [d1, d2] }
  | _ => none }
def FactSoundWrongFalsely : Prop := factSoundRow.holds Tryd.pinned (OpenSpec.ofChange factSoundWrong)

/- THE SECOND FORM. 'bulk': how many values and letters a reading holds, each counted each time it is reached (what is shared counts as often as it is met; a slice's spare places count too). A statement '..UptoSaid' is the law's where the arguments, and the package variables that the reading takes, are together of bulk at most 1048576: NARROWER than '..Said'. Prove '..Said' where nothing that the law and all that it calls make is longer than what came in: it says more and counts as full. Else prove '..UptoSaid'. A law counts once. -/
mutual
def uptoBulk {H : Type} : DataW H → Nat
  | .lit (.string bytes) => bytes.length + 1
  | .lit _ => 1
  | .nil => 1
  | .ptr d => uptoBulk d + 1
  | .slice elems spare => uptoBulkAll elems + uptoBulkAll spare + 1
  | .agg parts => uptoBulkAll parts + 1
  | .iface _ d => uptoBulk d + 1
  | .map entries => uptoBulkEntries entries + 1
  | .held _ => 1
def uptoBulkAll {H : Type} : List (DataW H) → Nat
  | [] => 0
  | d :: r => uptoBulk d + uptoBulkAll r
def uptoBulkEntries {H : Type} : List (Lit × DataW H) → Nat
  | [] => 0
  | x :: r => uptoBulkEntry x + uptoBulkEntries r
def uptoBulkEntry {H : Type} : Lit × DataW H → Nat
  | (.string bytes, d) => bytes.length + uptoBulk d + 1
  | (_, d) => uptoBulk d + 1
 end
def uptoSmall : (H : Type) → List (DataW H) → Bool := fun _ ds => decide (uptoBulkAll ds ≤ 1048576)
def OpenSpec.upto (s : _root_.Go.ChangeSpec) : _root_.Go.OpenSpec := { _root_.Go.OpenSpec.ofChange s with cond := some uptoSmall }

/-- 'armillarylaw12.FactWhole', WHERE WHAT IT READS IS OF BULK AT MOST 1048576: true; the input reads as it did. -/
def factWholeUptoRow : OpenClaim := { program := "ythkoockcfnbpiaadoor", sum := "90729ef2c98d2c6c0fb015b9c1250c446486a06d93c001e98898039a628ea44f", func := "armillary/armillarylaw12.FactWhole", spec := "factWhole", unfollowed := true, recurses := true, named := ["armillary/lex.keys"], plainKeys := false, apart := false, laid := [("armillary/lex.keys", laid_armillary_lex_keys)], narrowed := true }
def FactWholeUptoSaid : Prop := factWholeUptoRow.holds Tryd.pinned (OpenSpec.upto factWholeSpec)

/-- 'armillarylaw12.FactNeeded', WHERE WHAT IT READS IS OF BULK AT MOST 1048576: true; the input reads as it did. -/
def factNeededUptoRow : OpenClaim := { program := "ythkoockcfnbpiaadoor", sum := "90729ef2c98d2c6c0fb015b9c1250c446486a06d93c001e98898039a628ea44f", func := "armillary/armillarylaw12.FactNeeded", spec := "factNeeded", unfollowed := true, recurses := true, named := ["armillary/lex.keys"], plainKeys := false, apart := false, laid := [("armillary/lex.keys", laid_armillary_lex_keys)], narrowed := true }
def FactNeededUptoSaid : Prop := factNeededUptoRow.holds Tryd.pinned (OpenSpec.upto factNeededSpec)

/-- 'armillarylaw12.FactCasts', WHERE WHAT IT READS IS OF BULK AT MOST 1048576: true; the input reads as it did. -/
def factCastsUptoRow : OpenClaim := { program := "ythkoockcfnbpiaadoor", sum := "90729ef2c98d2c6c0fb015b9c1250c446486a06d93c001e98898039a628ea44f", func := "armillary/armillarylaw12.FactCasts", spec := "factCasts", unfollowed := true, recurses := true, named := ["armillary/lex.keys"], plainKeys := false, apart := false, laid := [("armillary/lex.keys", laid_armillary_lex_keys)], narrowed := true }
def FactCastsUptoSaid : Prop := factCastsUptoRow.holds Tryd.pinned (OpenSpec.upto factCastsSpec)

/-- 'armillarylaw12.FactTurned', WHERE WHAT IT READS IS OF BULK AT MOST 1048576: true; the input reads as it did. -/
def factTurnedUptoRow : OpenClaim := { program := "ythkoockcfnbpiaadoor", sum := "90729ef2c98d2c6c0fb015b9c1250c446486a06d93c001e98898039a628ea44f", func := "armillary/armillarylaw12.FactTurned", spec := "factTurned", unfollowed := true, recurses := true, named := ["armillary/lex.keys"], plainKeys := false, apart := false, laid := [("armillary/lex.keys", laid_armillary_lex_keys)], narrowed := true }
def FactTurnedUptoSaid : Prop := factTurnedUptoRow.holds Tryd.pinned (OpenSpec.upto factTurnedSpec)

/-- 'armillarylaw12.FactSound', WHERE WHAT IT READS IS OF BULK AT MOST 1048576: true; the input reads as it did. -/
def factSoundUptoRow : OpenClaim := { program := "ythkoockcfnbpiaadoor", sum := "90729ef2c98d2c6c0fb015b9c1250c446486a06d93c001e98898039a628ea44f", func := "armillary/armillarylaw12.FactSound", spec := "factSound", unfollowed := true, recurses := true, named := ["armillary/lex.keys"], plainKeys := false, apart := false, laid := [("armillary/lex.keys", laid_armillary_lex_keys)], narrowed := true }
def FactSoundUptoSaid : Prop := factSoundUptoRow.holds Tryd.pinned (OpenSpec.upto factSoundSpec)

end Rows
end Go.Proofs.YthkoockcfnbpiaaDoor
