/-
  DERIVED. GIVEN WITH THE SEED: THE CARDS: each row of YtgppcpghpeenhaaDoorRows.lean that lists a variable, with what it lists TIED to the program's text (the seventh form; the later family's looks); each row that meets fmt, with fmt's text TOLD by the authors' own Lean function (tested against real Go, not proved from fmt's source: count such statements apart). THE CARD IS WHAT COUNTS. Prove the row's statement (the work); the ties are given (YtgppcpghpeenhaaDoorTie.lean); close each card by the builder's one call (the guide's Derived/Test/ToyasCard.lean, 'card_holds'). Laid BY PROGRAM, IN A SANDBOX (cutbox-door.mjs). By AI agents, Wed Nov 11 2026. No macro, syntax, notation, axiom, sorry.
-/
import Derived.Test.YtgppcpghpeenhaaDoorRows
import GoSem.ClaimSeven
namespace Go.Proofs.YtgppcpghpeenhaaDoor
namespace Rows

/-- THE TIED CARD OF 'armillarylaw08.SubDyn'. -/
def subDynCard : Claim7 := { stood := { row := subDynRow, standIns := [], harness := (true, "1016358a9d0168cbd96a5e7c0ba2a465e81951452c6ff655254b56c21bbbc967"), looks := false }, kinds := [], alts := [], laidByText := true, laidKinds := [.data], laidTests := true, laidLooks := .later }
def SubDynCardSaid : Prop := Claim7.holds Tryd.pinned (.plain (OpenSpec.ofChange subDynSpec)) subDynCard

/-- THE SECOND FORM's CARD OF 'armillarylaw08.SubDyn'. -/
def subDynUptoCard : Claim7 := { stood := { row := subDynUptoRow, standIns := [], harness := (true, "1016358a9d0168cbd96a5e7c0ba2a465e81951452c6ff655254b56c21bbbc967"), looks := false }, kinds := [], alts := [], laidByText := true, laidKinds := [.data], laidTests := true, laidLooks := .later }
def SubDynUptoCardSaid : Prop := Claim7.holds Tryd.pinned (.plain (OpenSpec.upto subDynSpec)) subDynUptoCard
end Rows
end Go.Proofs.YtgppcpghpeenhaaDoor
