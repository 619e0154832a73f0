/-
  DERIVED. GIVEN WITH THE SEED: THE CARDS: each row of YthkoockcfnbpiaaDoorRows.lean that lists a variable, with what it lists TIED to the program's text (the seventh form; the later family's looks); each row that meets fmt, with fmt's text TOLD by the authors' own Lean function (tested against real Go, not proved from fmt's source: count such statements apart). THE CARD IS WHAT COUNTS. Prove the row's statement (the work); the ties are given (YthkoockcfnbpiaaDoorTie.lean); close each card by the builder's one call (the guide's Derived/Test/ToyasCard.lean, 'card_holds'). Laid BY PROGRAM, IN A SANDBOX (cutbox-door.mjs). By AI agents, Wed Nov 11 2026. No macro, syntax, notation, axiom, sorry.
-/
import Derived.Test.YthkoockcfnbpiaaDoorRows
import GoSem.ClaimSeven
namespace Go.Proofs.YthkoockcfnbpiaaDoor
namespace Rows

/-- THE TIED CARD OF 'armillarylaw12.FactWhole'. -/
def factWholeCard : Claim7 := { stood := { row := factWholeRow, standIns := [], harness := (true, "42531a8e7f3a0ff0f52780fae766584b5a638af6943db5ec212865166759808e"), looks := false }, kinds := [], alts := [], laidByText := true, laidKinds := [.data], laidTests := true, laidLooks := .later }
def FactWholeCardSaid : Prop := Claim7.holds Tryd.pinned (.plain (OpenSpec.ofChange factWholeSpec)) factWholeCard

/-- THE TIED CARD OF 'armillarylaw12.FactNeeded'. -/
def factNeededCard : Claim7 := { stood := { row := factNeededRow, standIns := [], harness := (true, "42531a8e7f3a0ff0f52780fae766584b5a638af6943db5ec212865166759808e"), looks := false }, kinds := [], alts := [], laidByText := true, laidKinds := [.data], laidTests := true, laidLooks := .later }
def FactNeededCardSaid : Prop := Claim7.holds Tryd.pinned (.plain (OpenSpec.ofChange factNeededSpec)) factNeededCard

/-- THE TIED CARD OF 'armillarylaw12.FactCasts'. -/
def factCastsCard : Claim7 := { stood := { row := factCastsRow, standIns := [], harness := (true, "42531a8e7f3a0ff0f52780fae766584b5a638af6943db5ec212865166759808e"), looks := false }, kinds := [], alts := [], laidByText := true, laidKinds := [.data], laidTests := true, laidLooks := .later }
def FactCastsCardSaid : Prop := Claim7.holds Tryd.pinned (.plain (OpenSpec.ofChange factCastsSpec)) factCastsCard

/-- THE TIED CARD OF 'armillarylaw12.FactTurned'. -/
def factTurnedCard : Claim7 := { stood := { row := factTurnedRow, standIns := [], harness := (true, "42531a8e7f3a0ff0f52780fae766584b5a638af6943db5ec212865166759808e"), looks := false }, kinds := [], alts := [], laidByText := true, laidKinds := [.data], laidTests := true, laidLooks := .later }
def FactTurnedCardSaid : Prop := Claim7.holds Tryd.pinned (.plain (OpenSpec.ofChange factTurnedSpec)) factTurnedCard

/-- THE TIED CARD OF 'armillarylaw12.FactSound'. -/
def factSoundCard : Claim7 := { stood := { row := factSoundRow, standIns := [], harness := (true, "42531a8e7f3a0ff0f52780fae766584b5a638af6943db5ec212865166759808e"), looks := false }, kinds := [], alts := [], laidByText := true, laidKinds := [.data], laidTests := true, laidLooks := .later }
def FactSoundCardSaid : Prop := Claim7.holds Tryd.pinned (.plain (OpenSpec.ofChange factSoundSpec)) factSoundCard

/-- THE SECOND FORM's CARD OF 'armillarylaw12.FactWhole'. -/
def factWholeUptoCard : Claim7 := { stood := { row := factWholeUptoRow, standIns := [], harness := (true, "42531a8e7f3a0ff0f52780fae766584b5a638af6943db5ec212865166759808e"), looks := false }, kinds := [], alts := [], laidByText := true, laidKinds := [.data], laidTests := true, laidLooks := .later }
def FactWholeUptoCardSaid : Prop := Claim7.holds Tryd.pinned (.plain (OpenSpec.upto factWholeSpec)) factWholeUptoCard

/-- THE SECOND FORM's CARD OF 'armillarylaw12.FactNeeded'. -/
def factNeededUptoCard : Claim7 := { stood := { row := factNeededUptoRow, standIns := [], harness := (true, "42531a8e7f3a0ff0f52780fae766584b5a638af6943db5ec212865166759808e"), looks := false }, kinds := [], alts := [], laidByText := true, laidKinds := [.data], laidTests := true, laidLooks := .later }
def FactNeededUptoCardSaid : Prop := Claim7.holds Tryd.pinned (.plain (OpenSpec.upto factNeededSpec)) factNeededUptoCard

/-- THE SECOND FORM's CARD OF 'armillarylaw12.FactCasts'. -/
def factCastsUptoCard : Claim7 := { stood := { row := factCastsUptoRow, standIns := [], harness := (true, "42531a8e7f3a0ff0f52780fae766584b5a638af6943db5ec212865166759808e"), looks := false }, kinds := [], alts := [], laidByText := true, laidKinds := [.data], laidTests := true, laidLooks := .later }
def FactCastsUptoCardSaid : Prop := Claim7.holds Tryd.pinned (.plain (OpenSpec.upto factCastsSpec)) factCastsUptoCard

/-- THE SECOND FORM's CARD OF 'armillarylaw12.FactTurned'. -/
def factTurnedUptoCard : Claim7 := { stood := { row := factTurnedUptoRow, standIns := [], harness := (true, "42531a8e7f3a0ff0f52780fae766584b5a638af6943db5ec212865166759808e"), looks := false }, kinds := [], alts := [], laidByText := true, laidKinds := [.data], laidTests := true, laidLooks := .later }
def FactTurnedUptoCardSaid : Prop := Claim7.holds Tryd.pinned (.plain (OpenSpec.upto factTurnedSpec)) factTurnedUptoCard

/-- THE SECOND FORM's CARD OF 'armillarylaw12.FactSound'. -/
def factSoundUptoCard : Claim7 := { stood := { row := factSoundUptoRow, standIns := [], harness := (true, "42531a8e7f3a0ff0f52780fae766584b5a638af6943db5ec212865166759808e"), looks := false }, kinds := [], alts := [], laidByText := true, laidKinds := [.data], laidTests := true, laidLooks := .later }
def FactSoundUptoCardSaid : Prop := Claim7.holds Tryd.pinned (.plain (OpenSpec.upto factSoundSpec)) factSoundUptoCard
end Rows
end Go.Proofs.YthkoockcfnbpiaaDoor
