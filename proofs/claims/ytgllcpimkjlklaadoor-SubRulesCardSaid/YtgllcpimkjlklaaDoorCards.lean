/-
  DERIVED. GIVEN WITH THE SEED: THE CARDS: each row of YtgllcpimkjlklaaDoorRows.lean that lists a variable, with what it lists TIED to the program's text (the seventh form; the later family's looks); each row that meets fmt, with fmt's text TOLD by the authors' own Lean function (tested against real Go, not proved from fmt's source: count such statements apart). THE CARD IS WHAT COUNTS. Prove the row's statement (the work); the ties are given (YtgllcpimkjlklaaDoorTie.lean); close each card by the builder's one call (the guide's Derived/Test/ToyasCard.lean, 'card_holds'). Laid BY PROGRAM, IN A SANDBOX (cutbox-door.mjs). By AI agents, Wed Nov 11 2026. No macro, syntax, notation, axiom, sorry.
-/
import Derived.Test.YtgllcpimkjlklaaDoorRows
import GoSem.ClaimSeven
namespace Go.Proofs.YtgllcpimkjlklaaDoor
namespace Rows

/-- THE TIED CARD OF 'armillarylaw08.SubLeast'. -/
def subLeastCard : Claim7 := { stood := { row := subLeastRow, standIns := [], harness := (true, "707ea1432c8e06ff5c4ce5089a39ec8e0004ae533b89ab52ffaa9214505298c9"), looks := false }, kinds := [], alts := [], laidByText := true, laidKinds := [.data], laidTests := true, laidLooks := .later }
def SubLeastCardSaid : Prop := Claim7.holds Tryd.pinned (.plain (OpenSpec.ofChange subLeastSpec)) subLeastCard

/-- THE TIED CARD OF 'armillarylaw08.SubPicks'. -/
def subPicksCard : Claim7 := { stood := { row := subPicksRow, standIns := [], harness := (true, "707ea1432c8e06ff5c4ce5089a39ec8e0004ae533b89ab52ffaa9214505298c9"), looks := false }, kinds := [], alts := [], laidByText := true, laidKinds := [.data], laidTests := true, laidLooks := .later }
def SubPicksCardSaid : Prop := Claim7.holds Tryd.pinned (.plain (OpenSpec.ofChange subPicksSpec)) subPicksCard

/-- THE TIED CARD OF 'armillarylaw08.SubTells'. -/
def subTellsCard : Claim7 := { stood := { row := subTellsRow, standIns := [], harness := (true, "707ea1432c8e06ff5c4ce5089a39ec8e0004ae533b89ab52ffaa9214505298c9"), looks := false }, kinds := [], alts := [], laidByText := true, laidKinds := [.data], laidTests := true, laidLooks := .later }
def SubTellsCardSaid : Prop := Claim7.holds Tryd.pinned (.plain (OpenSpec.ofChange subTellsSpec)) subTellsCard

/-- THE TIED CARD OF 'armillarylaw08.SubOrder'. -/
def subOrderCard : Claim7 := { stood := { row := subOrderRow, standIns := [], harness := (true, "707ea1432c8e06ff5c4ce5089a39ec8e0004ae533b89ab52ffaa9214505298c9"), looks := false }, kinds := [], alts := [], laidByText := true, laidKinds := [.data], laidTests := true, laidLooks := .later }
def SubOrderCardSaid : Prop := Claim7.holds Tryd.pinned (.plain (OpenSpec.ofChange subOrderSpec)) subOrderCard

/-- THE TIED CARD OF 'armillarylaw08.SubRules'. -/
def subRulesCard : Claim7 := { stood := { row := subRulesRow, standIns := [], harness := (true, "707ea1432c8e06ff5c4ce5089a39ec8e0004ae533b89ab52ffaa9214505298c9"), looks := false }, kinds := [], alts := [], laidByText := true, laidKinds := [.data], laidTests := true, laidLooks := .later }
def SubRulesCardSaid : Prop := Claim7.holds Tryd.pinned (.plain (OpenSpec.ofChange subRulesSpec)) subRulesCard

/-- THE TIED CARD OF 'armillarylaw08.SubUnions'. -/
def subUnionsCard : Claim7 := { stood := { row := subUnionsRow, standIns := [], harness := (true, "707ea1432c8e06ff5c4ce5089a39ec8e0004ae533b89ab52ffaa9214505298c9"), looks := false }, kinds := [], alts := [], laidByText := true, laidKinds := [.data], laidTests := true, laidLooks := .later }
def SubUnionsCardSaid : Prop := Claim7.holds Tryd.pinned (.plain (OpenSpec.ofChange subUnionsSpec)) subUnionsCard

/-- THE TIED CARD OF 'armillarylaw08.SubKnown'. -/
def subKnownCard : Claim7 := { stood := { row := subKnownRow, standIns := [], harness := (true, "707ea1432c8e06ff5c4ce5089a39ec8e0004ae533b89ab52ffaa9214505298c9"), looks := false }, kinds := [], alts := [], laidByText := true, laidKinds := [.data], laidTests := true, laidLooks := .later }
def SubKnownCardSaid : Prop := Claim7.holds Tryd.pinned (.plain (OpenSpec.ofChange subKnownSpec)) subKnownCard

/-- THE TIED CARD OF 'armillarylaw08.SubDyn'. -/
def subDynCard : Claim7 := { stood := { row := subDynRow, standIns := [], harness := (true, "707ea1432c8e06ff5c4ce5089a39ec8e0004ae533b89ab52ffaa9214505298c9"), looks := false }, kinds := [], alts := [], laidByText := true, laidKinds := [.data], laidTests := true, laidLooks := .later }
def SubDynCardSaid : Prop := Claim7.holds Tryd.pinned (.plain (OpenSpec.ofChange subDynSpec)) subDynCard

/-- THE SECOND FORM's CARD OF 'armillarylaw08.SubLeast'. -/
def subLeastUptoCard : Claim7 := { stood := { row := subLeastUptoRow, standIns := [], harness := (true, "707ea1432c8e06ff5c4ce5089a39ec8e0004ae533b89ab52ffaa9214505298c9"), looks := false }, kinds := [], alts := [], laidByText := true, laidKinds := [.data], laidTests := true, laidLooks := .later }
def SubLeastUptoCardSaid : Prop := Claim7.holds Tryd.pinned (.plain (OpenSpec.upto subLeastSpec)) subLeastUptoCard

/-- THE SECOND FORM's CARD OF 'armillarylaw08.SubPicks'. -/
def subPicksUptoCard : Claim7 := { stood := { row := subPicksUptoRow, standIns := [], harness := (true, "707ea1432c8e06ff5c4ce5089a39ec8e0004ae533b89ab52ffaa9214505298c9"), looks := false }, kinds := [], alts := [], laidByText := true, laidKinds := [.data], laidTests := true, laidLooks := .later }
def SubPicksUptoCardSaid : Prop := Claim7.holds Tryd.pinned (.plain (OpenSpec.upto subPicksSpec)) subPicksUptoCard

/-- THE SECOND FORM's CARD OF 'armillarylaw08.SubTells'. -/
def subTellsUptoCard : Claim7 := { stood := { row := subTellsUptoRow, standIns := [], harness := (true, "707ea1432c8e06ff5c4ce5089a39ec8e0004ae533b89ab52ffaa9214505298c9"), looks := false }, kinds := [], alts := [], laidByText := true, laidKinds := [.data], laidTests := true, laidLooks := .later }
def SubTellsUptoCardSaid : Prop := Claim7.holds Tryd.pinned (.plain (OpenSpec.upto subTellsSpec)) subTellsUptoCard

/-- THE SECOND FORM's CARD OF 'armillarylaw08.SubOrder'. -/
def subOrderUptoCard : Claim7 := { stood := { row := subOrderUptoRow, standIns := [], harness := (true, "707ea1432c8e06ff5c4ce5089a39ec8e0004ae533b89ab52ffaa9214505298c9"), looks := false }, kinds := [], alts := [], laidByText := true, laidKinds := [.data], laidTests := true, laidLooks := .later }
def SubOrderUptoCardSaid : Prop := Claim7.holds Tryd.pinned (.plain (OpenSpec.upto subOrderSpec)) subOrderUptoCard

/-- THE SECOND FORM's CARD OF 'armillarylaw08.SubRules'. -/
def subRulesUptoCard : Claim7 := { stood := { row := subRulesUptoRow, standIns := [], harness := (true, "707ea1432c8e06ff5c4ce5089a39ec8e0004ae533b89ab52ffaa9214505298c9"), looks := false }, kinds := [], alts := [], laidByText := true, laidKinds := [.data], laidTests := true, laidLooks := .later }
def SubRulesUptoCardSaid : Prop := Claim7.holds Tryd.pinned (.plain (OpenSpec.upto subRulesSpec)) subRulesUptoCard

/-- THE SECOND FORM's CARD OF 'armillarylaw08.SubUnions'. -/
def subUnionsUptoCard : Claim7 := { stood := { row := subUnionsUptoRow, standIns := [], harness := (true, "707ea1432c8e06ff5c4ce5089a39ec8e0004ae533b89ab52ffaa9214505298c9"), looks := false }, kinds := [], alts := [], laidByText := true, laidKinds := [.data], laidTests := true, laidLooks := .later }
def SubUnionsUptoCardSaid : Prop := Claim7.holds Tryd.pinned (.plain (OpenSpec.upto subUnionsSpec)) subUnionsUptoCard

/-- THE SECOND FORM's CARD OF 'armillarylaw08.SubKnown'. -/
def subKnownUptoCard : Claim7 := { stood := { row := subKnownUptoRow, standIns := [], harness := (true, "707ea1432c8e06ff5c4ce5089a39ec8e0004ae533b89ab52ffaa9214505298c9"), looks := false }, kinds := [], alts := [], laidByText := true, laidKinds := [.data], laidTests := true, laidLooks := .later }
def SubKnownUptoCardSaid : Prop := Claim7.holds Tryd.pinned (.plain (OpenSpec.upto subKnownSpec)) subKnownUptoCard

/-- THE SECOND FORM's CARD OF 'armillarylaw08.SubDyn'. -/
def subDynUptoCard : Claim7 := { stood := { row := subDynUptoRow, standIns := [], harness := (true, "707ea1432c8e06ff5c4ce5089a39ec8e0004ae533b89ab52ffaa9214505298c9"), looks := false }, kinds := [], alts := [], laidByText := true, laidKinds := [.data], laidTests := true, laidLooks := .later }
def SubDynUptoCardSaid : Prop := Claim7.holds Tryd.pinned (.plain (OpenSpec.upto subDynSpec)) subDynUptoCard
end Rows
end Go.Proofs.YtgllcpimkjlklaaDoor
