/-
  DERIVED. GIVEN WITH THE SEED: THE CARDS: each row of YtkfdjahknkoigaaDoorRows.lean that lists a variable, with what it lists TIED to the program's text (the seventh form; the later family's looks); each row that meets fmt, with fmt's text TOLD by the authors' own Lean function (tested against real Go, not proved from fmt's source: count such statements apart). THE CARD IS WHAT COUNTS. Prove the row's statement (the work); the ties are given (YtkfdjahknkoigaaDoorTie.lean); close each card by the builder's one call (the guide's Derived/Test/ToyasCard.lean, 'card_holds'). Laid BY PROGRAM, IN A SANDBOX (cutbox-door.mjs). By AI agents, Wed Nov 11 2026. No macro, syntax, notation, axiom, sorry.
-/
import Derived.Test.YtkfdjahknkoigaaDoorRows
import GoSem.ClaimSeven
namespace Go.Proofs.YtkfdjahknkoigaaDoor
namespace Rows

/-- THE TIED CARD OF 'laws.FnExactReadMedia'. -/
def fnExactReadMediaCard : Claim7 := { stood := { row := fnExactReadMediaRow, standIns := [], harness := (true, "b17d3ee22e8916a6043c8cd848f28a766a419444f6e6749bdf1530b78fd83a37"), looks := true }, kinds := [], alts := [], laidByText := true, laidKinds := [.data, .data, .data, .sentinel, .sentinel], laidTests := true, laidLooks := .later }
def FnExactReadMediaCardSaid : Prop := Claim7.holds Tryd.pinned (.plain (OpenSpec.ofChange fnExactReadMediaSpec)) fnExactReadMediaCard

/-- THE TIED CARD OF 'laws.FnExactReadGroup'. -/
def fnExactReadGroupCard : Claim7 := { stood := { row := fnExactReadGroupRow, standIns := [], harness := (true, "b17d3ee22e8916a6043c8cd848f28a766a419444f6e6749bdf1530b78fd83a37"), looks := true }, kinds := [], alts := [], laidByText := true, laidKinds := [.data, .data, .data, .data, .sentinel, .sentinel, .pinned], laidTests := true, laidLooks := .later }
def FnExactReadGroupCardSaid : Prop := Claim7.holds Tryd.pinned (.plain (OpenSpec.ofChange fnExactReadGroupSpec)) fnExactReadGroupCard

/-- THE TIED CARD OF 'laws.FnExactReadMachine'. -/
def fnExactReadMachineCard : Claim7 := { stood := { row := fnExactReadMachineRow, standIns := [], harness := (true, "b17d3ee22e8916a6043c8cd848f28a766a419444f6e6749bdf1530b78fd83a37"), looks := true }, kinds := [], alts := [], laidByText := true, laidKinds := [.data, .data, .data, .data, .sentinel, .sentinel, .pinned], laidTests := true, laidLooks := .later }
def FnExactReadMachineCardSaid : Prop := Claim7.holds Tryd.pinned (.plain (OpenSpec.ofChange fnExactReadMachineSpec)) fnExactReadMachineCard

/-- THE SECOND FORM's CARD OF 'laws.FnExactReadMedia'. -/
def fnExactReadMediaUptoCard : Claim7 := { stood := { row := fnExactReadMediaUptoRow, standIns := [], harness := (true, "b17d3ee22e8916a6043c8cd848f28a766a419444f6e6749bdf1530b78fd83a37"), looks := true }, kinds := [], alts := [], laidByText := true, laidKinds := [.data, .data, .data, .sentinel, .sentinel], laidTests := true, laidLooks := .later }
def FnExactReadMediaUptoCardSaid : Prop := Claim7.holds Tryd.pinned (.plain (OpenSpec.upto fnExactReadMediaSpec)) fnExactReadMediaUptoCard

/-- THE SECOND FORM's CARD OF 'laws.FnExactReadGroup'. -/
def fnExactReadGroupUptoCard : Claim7 := { stood := { row := fnExactReadGroupUptoRow, standIns := [], harness := (true, "b17d3ee22e8916a6043c8cd848f28a766a419444f6e6749bdf1530b78fd83a37"), looks := true }, kinds := [], alts := [], laidByText := true, laidKinds := [.data, .data, .data, .data, .sentinel, .sentinel, .pinned], laidTests := true, laidLooks := .later }
def FnExactReadGroupUptoCardSaid : Prop := Claim7.holds Tryd.pinned (.plain (OpenSpec.upto fnExactReadGroupSpec)) fnExactReadGroupUptoCard

/-- THE SECOND FORM's CARD OF 'laws.FnExactReadMachine'. -/
def fnExactReadMachineUptoCard : Claim7 := { stood := { row := fnExactReadMachineUptoRow, standIns := [], harness := (true, "b17d3ee22e8916a6043c8cd848f28a766a419444f6e6749bdf1530b78fd83a37"), looks := true }, kinds := [], alts := [], laidByText := true, laidKinds := [.data, .data, .data, .data, .sentinel, .sentinel, .pinned], laidTests := true, laidLooks := .later }
def FnExactReadMachineUptoCardSaid : Prop := Claim7.holds Tryd.pinned (.plain (OpenSpec.upto fnExactReadMachineSpec)) fnExactReadMachineUptoCard
end Rows
end Go.Proofs.YtkfdjahknkoigaaDoor
