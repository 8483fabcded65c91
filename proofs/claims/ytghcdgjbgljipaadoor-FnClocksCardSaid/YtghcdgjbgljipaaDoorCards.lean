/-
  DERIVED. GIVEN WITH THE SEED: THE CARDS: each row of YtghcdgjbgljipaaDoorRows.lean that lists a variable, with what it lists TIED to the program's text (the seventh form; the later family's looks); each row that meets fmt, with fmt's text TOLD by the authors' own Lean function (tested against real Go, not proved from fmt's source: count such statements apart). THE CARD IS WHAT COUNTS. Prove the row's statement (the work); the ties are given (YtghcdgjbgljipaaDoorTie.lean); close each card by the builder's one call (the guide's Derived/Test/ToyasCard.lean, 'card_holds'). Laid BY PROGRAM, IN A SANDBOX (cutbox-door.mjs). By AI agents, Wed Nov 11 2026. No macro, syntax, notation, axiom, sorry.
-/
import Derived.Test.YtghcdgjbgljipaaDoorRows
import GoSem.ClaimSeven
namespace Go.Proofs.YtghcdgjbgljipaaDoor
namespace Rows

/-- THE TIED CARD OF 'laws.FnVersions'. -/
def fnVersionsCard : Claim7 := { stood := { row := fnVersionsRow, standIns := [], harness := (true, "8ab54408a866ae0ef902921d5524a4b1f02021d5d8e74587e35613783dfc2916"), looks := true }, kinds := [], alts := [], laidByText := true, laidKinds := [.data, .data, .data], laidTests := true, laidLooks := .later }
def FnVersionsCardSaid : Prop := Claim7.holds Tryd.pinned (.plain (OpenSpec.ofChange fnVersionsSpec)) fnVersionsCard

/-- THE TIED CARD OF 'laws.FnClocks'. -/
def fnClocksCard : Claim7 := { stood := { row := fnClocksRow, standIns := [], harness := (true, "8ab54408a866ae0ef902921d5524a4b1f02021d5d8e74587e35613783dfc2916"), looks := true }, kinds := [], alts := [], laidByText := true, laidKinds := [.data, .data, .data, .data, .sentinel, .sentinel, .pinned], laidTests := true, laidLooks := .later }
def FnClocksCardSaid : Prop := Claim7.holds Tryd.pinned (.plain (OpenSpec.ofChange fnClocksSpec)) fnClocksCard

/-- THE SECOND FORM's CARD OF 'laws.FnVersions'. -/
def fnVersionsUptoCard : Claim7 := { stood := { row := fnVersionsUptoRow, standIns := [], harness := (true, "8ab54408a866ae0ef902921d5524a4b1f02021d5d8e74587e35613783dfc2916"), looks := true }, kinds := [], alts := [], laidByText := true, laidKinds := [.data, .data, .data], laidTests := true, laidLooks := .later }
def FnVersionsUptoCardSaid : Prop := Claim7.holds Tryd.pinned (.plain (OpenSpec.upto fnVersionsSpec)) fnVersionsUptoCard

/-- THE SECOND FORM's CARD OF 'laws.FnClocks'. -/
def fnClocksUptoCard : Claim7 := { stood := { row := fnClocksUptoRow, standIns := [], harness := (true, "8ab54408a866ae0ef902921d5524a4b1f02021d5d8e74587e35613783dfc2916"), looks := true }, kinds := [], alts := [], laidByText := true, laidKinds := [.data, .data, .data, .data, .sentinel, .sentinel, .pinned], laidTests := true, laidLooks := .later }
def FnClocksUptoCardSaid : Prop := Claim7.holds Tryd.pinned (.plain (OpenSpec.upto fnClocksSpec)) fnClocksUptoCard
end Rows
end Go.Proofs.YtghcdgjbgljipaaDoor
