/-
  DERIVED. GIVEN WITH THE SEED: THE CARDS: each row of YtdgjlkdcklfieaaDoorRows.lean that lists a variable, with what it lists TIED to the program's text (the seventh form; the later family's looks); each row that meets fmt, with fmt's text TOLD by the authors' own Lean function (tested against real Go, not proved from fmt's source: count such statements apart). THE CARD IS WHAT COUNTS. Prove the row's statement (the work); the ties are given (YtdgjlkdcklfieaaDoorTie.lean); close each card by the builder's one call (the guide's Derived/Test/ToyasCard.lean, 'card_holds'). Laid BY PROGRAM, IN A SANDBOX (cutbox-door.mjs). By AI agents, Wed Nov 11 2026. No macro, syntax, notation, axiom, sorry.
-/
import Derived.Test.YtdgjlkdcklfieaaDoorRows
import GoSem.ClaimSeven
namespace Go.Proofs.YtdgjlkdcklfieaaDoor
namespace Rows

/-- THE TIED CARD OF 'laws.FnClocks'. -/
def fnClocksCard : Claim7 := { stood := { row := fnClocksRow, standIns := [], harness := (true, "0b23faa9446cc310eda2ed21f58559b0b5ad2bd3089d8f61aac147895af9e423"), looks := true }, kinds := [], alts := [], laidByText := true, laidKinds := [.data, .data, .data, .data, .sentinel, .sentinel, .pinned], laidTests := true, laidLooks := .later }
def FnClocksCardSaid : Prop := Claim7.holds Tryd.pinned (.plain (OpenSpec.ofChange fnClocksSpec)) fnClocksCard

/-- THE TIED CARD OF 'laws.FnExactMediaText'. -/
def fnExactMediaTextCard : Claim7 := { stood := { row := fnExactMediaTextRow, standIns := [], harness := (true, "0b23faa9446cc310eda2ed21f58559b0b5ad2bd3089d8f61aac147895af9e423"), looks := true }, kinds := [], alts := [], laidByText := true, laidKinds := [.data, .data, .data], laidTests := true, laidLooks := .later }
def FnExactMediaTextCardSaid : Prop := Claim7.holds Tryd.pinned (.plain (OpenSpec.ofChange fnExactMediaTextSpec)) fnExactMediaTextCard

/-- THE TIED CARD OF 'laws.FnExactMachineText'. -/
def fnExactMachineTextCard : Claim7 := { stood := { row := fnExactMachineTextRow, standIns := [], harness := (true, "0b23faa9446cc310eda2ed21f58559b0b5ad2bd3089d8f61aac147895af9e423"), looks := true }, kinds := [], alts := [], laidByText := true, laidKinds := [.data, .data, .data], laidTests := true, laidLooks := .later }
def FnExactMachineTextCardSaid : Prop := Claim7.holds Tryd.pinned (.plain (OpenSpec.ofChange fnExactMachineTextSpec)) fnExactMachineTextCard

/-- THE TIED CARD OF 'laws.FnExactSessionText'. -/
def fnExactSessionTextCard : Claim7 := { stood := { row := fnExactSessionTextRow, standIns := [], harness := (true, "0b23faa9446cc310eda2ed21f58559b0b5ad2bd3089d8f61aac147895af9e423"), looks := true }, kinds := [], alts := [], laidByText := true, laidKinds := [.data, .data, .data], laidTests := true, laidLooks := .later }
def FnExactSessionTextCardSaid : Prop := Claim7.holds Tryd.pinned (.plain (OpenSpec.ofChange fnExactSessionTextSpec)) fnExactSessionTextCard

/-- THE TIED CARD OF 'laws.FnExactVersionText'. -/
def fnExactVersionTextCard : Claim7 := { stood := { row := fnExactVersionTextRow, standIns := [], harness := (true, "0b23faa9446cc310eda2ed21f58559b0b5ad2bd3089d8f61aac147895af9e423"), looks := true }, kinds := [], alts := [], laidByText := true, laidKinds := [.data, .data, .data], laidTests := true, laidLooks := .later }
def FnExactVersionTextCardSaid : Prop := Claim7.holds Tryd.pinned (.plain (OpenSpec.ofChange fnExactVersionTextSpec)) fnExactVersionTextCard

/-- THE TIED CARD OF 'laws.FnExactUndoVersion'. -/
def fnExactUndoVersionCard : Claim7 := { stood := { row := fnExactUndoVersionRow, standIns := [], harness := (true, "0b23faa9446cc310eda2ed21f58559b0b5ad2bd3089d8f61aac147895af9e423"), looks := true }, kinds := [], alts := [], laidByText := true, laidKinds := [.data, .data, .data], laidTests := true, laidLooks := .later }
def FnExactUndoVersionCardSaid : Prop := Claim7.holds Tryd.pinned (.plain (OpenSpec.ofChange fnExactUndoVersionSpec)) fnExactUndoVersionCard

/-- THE TIED CARD OF 'laws.FnExactReadMedia'. -/
def fnExactReadMediaCard : Claim7 := { stood := { row := fnExactReadMediaRow, standIns := [], harness := (true, "0b23faa9446cc310eda2ed21f58559b0b5ad2bd3089d8f61aac147895af9e423"), looks := true }, kinds := [], alts := [], laidByText := true, laidKinds := [.data, .data, .data, .sentinel, .sentinel], laidTests := true, laidLooks := .later }
def FnExactReadMediaCardSaid : Prop := Claim7.holds Tryd.pinned (.plain (OpenSpec.ofChange fnExactReadMediaSpec)) fnExactReadMediaCard

/-- THE TIED CARD OF 'laws.FnExactReadGroup'. -/
def fnExactReadGroupCard : Claim7 := { stood := { row := fnExactReadGroupRow, standIns := [], harness := (true, "0b23faa9446cc310eda2ed21f58559b0b5ad2bd3089d8f61aac147895af9e423"), looks := true }, kinds := [], alts := [], laidByText := true, laidKinds := [.data, .data, .data, .data, .sentinel, .sentinel, .pinned], laidTests := true, laidLooks := .later }
def FnExactReadGroupCardSaid : Prop := Claim7.holds Tryd.pinned (.plain (OpenSpec.ofChange fnExactReadGroupSpec)) fnExactReadGroupCard

/-- THE TIED CARD OF 'laws.FnExactReadMachine'. -/
def fnExactReadMachineCard : Claim7 := { stood := { row := fnExactReadMachineRow, standIns := [], harness := (true, "0b23faa9446cc310eda2ed21f58559b0b5ad2bd3089d8f61aac147895af9e423"), looks := true }, kinds := [], alts := [], laidByText := true, laidKinds := [.data, .data, .data, .data, .sentinel, .sentinel, .pinned], laidTests := true, laidLooks := .later }
def FnExactReadMachineCardSaid : Prop := Claim7.holds Tryd.pinned (.plain (OpenSpec.ofChange fnExactReadMachineSpec)) fnExactReadMachineCard

/-- THE TIED CARD OF 'laws.FnVersions'. -/
def fnVersionsCard : Claim7 := { stood := { row := fnVersionsRow, standIns := [], harness := (true, "0b23faa9446cc310eda2ed21f58559b0b5ad2bd3089d8f61aac147895af9e423"), looks := true }, kinds := [], alts := [], laidByText := true, laidKinds := [.data, .data, .data], laidTests := true, laidLooks := .later }
def FnVersionsCardSaid : Prop := Claim7.holds Tryd.pinned (.plain (OpenSpec.ofChange fnVersionsSpec)) fnVersionsCard

/-- THE SECOND FORM's CARD OF 'laws.FnClocks'. -/
def fnClocksUptoCard : Claim7 := { stood := { row := fnClocksUptoRow, standIns := [], harness := (true, "0b23faa9446cc310eda2ed21f58559b0b5ad2bd3089d8f61aac147895af9e423"), looks := true }, kinds := [], alts := [], laidByText := true, laidKinds := [.data, .data, .data, .data, .sentinel, .sentinel, .pinned], laidTests := true, laidLooks := .later }
def FnClocksUptoCardSaid : Prop := Claim7.holds Tryd.pinned (.plain (OpenSpec.upto fnClocksSpec)) fnClocksUptoCard

/-- THE SECOND FORM's CARD OF 'laws.FnExactMediaText'. -/
def fnExactMediaTextUptoCard : Claim7 := { stood := { row := fnExactMediaTextUptoRow, standIns := [], harness := (true, "0b23faa9446cc310eda2ed21f58559b0b5ad2bd3089d8f61aac147895af9e423"), looks := true }, kinds := [], alts := [], laidByText := true, laidKinds := [.data, .data, .data], laidTests := true, laidLooks := .later }
def FnExactMediaTextUptoCardSaid : Prop := Claim7.holds Tryd.pinned (.plain (OpenSpec.upto fnExactMediaTextSpec)) fnExactMediaTextUptoCard

/-- THE SECOND FORM's CARD OF 'laws.FnExactMachineText'. -/
def fnExactMachineTextUptoCard : Claim7 := { stood := { row := fnExactMachineTextUptoRow, standIns := [], harness := (true, "0b23faa9446cc310eda2ed21f58559b0b5ad2bd3089d8f61aac147895af9e423"), looks := true }, kinds := [], alts := [], laidByText := true, laidKinds := [.data, .data, .data], laidTests := true, laidLooks := .later }
def FnExactMachineTextUptoCardSaid : Prop := Claim7.holds Tryd.pinned (.plain (OpenSpec.upto fnExactMachineTextSpec)) fnExactMachineTextUptoCard

/-- THE SECOND FORM's CARD OF 'laws.FnExactSessionText'. -/
def fnExactSessionTextUptoCard : Claim7 := { stood := { row := fnExactSessionTextUptoRow, standIns := [], harness := (true, "0b23faa9446cc310eda2ed21f58559b0b5ad2bd3089d8f61aac147895af9e423"), looks := true }, kinds := [], alts := [], laidByText := true, laidKinds := [.data, .data, .data], laidTests := true, laidLooks := .later }
def FnExactSessionTextUptoCardSaid : Prop := Claim7.holds Tryd.pinned (.plain (OpenSpec.upto fnExactSessionTextSpec)) fnExactSessionTextUptoCard

/-- THE SECOND FORM's CARD OF 'laws.FnExactVersionText'. -/
def fnExactVersionTextUptoCard : Claim7 := { stood := { row := fnExactVersionTextUptoRow, standIns := [], harness := (true, "0b23faa9446cc310eda2ed21f58559b0b5ad2bd3089d8f61aac147895af9e423"), looks := true }, kinds := [], alts := [], laidByText := true, laidKinds := [.data, .data, .data], laidTests := true, laidLooks := .later }
def FnExactVersionTextUptoCardSaid : Prop := Claim7.holds Tryd.pinned (.plain (OpenSpec.upto fnExactVersionTextSpec)) fnExactVersionTextUptoCard

/-- THE SECOND FORM's CARD OF 'laws.FnExactUndoVersion'. -/
def fnExactUndoVersionUptoCard : Claim7 := { stood := { row := fnExactUndoVersionUptoRow, standIns := [], harness := (true, "0b23faa9446cc310eda2ed21f58559b0b5ad2bd3089d8f61aac147895af9e423"), looks := true }, kinds := [], alts := [], laidByText := true, laidKinds := [.data, .data, .data], laidTests := true, laidLooks := .later }
def FnExactUndoVersionUptoCardSaid : Prop := Claim7.holds Tryd.pinned (.plain (OpenSpec.upto fnExactUndoVersionSpec)) fnExactUndoVersionUptoCard

/-- THE SECOND FORM's CARD OF 'laws.FnExactReadMedia'. -/
def fnExactReadMediaUptoCard : Claim7 := { stood := { row := fnExactReadMediaUptoRow, standIns := [], harness := (true, "0b23faa9446cc310eda2ed21f58559b0b5ad2bd3089d8f61aac147895af9e423"), looks := true }, kinds := [], alts := [], laidByText := true, laidKinds := [.data, .data, .data, .sentinel, .sentinel], laidTests := true, laidLooks := .later }
def FnExactReadMediaUptoCardSaid : Prop := Claim7.holds Tryd.pinned (.plain (OpenSpec.upto fnExactReadMediaSpec)) fnExactReadMediaUptoCard

/-- THE SECOND FORM's CARD OF 'laws.FnExactReadGroup'. -/
def fnExactReadGroupUptoCard : Claim7 := { stood := { row := fnExactReadGroupUptoRow, standIns := [], harness := (true, "0b23faa9446cc310eda2ed21f58559b0b5ad2bd3089d8f61aac147895af9e423"), looks := true }, kinds := [], alts := [], laidByText := true, laidKinds := [.data, .data, .data, .data, .sentinel, .sentinel, .pinned], laidTests := true, laidLooks := .later }
def FnExactReadGroupUptoCardSaid : Prop := Claim7.holds Tryd.pinned (.plain (OpenSpec.upto fnExactReadGroupSpec)) fnExactReadGroupUptoCard

/-- THE SECOND FORM's CARD OF 'laws.FnExactReadMachine'. -/
def fnExactReadMachineUptoCard : Claim7 := { stood := { row := fnExactReadMachineUptoRow, standIns := [], harness := (true, "0b23faa9446cc310eda2ed21f58559b0b5ad2bd3089d8f61aac147895af9e423"), looks := true }, kinds := [], alts := [], laidByText := true, laidKinds := [.data, .data, .data, .data, .sentinel, .sentinel, .pinned], laidTests := true, laidLooks := .later }
def FnExactReadMachineUptoCardSaid : Prop := Claim7.holds Tryd.pinned (.plain (OpenSpec.upto fnExactReadMachineSpec)) fnExactReadMachineUptoCard

/-- THE SECOND FORM's CARD OF 'laws.FnVersions'. -/
def fnVersionsUptoCard : Claim7 := { stood := { row := fnVersionsUptoRow, standIns := [], harness := (true, "0b23faa9446cc310eda2ed21f58559b0b5ad2bd3089d8f61aac147895af9e423"), looks := true }, kinds := [], alts := [], laidByText := true, laidKinds := [.data, .data, .data], laidTests := true, laidLooks := .later }
def FnVersionsUptoCardSaid : Prop := Claim7.holds Tryd.pinned (.plain (OpenSpec.upto fnVersionsSpec)) fnVersionsUptoCard
end Rows
end Go.Proofs.YtdgjlkdcklfieaaDoor
