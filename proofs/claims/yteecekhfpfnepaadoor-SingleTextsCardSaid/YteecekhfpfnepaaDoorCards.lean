/-
  DERIVED. GIVEN WITH THE SEED: THE CARDS: each row of YteecekhfpfnepaaDoorRows.lean that lists a variable, with what it lists TIED to the program's text (the seventh form; the later family's looks); each row that meets fmt, with fmt's text TOLD by the authors' own Lean function (tested against real Go, not proved from fmt's source: count such statements apart). THE CARD IS WHAT COUNTS. Prove the row's statement (the work); the ties are given (YteecekhfpfnepaaDoorTie.lean); close each card by the builder's one call (the guide's Derived/Test/ToyasCard.lean, 'card_holds'). Laid BY PROGRAM, IN A SANDBOX (cutbox-door.mjs). By AI agents, Wed Nov 11 2026. No macro, syntax, notation, axiom, sorry.
-/
import Derived.Test.YteecekhfpfnepaaDoorRows
import GoSem.ClaimSeven
namespace Go.Proofs.YteecekhfpfnepaaDoor
namespace Rows

/-- THE TIED CARD OF 'heraldlaw03.SingleParts'. -/
def singlePartsCard : Claim7 := { stood := { row := singlePartsRow, standIns := [], harness := (true, "fca29a33bddf38311d2c2d0c27bdafaef28f841259420212cd786064f2f97575"), looks := false }, kinds := [], alts := [], laidByText := true, laidKinds := [.data, .data], laidTests := true, laidLooks := .later }
def SinglePartsCardSaid : Prop := Claim7.holds Tryd.pinned (.plain (OpenSpec.ofChange singlePartsSpec)) singlePartsCard

/-- THE TIED CARD OF 'heraldlaw03.SingleBack'. -/
def singleBackCard : Claim7 := { stood := { row := singleBackRow, standIns := [], harness := (true, "fca29a33bddf38311d2c2d0c27bdafaef28f841259420212cd786064f2f97575"), looks := false }, kinds := [], alts := [], laidByText := true, laidKinds := [.data, .data], laidTests := true, laidLooks := .later }
def SingleBackCardSaid : Prop := Claim7.holds Tryd.pinned (.plain (OpenSpec.ofChange singleBackSpec)) singleBackCard

/-- THE TIED CARD OF 'heraldlaw03.SingleAt'. -/
def singleAtCard : Claim7 := { stood := { row := singleAtRow, standIns := [], harness := (true, "fca29a33bddf38311d2c2d0c27bdafaef28f841259420212cd786064f2f97575"), looks := false }, kinds := [], alts := [], laidByText := true, laidKinds := [.data, .data], laidTests := true, laidLooks := .later }
def SingleAtCardSaid : Prop := Claim7.holds Tryd.pinned (.plain (OpenSpec.ofChange singleAtSpec)) singleAtCard

/-- THE TIED CARD OF 'heraldlaw03.SingleQuantises'. -/
def singleQuantisesCard : Claim7 := { stood := { row := singleQuantisesRow, standIns := [], harness := (true, "fca29a33bddf38311d2c2d0c27bdafaef28f841259420212cd786064f2f97575"), looks := false }, kinds := [], alts := [], laidByText := true, laidKinds := [.data, .data], laidTests := true, laidLooks := .later }
def SingleQuantisesCardSaid : Prop := Claim7.holds Tryd.pinned (.plain (OpenSpec.ofChange singleQuantisesSpec)) singleQuantisesCard

/-- THE TIED CARD OF 'heraldlaw03.SingleMemory'. -/
def singleMemoryCard : Claim7 := { stood := { row := singleMemoryRow, standIns := [], harness := (true, "fca29a33bddf38311d2c2d0c27bdafaef28f841259420212cd786064f2f97575"), looks := false }, kinds := [], alts := [], laidByText := true, laidKinds := [.data, .data], laidTests := true, laidLooks := .later }
def SingleMemoryCardSaid : Prop := Claim7.holds Tryd.pinned (.plain (OpenSpec.ofChange singleMemorySpec)) singleMemoryCard

/-- THE TIED CARD OF 'heraldlaw03.SingleFormats'. -/
def singleFormatsCard : Claim7 := { stood := { row := singleFormatsRow, standIns := [], harness := (true, "fca29a33bddf38311d2c2d0c27bdafaef28f841259420212cd786064f2f97575"), looks := false }, kinds := [], alts := [], laidByText := true, laidKinds := [.data, .data], laidTests := true, laidLooks := .later }
def SingleFormatsCardSaid : Prop := Claim7.holds Tryd.pinned (.plain (OpenSpec.ofChange singleFormatsSpec)) singleFormatsCard

/-- THE TIED CARD OF 'heraldlaw03.SingleHalves'. -/
def singleHalvesCard : Claim7 := { stood := { row := singleHalvesRow, standIns := [], harness := (true, "fca29a33bddf38311d2c2d0c27bdafaef28f841259420212cd786064f2f97575"), looks := false }, kinds := [], alts := [], laidByText := true, laidKinds := [.data, .data], laidTests := true, laidLooks := .later }
def SingleHalvesCardSaid : Prop := Claim7.holds Tryd.pinned (.plain (OpenSpec.ofChange singleHalvesSpec)) singleHalvesCard

/-- THE TIED CARD OF 'heraldlaw03.SingleKeeps'. -/
def singleKeepsCard : Claim7 := { stood := { row := singleKeepsRow, standIns := [], harness := (true, "fca29a33bddf38311d2c2d0c27bdafaef28f841259420212cd786064f2f97575"), looks := false }, kinds := [], alts := [], laidByText := true, laidKinds := [.data, .data], laidTests := true, laidLooks := .later }
def SingleKeepsCardSaid : Prop := Claim7.holds Tryd.pinned (.plain (OpenSpec.ofChange singleKeepsSpec)) singleKeepsCard

/-- THE TIED CARD OF 'heraldlaw03.SingleTexts'. -/
def singleTextsCard : Claim7 := { stood := { row := singleTextsRow, standIns := [], harness := (true, "fca29a33bddf38311d2c2d0c27bdafaef28f841259420212cd786064f2f97575"), looks := false }, kinds := [], alts := [], laidByText := true, laidKinds := [.data, .data, .data, .pinned], laidTests := true, laidLooks := .later }
def SingleTextsCardSaid : Prop := Claim7.holds Tryd.pinned (.plain (OpenSpec.ofChange singleTextsSpec)) singleTextsCard

/-- THE TIED CARD OF 'heraldlaw03.SingleDecimal'. -/
def singleDecimalCard : Claim7 := { stood := { row := singleDecimalRow, standIns := [], harness := (true, "fca29a33bddf38311d2c2d0c27bdafaef28f841259420212cd786064f2f97575"), looks := false }, kinds := [], alts := [], laidByText := true, laidKinds := [.data, .data, .data, .pinned], laidTests := true, laidLooks := .later }
def SingleDecimalCardSaid : Prop := Claim7.holds Tryd.pinned (.plain (OpenSpec.ofChange singleDecimalSpec)) singleDecimalCard

/-- THE SECOND FORM's CARD OF 'heraldlaw03.SingleParts'. -/
def singlePartsUptoCard : Claim7 := { stood := { row := singlePartsUptoRow, standIns := [], harness := (true, "fca29a33bddf38311d2c2d0c27bdafaef28f841259420212cd786064f2f97575"), looks := false }, kinds := [], alts := [], laidByText := true, laidKinds := [.data, .data], laidTests := true, laidLooks := .later }
def SinglePartsUptoCardSaid : Prop := Claim7.holds Tryd.pinned (.plain (OpenSpec.upto singlePartsSpec)) singlePartsUptoCard

/-- THE SECOND FORM's CARD OF 'heraldlaw03.SingleBack'. -/
def singleBackUptoCard : Claim7 := { stood := { row := singleBackUptoRow, standIns := [], harness := (true, "fca29a33bddf38311d2c2d0c27bdafaef28f841259420212cd786064f2f97575"), looks := false }, kinds := [], alts := [], laidByText := true, laidKinds := [.data, .data], laidTests := true, laidLooks := .later }
def SingleBackUptoCardSaid : Prop := Claim7.holds Tryd.pinned (.plain (OpenSpec.upto singleBackSpec)) singleBackUptoCard

/-- THE SECOND FORM's CARD OF 'heraldlaw03.SingleAt'. -/
def singleAtUptoCard : Claim7 := { stood := { row := singleAtUptoRow, standIns := [], harness := (true, "fca29a33bddf38311d2c2d0c27bdafaef28f841259420212cd786064f2f97575"), looks := false }, kinds := [], alts := [], laidByText := true, laidKinds := [.data, .data], laidTests := true, laidLooks := .later }
def SingleAtUptoCardSaid : Prop := Claim7.holds Tryd.pinned (.plain (OpenSpec.upto singleAtSpec)) singleAtUptoCard

/-- THE SECOND FORM's CARD OF 'heraldlaw03.SingleQuantises'. -/
def singleQuantisesUptoCard : Claim7 := { stood := { row := singleQuantisesUptoRow, standIns := [], harness := (true, "fca29a33bddf38311d2c2d0c27bdafaef28f841259420212cd786064f2f97575"), looks := false }, kinds := [], alts := [], laidByText := true, laidKinds := [.data, .data], laidTests := true, laidLooks := .later }
def SingleQuantisesUptoCardSaid : Prop := Claim7.holds Tryd.pinned (.plain (OpenSpec.upto singleQuantisesSpec)) singleQuantisesUptoCard

/-- THE SECOND FORM's CARD OF 'heraldlaw03.SingleMemory'. -/
def singleMemoryUptoCard : Claim7 := { stood := { row := singleMemoryUptoRow, standIns := [], harness := (true, "fca29a33bddf38311d2c2d0c27bdafaef28f841259420212cd786064f2f97575"), looks := false }, kinds := [], alts := [], laidByText := true, laidKinds := [.data, .data], laidTests := true, laidLooks := .later }
def SingleMemoryUptoCardSaid : Prop := Claim7.holds Tryd.pinned (.plain (OpenSpec.upto singleMemorySpec)) singleMemoryUptoCard

/-- THE SECOND FORM's CARD OF 'heraldlaw03.SingleFormats'. -/
def singleFormatsUptoCard : Claim7 := { stood := { row := singleFormatsUptoRow, standIns := [], harness := (true, "fca29a33bddf38311d2c2d0c27bdafaef28f841259420212cd786064f2f97575"), looks := false }, kinds := [], alts := [], laidByText := true, laidKinds := [.data, .data], laidTests := true, laidLooks := .later }
def SingleFormatsUptoCardSaid : Prop := Claim7.holds Tryd.pinned (.plain (OpenSpec.upto singleFormatsSpec)) singleFormatsUptoCard

/-- THE SECOND FORM's CARD OF 'heraldlaw03.SingleHalves'. -/
def singleHalvesUptoCard : Claim7 := { stood := { row := singleHalvesUptoRow, standIns := [], harness := (true, "fca29a33bddf38311d2c2d0c27bdafaef28f841259420212cd786064f2f97575"), looks := false }, kinds := [], alts := [], laidByText := true, laidKinds := [.data, .data], laidTests := true, laidLooks := .later }
def SingleHalvesUptoCardSaid : Prop := Claim7.holds Tryd.pinned (.plain (OpenSpec.upto singleHalvesSpec)) singleHalvesUptoCard

/-- THE SECOND FORM's CARD OF 'heraldlaw03.SingleKeeps'. -/
def singleKeepsUptoCard : Claim7 := { stood := { row := singleKeepsUptoRow, standIns := [], harness := (true, "fca29a33bddf38311d2c2d0c27bdafaef28f841259420212cd786064f2f97575"), looks := false }, kinds := [], alts := [], laidByText := true, laidKinds := [.data, .data], laidTests := true, laidLooks := .later }
def SingleKeepsUptoCardSaid : Prop := Claim7.holds Tryd.pinned (.plain (OpenSpec.upto singleKeepsSpec)) singleKeepsUptoCard

/-- THE SECOND FORM's CARD OF 'heraldlaw03.SingleTexts'. -/
def singleTextsUptoCard : Claim7 := { stood := { row := singleTextsUptoRow, standIns := [], harness := (true, "fca29a33bddf38311d2c2d0c27bdafaef28f841259420212cd786064f2f97575"), looks := false }, kinds := [], alts := [], laidByText := true, laidKinds := [.data, .data, .data, .pinned], laidTests := true, laidLooks := .later }
def SingleTextsUptoCardSaid : Prop := Claim7.holds Tryd.pinned (.plain (OpenSpec.upto singleTextsSpec)) singleTextsUptoCard

/-- THE SECOND FORM's CARD OF 'heraldlaw03.SingleDecimal'. -/
def singleDecimalUptoCard : Claim7 := { stood := { row := singleDecimalUptoRow, standIns := [], harness := (true, "fca29a33bddf38311d2c2d0c27bdafaef28f841259420212cd786064f2f97575"), looks := false }, kinds := [], alts := [], laidByText := true, laidKinds := [.data, .data, .data, .pinned], laidTests := true, laidLooks := .later }
def SingleDecimalUptoCardSaid : Prop := Claim7.holds Tryd.pinned (.plain (OpenSpec.upto singleDecimalSpec)) singleDecimalUptoCard
end Rows
end Go.Proofs.YteecekhfpfnepaaDoor
