/-
  DERIVED. GIVEN WITH THE SEED: THE CARDS: each row of YtgcngbmkgjphpaaDoorRows.lean that lists a variable, with what it lists TIED to the program's text (the seventh form; the later family's looks); each row that meets fmt, with fmt's text TOLD by the authors' own Lean function (tested against real Go, not proved from fmt's source: count such statements apart). THE CARD IS WHAT COUNTS. Prove the row's statement (the work); the ties are given (YtgcngbmkgjphpaaDoorTie.lean); close each card by the builder's one call (the guide's Derived/Test/ToyasCard.lean, 'card_holds'). Laid BY PROGRAM, IN A SANDBOX (cutbox-door.mjs). By AI agents, Wed Nov 11 2026. No macro, syntax, notation, axiom, sorry.
-/
import Derived.Test.YtgcngbmkgjphpaaDoorRows
import GoSem.ClaimSeven
namespace Go.Proofs.YtgcngbmkgjphpaaDoor
namespace Rows

/-- THE TIED CARD OF 'heraldlaw04.NatMakes'. -/
def natMakesCard : Claim7 := { stood := { row := natMakesRow, standIns := [], harness := (true, "8fdaffe0342a1fb3efbf449cfb1b2ae9239417005ff879a90e2985ac57375693"), looks := false }, kinds := [], alts := [], laidByText := true, laidKinds := [.data, .pinned], laidTests := true, laidLooks := .later }
def NatMakesCardSaid : Prop := Claim7.holds Tryd.pinned (.plain (OpenSpec.ofChange natMakesSpec)) natMakesCard

/-- THE TIED CARD OF 'heraldlaw04.NatParses'. -/
def natParsesCard : Claim7 := { stood := { row := natParsesRow, standIns := [], harness := (true, "8fdaffe0342a1fb3efbf449cfb1b2ae9239417005ff879a90e2985ac57375693"), looks := false }, kinds := [], alts := [], laidByText := true, laidKinds := [.data, .pinned], laidTests := true, laidLooks := .later }
def NatParsesCardSaid : Prop := Claim7.holds Tryd.pinned (.plain (OpenSpec.ofChange natParsesSpec)) natParsesCard

/-- THE TIED CARD OF 'heraldlaw04.NatLooks'. -/
def natLooksCard : Claim7 := { stood := { row := natLooksRow, standIns := [], harness := (true, "8fdaffe0342a1fb3efbf449cfb1b2ae9239417005ff879a90e2985ac57375693"), looks := false }, kinds := [], alts := [], laidByText := true, laidKinds := [.data, .pinned], laidTests := true, laidLooks := .later }
def NatLooksCardSaid : Prop := Claim7.holds Tryd.pinned (.plain (OpenSpec.ofChange natLooksSpec)) natLooksCard

/-- THE TIED CARD OF 'heraldlaw04.NatChooses'. -/
def natChoosesCard : Claim7 := { stood := { row := natChoosesRow, standIns := [], harness := (true, "8fdaffe0342a1fb3efbf449cfb1b2ae9239417005ff879a90e2985ac57375693"), looks := false }, kinds := [], alts := [], laidByText := true, laidKinds := [.data, .pinned], laidTests := true, laidLooks := .later }
def NatChoosesCardSaid : Prop := Claim7.holds Tryd.pinned (.plain (OpenSpec.ofChange natChoosesSpec)) natChoosesCard

/-- THE TIED CARD OF 'heraldlaw04.NatShifts'. -/
def natShiftsCard : Claim7 := { stood := { row := natShiftsRow, standIns := [], harness := (true, "8fdaffe0342a1fb3efbf449cfb1b2ae9239417005ff879a90e2985ac57375693"), looks := false }, kinds := [], alts := [], laidByText := true, laidKinds := [.data, .pinned], laidTests := true, laidLooks := .later }
def NatShiftsCardSaid : Prop := Claim7.holds Tryd.pinned (.plain (OpenSpec.ofChange natShiftsSpec)) natShiftsCard

/-- THE TIED CARD OF 'heraldlaw04.NatSums'. -/
def natSumsCard : Claim7 := { stood := { row := natSumsRow, standIns := [], harness := (true, "8fdaffe0342a1fb3efbf449cfb1b2ae9239417005ff879a90e2985ac57375693"), looks := false }, kinds := [], alts := [], laidByText := true, laidKinds := [.data, .pinned], laidTests := true, laidLooks := .later }
def NatSumsCardSaid : Prop := Claim7.holds Tryd.pinned (.plain (OpenSpec.ofChange natSumsSpec)) natSumsCard

/-- THE TIED CARD OF 'heraldlaw04.NatRing'. -/
def natRingCard : Claim7 := { stood := { row := natRingRow, standIns := [], harness := (true, "8fdaffe0342a1fb3efbf449cfb1b2ae9239417005ff879a90e2985ac57375693"), looks := false }, kinds := [], alts := [], laidByText := true, laidKinds := [.data, .pinned], laidTests := true, laidLooks := .later }
def NatRingCardSaid : Prop := Claim7.holds Tryd.pinned (.plain (OpenSpec.ofChange natRingSpec)) natRingCard

/-- THE TIED CARD OF 'heraldlaw04.NatProducts'. -/
def natProductsCard : Claim7 := { stood := { row := natProductsRow, standIns := [], harness := (true, "8fdaffe0342a1fb3efbf449cfb1b2ae9239417005ff879a90e2985ac57375693"), looks := false }, kinds := [], alts := [], laidByText := true, laidKinds := [.data, .pinned], laidTests := true, laidLooks := .later }
def NatProductsCardSaid : Prop := Claim7.holds Tryd.pinned (.plain (OpenSpec.ofChange natProductsSpec)) natProductsCard

/-- THE TIED CARD OF 'heraldlaw04.NatDivides'. -/
def natDividesCard : Claim7 := { stood := { row := natDividesRow, standIns := [], harness := (true, "8fdaffe0342a1fb3efbf449cfb1b2ae9239417005ff879a90e2985ac57375693"), looks := false }, kinds := [], alts := [], laidByText := true, laidKinds := [.data, .pinned], laidTests := true, laidLooks := .later }
def NatDividesCardSaid : Prop := Claim7.holds Tryd.pinned (.plain (OpenSpec.ofChange natDividesSpec)) natDividesCard

/-- THE SECOND FORM's CARD OF 'heraldlaw04.NatMakes'. -/
def natMakesUptoCard : Claim7 := { stood := { row := natMakesUptoRow, standIns := [], harness := (true, "8fdaffe0342a1fb3efbf449cfb1b2ae9239417005ff879a90e2985ac57375693"), looks := false }, kinds := [], alts := [], laidByText := true, laidKinds := [.data, .pinned], laidTests := true, laidLooks := .later }
def NatMakesUptoCardSaid : Prop := Claim7.holds Tryd.pinned (.plain (OpenSpec.upto natMakesSpec)) natMakesUptoCard

/-- THE SECOND FORM's CARD OF 'heraldlaw04.NatParses'. -/
def natParsesUptoCard : Claim7 := { stood := { row := natParsesUptoRow, standIns := [], harness := (true, "8fdaffe0342a1fb3efbf449cfb1b2ae9239417005ff879a90e2985ac57375693"), looks := false }, kinds := [], alts := [], laidByText := true, laidKinds := [.data, .pinned], laidTests := true, laidLooks := .later }
def NatParsesUptoCardSaid : Prop := Claim7.holds Tryd.pinned (.plain (OpenSpec.upto natParsesSpec)) natParsesUptoCard

/-- THE SECOND FORM's CARD OF 'heraldlaw04.NatLooks'. -/
def natLooksUptoCard : Claim7 := { stood := { row := natLooksUptoRow, standIns := [], harness := (true, "8fdaffe0342a1fb3efbf449cfb1b2ae9239417005ff879a90e2985ac57375693"), looks := false }, kinds := [], alts := [], laidByText := true, laidKinds := [.data, .pinned], laidTests := true, laidLooks := .later }
def NatLooksUptoCardSaid : Prop := Claim7.holds Tryd.pinned (.plain (OpenSpec.upto natLooksSpec)) natLooksUptoCard

/-- THE SECOND FORM's CARD OF 'heraldlaw04.NatChooses'. -/
def natChoosesUptoCard : Claim7 := { stood := { row := natChoosesUptoRow, standIns := [], harness := (true, "8fdaffe0342a1fb3efbf449cfb1b2ae9239417005ff879a90e2985ac57375693"), looks := false }, kinds := [], alts := [], laidByText := true, laidKinds := [.data, .pinned], laidTests := true, laidLooks := .later }
def NatChoosesUptoCardSaid : Prop := Claim7.holds Tryd.pinned (.plain (OpenSpec.upto natChoosesSpec)) natChoosesUptoCard

/-- THE SECOND FORM's CARD OF 'heraldlaw04.NatShifts'. -/
def natShiftsUptoCard : Claim7 := { stood := { row := natShiftsUptoRow, standIns := [], harness := (true, "8fdaffe0342a1fb3efbf449cfb1b2ae9239417005ff879a90e2985ac57375693"), looks := false }, kinds := [], alts := [], laidByText := true, laidKinds := [.data, .pinned], laidTests := true, laidLooks := .later }
def NatShiftsUptoCardSaid : Prop := Claim7.holds Tryd.pinned (.plain (OpenSpec.upto natShiftsSpec)) natShiftsUptoCard

/-- THE SECOND FORM's CARD OF 'heraldlaw04.NatSums'. -/
def natSumsUptoCard : Claim7 := { stood := { row := natSumsUptoRow, standIns := [], harness := (true, "8fdaffe0342a1fb3efbf449cfb1b2ae9239417005ff879a90e2985ac57375693"), looks := false }, kinds := [], alts := [], laidByText := true, laidKinds := [.data, .pinned], laidTests := true, laidLooks := .later }
def NatSumsUptoCardSaid : Prop := Claim7.holds Tryd.pinned (.plain (OpenSpec.upto natSumsSpec)) natSumsUptoCard

/-- THE SECOND FORM's CARD OF 'heraldlaw04.NatRing'. -/
def natRingUptoCard : Claim7 := { stood := { row := natRingUptoRow, standIns := [], harness := (true, "8fdaffe0342a1fb3efbf449cfb1b2ae9239417005ff879a90e2985ac57375693"), looks := false }, kinds := [], alts := [], laidByText := true, laidKinds := [.data, .pinned], laidTests := true, laidLooks := .later }
def NatRingUptoCardSaid : Prop := Claim7.holds Tryd.pinned (.plain (OpenSpec.upto natRingSpec)) natRingUptoCard

/-- THE SECOND FORM's CARD OF 'heraldlaw04.NatProducts'. -/
def natProductsUptoCard : Claim7 := { stood := { row := natProductsUptoRow, standIns := [], harness := (true, "8fdaffe0342a1fb3efbf449cfb1b2ae9239417005ff879a90e2985ac57375693"), looks := false }, kinds := [], alts := [], laidByText := true, laidKinds := [.data, .pinned], laidTests := true, laidLooks := .later }
def NatProductsUptoCardSaid : Prop := Claim7.holds Tryd.pinned (.plain (OpenSpec.upto natProductsSpec)) natProductsUptoCard

/-- THE SECOND FORM's CARD OF 'heraldlaw04.NatDivides'. -/
def natDividesUptoCard : Claim7 := { stood := { row := natDividesUptoRow, standIns := [], harness := (true, "8fdaffe0342a1fb3efbf449cfb1b2ae9239417005ff879a90e2985ac57375693"), looks := false }, kinds := [], alts := [], laidByText := true, laidKinds := [.data, .pinned], laidTests := true, laidLooks := .later }
def NatDividesUptoCardSaid : Prop := Claim7.holds Tryd.pinned (.plain (OpenSpec.upto natDividesSpec)) natDividesUptoCard
end Rows
end Go.Proofs.YtgcngbmkgjphpaaDoor
