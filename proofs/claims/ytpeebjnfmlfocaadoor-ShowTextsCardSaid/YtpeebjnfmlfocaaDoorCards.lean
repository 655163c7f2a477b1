/-
  DERIVED. GIVEN WITH THE SEED: THE CARDS: each row of YtpeebjnfmlfocaaDoorRows.lean that lists a variable, with what it lists TIED to the program's text (the seventh form; the later family's looks); each row that meets fmt, with fmt's text TOLD by the authors' own Lean function (tested against real Go, not proved from fmt's source: count such statements apart). THE CARD IS WHAT COUNTS. Prove the row's statement (the work); the ties are given (YtpeebjnfmlfocaaDoorTie.lean); close each card by the builder's one call (the guide's Derived/Test/ToyasCard.lean, 'card_holds'). Laid BY PROGRAM, IN A SANDBOX (cutbox-door.mjs). By AI agents, Wed Nov 11 2026. No macro, syntax, notation, axiom, sorry.
-/
import Derived.Test.YtpeebjnfmlfocaaDoorRows
import GoSem.ClaimSeven
namespace Go.Proofs.YtpeebjnfmlfocaaDoor
namespace Rows

/-- THE TIED CARD OF 'cleromancylaw21.CreditRanks'. -/
def creditRanksCard : Claim7 := { stood := { row := creditRanksRow, standIns := [], harness := (true, "88ad74f4235768ce2ee27f4660809d551552ad15cc6fba27e3a6463438547031"), looks := true }, kinds := [], alts := [], laidByText := true, laidKinds := [.data], laidTests := true, laidLooks := .later }
def CreditRanksCardSaid : Prop := Claim7.holds Tryd.pinned (.plain (OpenSpec.ofChange creditRanksSpec)) creditRanksCard

/-- THE TIED CARD OF 'cleromancylaw38.HkdfFirst'. -/
def hkdfFirstCard : Claim7 := { stood := { row := hkdfFirstRow, standIns := [], harness := (true, "88ad74f4235768ce2ee27f4660809d551552ad15cc6fba27e3a6463438547031"), looks := true }, kinds := [], alts := [], laidByText := true, laidKinds := [.data], laidTests := true, laidLooks := .later }
def HkdfFirstCardSaid : Prop := Claim7.holds Tryd.pinned (.plain (OpenSpec.ofChange hkdfFirstSpec)) hkdfFirstCard

/-- THE TIED CARD OF 'cleromancylaw38.HkdfBytes'. -/
def hkdfBytesCard : Claim7 := { stood := { row := hkdfBytesRow, standIns := [], harness := (true, "88ad74f4235768ce2ee27f4660809d551552ad15cc6fba27e3a6463438547031"), looks := true }, kinds := [], alts := [], laidByText := true, laidKinds := [.data], laidTests := true, laidLooks := .later }
def HkdfBytesCardSaid : Prop := Claim7.holds Tryd.pinned (.plain (OpenSpec.ofChange hkdfBytesSpec)) hkdfBytesCard

/-- THE TIED CARD OF 'cleromancylaw44.TaleParses'. -/
def taleParsesCard : Claim7 := { stood := { row := taleParsesRow, standIns := [], harness := (true, "88ad74f4235768ce2ee27f4660809d551552ad15cc6fba27e3a6463438547031"), looks := true }, kinds := [], alts := [], laidByText := true, laidKinds := [.data, .pinned], laidTests := true, laidLooks := .later }
def TaleParsesCardSaid : Prop := Claim7.holds Tryd.pinned (.plain (OpenSpec.ofChange taleParsesSpec)) taleParsesCard

/-- THE TIED CARD OF 'cleromancylaw47.ShowTexts'. -/
def showTextsCard : Claim7 := { stood := { row := showTextsRow, standIns := [], harness := (true, "88ad74f4235768ce2ee27f4660809d551552ad15cc6fba27e3a6463438547031"), looks := true }, kinds := [], alts := [], laidByText := true, laidKinds := [.data, .data, .data], laidTests := true, laidLooks := .later }
def ShowTextsCardSaid : Prop := Claim7.holds Tryd.pinned (.plain (OpenSpec.ofChange showTextsSpec)) showTextsCard

/-- THE TIED CARD OF 'cleromancylaw44.TalePrints'. -/
def talePrintsCard : Claim7 := { stood := { row := talePrintsRow, standIns := [], harness := (true, "88ad74f4235768ce2ee27f4660809d551552ad15cc6fba27e3a6463438547031"), looks := true }, kinds := [], alts := [], laidByText := true, laidKinds := [.data, .data, .data, .data, .pinned], laidTests := true, laidLooks := .later }
def TalePrintsCardSaid : Prop := Claim7.holds Tryd.pinned (.plain (OpenSpec.ofChange talePrintsSpec)) talePrintsCard

/-- THE TIED CARD OF 'cleromancylaw44.TaleBack'. -/
def taleBackCard : Claim7 := { stood := { row := taleBackRow, standIns := [], harness := (true, "88ad74f4235768ce2ee27f4660809d551552ad15cc6fba27e3a6463438547031"), looks := true }, kinds := [], alts := [], laidByText := true, laidKinds := [.data, .data, .data, .data, .pinned], laidTests := true, laidLooks := .later }
def TaleBackCardSaid : Prop := Claim7.holds Tryd.pinned (.plain (OpenSpec.ofChange taleBackSpec)) taleBackCard

/-- THE TIED CARD OF 'cleromancylaw47.ShowBack'. -/
def showBackCard : Claim7 := { stood := { row := showBackRow, standIns := [], harness := (true, "88ad74f4235768ce2ee27f4660809d551552ad15cc6fba27e3a6463438547031"), looks := true }, kinds := [], alts := [], laidByText := true, laidKinds := [.data, .data, .data, .data, .pinned], laidTests := true, laidLooks := .later }
def ShowBackCardSaid : Prop := Claim7.holds Tryd.pinned (.plain (OpenSpec.ofChange showBackSpec)) showBackCard

/-- THE SECOND FORM's CARD OF 'cleromancylaw21.CreditRanks'. -/
def creditRanksUptoCard : Claim7 := { stood := { row := creditRanksUptoRow, standIns := [], harness := (true, "88ad74f4235768ce2ee27f4660809d551552ad15cc6fba27e3a6463438547031"), looks := true }, kinds := [], alts := [], laidByText := true, laidKinds := [.data], laidTests := true, laidLooks := .later }
def CreditRanksUptoCardSaid : Prop := Claim7.holds Tryd.pinned (.plain (OpenSpec.upto creditRanksSpec)) creditRanksUptoCard

/-- THE SECOND FORM's CARD OF 'cleromancylaw38.HkdfFirst'. -/
def hkdfFirstUptoCard : Claim7 := { stood := { row := hkdfFirstUptoRow, standIns := [], harness := (true, "88ad74f4235768ce2ee27f4660809d551552ad15cc6fba27e3a6463438547031"), looks := true }, kinds := [], alts := [], laidByText := true, laidKinds := [.data], laidTests := true, laidLooks := .later }
def HkdfFirstUptoCardSaid : Prop := Claim7.holds Tryd.pinned (.plain (OpenSpec.upto hkdfFirstSpec)) hkdfFirstUptoCard

/-- THE SECOND FORM's CARD OF 'cleromancylaw38.HkdfBytes'. -/
def hkdfBytesUptoCard : Claim7 := { stood := { row := hkdfBytesUptoRow, standIns := [], harness := (true, "88ad74f4235768ce2ee27f4660809d551552ad15cc6fba27e3a6463438547031"), looks := true }, kinds := [], alts := [], laidByText := true, laidKinds := [.data], laidTests := true, laidLooks := .later }
def HkdfBytesUptoCardSaid : Prop := Claim7.holds Tryd.pinned (.plain (OpenSpec.upto hkdfBytesSpec)) hkdfBytesUptoCard

/-- THE SECOND FORM's CARD OF 'cleromancylaw44.TaleParses'. -/
def taleParsesUptoCard : Claim7 := { stood := { row := taleParsesUptoRow, standIns := [], harness := (true, "88ad74f4235768ce2ee27f4660809d551552ad15cc6fba27e3a6463438547031"), looks := true }, kinds := [], alts := [], laidByText := true, laidKinds := [.data, .pinned], laidTests := true, laidLooks := .later }
def TaleParsesUptoCardSaid : Prop := Claim7.holds Tryd.pinned (.plain (OpenSpec.upto taleParsesSpec)) taleParsesUptoCard

/-- THE SECOND FORM's CARD OF 'cleromancylaw47.ShowTexts'. -/
def showTextsUptoCard : Claim7 := { stood := { row := showTextsUptoRow, standIns := [], harness := (true, "88ad74f4235768ce2ee27f4660809d551552ad15cc6fba27e3a6463438547031"), looks := true }, kinds := [], alts := [], laidByText := true, laidKinds := [.data, .data, .data], laidTests := true, laidLooks := .later }
def ShowTextsUptoCardSaid : Prop := Claim7.holds Tryd.pinned (.plain (OpenSpec.upto showTextsSpec)) showTextsUptoCard

/-- THE SECOND FORM's CARD OF 'cleromancylaw44.TalePrints'. -/
def talePrintsUptoCard : Claim7 := { stood := { row := talePrintsUptoRow, standIns := [], harness := (true, "88ad74f4235768ce2ee27f4660809d551552ad15cc6fba27e3a6463438547031"), looks := true }, kinds := [], alts := [], laidByText := true, laidKinds := [.data, .data, .data, .data, .pinned], laidTests := true, laidLooks := .later }
def TalePrintsUptoCardSaid : Prop := Claim7.holds Tryd.pinned (.plain (OpenSpec.upto talePrintsSpec)) talePrintsUptoCard

/-- THE SECOND FORM's CARD OF 'cleromancylaw44.TaleBack'. -/
def taleBackUptoCard : Claim7 := { stood := { row := taleBackUptoRow, standIns := [], harness := (true, "88ad74f4235768ce2ee27f4660809d551552ad15cc6fba27e3a6463438547031"), looks := true }, kinds := [], alts := [], laidByText := true, laidKinds := [.data, .data, .data, .data, .pinned], laidTests := true, laidLooks := .later }
def TaleBackUptoCardSaid : Prop := Claim7.holds Tryd.pinned (.plain (OpenSpec.upto taleBackSpec)) taleBackUptoCard

/-- THE SECOND FORM's CARD OF 'cleromancylaw47.ShowBack'. -/
def showBackUptoCard : Claim7 := { stood := { row := showBackUptoRow, standIns := [], harness := (true, "88ad74f4235768ce2ee27f4660809d551552ad15cc6fba27e3a6463438547031"), looks := true }, kinds := [], alts := [], laidByText := true, laidKinds := [.data, .data, .data, .data, .pinned], laidTests := true, laidLooks := .later }
def ShowBackUptoCardSaid : Prop := Claim7.holds Tryd.pinned (.plain (OpenSpec.upto showBackSpec)) showBackUptoCard
end Rows
end Go.Proofs.YtpeebjnfmlfocaaDoor
