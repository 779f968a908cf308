/-
  DERIVED. GIVEN WITH THE SEED: THE CARDS: each row of YtneogampbohfnaaDoorRows.lean that lists a variable, with what it lists TIED to the program's text (the seventh form; the later family's looks); each row that meets fmt, with fmt's text TOLD by the authors' own Lean function (tested against real Go, not proved from fmt's source: count such statements apart). THE CARD IS WHAT COUNTS. Prove the row's statement (the work); the ties are given (YtneogampbohfnaaDoorTie.lean); close each card by the builder's one call (the guide's Derived/Test/ToyasCard.lean, 'card_holds'). Laid BY PROGRAM, IN A SANDBOX (cutbox-door.mjs). By AI agents, Wed Nov 11 2026. No macro, syntax, notation, axiom, sorry.
-/
import Derived.Test.YtneogampbohfnaaDoorRows
import GoSem.ClaimSeven
namespace Go.Proofs.YtneogampbohfnaaDoor
namespace Rows

/-- THE TIED CARD OF 'portagelaw13.Zips'. -/
def zipsCard : Claim7 := { stood := { row := zipsRow, standIns := [], harness := (true, "2c9e805b7f036478b7b1884003dc1254d274657504e579a8b71d282f3589f02f"), looks := true }, kinds := [], alts := [], laidByText := true, laidKinds := [.data, .pinned], laidTests := true, laidLooks := .later }
def ZipsCardSaid : Prop := Claim7.holds Tryd.pinned (.plain (OpenSpec.ofChange zipsSpec)) zipsCard

/-- THE TIED CARD OF 'portagelaw13.ZipParts'. -/
def zipPartsCard : Claim7 := { stood := { row := zipPartsRow, standIns := [], harness := (true, "2c9e805b7f036478b7b1884003dc1254d274657504e579a8b71d282f3589f02f"), looks := true }, kinds := [], alts := [], laidByText := true, laidKinds := [.data, .pinned], laidTests := true, laidLooks := .later }
def ZipPartsCardSaid : Prop := Claim7.holds Tryd.pinned (.plain (OpenSpec.ofChange zipPartsSpec)) zipPartsCard

/-- THE TIED CARD OF 'portagelaw13.ZipForms'. -/
def zipFormsCard : Claim7 := { stood := { row := zipFormsRow, standIns := [], harness := (true, "2c9e805b7f036478b7b1884003dc1254d274657504e579a8b71d282f3589f02f"), looks := true }, kinds := [], alts := [], laidByText := true, laidKinds := [.data, .pinned], laidTests := true, laidLooks := .later }
def ZipFormsCardSaid : Prop := Claim7.holds Tryd.pinned (.plain (OpenSpec.ofChange zipFormsSpec)) zipFormsCard

/-- THE TIED CARD OF 'portagelaw13.ZipSizes'. -/
def zipSizesCard : Claim7 := { stood := { row := zipSizesRow, standIns := [], harness := (true, "2c9e805b7f036478b7b1884003dc1254d274657504e579a8b71d282f3589f02f"), looks := true }, kinds := [], alts := [], laidByText := true, laidKinds := [.data, .pinned], laidTests := true, laidLooks := .later }
def ZipSizesCardSaid : Prop := Claim7.holds Tryd.pinned (.plain (OpenSpec.ofChange zipSizesSpec)) zipSizesCard

/-- THE TIED CARD OF 'portagelaw13.ZipUnlike'. -/
def zipUnlikeCard : Claim7 := { stood := { row := zipUnlikeRow, standIns := [], harness := (true, "2c9e805b7f036478b7b1884003dc1254d274657504e579a8b71d282f3589f02f"), looks := true }, kinds := [], alts := [], laidByText := true, laidKinds := [.data, .pinned], laidTests := true, laidLooks := .later }
def ZipUnlikeCardSaid : Prop := Claim7.holds Tryd.pinned (.plain (OpenSpec.ofChange zipUnlikeSpec)) zipUnlikeCard

/-- THE TIED CARD OF 'portagelaw14.Unzips'. -/
def unzipsCard : Claim7 := { stood := { row := unzipsRow, standIns := [], harness := (true, "2c9e805b7f036478b7b1884003dc1254d274657504e579a8b71d282f3589f02f"), looks := true }, kinds := [], alts := [], laidByText := true, laidKinds := [.data, .pinned], laidTests := true, laidLooks := .later }
def UnzipsCardSaid : Prop := Claim7.holds Tryd.pinned (.plain (OpenSpec.ofChange unzipsSpec)) unzipsCard

/-- THE TIED CARD OF 'portagelaw14.UnzipBack'. -/
def unzipBackCard : Claim7 := { stood := { row := unzipBackRow, standIns := [], harness := (true, "2c9e805b7f036478b7b1884003dc1254d274657504e579a8b71d282f3589f02f"), looks := true }, kinds := [], alts := [], laidByText := true, laidKinds := [.data, .pinned], laidTests := true, laidLooks := .later }
def UnzipBackCardSaid : Prop := Claim7.holds Tryd.pinned (.plain (OpenSpec.ofChange unzipBackSpec)) unzipBackCard

/-- THE TIED CARD OF 'portagelaw14.UnzipTurned'. -/
def unzipTurnedCard : Claim7 := { stood := { row := unzipTurnedRow, standIns := [], harness := (true, "2c9e805b7f036478b7b1884003dc1254d274657504e579a8b71d282f3589f02f"), looks := true }, kinds := [], alts := [], laidByText := true, laidKinds := [.data, .pinned], laidTests := true, laidLooks := .later }
def UnzipTurnedCardSaid : Prop := Claim7.holds Tryd.pinned (.plain (OpenSpec.ofChange unzipTurnedSpec)) unzipTurnedCard

/-- THE TIED CARD OF 'portagelaw14.UnzipForms'. -/
def unzipFormsCard : Claim7 := { stood := { row := unzipFormsRow, standIns := [], harness := (true, "2c9e805b7f036478b7b1884003dc1254d274657504e579a8b71d282f3589f02f"), looks := true }, kinds := [], alts := [], laidByText := true, laidKinds := [.data, .pinned], laidTests := true, laidLooks := .later }
def UnzipFormsCardSaid : Prop := Claim7.holds Tryd.pinned (.plain (OpenSpec.ofChange unzipFormsSpec)) unzipFormsCard

/-- THE TIED CARD OF 'portagelaw24.Scripts'. -/
def scriptsCard : Claim7 := { stood := { row := scriptsRow, standIns := [], harness := (true, "2c9e805b7f036478b7b1884003dc1254d274657504e579a8b71d282f3589f02f"), looks := true }, kinds := [], alts := [], laidByText := true, laidKinds := [.data, .data, .data, .sentinel, .sentinel], laidTests := true, laidLooks := .later }
def ScriptsCardSaid : Prop := Claim7.holds Tryd.pinned (.plain (OpenSpec.ofChange scriptsSpec)) scriptsCard

/-- THE TIED CARD OF 'portagelaw24.ScriptBack'. -/
def scriptBackCard : Claim7 := { stood := { row := scriptBackRow, standIns := [], harness := (true, "2c9e805b7f036478b7b1884003dc1254d274657504e579a8b71d282f3589f02f"), looks := true }, kinds := [], alts := [], laidByText := true, laidKinds := [.data, .data, .data, .sentinel, .sentinel], laidTests := true, laidLooks := .later }
def ScriptBackCardSaid : Prop := Claim7.holds Tryd.pinned (.plain (OpenSpec.ofChange scriptBackSpec)) scriptBackCard

/-- THE TIED CARD OF 'portagelaw24.ScriptForms'. -/
def scriptFormsCard : Claim7 := { stood := { row := scriptFormsRow, standIns := [], harness := (true, "2c9e805b7f036478b7b1884003dc1254d274657504e579a8b71d282f3589f02f"), looks := true }, kinds := [], alts := [], laidByText := true, laidKinds := [.data, .data, .data, .sentinel, .sentinel], laidTests := true, laidLooks := .later }
def ScriptFormsCardSaid : Prop := Claim7.holds Tryd.pinned (.plain (OpenSpec.ofChange scriptFormsSpec)) scriptFormsCard

/-- THE TIED CARD OF 'portagelaw24.ScriptRows'. -/
def scriptRowsCard : Claim7 := { stood := { row := scriptRowsRow, standIns := [], harness := (true, "2c9e805b7f036478b7b1884003dc1254d274657504e579a8b71d282f3589f02f"), looks := true }, kinds := [], alts := [], laidByText := true, laidKinds := [.data, .data, .data, .sentinel, .sentinel], laidTests := true, laidLooks := .later }
def ScriptRowsCardSaid : Prop := Claim7.holds Tryd.pinned (.plain (OpenSpec.ofChange scriptRowsSpec)) scriptRowsCard

/-- THE SECOND FORM's CARD OF 'portagelaw13.Zips'. -/
def zipsUptoCard : Claim7 := { stood := { row := zipsUptoRow, standIns := [], harness := (true, "2c9e805b7f036478b7b1884003dc1254d274657504e579a8b71d282f3589f02f"), looks := true }, kinds := [], alts := [], laidByText := true, laidKinds := [.data, .pinned], laidTests := true, laidLooks := .later }
def ZipsUptoCardSaid : Prop := Claim7.holds Tryd.pinned (.plain (OpenSpec.upto zipsSpec)) zipsUptoCard

/-- THE SECOND FORM's CARD OF 'portagelaw13.ZipParts'. -/
def zipPartsUptoCard : Claim7 := { stood := { row := zipPartsUptoRow, standIns := [], harness := (true, "2c9e805b7f036478b7b1884003dc1254d274657504e579a8b71d282f3589f02f"), looks := true }, kinds := [], alts := [], laidByText := true, laidKinds := [.data, .pinned], laidTests := true, laidLooks := .later }
def ZipPartsUptoCardSaid : Prop := Claim7.holds Tryd.pinned (.plain (OpenSpec.upto zipPartsSpec)) zipPartsUptoCard

/-- THE SECOND FORM's CARD OF 'portagelaw13.ZipForms'. -/
def zipFormsUptoCard : Claim7 := { stood := { row := zipFormsUptoRow, standIns := [], harness := (true, "2c9e805b7f036478b7b1884003dc1254d274657504e579a8b71d282f3589f02f"), looks := true }, kinds := [], alts := [], laidByText := true, laidKinds := [.data, .pinned], laidTests := true, laidLooks := .later }
def ZipFormsUptoCardSaid : Prop := Claim7.holds Tryd.pinned (.plain (OpenSpec.upto zipFormsSpec)) zipFormsUptoCard

/-- THE SECOND FORM's CARD OF 'portagelaw13.ZipSizes'. -/
def zipSizesUptoCard : Claim7 := { stood := { row := zipSizesUptoRow, standIns := [], harness := (true, "2c9e805b7f036478b7b1884003dc1254d274657504e579a8b71d282f3589f02f"), looks := true }, kinds := [], alts := [], laidByText := true, laidKinds := [.data, .pinned], laidTests := true, laidLooks := .later }
def ZipSizesUptoCardSaid : Prop := Claim7.holds Tryd.pinned (.plain (OpenSpec.upto zipSizesSpec)) zipSizesUptoCard

/-- THE SECOND FORM's CARD OF 'portagelaw13.ZipUnlike'. -/
def zipUnlikeUptoCard : Claim7 := { stood := { row := zipUnlikeUptoRow, standIns := [], harness := (true, "2c9e805b7f036478b7b1884003dc1254d274657504e579a8b71d282f3589f02f"), looks := true }, kinds := [], alts := [], laidByText := true, laidKinds := [.data, .pinned], laidTests := true, laidLooks := .later }
def ZipUnlikeUptoCardSaid : Prop := Claim7.holds Tryd.pinned (.plain (OpenSpec.upto zipUnlikeSpec)) zipUnlikeUptoCard

/-- THE SECOND FORM's CARD OF 'portagelaw14.Unzips'. -/
def unzipsUptoCard : Claim7 := { stood := { row := unzipsUptoRow, standIns := [], harness := (true, "2c9e805b7f036478b7b1884003dc1254d274657504e579a8b71d282f3589f02f"), looks := true }, kinds := [], alts := [], laidByText := true, laidKinds := [.data, .pinned], laidTests := true, laidLooks := .later }
def UnzipsUptoCardSaid : Prop := Claim7.holds Tryd.pinned (.plain (OpenSpec.upto unzipsSpec)) unzipsUptoCard

/-- THE SECOND FORM's CARD OF 'portagelaw14.UnzipBack'. -/
def unzipBackUptoCard : Claim7 := { stood := { row := unzipBackUptoRow, standIns := [], harness := (true, "2c9e805b7f036478b7b1884003dc1254d274657504e579a8b71d282f3589f02f"), looks := true }, kinds := [], alts := [], laidByText := true, laidKinds := [.data, .pinned], laidTests := true, laidLooks := .later }
def UnzipBackUptoCardSaid : Prop := Claim7.holds Tryd.pinned (.plain (OpenSpec.upto unzipBackSpec)) unzipBackUptoCard

/-- THE SECOND FORM's CARD OF 'portagelaw14.UnzipTurned'. -/
def unzipTurnedUptoCard : Claim7 := { stood := { row := unzipTurnedUptoRow, standIns := [], harness := (true, "2c9e805b7f036478b7b1884003dc1254d274657504e579a8b71d282f3589f02f"), looks := true }, kinds := [], alts := [], laidByText := true, laidKinds := [.data, .pinned], laidTests := true, laidLooks := .later }
def UnzipTurnedUptoCardSaid : Prop := Claim7.holds Tryd.pinned (.plain (OpenSpec.upto unzipTurnedSpec)) unzipTurnedUptoCard

/-- THE SECOND FORM's CARD OF 'portagelaw14.UnzipForms'. -/
def unzipFormsUptoCard : Claim7 := { stood := { row := unzipFormsUptoRow, standIns := [], harness := (true, "2c9e805b7f036478b7b1884003dc1254d274657504e579a8b71d282f3589f02f"), looks := true }, kinds := [], alts := [], laidByText := true, laidKinds := [.data, .pinned], laidTests := true, laidLooks := .later }
def UnzipFormsUptoCardSaid : Prop := Claim7.holds Tryd.pinned (.plain (OpenSpec.upto unzipFormsSpec)) unzipFormsUptoCard

/-- THE SECOND FORM's CARD OF 'portagelaw24.Scripts'. -/
def scriptsUptoCard : Claim7 := { stood := { row := scriptsUptoRow, standIns := [], harness := (true, "2c9e805b7f036478b7b1884003dc1254d274657504e579a8b71d282f3589f02f"), looks := true }, kinds := [], alts := [], laidByText := true, laidKinds := [.data, .data, .data, .sentinel, .sentinel], laidTests := true, laidLooks := .later }
def ScriptsUptoCardSaid : Prop := Claim7.holds Tryd.pinned (.plain (OpenSpec.upto scriptsSpec)) scriptsUptoCard

/-- THE SECOND FORM's CARD OF 'portagelaw24.ScriptBack'. -/
def scriptBackUptoCard : Claim7 := { stood := { row := scriptBackUptoRow, standIns := [], harness := (true, "2c9e805b7f036478b7b1884003dc1254d274657504e579a8b71d282f3589f02f"), looks := true }, kinds := [], alts := [], laidByText := true, laidKinds := [.data, .data, .data, .sentinel, .sentinel], laidTests := true, laidLooks := .later }
def ScriptBackUptoCardSaid : Prop := Claim7.holds Tryd.pinned (.plain (OpenSpec.upto scriptBackSpec)) scriptBackUptoCard

/-- THE SECOND FORM's CARD OF 'portagelaw24.ScriptForms'. -/
def scriptFormsUptoCard : Claim7 := { stood := { row := scriptFormsUptoRow, standIns := [], harness := (true, "2c9e805b7f036478b7b1884003dc1254d274657504e579a8b71d282f3589f02f"), looks := true }, kinds := [], alts := [], laidByText := true, laidKinds := [.data, .data, .data, .sentinel, .sentinel], laidTests := true, laidLooks := .later }
def ScriptFormsUptoCardSaid : Prop := Claim7.holds Tryd.pinned (.plain (OpenSpec.upto scriptFormsSpec)) scriptFormsUptoCard

/-- THE SECOND FORM's CARD OF 'portagelaw24.ScriptRows'. -/
def scriptRowsUptoCard : Claim7 := { stood := { row := scriptRowsUptoRow, standIns := [], harness := (true, "2c9e805b7f036478b7b1884003dc1254d274657504e579a8b71d282f3589f02f"), looks := true }, kinds := [], alts := [], laidByText := true, laidKinds := [.data, .data, .data, .sentinel, .sentinel], laidTests := true, laidLooks := .later }
def ScriptRowsUptoCardSaid : Prop := Claim7.holds Tryd.pinned (.plain (OpenSpec.upto scriptRowsSpec)) scriptRowsUptoCard
end Rows
end Go.Proofs.YtneogampbohfnaaDoor
