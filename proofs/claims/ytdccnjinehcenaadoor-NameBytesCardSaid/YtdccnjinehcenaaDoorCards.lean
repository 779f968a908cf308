/-
  DERIVED. GIVEN WITH THE SEED: THE CARDS: each row of YtdccnjinehcenaaDoorRows.lean that lists a variable, with what it lists TIED to the program's text (the seventh form; the later family's looks); each row that meets fmt, with fmt's text TOLD by the authors' own Lean function (tested against real Go, not proved from fmt's source: count such statements apart). THE CARD IS WHAT COUNTS. Prove the row's statement (the work); the ties are given (YtdccnjinehcenaaDoorTie.lean); close each card by the builder's one call (the guide's Derived/Test/ToyasCard.lean, 'card_holds'). Laid BY PROGRAM, IN A SANDBOX (cutbox-door.mjs). By AI agents, Wed Nov 11 2026. No macro, syntax, notation, axiom, sorry.
-/
import Derived.Test.YtdccnjinehcenaaDoorRows
import GoSem.ClaimSeven
namespace Go.Proofs.YtdccnjinehcenaaDoor
namespace Rows

/-- THE TIED CARD OF 'portagelaw10.Names'. -/
def namesCard : Claim7 := { stood := { row := namesRow, standIns := [], harness := (true, "55fd85200033e1cd58c8b0c8ac4acc80b9757ab5642661829b75fb99f25fd4a8"), looks := false }, kinds := [], alts := [], laidByText := true, laidKinds := [.data, .pinned], laidTests := true, laidLooks := .later }
def NamesCardSaid : Prop := Claim7.holds Tryd.pinned (.plain (OpenSpec.ofChange namesSpec)) namesCard

/-- THE TIED CARD OF 'portagelaw10.NameBytes'. -/
def nameBytesCard : Claim7 := { stood := { row := nameBytesRow, standIns := [], harness := (true, "55fd85200033e1cd58c8b0c8ac4acc80b9757ab5642661829b75fb99f25fd4a8"), looks := false }, kinds := [], alts := [], laidByText := true, laidKinds := [.data, .pinned], laidTests := true, laidLooks := .later }
def NameBytesCardSaid : Prop := Claim7.holds Tryd.pinned (.plain (OpenSpec.ofChange nameBytesSpec)) nameBytesCard

/-- THE TIED CARD OF 'portagelaw10.NameLengths'. -/
def nameLengthsCard : Claim7 := { stood := { row := nameLengthsRow, standIns := [], harness := (true, "55fd85200033e1cd58c8b0c8ac4acc80b9757ab5642661829b75fb99f25fd4a8"), looks := false }, kinds := [], alts := [], laidByText := true, laidKinds := [.data, .pinned], laidTests := true, laidLooks := .later }
def NameLengthsCardSaid : Prop := Claim7.holds Tryd.pinned (.plain (OpenSpec.ofChange nameLengthsSpec)) nameLengthsCard

/-- THE SECOND FORM's CARD OF 'portagelaw10.Names'. -/
def namesUptoCard : Claim7 := { stood := { row := namesUptoRow, standIns := [], harness := (true, "55fd85200033e1cd58c8b0c8ac4acc80b9757ab5642661829b75fb99f25fd4a8"), looks := false }, kinds := [], alts := [], laidByText := true, laidKinds := [.data, .pinned], laidTests := true, laidLooks := .later }
def NamesUptoCardSaid : Prop := Claim7.holds Tryd.pinned (.plain (OpenSpec.upto namesSpec)) namesUptoCard

/-- THE SECOND FORM's CARD OF 'portagelaw10.NameBytes'. -/
def nameBytesUptoCard : Claim7 := { stood := { row := nameBytesUptoRow, standIns := [], harness := (true, "55fd85200033e1cd58c8b0c8ac4acc80b9757ab5642661829b75fb99f25fd4a8"), looks := false }, kinds := [], alts := [], laidByText := true, laidKinds := [.data, .pinned], laidTests := true, laidLooks := .later }
def NameBytesUptoCardSaid : Prop := Claim7.holds Tryd.pinned (.plain (OpenSpec.upto nameBytesSpec)) nameBytesUptoCard

/-- THE SECOND FORM's CARD OF 'portagelaw10.NameLengths'. -/
def nameLengthsUptoCard : Claim7 := { stood := { row := nameLengthsUptoRow, standIns := [], harness := (true, "55fd85200033e1cd58c8b0c8ac4acc80b9757ab5642661829b75fb99f25fd4a8"), looks := false }, kinds := [], alts := [], laidByText := true, laidKinds := [.data, .pinned], laidTests := true, laidLooks := .later }
def NameLengthsUptoCardSaid : Prop := Claim7.holds Tryd.pinned (.plain (OpenSpec.upto nameLengthsSpec)) nameLengthsUptoCard
end Rows
end Go.Proofs.YtdccnjinehcenaaDoor
