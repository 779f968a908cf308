/-
  No cell of these rows narrows 'for every input' (looked for: loops, veiled, ifaces, maps, wideKeys, modest, calm, conditions, laid).
  DERIVED. THE GIVEN ROWS OF THIS SEAT. 20 by the template 'for every input the law returns true; each argument reads behind the call as it read before'; 0 by the template 'total and deterministic' (their statements: YtnjbbfcknijcnaaTotals.lean).
  GIVEN WITH THE SEED: the statements are not yours to turn. If you find one false, say at which input.
  Laid BY PROGRAM, IN A SANDBOX (cutbox-rows.mjs): the forced cells as the released guide's own fill.sh prints them over the translation bb9569df70ed1b52… (all of the seat's roots in one cut). By AI agents, Wed Nov 11 2026. No macro, syntax, notation, axiom, sorry.
-/
import Derived.Test.YtnjbbfcknijcnaaChecked
import GoSem.Claim
import GoSem.ClaimJoined
import GoSem.ClaimMapViews
import Derived.JoinedTies
import Derived.KernelRfl
namespace Go.Proofs.Ytnjbbfcknijcnaa
/- THE CELL 'sum', in the pinned program and in every row, IS THE sha256 OF THE DUMP (.gsa) THAT YtnjbbfcknijcnaaProg.lean LOADS. Nothing in Lean hashes anything: it is a label: what it is worth is what the hold of that sum in a sandbox is worth. -/
noncomputable def Try.pinned : Pinned := { name := "ytnjbbfcknijcnaa", sum := "bb9569df70ed1b523e4b05d80f26ca3d83ed5861188edf1af46961122a220399", checked := Try.checked }
namespace Rows
def none {H : Type} : Left H := { results := [], args := [] }

/-- 'portagelaw0.PortageNames': WHATEVER THE INPUT: true; the input reads as it did. -/
def portageNamesSpec : ChangeSpec := { name := "portageNames", fn := fun _ => fun
  | [] => { results := [.lit (.bool true)], args := [] }
  | _ => none }
def portageNamesRow : OpenClaim := { program := "ytnjbbfcknijcnaa", sum := "bb9569df70ed1b523e4b05d80f26ca3d83ed5861188edf1af46961122a220399", func := "portage/portagelaw0.PortageNames", spec := "portageNames", apart := false }
def PortageNamesSaid : Prop := portageNamesRow.holds Try.pinned (OpenSpec.ofChange portageNamesSpec)

/-- ITS FALSE NEIGHBOUR: 'it returns false'. Refute it at one input. -/
def portageNamesWrong : ChangeSpec := { name := "portageNames", fn := fun _ => fun
  | [] => { results := [.lit (.bool false)], args := [] }
  | _ => none }
def PortageNamesWrongFalsely : Prop := portageNamesRow.holds Try.pinned (OpenSpec.ofChange portageNamesWrong)

/-- 'portagelaw2.Crcs': WHATEVER THE INPUT: true; the input reads as it did. -/
def crcsSpec : ChangeSpec := { name := "crcs", fn := fun _ => fun
  | [d1, d2] => { results := [.lit (.bool true)], args := [d1, d2] }
  | _ => none }
def crcsRow : OpenClaim := { program := "ytnjbbfcknijcnaa", sum := "bb9569df70ed1b523e4b05d80f26ca3d83ed5861188edf1af46961122a220399", func := "portage/portagelaw2.Crcs", spec := "crcs", apart := false }
def CrcsSaid : Prop := crcsRow.holds Try.pinned (OpenSpec.ofChange crcsSpec)

/-- ITS FALSE NEIGHBOUR: 'it returns false'. Refute it at one input. -/
def crcsWrong : ChangeSpec := { name := "crcs", fn := fun _ => fun
  | [d1, d2] => { results := [.lit (.bool false)], args := [d1, d2] }
  | _ => none }
def CrcsWrongFalsely : Prop := crcsRow.holds Try.pinned (OpenSpec.ofChange crcsWrong)

/-- 'portagelaw2.CrcTurned': WHATEVER THE INPUT: true; the input reads as it did. -/
def crcTurnedSpec : ChangeSpec := { name := "crcTurned", fn := fun _ => fun
  | [d1, d2, d3, d4] => { results := [.lit (.bool true)], args := [d1, d2, d3, d4] }
  | _ => none }
def crcTurnedRow : OpenClaim := { program := "ytnjbbfcknijcnaa", sum := "bb9569df70ed1b523e4b05d80f26ca3d83ed5861188edf1af46961122a220399", func := "portage/portagelaw2.CrcTurned", spec := "crcTurned", apart := false }
def CrcTurnedSaid : Prop := crcTurnedRow.holds Try.pinned (OpenSpec.ofChange crcTurnedSpec)

/-- ITS FALSE NEIGHBOUR: 'it returns false'. Refute it at one input. -/
def crcTurnedWrong : ChangeSpec := { name := "crcTurned", fn := fun _ => fun
  | [d1, d2, d3, d4] => { results := [.lit (.bool false)], args := [d1, d2, d3, d4] }
  | _ => none }
def CrcTurnedWrongFalsely : Prop := crcTurnedRow.holds Try.pinned (OpenSpec.ofChange crcTurnedWrong)

/-- 'portagelaw2.CrcLinear': WHATEVER THE INPUT: true; the input reads as it did. -/
def crcLinearSpec : ChangeSpec := { name := "crcLinear", fn := fun _ => fun
  | [d1, d2, d3] => { results := [.lit (.bool true)], args := [d1, d2, d3] }
  | _ => none }
def crcLinearRow : OpenClaim := { program := "ytnjbbfcknijcnaa", sum := "bb9569df70ed1b523e4b05d80f26ca3d83ed5861188edf1af46961122a220399", func := "portage/portagelaw2.CrcLinear", spec := "crcLinear", apart := false }
def CrcLinearSaid : Prop := crcLinearRow.holds Try.pinned (OpenSpec.ofChange crcLinearSpec)

/-- ITS FALSE NEIGHBOUR: 'it returns false'. Refute it at one input. -/
def crcLinearWrong : ChangeSpec := { name := "crcLinear", fn := fun _ => fun
  | [d1, d2, d3] => { results := [.lit (.bool false)], args := [d1, d2, d3] }
  | _ => none }
def CrcLinearWrongFalsely : Prop := crcLinearRow.holds Try.pinned (OpenSpec.ofChange crcLinearWrong)

/-- 'portagelaw2.CrcTable': WHATEVER THE INPUT: true; the input reads as it did. -/
def crcTableSpec : ChangeSpec := { name := "crcTable", fn := fun _ => fun
  | [d] => { results := [.lit (.bool true)], args := [d] }
  | _ => none }
def crcTableRow : OpenClaim := { program := "ytnjbbfcknijcnaa", sum := "bb9569df70ed1b523e4b05d80f26ca3d83ed5861188edf1af46961122a220399", func := "portage/portagelaw2.CrcTable", spec := "crcTable", apart := false }
def CrcTableSaid : Prop := crcTableRow.holds Try.pinned (OpenSpec.ofChange crcTableSpec)

/-- ITS FALSE NEIGHBOUR: 'it returns false'. Refute it at one input. -/
def crcTableWrong : ChangeSpec := { name := "crcTable", fn := fun _ => fun
  | [d] => { results := [.lit (.bool false)], args := [d] }
  | _ => none }
def CrcTableWrongFalsely : Prop := crcTableRow.holds Try.pinned (OpenSpec.ofChange crcTableWrong)

/-- 'portagelaw2.CrcJoins': WHATEVER THE INPUT: true; the input reads as it did. -/
def crcJoinsSpec : ChangeSpec := { name := "crcJoins", fn := fun _ => fun
  | [d1, d2, d3, d4] => { results := [.lit (.bool true)], args := [d1, d2, d3, d4] }
  | _ => none }
def crcJoinsRow : OpenClaim := { program := "ytnjbbfcknijcnaa", sum := "bb9569df70ed1b523e4b05d80f26ca3d83ed5861188edf1af46961122a220399", func := "portage/portagelaw2.CrcJoins", spec := "crcJoins", apart := false }
def CrcJoinsSaid : Prop := crcJoinsRow.holds Try.pinned (OpenSpec.ofChange crcJoinsSpec)

/-- ITS FALSE NEIGHBOUR: 'it returns false'. Refute it at one input. -/
def crcJoinsWrong : ChangeSpec := { name := "crcJoins", fn := fun _ => fun
  | [d1, d2, d3, d4] => { results := [.lit (.bool false)], args := [d1, d2, d3, d4] }
  | _ => none }
def CrcJoinsWrongFalsely : Prop := crcJoinsRow.holds Try.pinned (OpenSpec.ofChange crcJoinsWrong)

/-- 'portagelaw11.Vectors': WHATEVER THE INPUT: true; the input reads as it did. -/
def vectorsSpec : ChangeSpec := { name := "vectors", fn := fun _ => fun
  | [d1, d2, d3] => { results := [.lit (.bool true)], args := [d1, d2, d3] }
  | _ => none }
def vectorsRow : OpenClaim := { program := "ytnjbbfcknijcnaa", sum := "bb9569df70ed1b523e4b05d80f26ca3d83ed5861188edf1af46961122a220399", func := "portage/portagelaw11.Vectors", spec := "vectors", unfollowed := true, recurses := true, apart := false }
def VectorsSaid : Prop := vectorsRow.holds Try.pinned (OpenSpec.ofChange vectorsSpec)

/-- ITS FALSE NEIGHBOUR: 'it returns false'. Refute it at one input. -/
def vectorsWrong : ChangeSpec := { name := "vectors", fn := fun _ => fun
  | [d1, d2, d3] => { results := [.lit (.bool false)], args := [d1, d2, d3] }
  | _ => none }
def VectorsWrongFalsely : Prop := vectorsRow.holds Try.pinned (OpenSpec.ofChange vectorsWrong)

/-- 'portagelaw11.VectorLattice': WHATEVER THE INPUT: true; the input reads as it did. -/
def vectorLatticeSpec : ChangeSpec := { name := "vectorLattice", fn := fun _ => fun
  | [d1, d2, d3, d4] => { results := [.lit (.bool true)], args := [d1, d2, d3, d4] }
  | _ => none }
def vectorLatticeRow : OpenClaim := { program := "ytnjbbfcknijcnaa", sum := "bb9569df70ed1b523e4b05d80f26ca3d83ed5861188edf1af46961122a220399", func := "portage/portagelaw11.VectorLattice", spec := "vectorLattice", unfollowed := true, recurses := true, apart := false }
def VectorLatticeSaid : Prop := vectorLatticeRow.holds Try.pinned (OpenSpec.ofChange vectorLatticeSpec)

/-- ITS FALSE NEIGHBOUR: 'it returns false'. Refute it at one input. -/
def vectorLatticeWrong : ChangeSpec := { name := "vectorLattice", fn := fun _ => fun
  | [d1, d2, d3, d4] => { results := [.lit (.bool false)], args := [d1, d2, d3, d4] }
  | _ => none }
def VectorLatticeWrongFalsely : Prop := vectorLatticeRow.holds Try.pinned (OpenSpec.ofChange vectorLatticeWrong)

/-- 'portagelaw11.VectorForms': WHATEVER THE INPUT: true; the input reads as it did. -/
def vectorFormsSpec : ChangeSpec := { name := "vectorForms", fn := fun _ => fun
  | [d1, d2] => { results := [.lit (.bool true)], args := [d1, d2] }
  | _ => none }
def vectorFormsRow : OpenClaim := { program := "ytnjbbfcknijcnaa", sum := "bb9569df70ed1b523e4b05d80f26ca3d83ed5861188edf1af46961122a220399", func := "portage/portagelaw11.VectorForms", spec := "vectorForms", unfollowed := true, recurses := true, apart := false }
def VectorFormsSaid : Prop := vectorFormsRow.holds Try.pinned (OpenSpec.ofChange vectorFormsSpec)

/-- ITS FALSE NEIGHBOUR: 'it returns false'. Refute it at one input. -/
def vectorFormsWrong : ChangeSpec := { name := "vectorForms", fn := fun _ => fun
  | [d1, d2] => { results := [.lit (.bool false)], args := [d1, d2] }
  | _ => none }
def VectorFormsWrongFalsely : Prop := vectorFormsRow.holds Try.pinned (OpenSpec.ofChange vectorFormsWrong)

/-- 'portagelaw11.VectorOrders': WHATEVER THE INPUT: true; the input reads as it did. -/
def vectorOrdersSpec : ChangeSpec := { name := "vectorOrders", fn := fun _ => fun
  | [d1, d2, d3] => { results := [.lit (.bool true)], args := [d1, d2, d3] }
  | _ => none }
def vectorOrdersRow : OpenClaim := { program := "ytnjbbfcknijcnaa", sum := "bb9569df70ed1b523e4b05d80f26ca3d83ed5861188edf1af46961122a220399", func := "portage/portagelaw11.VectorOrders", spec := "vectorOrders", unfollowed := true, recurses := true, apart := false }
def VectorOrdersSaid : Prop := vectorOrdersRow.holds Try.pinned (OpenSpec.ofChange vectorOrdersSpec)

/-- ITS FALSE NEIGHBOUR: 'it returns false'. Refute it at one input. -/
def vectorOrdersWrong : ChangeSpec := { name := "vectorOrders", fn := fun _ => fun
  | [d1, d2, d3] => { results := [.lit (.bool false)], args := [d1, d2, d3] }
  | _ => none }
def VectorOrdersWrongFalsely : Prop := vectorOrdersRow.holds Try.pinned (OpenSpec.ofChange vectorOrdersWrong)

/-- 'portagelaw5.Matches': WHATEVER THE INPUT: true; the input reads as it did. -/
def matchesSpec : ChangeSpec := { name := "matches", fn := fun _ => fun
  | [d1, d2] => { results := [.lit (.bool true)], args := [d1, d2] }
  | _ => none }
def matchesRow : OpenClaim := { program := "ytnjbbfcknijcnaa", sum := "bb9569df70ed1b523e4b05d80f26ca3d83ed5861188edf1af46961122a220399", func := "portage/portagelaw5.Matches", spec := "matches", unfollowed := true, recurses := true, apart := false }
def MatchesSaid : Prop := matchesRow.holds Try.pinned (OpenSpec.ofChange matchesSpec)

/-- ITS FALSE NEIGHBOUR: 'it returns false'. Refute it at one input. -/
def matchesWrong : ChangeSpec := { name := "matches", fn := fun _ => fun
  | [d1, d2] => { results := [.lit (.bool false)], args := [d1, d2] }
  | _ => none }
def MatchesWrongFalsely : Prop := matchesRow.holds Try.pinned (OpenSpec.ofChange matchesWrong)

/-- 'portagelaw5.MatchBack': WHATEVER THE INPUT: true; the input reads as it did. -/
def matchBackSpec : ChangeSpec := { name := "matchBack", fn := fun _ => fun
  | [d] => { results := [.lit (.bool true)], args := [d] }
  | _ => none }
def matchBackRow : OpenClaim := { program := "ytnjbbfcknijcnaa", sum := "bb9569df70ed1b523e4b05d80f26ca3d83ed5861188edf1af46961122a220399", func := "portage/portagelaw5.MatchBack", spec := "matchBack", unfollowed := true, recurses := true, apart := false }
def MatchBackSaid : Prop := matchBackRow.holds Try.pinned (OpenSpec.ofChange matchBackSpec)

/-- ITS FALSE NEIGHBOUR: 'it returns false'. Refute it at one input. -/
def matchBackWrong : ChangeSpec := { name := "matchBack", fn := fun _ => fun
  | [d] => { results := [.lit (.bool false)], args := [d] }
  | _ => none }
def MatchBackWrongFalsely : Prop := matchBackRow.holds Try.pinned (OpenSpec.ofChange matchBackWrong)

/-- 'portagelaw5.MatchForms': WHATEVER THE INPUT: true; the input reads as it did. -/
def matchFormsSpec : ChangeSpec := { name := "matchForms", fn := fun _ => fun
  | [d1, d2] => { results := [.lit (.bool true)], args := [d1, d2] }
  | _ => none }
def matchFormsRow : OpenClaim := { program := "ytnjbbfcknijcnaa", sum := "bb9569df70ed1b523e4b05d80f26ca3d83ed5861188edf1af46961122a220399", func := "portage/portagelaw5.MatchForms", spec := "matchForms", unfollowed := true, recurses := true, apart := false }
def MatchFormsSaid : Prop := matchFormsRow.holds Try.pinned (OpenSpec.ofChange matchFormsSpec)

/-- ITS FALSE NEIGHBOUR: 'it returns false'. Refute it at one input. -/
def matchFormsWrong : ChangeSpec := { name := "matchForms", fn := fun _ => fun
  | [d1, d2] => { results := [.lit (.bool false)], args := [d1, d2] }
  | _ => none }
def MatchFormsWrongFalsely : Prop := matchFormsRow.holds Try.pinned (OpenSpec.ofChange matchFormsWrong)

/-- 'portagelaw5.MatchRuns': WHATEVER THE INPUT: true; the input reads as it did. -/
def matchRunsSpec : ChangeSpec := { name := "matchRuns", fn := fun _ => fun
  | [d1, d2] => { results := [.lit (.bool true)], args := [d1, d2] }
  | _ => none }
def matchRunsRow : OpenClaim := { program := "ytnjbbfcknijcnaa", sum := "bb9569df70ed1b523e4b05d80f26ca3d83ed5861188edf1af46961122a220399", func := "portage/portagelaw5.MatchRuns", spec := "matchRuns", unfollowed := true, recurses := true, apart := false }
def MatchRunsSaid : Prop := matchRunsRow.holds Try.pinned (OpenSpec.ofChange matchRunsSpec)

/-- ITS FALSE NEIGHBOUR: 'it returns false'. Refute it at one input. -/
def matchRunsWrong : ChangeSpec := { name := "matchRuns", fn := fun _ => fun
  | [d1, d2] => { results := [.lit (.bool false)], args := [d1, d2] }
  | _ => none }
def MatchRunsWrongFalsely : Prop := matchRunsRow.holds Try.pinned (OpenSpec.ofChange matchRunsWrong)

/-- 'portagelaw5.MatchTwice': WHATEVER THE INPUT: true; the input reads as it did. -/
def matchTwiceSpec : ChangeSpec := { name := "matchTwice", fn := fun _ => fun
  | [d] => { results := [.lit (.bool true)], args := [d] }
  | _ => none }
def matchTwiceRow : OpenClaim := { program := "ytnjbbfcknijcnaa", sum := "bb9569df70ed1b523e4b05d80f26ca3d83ed5861188edf1af46961122a220399", func := "portage/portagelaw5.MatchTwice", spec := "matchTwice", unfollowed := true, recurses := true, apart := false }
def MatchTwiceSaid : Prop := matchTwiceRow.holds Try.pinned (OpenSpec.ofChange matchTwiceSpec)

/-- ITS FALSE NEIGHBOUR: 'it returns false'. Refute it at one input. -/
def matchTwiceWrong : ChangeSpec := { name := "matchTwice", fn := fun _ => fun
  | [d] => { results := [.lit (.bool false)], args := [d] }
  | _ => none }
def MatchTwiceWrongFalsely : Prop := matchTwiceRow.holds Try.pinned (OpenSpec.ofChange matchTwiceWrong)

/-- 'portagelaw12.Extras': WHATEVER THE INPUT: true; the input reads as it did. -/
def extrasSpec : ChangeSpec := { name := "extras", fn := fun _ => fun
  | [d1, d2] => { results := [.lit (.bool true)], args := [d1, d2] }
  | _ => none }
def extrasRow : OpenClaim := { program := "ytnjbbfcknijcnaa", sum := "bb9569df70ed1b523e4b05d80f26ca3d83ed5861188edf1af46961122a220399", func := "portage/portagelaw12.Extras", spec := "extras", unfollowed := true, recurses := true, apart := false }
def ExtrasSaid : Prop := extrasRow.holds Try.pinned (OpenSpec.ofChange extrasSpec)

/-- ITS FALSE NEIGHBOUR: 'it returns false'. Refute it at one input. -/
def extrasWrong : ChangeSpec := { name := "extras", fn := fun _ => fun
  | [d1, d2] => { results := [.lit (.bool false)], args := [d1, d2] }
  | _ => none }
def ExtrasWrongFalsely : Prop := extrasRow.holds Try.pinned (OpenSpec.ofChange extrasWrong)

/-- 'portagelaw12.ExtraBack': WHATEVER THE INPUT: true; the input reads as it did. -/
def extraBackSpec : ChangeSpec := { name := "extraBack", fn := fun _ => fun
  | [d1, d2, d3, d4, d5] => { results := [.lit (.bool true)], args := [d1, d2, d3, d4, d5] }
  | _ => none }
def extraBackRow : OpenClaim := { program := "ytnjbbfcknijcnaa", sum := "bb9569df70ed1b523e4b05d80f26ca3d83ed5861188edf1af46961122a220399", func := "portage/portagelaw12.ExtraBack", spec := "extraBack", unfollowed := true, recurses := true, apart := false }
def ExtraBackSaid : Prop := extraBackRow.holds Try.pinned (OpenSpec.ofChange extraBackSpec)

/-- ITS FALSE NEIGHBOUR: 'it returns false'. Refute it at one input. -/
def extraBackWrong : ChangeSpec := { name := "extraBack", fn := fun _ => fun
  | [d1, d2, d3, d4, d5] => { results := [.lit (.bool false)], args := [d1, d2, d3, d4, d5] }
  | _ => none }
def ExtraBackWrongFalsely : Prop := extraBackRow.holds Try.pinned (OpenSpec.ofChange extraBackWrong)

/-- 'portagelaw12.ExtraForms': WHATEVER THE INPUT: true; the input reads as it did. -/
def extraFormsSpec : ChangeSpec := { name := "extraForms", fn := fun _ => fun
  | [d1, d2] => { results := [.lit (.bool true)], args := [d1, d2] }
  | _ => none }
def extraFormsRow : OpenClaim := { program := "ytnjbbfcknijcnaa", sum := "bb9569df70ed1b523e4b05d80f26ca3d83ed5861188edf1af46961122a220399", func := "portage/portagelaw12.ExtraForms", spec := "extraForms", unfollowed := true, recurses := true, apart := false }
def ExtraFormsSaid : Prop := extraFormsRow.holds Try.pinned (OpenSpec.ofChange extraFormsSpec)

/-- ITS FALSE NEIGHBOUR: 'it returns false'. Refute it at one input. -/
def extraFormsWrong : ChangeSpec := { name := "extraForms", fn := fun _ => fun
  | [d1, d2] => { results := [.lit (.bool false)], args := [d1, d2] }
  | _ => none }
def ExtraFormsWrongFalsely : Prop := extraFormsRow.holds Try.pinned (OpenSpec.ofChange extraFormsWrong)

/-- 'portagelaw12.ExtraUnlike': WHATEVER THE INPUT: true; the input reads as it did. -/
def extraUnlikeSpec : ChangeSpec := { name := "extraUnlike", fn := fun _ => fun
  | [d1, d2] => { results := [.lit (.bool true)], args := [d1, d2] }
  | _ => none }
def extraUnlikeRow : OpenClaim := { program := "ytnjbbfcknijcnaa", sum := "bb9569df70ed1b523e4b05d80f26ca3d83ed5861188edf1af46961122a220399", func := "portage/portagelaw12.ExtraUnlike", spec := "extraUnlike", unfollowed := true, recurses := true, apart := false }
def ExtraUnlikeSaid : Prop := extraUnlikeRow.holds Try.pinned (OpenSpec.ofChange extraUnlikeSpec)

/-- ITS FALSE NEIGHBOUR: 'it returns false'. Refute it at one input. -/
def extraUnlikeWrong : ChangeSpec := { name := "extraUnlike", fn := fun _ => fun
  | [d1, d2] => { results := [.lit (.bool false)], args := [d1, d2] }
  | _ => none }
def ExtraUnlikeWrongFalsely : Prop := extraUnlikeRow.holds Try.pinned (OpenSpec.ofChange extraUnlikeWrong)

/-- 'portagelaw12.ExtraCounts': WHATEVER THE INPUT: true; the input reads as it did. -/
def extraCountsSpec : ChangeSpec := { name := "extraCounts", fn := fun _ => fun
  | [d1, d2, d3] => { results := [.lit (.bool true)], args := [d1, d2, d3] }
  | _ => none }
def extraCountsRow : OpenClaim := { program := "ytnjbbfcknijcnaa", sum := "bb9569df70ed1b523e4b05d80f26ca3d83ed5861188edf1af46961122a220399", func := "portage/portagelaw12.ExtraCounts", spec := "extraCounts", unfollowed := true, recurses := true, apart := false }
def ExtraCountsSaid : Prop := extraCountsRow.holds Try.pinned (OpenSpec.ofChange extraCountsSpec)

/-- ITS FALSE NEIGHBOUR: 'it returns false'. Refute it at one input. -/
def extraCountsWrong : ChangeSpec := { name := "extraCounts", fn := fun _ => fun
  | [d1, d2, d3] => { results := [.lit (.bool false)], args := [d1, d2, d3] }
  | _ => none }
def ExtraCountsWrongFalsely : Prop := extraCountsRow.holds Try.pinned (OpenSpec.ofChange extraCountsWrong)

/- THE SECOND FORM. 'bulk': how many values and letters a reading holds, each counted each time it is reached (what is shared counts as often as it is met; a slice's spare places count too). A statement '..UptoSaid' is the law's where the arguments, and the package variables that the reading takes, are together of bulk at most 1048576: NARROWER than '..Said'. Prove '..Said' where nothing that the law and all that it calls make is longer than what came in: it says more and counts as full. Else prove '..UptoSaid'. A law counts once. -/
mutual
def uptoBulk {H : Type} : DataW H → Nat
  | .lit (.string bytes) => bytes.length + 1
  | .lit _ => 1
  | .nil => 1
  | .ptr d => uptoBulk d + 1
  | .slice elems spare => uptoBulkAll elems + uptoBulkAll spare + 1
  | .agg parts => uptoBulkAll parts + 1
  | .iface _ d => uptoBulk d + 1
  | .map entries => uptoBulkEntries entries + 1
  | .held _ => 1
def uptoBulkAll {H : Type} : List (DataW H) → Nat
  | [] => 0
  | d :: r => uptoBulk d + uptoBulkAll r
def uptoBulkEntries {H : Type} : List (Lit × DataW H) → Nat
  | [] => 0
  | x :: r => uptoBulkEntry x + uptoBulkEntries r
def uptoBulkEntry {H : Type} : Lit × DataW H → Nat
  | (.string bytes, d) => bytes.length + uptoBulk d + 1
  | (_, d) => uptoBulk d + 1
 end
def uptoSmall : (H : Type) → List (DataW H) → Bool := fun _ ds => decide (uptoBulkAll ds ≤ 1048576)
def OpenSpec.upto (s : _root_.Go.ChangeSpec) : _root_.Go.OpenSpec := { _root_.Go.OpenSpec.ofChange s with cond := some uptoSmall }

/-- 'portagelaw0.PortageNames', WHERE WHAT IT READS IS OF BULK AT MOST 1048576: true; the input reads as it did. -/
def portageNamesUptoRow : OpenClaim := { program := "ytnjbbfcknijcnaa", sum := "bb9569df70ed1b523e4b05d80f26ca3d83ed5861188edf1af46961122a220399", func := "portage/portagelaw0.PortageNames", spec := "portageNames", apart := false, narrowed := true }
def PortageNamesUptoSaid : Prop := portageNamesUptoRow.holds Try.pinned (OpenSpec.upto portageNamesSpec)

/-- 'portagelaw2.Crcs', WHERE WHAT IT READS IS OF BULK AT MOST 1048576: true; the input reads as it did. -/
def crcsUptoRow : OpenClaim := { program := "ytnjbbfcknijcnaa", sum := "bb9569df70ed1b523e4b05d80f26ca3d83ed5861188edf1af46961122a220399", func := "portage/portagelaw2.Crcs", spec := "crcs", apart := false, narrowed := true }
def CrcsUptoSaid : Prop := crcsUptoRow.holds Try.pinned (OpenSpec.upto crcsSpec)

/-- 'portagelaw2.CrcTurned', WHERE WHAT IT READS IS OF BULK AT MOST 1048576: true; the input reads as it did. -/
def crcTurnedUptoRow : OpenClaim := { program := "ytnjbbfcknijcnaa", sum := "bb9569df70ed1b523e4b05d80f26ca3d83ed5861188edf1af46961122a220399", func := "portage/portagelaw2.CrcTurned", spec := "crcTurned", apart := false, narrowed := true }
def CrcTurnedUptoSaid : Prop := crcTurnedUptoRow.holds Try.pinned (OpenSpec.upto crcTurnedSpec)

/-- 'portagelaw2.CrcLinear', WHERE WHAT IT READS IS OF BULK AT MOST 1048576: true; the input reads as it did. -/
def crcLinearUptoRow : OpenClaim := { program := "ytnjbbfcknijcnaa", sum := "bb9569df70ed1b523e4b05d80f26ca3d83ed5861188edf1af46961122a220399", func := "portage/portagelaw2.CrcLinear", spec := "crcLinear", apart := false, narrowed := true }
def CrcLinearUptoSaid : Prop := crcLinearUptoRow.holds Try.pinned (OpenSpec.upto crcLinearSpec)

/-- 'portagelaw2.CrcTable', WHERE WHAT IT READS IS OF BULK AT MOST 1048576: true; the input reads as it did. -/
def crcTableUptoRow : OpenClaim := { program := "ytnjbbfcknijcnaa", sum := "bb9569df70ed1b523e4b05d80f26ca3d83ed5861188edf1af46961122a220399", func := "portage/portagelaw2.CrcTable", spec := "crcTable", apart := false, narrowed := true }
def CrcTableUptoSaid : Prop := crcTableUptoRow.holds Try.pinned (OpenSpec.upto crcTableSpec)

/-- 'portagelaw2.CrcJoins', WHERE WHAT IT READS IS OF BULK AT MOST 1048576: true; the input reads as it did. -/
def crcJoinsUptoRow : OpenClaim := { program := "ytnjbbfcknijcnaa", sum := "bb9569df70ed1b523e4b05d80f26ca3d83ed5861188edf1af46961122a220399", func := "portage/portagelaw2.CrcJoins", spec := "crcJoins", apart := false, narrowed := true }
def CrcJoinsUptoSaid : Prop := crcJoinsUptoRow.holds Try.pinned (OpenSpec.upto crcJoinsSpec)

/-- 'portagelaw11.Vectors', WHERE WHAT IT READS IS OF BULK AT MOST 1048576: true; the input reads as it did. -/
def vectorsUptoRow : OpenClaim := { program := "ytnjbbfcknijcnaa", sum := "bb9569df70ed1b523e4b05d80f26ca3d83ed5861188edf1af46961122a220399", func := "portage/portagelaw11.Vectors", spec := "vectors", unfollowed := true, recurses := true, apart := false, narrowed := true }
def VectorsUptoSaid : Prop := vectorsUptoRow.holds Try.pinned (OpenSpec.upto vectorsSpec)

/-- 'portagelaw11.VectorLattice', WHERE WHAT IT READS IS OF BULK AT MOST 1048576: true; the input reads as it did. -/
def vectorLatticeUptoRow : OpenClaim := { program := "ytnjbbfcknijcnaa", sum := "bb9569df70ed1b523e4b05d80f26ca3d83ed5861188edf1af46961122a220399", func := "portage/portagelaw11.VectorLattice", spec := "vectorLattice", unfollowed := true, recurses := true, apart := false, narrowed := true }
def VectorLatticeUptoSaid : Prop := vectorLatticeUptoRow.holds Try.pinned (OpenSpec.upto vectorLatticeSpec)

/-- 'portagelaw11.VectorForms', WHERE WHAT IT READS IS OF BULK AT MOST 1048576: true; the input reads as it did. -/
def vectorFormsUptoRow : OpenClaim := { program := "ytnjbbfcknijcnaa", sum := "bb9569df70ed1b523e4b05d80f26ca3d83ed5861188edf1af46961122a220399", func := "portage/portagelaw11.VectorForms", spec := "vectorForms", unfollowed := true, recurses := true, apart := false, narrowed := true }
def VectorFormsUptoSaid : Prop := vectorFormsUptoRow.holds Try.pinned (OpenSpec.upto vectorFormsSpec)

/-- 'portagelaw11.VectorOrders', WHERE WHAT IT READS IS OF BULK AT MOST 1048576: true; the input reads as it did. -/
def vectorOrdersUptoRow : OpenClaim := { program := "ytnjbbfcknijcnaa", sum := "bb9569df70ed1b523e4b05d80f26ca3d83ed5861188edf1af46961122a220399", func := "portage/portagelaw11.VectorOrders", spec := "vectorOrders", unfollowed := true, recurses := true, apart := false, narrowed := true }
def VectorOrdersUptoSaid : Prop := vectorOrdersUptoRow.holds Try.pinned (OpenSpec.upto vectorOrdersSpec)

/-- 'portagelaw5.Matches', WHERE WHAT IT READS IS OF BULK AT MOST 1048576: true; the input reads as it did. -/
def matchesUptoRow : OpenClaim := { program := "ytnjbbfcknijcnaa", sum := "bb9569df70ed1b523e4b05d80f26ca3d83ed5861188edf1af46961122a220399", func := "portage/portagelaw5.Matches", spec := "matches", unfollowed := true, recurses := true, apart := false, narrowed := true }
def MatchesUptoSaid : Prop := matchesUptoRow.holds Try.pinned (OpenSpec.upto matchesSpec)

/-- 'portagelaw5.MatchBack', WHERE WHAT IT READS IS OF BULK AT MOST 1048576: true; the input reads as it did. -/
def matchBackUptoRow : OpenClaim := { program := "ytnjbbfcknijcnaa", sum := "bb9569df70ed1b523e4b05d80f26ca3d83ed5861188edf1af46961122a220399", func := "portage/portagelaw5.MatchBack", spec := "matchBack", unfollowed := true, recurses := true, apart := false, narrowed := true }
def MatchBackUptoSaid : Prop := matchBackUptoRow.holds Try.pinned (OpenSpec.upto matchBackSpec)

/-- 'portagelaw5.MatchForms', WHERE WHAT IT READS IS OF BULK AT MOST 1048576: true; the input reads as it did. -/
def matchFormsUptoRow : OpenClaim := { program := "ytnjbbfcknijcnaa", sum := "bb9569df70ed1b523e4b05d80f26ca3d83ed5861188edf1af46961122a220399", func := "portage/portagelaw5.MatchForms", spec := "matchForms", unfollowed := true, recurses := true, apart := false, narrowed := true }
def MatchFormsUptoSaid : Prop := matchFormsUptoRow.holds Try.pinned (OpenSpec.upto matchFormsSpec)

/-- 'portagelaw5.MatchRuns', WHERE WHAT IT READS IS OF BULK AT MOST 1048576: true; the input reads as it did. -/
def matchRunsUptoRow : OpenClaim := { program := "ytnjbbfcknijcnaa", sum := "bb9569df70ed1b523e4b05d80f26ca3d83ed5861188edf1af46961122a220399", func := "portage/portagelaw5.MatchRuns", spec := "matchRuns", unfollowed := true, recurses := true, apart := false, narrowed := true }
def MatchRunsUptoSaid : Prop := matchRunsUptoRow.holds Try.pinned (OpenSpec.upto matchRunsSpec)

/-- 'portagelaw5.MatchTwice', WHERE WHAT IT READS IS OF BULK AT MOST 1048576: true; the input reads as it did. -/
def matchTwiceUptoRow : OpenClaim := { program := "ytnjbbfcknijcnaa", sum := "bb9569df70ed1b523e4b05d80f26ca3d83ed5861188edf1af46961122a220399", func := "portage/portagelaw5.MatchTwice", spec := "matchTwice", unfollowed := true, recurses := true, apart := false, narrowed := true }
def MatchTwiceUptoSaid : Prop := matchTwiceUptoRow.holds Try.pinned (OpenSpec.upto matchTwiceSpec)

/-- 'portagelaw12.Extras', WHERE WHAT IT READS IS OF BULK AT MOST 1048576: true; the input reads as it did. -/
def extrasUptoRow : OpenClaim := { program := "ytnjbbfcknijcnaa", sum := "bb9569df70ed1b523e4b05d80f26ca3d83ed5861188edf1af46961122a220399", func := "portage/portagelaw12.Extras", spec := "extras", unfollowed := true, recurses := true, apart := false, narrowed := true }
def ExtrasUptoSaid : Prop := extrasUptoRow.holds Try.pinned (OpenSpec.upto extrasSpec)

/-- 'portagelaw12.ExtraBack', WHERE WHAT IT READS IS OF BULK AT MOST 1048576: true; the input reads as it did. -/
def extraBackUptoRow : OpenClaim := { program := "ytnjbbfcknijcnaa", sum := "bb9569df70ed1b523e4b05d80f26ca3d83ed5861188edf1af46961122a220399", func := "portage/portagelaw12.ExtraBack", spec := "extraBack", unfollowed := true, recurses := true, apart := false, narrowed := true }
def ExtraBackUptoSaid : Prop := extraBackUptoRow.holds Try.pinned (OpenSpec.upto extraBackSpec)

/-- 'portagelaw12.ExtraForms', WHERE WHAT IT READS IS OF BULK AT MOST 1048576: true; the input reads as it did. -/
def extraFormsUptoRow : OpenClaim := { program := "ytnjbbfcknijcnaa", sum := "bb9569df70ed1b523e4b05d80f26ca3d83ed5861188edf1af46961122a220399", func := "portage/portagelaw12.ExtraForms", spec := "extraForms", unfollowed := true, recurses := true, apart := false, narrowed := true }
def ExtraFormsUptoSaid : Prop := extraFormsUptoRow.holds Try.pinned (OpenSpec.upto extraFormsSpec)

/-- 'portagelaw12.ExtraUnlike', WHERE WHAT IT READS IS OF BULK AT MOST 1048576: true; the input reads as it did. -/
def extraUnlikeUptoRow : OpenClaim := { program := "ytnjbbfcknijcnaa", sum := "bb9569df70ed1b523e4b05d80f26ca3d83ed5861188edf1af46961122a220399", func := "portage/portagelaw12.ExtraUnlike", spec := "extraUnlike", unfollowed := true, recurses := true, apart := false, narrowed := true }
def ExtraUnlikeUptoSaid : Prop := extraUnlikeUptoRow.holds Try.pinned (OpenSpec.upto extraUnlikeSpec)

/-- 'portagelaw12.ExtraCounts', WHERE WHAT IT READS IS OF BULK AT MOST 1048576: true; the input reads as it did. -/
def extraCountsUptoRow : OpenClaim := { program := "ytnjbbfcknijcnaa", sum := "bb9569df70ed1b523e4b05d80f26ca3d83ed5861188edf1af46961122a220399", func := "portage/portagelaw12.ExtraCounts", spec := "extraCounts", unfollowed := true, recurses := true, apart := false, narrowed := true }
def ExtraCountsUptoSaid : Prop := extraCountsUptoRow.holds Try.pinned (OpenSpec.upto extraCountsSpec)

end Rows
end Go.Proofs.Ytnjbbfcknijcnaa
