/-
  No cell of these rows narrows 'for every input' (looked for: loops, veiled, ifaces, maps, wideKeys, modest, calm, conditions, laid).
  DERIVED. THE GIVEN ROWS OF THIS SEAT. 20 by the template 'for every input the law returns true; each argument reads behind the call as it read before'; 0 by the template 'total and deterministic' (their statements: YtbifignggnfodaaTotals.lean).
  GIVEN WITH THE SEED: the statements are not yours to turn. If you find one false, say at which input.
  Laid BY PROGRAM, IN A SANDBOX (cutbox-rows.mjs): the forced cells as the released guide's own fill.sh prints them over the translation 95e23e430cc6a02b… (all of the seat's roots in one cut). By AI agents, Wed Nov 11 2026. No macro, syntax, notation, axiom, sorry.
-/
import Derived.Test.YtbifignggnfodaaChecked
import GoSem.Claim
import GoSem.ClaimJoined
import GoSem.ClaimMapViews
import Derived.JoinedTies
import Derived.KernelRfl
namespace Go.Proofs.Ytbifignggnfodaa
/- THE CELL 'sum', in the pinned program and in every row, IS THE sha256 OF THE DUMP (.gsa) THAT YtbifignggnfodaaProg.lean LOADS. Nothing in Lean hashes anything: it is a label: what it is worth is what the hold of that sum in a sandbox is worth. -/
noncomputable def Try.pinned : Pinned := { name := "ytbifignggnfodaa", sum := "95e23e430cc6a02bce86df1c2e146beaaebf3772654a955104aeaf9364b695ba", checked := Try.checked }
namespace Rows
def none {H : Type} : Left H := { results := [], args := [] }

/-- 'portagelaw3.Huffs': WHATEVER THE INPUT: true; the input reads as it did. -/
def huffsSpec : ChangeSpec := { name := "huffs", fn := fun _ => fun
  | [d1, d2, d3] => { results := [.lit (.bool true)], args := [d1, d2, d3] }
  | _ => none }
def huffsRow : OpenClaim := { program := "ytbifignggnfodaa", sum := "95e23e430cc6a02bce86df1c2e146beaaebf3772654a955104aeaf9364b695ba", func := "portage/portagelaw3.Huffs", spec := "huffs", unfollowed := true, recurses := true, apart := false }
def HuffsSaid : Prop := huffsRow.holds Try.pinned (OpenSpec.ofChange huffsSpec)

/-- ITS FALSE NEIGHBOUR: 'it returns false'. Refute it at one input. -/
def huffsWrong : ChangeSpec := { name := "huffs", fn := fun _ => fun
  | [d1, d2, d3] => { results := [.lit (.bool false)], args := [d1, d2, d3] }
  | _ => none }
def HuffsWrongFalsely : Prop := huffsRow.holds Try.pinned (OpenSpec.ofChange huffsWrong)

/-- 'portagelaw3.HuffApart': WHATEVER THE INPUT: true; the input reads as it did. -/
def huffApartSpec : ChangeSpec := { name := "huffApart", fn := fun _ => fun
  | [d] => { results := [.lit (.bool true)], args := [d] }
  | _ => none }
def huffApartRow : OpenClaim := { program := "ytbifignggnfodaa", sum := "95e23e430cc6a02bce86df1c2e146beaaebf3772654a955104aeaf9364b695ba", func := "portage/portagelaw3.HuffApart", spec := "huffApart", unfollowed := true, recurses := true, apart := false }
def HuffApartSaid : Prop := huffApartRow.holds Try.pinned (OpenSpec.ofChange huffApartSpec)

/-- ITS FALSE NEIGHBOUR: 'it returns false'. Refute it at one input. -/
def huffApartWrong : ChangeSpec := { name := "huffApart", fn := fun _ => fun
  | [d] => { results := [.lit (.bool false)], args := [d] }
  | _ => none }
def HuffApartWrongFalsely : Prop := huffApartRow.holds Try.pinned (OpenSpec.ofChange huffApartWrong)

/-- 'portagelaw3.HuffForms': WHATEVER THE INPUT: true; the input reads as it did. -/
def huffFormsSpec : ChangeSpec := { name := "huffForms", fn := fun _ => fun
  | [d1, d2] => { results := [.lit (.bool true)], args := [d1, d2] }
  | _ => none }
def huffFormsRow : OpenClaim := { program := "ytbifignggnfodaa", sum := "95e23e430cc6a02bce86df1c2e146beaaebf3772654a955104aeaf9364b695ba", func := "portage/portagelaw3.HuffForms", spec := "huffForms", unfollowed := true, recurses := true, apart := false }
def HuffFormsSaid : Prop := huffFormsRow.holds Try.pinned (OpenSpec.ofChange huffFormsSpec)

/-- ITS FALSE NEIGHBOUR: 'it returns false'. Refute it at one input. -/
def huffFormsWrong : ChangeSpec := { name := "huffForms", fn := fun _ => fun
  | [d1, d2] => { results := [.lit (.bool false)], args := [d1, d2] }
  | _ => none }
def HuffFormsWrongFalsely : Prop := huffFormsRow.holds Try.pinned (OpenSpec.ofChange huffFormsWrong)

/-- 'portagelaw3.HuffEven': WHATEVER THE INPUT: true; the input reads as it did. -/
def huffEvenSpec : ChangeSpec := { name := "huffEven", fn := fun _ => fun
  | [d] => { results := [.lit (.bool true)], args := [d] }
  | _ => none }
def huffEvenRow : OpenClaim := { program := "ytbifignggnfodaa", sum := "95e23e430cc6a02bce86df1c2e146beaaebf3772654a955104aeaf9364b695ba", func := "portage/portagelaw3.HuffEven", spec := "huffEven", unfollowed := true, recurses := true, apart := false }
def HuffEvenSaid : Prop := huffEvenRow.holds Try.pinned (OpenSpec.ofChange huffEvenSpec)

/-- ITS FALSE NEIGHBOUR: 'it returns false'. Refute it at one input. -/
def huffEvenWrong : ChangeSpec := { name := "huffEven", fn := fun _ => fun
  | [d] => { results := [.lit (.bool false)], args := [d] }
  | _ => none }
def HuffEvenWrongFalsely : Prop := huffEvenRow.holds Try.pinned (OpenSpec.ofChange huffEvenWrong)

/-- 'portagelaw3.HuffTable': WHATEVER THE INPUT: true; the input reads as it did. -/
def huffTableSpec : ChangeSpec := { name := "huffTable", fn := fun _ => fun
  | [d] => { results := [.lit (.bool true)], args := [d] }
  | _ => none }
def huffTableRow : OpenClaim := { program := "ytbifignggnfodaa", sum := "95e23e430cc6a02bce86df1c2e146beaaebf3772654a955104aeaf9364b695ba", func := "portage/portagelaw3.HuffTable", spec := "huffTable", unfollowed := true, recurses := true, apart := false }
def HuffTableSaid : Prop := huffTableRow.holds Try.pinned (OpenSpec.ofChange huffTableSpec)

/-- ITS FALSE NEIGHBOUR: 'it returns false'. Refute it at one input. -/
def huffTableWrong : ChangeSpec := { name := "huffTable", fn := fun _ => fun
  | [d] => { results := [.lit (.bool false)], args := [d] }
  | _ => none }
def HuffTableWrongFalsely : Prop := huffTableRow.holds Try.pinned (OpenSpec.ofChange huffTableWrong)

/-- 'portagelaw3.HuffMany': WHATEVER THE INPUT: true; the input reads as it did. -/
def huffManySpec : ChangeSpec := { name := "huffMany", fn := fun _ => fun
  | [d1, d2] => { results := [.lit (.bool true)], args := [d1, d2] }
  | _ => none }
def huffManyRow : OpenClaim := { program := "ytbifignggnfodaa", sum := "95e23e430cc6a02bce86df1c2e146beaaebf3772654a955104aeaf9364b695ba", func := "portage/portagelaw3.HuffMany", spec := "huffMany", unfollowed := true, recurses := true, apart := false }
def HuffManySaid : Prop := huffManyRow.holds Try.pinned (OpenSpec.ofChange huffManySpec)

/-- ITS FALSE NEIGHBOUR: 'it returns false'. Refute it at one input. -/
def huffManyWrong : ChangeSpec := { name := "huffMany", fn := fun _ => fun
  | [d1, d2] => { results := [.lit (.bool false)], args := [d1, d2] }
  | _ => none }
def HuffManyWrongFalsely : Prop := huffManyRow.holds Try.pinned (OpenSpec.ofChange huffManyWrong)

/-- 'portagelaw1.Writes': WHATEVER THE INPUT: true; the input reads as it did. -/
def writesSpec : ChangeSpec := { name := "writes", fn := fun _ => fun
  | [d1, d2, d3] => { results := [.lit (.bool true)], args := [d1, d2, d3] }
  | _ => none }
def writesRow : OpenClaim := { program := "ytbifignggnfodaa", sum := "95e23e430cc6a02bce86df1c2e146beaaebf3772654a955104aeaf9364b695ba", func := "portage/portagelaw1.Writes", spec := "writes", apart := false }
def WritesSaid : Prop := writesRow.holds Try.pinned (OpenSpec.ofChange writesSpec)

/-- ITS FALSE NEIGHBOUR: 'it returns false'. Refute it at one input. -/
def writesWrong : ChangeSpec := { name := "writes", fn := fun _ => fun
  | [d1, d2, d3] => { results := [.lit (.bool false)], args := [d1, d2, d3] }
  | _ => none }
def WritesWrongFalsely : Prop := writesRow.holds Try.pinned (OpenSpec.ofChange writesWrong)

/-- 'portagelaw1.WriteBack': WHATEVER THE INPUT: true; the input reads as it did. -/
def writeBackSpec : ChangeSpec := { name := "writeBack", fn := fun _ => fun
  | [d1, d2] => { results := [.lit (.bool true)], args := [d1, d2] }
  | _ => none }
def writeBackRow : OpenClaim := { program := "ytbifignggnfodaa", sum := "95e23e430cc6a02bce86df1c2e146beaaebf3772654a955104aeaf9364b695ba", func := "portage/portagelaw1.WriteBack", spec := "writeBack", apart := false }
def WriteBackSaid : Prop := writeBackRow.holds Try.pinned (OpenSpec.ofChange writeBackSpec)

/-- ITS FALSE NEIGHBOUR: 'it returns false'. Refute it at one input. -/
def writeBackWrong : ChangeSpec := { name := "writeBack", fn := fun _ => fun
  | [d1, d2] => { results := [.lit (.bool false)], args := [d1, d2] }
  | _ => none }
def WriteBackWrongFalsely : Prop := writeBackRow.holds Try.pinned (OpenSpec.ofChange writeBackWrong)

/-- 'portagelaw1.WriteForms': WHATEVER THE INPUT: true; the input reads as it did. -/
def writeFormsSpec : ChangeSpec := { name := "writeForms", fn := fun _ => fun
  | [d1, d2] => { results := [.lit (.bool true)], args := [d1, d2] }
  | _ => none }
def writeFormsRow : OpenClaim := { program := "ytbifignggnfodaa", sum := "95e23e430cc6a02bce86df1c2e146beaaebf3772654a955104aeaf9364b695ba", func := "portage/portagelaw1.WriteForms", spec := "writeForms", apart := false }
def WriteFormsSaid : Prop := writeFormsRow.holds Try.pinned (OpenSpec.ofChange writeFormsSpec)

/-- ITS FALSE NEIGHBOUR: 'it returns false'. Refute it at one input. -/
def writeFormsWrong : ChangeSpec := { name := "writeForms", fn := fun _ => fun
  | [d1, d2] => { results := [.lit (.bool false)], args := [d1, d2] }
  | _ => none }
def WriteFormsWrongFalsely : Prop := writeFormsRow.holds Try.pinned (OpenSpec.ofChange writeFormsWrong)

/-- 'portagelaw1.WriteCodes': WHATEVER THE INPUT: true; the input reads as it did. -/
def writeCodesSpec : ChangeSpec := { name := "writeCodes", fn := fun _ => fun
  | [d] => { results := [.lit (.bool true)], args := [d] }
  | _ => none }
def writeCodesRow : OpenClaim := { program := "ytbifignggnfodaa", sum := "95e23e430cc6a02bce86df1c2e146beaaebf3772654a955104aeaf9364b695ba", func := "portage/portagelaw1.WriteCodes", spec := "writeCodes", apart := false }
def WriteCodesSaid : Prop := writeCodesRow.holds Try.pinned (OpenSpec.ofChange writeCodesSpec)

/-- ITS FALSE NEIGHBOUR: 'it returns false'. Refute it at one input. -/
def writeCodesWrong : ChangeSpec := { name := "writeCodes", fn := fun _ => fun
  | [d] => { results := [.lit (.bool false)], args := [d] }
  | _ => none }
def WriteCodesWrongFalsely : Prop := writeCodesRow.holds Try.pinned (OpenSpec.ofChange writeCodesWrong)

/-- 'portagelaw1.WriteAligns': WHATEVER THE INPUT: true; the input reads as it did. -/
def writeAlignsSpec : ChangeSpec := { name := "writeAligns", fn := fun _ => fun
  | [d1, d2] => { results := [.lit (.bool true)], args := [d1, d2] }
  | _ => none }
def writeAlignsRow : OpenClaim := { program := "ytbifignggnfodaa", sum := "95e23e430cc6a02bce86df1c2e146beaaebf3772654a955104aeaf9364b695ba", func := "portage/portagelaw1.WriteAligns", spec := "writeAligns", apart := false }
def WriteAlignsSaid : Prop := writeAlignsRow.holds Try.pinned (OpenSpec.ofChange writeAlignsSpec)

/-- ITS FALSE NEIGHBOUR: 'it returns false'. Refute it at one input. -/
def writeAlignsWrong : ChangeSpec := { name := "writeAligns", fn := fun _ => fun
  | [d1, d2] => { results := [.lit (.bool false)], args := [d1, d2] }
  | _ => none }
def WriteAlignsWrongFalsely : Prop := writeAlignsRow.holds Try.pinned (OpenSpec.ofChange writeAlignsWrong)

/-- 'portagelaw6.Tables': WHATEVER THE INPUT: true; the input reads as it did. -/
def tablesSpec : ChangeSpec := { name := "tables", fn := fun _ => fun
  | [d] => { results := [.lit (.bool true)], args := [d] }
  | _ => none }
def tablesRow : OpenClaim := { program := "ytbifignggnfodaa", sum := "95e23e430cc6a02bce86df1c2e146beaaebf3772654a955104aeaf9364b695ba", func := "portage/portagelaw6.Tables", spec := "tables", unfollowed := true, recurses := true, apart := false }
def TablesSaid : Prop := tablesRow.holds Try.pinned (OpenSpec.ofChange tablesSpec)

/-- ITS FALSE NEIGHBOUR: 'it returns false'. Refute it at one input. -/
def tablesWrong : ChangeSpec := { name := "tables", fn := fun _ => fun
  | [d] => { results := [.lit (.bool false)], args := [d] }
  | _ => none }
def TablesWrongFalsely : Prop := tablesRow.holds Try.pinned (OpenSpec.ofChange tablesWrong)

/-- 'portagelaw6.TableBack': WHATEVER THE INPUT: true; the input reads as it did. -/
def tableBackSpec : ChangeSpec := { name := "tableBack", fn := fun _ => fun
  | [d1, d2] => { results := [.lit (.bool true)], args := [d1, d2] }
  | _ => none }
def tableBackRow : OpenClaim := { program := "ytbifignggnfodaa", sum := "95e23e430cc6a02bce86df1c2e146beaaebf3772654a955104aeaf9364b695ba", func := "portage/portagelaw6.TableBack", spec := "tableBack", unfollowed := true, recurses := true, apart := false }
def TableBackSaid : Prop := tableBackRow.holds Try.pinned (OpenSpec.ofChange tableBackSpec)

/-- ITS FALSE NEIGHBOUR: 'it returns false'. Refute it at one input. -/
def tableBackWrong : ChangeSpec := { name := "tableBack", fn := fun _ => fun
  | [d1, d2] => { results := [.lit (.bool false)], args := [d1, d2] }
  | _ => none }
def TableBackWrongFalsely : Prop := tableBackRow.holds Try.pinned (OpenSpec.ofChange tableBackWrong)

/-- 'portagelaw6.TableForms': WHATEVER THE INPUT: true; the input reads as it did. -/
def tableFormsSpec : ChangeSpec := { name := "tableForms", fn := fun _ => fun
  | [d] => { results := [.lit (.bool true)], args := [d] }
  | _ => none }
def tableFormsRow : OpenClaim := { program := "ytbifignggnfodaa", sum := "95e23e430cc6a02bce86df1c2e146beaaebf3772654a955104aeaf9364b695ba", func := "portage/portagelaw6.TableForms", spec := "tableForms", unfollowed := true, recurses := true, apart := false }
def TableFormsSaid : Prop := tableFormsRow.holds Try.pinned (OpenSpec.ofChange tableFormsSpec)

/-- ITS FALSE NEIGHBOUR: 'it returns false'. Refute it at one input. -/
def tableFormsWrong : ChangeSpec := { name := "tableForms", fn := fun _ => fun
  | [d] => { results := [.lit (.bool false)], args := [d] }
  | _ => none }
def TableFormsWrongFalsely : Prop := tableFormsRow.holds Try.pinned (OpenSpec.ofChange tableFormsWrong)

/-- 'portagelaw6.TableSteps': WHATEVER THE INPUT: true; the input reads as it did. -/
def tableStepsSpec : ChangeSpec := { name := "tableSteps", fn := fun _ => fun
  | [d] => { results := [.lit (.bool true)], args := [d] }
  | _ => none }
def tableStepsRow : OpenClaim := { program := "ytbifignggnfodaa", sum := "95e23e430cc6a02bce86df1c2e146beaaebf3772654a955104aeaf9364b695ba", func := "portage/portagelaw6.TableSteps", spec := "tableSteps", unfollowed := true, recurses := true, apart := false }
def TableStepsSaid : Prop := tableStepsRow.holds Try.pinned (OpenSpec.ofChange tableStepsSpec)

/-- ITS FALSE NEIGHBOUR: 'it returns false'. Refute it at one input. -/
def tableStepsWrong : ChangeSpec := { name := "tableSteps", fn := fun _ => fun
  | [d] => { results := [.lit (.bool false)], args := [d] }
  | _ => none }
def TableStepsWrongFalsely : Prop := tableStepsRow.holds Try.pinned (OpenSpec.ofChange tableStepsWrong)

/-- 'portagelaw4.Limits': WHATEVER THE INPUT: true; the input reads as it did. -/
def limitsSpec : ChangeSpec := { name := "limits", fn := fun _ => fun
  | [d1, d2] => { results := [.lit (.bool true)], args := [d1, d2] }
  | _ => none }
def limitsRow : OpenClaim := { program := "ytbifignggnfodaa", sum := "95e23e430cc6a02bce86df1c2e146beaaebf3772654a955104aeaf9364b695ba", func := "portage/portagelaw4.Limits", spec := "limits", unfollowed := true, recurses := true, apart := false }
def LimitsSaid : Prop := limitsRow.holds Try.pinned (OpenSpec.ofChange limitsSpec)

/-- ITS FALSE NEIGHBOUR: 'it returns false'. Refute it at one input. -/
def limitsWrong : ChangeSpec := { name := "limits", fn := fun _ => fun
  | [d1, d2] => { results := [.lit (.bool false)], args := [d1, d2] }
  | _ => none }
def LimitsWrongFalsely : Prop := limitsRow.holds Try.pinned (OpenSpec.ofChange limitsWrong)

/-- 'portagelaw4.LimitFull': WHATEVER THE INPUT: true; the input reads as it did. -/
def limitFullSpec : ChangeSpec := { name := "limitFull", fn := fun _ => fun
  | [d1, d2] => { results := [.lit (.bool true)], args := [d1, d2] }
  | _ => none }
def limitFullRow : OpenClaim := { program := "ytbifignggnfodaa", sum := "95e23e430cc6a02bce86df1c2e146beaaebf3772654a955104aeaf9364b695ba", func := "portage/portagelaw4.LimitFull", spec := "limitFull", unfollowed := true, recurses := true, apart := false }
def LimitFullSaid : Prop := limitFullRow.holds Try.pinned (OpenSpec.ofChange limitFullSpec)

/-- ITS FALSE NEIGHBOUR: 'it returns false'. Refute it at one input. -/
def limitFullWrong : ChangeSpec := { name := "limitFull", fn := fun _ => fun
  | [d1, d2] => { results := [.lit (.bool false)], args := [d1, d2] }
  | _ => none }
def LimitFullWrongFalsely : Prop := limitFullRow.holds Try.pinned (OpenSpec.ofChange limitFullWrong)

/-- 'portagelaw4.LimitForms': WHATEVER THE INPUT: true; the input reads as it did. -/
def limitFormsSpec : ChangeSpec := { name := "limitForms", fn := fun _ => fun
  | [d1, d2] => { results := [.lit (.bool true)], args := [d1, d2] }
  | _ => none }
def limitFormsRow : OpenClaim := { program := "ytbifignggnfodaa", sum := "95e23e430cc6a02bce86df1c2e146beaaebf3772654a955104aeaf9364b695ba", func := "portage/portagelaw4.LimitForms", spec := "limitForms", unfollowed := true, recurses := true, apart := false }
def LimitFormsSaid : Prop := limitFormsRow.holds Try.pinned (OpenSpec.ofChange limitFormsSpec)

/-- ITS FALSE NEIGHBOUR: 'it returns false'. Refute it at one input. -/
def limitFormsWrong : ChangeSpec := { name := "limitForms", fn := fun _ => fun
  | [d1, d2] => { results := [.lit (.bool false)], args := [d1, d2] }
  | _ => none }
def LimitFormsWrongFalsely : Prop := limitFormsRow.holds Try.pinned (OpenSpec.ofChange limitFormsWrong)

/-- 'portagelaw4.LimitEven': WHATEVER THE INPUT: true; the input reads as it did. -/
def limitEvenSpec : ChangeSpec := { name := "limitEven", fn := fun _ => fun
  | [d1, d2] => { results := [.lit (.bool true)], args := [d1, d2] }
  | _ => none }
def limitEvenRow : OpenClaim := { program := "ytbifignggnfodaa", sum := "95e23e430cc6a02bce86df1c2e146beaaebf3772654a955104aeaf9364b695ba", func := "portage/portagelaw4.LimitEven", spec := "limitEven", unfollowed := true, recurses := true, apart := false }
def LimitEvenSaid : Prop := limitEvenRow.holds Try.pinned (OpenSpec.ofChange limitEvenSpec)

/-- ITS FALSE NEIGHBOUR: 'it returns false'. Refute it at one input. -/
def limitEvenWrong : ChangeSpec := { name := "limitEven", fn := fun _ => fun
  | [d1, d2] => { results := [.lit (.bool false)], args := [d1, d2] }
  | _ => none }
def LimitEvenWrongFalsely : Prop := limitEvenRow.holds Try.pinned (OpenSpec.ofChange limitEvenWrong)

/-- 'portagelaw4.LimitPowers': WHATEVER THE INPUT: true; the input reads as it did. -/
def limitPowersSpec : ChangeSpec := { name := "limitPowers", fn := fun _ => fun
  | [d1, d2] => { results := [.lit (.bool true)], args := [d1, d2] }
  | _ => none }
def limitPowersRow : OpenClaim := { program := "ytbifignggnfodaa", sum := "95e23e430cc6a02bce86df1c2e146beaaebf3772654a955104aeaf9364b695ba", func := "portage/portagelaw4.LimitPowers", spec := "limitPowers", unfollowed := true, recurses := true, apart := false }
def LimitPowersSaid : Prop := limitPowersRow.holds Try.pinned (OpenSpec.ofChange limitPowersSpec)

/-- ITS FALSE NEIGHBOUR: 'it returns false'. Refute it at one input. -/
def limitPowersWrong : ChangeSpec := { name := "limitPowers", fn := fun _ => fun
  | [d1, d2] => { results := [.lit (.bool false)], args := [d1, d2] }
  | _ => none }
def LimitPowersWrongFalsely : Prop := limitPowersRow.holds Try.pinned (OpenSpec.ofChange limitPowersWrong)

/- THE SECOND FORM. 'bulk': how many values and letters a reading holds, each counted each time it is reached (what is shared counts as often as it is met; a slice's spare places count too). A statement '..UptoSaid' is the law's where the arguments, and the package variables that the reading takes, are together of bulk at most 1048576: NARROWER than '..Said'. Prove '..Said' where nothing that the law and all that it calls make is longer than what came in: it says more and counts as full. Else prove '..UptoSaid'. A law counts once. -/
mutual
def uptoBulk {H : Type} : DataW H → Nat
  | .lit (.string bytes) => bytes.length + 1
  | .lit _ => 1
  | .nil => 1
  | .ptr d => uptoBulk d + 1
  | .slice elems spare => uptoBulkAll elems + uptoBulkAll spare + 1
  | .agg parts => uptoBulkAll parts + 1
  | .iface _ d => uptoBulk d + 1
  | .map entries => uptoBulkEntries entries + 1
  | .held _ => 1
def uptoBulkAll {H : Type} : List (DataW H) → Nat
  | [] => 0
  | d :: r => uptoBulk d + uptoBulkAll r
def uptoBulkEntries {H : Type} : List (Lit × DataW H) → Nat
  | [] => 0
  | x :: r => uptoBulkEntry x + uptoBulkEntries r
def uptoBulkEntry {H : Type} : Lit × DataW H → Nat
  | (.string bytes, d) => bytes.length + uptoBulk d + 1
  | (_, d) => uptoBulk d + 1
 end
def uptoSmall : (H : Type) → List (DataW H) → Bool := fun _ ds => decide (uptoBulkAll ds ≤ 1048576)
def OpenSpec.upto (s : _root_.Go.ChangeSpec) : _root_.Go.OpenSpec := { _root_.Go.OpenSpec.ofChange s with cond := some uptoSmall }

/-- 'portagelaw3.Huffs', WHERE WHAT IT READS IS OF BULK AT MOST 1048576: true; the input reads as it did. -/
def huffsUptoRow : OpenClaim := { program := "ytbifignggnfodaa", sum := "95e23e430cc6a02bce86df1c2e146beaaebf3772654a955104aeaf9364b695ba", func := "portage/portagelaw3.Huffs", spec := "huffs", unfollowed := true, recurses := true, apart := false, narrowed := true }
def HuffsUptoSaid : Prop := huffsUptoRow.holds Try.pinned (OpenSpec.upto huffsSpec)

/-- 'portagelaw3.HuffApart', WHERE WHAT IT READS IS OF BULK AT MOST 1048576: true; the input reads as it did. -/
def huffApartUptoRow : OpenClaim := { program := "ytbifignggnfodaa", sum := "95e23e430cc6a02bce86df1c2e146beaaebf3772654a955104aeaf9364b695ba", func := "portage/portagelaw3.HuffApart", spec := "huffApart", unfollowed := true, recurses := true, apart := false, narrowed := true }
def HuffApartUptoSaid : Prop := huffApartUptoRow.holds Try.pinned (OpenSpec.upto huffApartSpec)

/-- 'portagelaw3.HuffForms', WHERE WHAT IT READS IS OF BULK AT MOST 1048576: true; the input reads as it did. -/
def huffFormsUptoRow : OpenClaim := { program := "ytbifignggnfodaa", sum := "95e23e430cc6a02bce86df1c2e146beaaebf3772654a955104aeaf9364b695ba", func := "portage/portagelaw3.HuffForms", spec := "huffForms", unfollowed := true, recurses := true, apart := false, narrowed := true }
def HuffFormsUptoSaid : Prop := huffFormsUptoRow.holds Try.pinned (OpenSpec.upto huffFormsSpec)

/-- 'portagelaw3.HuffEven', WHERE WHAT IT READS IS OF BULK AT MOST 1048576: true; the input reads as it did. -/
def huffEvenUptoRow : OpenClaim := { program := "ytbifignggnfodaa", sum := "95e23e430cc6a02bce86df1c2e146beaaebf3772654a955104aeaf9364b695ba", func := "portage/portagelaw3.HuffEven", spec := "huffEven", unfollowed := true, recurses := true, apart := false, narrowed := true }
def HuffEvenUptoSaid : Prop := huffEvenUptoRow.holds Try.pinned (OpenSpec.upto huffEvenSpec)

/-- 'portagelaw3.HuffTable', WHERE WHAT IT READS IS OF BULK AT MOST 1048576: true; the input reads as it did. -/
def huffTableUptoRow : OpenClaim := { program := "ytbifignggnfodaa", sum := "95e23e430cc6a02bce86df1c2e146beaaebf3772654a955104aeaf9364b695ba", func := "portage/portagelaw3.HuffTable", spec := "huffTable", unfollowed := true, recurses := true, apart := false, narrowed := true }
def HuffTableUptoSaid : Prop := huffTableUptoRow.holds Try.pinned (OpenSpec.upto huffTableSpec)

/-- 'portagelaw3.HuffMany', WHERE WHAT IT READS IS OF BULK AT MOST 1048576: true; the input reads as it did. -/
def huffManyUptoRow : OpenClaim := { program := "ytbifignggnfodaa", sum := "95e23e430cc6a02bce86df1c2e146beaaebf3772654a955104aeaf9364b695ba", func := "portage/portagelaw3.HuffMany", spec := "huffMany", unfollowed := true, recurses := true, apart := false, narrowed := true }
def HuffManyUptoSaid : Prop := huffManyUptoRow.holds Try.pinned (OpenSpec.upto huffManySpec)

/-- 'portagelaw1.Writes', WHERE WHAT IT READS IS OF BULK AT MOST 1048576: true; the input reads as it did. -/
def writesUptoRow : OpenClaim := { program := "ytbifignggnfodaa", sum := "95e23e430cc6a02bce86df1c2e146beaaebf3772654a955104aeaf9364b695ba", func := "portage/portagelaw1.Writes", spec := "writes", apart := false, narrowed := true }
def WritesUptoSaid : Prop := writesUptoRow.holds Try.pinned (OpenSpec.upto writesSpec)

/-- 'portagelaw1.WriteBack', WHERE WHAT IT READS IS OF BULK AT MOST 1048576: true; the input reads as it did. -/
def writeBackUptoRow : OpenClaim := { program := "ytbifignggnfodaa", sum := "95e23e430cc6a02bce86df1c2e146beaaebf3772654a955104aeaf9364b695ba", func := "portage/portagelaw1.WriteBack", spec := "writeBack", apart := false, narrowed := true }
def WriteBackUptoSaid : Prop := writeBackUptoRow.holds Try.pinned (OpenSpec.upto writeBackSpec)

/-- 'portagelaw1.WriteForms', WHERE WHAT IT READS IS OF BULK AT MOST 1048576: true; the input reads as it did. -/
def writeFormsUptoRow : OpenClaim := { program := "ytbifignggnfodaa", sum := "95e23e430cc6a02bce86df1c2e146beaaebf3772654a955104aeaf9364b695ba", func := "portage/portagelaw1.WriteForms", spec := "writeForms", apart := false, narrowed := true }
def WriteFormsUptoSaid : Prop := writeFormsUptoRow.holds Try.pinned (OpenSpec.upto writeFormsSpec)

/-- 'portagelaw1.WriteCodes', WHERE WHAT IT READS IS OF BULK AT MOST 1048576: true; the input reads as it did. -/
def writeCodesUptoRow : OpenClaim := { program := "ytbifignggnfodaa", sum := "95e23e430cc6a02bce86df1c2e146beaaebf3772654a955104aeaf9364b695ba", func := "portage/portagelaw1.WriteCodes", spec := "writeCodes", apart := false, narrowed := true }
def WriteCodesUptoSaid : Prop := writeCodesUptoRow.holds Try.pinned (OpenSpec.upto writeCodesSpec)

/-- 'portagelaw1.WriteAligns', WHERE WHAT IT READS IS OF BULK AT MOST 1048576: true; the input reads as it did. -/
def writeAlignsUptoRow : OpenClaim := { program := "ytbifignggnfodaa", sum := "95e23e430cc6a02bce86df1c2e146beaaebf3772654a955104aeaf9364b695ba", func := "portage/portagelaw1.WriteAligns", spec := "writeAligns", apart := false, narrowed := true }
def WriteAlignsUptoSaid : Prop := writeAlignsUptoRow.holds Try.pinned (OpenSpec.upto writeAlignsSpec)

/-- 'portagelaw6.Tables', WHERE WHAT IT READS IS OF BULK AT MOST 1048576: true; the input reads as it did. -/
def tablesUptoRow : OpenClaim := { program := "ytbifignggnfodaa", sum := "95e23e430cc6a02bce86df1c2e146beaaebf3772654a955104aeaf9364b695ba", func := "portage/portagelaw6.Tables", spec := "tables", unfollowed := true, recurses := true, apart := false, narrowed := true }
def TablesUptoSaid : Prop := tablesUptoRow.holds Try.pinned (OpenSpec.upto tablesSpec)

/-- 'portagelaw6.TableBack', WHERE WHAT IT READS IS OF BULK AT MOST 1048576: true; the input reads as it did. -/
def tableBackUptoRow : OpenClaim := { program := "ytbifignggnfodaa", sum := "95e23e430cc6a02bce86df1c2e146beaaebf3772654a955104aeaf9364b695ba", func := "portage/portagelaw6.TableBack", spec := "tableBack", unfollowed := true, recurses := true, apart := false, narrowed := true }
def TableBackUptoSaid : Prop := tableBackUptoRow.holds Try.pinned (OpenSpec.upto tableBackSpec)

/-- 'portagelaw6.TableForms', WHERE WHAT IT READS IS OF BULK AT MOST 1048576: true; the input reads as it did. -/
def tableFormsUptoRow : OpenClaim := { program := "ytbifignggnfodaa", sum := "95e23e430cc6a02bce86df1c2e146beaaebf3772654a955104aeaf9364b695ba", func := "portage/portagelaw6.TableForms", spec := "tableForms", unfollowed := true, recurses := true, apart := false, narrowed := true }
def TableFormsUptoSaid : Prop := tableFormsUptoRow.holds Try.pinned (OpenSpec.upto tableFormsSpec)

/-- 'portagelaw6.TableSteps', WHERE WHAT IT READS IS OF BULK AT MOST 1048576: true; the input reads as it did. -/
def tableStepsUptoRow : OpenClaim := { program := "ytbifignggnfodaa", sum := "95e23e430cc6a02bce86df1c2e146beaaebf3772654a955104aeaf9364b695ba", func := "portage/portagelaw6.TableSteps", spec := "tableSteps", unfollowed := true, recurses := true, apart := false, narrowed := true }
def TableStepsUptoSaid : Prop := tableStepsUptoRow.holds Try.pinned (OpenSpec.upto tableStepsSpec)

/-- 'portagelaw4.Limits', WHERE WHAT IT READS IS OF BULK AT MOST 1048576: true; the input reads as it did. -/
def limitsUptoRow : OpenClaim := { program := "ytbifignggnfodaa", sum := "95e23e430cc6a02bce86df1c2e146beaaebf3772654a955104aeaf9364b695ba", func := "portage/portagelaw4.Limits", spec := "limits", unfollowed := true, recurses := true, apart := false, narrowed := true }
def LimitsUptoSaid : Prop := limitsUptoRow.holds Try.pinned (OpenSpec.upto limitsSpec)

/-- 'portagelaw4.LimitFull', WHERE WHAT IT READS IS OF BULK AT MOST 1048576: true; the input reads as it did. -/
def limitFullUptoRow : OpenClaim := { program := "ytbifignggnfodaa", sum := "95e23e430cc6a02bce86df1c2e146beaaebf3772654a955104aeaf9364b695ba", func := "portage/portagelaw4.LimitFull", spec := "limitFull", unfollowed := true, recurses := true, apart := false, narrowed := true }
def LimitFullUptoSaid : Prop := limitFullUptoRow.holds Try.pinned (OpenSpec.upto limitFullSpec)

/-- 'portagelaw4.LimitForms', WHERE WHAT IT READS IS OF BULK AT MOST 1048576: true; the input reads as it did. -/
def limitFormsUptoRow : OpenClaim := { program := "ytbifignggnfodaa", sum := "95e23e430cc6a02bce86df1c2e146beaaebf3772654a955104aeaf9364b695ba", func := "portage/portagelaw4.LimitForms", spec := "limitForms", unfollowed := true, recurses := true, apart := false, narrowed := true }
def LimitFormsUptoSaid : Prop := limitFormsUptoRow.holds Try.pinned (OpenSpec.upto limitFormsSpec)

/-- 'portagelaw4.LimitEven', WHERE WHAT IT READS IS OF BULK AT MOST 1048576: true; the input reads as it did. -/
def limitEvenUptoRow : OpenClaim := { program := "ytbifignggnfodaa", sum := "95e23e430cc6a02bce86df1c2e146beaaebf3772654a955104aeaf9364b695ba", func := "portage/portagelaw4.LimitEven", spec := "limitEven", unfollowed := true, recurses := true, apart := false, narrowed := true }
def LimitEvenUptoSaid : Prop := limitEvenUptoRow.holds Try.pinned (OpenSpec.upto limitEvenSpec)

/-- 'portagelaw4.LimitPowers', WHERE WHAT IT READS IS OF BULK AT MOST 1048576: true; the input reads as it did. -/
def limitPowersUptoRow : OpenClaim := { program := "ytbifignggnfodaa", sum := "95e23e430cc6a02bce86df1c2e146beaaebf3772654a955104aeaf9364b695ba", func := "portage/portagelaw4.LimitPowers", spec := "limitPowers", unfollowed := true, recurses := true, apart := false, narrowed := true }
def LimitPowersUptoSaid : Prop := limitPowersUptoRow.holds Try.pinned (OpenSpec.upto limitPowersSpec)

end Rows
end Go.Proofs.Ytbifignggnfodaa
