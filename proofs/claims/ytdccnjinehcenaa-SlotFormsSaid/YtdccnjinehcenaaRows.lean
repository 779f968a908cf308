/-
  No cell of these rows narrows 'for every input' (looked for: loops, veiled, ifaces, maps, wideKeys, modest, calm, conditions, laid).
  DERIVED. THE GIVEN ROWS OF THIS SEAT. 9 by the template 'for every input the law returns true; each argument reads behind the call as it read before'; 0 by the template 'total and deterministic' (their statements: YtdccnjinehcenaaTotals.lean).
  GIVEN WITH THE SEED: the statements are not yours to turn. If you find one false, say at which input.
  Laid BY PROGRAM, IN A SANDBOX (cutbox-rows.mjs): the forced cells as the released guide's own fill.sh prints them over the translation e6af60683f26c143… (all of the seat's roots in one cut). By AI agents, Wed Nov 11 2026. No macro, syntax, notation, axiom, sorry.
-/
import Derived.Test.YtdccnjinehcenaaChecked
import GoSem.Claim
import GoSem.ClaimJoined
import GoSem.ClaimMapViews
import Derived.JoinedTies
import Derived.KernelRfl
namespace Go.Proofs.Ytdccnjinehcenaa
/- THE CELL 'sum', in the pinned program and in every row, IS THE sha256 OF THE DUMP (.gsa) THAT YtdccnjinehcenaaProg.lean LOADS. Nothing in Lean hashes anything: it is a label: what it is worth is what the hold of that sum in a sandbox is worth. -/
noncomputable def Try.pinned : Pinned := { name := "ytdccnjinehcenaa", sum := "e6af60683f26c143e122557f4bfdfa87925579dc424e2d2fedf920a49d458f65", checked := Try.checked }
namespace Rows
def none {H : Type} : Left H := { results := [], args := [] }

/-- 'portagelaw17.Disks': WHATEVER THE INPUT: true; the input reads as it did. -/
def disksSpec : ChangeSpec := { name := "disks", fn := fun _ => fun
  | [d1, d2, d3, d4, d5] => { results := [.lit (.bool true)], args := [d1, d2, d3, d4, d5] }
  | _ => none }
def disksRow : OpenClaim := { program := "ytdccnjinehcenaa", sum := "e6af60683f26c143e122557f4bfdfa87925579dc424e2d2fedf920a49d458f65", func := "portage/portagelaw17.Disks", spec := "disks", inPlace := ["internal/abi.NoEscape", "internal/bytealg.MakeNoZero"], unfollowed := true, recurses := true, apart := false }
def DisksSaid : Prop := disksRow.holds Try.pinned (OpenSpec.ofChange disksSpec)

/-- ITS FALSE NEIGHBOUR: 'it returns false'. Refute it at one input. -/
def disksWrong : ChangeSpec := { name := "disks", fn := fun _ => fun
  | [d1, d2, d3, d4, d5] => { results := [.lit (.bool false)], args := [d1, d2, d3, d4, d5] }
  | _ => none }
def DisksWrongFalsely : Prop := disksRow.holds Try.pinned (OpenSpec.ofChange disksWrong)

/-- 'portagelaw17.DiskCuts': WHATEVER THE INPUT: true; the input reads as it did. -/
def diskCutsSpec : ChangeSpec := { name := "diskCuts", fn := fun _ => fun
  | [d1, d2, d3] => { results := [.lit (.bool true)], args := [d1, d2, d3] }
  | _ => none }
def diskCutsRow : OpenClaim := { program := "ytdccnjinehcenaa", sum := "e6af60683f26c143e122557f4bfdfa87925579dc424e2d2fedf920a49d458f65", func := "portage/portagelaw17.DiskCuts", spec := "diskCuts", inPlace := ["internal/abi.NoEscape", "internal/bytealg.MakeNoZero"], unfollowed := true, recurses := true, apart := false }
def DiskCutsSaid : Prop := diskCutsRow.holds Try.pinned (OpenSpec.ofChange diskCutsSpec)

/-- ITS FALSE NEIGHBOUR: 'it returns false'. Refute it at one input. -/
def diskCutsWrong : ChangeSpec := { name := "diskCuts", fn := fun _ => fun
  | [d1, d2, d3] => { results := [.lit (.bool false)], args := [d1, d2, d3] }
  | _ => none }
def DiskCutsWrongFalsely : Prop := diskCutsRow.holds Try.pinned (OpenSpec.ofChange diskCutsWrong)

/-- 'portagelaw17.DiskForms': WHATEVER THE INPUT: true; the input reads as it did. -/
def diskFormsSpec : ChangeSpec := { name := "diskForms", fn := fun _ => fun
  | [d1, d2] => { results := [.lit (.bool true)], args := [d1, d2] }
  | _ => none }
def diskFormsRow : OpenClaim := { program := "ytdccnjinehcenaa", sum := "e6af60683f26c143e122557f4bfdfa87925579dc424e2d2fedf920a49d458f65", func := "portage/portagelaw17.DiskForms", spec := "diskForms", inPlace := ["internal/abi.NoEscape", "internal/bytealg.MakeNoZero"], unfollowed := true, recurses := true, apart := false }
def DiskFormsSaid : Prop := diskFormsRow.holds Try.pinned (OpenSpec.ofChange diskFormsSpec)

/-- ITS FALSE NEIGHBOUR: 'it returns false'. Refute it at one input. -/
def diskFormsWrong : ChangeSpec := { name := "diskForms", fn := fun _ => fun
  | [d1, d2] => { results := [.lit (.bool false)], args := [d1, d2] }
  | _ => none }
def DiskFormsWrongFalsely : Prop := diskFormsRow.holds Try.pinned (OpenSpec.ofChange diskFormsWrong)

/-- 'portagelaw17.DiskTorn': WHATEVER THE INPUT: true; the input reads as it did. -/
def diskTornSpec : ChangeSpec := { name := "diskTorn", fn := fun _ => fun
  | [d1, d2] => { results := [.lit (.bool true)], args := [d1, d2] }
  | _ => none }
def diskTornRow : OpenClaim := { program := "ytdccnjinehcenaa", sum := "e6af60683f26c143e122557f4bfdfa87925579dc424e2d2fedf920a49d458f65", func := "portage/portagelaw17.DiskTorn", spec := "diskTorn", inPlace := ["internal/abi.NoEscape", "internal/bytealg.MakeNoZero"], unfollowed := true, recurses := true, apart := false }
def DiskTornSaid : Prop := diskTornRow.holds Try.pinned (OpenSpec.ofChange diskTornSpec)

/-- ITS FALSE NEIGHBOUR: 'it returns false'. Refute it at one input. -/
def diskTornWrong : ChangeSpec := { name := "diskTorn", fn := fun _ => fun
  | [d1, d2] => { results := [.lit (.bool false)], args := [d1, d2] }
  | _ => none }
def DiskTornWrongFalsely : Prop := diskTornRow.holds Try.pinned (OpenSpec.ofChange diskTornWrong)

/-- 'portagelaw18.Slots': WHATEVER THE INPUT: true; the input reads as it did. -/
def slotsSpec : ChangeSpec := { name := "slots", fn := fun _ => fun
  | [d1, d2, d3, d4] => { results := [.lit (.bool true)], args := [d1, d2, d3, d4] }
  | _ => none }
def slotsRow : OpenClaim := { program := "ytdccnjinehcenaa", sum := "e6af60683f26c143e122557f4bfdfa87925579dc424e2d2fedf920a49d458f65", func := "portage/portagelaw18.Slots", spec := "slots", inPlace := ["internal/abi.NoEscape", "internal/bytealg.MakeNoZero"], unfollowed := true, recurses := true, apart := false }
def SlotsSaid : Prop := slotsRow.holds Try.pinned (OpenSpec.ofChange slotsSpec)

/-- ITS FALSE NEIGHBOUR: 'it returns false'. Refute it at one input. -/
def slotsWrong : ChangeSpec := { name := "slots", fn := fun _ => fun
  | [d1, d2, d3, d4] => { results := [.lit (.bool false)], args := [d1, d2, d3, d4] }
  | _ => none }
def SlotsWrongFalsely : Prop := slotsRow.holds Try.pinned (OpenSpec.ofChange slotsWrong)

/-- 'portagelaw18.SlotCuts': WHATEVER THE INPUT: true; the input reads as it did. -/
def slotCutsSpec : ChangeSpec := { name := "slotCuts", fn := fun _ => fun
  | [d1, d2, d3] => { results := [.lit (.bool true)], args := [d1, d2, d3] }
  | _ => none }
def slotCutsRow : OpenClaim := { program := "ytdccnjinehcenaa", sum := "e6af60683f26c143e122557f4bfdfa87925579dc424e2d2fedf920a49d458f65", func := "portage/portagelaw18.SlotCuts", spec := "slotCuts", inPlace := ["internal/abi.NoEscape", "internal/bytealg.MakeNoZero"], unfollowed := true, recurses := true, apart := false }
def SlotCutsSaid : Prop := slotCutsRow.holds Try.pinned (OpenSpec.ofChange slotCutsSpec)

/-- ITS FALSE NEIGHBOUR: 'it returns false'. Refute it at one input. -/
def slotCutsWrong : ChangeSpec := { name := "slotCuts", fn := fun _ => fun
  | [d1, d2, d3] => { results := [.lit (.bool false)], args := [d1, d2, d3] }
  | _ => none }
def SlotCutsWrongFalsely : Prop := slotCutsRow.holds Try.pinned (OpenSpec.ofChange slotCutsWrong)

/-- 'portagelaw18.SlotForms': WHATEVER THE INPUT: true; the input reads as it did. -/
def slotFormsSpec : ChangeSpec := { name := "slotForms", fn := fun _ => fun
  | [d1, d2] => { results := [.lit (.bool true)], args := [d1, d2] }
  | _ => none }
def slotFormsRow : OpenClaim := { program := "ytdccnjinehcenaa", sum := "e6af60683f26c143e122557f4bfdfa87925579dc424e2d2fedf920a49d458f65", func := "portage/portagelaw18.SlotForms", spec := "slotForms", inPlace := ["internal/abi.NoEscape", "internal/bytealg.MakeNoZero"], unfollowed := true, recurses := true, apart := false }
def SlotFormsSaid : Prop := slotFormsRow.holds Try.pinned (OpenSpec.ofChange slotFormsSpec)

/-- ITS FALSE NEIGHBOUR: 'it returns false'. Refute it at one input. -/
def slotFormsWrong : ChangeSpec := { name := "slotForms", fn := fun _ => fun
  | [d1, d2] => { results := [.lit (.bool false)], args := [d1, d2] }
  | _ => none }
def SlotFormsWrongFalsely : Prop := slotFormsRow.holds Try.pinned (OpenSpec.ofChange slotFormsWrong)

/-- 'portagelaw18.SlotTwo': WHATEVER THE INPUT: true; the input reads as it did. -/
def slotTwoSpec : ChangeSpec := { name := "slotTwo", fn := fun _ => fun
  | [d1, d2, d3, d4] => { results := [.lit (.bool true)], args := [d1, d2, d3, d4] }
  | _ => none }
def slotTwoRow : OpenClaim := { program := "ytdccnjinehcenaa", sum := "e6af60683f26c143e122557f4bfdfa87925579dc424e2d2fedf920a49d458f65", func := "portage/portagelaw18.SlotTwo", spec := "slotTwo", inPlace := ["internal/abi.NoEscape", "internal/bytealg.MakeNoZero"], unfollowed := true, recurses := true, apart := false }
def SlotTwoSaid : Prop := slotTwoRow.holds Try.pinned (OpenSpec.ofChange slotTwoSpec)

/-- ITS FALSE NEIGHBOUR: 'it returns false'. Refute it at one input. -/
def slotTwoWrong : ChangeSpec := { name := "slotTwo", fn := fun _ => fun
  | [d1, d2, d3, d4] => { results := [.lit (.bool false)], args := [d1, d2, d3, d4] }
  | _ => none }
def SlotTwoWrongFalsely : Prop := slotTwoRow.holds Try.pinned (OpenSpec.ofChange slotTwoWrong)

/-- 'portagelaw18.SlotReads': WHATEVER THE INPUT: true; the input reads as it did. -/
def slotReadsSpec : ChangeSpec := { name := "slotReads", fn := fun _ => fun
  | [d1, d2, d3] => { results := [.lit (.bool true)], args := [d1, d2, d3] }
  | _ => none }
def slotReadsRow : OpenClaim := { program := "ytdccnjinehcenaa", sum := "e6af60683f26c143e122557f4bfdfa87925579dc424e2d2fedf920a49d458f65", func := "portage/portagelaw18.SlotReads", spec := "slotReads", inPlace := ["internal/abi.NoEscape", "internal/bytealg.MakeNoZero"], unfollowed := true, recurses := true, apart := false }
def SlotReadsSaid : Prop := slotReadsRow.holds Try.pinned (OpenSpec.ofChange slotReadsSpec)

/-- ITS FALSE NEIGHBOUR: 'it returns false'. Refute it at one input. -/
def slotReadsWrong : ChangeSpec := { name := "slotReads", fn := fun _ => fun
  | [d1, d2, d3] => { results := [.lit (.bool false)], args := [d1, d2, d3] }
  | _ => none }
def SlotReadsWrongFalsely : Prop := slotReadsRow.holds Try.pinned (OpenSpec.ofChange slotReadsWrong)

/- THE SECOND FORM. 'bulk': how many values and letters a reading holds, each counted each time it is reached (what is shared counts as often as it is met; a slice's spare places count too). A statement '..UptoSaid' is the law's where the arguments, and the package variables that the reading takes, are together of bulk at most 1048576: NARROWER than '..Said'. Prove '..Said' where nothing that the law and all that it calls make is longer than what came in: it says more and counts as full. Else prove '..UptoSaid'. A law counts once. -/
mutual
def uptoBulk {H : Type} : DataW H → Nat
  | .lit (.string bytes) => bytes.length + 1
  | .lit _ => 1
  | .nil => 1
  | .ptr d => uptoBulk d + 1
  | .slice elems spare => uptoBulkAll elems + uptoBulkAll spare + 1
  | .agg parts => uptoBulkAll parts + 1
  | .iface _ d => uptoBulk d + 1
  | .map entries => uptoBulkEntries entries + 1
  | .held _ => 1
def uptoBulkAll {H : Type} : List (DataW H) → Nat
  | [] => 0
  | d :: r => uptoBulk d + uptoBulkAll r
def uptoBulkEntries {H : Type} : List (Lit × DataW H) → Nat
  | [] => 0
  | x :: r => uptoBulkEntry x + uptoBulkEntries r
def uptoBulkEntry {H : Type} : Lit × DataW H → Nat
  | (.string bytes, d) => bytes.length + uptoBulk d + 1
  | (_, d) => uptoBulk d + 1
 end
def uptoSmall : (H : Type) → List (DataW H) → Bool := fun _ ds => decide (uptoBulkAll ds ≤ 1048576)
def OpenSpec.upto (s : _root_.Go.ChangeSpec) : _root_.Go.OpenSpec := { _root_.Go.OpenSpec.ofChange s with cond := some uptoSmall }

/-- 'portagelaw17.Disks', WHERE WHAT IT READS IS OF BULK AT MOST 1048576: true; the input reads as it did. -/
def disksUptoRow : OpenClaim := { program := "ytdccnjinehcenaa", sum := "e6af60683f26c143e122557f4bfdfa87925579dc424e2d2fedf920a49d458f65", func := "portage/portagelaw17.Disks", spec := "disks", inPlace := ["internal/abi.NoEscape", "internal/bytealg.MakeNoZero"], unfollowed := true, recurses := true, apart := false, narrowed := true }
def DisksUptoSaid : Prop := disksUptoRow.holds Try.pinned (OpenSpec.upto disksSpec)

/-- 'portagelaw17.DiskCuts', WHERE WHAT IT READS IS OF BULK AT MOST 1048576: true; the input reads as it did. -/
def diskCutsUptoRow : OpenClaim := { program := "ytdccnjinehcenaa", sum := "e6af60683f26c143e122557f4bfdfa87925579dc424e2d2fedf920a49d458f65", func := "portage/portagelaw17.DiskCuts", spec := "diskCuts", inPlace := ["internal/abi.NoEscape", "internal/bytealg.MakeNoZero"], unfollowed := true, recurses := true, apart := false, narrowed := true }
def DiskCutsUptoSaid : Prop := diskCutsUptoRow.holds Try.pinned (OpenSpec.upto diskCutsSpec)

/-- 'portagelaw17.DiskForms', WHERE WHAT IT READS IS OF BULK AT MOST 1048576: true; the input reads as it did. -/
def diskFormsUptoRow : OpenClaim := { program := "ytdccnjinehcenaa", sum := "e6af60683f26c143e122557f4bfdfa87925579dc424e2d2fedf920a49d458f65", func := "portage/portagelaw17.DiskForms", spec := "diskForms", inPlace := ["internal/abi.NoEscape", "internal/bytealg.MakeNoZero"], unfollowed := true, recurses := true, apart := false, narrowed := true }
def DiskFormsUptoSaid : Prop := diskFormsUptoRow.holds Try.pinned (OpenSpec.upto diskFormsSpec)

/-- 'portagelaw17.DiskTorn', WHERE WHAT IT READS IS OF BULK AT MOST 1048576: true; the input reads as it did. -/
def diskTornUptoRow : OpenClaim := { program := "ytdccnjinehcenaa", sum := "e6af60683f26c143e122557f4bfdfa87925579dc424e2d2fedf920a49d458f65", func := "portage/portagelaw17.DiskTorn", spec := "diskTorn", inPlace := ["internal/abi.NoEscape", "internal/bytealg.MakeNoZero"], unfollowed := true, recurses := true, apart := false, narrowed := true }
def DiskTornUptoSaid : Prop := diskTornUptoRow.holds Try.pinned (OpenSpec.upto diskTornSpec)

/-- 'portagelaw18.Slots', WHERE WHAT IT READS IS OF BULK AT MOST 1048576: true; the input reads as it did. -/
def slotsUptoRow : OpenClaim := { program := "ytdccnjinehcenaa", sum := "e6af60683f26c143e122557f4bfdfa87925579dc424e2d2fedf920a49d458f65", func := "portage/portagelaw18.Slots", spec := "slots", inPlace := ["internal/abi.NoEscape", "internal/bytealg.MakeNoZero"], unfollowed := true, recurses := true, apart := false, narrowed := true }
def SlotsUptoSaid : Prop := slotsUptoRow.holds Try.pinned (OpenSpec.upto slotsSpec)

/-- 'portagelaw18.SlotCuts', WHERE WHAT IT READS IS OF BULK AT MOST 1048576: true; the input reads as it did. -/
def slotCutsUptoRow : OpenClaim := { program := "ytdccnjinehcenaa", sum := "e6af60683f26c143e122557f4bfdfa87925579dc424e2d2fedf920a49d458f65", func := "portage/portagelaw18.SlotCuts", spec := "slotCuts", inPlace := ["internal/abi.NoEscape", "internal/bytealg.MakeNoZero"], unfollowed := true, recurses := true, apart := false, narrowed := true }
def SlotCutsUptoSaid : Prop := slotCutsUptoRow.holds Try.pinned (OpenSpec.upto slotCutsSpec)

/-- 'portagelaw18.SlotForms', WHERE WHAT IT READS IS OF BULK AT MOST 1048576: true; the input reads as it did. -/
def slotFormsUptoRow : OpenClaim := { program := "ytdccnjinehcenaa", sum := "e6af60683f26c143e122557f4bfdfa87925579dc424e2d2fedf920a49d458f65", func := "portage/portagelaw18.SlotForms", spec := "slotForms", inPlace := ["internal/abi.NoEscape", "internal/bytealg.MakeNoZero"], unfollowed := true, recurses := true, apart := false, narrowed := true }
def SlotFormsUptoSaid : Prop := slotFormsUptoRow.holds Try.pinned (OpenSpec.upto slotFormsSpec)

/-- 'portagelaw18.SlotTwo', WHERE WHAT IT READS IS OF BULK AT MOST 1048576: true; the input reads as it did. -/
def slotTwoUptoRow : OpenClaim := { program := "ytdccnjinehcenaa", sum := "e6af60683f26c143e122557f4bfdfa87925579dc424e2d2fedf920a49d458f65", func := "portage/portagelaw18.SlotTwo", spec := "slotTwo", inPlace := ["internal/abi.NoEscape", "internal/bytealg.MakeNoZero"], unfollowed := true, recurses := true, apart := false, narrowed := true }
def SlotTwoUptoSaid : Prop := slotTwoUptoRow.holds Try.pinned (OpenSpec.upto slotTwoSpec)

/-- 'portagelaw18.SlotReads', WHERE WHAT IT READS IS OF BULK AT MOST 1048576: true; the input reads as it did. -/
def slotReadsUptoRow : OpenClaim := { program := "ytdccnjinehcenaa", sum := "e6af60683f26c143e122557f4bfdfa87925579dc424e2d2fedf920a49d458f65", func := "portage/portagelaw18.SlotReads", spec := "slotReads", inPlace := ["internal/abi.NoEscape", "internal/bytealg.MakeNoZero"], unfollowed := true, recurses := true, apart := false, narrowed := true }
def SlotReadsUptoSaid : Prop := slotReadsUptoRow.holds Try.pinned (OpenSpec.upto slotReadsSpec)

end Rows
end Go.Proofs.Ytdccnjinehcenaa
