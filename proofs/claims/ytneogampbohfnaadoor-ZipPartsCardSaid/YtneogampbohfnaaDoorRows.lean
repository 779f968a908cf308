/-
  NARROWER THAN 'FOR EVERY INPUT', by the rows' own cells (each row's printed sentence says how): Zips: laid · ZipParts: laid · ZipForms: laid · ZipSizes: laid · ZipUnlike: laid · Unzips: laid · UnzipBack: laid · UnzipTurned: laid · UnzipForms: laid · Scripts: laid · ScriptBack: laid · ScriptForms: laid · ScriptRows: laid.
  DERIVED. THE GIVEN ROWS OF THIS SEAT. 13 by the template 'for every input the law returns true; each argument reads behind the call as it read before'; 0 by the template 'total and deterministic' (their statements: YtneogampbohfnaaDoorTotals.lean).
  GIVEN WITH THE SEED: the statements are not yours to turn. If you find one false, say at which input.
  Laid BY PROGRAM, IN A SANDBOX (cutbox-rows.mjs): the forced cells as the released guide's own fill.sh prints them over the translation 36b59b013495ec98… (all of the seat's roots in one cut). By AI agents, Wed Nov 11 2026. No macro, syntax, notation, axiom, sorry.
-/
import Derived.Test.YtneogampbohfnaaDoorChecked
import GoSem.PinnedTables
import GoSem.Claim
import GoSem.ClaimJoined
import GoSem.ClaimMapViews
import Derived.JoinedTies
import Derived.KernelRfl
namespace Go.Proofs.YtneogampbohfnaaDoor
/- THE CELL 'sum', in the pinned program and in every row, IS THE sha256 OF THE DUMP (.gsa) THAT YtneogampbohfnaaDoorProg.lean LOADS. Nothing in Lean hashes anything: it is a label: what it is worth is what the hold of that sum in a sandbox is worth. -/
noncomputable def Tryd.pinned : Pinned := { name := "ytneogampbohfnaadoor", sum := "36b59b013495ec98ac324039031b0323c4179c8a5db84aedb044b5c805808670", checked := Tryd.checked }
namespace Rows
def none {H : Type} : Left H := { results := [], args := [] }

/- WHAT THE LISTED PACKAGE-LEVEL VARIABLES READ AS WHEN THE CALL BEGINS. Each datum BY PROGRAM (the guide's laid-datum.mjs) off the statement by which the dump's own 'gosem.cut.vars' lays the variable. In a bare row this is a premise. The card (YtneogampbohfnaaDoorCards.lean) ties it to the program's text. -/
def laid_unicode_utf8_acceptRanges {H : Type} : DataW H := .agg [.agg [.lit (.int .u8 128), .lit (.int .u8 191)], .agg [.lit (.int .u8 160), .lit (.int .u8 191)], .agg [.lit (.int .u8 128), .lit (.int .u8 159)], .agg [.lit (.int .u8 144), .lit (.int .u8 191)], .agg [.lit (.int .u8 128), .lit (.int .u8 143)], .agg [.lit (.int .u8 0), .lit (.int .u8 0)], .agg [.lit (.int .u8 0), .lit (.int .u8 0)], .agg [.lit (.int .u8 0), .lit (.int .u8 0)], .agg [.lit (.int .u8 0), .lit (.int .u8 0)], .agg [.lit (.int .u8 0), .lit (.int .u8 0)], .agg [.lit (.int .u8 0), .lit (.int .u8 0)], .agg [.lit (.int .u8 0), .lit (.int .u8 0)], .agg [.lit (.int .u8 0), .lit (.int .u8 0)], .agg [.lit (.int .u8 0), .lit (.int .u8 0)], .agg [.lit (.int .u8 0), .lit (.int .u8 0)], .agg [.lit (.int .u8 0), .lit (.int .u8 0)]]
/-- One of Go's own tables, pinned by name: the form's constant. -/
def laid_unicode_utf8_first : DataW Unit := Go.Pinned.utf8First
def laid_math_bits_deBruijn32tab {H : Type} : DataW H := .agg [.lit (.int .u8 0), .lit (.int .u8 1), .lit (.int .u8 28), .lit (.int .u8 2), .lit (.int .u8 29), .lit (.int .u8 14), .lit (.int .u8 24), .lit (.int .u8 3), .lit (.int .u8 30), .lit (.int .u8 22), .lit (.int .u8 20), .lit (.int .u8 15), .lit (.int .u8 25), .lit (.int .u8 17), .lit (.int .u8 4), .lit (.int .u8 8), .lit (.int .u8 31), .lit (.int .u8 27), .lit (.int .u8 13), .lit (.int .u8 23), .lit (.int .u8 21), .lit (.int .u8 19), .lit (.int .u8 16), .lit (.int .u8 7), .lit (.int .u8 26), .lit (.int .u8 12), .lit (.int .u8 18), .lit (.int .u8 6), .lit (.int .u8 11), .lit (.int .u8 5), .lit (.int .u8 10), .lit (.int .u8 9)]
def laid_math_bits_deBruijn64tab {H : Type} : DataW H := .agg [.lit (.int .u8 0), .lit (.int .u8 1), .lit (.int .u8 56), .lit (.int .u8 2), .lit (.int .u8 57), .lit (.int .u8 49), .lit (.int .u8 28), .lit (.int .u8 3), .lit (.int .u8 61), .lit (.int .u8 58), .lit (.int .u8 42), .lit (.int .u8 50), .lit (.int .u8 38), .lit (.int .u8 29), .lit (.int .u8 17), .lit (.int .u8 4), .lit (.int .u8 62), .lit (.int .u8 47), .lit (.int .u8 59), .lit (.int .u8 36), .lit (.int .u8 45), .lit (.int .u8 43), .lit (.int .u8 51), .lit (.int .u8 22), .lit (.int .u8 53), .lit (.int .u8 39), .lit (.int .u8 33), .lit (.int .u8 30), .lit (.int .u8 24), .lit (.int .u8 18), .lit (.int .u8 12), .lit (.int .u8 5), .lit (.int .u8 63), .lit (.int .u8 55), .lit (.int .u8 48), .lit (.int .u8 27), .lit (.int .u8 60), .lit (.int .u8 41), .lit (.int .u8 37), .lit (.int .u8 16), .lit (.int .u8 46), .lit (.int .u8 35), .lit (.int .u8 44), .lit (.int .u8 21), .lit (.int .u8 52), .lit (.int .u8 32), .lit (.int .u8 23), .lit (.int .u8 11), .lit (.int .u8 54), .lit (.int .u8 26), .lit (.int .u8 40), .lit (.int .u8 15), .lit (.int .u8 34), .lit (.int .u8 20), .lit (.int .u8 31), .lit (.int .u8 10), .lit (.int .u8 25), .lit (.int .u8 14), .lit (.int .u8 19), .lit (.int .u8 9), .lit (.int .u8 13), .lit (.int .u8 8), .lit (.int .u8 7), .lit (.int .u8 6)]
def laid_internal_strconv_uint64pow10 {H : Type} : DataW H := .agg [.lit (.int .u64 1), .lit (.int .u64 10), .lit (.int .u64 100), .lit (.int .u64 1000), .lit (.int .u64 10000), .lit (.int .u64 100000), .lit (.int .u64 1000000), .lit (.int .u64 10000000), .lit (.int .u64 100000000), .lit (.int .u64 1000000000), .lit (.int .u64 10000000000), .lit (.int .u64 100000000000), .lit (.int .u64 1000000000000), .lit (.int .u64 10000000000000), .lit (.int .u64 100000000000000), .lit (.int .u64 1000000000000000), .lit (.int .u64 10000000000000000), .lit (.int .u64 100000000000000000), .lit (.int .u64 1000000000000000000), .lit (.int .u64 10000000000000000000)]
def laid_strconv_ErrRange {H : Type} : DataW H := .iface "*errors.errorString" (.ptr (.agg [.lit (.string [118, 97, 108, 117, 101, 32, 111, 117, 116, 32, 111, 102, 32, 114, 97, 110, 103, 101])]))
def laid_strconv_ErrSyntax {H : Type} : DataW H := .iface "*errors.errorString" (.ptr (.agg [.lit (.string [105, 110, 118, 97, 108, 105, 100, 32, 115, 121, 110, 116, 97, 120])]))

/-- 'portagelaw13.Zips': WHATEVER THE INPUT: true; the input reads as it did. -/
def zipsSpec : ChangeSpec := { name := "zips", fn := fun _ => fun
  | [d] => { results := [.lit (.bool true)], args := [d] }
  | _ => none }
def zipsRow : OpenClaim := { program := "ytneogampbohfnaadoor", sum := "36b59b013495ec98ac324039031b0323c4179c8a5db84aedb044b5c805808670", func := "portage/portagelaw13.Zips", spec := "zips", inPlace := ["internal/bytealg.IndexByteString", "internal/bytealg.IndexString", "internal/abi.NoEscape"], unfollowed := true, recurses := true, named := ["unicode/utf8.first", "unicode/utf8.acceptRanges", "internal/bytealg.MaxLen"], apart := false, laid := [("unicode/utf8.acceptRanges", laid_unicode_utf8_acceptRanges), ("unicode/utf8.first", laid_unicode_utf8_first)] }
def ZipsSaid : Prop := zipsRow.holds Tryd.pinned (OpenSpec.ofChange zipsSpec)

/-- ITS FALSE NEIGHBOUR: 'it returns false'. Refute it at one input. -/
def zipsWrong : ChangeSpec := { name := "zips", fn := fun _ => fun
  | [d] => { results := [.lit (.bool false)], args := [d] }
  | _ => none }
def ZipsWrongFalsely : Prop := zipsRow.holds Tryd.pinned (OpenSpec.ofChange zipsWrong)

/-- 'portagelaw13.ZipParts': WHATEVER THE INPUT: true; the input reads as it did. -/
def zipPartsSpec : ChangeSpec := { name := "zipParts", fn := fun _ => fun
  | [d] => { results := [.lit (.bool true)], args := [d] }
  | _ => none }
def zipPartsRow : OpenClaim := { program := "ytneogampbohfnaadoor", sum := "36b59b013495ec98ac324039031b0323c4179c8a5db84aedb044b5c805808670", func := "portage/portagelaw13.ZipParts", spec := "zipParts", inPlace := ["internal/bytealg.IndexByteString", "internal/bytealg.IndexString", "internal/abi.NoEscape"], unfollowed := true, recurses := true, named := ["unicode/utf8.first", "unicode/utf8.acceptRanges", "internal/bytealg.MaxLen"], apart := false, laid := [("unicode/utf8.acceptRanges", laid_unicode_utf8_acceptRanges), ("unicode/utf8.first", laid_unicode_utf8_first)] }
def ZipPartsSaid : Prop := zipPartsRow.holds Tryd.pinned (OpenSpec.ofChange zipPartsSpec)

/-- ITS FALSE NEIGHBOUR: 'it returns false'. Refute it at one input. -/
def zipPartsWrong : ChangeSpec := { name := "zipParts", fn := fun _ => fun
  | [d] => { results := [.lit (.bool false)], args := [d] }
  | _ => none }
def ZipPartsWrongFalsely : Prop := zipPartsRow.holds Tryd.pinned (OpenSpec.ofChange zipPartsWrong)

/-- 'portagelaw13.ZipForms': WHATEVER THE INPUT: true; the input reads as it did. -/
def zipFormsSpec : ChangeSpec := { name := "zipForms", fn := fun _ => fun
  | [d1, d2] => { results := [.lit (.bool true)], args := [d1, d2] }
  | _ => none }
def zipFormsRow : OpenClaim := { program := "ytneogampbohfnaadoor", sum := "36b59b013495ec98ac324039031b0323c4179c8a5db84aedb044b5c805808670", func := "portage/portagelaw13.ZipForms", spec := "zipForms", inPlace := ["internal/bytealg.IndexByteString", "internal/bytealg.IndexString", "internal/abi.NoEscape"], unfollowed := true, recurses := true, named := ["unicode/utf8.first", "unicode/utf8.acceptRanges", "internal/bytealg.MaxLen"], apart := false, laid := [("unicode/utf8.acceptRanges", laid_unicode_utf8_acceptRanges), ("unicode/utf8.first", laid_unicode_utf8_first)] }
def ZipFormsSaid : Prop := zipFormsRow.holds Tryd.pinned (OpenSpec.ofChange zipFormsSpec)

/-- ITS FALSE NEIGHBOUR: 'it returns false'. Refute it at one input. -/
def zipFormsWrong : ChangeSpec := { name := "zipForms", fn := fun _ => fun
  | [d1, d2] => { results := [.lit (.bool false)], args := [d1, d2] }
  | _ => none }
def ZipFormsWrongFalsely : Prop := zipFormsRow.holds Tryd.pinned (OpenSpec.ofChange zipFormsWrong)

/-- 'portagelaw13.ZipSizes': WHATEVER THE INPUT: true; the input reads as it did. -/
def zipSizesSpec : ChangeSpec := { name := "zipSizes", fn := fun _ => fun
  | [d] => { results := [.lit (.bool true)], args := [d] }
  | _ => none }
def zipSizesRow : OpenClaim := { program := "ytneogampbohfnaadoor", sum := "36b59b013495ec98ac324039031b0323c4179c8a5db84aedb044b5c805808670", func := "portage/portagelaw13.ZipSizes", spec := "zipSizes", inPlace := ["internal/bytealg.IndexByteString", "internal/bytealg.IndexString", "internal/abi.NoEscape"], unfollowed := true, recurses := true, named := ["unicode/utf8.first", "unicode/utf8.acceptRanges", "internal/bytealg.MaxLen"], apart := false, laid := [("unicode/utf8.acceptRanges", laid_unicode_utf8_acceptRanges), ("unicode/utf8.first", laid_unicode_utf8_first)] }
def ZipSizesSaid : Prop := zipSizesRow.holds Tryd.pinned (OpenSpec.ofChange zipSizesSpec)

/-- ITS FALSE NEIGHBOUR: 'it returns false'. Refute it at one input. -/
def zipSizesWrong : ChangeSpec := { name := "zipSizes", fn := fun _ => fun
  | [d] => { results := [.lit (.bool false)], args := [d] }
  | _ => none }
def ZipSizesWrongFalsely : Prop := zipSizesRow.holds Tryd.pinned (OpenSpec.ofChange zipSizesWrong)

/-- 'portagelaw13.ZipUnlike': WHATEVER THE INPUT: true; the input reads as it did. -/
def zipUnlikeSpec : ChangeSpec := { name := "zipUnlike", fn := fun _ => fun
  | [d1, d2] => { results := [.lit (.bool true)], args := [d1, d2] }
  | _ => none }
def zipUnlikeRow : OpenClaim := { program := "ytneogampbohfnaadoor", sum := "36b59b013495ec98ac324039031b0323c4179c8a5db84aedb044b5c805808670", func := "portage/portagelaw13.ZipUnlike", spec := "zipUnlike", inPlace := ["internal/bytealg.IndexByteString", "internal/bytealg.IndexString", "internal/abi.NoEscape"], unfollowed := true, recurses := true, named := ["unicode/utf8.first", "unicode/utf8.acceptRanges", "internal/bytealg.MaxLen"], apart := false, laid := [("unicode/utf8.acceptRanges", laid_unicode_utf8_acceptRanges), ("unicode/utf8.first", laid_unicode_utf8_first)] }
def ZipUnlikeSaid : Prop := zipUnlikeRow.holds Tryd.pinned (OpenSpec.ofChange zipUnlikeSpec)

/-- ITS FALSE NEIGHBOUR: 'it returns false'. Refute it at one input. -/
def zipUnlikeWrong : ChangeSpec := { name := "zipUnlike", fn := fun _ => fun
  | [d1, d2] => { results := [.lit (.bool false)], args := [d1, d2] }
  | _ => none }
def ZipUnlikeWrongFalsely : Prop := zipUnlikeRow.holds Tryd.pinned (OpenSpec.ofChange zipUnlikeWrong)

/-- 'portagelaw14.Unzips': WHATEVER THE INPUT: true; the input reads as it did. -/
def unzipsSpec : ChangeSpec := { name := "unzips", fn := fun _ => fun
  | [d] => { results := [.lit (.bool true)], args := [d] }
  | _ => none }
def unzipsRow : OpenClaim := { program := "ytneogampbohfnaadoor", sum := "36b59b013495ec98ac324039031b0323c4179c8a5db84aedb044b5c805808670", func := "portage/portagelaw14.Unzips", spec := "unzips", inPlace := ["internal/bytealg.IndexByteString", "internal/bytealg.IndexString", "internal/abi.NoEscape"], unfollowed := true, recurses := true, named := ["unicode/utf8.first", "unicode/utf8.acceptRanges", "internal/bytealg.MaxLen"], apart := false, laid := [("unicode/utf8.acceptRanges", laid_unicode_utf8_acceptRanges), ("unicode/utf8.first", laid_unicode_utf8_first)] }
def UnzipsSaid : Prop := unzipsRow.holds Tryd.pinned (OpenSpec.ofChange unzipsSpec)

/-- ITS FALSE NEIGHBOUR: 'it returns false'. Refute it at one input. -/
def unzipsWrong : ChangeSpec := { name := "unzips", fn := fun _ => fun
  | [d] => { results := [.lit (.bool false)], args := [d] }
  | _ => none }
def UnzipsWrongFalsely : Prop := unzipsRow.holds Tryd.pinned (OpenSpec.ofChange unzipsWrong)

/-- 'portagelaw14.UnzipBack': WHATEVER THE INPUT: true; the input reads as it did. -/
def unzipBackSpec : ChangeSpec := { name := "unzipBack", fn := fun _ => fun
  | [d1, d2, d3] => { results := [.lit (.bool true)], args := [d1, d2, d3] }
  | _ => none }
def unzipBackRow : OpenClaim := { program := "ytneogampbohfnaadoor", sum := "36b59b013495ec98ac324039031b0323c4179c8a5db84aedb044b5c805808670", func := "portage/portagelaw14.UnzipBack", spec := "unzipBack", inPlace := ["internal/bytealg.IndexByteString", "internal/bytealg.IndexString", "internal/abi.NoEscape"], unfollowed := true, recurses := true, named := ["unicode/utf8.first", "unicode/utf8.acceptRanges", "internal/bytealg.MaxLen"], apart := false, laid := [("unicode/utf8.acceptRanges", laid_unicode_utf8_acceptRanges), ("unicode/utf8.first", laid_unicode_utf8_first)] }
def UnzipBackSaid : Prop := unzipBackRow.holds Tryd.pinned (OpenSpec.ofChange unzipBackSpec)

/-- ITS FALSE NEIGHBOUR: 'it returns false'. Refute it at one input. -/
def unzipBackWrong : ChangeSpec := { name := "unzipBack", fn := fun _ => fun
  | [d1, d2, d3] => { results := [.lit (.bool false)], args := [d1, d2, d3] }
  | _ => none }
def UnzipBackWrongFalsely : Prop := unzipBackRow.holds Tryd.pinned (OpenSpec.ofChange unzipBackWrong)

/-- 'portagelaw14.UnzipTurned': WHATEVER THE INPUT: true; the input reads as it did. -/
def unzipTurnedSpec : ChangeSpec := { name := "unzipTurned", fn := fun _ => fun
  | [d1, d2, d3, d4] => { results := [.lit (.bool true)], args := [d1, d2, d3, d4] }
  | _ => none }
def unzipTurnedRow : OpenClaim := { program := "ytneogampbohfnaadoor", sum := "36b59b013495ec98ac324039031b0323c4179c8a5db84aedb044b5c805808670", func := "portage/portagelaw14.UnzipTurned", spec := "unzipTurned", inPlace := ["internal/bytealg.IndexByteString", "internal/bytealg.IndexString", "internal/abi.NoEscape"], unfollowed := true, recurses := true, named := ["unicode/utf8.first", "unicode/utf8.acceptRanges", "internal/bytealg.MaxLen"], apart := false, laid := [("unicode/utf8.acceptRanges", laid_unicode_utf8_acceptRanges), ("unicode/utf8.first", laid_unicode_utf8_first)] }
def UnzipTurnedSaid : Prop := unzipTurnedRow.holds Tryd.pinned (OpenSpec.ofChange unzipTurnedSpec)

/-- ITS FALSE NEIGHBOUR: 'it returns false'. Refute it at one input. -/
def unzipTurnedWrong : ChangeSpec := { name := "unzipTurned", fn := fun _ => fun
  | [d1, d2, d3, d4] => { results := [.lit (.bool false)], args := [d1, d2, d3, d4] }
  | _ => none }
def UnzipTurnedWrongFalsely : Prop := unzipTurnedRow.holds Tryd.pinned (OpenSpec.ofChange unzipTurnedWrong)

/-- 'portagelaw14.UnzipForms': WHATEVER THE INPUT: true; the input reads as it did. -/
def unzipFormsSpec : ChangeSpec := { name := "unzipForms", fn := fun _ => fun
  | [d] => { results := [.lit (.bool true)], args := [d] }
  | _ => none }
def unzipFormsRow : OpenClaim := { program := "ytneogampbohfnaadoor", sum := "36b59b013495ec98ac324039031b0323c4179c8a5db84aedb044b5c805808670", func := "portage/portagelaw14.UnzipForms", spec := "unzipForms", inPlace := ["internal/bytealg.IndexByteString", "internal/bytealg.IndexString", "internal/abi.NoEscape"], unfollowed := true, recurses := true, named := ["unicode/utf8.first", "unicode/utf8.acceptRanges", "internal/bytealg.MaxLen"], apart := false, laid := [("unicode/utf8.acceptRanges", laid_unicode_utf8_acceptRanges), ("unicode/utf8.first", laid_unicode_utf8_first)] }
def UnzipFormsSaid : Prop := unzipFormsRow.holds Tryd.pinned (OpenSpec.ofChange unzipFormsSpec)

/-- ITS FALSE NEIGHBOUR: 'it returns false'. Refute it at one input. -/
def unzipFormsWrong : ChangeSpec := { name := "unzipForms", fn := fun _ => fun
  | [d] => { results := [.lit (.bool false)], args := [d] }
  | _ => none }
def UnzipFormsWrongFalsely : Prop := unzipFormsRow.holds Tryd.pinned (OpenSpec.ofChange unzipFormsWrong)

/-- 'portagelaw24.Scripts': WHATEVER THE INPUT: true; the input reads as it did. -/
def scriptsSpec : ChangeSpec := { name := "scripts", fn := fun _ => fun
  | [d1, d2] => { results := [.lit (.bool true)], args := [d1, d2] }
  | _ => none }
def scriptsRow : OpenClaim := { program := "ytneogampbohfnaadoor", sum := "36b59b013495ec98ac324039031b0323c4179c8a5db84aedb044b5c805808670", func := "portage/portagelaw24.Scripts", spec := "scripts", inPlace := ["internal/abi.NoEscape", "internal/bytealg.IndexByteString", "internal/bytealg.IndexString"], unfollowed := true, recurses := true, named := ["internal/strconv.uint64pow10", "math/bits.deBruijn32tab", "math/bits.deBruijn64tab", "internal/bytealg.MaxLen", "strconv.ErrSyntax", "strconv.ErrRange"], apart := false, laid := [("math/bits.deBruijn32tab", laid_math_bits_deBruijn32tab), ("math/bits.deBruijn64tab", laid_math_bits_deBruijn64tab), ("internal/strconv.uint64pow10", laid_internal_strconv_uint64pow10), ("strconv.ErrRange", laid_strconv_ErrRange), ("strconv.ErrSyntax", laid_strconv_ErrSyntax)] }
def ScriptsSaid : Prop := scriptsRow.holds Tryd.pinned (OpenSpec.ofChange scriptsSpec)

/-- ITS FALSE NEIGHBOUR: 'it returns false'. Refute it at one input. -/
def scriptsWrong : ChangeSpec := { name := "scripts", fn := fun _ => fun
  | [d1, d2] => { results := [.lit (.bool false)], args := [d1, d2] }
  | _ => none }
def ScriptsWrongFalsely : Prop := scriptsRow.holds Tryd.pinned (OpenSpec.ofChange scriptsWrong)

/-- 'portagelaw24.ScriptBack': WHATEVER THE INPUT: true; the input reads as it did. -/
def scriptBackSpec : ChangeSpec := { name := "scriptBack", fn := fun _ => fun
  | [d1, d2] => { results := [.lit (.bool true)], args := [d1, d2] }
  | _ => none }
def scriptBackRow : OpenClaim := { program := "ytneogampbohfnaadoor", sum := "36b59b013495ec98ac324039031b0323c4179c8a5db84aedb044b5c805808670", func := "portage/portagelaw24.ScriptBack", spec := "scriptBack", inPlace := ["internal/abi.NoEscape", "internal/bytealg.IndexByteString", "internal/bytealg.IndexString"], unfollowed := true, recurses := true, named := ["internal/strconv.uint64pow10", "math/bits.deBruijn32tab", "math/bits.deBruijn64tab", "internal/bytealg.MaxLen", "strconv.ErrSyntax", "strconv.ErrRange"], apart := false, laid := [("math/bits.deBruijn32tab", laid_math_bits_deBruijn32tab), ("math/bits.deBruijn64tab", laid_math_bits_deBruijn64tab), ("internal/strconv.uint64pow10", laid_internal_strconv_uint64pow10), ("strconv.ErrRange", laid_strconv_ErrRange), ("strconv.ErrSyntax", laid_strconv_ErrSyntax)] }
def ScriptBackSaid : Prop := scriptBackRow.holds Tryd.pinned (OpenSpec.ofChange scriptBackSpec)

/-- ITS FALSE NEIGHBOUR: 'it returns false'. Refute it at one input. -/
def scriptBackWrong : ChangeSpec := { name := "scriptBack", fn := fun _ => fun
  | [d1, d2] => { results := [.lit (.bool false)], args := [d1, d2] }
  | _ => none }
def ScriptBackWrongFalsely : Prop := scriptBackRow.holds Tryd.pinned (OpenSpec.ofChange scriptBackWrong)

/-- 'portagelaw24.ScriptForms': WHATEVER THE INPUT: true; the input reads as it did. -/
def scriptFormsSpec : ChangeSpec := { name := "scriptForms", fn := fun _ => fun
  | [d1, d2] => { results := [.lit (.bool true)], args := [d1, d2] }
  | _ => none }
def scriptFormsRow : OpenClaim := { program := "ytneogampbohfnaadoor", sum := "36b59b013495ec98ac324039031b0323c4179c8a5db84aedb044b5c805808670", func := "portage/portagelaw24.ScriptForms", spec := "scriptForms", inPlace := ["internal/abi.NoEscape", "internal/bytealg.IndexByteString", "internal/bytealg.IndexString"], unfollowed := true, recurses := true, named := ["internal/strconv.uint64pow10", "math/bits.deBruijn32tab", "math/bits.deBruijn64tab", "internal/bytealg.MaxLen", "strconv.ErrSyntax", "strconv.ErrRange"], apart := false, laid := [("math/bits.deBruijn32tab", laid_math_bits_deBruijn32tab), ("math/bits.deBruijn64tab", laid_math_bits_deBruijn64tab), ("internal/strconv.uint64pow10", laid_internal_strconv_uint64pow10), ("strconv.ErrRange", laid_strconv_ErrRange), ("strconv.ErrSyntax", laid_strconv_ErrSyntax)] }
def ScriptFormsSaid : Prop := scriptFormsRow.holds Tryd.pinned (OpenSpec.ofChange scriptFormsSpec)

/-- ITS FALSE NEIGHBOUR: 'it returns false'. Refute it at one input. -/
def scriptFormsWrong : ChangeSpec := { name := "scriptForms", fn := fun _ => fun
  | [d1, d2] => { results := [.lit (.bool false)], args := [d1, d2] }
  | _ => none }
def ScriptFormsWrongFalsely : Prop := scriptFormsRow.holds Tryd.pinned (OpenSpec.ofChange scriptFormsWrong)

/-- 'portagelaw24.ScriptRows': WHATEVER THE INPUT: true; the input reads as it did. -/
def scriptRowsSpec : ChangeSpec := { name := "scriptRows", fn := fun _ => fun
  | [d1, d2] => { results := [.lit (.bool true)], args := [d1, d2] }
  | _ => none }
def scriptRowsRow : OpenClaim := { program := "ytneogampbohfnaadoor", sum := "36b59b013495ec98ac324039031b0323c4179c8a5db84aedb044b5c805808670", func := "portage/portagelaw24.ScriptRows", spec := "scriptRows", inPlace := ["internal/abi.NoEscape", "internal/bytealg.IndexByteString", "internal/bytealg.IndexString"], unfollowed := true, recurses := true, named := ["internal/strconv.uint64pow10", "math/bits.deBruijn32tab", "math/bits.deBruijn64tab", "internal/bytealg.MaxLen", "strconv.ErrSyntax", "strconv.ErrRange"], apart := false, laid := [("math/bits.deBruijn32tab", laid_math_bits_deBruijn32tab), ("math/bits.deBruijn64tab", laid_math_bits_deBruijn64tab), ("internal/strconv.uint64pow10", laid_internal_strconv_uint64pow10), ("strconv.ErrRange", laid_strconv_ErrRange), ("strconv.ErrSyntax", laid_strconv_ErrSyntax)] }
def ScriptRowsSaid : Prop := scriptRowsRow.holds Tryd.pinned (OpenSpec.ofChange scriptRowsSpec)

/-- ITS FALSE NEIGHBOUR: 'it returns false'. Refute it at one input. -/
def scriptRowsWrong : ChangeSpec := { name := "scriptRows", fn := fun _ => fun
  | [d1, d2] => { results := [.lit (.bool false)], args := [d1, d2] }
  | _ => none }
def ScriptRowsWrongFalsely : Prop := scriptRowsRow.holds Tryd.pinned (OpenSpec.ofChange scriptRowsWrong)

/- THE SECOND FORM. 'bulk': how many values and letters a reading holds, each counted each time it is reached (what is shared counts as often as it is met; a slice's spare places count too). A statement '..UptoSaid' is the law's where the arguments, and the package variables that the reading takes, are together of bulk at most 1048576: NARROWER than '..Said'. Prove '..Said' where nothing that the law and all that it calls make is longer than what came in: it says more and counts as full. Else prove '..UptoSaid'. A law counts once. -/
mutual
def uptoBulk {H : Type} : DataW H → Nat
  | .lit (.string bytes) => bytes.length + 1
  | .lit _ => 1
  | .nil => 1
  | .ptr d => uptoBulk d + 1
  | .slice elems spare => uptoBulkAll elems + uptoBulkAll spare + 1
  | .agg parts => uptoBulkAll parts + 1
  | .iface _ d => uptoBulk d + 1
  | .map entries => uptoBulkEntries entries + 1
  | .held _ => 1
def uptoBulkAll {H : Type} : List (DataW H) → Nat
  | [] => 0
  | d :: r => uptoBulk d + uptoBulkAll r
def uptoBulkEntries {H : Type} : List (Lit × DataW H) → Nat
  | [] => 0
  | x :: r => uptoBulkEntry x + uptoBulkEntries r
def uptoBulkEntry {H : Type} : Lit × DataW H → Nat
  | (.string bytes, d) => bytes.length + uptoBulk d + 1
  | (_, d) => uptoBulk d + 1
 end
def uptoSmall : (H : Type) → List (DataW H) → Bool := fun _ ds => decide (uptoBulkAll ds ≤ 1048576)
def OpenSpec.upto (s : _root_.Go.ChangeSpec) : _root_.Go.OpenSpec := { _root_.Go.OpenSpec.ofChange s with cond := some uptoSmall }

/-- 'portagelaw13.Zips', WHERE WHAT IT READS IS OF BULK AT MOST 1048576: true; the input reads as it did. -/
def zipsUptoRow : OpenClaim := { program := "ytneogampbohfnaadoor", sum := "36b59b013495ec98ac324039031b0323c4179c8a5db84aedb044b5c805808670", func := "portage/portagelaw13.Zips", spec := "zips", inPlace := ["internal/bytealg.IndexByteString", "internal/bytealg.IndexString", "internal/abi.NoEscape"], unfollowed := true, recurses := true, named := ["unicode/utf8.first", "unicode/utf8.acceptRanges", "internal/bytealg.MaxLen"], apart := false, laid := [("unicode/utf8.acceptRanges", laid_unicode_utf8_acceptRanges), ("unicode/utf8.first", laid_unicode_utf8_first)], narrowed := true }
def ZipsUptoSaid : Prop := zipsUptoRow.holds Tryd.pinned (OpenSpec.upto zipsSpec)

/-- 'portagelaw13.ZipParts', WHERE WHAT IT READS IS OF BULK AT MOST 1048576: true; the input reads as it did. -/
def zipPartsUptoRow : OpenClaim := { program := "ytneogampbohfnaadoor", sum := "36b59b013495ec98ac324039031b0323c4179c8a5db84aedb044b5c805808670", func := "portage/portagelaw13.ZipParts", spec := "zipParts", inPlace := ["internal/bytealg.IndexByteString", "internal/bytealg.IndexString", "internal/abi.NoEscape"], unfollowed := true, recurses := true, named := ["unicode/utf8.first", "unicode/utf8.acceptRanges", "internal/bytealg.MaxLen"], apart := false, laid := [("unicode/utf8.acceptRanges", laid_unicode_utf8_acceptRanges), ("unicode/utf8.first", laid_unicode_utf8_first)], narrowed := true }
def ZipPartsUptoSaid : Prop := zipPartsUptoRow.holds Tryd.pinned (OpenSpec.upto zipPartsSpec)

/-- 'portagelaw13.ZipForms', WHERE WHAT IT READS IS OF BULK AT MOST 1048576: true; the input reads as it did. -/
def zipFormsUptoRow : OpenClaim := { program := "ytneogampbohfnaadoor", sum := "36b59b013495ec98ac324039031b0323c4179c8a5db84aedb044b5c805808670", func := "portage/portagelaw13.ZipForms", spec := "zipForms", inPlace := ["internal/bytealg.IndexByteString", "internal/bytealg.IndexString", "internal/abi.NoEscape"], unfollowed := true, recurses := true, named := ["unicode/utf8.first", "unicode/utf8.acceptRanges", "internal/bytealg.MaxLen"], apart := false, laid := [("unicode/utf8.acceptRanges", laid_unicode_utf8_acceptRanges), ("unicode/utf8.first", laid_unicode_utf8_first)], narrowed := true }
def ZipFormsUptoSaid : Prop := zipFormsUptoRow.holds Tryd.pinned (OpenSpec.upto zipFormsSpec)

/-- 'portagelaw13.ZipSizes', WHERE WHAT IT READS IS OF BULK AT MOST 1048576: true; the input reads as it did. -/
def zipSizesUptoRow : OpenClaim := { program := "ytneogampbohfnaadoor", sum := "36b59b013495ec98ac324039031b0323c4179c8a5db84aedb044b5c805808670", func := "portage/portagelaw13.ZipSizes", spec := "zipSizes", inPlace := ["internal/bytealg.IndexByteString", "internal/bytealg.IndexString", "internal/abi.NoEscape"], unfollowed := true, recurses := true, named := ["unicode/utf8.first", "unicode/utf8.acceptRanges", "internal/bytealg.MaxLen"], apart := false, laid := [("unicode/utf8.acceptRanges", laid_unicode_utf8_acceptRanges), ("unicode/utf8.first", laid_unicode_utf8_first)], narrowed := true }
def ZipSizesUptoSaid : Prop := zipSizesUptoRow.holds Tryd.pinned (OpenSpec.upto zipSizesSpec)

/-- 'portagelaw13.ZipUnlike', WHERE WHAT IT READS IS OF BULK AT MOST 1048576: true; the input reads as it did. -/
def zipUnlikeUptoRow : OpenClaim := { program := "ytneogampbohfnaadoor", sum := "36b59b013495ec98ac324039031b0323c4179c8a5db84aedb044b5c805808670", func := "portage/portagelaw13.ZipUnlike", spec := "zipUnlike", inPlace := ["internal/bytealg.IndexByteString", "internal/bytealg.IndexString", "internal/abi.NoEscape"], unfollowed := true, recurses := true, named := ["unicode/utf8.first", "unicode/utf8.acceptRanges", "internal/bytealg.MaxLen"], apart := false, laid := [("unicode/utf8.acceptRanges", laid_unicode_utf8_acceptRanges), ("unicode/utf8.first", laid_unicode_utf8_first)], narrowed := true }
def ZipUnlikeUptoSaid : Prop := zipUnlikeUptoRow.holds Tryd.pinned (OpenSpec.upto zipUnlikeSpec)

/-- 'portagelaw14.Unzips', WHERE WHAT IT READS IS OF BULK AT MOST 1048576: true; the input reads as it did. -/
def unzipsUptoRow : OpenClaim := { program := "ytneogampbohfnaadoor", sum := "36b59b013495ec98ac324039031b0323c4179c8a5db84aedb044b5c805808670", func := "portage/portagelaw14.Unzips", spec := "unzips", inPlace := ["internal/bytealg.IndexByteString", "internal/bytealg.IndexString", "internal/abi.NoEscape"], unfollowed := true, recurses := true, named := ["unicode/utf8.first", "unicode/utf8.acceptRanges", "internal/bytealg.MaxLen"], apart := false, laid := [("unicode/utf8.acceptRanges", laid_unicode_utf8_acceptRanges), ("unicode/utf8.first", laid_unicode_utf8_first)], narrowed := true }
def UnzipsUptoSaid : Prop := unzipsUptoRow.holds Tryd.pinned (OpenSpec.upto unzipsSpec)

/-- 'portagelaw14.UnzipBack', WHERE WHAT IT READS IS OF BULK AT MOST 1048576: true; the input reads as it did. -/
def unzipBackUptoRow : OpenClaim := { program := "ytneogampbohfnaadoor", sum := "36b59b013495ec98ac324039031b0323c4179c8a5db84aedb044b5c805808670", func := "portage/portagelaw14.UnzipBack", spec := "unzipBack", inPlace := ["internal/bytealg.IndexByteString", "internal/bytealg.IndexString", "internal/abi.NoEscape"], unfollowed := true, recurses := true, named := ["unicode/utf8.first", "unicode/utf8.acceptRanges", "internal/bytealg.MaxLen"], apart := false, laid := [("unicode/utf8.acceptRanges", laid_unicode_utf8_acceptRanges), ("unicode/utf8.first", laid_unicode_utf8_first)], narrowed := true }
def UnzipBackUptoSaid : Prop := unzipBackUptoRow.holds Tryd.pinned (OpenSpec.upto unzipBackSpec)

/-- 'portagelaw14.UnzipTurned', WHERE WHAT IT READS IS OF BULK AT MOST 1048576: true; the input reads as it did. -/
def unzipTurnedUptoRow : OpenClaim := { program := "ytneogampbohfnaadoor", sum := "36b59b013495ec98ac324039031b0323c4179c8a5db84aedb044b5c805808670", func := "portage/portagelaw14.UnzipTurned", spec := "unzipTurned", inPlace := ["internal/bytealg.IndexByteString", "internal/bytealg.IndexString", "internal/abi.NoEscape"], unfollowed := true, recurses := true, named := ["unicode/utf8.first", "unicode/utf8.acceptRanges", "internal/bytealg.MaxLen"], apart := false, laid := [("unicode/utf8.acceptRanges", laid_unicode_utf8_acceptRanges), ("unicode/utf8.first", laid_unicode_utf8_first)], narrowed := true }
def UnzipTurnedUptoSaid : Prop := unzipTurnedUptoRow.holds Tryd.pinned (OpenSpec.upto unzipTurnedSpec)

/-- 'portagelaw14.UnzipForms', WHERE WHAT IT READS IS OF BULK AT MOST 1048576: true; the input reads as it did. -/
def unzipFormsUptoRow : OpenClaim := { program := "ytneogampbohfnaadoor", sum := "36b59b013495ec98ac324039031b0323c4179c8a5db84aedb044b5c805808670", func := "portage/portagelaw14.UnzipForms", spec := "unzipForms", inPlace := ["internal/bytealg.IndexByteString", "internal/bytealg.IndexString", "internal/abi.NoEscape"], unfollowed := true, recurses := true, named := ["unicode/utf8.first", "unicode/utf8.acceptRanges", "internal/bytealg.MaxLen"], apart := false, laid := [("unicode/utf8.acceptRanges", laid_unicode_utf8_acceptRanges), ("unicode/utf8.first", laid_unicode_utf8_first)], narrowed := true }
def UnzipFormsUptoSaid : Prop := unzipFormsUptoRow.holds Tryd.pinned (OpenSpec.upto unzipFormsSpec)

/-- 'portagelaw24.Scripts', WHERE WHAT IT READS IS OF BULK AT MOST 1048576: true; the input reads as it did. -/
def scriptsUptoRow : OpenClaim := { program := "ytneogampbohfnaadoor", sum := "36b59b013495ec98ac324039031b0323c4179c8a5db84aedb044b5c805808670", func := "portage/portagelaw24.Scripts", spec := "scripts", inPlace := ["internal/abi.NoEscape", "internal/bytealg.IndexByteString", "internal/bytealg.IndexString"], unfollowed := true, recurses := true, named := ["internal/strconv.uint64pow10", "math/bits.deBruijn32tab", "math/bits.deBruijn64tab", "internal/bytealg.MaxLen", "strconv.ErrSyntax", "strconv.ErrRange"], apart := false, laid := [("math/bits.deBruijn32tab", laid_math_bits_deBruijn32tab), ("math/bits.deBruijn64tab", laid_math_bits_deBruijn64tab), ("internal/strconv.uint64pow10", laid_internal_strconv_uint64pow10), ("strconv.ErrRange", laid_strconv_ErrRange), ("strconv.ErrSyntax", laid_strconv_ErrSyntax)], narrowed := true }
def ScriptsUptoSaid : Prop := scriptsUptoRow.holds Tryd.pinned (OpenSpec.upto scriptsSpec)

/-- 'portagelaw24.ScriptBack', WHERE WHAT IT READS IS OF BULK AT MOST 1048576: true; the input reads as it did. -/
def scriptBackUptoRow : OpenClaim := { program := "ytneogampbohfnaadoor", sum := "36b59b013495ec98ac324039031b0323c4179c8a5db84aedb044b5c805808670", func := "portage/portagelaw24.ScriptBack", spec := "scriptBack", inPlace := ["internal/abi.NoEscape", "internal/bytealg.IndexByteString", "internal/bytealg.IndexString"], unfollowed := true, recurses := true, named := ["internal/strconv.uint64pow10", "math/bits.deBruijn32tab", "math/bits.deBruijn64tab", "internal/bytealg.MaxLen", "strconv.ErrSyntax", "strconv.ErrRange"], apart := false, laid := [("math/bits.deBruijn32tab", laid_math_bits_deBruijn32tab), ("math/bits.deBruijn64tab", laid_math_bits_deBruijn64tab), ("internal/strconv.uint64pow10", laid_internal_strconv_uint64pow10), ("strconv.ErrRange", laid_strconv_ErrRange), ("strconv.ErrSyntax", laid_strconv_ErrSyntax)], narrowed := true }
def ScriptBackUptoSaid : Prop := scriptBackUptoRow.holds Tryd.pinned (OpenSpec.upto scriptBackSpec)

/-- 'portagelaw24.ScriptForms', WHERE WHAT IT READS IS OF BULK AT MOST 1048576: true; the input reads as it did. -/
def scriptFormsUptoRow : OpenClaim := { program := "ytneogampbohfnaadoor", sum := "36b59b013495ec98ac324039031b0323c4179c8a5db84aedb044b5c805808670", func := "portage/portagelaw24.ScriptForms", spec := "scriptForms", inPlace := ["internal/abi.NoEscape", "internal/bytealg.IndexByteString", "internal/bytealg.IndexString"], unfollowed := true, recurses := true, named := ["internal/strconv.uint64pow10", "math/bits.deBruijn32tab", "math/bits.deBruijn64tab", "internal/bytealg.MaxLen", "strconv.ErrSyntax", "strconv.ErrRange"], apart := false, laid := [("math/bits.deBruijn32tab", laid_math_bits_deBruijn32tab), ("math/bits.deBruijn64tab", laid_math_bits_deBruijn64tab), ("internal/strconv.uint64pow10", laid_internal_strconv_uint64pow10), ("strconv.ErrRange", laid_strconv_ErrRange), ("strconv.ErrSyntax", laid_strconv_ErrSyntax)], narrowed := true }
def ScriptFormsUptoSaid : Prop := scriptFormsUptoRow.holds Tryd.pinned (OpenSpec.upto scriptFormsSpec)

/-- 'portagelaw24.ScriptRows', WHERE WHAT IT READS IS OF BULK AT MOST 1048576: true; the input reads as it did. -/
def scriptRowsUptoRow : OpenClaim := { program := "ytneogampbohfnaadoor", sum := "36b59b013495ec98ac324039031b0323c4179c8a5db84aedb044b5c805808670", func := "portage/portagelaw24.ScriptRows", spec := "scriptRows", inPlace := ["internal/abi.NoEscape", "internal/bytealg.IndexByteString", "internal/bytealg.IndexString"], unfollowed := true, recurses := true, named := ["internal/strconv.uint64pow10", "math/bits.deBruijn32tab", "math/bits.deBruijn64tab", "internal/bytealg.MaxLen", "strconv.ErrSyntax", "strconv.ErrRange"], apart := false, laid := [("math/bits.deBruijn32tab", laid_math_bits_deBruijn32tab), ("math/bits.deBruijn64tab", laid_math_bits_deBruijn64tab), ("internal/strconv.uint64pow10", laid_internal_strconv_uint64pow10), ("strconv.ErrRange", laid_strconv_ErrRange), ("strconv.ErrSyntax", laid_strconv_ErrSyntax)], narrowed := true }
def ScriptRowsUptoSaid : Prop := scriptRowsUptoRow.holds Tryd.pinned (OpenSpec.upto scriptRowsSpec)

end Rows
end Go.Proofs.YtneogampbohfnaaDoor
