/- The law PortageNames over the printed functions: every error, limit and kind is the document's, by computation; no conditions. -/
import Derived.Test.YtnjbbfcknijcnaaPPortageNamesx1
namespace Go.Proofs.Ytnjbbfcknijcnaa.Pure
open Go.RowKit Go.Proofs.Ytnjbbfcknijcnaa.PPortageNames Go.Proofs.YtnjbbfcknijcnaaW.PrintWords Go.Proofs.YtnjbbfcknijcnaaW.PrintLast

/-- YOURS: portagelaw0_PortageNames.f  = some true
What it reaches (each with k first where it has rounds; `.mono`: more rounds tell the same; `.l0`, ..: its loops, with `.mono_l`): portagelaw0_Num.f, portagelaw0_errors1.f, portagelaw0_errors2.f, portagelaw0_errors3.f, portagelaw0_numbers1.f, portagelaw0_numbers2.f, portagelaw0_numbers3.f, portagelaw0_PortageNames.f -/
theorem PortageNames : portagelaw0_PortageNames.Pure := by
  rfl

end Go.Proofs.Ytnjbbfcknijcnaa.Pure
