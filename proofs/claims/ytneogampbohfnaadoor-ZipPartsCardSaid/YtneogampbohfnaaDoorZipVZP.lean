/- zipput.Size in the laws' words. -/
import Derived.Test.YtneogampbohfnaaDoorZipLZP
import Derived.Test.YtneogampbohfnaaDoorZP6
namespace Go.Proofs.YtneogampbohfnaaDoor.ZP
set_option linter.unusedVariables false
set_option linter.unusedSimpArgs false
open Go.RowKit Go.Proofs.YtneogampbohfnaaDoorW.PrintWords Go.Proofs.YtneogampbohfnaaDoorW.PrintLast Go.Proofs.YtneogampbohfnaaDoorW.PrintMore
open Go.Proofs.YtneogampbohfnaaDoor.ZB (S39 z39 k39 rd_T39)
theorem zsize {l : List S39} (h : l.length ≤ 9223372036854775807) : zipput_Size.f l = some (ZipW.sizeR l) := by unfold zipput_Size.f; rw [if_pos h]
theorem zsize_yes {l : List S39} (h : ZipW.mayL l = true) : ZipW.sizeR l = (ZipW.sizeL l : Int) := by unfold ZipW.sizeR; rw [if_pos h]
end Go.Proofs.YtneogampbohfnaaDoor.ZP
