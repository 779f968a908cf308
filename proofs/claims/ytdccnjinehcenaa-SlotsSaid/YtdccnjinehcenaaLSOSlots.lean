-- Written by a program of this session out of the translation (a changed copy of the kit's printer).
import Derived.Test.YtdccnjinehcenaaOpn
import Derived.Test.YtdccnjinehcenaaLS0
import Derived.Test.YtdccnjinehcenaaLS13
import Derived.KernelRfl
import Derived.WalkKit
namespace Go.Proofs.Ytdccnjinehcenaa.LS
open Go.ChangeShapes Go.WideShapes Go.RowKit Go.Proofs.YtdccnjinehcenaaW.PrintWords Go.Proofs.YtdccnjinehcenaaW.PrintLast Go.Proofs.YtdccnjinehcenaaW.PrintMore Go.Proofs.YtdccnjinehcenaaW.Opn
set_option linter.unusedVariables false
section
variable {H : Type} {enc : TypeId × Value → H} {W : World} {base : Nat} {spare : Nat → Bool} {held : Bool}
end
/-- THE ONE PURE STATEMENT of portagelaw18_Slots. -/
def portagelaw18_Slots.Pure : Prop := ∀ (a0 : Int) (a1 : ByteArray) (a2 : Bool) (l3 : List ByteArray), (Lit.int .i64 a0).wf = true → a1.size ≤ 140737488351232 → (l3.length * 16 ≤ 140737488351232 ∧ ∀ y ∈ l3, y.size ≤ 140737488351232) → ∃ k, portagelaw18_Slots.f k a0 a1 a2 l3 = some true
end Go.Proofs.Ytdccnjinehcenaa.LS
