-- Written by a program of this session out of the translation (a changed copy of the kit's printer).
import Derived.Test.YtneogampbohfnaaDoorZP0
import Derived.Test.YtneogampbohfnaaDoorZipU
namespace Go.Proofs.YtneogampbohfnaaDoor.ZP
open Go.Proofs.YtneogampbohfnaaDoor.ZB (S39 z39 k39 k39_open k39_openM k39_mk k39_mkM rd_T39 at_T39)
open Go.RowKit Go.Proofs.YtneogampbohfnaaDoorW.PrintWords Go.Proofs.YtneogampbohfnaaDoorW.PrintLast Go.Proofs.YtneogampbohfnaaDoorW.PrintMore
attribute [local go_sem] max2_int min2_int max_two min_two max_three min_three max_four min_four   -- for this text's walks alone
set_option linter.unusedVariables false
set_option linter.unusedSimpArgs false

/-! ### zipput_May: function 22 -/
-- IMPORT Derived.Test.YtneogampbohfnaaDoorZipU
def zipput_May.f (l0_0 : List (S39)) : Option Bool := if l0_0.length ≤ 9223372036854775807 then some (ZipW.mayL l0_0) else none
theorem zipput_May.calls (A0_0 : Option Addr) (c0_0 : Nat) (l0_0 : List (S39)) (r : Bool) (w : World) (hr0_0 : Kd.C k39 w A0_0 l0_0.length l0_0) (hc0_0 : l0_0.length ≤ c0_0) (h : zipput_May.f l0_0 = some r) :
  Calls Tryd.prog 22 #[.agg #[.slice A0_0 l0_0.length c0_0]] w fun e w' => e = .returned (.bool r) ∧ Below w.heap.size w w' := by
 unfold zipput_May.f at h
 by_cases h1 : l0_0.length ≤ 9223372036854775807
 rotate_left
 ·rw [if_neg h1] at h
  exact absurd h (by simp)
 rw [if_pos h1] at h
 have h2 := Option.some.inj h
 subst h2
 exact ZipW.may_walk A0_0 c0_0 l0_0 w hr0_0 hc0_0 h1

-- NOT PRINTED: function 45 (zipput_size)

end Go.Proofs.YtneogampbohfnaaDoor.ZP
