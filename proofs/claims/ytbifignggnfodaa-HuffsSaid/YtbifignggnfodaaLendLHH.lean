/- Slices of whole numbers, lent and kept. -/
import Derived.Test.YtbifignggnfodaaSameNHH
import Derived.Test.YtbifignggnfodaaHH2
import Derived.Test.YtbifignggnfodaaHH7
namespace Go.Proofs.Ytbifignggnfodaa.HH
set_option linter.unusedVariables false
set_option linter.unusedSimpArgs false
open Go.RowKit Go.Proofs.YtbifignggnfodaaW.PrintWords Go.Proofs.YtbifignggnfodaaW.PrintLast Go.Proofs.YtbifignggnfodaaW.PrintMore
theorem lend_k (l : List Int) (hl : l.length + 2 < 17592186044416) : portagelaw0_LendInts.f l = some (l, l ++ [-7777, -8888]) := by
  unfold portagelaw0_LendInts.f portagelaw0_CopyInts.f
  rw [Option.bind_some, if_pos (by simp; omega), Option.bind_some, Option.bind_some, if_pos (by simp; omega), Option.bind_some, if_pos (by omega), if_pos (by simp; omega)]
  simp
theorem kept_k (l : List Int) (hl : l.length ≤ 2305843009213693952) {k : Nat} (hk : l.length + 1 ≤ k) : portagelaw0_KeptInts.f k l (l ++ [-7777, -8888]) l = some true := by
  unfold portagelaw0_KeptInts.f
  have e : wrap64 ((l.length : Int) + 2) = ((l.length + 2 : Nat) : Int) := by unfold wrap64; omega
  have e1 : wrap64 ((l.length : Int) + 1) = ((l.length + 1 : Nat) : Int) := by unfold wrap64; omega
  have ht : (l ++ [-7777, -8888]).take (l.length + 2) = l ++ [-7777, -8888] := List.take_of_length_le (by simp)
  have hl2 : (l ++ [-7777, -8888] : List Int).length = l.length + 2 := by simp
  rw [e, if_pos (by omega), if_pos (by omega), show (((l.length + 2 : Nat) : Int)).toNat = l.length + 2 from by omega, ht, Option.bind_some, same_k l l (by omega) hk, decide_eq_true rfl, Option.bind_some, if_pos rfl, if_pos (by omega), if_pos (by omega)]
  have r1 : rd (l ++ [-7777, -8888]) (l.length : Int) = -7777 := by
    unfold rd; rw [show ((l.length : Int)).toNat = l.length from by omega, List.getD_eq_getElem?_getD, List.getElem?_append_right (by omega), Nat.sub_self]; rfl
  have r2 : rd (l ++ [-7777, -8888]) ((l.length + 1 : Nat) : Int) = -8888 := by
    unfold rd; rw [show (((l.length + 1 : Nat) : Int)).toNat = l.length + 1 from by omega, List.getD_eq_getElem?_getD, List.getElem?_append_right (by omega), show l.length + 1 - l.length = 1 from by omega]; rfl
  rw [r1, if_pos rfl, e1, if_pos (by omega), if_pos (by omega), r2]
  rfl
end Go.Proofs.Ytbifignggnfodaa.HH
