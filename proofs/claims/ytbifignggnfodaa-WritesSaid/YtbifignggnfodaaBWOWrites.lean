-- Written by a program of this session out of the translation (a changed copy of the kit's printer).
import Derived.Test.YtbifignggnfodaaOpn
import Derived.Test.YtbifignggnfodaaBW0
import Derived.Test.YtbifignggnfodaaBW11
import Derived.KernelRfl
import Derived.WalkKit
namespace Go.Proofs.Ytbifignggnfodaa.BW
open Go.ChangeShapes Go.WideShapes Go.RowKit Go.Proofs.YtbifignggnfodaaW.PrintWords Go.Proofs.YtbifignggnfodaaW.PrintLast Go.Proofs.YtbifignggnfodaaW.PrintMore Go.Proofs.YtbifignggnfodaaW.Opn
set_option linter.unusedVariables false
section
variable {H : Type} {enc : TypeId × Value → H} {W : World} {base : Nat} {spare : Nat → Bool} {held : Bool}
/-- The sizes of a value of type 58. -/
def Sz58 (x : S58) : Prop := (Lit.int .i64 x.f0).wf = true ∧ (Lit.int .i64 x.f1).wf = true ∧ (Lit.int .i64 x.f2).wf = true
set_option maxRecDepth 100000 in
theorem opens_s58 : Opens enc Try.prog W base spare held k58 Sz58 58 := by
  intro fuel cs x h hs
  have hL := (struct_len Try.underlying58 h).trans (show Try.prog.cellsOf 58 = 3 from by kernel_rfl)
  obtain ⟨c0, c1, c2, rfl⟩ : ∃ c0 c1 c2, cs = [c0, c1, c2] := by
    match cs, hL with
    | [c0, c1, c2], _ => exact ⟨c0, c1, c2, rfl⟩
  obtain ⟨a0, K0, s0⟩ := fld Try.underlying58 h hs 0 _ rfl (opens_int Try.underlying3)
  obtain ⟨a1, K1, s1⟩ := fld Try.underlying58 h hs 1 _ rfl (opens_int Try.underlying3)
  obtain ⟨a2, K2, s2⟩ := fld Try.underlying58 h hs 2 _ rfl (opens_int Try.underlying3)
  have hc3 : Try.prog.cellsOf 3 = 1 := by kernel_rfl
  replace K0 : (Kd.int .i64).K W a0 [c0] := by have z : (Kd.int .i64).K W a0 (List.take (Try.prog.cellsOf 3) (List.drop 0 [c0, c1, c2])) := K0; rw [hc3] at z; exact z
  replace K1 : (Kd.int .i64).K W a1 [c1] := by have z : (Kd.int .i64).K W a1 (List.take (Try.prog.cellsOf 3) (List.drop 1 [c0, c1, c2])) := K1; rw [hc3] at z; exact z
  replace K2 : (Kd.int .i64).K W a2 [c2] := by have z : (Kd.int .i64).K W a2 (List.take (Try.prog.cellsOf 3) (List.drop 2 [c0, c1, c2])) := K2; rw [hc3] at z; exact z
  exact ⟨⟨a0, a1, a2⟩, ⟨[c0], [c1, c2], rfl, K0, ⟨[c1], [c2], rfl, K1, K2⟩⟩, ⟨s0, s1, s2⟩⟩
end
/-- THE ONE PURE STATEMENT of portagelaw1_Writes. -/
def portagelaw1_Writes.Pure : Prop := ∀ (l0 : List (S58)) (a1 : ByteArray) (l2 : List Int), (l0.length * 24 ≤ 140737488351232 ∧ ∀ y ∈ l0, Sz58 y) → a1.size ≤ 140737488351232 → (l2.length * 8 ≤ 140737488351232 ∧ ∀ y ∈ l2, (Lit.int .i64 y).wf = true) → ∃ k, portagelaw1_Writes.f k l0 a1 l2 = some true
end Go.Proofs.Ytbifignggnfodaa.BW
