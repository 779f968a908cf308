-- Written by a program of this session out of the translation (a changed copy of the kit's printer).
import Derived.Test.YtdccnjinehcenaaOpn
import Derived.Test.YtdccnjinehcenaaDD0
import Derived.Test.YtdccnjinehcenaaDD11
import Derived.KernelRfl
import Derived.WalkKit
namespace Go.Proofs.Ytdccnjinehcenaa.DD
open Go.ChangeShapes Go.WideShapes Go.RowKit Go.Proofs.YtdccnjinehcenaaW.PrintWords Go.Proofs.YtdccnjinehcenaaW.PrintLast Go.Proofs.YtdccnjinehcenaaW.PrintMore Go.Proofs.YtdccnjinehcenaaW.Opn
set_option linter.unusedVariables false
section
variable {H : Type} {enc : TypeId × Value → H} {W : World} {base : Nat} {spare : Nat → Bool} {held : Bool}
/-- The sizes of a value of type 42. -/
def Sz42 (x : S42) : Prop := (Lit.int .i64 x.f0).wf = true ∧ x.f1.size ≤ 140737488351232
set_option maxRecDepth 100000 in
theorem opens_s42 : Opens enc Try.prog W base spare held k42 Sz42 42 := by
  intro fuel cs x h hs
  have hL := (struct_len Try.underlying42 h).trans (show Try.prog.cellsOf 42 = 2 from by kernel_rfl)
  obtain ⟨c0, c1, rfl⟩ : ∃ c0 c1, cs = [c0, c1] := by
    match cs, hL with
    | [c0, c1], _ => exact ⟨c0, c1, rfl⟩
  obtain ⟨a0, K0, s0⟩ := fld Try.underlying42 h hs 0 _ rfl (opens_int Try.underlying3)
  obtain ⟨a1, K1, s1⟩ := fld Try.underlying42 h hs 1 _ rfl (opens_str Try.underlying9)
  have hc3 : Try.prog.cellsOf 3 = 1 := by kernel_rfl
  have hc9 : Try.prog.cellsOf 9 = 1 := by kernel_rfl
  replace K0 : (Kd.int .i64).K W a0 [c0] := by have z : (Kd.int .i64).K W a0 (List.take (Try.prog.cellsOf 3) (List.drop 0 [c0, c1])) := K0; rw [hc3] at z; exact z
  replace K1 : Kd.string.K W a1 [c1] := by have z : Kd.string.K W a1 (List.take (Try.prog.cellsOf 9) (List.drop 1 [c0, c1])) := K1; rw [hc9] at z; exact z
  exact ⟨⟨a0, a1⟩, ⟨[c0], [c1], rfl, K0, K1⟩, ⟨s0, s1⟩⟩
end
/-- THE ONE PURE STATEMENT of portagelaw17_Disks. -/
def portagelaw17_Disks.Pure : Prop := ∀ (a0 : Bool) (l1 : List ByteArray) (l2 : List (S42)) (a3 : Int) (a4 : Int), (l1.length * 16 ≤ 140737488351232 ∧ ∀ y ∈ l1, y.size ≤ 140737488351232) → (l2.length * 24 ≤ 140737488351232 ∧ ∀ y ∈ l2, Sz42 y) → (Lit.int .i64 a3).wf = true → (Lit.int .i64 a4).wf = true → ∃ k, portagelaw17_Disks.f k a0 l1 l2 a3 a4 = some true
end Go.Proofs.Ytdccnjinehcenaa.DD
