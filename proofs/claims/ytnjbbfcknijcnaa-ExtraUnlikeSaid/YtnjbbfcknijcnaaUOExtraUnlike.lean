-- Written by a program of this session out of the translation (a changed copy of the kit's printer).
import Derived.Test.YtnjbbfcknijcnaaOpn
import Derived.Test.YtnjbbfcknijcnaaU0
import Derived.Test.YtnjbbfcknijcnaaU7
import Derived.KernelRfl
import Derived.WalkKit
namespace Go.Proofs.Ytnjbbfcknijcnaa.U
open Go.ChangeShapes Go.WideShapes Go.RowKit Go.Proofs.YtnjbbfcknijcnaaW.PrintWords Go.Proofs.YtnjbbfcknijcnaaW.PrintLast Go.Proofs.YtnjbbfcknijcnaaW.PrintMore Go.Proofs.YtnjbbfcknijcnaaW.Opn
set_option linter.unusedVariables false
section
variable {H : Type} {enc : TypeId × Value → H} {W : World} {base : Nat} {spare : Nat → Bool} {held : Bool}
/-- The sizes of a value of type 75. -/
def Sz75 (x : S75) : Prop := x.f0.size ≤ 140737488351232 ∧ True ∧ (x.f2.length * 8 ≤ 140737488351232 ∧ ∀ y ∈ x.f2, (Lit.int .i64 y).wf = true) ∧ (Lit.int .i64 x.f3).wf = true ∧ (Lit.int .i64 x.f4).wf = true ∧ (Lit.int .i64 x.f5).wf = true ∧ x.f6.size ≤ 140737488351232 ∧ (Lit.int .i64 x.f7).wf = true ∧ (Lit.int .i64 x.f8).wf = true
set_option maxRecDepth 100000 in
theorem opens_s75 : Opens enc Try.prog W base spare held k75 Sz75 75 := by
  intro fuel cs x h hs
  have hL := (struct_len Try.underlying75 h).trans (show Try.prog.cellsOf 75 = 9 from by kernel_rfl)
  obtain ⟨c0, c1, c2, c3, c4, c5, c6, c7, c8, rfl⟩ : ∃ c0 c1 c2 c3 c4 c5 c6 c7 c8, cs = [c0, c1, c2, c3, c4, c5, c6, c7, c8] := by
    match cs, hL with
    | [c0, c1, c2, c3, c4, c5, c6, c7, c8], _ => exact ⟨c0, c1, c2, c3, c4, c5, c6, c7, c8, rfl⟩
  obtain ⟨a0, K0, s0⟩ := fld Try.underlying75 h hs 0 _ rfl (opens_str Try.underlying9)
  obtain ⟨a1, K1, s1⟩ := fld Try.underlying75 h hs 1 _ rfl (opens_bool Try.underlying4)
  obtain ⟨a2, K2, s2⟩ := fld Try.underlying75 h hs 2 _ rfl (opens_slice (B := 8) Try.underlying33 (by kernel_rfl) (by kernel_rfl) (opens_int Try.underlying3))
  obtain ⟨a3, K3, s3⟩ := fld Try.underlying75 h hs 3 _ rfl (opens_int Try.underlying3)
  obtain ⟨a4, K4, s4⟩ := fld Try.underlying75 h hs 4 _ rfl (opens_int Try.underlying3)
  obtain ⟨a5, K5, s5⟩ := fld Try.underlying75 h hs 5 _ rfl (opens_int Try.underlying3)
  obtain ⟨a6, K6, s6⟩ := fld Try.underlying75 h hs 6 _ rfl (opens_str Try.underlying9)
  obtain ⟨a7, K7, s7⟩ := fld Try.underlying75 h hs 7 _ rfl (opens_int Try.underlying3)
  obtain ⟨a8, K8, s8⟩ := fld Try.underlying75 h hs 8 _ rfl (opens_int Try.underlying3)
  have hc3 : Try.prog.cellsOf 3 = 1 := by kernel_rfl
  have hc4 : Try.prog.cellsOf 4 = 1 := by kernel_rfl
  have hc9 : Try.prog.cellsOf 9 = 1 := by kernel_rfl
  have hc33 : Try.prog.cellsOf 33 = 1 := by kernel_rfl
  replace K0 : Kd.string.K W a0 [c0] := by have z : Kd.string.K W a0 (List.take (Try.prog.cellsOf 9) (List.drop 0 [c0, c1, c2, c3, c4, c5, c6, c7, c8])) := K0; rw [hc9] at z; exact z
  replace K1 : Kd.bool.K W a1 [c1] := by have z : Kd.bool.K W a1 (List.take (Try.prog.cellsOf 4) (List.drop 1 [c0, c1, c2, c3, c4, c5, c6, c7, c8])) := K1; rw [hc4] at z; exact z
  replace K2 : (Kd.slice 3 (Kd.int .i64)).K W a2 [c2] := by have z : (Kd.slice 3 (Kd.int .i64)).K W a2 (List.take (Try.prog.cellsOf 33) (List.drop 2 [c0, c1, c2, c3, c4, c5, c6, c7, c8])) := K2; rw [hc33] at z; exact z
  replace K3 : (Kd.int .i64).K W a3 [c3] := by have z : (Kd.int .i64).K W a3 (List.take (Try.prog.cellsOf 3) (List.drop 3 [c0, c1, c2, c3, c4, c5, c6, c7, c8])) := K3; rw [hc3] at z; exact z
  replace K4 : (Kd.int .i64).K W a4 [c4] := by have z : (Kd.int .i64).K W a4 (List.take (Try.prog.cellsOf 3) (List.drop 4 [c0, c1, c2, c3, c4, c5, c6, c7, c8])) := K4; rw [hc3] at z; exact z
  replace K5 : (Kd.int .i64).K W a5 [c5] := by have z : (Kd.int .i64).K W a5 (List.take (Try.prog.cellsOf 3) (List.drop 5 [c0, c1, c2, c3, c4, c5, c6, c7, c8])) := K5; rw [hc3] at z; exact z
  replace K6 : Kd.string.K W a6 [c6] := by have z : Kd.string.K W a6 (List.take (Try.prog.cellsOf 9) (List.drop 6 [c0, c1, c2, c3, c4, c5, c6, c7, c8])) := K6; rw [hc9] at z; exact z
  replace K7 : (Kd.int .i64).K W a7 [c7] := by have z : (Kd.int .i64).K W a7 (List.take (Try.prog.cellsOf 3) (List.drop 7 [c0, c1, c2, c3, c4, c5, c6, c7, c8])) := K7; rw [hc3] at z; exact z
  replace K8 : (Kd.int .i64).K W a8 [c8] := by have z : (Kd.int .i64).K W a8 (List.take (Try.prog.cellsOf 3) (List.drop 8 [c0, c1, c2, c3, c4, c5, c6, c7, c8])) := K8; rw [hc3] at z; exact z
  exact ⟨⟨a0, a1, a2, a3, a4, a5, a6, a7, a8⟩, ⟨[c0], [c1, c2, c3, c4, c5, c6, c7, c8], rfl, K0, ⟨[c1], [c2, c3, c4, c5, c6, c7, c8], rfl, K1, ⟨[c2], [c3, c4, c5, c6, c7, c8], rfl, K2, ⟨[c3], [c4, c5, c6, c7, c8], rfl, K3, ⟨[c4], [c5, c6, c7, c8], rfl, K4, ⟨[c5], [c6, c7, c8], rfl, K5, ⟨[c6], [c7, c8], rfl, K6, ⟨[c7], [c8], rfl, K7, K8⟩⟩⟩⟩⟩⟩⟩⟩, ⟨s0, s1, s2, s3, s4, s5, s6, s7, s8⟩⟩
end
/-- THE ONE PURE STATEMENT of portagelaw12_ExtraUnlike. -/
def portagelaw12_ExtraUnlike.Pure : Prop := ∀ (a0_0 : ByteArray) (a0_1 : Bool) (l0_2 : List Int) (a0_3 : Int) (a0_4 : Int) (a0_5 : Int) (a0_6 : ByteArray) (a0_7 : Int) (a0_8 : Int) (a1_0 : ByteArray) (a1_1 : Bool) (l1_2 : List Int) (a1_3 : Int) (a1_4 : Int) (a1_5 : Int) (a1_6 : ByteArray) (a1_7 : Int) (a1_8 : Int), Sz75 (⟨a0_0, a0_1, l0_2, a0_3, a0_4, a0_5, a0_6, a0_7, a0_8⟩ : S75) → Sz75 (⟨a1_0, a1_1, l1_2, a1_3, a1_4, a1_5, a1_6, a1_7, a1_8⟩ : S75) → ∃ k, portagelaw12_ExtraUnlike.f k a0_0 a0_1 l0_2 a0_3 a0_4 a0_5 a0_6 a0_7 a0_8 a1_0 a1_1 l1_2 a1_3 a1_4 a1_5 a1_6 a1_7 a1_8 = some true
end Go.Proofs.Ytnjbbfcknijcnaa.U
