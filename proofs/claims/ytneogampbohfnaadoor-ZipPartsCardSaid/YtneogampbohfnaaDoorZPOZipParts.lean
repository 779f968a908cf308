-- Written by a program of this session out of the translation (a changed copy of the kit's printer).
import Derived.Test.YtneogampbohfnaaDoorOpn
import Derived.Test.YtneogampbohfnaaDoorZP0
import Derived.Test.YtneogampbohfnaaDoorZP8
import Derived.KernelRfl
import Derived.WalkKit
namespace Go.Proofs.YtneogampbohfnaaDoor.ZP
open Go.Proofs.YtneogampbohfnaaDoor.ZB (S39 z39 k39 k39_open k39_openM k39_mk k39_mkM rd_T39 at_T39)
open Go.ChangeShapes Go.WideShapes Go.RowKit Go.Proofs.YtneogampbohfnaaDoorW.PrintWords Go.Proofs.YtneogampbohfnaaDoorW.PrintLast Go.Proofs.YtneogampbohfnaaDoorW.PrintMore Go.Proofs.YtneogampbohfnaaDoorW.Opn
set_option linter.unusedVariables false
section
variable {H : Type} {enc : TypeId × Value → H} {W : World} {base : Nat} {spare : Nat → Bool} {held : Bool}
/-- The sizes of a value of type 39. -/
def Sz39 (x : S39) : Prop := x.f0.size ≤ 140737488351232 ∧ True ∧ (x.f2.length * 8 ≤ 140737488351232 ∧ ∀ y ∈ x.f2, (Lit.int .i64 y).wf = true) ∧ (Lit.int .i64 x.f3).wf = true ∧ (Lit.int .i64 x.f4).wf = true ∧ (Lit.int .i64 x.f5).wf = true ∧ x.f6.size ≤ 140737488351232 ∧ (Lit.int .i64 x.f7).wf = true ∧ (Lit.int .i64 x.f8).wf = true
set_option maxRecDepth 100000 in
theorem opens_s39 : Opens enc Tryd.prog W base spare held k39 Sz39 39 := by
  intro fuel cs x h hs
  have hL := (struct_len Tryd.underlying39 h).trans (show Tryd.prog.cellsOf 39 = 9 from by kernel_rfl)
  obtain ⟨c0, c1, c2, c3, c4, c5, c6, c7, c8, rfl⟩ : ∃ c0 c1 c2 c3 c4 c5 c6 c7 c8, cs = [c0, c1, c2, c3, c4, c5, c6, c7, c8] := by
    match cs, hL with
    | [c0, c1, c2, c3, c4, c5, c6, c7, c8], _ => exact ⟨c0, c1, c2, c3, c4, c5, c6, c7, c8, rfl⟩
  obtain ⟨a0, K0, s0⟩ := fld Tryd.underlying39 h hs 0 _ rfl (opens_str Tryd.underlying9)
  obtain ⟨a1, K1, s1⟩ := fld Tryd.underlying39 h hs 1 _ rfl (opens_bool Tryd.underlying4)
  obtain ⟨a2, K2, s2⟩ := fld Tryd.underlying39 h hs 2 _ rfl (opens_slice (B := 8) Tryd.underlying37 (by kernel_rfl) (by kernel_rfl) (opens_int Tryd.underlying3))
  obtain ⟨a3, K3, s3⟩ := fld Tryd.underlying39 h hs 3 _ rfl (opens_int Tryd.underlying3)
  obtain ⟨a4, K4, s4⟩ := fld Tryd.underlying39 h hs 4 _ rfl (opens_int Tryd.underlying3)
  obtain ⟨a5, K5, s5⟩ := fld Tryd.underlying39 h hs 5 _ rfl (opens_int Tryd.underlying3)
  obtain ⟨a6, K6, s6⟩ := fld Tryd.underlying39 h hs 6 _ rfl (opens_str Tryd.underlying9)
  obtain ⟨a7, K7, s7⟩ := fld Tryd.underlying39 h hs 7 _ rfl (opens_int Tryd.underlying3)
  obtain ⟨a8, K8, s8⟩ := fld Tryd.underlying39 h hs 8 _ rfl (opens_int Tryd.underlying3)
  have hc3 : Tryd.prog.cellsOf 3 = 1 := by kernel_rfl
  have hc4 : Tryd.prog.cellsOf 4 = 1 := by kernel_rfl
  have hc9 : Tryd.prog.cellsOf 9 = 1 := by kernel_rfl
  have hc37 : Tryd.prog.cellsOf 37 = 1 := by kernel_rfl
  replace K0 : Kd.string.K W a0 [c0] := by have z : Kd.string.K W a0 (List.take (Tryd.prog.cellsOf 9) (List.drop 0 [c0, c1, c2, c3, c4, c5, c6, c7, c8])) := K0; rw [hc9] at z; exact z
  replace K1 : Kd.bool.K W a1 [c1] := by have z : Kd.bool.K W a1 (List.take (Tryd.prog.cellsOf 4) (List.drop 1 [c0, c1, c2, c3, c4, c5, c6, c7, c8])) := K1; rw [hc4] at z; exact z
  replace K2 : (Kd.slice 3 (Kd.int .i64)).K W a2 [c2] := by have z : (Kd.slice 3 (Kd.int .i64)).K W a2 (List.take (Tryd.prog.cellsOf 37) (List.drop 2 [c0, c1, c2, c3, c4, c5, c6, c7, c8])) := K2; rw [hc37] at z; exact z
  replace K3 : (Kd.int .i64).K W a3 [c3] := by have z : (Kd.int .i64).K W a3 (List.take (Tryd.prog.cellsOf 3) (List.drop 3 [c0, c1, c2, c3, c4, c5, c6, c7, c8])) := K3; rw [hc3] at z; exact z
  replace K4 : (Kd.int .i64).K W a4 [c4] := by have z : (Kd.int .i64).K W a4 (List.take (Tryd.prog.cellsOf 3) (List.drop 4 [c0, c1, c2, c3, c4, c5, c6, c7, c8])) := K4; rw [hc3] at z; exact z
  replace K5 : (Kd.int .i64).K W a5 [c5] := by have z : (Kd.int .i64).K W a5 (List.take (Tryd.prog.cellsOf 3) (List.drop 5 [c0, c1, c2, c3, c4, c5, c6, c7, c8])) := K5; rw [hc3] at z; exact z
  replace K6 : Kd.string.K W a6 [c6] := by have z : Kd.string.K W a6 (List.take (Tryd.prog.cellsOf 9) (List.drop 6 [c0, c1, c2, c3, c4, c5, c6, c7, c8])) := K6; rw [hc9] at z; exact z
  replace K7 : (Kd.int .i64).K W a7 [c7] := by have z : (Kd.int .i64).K W a7 (List.take (Tryd.prog.cellsOf 3) (List.drop 7 [c0, c1, c2, c3, c4, c5, c6, c7, c8])) := K7; rw [hc3] at z; exact z
  replace K8 : (Kd.int .i64).K W a8 [c8] := by have z : (Kd.int .i64).K W a8 (List.take (Tryd.prog.cellsOf 3) (List.drop 8 [c0, c1, c2, c3, c4, c5, c6, c7, c8])) := K8; rw [hc3] at z; exact z
  exact ⟨⟨a0, a1, a2, a3, a4, a5, a6, a7, a8⟩, ⟨[c0], [c1, c2, c3, c4, c5, c6, c7, c8], rfl, K0, ⟨[c1], [c2, c3, c4, c5, c6, c7, c8], rfl, K1, ⟨[c2], [c3, c4, c5, c6, c7, c8], rfl, K2, ⟨[c3], [c4, c5, c6, c7, c8], rfl, K3, ⟨[c4], [c5, c6, c7, c8], rfl, K4, ⟨[c5], [c6, c7, c8], rfl, K5, ⟨[c6], [c7, c8], rfl, K6, ⟨[c7], [c8], rfl, K7, K8⟩⟩⟩⟩⟩⟩⟩⟩, ⟨s0, s1, s2, s3, s4, s5, s6, s7, s8⟩⟩
/-- The sizes of a value of type 24. -/
def Sz24 (x : S24) : Prop := (x.f0.length * 104 ≤ 140737488351232 ∧ ∀ y ∈ x.f0, Sz39 y)
set_option maxRecDepth 100000 in
theorem opens_s24 : Opens enc Tryd.prog W base spare held k24 Sz24 24 := by
  intro fuel cs x h hs
  have hL := (struct_len Tryd.underlying24 h).trans (show Tryd.prog.cellsOf 24 = 1 from by kernel_rfl)
  obtain ⟨c0, rfl⟩ : ∃ c0, cs = [c0] := by
    match cs, hL with
    | [c0], _ => exact ⟨c0, rfl⟩
  obtain ⟨a0, K0, s0⟩ := fld Tryd.underlying24 h hs 0 _ rfl (opens_slice (B := 104) Tryd.underlying22 (by kernel_rfl) (by kernel_rfl) opens_s39)
  have hc22 : Tryd.prog.cellsOf 22 = 1 := by kernel_rfl
  replace K0 : (Kd.slice 39 k39).K W a0 [c0] := by have z : (Kd.slice 39 k39).K W a0 (List.take (Tryd.prog.cellsOf 22) (List.drop 0 [c0])) := K0; rw [hc22] at z; exact z
  exact ⟨⟨a0⟩, K0, s0⟩
end
/-- THE ONE PURE STATEMENT of portagelaw13_ZipParts. -/
def portagelaw13_ZipParts.Pure : Prop := ∀ (l0_0 : List (S39)), Sz24 (⟨l0_0⟩ : S24) → ∃ k, portagelaw13_ZipParts.f k l0_0 = some true
end Go.Proofs.YtneogampbohfnaaDoor.ZP
