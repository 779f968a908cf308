-- Written by a program of this session out of the translation (a changed copy of the kit's printer).
import Derived.Test.YtnjbbfcknijcnaaRows
import Derived.Test.YtnjbbfcknijcnaaUOExtraUnlike
import Derived.Test.YtnjbbfcknijcnaaPureExtraUnlike
import Derived.WalkKit
import Derived.ProofKit
import Derived.OpenShut
import Derived.ShutString
import Derived.ChangeOld
import Derived.Below
import Derived.SizedLaws
namespace Go.Proofs.Ytnjbbfcknijcnaa.extraUnlike
open Go.ChangeShapes Go.WideShapes Go.ChangeAt Go.RowKit Go.Proofs.YtnjbbfcknijcnaaW.Opn Go.Proofs.YtnjbbfcknijcnaaW.PrintWords Go.Proofs.Ytnjbbfcknijcnaa.U
open Go.ChangeMaps (open_string shut_string)
set_option linter.unusedVariables false
theorem own : ownKnob Try.prog.godebug = none := by kernel_rfl
theorem laidOut : laidOutB Try.prog = true := by kernel_rfl
set_option maxRecDepth 100000 in
theorem lifted (os : Os) (started : os.Started) (H : Type) (enc : TypeId × Value → H) :
    ReturnsInHanded {} Try.checked os 21 .any (Rows.extraUnlikeSpec.pre6 enc Try.prog Try.f21 Rows.extraUnlikeRow.domain false) (Rows.extraUnlikeSpec.post enc Try.prog Try.f21 false true false false) := by
  refine returnsInHanded_of_change_sized (C := Try.checked) own started (by kernel_rfl) Try.func21
    (ChangeSpec.witness6 (enc := enc) (C := Try.checked) false ⟨#[], #[.agg #[.string ByteArray.empty, .bool false, .slice none 0 0, .int .i64 0, .int .i64 0, .int .i64 0, .string ByteArray.empty, .int .i64 0, .int .i64 0], .agg #[.string ByteArray.empty, .bool false, .slice none 0 0, .int .i64 0, .int .i64 0, .int .i64 0, .string ByteArray.empty, .int .i64 0, .int .i64 0]], []⟩ 8 (by kernel_rfl) (by kernel_rfl) (by kernel_rfl) (by kernel_rfl)) ?_
  intro W base args ds gs before hval0 hW hcnd hsz0 _
  have hsz : (DataW.weightsEach Try.prog (Try.f21.params.toList ++ Rows.extraUnlikeSpec.plain.varTypes Try.prog) (ds ++ gs)).all (· ≤ reachBytes) = true := hsz0
  have hval : ∀ (j : Nat) t v, Try.f21.params[j]? = some t → args[j]? = some v → Value.okWide Try.prog W .any base t v := hval0
  have hW' := hW
  obtain ⟨p, q, hA0, hV, rfl, hfz, hnd⟩ := hW
  have hA : DataW.TrodAll enc Try.prog W 0 (fun _ => true) true Try.f21.params.toList args.toList ds p := hA0
  rw [Try.params21] at hA hval hsz
  obtain ⟨v0, vs0, d0, ds0, p0, q0, hargs, rfl, rfl, h0, r0⟩ := trodAll_cons hA
  obtain ⟨v1, vs1, d1, ds1, p1, q1, rfl, rfl, rfl, h1, r1⟩ := trodAll_cons r0
  obtain ⟨rfl, rfl, rfl⟩ := trodAll_nil r1
  obtain rfl : args = #[v0, v1] := by cases args; simp_all
  obtain ⟨rfl, rfl⟩ := trodVars_none hV
  obtain ⟨cs0, rfl, hq0⟩ := okWide_struct Try.underlying75 (hval 0 75 v0 rfl rfl)
  obtain ⟨e0⟩ := cs0
  have k0 := h0
  have lt0 : ∀ x ∈ p0, x.block < W.heap.size := by obtain ⟨m, hm⟩ := k0; exact DataW.trod_lt m _ _ _ hm
  obtain ⟨fu0, hf0⟩ := h0
  obtain ⟨x0, K0, S0⟩ := opens_s75 fu0 _ _ hf0 (fun n hn => by have z := List.all_eq_true.1 hsz _ (DataW.weights_mem_each (j := 0) (t := 75) rfl rfl n hn); simpa using z)
  have K0' : k75.K W x0 e0 := K0
  obtain ⟨A0_2, c0_2, rfl, hr0_2, hC0_2⟩ := k75_open K0'
  obtain ⟨cs1, rfl, hq1⟩ := okWide_struct Try.underlying75 (hval 1 75 v1 rfl rfl)
  obtain ⟨e1⟩ := cs1
  have k1 := h1
  have lt1 : ∀ x ∈ p1, x.block < W.heap.size := by obtain ⟨m, hm⟩ := k1; exact DataW.trod_lt m _ _ _ hm
  obtain ⟨fu1, hf1⟩ := h1
  obtain ⟨x1, K1, S1⟩ := opens_s75 fu1 _ _ hf1 (fun n hn => by have z := List.all_eq_true.1 hsz _ (DataW.weights_mem_each (j := 1) (t := 75) rfl rfl n hn); simpa using z)
  have K1' : k75.K W x1 e1 := K1
  obtain ⟨A1_2, c1_2, rfl, hr1_2, hC1_2⟩ := k75_open K1'
  clear hA0 hval0 hsz0 hsz
  obtain ⟨k, hk⟩ := Pure.ExtraUnlike x0.f0 x0.f1 x0.f2 x0.f3 x0.f4 x0.f5 x0.f6 x0.f7 x0.f8 x1.f0 x1.f1 x1.f2 x1.f3 x1.f4 x1.f5 x1.f6 x1.f7 x1.f8 S0 S1
  refine (portagelaw12_ExtraUnlike.calls k x0.f0 x0.f1 _ _ x0.f2 x0.f3 x0.f4 x0.f5 x0.f6 x0.f7 x0.f8 x1.f0 x1.f1 _ _ x1.f2 x1.f3 x1.f4 x1.f5 x1.f6 x1.f7 x1.f8 true W hC0_2 hr0_2 hC1_2 hr1_2 hk).mono fun e W' he => ?_
  obtain ⟨he, bel⟩ := he
  subst he
  exact ⟨_, rfl, _, _, _, [], _, [], hW', trodAll_mk1 (shut_bool Try.underlying4 _), (trodAll_cons_mk (Below.trod laidOut (by kernel_rfl) (of_decide_eq_true (by kernel_rfl)) k0 bel lt0) (trodAll_cons_mk (Below.trod laidOut (by kernel_rfl) (of_decide_eq_true (by kernel_rfl)) k1 bel lt1) trodAll_mk0)), rfl, bel.frame _, fun h => by cases h⟩
theorem over : Rows.extraUnlikeRow.holds Try.pinned (OpenSpec.ofChange Rows.extraUnlikeSpec) :=
  OpenClaim.holds_of_wide 21 Try.f21 rfl rfl rfl rfl rfl rfl rfl ⟨rfl, rfl, rfl, rfl, rfl⟩ rfl rfl rfl rfl rfl (by kernel_rfl) Try.func21 (by kernel_rfl)
    (of_decide_eq_true (by kernel_rfl)) (by unfold Func.isWrapper; first | (rw [if_pos (by decide +kernel)]; kernel_rfl) | (rw [if_neg (by decide +kernel)]; exact ⟨rfl, rfl⟩))
    (fun os started H enc _ => lifted os started H enc)
theorem proved : Rows.ExtraUnlikeSaid := over
#print axioms proved
end Go.Proofs.Ytnjbbfcknijcnaa.extraUnlike
namespace Go.Proofs.Ytnjbbfcknijcnaa
/-- The row, under a short name, for the claim. -/
theorem extraUnlike_holds : Rows.ExtraUnlikeSaid := extraUnlike.proved
end Go.Proofs.Ytnjbbfcknijcnaa
