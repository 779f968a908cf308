-- Written by a program of this session out of the translation (a changed copy of the kit's printer).
import Derived.Test.YtbifignggnfodaaHF0
import Derived.Test.YtbifignggnfodaaHF4
namespace Go.Proofs.Ytbifignggnfodaa.HF
open Go.RowKit Go.Proofs.YtbifignggnfodaaW.PrintWords Go.Proofs.YtbifignggnfodaaW.PrintLast Go.Proofs.YtbifignggnfodaaW.PrintMore
attribute [local go_sem] max2_int min2_int max_two min_two max_three min_three max_four min_four   -- for this text's walks alone
set_option linter.unusedVariables false
set_option linter.unusedSimpArgs false

/-! ### portagelaw3_HuffForms: function 5 -/
def portagelaw3_HuffForms.f (k : Nat) (a0 : Int) (a1 : Int) : Option (Bool) := (portagelaw3_awake.f k).bind fun t141 => (if t141 = true then (if 0 ≤ (wrap64 (288 + (wrap64 (1 + (Go.bits .and .i64 a1 1023))))) then (if (wrap64 (288 + (wrap64 (1 + (Go.bits .and .i64 a1 1023)))) : Int).toNat ≤ 35184372088832 then ((some (([[], (([wrap64 (-(wrap64 (1 + (Go.bits .and .i64 a1 1023))))] : List Int)), (([wrap64 (15 + (wrap64 (1 + (Go.bits .and .i64 a1 1023))))] : List Int)), (List.replicate (wrap64 (288 + (wrap64 (1 + (Go.bits .and .i64 a1 1023)))) : Int).toNat 0), (([1, 1, 1] : List Int)), (([1, 2, 2, 15] : List Int)), (([1, 1, 15] : List Int))] : List (List Int)) : List (List Int))).bind fun y160 => ((some (([300, 300, 300, 300, 301, 301, 301] : List Int) : List Int)).bind fun y163 => (if 0 ≤ (wrap64 (Int.tmod (IntKind.u64.wrap (a0)) 7)) then (if (wrap64 (Int.tmod (IntKind.u64.wrap (a0)) 7)) < (y160.length : Int) then ((huff_Codes.f (rd_L3 y160 (wrap64 (Int.tmod (IntKind.u64.wrap (a0)) 7)))).bind fun bt167 => ((huff_Find.f (rd_L3 y160 (wrap64 (Int.tmod (IntKind.u64.wrap (a0)) 7))) 1 0).bind fun bt172 => ((huff_Find.f (([1, 1] : List Int)) 0 0).bind fun bt178 => ((huff_Find.f (([1, 1] : List Int)) 1 (wrap64 (1 + (wrap64 (1 + (Go.bits .and .i64 a1 1023)))))).bind fun bt184 => ((huff_Codes.f (([0, 0] : List Int))).bind fun bt190 => ((huff_Check.f (rd_L3 y160 (wrap64 (Int.tmod (IntKind.u64.wrap (a0)) 7)))).bind fun t195 => ((portagelaw0_Num.f t195).bind fun t196 => (if (wrap64 (Int.tmod (IntKind.u64.wrap (a0)) 7)) < (y163.length : Int) then (if t196 = (rd y163 (wrap64 (Int.tmod (IntKind.u64.wrap (a0)) 7))) then ((portagelaw0_Num.f bt167.2).bind fun t198 => (if t198 = (rd y163 (wrap64 (Int.tmod (IntKind.u64.wrap (a0)) 7))) then (if bt172.2.1 = true then (none) else ((portagelaw0_Num.f bt172.2.2).bind fun t200 => (if t200 = (rd y163 (wrap64 (Int.tmod (IntKind.u64.wrap (a0)) 7))) then (if bt178.2.1 = true then (none) else ((portagelaw0_Num.f bt178.2.2).bind fun t202 => (if t202 = 0 then (if bt184.2.1 = true then (none) else ((portagelaw0_Num.f bt184.2.2).bind fun t203 => (if t203 = 0 then ((portagelaw0_SameCodes.f k bt190.1 (([(⟨0, 0⟩ : S43), (⟨0, 0⟩ : S43)] : List (S43)))).bind fun t207 => (if t207 = true then ((portagelaw0_Num.f bt190.2).bind fun t208 => (if t208 = 0 then ((huff_Check.f (([0, 0] : List Int))).bind fun t212 => ((portagelaw0_Num.f t212).bind fun t213 => (some (t213 == 302)))) else (none))) else (none))) else (none)))) else (none)))) else (none)))) else (none))) else (none)) else (none))))))))) else (none)) else (none)))) else (none)) else (none)) else (none))
theorem portagelaw3_HuffForms.mono : ∀ a0 a1 k, LeO (portagelaw3_HuffForms.f k a0 a1) (portagelaw3_HuffForms.f (k + 1) a0 a1) := by
  intro a0 a1 k
  unfold portagelaw3_HuffForms.f
  repeat' first
      | (with_reducible exact portagelaw0_SameCodes.mono _ _ _)
      | (with_reducible exact portagelaw3_awake.mono _)
      | (with_reducible exact LeO.refl _)
      | (with_reducible exact LeO.none _)
      | (with_reducible refine LeO.ite ?_ ?_)
      | (with_reducible refine LeO.bind ?_ (fun _ => ?_))
      | exact portagelaw0_SameCodes.mono _ _ _
      | exact portagelaw3_awake.mono _
      | exact LeO.none _
      | refine LeO.ite ?_ ?_
      | refine LeO.bind ?_ (fun _ => ?_)
def portagelaw3_HuffForms.T12 : Bool × List (List Nat × List Nat) := (true, [([], []), ([], []), ([0, 1], [0, 1]), ([2], [2]), ([3], [3]), ([4, 4], [4]), ([], []), ([], []), ([6, 7], [6, 7]), ([8], [8]), ([5, 9], [5, 9]), ([10, 5], [10]), ([11], [11]), ([12, 11, 11], [11, 12]), ([11], [11]), ([11], [11]), ([14, 15, 11], [11, 14, 15]), ([16, 11], [11, 16]), ([13, 17, 11], [11, 13, 17]), ([11, 18], [11, 18]), ([19, 13], [19]), ([20], [20]), ([21, 20], [20, 21]), ([20, 22], [20, 22]), ([23, 20], [23]), ([24], [24]), ([25, 24, 24], [24, 25]), ([24], [24]), ([24], [24]), ([27, 28, 24], [24, 27, 28]), ([29, 24], [24, 29]), ([26, 30, 24], [24, 26, 30]), ([24, 31], [24, 31]), ([32, 26], [32]), ([33], [33]), ([34, 33], [33, 34]), ([33, 35], [33, 35]), ([36, 33], [36]), ([37], [37]), ([38, 37, 37], [37, 38]), ([39, 37], [37, 39]), ([37, 40], [37, 40]), ([41, 39], [41]), ([42], [42]), ([43, 42], [42, 43]), ([42, 44], [42, 44]), ([45, 42], [45]), ([46], [46]), ([47, 46, 46], [46, 47]), ([48, 46], [46, 48]), ([46, 49], [46, 49]), ([50, 48], [50]), ([51], [51]), ([51], [51]), ([51], [51]), ([53, 54, 51], [51, 53, 54]), ([52, 55, 51, 51], [51, 52, 55]), ([51, 56], [51, 56]), ([57, 56], [57]), ([58], [58]), ([59, 58, 58], [58, 59]), ([60, 58], [58, 60]), ([58, 61], [58, 61]), ([62, 60], [62]), ([63], [63]), ([64, 63, 63], [63, 64]), ([65, 65, 63], [63, 65]), ([66, 63], [63, 66]), ([63, 67], [63, 67]), ([68, 66, 0, 1, 2, 3, 4, 5, 6, 7, 8, 9, 10, 11, 12, 13, 14, 15, 16, 17, 18, 19, 20, 21, 22, 23, 24, 25, 26, 27, 28, 29, 30, 31, 32, 33, 34, 35, 36, 37, 38, 39, 40, 41, 42, 43, 44, 45, 46, 47, 48, 49, 50, 51, 52, 53, 54, 55, 56, 57, 58, 59, 60, 61, 62, 63, 64, 65, 66, 67, 68], [68])])
def portagelaw3_HuffForms.B12 : List Nat := [0, 0, 3, 7, 15, 31, 0, 0, 192, 448, 1023, 2047, 4095, 8191, 4095, 4095, 53247, 118783, 262143, 524287, 1048575, 2097151, 4194303, 8388607, 16777215, 33554431, 67108863, 33554431, 33554431, 436207615, 973078527, 2147483647, 4294967295, 8589934591, 17179869183, 34359738367, 68719476735, 137438953471, 274877906943, 549755813887, 1099511627775, 2199023255551, 4398046511103, 8796093022207, 17592186044415, 35184372088831, 70368744177663, 140737488355327, 281474976710655, 562949953421311, 1125899906842623, 2251799813685247, 4503599627370495, 4503599627370495, 4503599627370495, 31525197391593471, 72057594037927935, 144115188075855871, 288230376151711743, 576460752303423487, 1152921504606846975, 2305843009213693951, 4611686018427387903, 9223372036854775807, 18446744073709551615, 36893488147419103231, 73786976294838206463, 147573952589676412927, 295147905179352825855, 590295810358705651711]
theorem portagelaw3_HuffForms.tab12 : rtab .any (opsOf Try.f5 12) = portagelaw3_HuffForms.T12 := by kernel_rfl
theorem portagelaw3_HuffForms.bits12 : waitsOk portagelaw3_HuffForms.T12.2 portagelaw3_HuffForms.B12 = true := by kernel_rfl
set_option maxHeartbeats 8000000 in
set_option maxRecDepth 100000 in
theorem portagelaw3_HuffForms.calls (k : Nat) (a0 : Int) (a1 : Int) (r : Bool) (w : World) (h : portagelaw3_HuffForms.f k a0 a1 = some r) :
    Calls Try.prog 5 #[.int .i64 a0, .int .i64 a1] w fun e w' => e = .returned (.bool r) ∧ Below w.heap.size w w' := by
  have hu43 := Try.underlying43
  have HB := Aside0.mk (Below.refl w.heap.size w)
  have H : ((portagelaw3_awake.f k).bind fun t141 => (if t141 = true then (if 0 ≤ (wrap64 (288 + (wrap64 (1 + (Go.bits .and .i64 a1 1023))))) then (if (wrap64 (288 + (wrap64 (1 + (Go.bits .and .i64 a1 1023)))) : Int).toNat ≤ 35184372088832 then ((some (([[], (([wrap64 (-(wrap64 (1 + (Go.bits .and .i64 a1 1023))))] : List Int)), (([wrap64 (15 + (wrap64 (1 + (Go.bits .and .i64 a1 1023))))] : List Int)), (List.replicate (wrap64 (288 + (wrap64 (1 + (Go.bits .and .i64 a1 1023)))) : Int).toNat 0), (([1, 1, 1] : List Int)), (([1, 2, 2, 15] : List Int)), (([1, 1, 15] : List Int))] : List (List Int)) : List (List Int))).bind fun y160 => ((some (([300, 300, 300, 300, 301, 301, 301] : List Int) : List Int)).bind fun y163 => (if 0 ≤ (wrap64 (Int.tmod (IntKind.u64.wrap (a0)) 7)) then (if (wrap64 (Int.tmod (IntKind.u64.wrap (a0)) 7)) < (y160.length : Int) then ((huff_Codes.f (rd_L3 y160 (wrap64 (Int.tmod (IntKind.u64.wrap (a0)) 7)))).bind fun bt167 => ((huff_Find.f (rd_L3 y160 (wrap64 (Int.tmod (IntKind.u64.wrap (a0)) 7))) 1 0).bind fun bt172 => ((huff_Find.f (([1, 1] : List Int)) 0 0).bind fun bt178 => ((huff_Find.f (([1, 1] : List Int)) 1 (wrap64 (1 + (wrap64 (1 + (Go.bits .and .i64 a1 1023)))))).bind fun bt184 => ((huff_Codes.f (([0, 0] : List Int))).bind fun bt190 => ((huff_Check.f (rd_L3 y160 (wrap64 (Int.tmod (IntKind.u64.wrap (a0)) 7)))).bind fun t195 => ((portagelaw0_Num.f t195).bind fun t196 => (if (wrap64 (Int.tmod (IntKind.u64.wrap (a0)) 7)) < (y163.length : Int) then (if t196 = (rd y163 (wrap64 (Int.tmod (IntKind.u64.wrap (a0)) 7))) then ((portagelaw0_Num.f bt167.2).bind fun t198 => (if t198 = (rd y163 (wrap64 (Int.tmod (IntKind.u64.wrap (a0)) 7))) then (if bt172.2.1 = true then (none) else ((portagelaw0_Num.f bt172.2.2).bind fun t200 => (if t200 = (rd y163 (wrap64 (Int.tmod (IntKind.u64.wrap (a0)) 7))) then (if bt178.2.1 = true then (none) else ((portagelaw0_Num.f bt178.2.2).bind fun t202 => (if t202 = 0 then (if bt184.2.1 = true then (none) else ((portagelaw0_Num.f bt184.2.2).bind fun t203 => (if t203 = 0 then ((portagelaw0_SameCodes.f k bt190.1 (([(⟨0, 0⟩ : S43), (⟨0, 0⟩ : S43)] : List (S43)))).bind fun t207 => (if t207 = true then ((portagelaw0_Num.f bt190.2).bind fun t208 => (if t208 = 0 then ((huff_Check.f (([0, 0] : List Int))).bind fun t212 => ((portagelaw0_Num.f t212).bind fun t213 => (some (t213 == 302)))) else (none))) else (none))) else (none)))) else (none)))) else (none)))) else (none))) else (none)) else (none))))))))) else (none)) else (none)))) else (none)) else (none)) else (none))) = some r := h
  clear h
  replace H := Option.bind_eq_some_iff.mp H
  obtain ⟨t141, A30, H⟩ := H
  replace H : (if t141 = true then (if 0 ≤ (wrap64 (288 + (wrap64 (1 + (Go.bits .and .i64 a1 1023))))) then (if (wrap64 (288 + (wrap64 (1 + (Go.bits .and .i64 a1 1023)))) : Int).toNat ≤ 35184372088832 then ((some (([[], (([wrap64 (-(wrap64 (1 + (Go.bits .and .i64 a1 1023))))] : List Int)), (([wrap64 (15 + (wrap64 (1 + (Go.bits .and .i64 a1 1023))))] : List Int)), (List.replicate (wrap64 (288 + (wrap64 (1 + (Go.bits .and .i64 a1 1023)))) : Int).toNat 0), (([1, 1, 1] : List Int)), (([1, 2, 2, 15] : List Int)), (([1, 1, 15] : List Int))] : List (List Int)) : List (List Int))).bind fun y160 => ((some (([300, 300, 300, 300, 301, 301, 301] : List Int) : List Int)).bind fun y163 => (if 0 ≤ (wrap64 (Int.tmod (IntKind.u64.wrap (a0)) 7)) then (if (wrap64 (Int.tmod (IntKind.u64.wrap (a0)) 7)) < (y160.length : Int) then ((huff_Codes.f (rd_L3 y160 (wrap64 (Int.tmod (IntKind.u64.wrap (a0)) 7)))).bind fun bt167 => ((huff_Find.f (rd_L3 y160 (wrap64 (Int.tmod (IntKind.u64.wrap (a0)) 7))) 1 0).bind fun bt172 => ((huff_Find.f (([1, 1] : List Int)) 0 0).bind fun bt178 => ((huff_Find.f (([1, 1] : List Int)) 1 (wrap64 (1 + (wrap64 (1 + (Go.bits .and .i64 a1 1023)))))).bind fun bt184 => ((huff_Codes.f (([0, 0] : List Int))).bind fun bt190 => ((huff_Check.f (rd_L3 y160 (wrap64 (Int.tmod (IntKind.u64.wrap (a0)) 7)))).bind fun t195 => ((portagelaw0_Num.f t195).bind fun t196 => (if (wrap64 (Int.tmod (IntKind.u64.wrap (a0)) 7)) < (y163.length : Int) then (if t196 = (rd y163 (wrap64 (Int.tmod (IntKind.u64.wrap (a0)) 7))) then ((portagelaw0_Num.f bt167.2).bind fun t198 => (if t198 = (rd y163 (wrap64 (Int.tmod (IntKind.u64.wrap (a0)) 7))) then (if bt172.2.1 = true then (none) else ((portagelaw0_Num.f bt172.2.2).bind fun t200 => (if t200 = (rd y163 (wrap64 (Int.tmod (IntKind.u64.wrap (a0)) 7))) then (if bt178.2.1 = true then (none) else ((portagelaw0_Num.f bt178.2.2).bind fun t202 => (if t202 = 0 then (if bt184.2.1 = true then (none) else ((portagelaw0_Num.f bt184.2.2).bind fun t203 => (if t203 = 0 then ((portagelaw0_SameCodes.f k bt190.1 (([(⟨0, 0⟩ : S43), (⟨0, 0⟩ : S43)] : List (S43)))).bind fun t207 => (if t207 = true then ((portagelaw0_Num.f bt190.2).bind fun t208 => (if t208 = 0 then ((huff_Check.f (([0, 0] : List Int))).bind fun t212 => ((portagelaw0_Num.f t212).bind fun t213 => (some (t213 == 302)))) else (none))) else (none))) else (none)))) else (none)))) else (none)))) else (none))) else (none)) else (none))))))))) else (none)) else (none)))) else (none)) else (none)) else (none)) = some r := H
  have A3 := Aside0.mk A30
  clear A30
  by_cases c4 : t141 = true
  · subst c4
    have H1 : (if 0 ≤ (wrap64 (288 + (wrap64 (1 + (Go.bits .and .i64 a1 1023))))) then (if (wrap64 (288 + (wrap64 (1 + (Go.bits .and .i64 a1 1023)))) : Int).toNat ≤ 35184372088832 then ((some (([[], (([wrap64 (-(wrap64 (1 + (Go.bits .and .i64 a1 1023))))] : List Int)), (([wrap64 (15 + (wrap64 (1 + (Go.bits .and .i64 a1 1023))))] : List Int)), (List.replicate (wrap64 (288 + (wrap64 (1 + (Go.bits .and .i64 a1 1023)))) : Int).toNat 0), (([1, 1, 1] : List Int)), (([1, 2, 2, 15] : List Int)), (([1, 1, 15] : List Int))] : List (List Int)) : List (List Int))).bind fun y160 => ((some (([300, 300, 300, 300, 301, 301, 301] : List Int) : List Int)).bind fun y163 => (if 0 ≤ (wrap64 (Int.tmod (IntKind.u64.wrap (a0)) 7)) then (if (wrap64 (Int.tmod (IntKind.u64.wrap (a0)) 7)) < (y160.length : Int) then ((huff_Codes.f (rd_L3 y160 (wrap64 (Int.tmod (IntKind.u64.wrap (a0)) 7)))).bind fun bt167 => ((huff_Find.f (rd_L3 y160 (wrap64 (Int.tmod (IntKind.u64.wrap (a0)) 7))) 1 0).bind fun bt172 => ((huff_Find.f (([1, 1] : List Int)) 0 0).bind fun bt178 => ((huff_Find.f (([1, 1] : List Int)) 1 (wrap64 (1 + (wrap64 (1 + (Go.bits .and .i64 a1 1023)))))).bind fun bt184 => ((huff_Codes.f (([0, 0] : List Int))).bind fun bt190 => ((huff_Check.f (rd_L3 y160 (wrap64 (Int.tmod (IntKind.u64.wrap (a0)) 7)))).bind fun t195 => ((portagelaw0_Num.f t195).bind fun t196 => (if (wrap64 (Int.tmod (IntKind.u64.wrap (a0)) 7)) < (y163.length : Int) then (if t196 = (rd y163 (wrap64 (Int.tmod (IntKind.u64.wrap (a0)) 7))) then ((portagelaw0_Num.f bt167.2).bind fun t198 => (if t198 = (rd y163 (wrap64 (Int.tmod (IntKind.u64.wrap (a0)) 7))) then (if bt172.2.1 = true then (none) else ((portagelaw0_Num.f bt172.2.2).bind fun t200 => (if t200 = (rd y163 (wrap64 (Int.tmod (IntKind.u64.wrap (a0)) 7))) then (if bt178.2.1 = true then (none) else ((portagelaw0_Num.f bt178.2.2).bind fun t202 => (if t202 = 0 then (if bt184.2.1 = true then (none) else ((portagelaw0_Num.f bt184.2.2).bind fun t203 => (if t203 = 0 then ((portagelaw0_SameCodes.f k bt190.1 (([(⟨0, 0⟩ : S43), (⟨0, 0⟩ : S43)] : List (S43)))).bind fun t207 => (if t207 = true then ((portagelaw0_Num.f bt190.2).bind fun t208 => (if t208 = 0 then ((huff_Check.f (([0, 0] : List Int))).bind fun t212 => ((portagelaw0_Num.f t212).bind fun t213 => (some (t213 == 302)))) else (none))) else (none))) else (none)))) else (none)))) else (none)))) else (none))) else (none)) else (none))))))))) else (none)) else (none)))) else (none)) else (none)) = some r := by rw [if_pos rfl] at H; exact H
    clear H
    have H := H1
    clear H1
    obtain ⟨y142, hy142⟩ : ∃ y_ : List Int, y_ = (([wrap64 (-(wrap64 (1 + (Go.bits .and .i64 a1 1023))))] : List Int)) := ⟨_, rfl⟩
    replace H : (if 0 ≤ (wrap64 (288 + (wrap64 (1 + (Go.bits .and .i64 a1 1023))))) then (if (wrap64 (288 + (wrap64 (1 + (Go.bits .and .i64 a1 1023)))) : Int).toNat ≤ 35184372088832 then ((some (([[], y142, (([wrap64 (15 + (wrap64 (1 + (Go.bits .and .i64 a1 1023))))] : List Int)), (List.replicate (wrap64 (288 + (wrap64 (1 + (Go.bits .and .i64 a1 1023)))) : Int).toNat 0), (([1, 1, 1] : List Int)), (([1, 2, 2, 15] : List Int)), (([1, 1, 15] : List Int))] : List (List Int)) : List (List Int))).bind fun y160 => ((some (([300, 300, 300, 300, 301, 301, 301] : List Int) : List Int)).bind fun y163 => (if 0 ≤ (wrap64 (Int.tmod (IntKind.u64.wrap (a0)) 7)) then (if (wrap64 (Int.tmod (IntKind.u64.wrap (a0)) 7)) < (y160.length : Int) then ((huff_Codes.f (rd_L3 y160 (wrap64 (Int.tmod (IntKind.u64.wrap (a0)) 7)))).bind fun bt167 => ((huff_Find.f (rd_L3 y160 (wrap64 (Int.tmod (IntKind.u64.wrap (a0)) 7))) 1 0).bind fun bt172 => ((huff_Find.f (([1, 1] : List Int)) 0 0).bind fun bt178 => ((huff_Find.f (([1, 1] : List Int)) 1 (wrap64 (1 + (wrap64 (1 + (Go.bits .and .i64 a1 1023)))))).bind fun bt184 => ((huff_Codes.f (([0, 0] : List Int))).bind fun bt190 => ((huff_Check.f (rd_L3 y160 (wrap64 (Int.tmod (IntKind.u64.wrap (a0)) 7)))).bind fun t195 => ((portagelaw0_Num.f t195).bind fun t196 => (if (wrap64 (Int.tmod (IntKind.u64.wrap (a0)) 7)) < (y163.length : Int) then (if t196 = (rd y163 (wrap64 (Int.tmod (IntKind.u64.wrap (a0)) 7))) then ((portagelaw0_Num.f bt167.2).bind fun t198 => (if t198 = (rd y163 (wrap64 (Int.tmod (IntKind.u64.wrap (a0)) 7))) then (if bt172.2.1 = true then (none) else ((portagelaw0_Num.f bt172.2.2).bind fun t200 => (if t200 = (rd y163 (wrap64 (Int.tmod (IntKind.u64.wrap (a0)) 7))) then (if bt178.2.1 = true then (none) else ((portagelaw0_Num.f bt178.2.2).bind fun t202 => (if t202 = 0 then (if bt184.2.1 = true then (none) else ((portagelaw0_Num.f bt184.2.2).bind fun t203 => (if t203 = 0 then ((portagelaw0_SameCodes.f k bt190.1 (([(⟨0, 0⟩ : S43), (⟨0, 0⟩ : S43)] : List (S43)))).bind fun t207 => (if t207 = true then ((portagelaw0_Num.f bt190.2).bind fun t208 => (if t208 = 0 then ((huff_Check.f (([0, 0] : List Int))).bind fun t212 => ((portagelaw0_Num.f t212).bind fun t213 => (some (t213 == 302)))) else (none))) else (none))) else (none)))) else (none)))) else (none)))) else (none))) else (none)) else (none))))))))) else (none)) else (none)))) else (none)) else (none)) = some r := by first | (rw [hy142]; with_reducible exact H) | (have H2_ := (Option.bind_some _ _).symm.trans H; rw [hy142]; with_reducible exact H2_) | (have H2_ := (Option.bind_some _ _).symm.trans H; with_reducible exact H2_) | with_reducible exact H | (rw [hy142]; exact H) | exact H
    have Ny142 := Aside0.mk hy142
    clear hy142
    obtain ⟨y145, hy145⟩ : ∃ y_ : List Int, y_ = (([wrap64 (15 + (wrap64 (1 + (Go.bits .and .i64 a1 1023))))] : List Int)) := ⟨_, rfl⟩
    replace H : (if 0 ≤ (wrap64 (288 + (wrap64 (1 + (Go.bits .and .i64 a1 1023))))) then (if (wrap64 (288 + (wrap64 (1 + (Go.bits .and .i64 a1 1023)))) : Int).toNat ≤ 35184372088832 then ((some (([[], y142, y145, (List.replicate (wrap64 (288 + (wrap64 (1 + (Go.bits .and .i64 a1 1023)))) : Int).toNat 0), (([1, 1, 1] : List Int)), (([1, 2, 2, 15] : List Int)), (([1, 1, 15] : List Int))] : List (List Int)) : List (List Int))).bind fun y160 => ((some (([300, 300, 300, 300, 301, 301, 301] : List Int) : List Int)).bind fun y163 => (if 0 ≤ (wrap64 (Int.tmod (IntKind.u64.wrap (a0)) 7)) then (if (wrap64 (Int.tmod (IntKind.u64.wrap (a0)) 7)) < (y160.length : Int) then ((huff_Codes.f (rd_L3 y160 (wrap64 (Int.tmod (IntKind.u64.wrap (a0)) 7)))).bind fun bt167 => ((huff_Find.f (rd_L3 y160 (wrap64 (Int.tmod (IntKind.u64.wrap (a0)) 7))) 1 0).bind fun bt172 => ((huff_Find.f (([1, 1] : List Int)) 0 0).bind fun bt178 => ((huff_Find.f (([1, 1] : List Int)) 1 (wrap64 (1 + (wrap64 (1 + (Go.bits .and .i64 a1 1023)))))).bind fun bt184 => ((huff_Codes.f (([0, 0] : List Int))).bind fun bt190 => ((huff_Check.f (rd_L3 y160 (wrap64 (Int.tmod (IntKind.u64.wrap (a0)) 7)))).bind fun t195 => ((portagelaw0_Num.f t195).bind fun t196 => (if (wrap64 (Int.tmod (IntKind.u64.wrap (a0)) 7)) < (y163.length : Int) then (if t196 = (rd y163 (wrap64 (Int.tmod (IntKind.u64.wrap (a0)) 7))) then ((portagelaw0_Num.f bt167.2).bind fun t198 => (if t198 = (rd y163 (wrap64 (Int.tmod (IntKind.u64.wrap (a0)) 7))) then (if bt172.2.1 = true then (none) else ((portagelaw0_Num.f bt172.2.2).bind fun t200 => (if t200 = (rd y163 (wrap64 (Int.tmod (IntKind.u64.wrap (a0)) 7))) then (if bt178.2.1 = true then (none) else ((portagelaw0_Num.f bt178.2.2).bind fun t202 => (if t202 = 0 then (if bt184.2.1 = true then (none) else ((portagelaw0_Num.f bt184.2.2).bind fun t203 => (if t203 = 0 then ((portagelaw0_SameCodes.f k bt190.1 (([(⟨0, 0⟩ : S43), (⟨0, 0⟩ : S43)] : List (S43)))).bind fun t207 => (if t207 = true then ((portagelaw0_Num.f bt190.2).bind fun t208 => (if t208 = 0 then ((huff_Check.f (([0, 0] : List Int))).bind fun t212 => ((portagelaw0_Num.f t212).bind fun t213 => (some (t213 == 302)))) else (none))) else (none))) else (none)))) else (none)))) else (none)))) else (none))) else (none)) else (none))))))))) else (none)) else (none)))) else (none)) else (none)) = some r := by first | (rw [hy145]; with_reducible exact H) | (have H2_ := (Option.bind_some _ _).symm.trans H; rw [hy145]; with_reducible exact H2_) | (have H2_ := (Option.bind_some _ _).symm.trans H; with_reducible exact H2_) | with_reducible exact H | (rw [hy145]; exact H) | exact H
    have Ny145 := Aside0.mk hy145
    clear hy145
    obtain ⟨ji5, hji5⟩ : ∃ j_ : Int, (wrap64 (288 + (wrap64 (1 + (Go.bits .and .i64 a1 1023))))) = j_ := ⟨_, rfl⟩
    replace H : (if 0 ≤ (ji5) then (if (ji5 : Int).toNat ≤ 35184372088832 then ((some (([[], y142, y145, (List.replicate (ji5 : Int).toNat 0), (([1, 1, 1] : List Int)), (([1, 2, 2, 15] : List Int)), (([1, 1, 15] : List Int))] : List (List Int)) : List (List Int))).bind fun y160 => ((some (([300, 300, 300, 300, 301, 301, 301] : List Int) : List Int)).bind fun y163 => (if 0 ≤ (wrap64 (Int.tmod (IntKind.u64.wrap (a0)) 7)) then (if (wrap64 (Int.tmod (IntKind.u64.wrap (a0)) 7)) < (y160.length : Int) then ((huff_Codes.f (rd_L3 y160 (wrap64 (Int.tmod (IntKind.u64.wrap (a0)) 7)))).bind fun bt167 => ((huff_Find.f (rd_L3 y160 (wrap64 (Int.tmod (IntKind.u64.wrap (a0)) 7))) 1 0).bind fun bt172 => ((huff_Find.f (([1, 1] : List Int)) 0 0).bind fun bt178 => ((huff_Find.f (([1, 1] : List Int)) 1 (wrap64 (1 + (wrap64 (1 + (Go.bits .and .i64 a1 1023)))))).bind fun bt184 => ((huff_Codes.f (([0, 0] : List Int))).bind fun bt190 => ((huff_Check.f (rd_L3 y160 (wrap64 (Int.tmod (IntKind.u64.wrap (a0)) 7)))).bind fun t195 => ((portagelaw0_Num.f t195).bind fun t196 => (if (wrap64 (Int.tmod (IntKind.u64.wrap (a0)) 7)) < (y163.length : Int) then (if t196 = (rd y163 (wrap64 (Int.tmod (IntKind.u64.wrap (a0)) 7))) then ((portagelaw0_Num.f bt167.2).bind fun t198 => (if t198 = (rd y163 (wrap64 (Int.tmod (IntKind.u64.wrap (a0)) 7))) then (if bt172.2.1 = true then (none) else ((portagelaw0_Num.f bt172.2.2).bind fun t200 => (if t200 = (rd y163 (wrap64 (Int.tmod (IntKind.u64.wrap (a0)) 7))) then (if bt178.2.1 = true then (none) else ((portagelaw0_Num.f bt178.2.2).bind fun t202 => (if t202 = 0 then (if bt184.2.1 = true then (none) else ((portagelaw0_Num.f bt184.2.2).bind fun t203 => (if t203 = 0 then ((portagelaw0_SameCodes.f k bt190.1 (([(⟨0, 0⟩ : S43), (⟨0, 0⟩ : S43)] : List (S43)))).bind fun t207 => (if t207 = true then ((portagelaw0_Num.f bt190.2).bind fun t208 => (if t208 = 0 then ((huff_Check.f (([0, 0] : List Int))).bind fun t212 => ((portagelaw0_Num.f t212).bind fun t213 => (some (t213 == 302)))) else (none))) else (none))) else (none)))) else (none)))) else (none)))) else (none))) else (none)) else (none))))))))) else (none)) else (none)))) else (none)) else (none)) = some r := by first | (rw [hji5] at H; exact H) | (simp only [hji5] at H ⊢; exact H)
    (try rw [hji5] at A3)
    have hji5w : (IntKind.i64.wrap (288 + (wrap64 (1 + (Go.bits .and .i64 a1 1023))))) = ji5 := (i64_w _).trans hji5
    by_cases c6 : 0 ≤ (ji5)
    · rw [if_pos c6] at H
      have c6b0 := eq_true c6
      have c6b1 : decide (0 ≤ (ji5)) = true := decide_eq_true c6
      clear c6
      by_cases c7 : (ji5 : Int).toNat ≤ 35184372088832
      · rw [if_pos c7] at H
        have c7b0 := eq_true c7
        have c7b1 : decide ((ji5 : Int).toNat ≤ 35184372088832) = true := decide_eq_true c7
        clear c7
        obtain ⟨y148, hy148⟩ : ∃ y_ : List Int, y_ = (List.replicate (ji5 : Int).toNat 0) := ⟨_, rfl⟩
        replace H : ((some (([[], y142, y145, y148, (([1, 1, 1] : List Int)), (([1, 2, 2, 15] : List Int)), (([1, 1, 15] : List Int))] : List (List Int)) : List (List Int))).bind fun y160 => ((some (([300, 300, 300, 300, 301, 301, 301] : List Int) : List Int)).bind fun y163 => (if 0 ≤ (wrap64 (Int.tmod (IntKind.u64.wrap (a0)) 7)) then (if (wrap64 (Int.tmod (IntKind.u64.wrap (a0)) 7)) < (y160.length : Int) then ((huff_Codes.f (rd_L3 y160 (wrap64 (Int.tmod (IntKind.u64.wrap (a0)) 7)))).bind fun bt167 => ((huff_Find.f (rd_L3 y160 (wrap64 (Int.tmod (IntKind.u64.wrap (a0)) 7))) 1 0).bind fun bt172 => ((huff_Find.f (([1, 1] : List Int)) 0 0).bind fun bt178 => ((huff_Find.f (([1, 1] : List Int)) 1 (wrap64 (1 + (wrap64 (1 + (Go.bits .and .i64 a1 1023)))))).bind fun bt184 => ((huff_Codes.f (([0, 0] : List Int))).bind fun bt190 => ((huff_Check.f (rd_L3 y160 (wrap64 (Int.tmod (IntKind.u64.wrap (a0)) 7)))).bind fun t195 => ((portagelaw0_Num.f t195).bind fun t196 => (if (wrap64 (Int.tmod (IntKind.u64.wrap (a0)) 7)) < (y163.length : Int) then (if t196 = (rd y163 (wrap64 (Int.tmod (IntKind.u64.wrap (a0)) 7))) then ((portagelaw0_Num.f bt167.2).bind fun t198 => (if t198 = (rd y163 (wrap64 (Int.tmod (IntKind.u64.wrap (a0)) 7))) then (if bt172.2.1 = true then (none) else ((portagelaw0_Num.f bt172.2.2).bind fun t200 => (if t200 = (rd y163 (wrap64 (Int.tmod (IntKind.u64.wrap (a0)) 7))) then (if bt178.2.1 = true then (none) else ((portagelaw0_Num.f bt178.2.2).bind fun t202 => (if t202 = 0 then (if bt184.2.1 = true then (none) else ((portagelaw0_Num.f bt184.2.2).bind fun t203 => (if t203 = 0 then ((portagelaw0_SameCodes.f k bt190.1 (([(⟨0, 0⟩ : S43), (⟨0, 0⟩ : S43)] : List (S43)))).bind fun t207 => (if t207 = true then ((portagelaw0_Num.f bt190.2).bind fun t208 => (if t208 = 0 then ((huff_Check.f (([0, 0] : List Int))).bind fun t212 => ((portagelaw0_Num.f t212).bind fun t213 => (some (t213 == 302)))) else (none))) else (none))) else (none)))) else (none)))) else (none)))) else (none))) else (none)) else (none))))))))) else (none)) else (none)))) = some r := by first | (rw [hy148]; with_reducible exact H) | (have H2_ := (Option.bind_some _ _).symm.trans H; rw [hy148]; with_reducible exact H2_) | (have H2_ := (Option.bind_some _ _).symm.trans H; with_reducible exact H2_) | with_reducible exact H | (rw [hy148]; exact H) | exact H
        have Ny148 := Aside0.mk hy148
        clear hy148
        obtain ⟨y151, hy151⟩ : ∃ y_ : List Int, y_ = (([1, 1, 1] : List Int)) := ⟨_, rfl⟩
        replace H : ((some (([[], y142, y145, y148, y151, (([1, 2, 2, 15] : List Int)), (([1, 1, 15] : List Int))] : List (List Int)) : List (List Int))).bind fun y160 => ((some (([300, 300, 300, 300, 301, 301, 301] : List Int) : List Int)).bind fun y163 => (if 0 ≤ (wrap64 (Int.tmod (IntKind.u64.wrap (a0)) 7)) then (if (wrap64 (Int.tmod (IntKind.u64.wrap (a0)) 7)) < (y160.length : Int) then ((huff_Codes.f (rd_L3 y160 (wrap64 (Int.tmod (IntKind.u64.wrap (a0)) 7)))).bind fun bt167 => ((huff_Find.f (rd_L3 y160 (wrap64 (Int.tmod (IntKind.u64.wrap (a0)) 7))) 1 0).bind fun bt172 => ((huff_Find.f (([1, 1] : List Int)) 0 0).bind fun bt178 => ((huff_Find.f (([1, 1] : List Int)) 1 (wrap64 (1 + (wrap64 (1 + (Go.bits .and .i64 a1 1023)))))).bind fun bt184 => ((huff_Codes.f (([0, 0] : List Int))).bind fun bt190 => ((huff_Check.f (rd_L3 y160 (wrap64 (Int.tmod (IntKind.u64.wrap (a0)) 7)))).bind fun t195 => ((portagelaw0_Num.f t195).bind fun t196 => (if (wrap64 (Int.tmod (IntKind.u64.wrap (a0)) 7)) < (y163.length : Int) then (if t196 = (rd y163 (wrap64 (Int.tmod (IntKind.u64.wrap (a0)) 7))) then ((portagelaw0_Num.f bt167.2).bind fun t198 => (if t198 = (rd y163 (wrap64 (Int.tmod (IntKind.u64.wrap (a0)) 7))) then (if bt172.2.1 = true then (none) else ((portagelaw0_Num.f bt172.2.2).bind fun t200 => (if t200 = (rd y163 (wrap64 (Int.tmod (IntKind.u64.wrap (a0)) 7))) then (if bt178.2.1 = true then (none) else ((portagelaw0_Num.f bt178.2.2).bind fun t202 => (if t202 = 0 then (if bt184.2.1 = true then (none) else ((portagelaw0_Num.f bt184.2.2).bind fun t203 => (if t203 = 0 then ((portagelaw0_SameCodes.f k bt190.1 (([(⟨0, 0⟩ : S43), (⟨0, 0⟩ : S43)] : List (S43)))).bind fun t207 => (if t207 = true then ((portagelaw0_Num.f bt190.2).bind fun t208 => (if t208 = 0 then ((huff_Check.f (([0, 0] : List Int))).bind fun t212 => ((portagelaw0_Num.f t212).bind fun t213 => (some (t213 == 302)))) else (none))) else (none))) else (none)))) else (none)))) else (none)))) else (none))) else (none)) else (none))))))))) else (none)) else (none)))) = some r := by first | (rw [hy151]; with_reducible exact H) | (have H2_ := (Option.bind_some _ _).symm.trans H; rw [hy151]; with_reducible exact H2_) | (have H2_ := (Option.bind_some _ _).symm.trans H; with_reducible exact H2_) | with_reducible exact H | (rw [hy151]; exact H) | exact H
        have Ny151 := Aside0.mk hy151
        clear hy151
        obtain ⟨y154, hy154⟩ : ∃ y_ : List Int, y_ = (([1, 2, 2, 15] : List Int)) := ⟨_, rfl⟩
        replace H : ((some (([[], y142, y145, y148, y151, y154, (([1, 1, 15] : List Int))] : List (List Int)) : List (List Int))).bind fun y160 => ((some (([300, 300, 300, 300, 301, 301, 301] : List Int) : List Int)).bind fun y163 => (if 0 ≤ (wrap64 (Int.tmod (IntKind.u64.wrap (a0)) 7)) then (if (wrap64 (Int.tmod (IntKind.u64.wrap (a0)) 7)) < (y160.length : Int) then ((huff_Codes.f (rd_L3 y160 (wrap64 (Int.tmod (IntKind.u64.wrap (a0)) 7)))).bind fun bt167 => ((huff_Find.f (rd_L3 y160 (wrap64 (Int.tmod (IntKind.u64.wrap (a0)) 7))) 1 0).bind fun bt172 => ((huff_Find.f (([1, 1] : List Int)) 0 0).bind fun bt178 => ((huff_Find.f (([1, 1] : List Int)) 1 (wrap64 (1 + (wrap64 (1 + (Go.bits .and .i64 a1 1023)))))).bind fun bt184 => ((huff_Codes.f (([0, 0] : List Int))).bind fun bt190 => ((huff_Check.f (rd_L3 y160 (wrap64 (Int.tmod (IntKind.u64.wrap (a0)) 7)))).bind fun t195 => ((portagelaw0_Num.f t195).bind fun t196 => (if (wrap64 (Int.tmod (IntKind.u64.wrap (a0)) 7)) < (y163.length : Int) then (if t196 = (rd y163 (wrap64 (Int.tmod (IntKind.u64.wrap (a0)) 7))) then ((portagelaw0_Num.f bt167.2).bind fun t198 => (if t198 = (rd y163 (wrap64 (Int.tmod (IntKind.u64.wrap (a0)) 7))) then (if bt172.2.1 = true then (none) else ((portagelaw0_Num.f bt172.2.2).bind fun t200 => (if t200 = (rd y163 (wrap64 (Int.tmod (IntKind.u64.wrap (a0)) 7))) then (if bt178.2.1 = true then (none) else ((portagelaw0_Num.f bt178.2.2).bind fun t202 => (if t202 = 0 then (if bt184.2.1 = true then (none) else ((portagelaw0_Num.f bt184.2.2).bind fun t203 => (if t203 = 0 then ((portagelaw0_SameCodes.f k bt190.1 (([(⟨0, 0⟩ : S43), (⟨0, 0⟩ : S43)] : List (S43)))).bind fun t207 => (if t207 = true then ((portagelaw0_Num.f bt190.2).bind fun t208 => (if t208 = 0 then ((huff_Check.f (([0, 0] : List Int))).bind fun t212 => ((portagelaw0_Num.f t212).bind fun t213 => (some (t213 == 302)))) else (none))) else (none))) else (none)))) else (none)))) else (none)))) else (none))) else (none)) else (none))))))))) else (none)) else (none)))) = some r := by first | (rw [hy154]; with_reducible exact H) | (have H2_ := (Option.bind_some _ _).symm.trans H; rw [hy154]; with_reducible exact H2_) | (have H2_ := (Option.bind_some _ _).symm.trans H; with_reducible exact H2_) | with_reducible exact H | (rw [hy154]; exact H) | exact H
        have Ny154 := Aside0.mk hy154
        clear hy154
        obtain ⟨y157, hy157⟩ : ∃ y_ : List Int, y_ = (([1, 1, 15] : List Int)) := ⟨_, rfl⟩
        replace H : ((some (([[], y142, y145, y148, y151, y154, y157] : List (List Int)) : List (List Int))).bind fun y160 => ((some (([300, 300, 300, 300, 301, 301, 301] : List Int) : List Int)).bind fun y163 => (if 0 ≤ (wrap64 (Int.tmod (IntKind.u64.wrap (a0)) 7)) then (if (wrap64 (Int.tmod (IntKind.u64.wrap (a0)) 7)) < (y160.length : Int) then ((huff_Codes.f (rd_L3 y160 (wrap64 (Int.tmod (IntKind.u64.wrap (a0)) 7)))).bind fun bt167 => ((huff_Find.f (rd_L3 y160 (wrap64 (Int.tmod (IntKind.u64.wrap (a0)) 7))) 1 0).bind fun bt172 => ((huff_Find.f (([1, 1] : List Int)) 0 0).bind fun bt178 => ((huff_Find.f (([1, 1] : List Int)) 1 (wrap64 (1 + (wrap64 (1 + (Go.bits .and .i64 a1 1023)))))).bind fun bt184 => ((huff_Codes.f (([0, 0] : List Int))).bind fun bt190 => ((huff_Check.f (rd_L3 y160 (wrap64 (Int.tmod (IntKind.u64.wrap (a0)) 7)))).bind fun t195 => ((portagelaw0_Num.f t195).bind fun t196 => (if (wrap64 (Int.tmod (IntKind.u64.wrap (a0)) 7)) < (y163.length : Int) then (if t196 = (rd y163 (wrap64 (Int.tmod (IntKind.u64.wrap (a0)) 7))) then ((portagelaw0_Num.f bt167.2).bind fun t198 => (if t198 = (rd y163 (wrap64 (Int.tmod (IntKind.u64.wrap (a0)) 7))) then (if bt172.2.1 = true then (none) else ((portagelaw0_Num.f bt172.2.2).bind fun t200 => (if t200 = (rd y163 (wrap64 (Int.tmod (IntKind.u64.wrap (a0)) 7))) then (if bt178.2.1 = true then (none) else ((portagelaw0_Num.f bt178.2.2).bind fun t202 => (if t202 = 0 then (if bt184.2.1 = true then (none) else ((portagelaw0_Num.f bt184.2.2).bind fun t203 => (if t203 = 0 then ((portagelaw0_SameCodes.f k bt190.1 (([(⟨0, 0⟩ : S43), (⟨0, 0⟩ : S43)] : List (S43)))).bind fun t207 => (if t207 = true then ((portagelaw0_Num.f bt190.2).bind fun t208 => (if t208 = 0 then ((huff_Check.f (([0, 0] : List Int))).bind fun t212 => ((portagelaw0_Num.f t212).bind fun t213 => (some (t213 == 302)))) else (none))) else (none))) else (none)))) else (none)))) else (none)))) else (none))) else (none)) else (none))))))))) else (none)) else (none)))) = some r := by first | (rw [hy157]; with_reducible exact H) | (have H2_ := (Option.bind_some _ _).symm.trans H; rw [hy157]; with_reducible exact H2_) | (have H2_ := (Option.bind_some _ _).symm.trans H; with_reducible exact H2_) | with_reducible exact H | (rw [hy157]; exact H) | exact H
        have Ny157 := Aside0.mk hy157
        clear hy157
        obtain ⟨y160, hy160⟩ : ∃ y_ : List (List Int), y_ = (([[], y142, y145, y148, y151, y154, y157] : List (List Int))) := ⟨_, rfl⟩
        replace H : ((some (([300, 300, 300, 300, 301, 301, 301] : List Int) : List Int)).bind fun y163 => (if 0 ≤ (wrap64 (Int.tmod (IntKind.u64.wrap (a0)) 7)) then (if (wrap64 (Int.tmod (IntKind.u64.wrap (a0)) 7)) < (y160.length : Int) then ((huff_Codes.f (rd_L3 y160 (wrap64 (Int.tmod (IntKind.u64.wrap (a0)) 7)))).bind fun bt167 => ((huff_Find.f (rd_L3 y160 (wrap64 (Int.tmod (IntKind.u64.wrap (a0)) 7))) 1 0).bind fun bt172 => ((huff_Find.f (([1, 1] : List Int)) 0 0).bind fun bt178 => ((huff_Find.f (([1, 1] : List Int)) 1 (wrap64 (1 + (wrap64 (1 + (Go.bits .and .i64 a1 1023)))))).bind fun bt184 => ((huff_Codes.f (([0, 0] : List Int))).bind fun bt190 => ((huff_Check.f (rd_L3 y160 (wrap64 (Int.tmod (IntKind.u64.wrap (a0)) 7)))).bind fun t195 => ((portagelaw0_Num.f t195).bind fun t196 => (if (wrap64 (Int.tmod (IntKind.u64.wrap (a0)) 7)) < (y163.length : Int) then (if t196 = (rd y163 (wrap64 (Int.tmod (IntKind.u64.wrap (a0)) 7))) then ((portagelaw0_Num.f bt167.2).bind fun t198 => (if t198 = (rd y163 (wrap64 (Int.tmod (IntKind.u64.wrap (a0)) 7))) then (if bt172.2.1 = true then (none) else ((portagelaw0_Num.f bt172.2.2).bind fun t200 => (if t200 = (rd y163 (wrap64 (Int.tmod (IntKind.u64.wrap (a0)) 7))) then (if bt178.2.1 = true then (none) else ((portagelaw0_Num.f bt178.2.2).bind fun t202 => (if t202 = 0 then (if bt184.2.1 = true then (none) else ((portagelaw0_Num.f bt184.2.2).bind fun t203 => (if t203 = 0 then ((portagelaw0_SameCodes.f k bt190.1 (([(⟨0, 0⟩ : S43), (⟨0, 0⟩ : S43)] : List (S43)))).bind fun t207 => (if t207 = true then ((portagelaw0_Num.f bt190.2).bind fun t208 => (if t208 = 0 then ((huff_Check.f (([0, 0] : List Int))).bind fun t212 => ((portagelaw0_Num.f t212).bind fun t213 => (some (t213 == 302)))) else (none))) else (none))) else (none)))) else (none)))) else (none)))) else (none))) else (none)) else (none))))))))) else (none)) else (none))) = some r := by first | (rw [hy160]; with_reducible exact H) | (have H2_ := (Option.bind_some _ _).symm.trans H; rw [hy160]; with_reducible exact H2_) | (have H2_ := (Option.bind_some _ _).symm.trans H; with_reducible exact H2_) | with_reducible exact H | (rw [hy160]; exact H) | exact H
        have Ny160 := Aside0.mk hy160
        clear hy160
        obtain ⟨y163, hy163⟩ : ∃ y_ : List Int, y_ = (([300, 300, 300, 300, 301, 301, 301] : List Int)) := ⟨_, rfl⟩
        replace H : (if 0 ≤ (wrap64 (Int.tmod (IntKind.u64.wrap (a0)) 7)) then (if (wrap64 (Int.tmod (IntKind.u64.wrap (a0)) 7)) < (y160.length : Int) then ((huff_Codes.f (rd_L3 y160 (wrap64 (Int.tmod (IntKind.u64.wrap (a0)) 7)))).bind fun bt167 => ((huff_Find.f (rd_L3 y160 (wrap64 (Int.tmod (IntKind.u64.wrap (a0)) 7))) 1 0).bind fun bt172 => ((huff_Find.f (([1, 1] : List Int)) 0 0).bind fun bt178 => ((huff_Find.f (([1, 1] : List Int)) 1 (wrap64 (1 + (wrap64 (1 + (Go.bits .and .i64 a1 1023)))))).bind fun bt184 => ((huff_Codes.f (([0, 0] : List Int))).bind fun bt190 => ((huff_Check.f (rd_L3 y160 (wrap64 (Int.tmod (IntKind.u64.wrap (a0)) 7)))).bind fun t195 => ((portagelaw0_Num.f t195).bind fun t196 => (if (wrap64 (Int.tmod (IntKind.u64.wrap (a0)) 7)) < (y163.length : Int) then (if t196 = (rd y163 (wrap64 (Int.tmod (IntKind.u64.wrap (a0)) 7))) then ((portagelaw0_Num.f bt167.2).bind fun t198 => (if t198 = (rd y163 (wrap64 (Int.tmod (IntKind.u64.wrap (a0)) 7))) then (if bt172.2.1 = true then (none) else ((portagelaw0_Num.f bt172.2.2).bind fun t200 => (if t200 = (rd y163 (wrap64 (Int.tmod (IntKind.u64.wrap (a0)) 7))) then (if bt178.2.1 = true then (none) else ((portagelaw0_Num.f bt178.2.2).bind fun t202 => (if t202 = 0 then (if bt184.2.1 = true then (none) else ((portagelaw0_Num.f bt184.2.2).bind fun t203 => (if t203 = 0 then ((portagelaw0_SameCodes.f k bt190.1 (([(⟨0, 0⟩ : S43), (⟨0, 0⟩ : S43)] : List (S43)))).bind fun t207 => (if t207 = true then ((portagelaw0_Num.f bt190.2).bind fun t208 => (if t208 = 0 then ((huff_Check.f (([0, 0] : List Int))).bind fun t212 => ((portagelaw0_Num.f t212).bind fun t213 => (some (t213 == 302)))) else (none))) else (none))) else (none)))) else (none)))) else (none)))) else (none))) else (none)) else (none))))))))) else (none)) else (none)) = some r := by first | (rw [hy163]; with_reducible exact H) | (have H2_ := (Option.bind_some _ _).symm.trans H; rw [hy163]; with_reducible exact H2_) | (have H2_ := (Option.bind_some _ _).symm.trans H; with_reducible exact H2_) | with_reducible exact H | (rw [hy163]; exact H) | exact H
        have Ny163 := Aside0.mk hy163
        clear hy163
        obtain ⟨ji8, hji8⟩ : ∃ j_ : Int, (wrap64 (Int.tmod (IntKind.u64.wrap (a0)) 7)) = j_ := ⟨_, rfl⟩
        replace H : (if 0 ≤ (ji8) then (if (ji8) < (y160.length : Int) then ((huff_Codes.f (rd_L3 y160 (ji8))).bind fun bt167 => ((huff_Find.f (rd_L3 y160 (ji8)) 1 0).bind fun bt172 => ((huff_Find.f (([1, 1] : List Int)) 0 0).bind fun bt178 => ((huff_Find.f (([1, 1] : List Int)) 1 (wrap64 (1 + (wrap64 (1 + (Go.bits .and .i64 a1 1023)))))).bind fun bt184 => ((huff_Codes.f (([0, 0] : List Int))).bind fun bt190 => ((huff_Check.f (rd_L3 y160 (ji8))).bind fun t195 => ((portagelaw0_Num.f t195).bind fun t196 => (if (ji8) < (y163.length : Int) then (if t196 = (rd y163 (ji8)) then ((portagelaw0_Num.f bt167.2).bind fun t198 => (if t198 = (rd y163 (ji8)) then (if bt172.2.1 = true then (none) else ((portagelaw0_Num.f bt172.2.2).bind fun t200 => (if t200 = (rd y163 (ji8)) then (if bt178.2.1 = true then (none) else ((portagelaw0_Num.f bt178.2.2).bind fun t202 => (if t202 = 0 then (if bt184.2.1 = true then (none) else ((portagelaw0_Num.f bt184.2.2).bind fun t203 => (if t203 = 0 then ((portagelaw0_SameCodes.f k bt190.1 (([(⟨0, 0⟩ : S43), (⟨0, 0⟩ : S43)] : List (S43)))).bind fun t207 => (if t207 = true then ((portagelaw0_Num.f bt190.2).bind fun t208 => (if t208 = 0 then ((huff_Check.f (([0, 0] : List Int))).bind fun t212 => ((portagelaw0_Num.f t212).bind fun t213 => (some (t213 == 302)))) else (none))) else (none))) else (none)))) else (none)))) else (none)))) else (none))) else (none)) else (none))))))))) else (none)) else (none)) = some r := by first | (rw [hji8] at H; exact H) | (simp only [hji8] at H ⊢; exact H)
        (try rw [hji8] at A3)
        have hji8w : (IntKind.i64.wrap (Int.tmod (IntKind.u64.wrap (a0)) 7)) = ji8 := (i64_w _).trans hji8
        by_cases c9 : 0 ≤ (ji8)
        · rw [if_pos c9] at H
          have c9b0 : decide (0 ≤ (ji8)) = true := decide_eq_true c9
          clear c9
          by_cases c10 : (ji8) < (y160.length : Int)
          · rw [if_pos c10] at H
            have c10b0 : decide ((ji8) < (y160.length : Int)) = true := decide_eq_true c10
            clear c10
            replace H := Option.bind_eq_some_iff.mp H
            obtain ⟨⟨t167, t168⟩, A110, H⟩ := H
            replace H : ((huff_Find.f (rd_L3 y160 (ji8)) 1 0).bind fun bt172 => ((huff_Find.f (([1, 1] : List Int)) 0 0).bind fun bt178 => ((huff_Find.f (([1, 1] : List Int)) 1 (wrap64 (1 + (wrap64 (1 + (Go.bits .and .i64 a1 1023)))))).bind fun bt184 => ((huff_Codes.f (([0, 0] : List Int))).bind fun bt190 => ((huff_Check.f (rd_L3 y160 (ji8))).bind fun t195 => ((portagelaw0_Num.f t195).bind fun t196 => (if (ji8) < (y163.length : Int) then (if t196 = (rd y163 (ji8)) then ((portagelaw0_Num.f t168).bind fun t198 => (if t198 = (rd y163 (ji8)) then (if bt172.2.1 = true then (none) else ((portagelaw0_Num.f bt172.2.2).bind fun t200 => (if t200 = (rd y163 (ji8)) then (if bt178.2.1 = true then (none) else ((portagelaw0_Num.f bt178.2.2).bind fun t202 => (if t202 = 0 then (if bt184.2.1 = true then (none) else ((portagelaw0_Num.f bt184.2.2).bind fun t203 => (if t203 = 0 then ((portagelaw0_SameCodes.f k bt190.1 (([(⟨0, 0⟩ : S43), (⟨0, 0⟩ : S43)] : List (S43)))).bind fun t207 => (if t207 = true then ((portagelaw0_Num.f bt190.2).bind fun t208 => (if t208 = 0 then ((huff_Check.f (([0, 0] : List Int))).bind fun t212 => ((portagelaw0_Num.f t212).bind fun t213 => (some (t213 == 302)))) else (none))) else (none))) else (none)))) else (none)))) else (none)))) else (none))) else (none)) else (none)))))))) = some r := H
            have A11 := Aside0.mk A110
            clear A110
            replace H := Option.bind_eq_some_iff.mp H
            obtain ⟨⟨t172, t173, t174⟩, A120, H⟩ := H
            replace H : ((huff_Find.f (([1, 1] : List Int)) 0 0).bind fun bt178 => ((huff_Find.f (([1, 1] : List Int)) 1 (wrap64 (1 + (wrap64 (1 + (Go.bits .and .i64 a1 1023)))))).bind fun bt184 => ((huff_Codes.f (([0, 0] : List Int))).bind fun bt190 => ((huff_Check.f (rd_L3 y160 (ji8))).bind fun t195 => ((portagelaw0_Num.f t195).bind fun t196 => (if (ji8) < (y163.length : Int) then (if t196 = (rd y163 (ji8)) then ((portagelaw0_Num.f t168).bind fun t198 => (if t198 = (rd y163 (ji8)) then (if t173 = true then (none) else ((portagelaw0_Num.f t174).bind fun t200 => (if t200 = (rd y163 (ji8)) then (if bt178.2.1 = true then (none) else ((portagelaw0_Num.f bt178.2.2).bind fun t202 => (if t202 = 0 then (if bt184.2.1 = true then (none) else ((portagelaw0_Num.f bt184.2.2).bind fun t203 => (if t203 = 0 then ((portagelaw0_SameCodes.f k bt190.1 (([(⟨0, 0⟩ : S43), (⟨0, 0⟩ : S43)] : List (S43)))).bind fun t207 => (if t207 = true then ((portagelaw0_Num.f bt190.2).bind fun t208 => (if t208 = 0 then ((huff_Check.f (([0, 0] : List Int))).bind fun t212 => ((portagelaw0_Num.f t212).bind fun t213 => (some (t213 == 302)))) else (none))) else (none))) else (none)))) else (none)))) else (none)))) else (none))) else (none)) else (none))))))) = some r := H
            have A12 := Aside0.mk A120
            clear A120
            obtain ⟨y175, hy175⟩ : ∃ y_ : List Int, y_ = (([1, 1] : List Int)) := ⟨_, rfl⟩
            replace H : ((huff_Find.f y175 0 0).bind fun bt178 => ((huff_Find.f (([1, 1] : List Int)) 1 (wrap64 (1 + (wrap64 (1 + (Go.bits .and .i64 a1 1023)))))).bind fun bt184 => ((huff_Codes.f (([0, 0] : List Int))).bind fun bt190 => ((huff_Check.f (rd_L3 y160 (ji8))).bind fun t195 => ((portagelaw0_Num.f t195).bind fun t196 => (if (ji8) < (y163.length : Int) then (if t196 = (rd y163 (ji8)) then ((portagelaw0_Num.f t168).bind fun t198 => (if t198 = (rd y163 (ji8)) then (if t173 = true then (none) else ((portagelaw0_Num.f t174).bind fun t200 => (if t200 = (rd y163 (ji8)) then (if bt178.2.1 = true then (none) else ((portagelaw0_Num.f bt178.2.2).bind fun t202 => (if t202 = 0 then (if bt184.2.1 = true then (none) else ((portagelaw0_Num.f bt184.2.2).bind fun t203 => (if t203 = 0 then ((portagelaw0_SameCodes.f k bt190.1 (([(⟨0, 0⟩ : S43), (⟨0, 0⟩ : S43)] : List (S43)))).bind fun t207 => (if t207 = true then ((portagelaw0_Num.f bt190.2).bind fun t208 => (if t208 = 0 then ((huff_Check.f (([0, 0] : List Int))).bind fun t212 => ((portagelaw0_Num.f t212).bind fun t213 => (some (t213 == 302)))) else (none))) else (none))) else (none)))) else (none)))) else (none)))) else (none))) else (none)) else (none))))))) = some r := by first | (rw [hy175]; with_reducible exact H) | (have H2_ := (Option.bind_some _ _).symm.trans H; rw [hy175]; with_reducible exact H2_) | (have H2_ := (Option.bind_some _ _).symm.trans H; with_reducible exact H2_) | with_reducible exact H | (rw [hy175]; exact H) | exact H
            have Ny175 := Aside0.mk hy175
            clear hy175
            replace H := Option.bind_eq_some_iff.mp H
            obtain ⟨⟨t178, t179, t180⟩, A130, H⟩ := H
            replace H : ((huff_Find.f (([1, 1] : List Int)) 1 (wrap64 (1 + (wrap64 (1 + (Go.bits .and .i64 a1 1023)))))).bind fun bt184 => ((huff_Codes.f (([0, 0] : List Int))).bind fun bt190 => ((huff_Check.f (rd_L3 y160 (ji8))).bind fun t195 => ((portagelaw0_Num.f t195).bind fun t196 => (if (ji8) < (y163.length : Int) then (if t196 = (rd y163 (ji8)) then ((portagelaw0_Num.f t168).bind fun t198 => (if t198 = (rd y163 (ji8)) then (if t173 = true then (none) else ((portagelaw0_Num.f t174).bind fun t200 => (if t200 = (rd y163 (ji8)) then (if t179 = true then (none) else ((portagelaw0_Num.f t180).bind fun t202 => (if t202 = 0 then (if bt184.2.1 = true then (none) else ((portagelaw0_Num.f bt184.2.2).bind fun t203 => (if t203 = 0 then ((portagelaw0_SameCodes.f k bt190.1 (([(⟨0, 0⟩ : S43), (⟨0, 0⟩ : S43)] : List (S43)))).bind fun t207 => (if t207 = true then ((portagelaw0_Num.f bt190.2).bind fun t208 => (if t208 = 0 then ((huff_Check.f (([0, 0] : List Int))).bind fun t212 => ((portagelaw0_Num.f t212).bind fun t213 => (some (t213 == 302)))) else (none))) else (none))) else (none)))) else (none)))) else (none)))) else (none))) else (none)) else (none)))))) = some r := H
            have A13 := Aside0.mk A130
            clear A130
            obtain ⟨y181, hy181⟩ : ∃ y_ : List Int, y_ = (([1, 1] : List Int)) := ⟨_, rfl⟩
            replace H : ((huff_Find.f y181 1 (wrap64 (1 + (wrap64 (1 + (Go.bits .and .i64 a1 1023)))))).bind fun bt184 => ((huff_Codes.f (([0, 0] : List Int))).bind fun bt190 => ((huff_Check.f (rd_L3 y160 (ji8))).bind fun t195 => ((portagelaw0_Num.f t195).bind fun t196 => (if (ji8) < (y163.length : Int) then (if t196 = (rd y163 (ji8)) then ((portagelaw0_Num.f t168).bind fun t198 => (if t198 = (rd y163 (ji8)) then (if t173 = true then (none) else ((portagelaw0_Num.f t174).bind fun t200 => (if t200 = (rd y163 (ji8)) then (if t179 = true then (none) else ((portagelaw0_Num.f t180).bind fun t202 => (if t202 = 0 then (if bt184.2.1 = true then (none) else ((portagelaw0_Num.f bt184.2.2).bind fun t203 => (if t203 = 0 then ((portagelaw0_SameCodes.f k bt190.1 (([(⟨0, 0⟩ : S43), (⟨0, 0⟩ : S43)] : List (S43)))).bind fun t207 => (if t207 = true then ((portagelaw0_Num.f bt190.2).bind fun t208 => (if t208 = 0 then ((huff_Check.f (([0, 0] : List Int))).bind fun t212 => ((portagelaw0_Num.f t212).bind fun t213 => (some (t213 == 302)))) else (none))) else (none))) else (none)))) else (none)))) else (none)))) else (none))) else (none)) else (none)))))) = some r := by first | (rw [hy181]; with_reducible exact H) | (have H2_ := (Option.bind_some _ _).symm.trans H; rw [hy181]; with_reducible exact H2_) | (have H2_ := (Option.bind_some _ _).symm.trans H; with_reducible exact H2_) | with_reducible exact H | (rw [hy181]; exact H) | exact H
            have Ny181 := Aside0.mk hy181
            clear hy181
            replace H := Option.bind_eq_some_iff.mp H
            obtain ⟨⟨t184, t185, t186⟩, A140, H⟩ := H
            replace H : ((huff_Codes.f (([0, 0] : List Int))).bind fun bt190 => ((huff_Check.f (rd_L3 y160 (ji8))).bind fun t195 => ((portagelaw0_Num.f t195).bind fun t196 => (if (ji8) < (y163.length : Int) then (if t196 = (rd y163 (ji8)) then ((portagelaw0_Num.f t168).bind fun t198 => (if t198 = (rd y163 (ji8)) then (if t173 = true then (none) else ((portagelaw0_Num.f t174).bind fun t200 => (if t200 = (rd y163 (ji8)) then (if t179 = true then (none) else ((portagelaw0_Num.f t180).bind fun t202 => (if t202 = 0 then (if t185 = true then (none) else ((portagelaw0_Num.f t186).bind fun t203 => (if t203 = 0 then ((portagelaw0_SameCodes.f k bt190.1 (([(⟨0, 0⟩ : S43), (⟨0, 0⟩ : S43)] : List (S43)))).bind fun t207 => (if t207 = true then ((portagelaw0_Num.f bt190.2).bind fun t208 => (if t208 = 0 then ((huff_Check.f (([0, 0] : List Int))).bind fun t212 => ((portagelaw0_Num.f t212).bind fun t213 => (some (t213 == 302)))) else (none))) else (none))) else (none)))) else (none)))) else (none)))) else (none))) else (none)) else (none))))) = some r := H
            have A14 := Aside0.mk A140
            clear A140
            obtain ⟨y187, hy187⟩ : ∃ y_ : List Int, y_ = (([0, 0] : List Int)) := ⟨_, rfl⟩
            replace H : ((huff_Codes.f y187).bind fun bt190 => ((huff_Check.f (rd_L3 y160 (ji8))).bind fun t195 => ((portagelaw0_Num.f t195).bind fun t196 => (if (ji8) < (y163.length : Int) then (if t196 = (rd y163 (ji8)) then ((portagelaw0_Num.f t168).bind fun t198 => (if t198 = (rd y163 (ji8)) then (if t173 = true then (none) else ((portagelaw0_Num.f t174).bind fun t200 => (if t200 = (rd y163 (ji8)) then (if t179 = true then (none) else ((portagelaw0_Num.f t180).bind fun t202 => (if t202 = 0 then (if t185 = true then (none) else ((portagelaw0_Num.f t186).bind fun t203 => (if t203 = 0 then ((portagelaw0_SameCodes.f k bt190.1 (([(⟨0, 0⟩ : S43), (⟨0, 0⟩ : S43)] : List (S43)))).bind fun t207 => (if t207 = true then ((portagelaw0_Num.f bt190.2).bind fun t208 => (if t208 = 0 then ((huff_Check.f (([0, 0] : List Int))).bind fun t212 => ((portagelaw0_Num.f t212).bind fun t213 => (some (t213 == 302)))) else (none))) else (none))) else (none)))) else (none)))) else (none)))) else (none))) else (none)) else (none))))) = some r := by first | (rw [hy187]; with_reducible exact H) | (have H2_ := (Option.bind_some _ _).symm.trans H; rw [hy187]; with_reducible exact H2_) | (have H2_ := (Option.bind_some _ _).symm.trans H; with_reducible exact H2_) | with_reducible exact H | (rw [hy187]; exact H) | exact H
            have Ny187 := Aside0.mk hy187
            clear hy187
            replace H := Option.bind_eq_some_iff.mp H
            obtain ⟨⟨t190, t191⟩, A150, H⟩ := H
            replace H : ((huff_Check.f (rd_L3 y160 (ji8))).bind fun t195 => ((portagelaw0_Num.f t195).bind fun t196 => (if (ji8) < (y163.length : Int) then (if t196 = (rd y163 (ji8)) then ((portagelaw0_Num.f t168).bind fun t198 => (if t198 = (rd y163 (ji8)) then (if t173 = true then (none) else ((portagelaw0_Num.f t174).bind fun t200 => (if t200 = (rd y163 (ji8)) then (if t179 = true then (none) else ((portagelaw0_Num.f t180).bind fun t202 => (if t202 = 0 then (if t185 = true then (none) else ((portagelaw0_Num.f t186).bind fun t203 => (if t203 = 0 then ((portagelaw0_SameCodes.f k t190 (([(⟨0, 0⟩ : S43), (⟨0, 0⟩ : S43)] : List (S43)))).bind fun t207 => (if t207 = true then ((portagelaw0_Num.f t191).bind fun t208 => (if t208 = 0 then ((huff_Check.f (([0, 0] : List Int))).bind fun t212 => ((portagelaw0_Num.f t212).bind fun t213 => (some (t213 == 302)))) else (none))) else (none))) else (none)))) else (none)))) else (none)))) else (none))) else (none)) else (none)))) = some r := H
            have A15 := Aside0.mk A150
            clear A150
            replace H := Option.bind_eq_some_iff.mp H
            obtain ⟨t195, A160, H⟩ := H
            replace H : ((portagelaw0_Num.f t195).bind fun t196 => (if (ji8) < (y163.length : Int) then (if t196 = (rd y163 (ji8)) then ((portagelaw0_Num.f t168).bind fun t198 => (if t198 = (rd y163 (ji8)) then (if t173 = true then (none) else ((portagelaw0_Num.f t174).bind fun t200 => (if t200 = (rd y163 (ji8)) then (if t179 = true then (none) else ((portagelaw0_Num.f t180).bind fun t202 => (if t202 = 0 then (if t185 = true then (none) else ((portagelaw0_Num.f t186).bind fun t203 => (if t203 = 0 then ((portagelaw0_SameCodes.f k t190 (([(⟨0, 0⟩ : S43), (⟨0, 0⟩ : S43)] : List (S43)))).bind fun t207 => (if t207 = true then ((portagelaw0_Num.f t191).bind fun t208 => (if t208 = 0 then ((huff_Check.f (([0, 0] : List Int))).bind fun t212 => ((portagelaw0_Num.f t212).bind fun t213 => (some (t213 == 302)))) else (none))) else (none))) else (none)))) else (none)))) else (none)))) else (none))) else (none)) else (none))) = some r := H
            have A16 := Aside0.mk A160
            clear A160
            replace H := Option.bind_eq_some_iff.mp H
            obtain ⟨t196, A170, H⟩ := H
            replace H : (if (ji8) < (y163.length : Int) then (if t196 = (rd y163 (ji8)) then ((portagelaw0_Num.f t168).bind fun t198 => (if t198 = (rd y163 (ji8)) then (if t173 = true then (none) else ((portagelaw0_Num.f t174).bind fun t200 => (if t200 = (rd y163 (ji8)) then (if t179 = true then (none) else ((portagelaw0_Num.f t180).bind fun t202 => (if t202 = 0 then (if t185 = true then (none) else ((portagelaw0_Num.f t186).bind fun t203 => (if t203 = 0 then ((portagelaw0_SameCodes.f k t190 (([(⟨0, 0⟩ : S43), (⟨0, 0⟩ : S43)] : List (S43)))).bind fun t207 => (if t207 = true then ((portagelaw0_Num.f t191).bind fun t208 => (if t208 = 0 then ((huff_Check.f (([0, 0] : List Int))).bind fun t212 => ((portagelaw0_Num.f t212).bind fun t213 => (some (t213 == 302)))) else (none))) else (none))) else (none)))) else (none)))) else (none)))) else (none))) else (none)) else (none)) = some r := H
            have A17 := Aside0.mk A170
            clear A170
            by_cases c18 : (ji8) < (y163.length : Int)
            · rw [if_pos c18] at H
              have c18b0 : decide ((ji8) < (y163.length : Int)) = true := decide_eq_true c18
              clear c18
              by_cases c19 : t196 = (rd y163 (ji8))
              · rw [if_pos c19] at H
                have c19b0 : (t196 == (rd y163 (ji8))) = true := beq_iff_eq.mpr c19
                have c19b1 : (t196 != (rd y163 (ji8))) = false := bne_eq_false_iff_eq.mpr c19
                clear c19
                replace H := Option.bind_eq_some_iff.mp H
                obtain ⟨t198, A200, H⟩ := H
                replace H : (if t198 = (rd y163 (ji8)) then (if t173 = true then (none) else ((portagelaw0_Num.f t174).bind fun t200 => (if t200 = (rd y163 (ji8)) then (if t179 = true then (none) else ((portagelaw0_Num.f t180).bind fun t202 => (if t202 = 0 then (if t185 = true then (none) else ((portagelaw0_Num.f t186).bind fun t203 => (if t203 = 0 then ((portagelaw0_SameCodes.f k t190 (([(⟨0, 0⟩ : S43), (⟨0, 0⟩ : S43)] : List (S43)))).bind fun t207 => (if t207 = true then ((portagelaw0_Num.f t191).bind fun t208 => (if t208 = 0 then ((huff_Check.f (([0, 0] : List Int))).bind fun t212 => ((portagelaw0_Num.f t212).bind fun t213 => (some (t213 == 302)))) else (none))) else (none))) else (none)))) else (none)))) else (none)))) else (none)) = some r := H
                have A20 := Aside0.mk A200
                clear A200
                by_cases c21 : t198 = (rd y163 (ji8))
                · rw [if_pos c21] at H
                  have c21b0 : (t198 == (rd y163 (ji8))) = true := beq_iff_eq.mpr c21
                  have c21b1 : (t198 != (rd y163 (ji8))) = false := bne_eq_false_iff_eq.mpr c21
                  clear c21
                  by_cases c22 : t173 = true
                  · subst c22
                    have H1 : (none) = some r := by rw [if_pos rfl] at H; exact H
                    clear H
                    have H := H1
                    clear H1
                    exact absurd H (by simp)
                  · replace c22 := Bool.eq_false_iff.mpr c22
                    subst c22
                    have H1 : ((portagelaw0_Num.f t174).bind fun t200 => (if t200 = (rd y163 (ji8)) then (if t179 = true then (none) else ((portagelaw0_Num.f t180).bind fun t202 => (if t202 = 0 then (if t185 = true then (none) else ((portagelaw0_Num.f t186).bind fun t203 => (if t203 = 0 then ((portagelaw0_SameCodes.f k t190 (([(⟨0, 0⟩ : S43), (⟨0, 0⟩ : S43)] : List (S43)))).bind fun t207 => (if t207 = true then ((portagelaw0_Num.f t191).bind fun t208 => (if t208 = 0 then ((huff_Check.f (([0, 0] : List Int))).bind fun t212 => ((portagelaw0_Num.f t212).bind fun t213 => (some (t213 == 302)))) else (none))) else (none))) else (none)))) else (none)))) else (none))) = some r := by rw [if_neg (show ¬ (false = true) by decide)] at H; exact H
                    clear H
                    have H := H1
                    clear H1
                    replace H := Option.bind_eq_some_iff.mp H
                    obtain ⟨t200, A230, H⟩ := H
                    replace H : (if t200 = (rd y163 (ji8)) then (if t179 = true then (none) else ((portagelaw0_Num.f t180).bind fun t202 => (if t202 = 0 then (if t185 = true then (none) else ((portagelaw0_Num.f t186).bind fun t203 => (if t203 = 0 then ((portagelaw0_SameCodes.f k t190 (([(⟨0, 0⟩ : S43), (⟨0, 0⟩ : S43)] : List (S43)))).bind fun t207 => (if t207 = true then ((portagelaw0_Num.f t191).bind fun t208 => (if t208 = 0 then ((huff_Check.f (([0, 0] : List Int))).bind fun t212 => ((portagelaw0_Num.f t212).bind fun t213 => (some (t213 == 302)))) else (none))) else (none))) else (none)))) else (none)))) else (none)) = some r := H
                    have A23 := Aside0.mk A230
                    clear A230
                    by_cases c24 : t200 = (rd y163 (ji8))
                    · rw [if_pos c24] at H
                      have c24b0 : (t200 == (rd y163 (ji8))) = true := beq_iff_eq.mpr c24
                      have c24b1 : (t200 != (rd y163 (ji8))) = false := bne_eq_false_iff_eq.mpr c24
                      clear c24
                      by_cases c25 : t179 = true
                      · subst c25
                        have H1 : (none) = some r := by rw [if_pos rfl] at H; exact H
                        clear H
                        have H := H1
                        clear H1
                        exact absurd H (by simp)
                      · replace c25 := Bool.eq_false_iff.mpr c25
                        subst c25
                        have H1 : ((portagelaw0_Num.f t180).bind fun t202 => (if t202 = 0 then (if t185 = true then (none) else ((portagelaw0_Num.f t186).bind fun t203 => (if t203 = 0 then ((portagelaw0_SameCodes.f k t190 (([(⟨0, 0⟩ : S43), (⟨0, 0⟩ : S43)] : List (S43)))).bind fun t207 => (if t207 = true then ((portagelaw0_Num.f t191).bind fun t208 => (if t208 = 0 then ((huff_Check.f (([0, 0] : List Int))).bind fun t212 => ((portagelaw0_Num.f t212).bind fun t213 => (some (t213 == 302)))) else (none))) else (none))) else (none)))) else (none))) = some r := by rw [if_neg (show ¬ (false = true) by decide)] at H; exact H
                        clear H
                        have H := H1
                        clear H1
                        replace H := Option.bind_eq_some_iff.mp H
                        obtain ⟨t202, A260, H⟩ := H
                        replace H : (if t202 = 0 then (if t185 = true then (none) else ((portagelaw0_Num.f t186).bind fun t203 => (if t203 = 0 then ((portagelaw0_SameCodes.f k t190 (([(⟨0, 0⟩ : S43), (⟨0, 0⟩ : S43)] : List (S43)))).bind fun t207 => (if t207 = true then ((portagelaw0_Num.f t191).bind fun t208 => (if t208 = 0 then ((huff_Check.f (([0, 0] : List Int))).bind fun t212 => ((portagelaw0_Num.f t212).bind fun t213 => (some (t213 == 302)))) else (none))) else (none))) else (none)))) else (none)) = some r := H
                        have A26 := Aside0.mk A260
                        clear A260
                        by_cases c27 : t202 = 0
                        · rw [if_pos c27] at H
                          have c27b0 : (t202 == 0) = true := beq_iff_eq.mpr c27
                          have c27b1 : (t202 != 0) = false := bne_eq_false_iff_eq.mpr c27
                          clear c27
                          by_cases c28 : t185 = true
                          · subst c28
                            have H1 : (none) = some r := by rw [if_pos rfl] at H; exact H
                            clear H
                            have H := H1
                            clear H1
                            exact absurd H (by simp)
                          · replace c28 := Bool.eq_false_iff.mpr c28
                            subst c28
                            have H1 : ((portagelaw0_Num.f t186).bind fun t203 => (if t203 = 0 then ((portagelaw0_SameCodes.f k t190 (([(⟨0, 0⟩ : S43), (⟨0, 0⟩ : S43)] : List (S43)))).bind fun t207 => (if t207 = true then ((portagelaw0_Num.f t191).bind fun t208 => (if t208 = 0 then ((huff_Check.f (([0, 0] : List Int))).bind fun t212 => ((portagelaw0_Num.f t212).bind fun t213 => (some (t213 == 302)))) else (none))) else (none))) else (none))) = some r := by rw [if_neg (show ¬ (false = true) by decide)] at H; exact H
                            clear H
                            have H := H1
                            clear H1
                            replace H := Option.bind_eq_some_iff.mp H
                            obtain ⟨t203, A290, H⟩ := H
                            replace H : (if t203 = 0 then ((portagelaw0_SameCodes.f k t190 (([(⟨0, 0⟩ : S43), (⟨0, 0⟩ : S43)] : List (S43)))).bind fun t207 => (if t207 = true then ((portagelaw0_Num.f t191).bind fun t208 => (if t208 = 0 then ((huff_Check.f (([0, 0] : List Int))).bind fun t212 => ((portagelaw0_Num.f t212).bind fun t213 => (some (t213 == 302)))) else (none))) else (none))) else (none)) = some r := H
                            have A29 := Aside0.mk A290
                            clear A290
                            by_cases c30 : t203 = 0
                            · rw [if_pos c30] at H
                              have c30b0 : (t203 == 0) = true := beq_iff_eq.mpr c30
                              have c30b1 : (t203 != 0) = false := bne_eq_false_iff_eq.mpr c30
                              clear c30
                              obtain ⟨y204, hy204⟩ : ∃ y_ : List (S43), y_ = (([(⟨0, 0⟩ : S43), (⟨0, 0⟩ : S43)] : List (S43))) := ⟨_, rfl⟩
                              replace H : ((portagelaw0_SameCodes.f k t190 y204).bind fun t207 => (if t207 = true then ((portagelaw0_Num.f t191).bind fun t208 => (if t208 = 0 then ((huff_Check.f (([0, 0] : List Int))).bind fun t212 => ((portagelaw0_Num.f t212).bind fun t213 => (some (t213 == 302)))) else (none))) else (none))) = some r := by first | (rw [hy204]; with_reducible exact H) | (have H2_ := (Option.bind_some _ _).symm.trans H; rw [hy204]; with_reducible exact H2_) | (have H2_ := (Option.bind_some _ _).symm.trans H; with_reducible exact H2_) | with_reducible exact H | (rw [hy204]; exact H) | exact H
                              have Ny204 := Aside0.mk hy204
                              clear hy204
                              replace H := Option.bind_eq_some_iff.mp H
                              obtain ⟨t207, A310, H⟩ := H
                              replace H : (if t207 = true then ((portagelaw0_Num.f t191).bind fun t208 => (if t208 = 0 then ((huff_Check.f (([0, 0] : List Int))).bind fun t212 => ((portagelaw0_Num.f t212).bind fun t213 => (some (t213 == 302)))) else (none))) else (none)) = some r := H
                              have A31 := Aside0.mk A310
                              clear A310
                              by_cases c32 : t207 = true
                              · subst c32
                                have H1 : ((portagelaw0_Num.f t191).bind fun t208 => (if t208 = 0 then ((huff_Check.f (([0, 0] : List Int))).bind fun t212 => ((portagelaw0_Num.f t212).bind fun t213 => (some (t213 == 302)))) else (none))) = some r := by rw [if_pos rfl] at H; exact H
                                clear H
                                have H := H1
                                clear H1
                                replace H := Option.bind_eq_some_iff.mp H
                                obtain ⟨t208, A330, H⟩ := H
                                replace H : (if t208 = 0 then ((huff_Check.f (([0, 0] : List Int))).bind fun t212 => ((portagelaw0_Num.f t212).bind fun t213 => (some (t213 == 302)))) else (none)) = some r := H
                                have A33 := Aside0.mk A330
                                clear A330
                                by_cases c34 : t208 = 0
                                · rw [if_pos c34] at H
                                  have c34b0 : (t208 == 0) = true := beq_iff_eq.mpr c34
                                  have c34b1 : (t208 != 0) = false := bne_eq_false_iff_eq.mpr c34
                                  clear c34
                                  obtain ⟨y209, hy209⟩ : ∃ y_ : List Int, y_ = (([0, 0] : List Int)) := ⟨_, rfl⟩
                                  replace H : ((huff_Check.f y209).bind fun t212 => ((portagelaw0_Num.f t212).bind fun t213 => (some (t213 == 302)))) = some r := by first | (rw [hy209]; with_reducible exact H) | (have H2_ := (Option.bind_some _ _).symm.trans H; rw [hy209]; with_reducible exact H2_) | (have H2_ := (Option.bind_some _ _).symm.trans H; with_reducible exact H2_) | with_reducible exact H | (rw [hy209]; exact H) | exact H
                                  have Ny209 := Aside0.mk hy209
                                  clear hy209
                                  replace H := Option.bind_eq_some_iff.mp H
                                  obtain ⟨t212, A350, H⟩ := H
                                  replace H : ((portagelaw0_Num.f t212).bind fun t213 => (some (t213 == 302))) = some r := H
                                  have A35 := Aside0.mk A350
                                  clear A350
                                  replace H := Option.bind_eq_some_iff.mp H
                                  obtain ⟨t213, A360, H⟩ := H
                                  replace H : (some (t213 == 302)) = some r := H
                                  have A36 := Aside0.mk A360
                                  clear A360
                                  obtain rfl := Option.some.inj H
                                  go_enter Try.func5, Try.ntmps5
                                  try go_wp2_with (first | ((with_reducible refine gate_callee (f := 34) rfl ?_); refine goesL_ (some 22) rfl rfl Try.func34 (by kernel_rfl) rfl #[] rfl (by (try simp only [List.map_toArray, List.map_cons, List.map_nil]); first | done | rfl | (simp only [List.length_drop, List.length_take]; rfl)) ?_; (with_reducible refine (portagelaw3_awake.calls k  true _ A3.out).mono ?_); rintro e w37 ⟨rfl, hb⟩; refine ⟨_, rfl, ?_⟩; have n0_ := Aside0.mk (below_step (by repeat (first | (with_reducible first | exact HB.out | apply below_alloc | apply pw_below_drewN | apply below_drew1) | exact HB.out)) hb); clear HB; have HB := n0_; clear n0_; (try clear hb); (try clear hb2); (try clear hk); (try clear hi)) | ((with_reducible refine gate_dst (N := 29) rfl ?_); (try (refine gate_guard (by rfl) ?_; dsimp only)); refine Kd.R_lit (Kd.int .i64) _ 3 ?hg (N := 29) ?hd (xs := ([wrap64 (-(wrap64 (1 + (Go.bits .and .i64 a1 1023))))] : List Int)) (inner := [.int .i64 (wrap64 (-(wrap64 (1 + (Go.bits .and .i64 a1 1023)))))]) (ok := fun _ => True) (okp := fun _ => True) ?hr ?hp (fun _ hk => hk) trivial (Below.refl _ _) (Nat.le_refl _) (by simp) ?_; (case hd => rfl); (case hg => rfl); (case hr => first | (go_simp; done) | (go_simp; rfl)); (case hp => exact (Reps.one (show Kd.M (Kd.int .i64) _ _ _ (wrap64 (-(wrap64 (1 + (Go.bits .and .i64 a1 1023))))) [.int .i64 (wrap64 (-(wrap64 (1 + (Go.bits .and .i64 a1 1023)))))] from rfl) (Reps.none _ _))); intro v143 w38 ho39 hb hg_ hnew_; clear hg_ hnew_; (first | rw [← Ny142.out] at ho39 | (simp only [Int.reduceToNat] at ho39; rw [← Ny142.out] at ho39)); have n0_ := Aside0.mk (Kd.R_lower ho39 (below_size (by repeat (first | (with_reducible first | exact HB.out | apply below_alloc | apply pw_below_drewN | apply below_drew1) | exact HB.out)))); have n1_ := Aside0.mk (below_step (by repeat (first | (with_reducible first | exact HB.out | apply below_alloc | apply pw_below_drewN | apply below_drew1) | exact HB.out)) hb); clear HB; have HO144 := n0_; have HB := n1_; clear n0_ n1_; clear hb ho39) | ((with_reducible refine gate_dst (N := 32) rfl ?_); (try (refine gate_guard (by rfl) ?_; dsimp only)); refine Kd.R_lit (Kd.int .i64) _ 3 ?hg (N := 32) ?hd (xs := ([wrap64 (15 + (wrap64 (1 + (Go.bits .and .i64 a1 1023))))] : List Int)) (inner := [.int .i64 (wrap64 (15 + (wrap64 (1 + (Go.bits .and .i64 a1 1023)))))]) (ok := fun _ => True) (okp := fun _ => True) ?hr ?hp (fun _ hk => hk) trivial (Below.refl _ _) (Nat.le_refl _) (by simp) ?_; (case hd => rfl); (case hg => rfl); (case hr => first | (go_simp; done) | (go_simp; rfl)); (case hp => exact (Reps.one (show Kd.M (Kd.int .i64) _ _ _ (wrap64 (15 + (wrap64 (1 + (Go.bits .and .i64 a1 1023))))) [.int .i64 (wrap64 (15 + (wrap64 (1 + (Go.bits .and .i64 a1 1023)))))] from rfl) (Reps.none _ _))); intro v146 w40 ho41 hb hg_ hnew_; clear hg_ hnew_; (first | rw [← Ny145.out] at ho41 | (simp only [Int.reduceToNat] at ho41; rw [← Ny145.out] at ho41)); have n0_ := Aside0.mk (Kd.R_elder' (by (with_reducible repeat (first | apply Kd.R_alloc | apply Kd.R_drewN | apply Kd.R_drew)); exact HO144.out) (Kd.R_base ho41) hb); have n1_ := Aside0.mk (Kd.R_lower (Kd.R_new' ho41 (Kd.R_lt (by (with_reducible repeat (first | apply Kd.R_alloc | apply Kd.R_drewN | apply Kd.R_drew)); exact HO144.out))) (below_size (by repeat (first | (with_reducible first | exact HB.out | apply below_alloc | apply pw_below_drewN | apply below_drew1) | exact HB.out)))); have n2_ := Aside0.mk (below_step (by repeat (first | (with_reducible first | exact HB.out | apply below_alloc | apply pw_below_drewN | apply below_drew1) | exact HB.out)) hb); clear HO144; clear HB; have HO144 := n0_; have HO147 := n1_; have HB := n2_; clear n0_ n1_ n2_; clear hb ho41) | ((with_reducible refine gate_dst (N := 35) rfl ?_); (try (refine gate_guard (by rfl) ?_; dsimp only)); refine Kd.R_make (Kd.int .i64) _ 3 rfl (N := 35) rfl 22 _ _ rfl ji5 rfl rfl Try.underlying22 (.int .i64 0) 8 info3 rfl (by decide) (by omega) 0 (ok := fun _ => True) (okp := fun _ => True) rfl (fun _ hk => hk) trivial (of_decide_eq_true (by first | (with_reducible assumption) | assumption)) (Nat.le_trans (Nat.mul_le_mul_right _ (of_decide_eq_true (by first | (with_reducible assumption) | assumption) : ji5.toNat ≤ 35184372088832)) (by omega)) (Below.refl _ _) (Nat.le_refl _) ?_; intro v149 w42 ho43 hb hg_ hnew_; clear hg_ hnew_; (first | rw [← Ny148.out] at ho43 | (simp only [Int.reduceToNat] at ho43; rw [← Ny148.out] at ho43)); have n0_ := Aside0.mk (Kd.R_elder' (by (with_reducible repeat (first | apply Kd.R_alloc | apply Kd.R_drewN | apply Kd.R_drew)); exact HO144.out) (Kd.R_base ho43) hb); have n1_ := Aside0.mk (Kd.R_elder' (by (with_reducible repeat (first | apply Kd.R_alloc | apply Kd.R_drewN | apply Kd.R_drew)); exact HO147.out) (Kd.R_base ho43) hb); have n2_ := Aside0.mk (Kd.R_lower (Kd.R_new' (Kd.R_new' ho43 (Kd.R_lt (by (with_reducible repeat (first | apply Kd.R_alloc | apply Kd.R_drewN | apply Kd.R_drew)); exact HO144.out))) (Kd.R_lt (by (with_reducible repeat (first | apply Kd.R_alloc | apply Kd.R_drewN | apply Kd.R_drew)); exact HO147.out))) (below_size (by repeat (first | (with_reducible first | exact HB.out | apply below_alloc | apply pw_below_drewN | apply below_drew1) | exact HB.out)))); have n3_ := Aside0.mk (below_step (by repeat (first | (with_reducible first | exact HB.out | apply below_alloc | apply pw_below_drewN | apply below_drew1) | exact HB.out)) hb); clear HO144; clear HO147; clear HB; have HO144 := n0_; have HO147 := n1_; have HO150 := n2_; have HB := n3_; clear n0_ n1_ n2_ n3_; clear hb ho43) | ((with_reducible refine gate_dst (N := 36) rfl ?_); (try (refine gate_guard (by rfl) ?_; dsimp only)); refine Kd.R_lit (Kd.int .i64) _ 3 ?hg (N := 36) ?hd (xs := ([1, 1, 1] : List Int)) (inner := [.int .i64 1, .int .i64 1, .int .i64 1]) (ok := fun _ => True) (okp := fun _ => True) ?hr ?hp (fun _ hk => hk) trivial (Below.refl _ _) (Nat.le_refl _) (by simp) ?_; (case hd => rfl); (case hg => rfl); (case hr => first | (go_simp; done) | (go_simp; rfl)); (case hp => exact (Reps.one (show Kd.M (Kd.int .i64) _ _ _ 1 [.int .i64 1] from rfl) (Reps.one (show Kd.M (Kd.int .i64) _ _ _ 1 [.int .i64 1] from rfl) (Reps.one (show Kd.M (Kd.int .i64) _ _ _ 1 [.int .i64 1] from rfl) (Reps.none _ _))))); intro v152 w44 ho45 hb hg_ hnew_; clear hg_ hnew_; (first | rw [← Ny151.out] at ho45 | (simp only [Int.reduceToNat] at ho45; rw [← Ny151.out] at ho45)); have n0_ := Aside0.mk (Kd.R_elder' (by (with_reducible repeat (first | apply Kd.R_alloc | apply Kd.R_drewN | apply Kd.R_drew)); exact HO144.out) (Kd.R_base ho45) hb); have n1_ := Aside0.mk (Kd.R_elder' (by (with_reducible repeat (first | apply Kd.R_alloc | apply Kd.R_drewN | apply Kd.R_drew)); exact HO147.out) (Kd.R_base ho45) hb); have n2_ := Aside0.mk (Kd.R_elder' (by (with_reducible repeat (first | apply Kd.R_alloc | apply Kd.R_drewN | apply Kd.R_drew)); exact HO150.out) (Kd.R_base ho45) hb); have n3_ := Aside0.mk (Kd.R_lower (Kd.R_new' (Kd.R_new' (Kd.R_new' ho45 (Kd.R_lt (by (with_reducible repeat (first | apply Kd.R_alloc | apply Kd.R_drewN | apply Kd.R_drew)); exact HO144.out))) (Kd.R_lt (by (with_reducible repeat (first | apply Kd.R_alloc | apply Kd.R_drewN | apply Kd.R_drew)); exact HO147.out))) (Kd.R_lt (by (with_reducible repeat (first | apply Kd.R_alloc | apply Kd.R_drewN | apply Kd.R_drew)); exact HO150.out))) (below_size (by repeat (first | (with_reducible first | exact HB.out | apply below_alloc | apply pw_below_drewN | apply below_drew1) | exact HB.out)))); have n4_ := Aside0.mk (below_step (by repeat (first | (with_reducible first | exact HB.out | apply below_alloc | apply pw_below_drewN | apply below_drew1) | exact HB.out)) hb); clear HO144; clear HO147; clear HO150; clear HB; have HO144 := n0_; have HO147 := n1_; have HO150 := n2_; have HO153 := n3_; have HB := n4_; clear n0_ n1_ n2_ n3_ n4_; clear hb ho45) | ((with_reducible refine gate_dst (N := 37) rfl ?_); (try (refine gate_guard (by rfl) ?_; dsimp only)); refine Kd.R_lit (Kd.int .i64) _ 3 ?hg (N := 37) ?hd (xs := ([1, 2, 2, 15] : List Int)) (inner := [.int .i64 1, .int .i64 2, .int .i64 2, .int .i64 15]) (ok := fun _ => True) (okp := fun _ => True) ?hr ?hp (fun _ hk => hk) trivial (Below.refl _ _) (Nat.le_refl _) (by simp) ?_; (case hd => rfl); (case hg => rfl); (case hr => first | (go_simp; done) | (go_simp; rfl)); (case hp => exact (Reps.one (show Kd.M (Kd.int .i64) _ _ _ 1 [.int .i64 1] from rfl) (Reps.one (show Kd.M (Kd.int .i64) _ _ _ 2 [.int .i64 2] from rfl) (Reps.one (show Kd.M (Kd.int .i64) _ _ _ 2 [.int .i64 2] from rfl) (Reps.one (show Kd.M (Kd.int .i64) _ _ _ 15 [.int .i64 15] from rfl) (Reps.none _ _)))))); intro v155 w46 ho47 hb hg_ hnew_; clear hg_ hnew_; (first | rw [← Ny154.out] at ho47 | (simp only [Int.reduceToNat] at ho47; rw [← Ny154.out] at ho47)); have n0_ := Aside0.mk (Kd.R_elder' (by (with_reducible repeat (first | apply Kd.R_alloc | apply Kd.R_drewN | apply Kd.R_drew)); exact HO144.out) (Kd.R_base ho47) hb); have n1_ := Aside0.mk (Kd.R_elder' (by (with_reducible repeat (first | apply Kd.R_alloc | apply Kd.R_drewN | apply Kd.R_drew)); exact HO147.out) (Kd.R_base ho47) hb); have n2_ := Aside0.mk (Kd.R_elder' (by (with_reducible repeat (first | apply Kd.R_alloc | apply Kd.R_drewN | apply Kd.R_drew)); exact HO150.out) (Kd.R_base ho47) hb); have n3_ := Aside0.mk (Kd.R_elder' (by (with_reducible repeat (first | apply Kd.R_alloc | apply Kd.R_drewN | apply Kd.R_drew)); exact HO153.out) (Kd.R_base ho47) hb); have n4_ := Aside0.mk (Kd.R_lower (Kd.R_new' (Kd.R_new' (Kd.R_new' (Kd.R_new' ho47 (Kd.R_lt (by (with_reducible repeat (first | apply Kd.R_alloc | apply Kd.R_drewN | apply Kd.R_drew)); exact HO144.out))) (Kd.R_lt (by (with_reducible repeat (first | apply Kd.R_alloc | apply Kd.R_drewN | apply Kd.R_drew)); exact HO147.out))) (Kd.R_lt (by (with_reducible repeat (first | apply Kd.R_alloc | apply Kd.R_drewN | apply Kd.R_drew)); exact HO150.out))) (Kd.R_lt (by (with_reducible repeat (first | apply Kd.R_alloc | apply Kd.R_drewN | apply Kd.R_drew)); exact HO153.out))) (below_size (by repeat (first | (with_reducible first | exact HB.out | apply below_alloc | apply pw_below_drewN | apply below_drew1) | exact HB.out)))); have n5_ := Aside0.mk (below_step (by repeat (first | (with_reducible first | exact HB.out | apply below_alloc | apply pw_below_drewN | apply below_drew1) | exact HB.out)) hb); clear HO144; clear HO147; clear HO150; clear HO153; clear HB; have HO144 := n0_; have HO147 := n1_; have HO150 := n2_; have HO153 := n3_; have HO156 := n4_; have HB := n5_; clear n0_ n1_ n2_ n3_ n4_ n5_; clear hb ho47) | ((with_reducible refine gate_dst (N := 38) rfl ?_); (try (refine gate_guard (by rfl) ?_; dsimp only)); refine Kd.R_lit (Kd.int .i64) _ 3 ?hg (N := 38) ?hd (xs := ([1, 1, 15] : List Int)) (inner := [.int .i64 1, .int .i64 1, .int .i64 15]) (ok := fun _ => True) (okp := fun _ => True) ?hr ?hp (fun _ hk => hk) trivial (Below.refl _ _) (Nat.le_refl _) (by simp) ?_; (case hd => rfl); (case hg => rfl); (case hr => first | (go_simp; done) | (go_simp; rfl)); (case hp => exact (Reps.one (show Kd.M (Kd.int .i64) _ _ _ 1 [.int .i64 1] from rfl) (Reps.one (show Kd.M (Kd.int .i64) _ _ _ 1 [.int .i64 1] from rfl) (Reps.one (show Kd.M (Kd.int .i64) _ _ _ 15 [.int .i64 15] from rfl) (Reps.none _ _))))); intro v158 w48 ho49 hb hg_ hnew_; clear hg_ hnew_; (first | rw [← Ny157.out] at ho49 | (simp only [Int.reduceToNat] at ho49; rw [← Ny157.out] at ho49)); have n0_ := Aside0.mk (Kd.R_elder' (by (with_reducible repeat (first | apply Kd.R_alloc | apply Kd.R_drewN | apply Kd.R_drew)); exact HO144.out) (Kd.R_base ho49) hb); have n1_ := Aside0.mk (Kd.R_elder' (by (with_reducible repeat (first | apply Kd.R_alloc | apply Kd.R_drewN | apply Kd.R_drew)); exact HO147.out) (Kd.R_base ho49) hb); have n2_ := Aside0.mk (Kd.R_elder' (by (with_reducible repeat (first | apply Kd.R_alloc | apply Kd.R_drewN | apply Kd.R_drew)); exact HO150.out) (Kd.R_base ho49) hb); have n3_ := Aside0.mk (Kd.R_elder' (by (with_reducible repeat (first | apply Kd.R_alloc | apply Kd.R_drewN | apply Kd.R_drew)); exact HO153.out) (Kd.R_base ho49) hb); have n4_ := Aside0.mk (Kd.R_elder' (by (with_reducible repeat (first | apply Kd.R_alloc | apply Kd.R_drewN | apply Kd.R_drew)); exact HO156.out) (Kd.R_base ho49) hb); have n5_ := Aside0.mk (Kd.R_lower (Kd.R_new' (Kd.R_new' (Kd.R_new' (Kd.R_new' (Kd.R_new' ho49 (Kd.R_lt (by (with_reducible repeat (first | apply Kd.R_alloc | apply Kd.R_drewN | apply Kd.R_drew)); exact HO144.out))) (Kd.R_lt (by (with_reducible repeat (first | apply Kd.R_alloc | apply Kd.R_drewN | apply Kd.R_drew)); exact HO147.out))) (Kd.R_lt (by (with_reducible repeat (first | apply Kd.R_alloc | apply Kd.R_drewN | apply Kd.R_drew)); exact HO150.out))) (Kd.R_lt (by (with_reducible repeat (first | apply Kd.R_alloc | apply Kd.R_drewN | apply Kd.R_drew)); exact HO153.out))) (Kd.R_lt (by (with_reducible repeat (first | apply Kd.R_alloc | apply Kd.R_drewN | apply Kd.R_drew)); exact HO156.out))) (below_size (by repeat (first | (with_reducible first | exact HB.out | apply below_alloc | apply pw_below_drewN | apply below_drew1) | exact HB.out)))); have n6_ := Aside0.mk (below_step (by repeat (first | (with_reducible first | exact HB.out | apply below_alloc | apply pw_below_drewN | apply below_drew1) | exact HB.out)) hb); clear HO144; clear HO147; clear HO150; clear HO153; clear HO156; clear HB; have HO144 := n0_; have HO147 := n1_; have HO150 := n2_; have HO153 := n3_; have HO156 := n4_; have HO159 := n5_; have HB := n6_; clear n0_ n1_ n2_ n3_ n4_ n5_ n6_; clear hb ho49; obtain ⟨Ao50, co50, eo50⟩ := Kd.R_slice HO144.out; subst eo50; obtain ⟨Ao51, co51, eo51⟩ := Kd.R_slice HO147.out; subst eo51; obtain ⟨Ao52, co52, eo52⟩ := Kd.R_slice HO150.out; subst eo52; obtain ⟨Ao53, co53, eo53⟩ := Kd.R_slice HO153.out; subst eo53; obtain ⟨Ao54, co54, eo54⟩ := Kd.R_slice HO156.out; subst eo54; obtain ⟨Ao55, co55, eo55⟩ := Kd.R_slice HO159.out; subst eo55) | ((with_reducible refine gate_dst (N := 39) rfl ?_); (try (refine gate_guard (by rfl) ?_; dsimp only)); refine Kd.N_lit (Kd.slice 3 (Kd.int .i64)) _ 22 ?hg (N' := 39) ?hd (xs := ([[], y142, y145, y148, y151, y154, y157] : List (List Int))) (inner := [.slice none 0 0, .slice Ao50 y142.length co50, .slice Ao51 y145.length co51, .slice Ao52 y148.length co52, .slice Ao53 y151.length co53, .slice Ao54 y154.length co54, .slice Ao55 y157.length co55]) (ok := (fun _ => True)) (okp := (fun _ => True)) ?hr ?hp (fun _ hk => hk) ((show ∀ k_, w48.heap.size ≤ k_ → (fun _ => True) k_ from fun k_ hk => trivial) _ (Nat.le_refl _)) (Below.refl _ _) (Nat.le_refl _) (by simp) ?_; (case hd => rfl); (case hg => rfl); (case hr => first | (go_simp; done) | (go_simp; rfl)); (case hp => exact (Reps.one (show Kd.FK (Kd.slice 3 (Kd.int .i64)) _ _ [] [.slice none 0 0] from (Kd.FK_slice_mk (Nat.le_refl _) (Kd.F_nil _ _ _))) (Reps.one (show Kd.FK (Kd.slice 3 (Kd.int .i64)) _ _ y142 [.slice Ao50 y142.length co50] from (Kd.FK_slice_mk (Kd.R_reads' (Kd.R_mono (ok' := (fun _ => True)) (HO144.out) (fun k_ hk => trivial))).2.1 (Kd.R_F (Kd.R_mono (ok' := (fun _ => True)) (HO144.out) (fun k_ hk => trivial))))) (Reps.one (show Kd.FK (Kd.slice 3 (Kd.int .i64)) _ _ y145 [.slice Ao51 y145.length co51] from (Kd.FK_slice_mk (Kd.R_reads' (Kd.R_mono (ok' := (fun _ => True)) (HO147.out) (fun k_ hk => trivial))).2.1 (Kd.R_F (Kd.R_mono (ok' := (fun _ => True)) (HO147.out) (fun k_ hk => trivial))))) (Reps.one (show Kd.FK (Kd.slice 3 (Kd.int .i64)) _ _ y148 [.slice Ao52 y148.length co52] from (Kd.FK_slice_mk (Kd.R_reads' (Kd.R_mono (ok' := (fun _ => True)) (HO150.out) (fun k_ hk => trivial))).2.1 (Kd.R_F (Kd.R_mono (ok' := (fun _ => True)) (HO150.out) (fun k_ hk => trivial))))) (Reps.one (show Kd.FK (Kd.slice 3 (Kd.int .i64)) _ _ y151 [.slice Ao53 y151.length co53] from (Kd.FK_slice_mk (Kd.R_reads' (Kd.R_mono (ok' := (fun _ => True)) (HO153.out) (fun k_ hk => trivial))).2.1 (Kd.R_F (Kd.R_mono (ok' := (fun _ => True)) (HO153.out) (fun k_ hk => trivial))))) (Reps.one (show Kd.FK (Kd.slice 3 (Kd.int .i64)) _ _ y154 [.slice Ao54 y154.length co54] from (Kd.FK_slice_mk (Kd.R_reads' (Kd.R_mono (ok' := (fun _ => True)) (HO156.out) (fun k_ hk => trivial))).2.1 (Kd.R_F (Kd.R_mono (ok' := (fun _ => True)) (HO156.out) (fun k_ hk => trivial))))) (Reps.one (show Kd.FK (Kd.slice 3 (Kd.int .i64)) _ _ y157 [.slice Ao55 y157.length co55] from (Kd.FK_slice_mk (Kd.R_reads' (Kd.R_mono (ok' := (fun _ => True)) (HO159.out) (fun k_ hk => trivial))).2.1 (Kd.R_F (Kd.R_mono (ok' := (fun _ => True)) (HO159.out) (fun k_ hk => trivial))))) (Reps.none _ _))))))))); intro v161 w56 ho57 hb hg_ hnew_; clear hg_ hnew_; (first | rw [← Ny160.out] at ho57 | (simp only [Int.reduceToNat] at ho57; rw [← Ny160.out] at ho57)); have n0_ := Aside0.mk (Kd.N_lower ho57 (below_size (by repeat (first | (with_reducible first | exact HB.out | apply below_alloc | apply pw_below_drewN | apply below_drew1) | exact HB.out)))); have n1_ := Aside0.mk (below_step (by repeat (first | (with_reducible first | exact HB.out | apply below_alloc | apply pw_below_drewN | apply below_drew1) | exact HB.out)) hb); clear HB; clear HO144; clear HO147; clear HO150; clear HO153; clear HO156; clear HO159; have HO162 := n0_; have HB := n1_; clear n0_ n1_; clear hb ho57) | ((with_reducible refine gate_dst (N := 40) rfl ?_); (try (refine gate_guard (by rfl) ?_; dsimp only)); refine Kd.R_lit (Kd.int .i64) _ 3 ?hg (N := 40) ?hd (xs := ([300, 300, 300, 300, 301, 301, 301] : List Int)) (inner := [.int .i64 300, .int .i64 300, .int .i64 300, .int .i64 300, .int .i64 301, .int .i64 301, .int .i64 301]) (ok := fun _ => True) (okp := fun _ => True) ?hr ?hp (fun _ hk => hk) trivial (Below.refl _ _) (Nat.le_refl _) (by simp) ?_; (case hd => rfl); (case hg => rfl); (case hr => first | (go_simp; done) | (go_simp; rfl)); (case hp => exact (Reps.one (show Kd.M (Kd.int .i64) _ _ _ 300 [.int .i64 300] from rfl) (Reps.one (show Kd.M (Kd.int .i64) _ _ _ 300 [.int .i64 300] from rfl) (Reps.one (show Kd.M (Kd.int .i64) _ _ _ 300 [.int .i64 300] from rfl) (Reps.one (show Kd.M (Kd.int .i64) _ _ _ 300 [.int .i64 300] from rfl) (Reps.one (show Kd.M (Kd.int .i64) _ _ _ 301 [.int .i64 301] from rfl) (Reps.one (show Kd.M (Kd.int .i64) _ _ _ 301 [.int .i64 301] from rfl) (Reps.one (show Kd.M (Kd.int .i64) _ _ _ 301 [.int .i64 301] from rfl) (Reps.none _ _))))))))); intro v164 w58 ho59 hb hg_ hnew_; clear hg_ hnew_; (first | rw [← Ny163.out] at ho59 | (simp only [Int.reduceToNat] at ho59; rw [← Ny163.out] at ho59)); have n0_ := Aside0.mk (Kd.N_elder' (by (with_reducible repeat (first | apply Kd.N_alloc | apply Kd.N_drewN | apply Kd.N_drew)); exact HO162.out) (Kd.R_base ho59) hb); have n1_ := Aside0.mk (Kd.R_lower ho59 (below_size (by repeat (first | (with_reducible first | exact HB.out | apply below_alloc | apply pw_below_drewN | apply below_drew1) | exact HB.out)))); have n2_ := Aside0.mk (below_step (by repeat (first | (with_reducible first | exact HB.out | apply below_alloc | apply pw_below_drewN | apply below_drew1) | exact HB.out)) hb); clear HO162; clear HB; have HO162 := n0_; have HO165 := n1_; have HB := n2_; clear n0_ n1_ n2_; clear hb ho59; obtain ⟨Ao60, co60, eo60⟩ := Kd.N_slice HO162.out; subst eo60; have p166 : 0 ≤ ((ji8) : Int) := of_decide_eq_true (by first | (with_reducible assumption) | assumption); have q166 : (ji8) < (y160.length : Int) := of_decide_eq_true (by first | (with_reducible assumption) | assumption); obtain ⟨ad166, A166_0, c166_0, e166, hx166_0, hl166_0, hi166_0⟩ := at_L3 (Kd.N_reads' HO162.out).2.2 (ji8) p166 q166; cases e166; obtain ⟨ce166, hce166, hMe166, hcc166⟩ := Kd.N_get HO162.out [] (ji8) p166 (by first | exact q166 | exact of_decide_eq_true (by first | (with_reducible assumption) | assumption) | (have e_ := (Kd.N_reads' HO162.out).1; omega)); obtain ⟨ua166_0, uc166_0, rfl, ul166_0, ge166_0⟩ := Kd.FK_slice_open hMe166; have hv166_0 := hcc166 0 _ rfl; rw [Nat.add_zero, show ((Kd.slice 3 (Kd.int .i64))).sz = 1 from rfl, Nat.mul_one] at hv166_0; replace hv166_0 := Option.some.inj (hv166_0.symm.trans hx166_0); injection hv166_0 with hva_ hvn_ hvc_; rw [hva_] at ge166_0; rw [hvc_] at ul166_0; have HL166_0 := Aside0.mk (show Kd.V (Kd.int .i64) 3 _ w.heap.size _ _ (rd_L3 y160 (ji8)) from Kd.V_mk ul166_0 ge166_0); clear hva_ hvn_ hvc_ ge166_0 ul166_0; clear hcc166 hce166; have HR166_0 := Aside0.mk hi166_0; have HC166_0 := Aside0.mk hl166_0; clear hi166_0 hl166_0; replace p166 := eq_true p166; replace q166 := eq_true q166) | ((with_reducible refine gate_callee (f := 24) rfl ?_); refine goesL_ (some 50) rfl rfl Try.func24 (by kernel_rfl) rfl #[.slice A166_0 (rd_L3 y160 (ji8)).length c166_0] rfl (by (try simp only [List.map_toArray, List.map_cons, List.map_nil]); first | done | (simp only [hji8]; rfl) | rfl | (simp only [List.length_drop, List.length_take]; rfl)) ?_; (with_reducible refine (huff_Codes.calls _ _ (rd_L3 y160 (ji8)) t167 t168 _ ?side1 ?side2 A11.out).mono ?_); (case side1 => repeat (first | exact (by first | ((with_reducible repeat (first | apply Kd.C_alloc | apply Kd.C_drewN | apply Kd.C_drew)); with_reducible exact HR166_0.out) | (repeat (first | (with_reducible exact HR166_0.out) | (with_reducible refine Kd.C_alloc ?_ _) | (with_reducible refine Kd.C_drewN ?_ _) | (with_reducible refine Kd.C_drew ?_) | exact HR166_0.out))) | (with_reducible refine Kd.C_alloc ?_ _) | (with_reducible refine Kd.C_drewN ?_ _) | (with_reducible refine Kd.C_drew ?_))); (case side2 => exact HC166_0.out); rintro e w61 ⟨v169, rfl, ho0, hb⟩; refine ⟨_, rfl, ?_⟩; have n0_ := Aside0.mk (Kd.N_elder' (by (with_reducible repeat (first | apply Kd.N_alloc | apply Kd.N_drewN | apply Kd.N_drew)); exact HO162.out) (Kd.R_base ho0) hb); have n1_ := Aside0.mk (Kd.R_below (by (with_reducible repeat (first | apply Kd.R_alloc | apply Kd.R_drewN | apply Kd.R_drew)); exact HO165.out) hb); have n2_ := Aside0.mk (Kd.V_elder' (by (with_reducible repeat (first | apply Kd.V_alloc | apply Kd.V_drewN | apply Kd.V_drew)); exact HL166_0.out) (Kd.R_base ho0) hb); have n3_ := Aside0.mk (Kd.R_lower ho0 (below_size (by repeat (first | (with_reducible first | exact HB.out | apply below_alloc | apply pw_below_drewN | apply below_drew1) | exact HB.out)))); have n4_ := Aside0.mk (Kd.C_below (by first | ((with_reducible repeat (first | apply Kd.C_alloc | apply Kd.C_drewN | apply Kd.C_drew)); with_reducible exact HR166_0.out) | (repeat (first | (with_reducible exact HR166_0.out) | (with_reducible refine Kd.C_alloc ?_ _) | (with_reducible refine Kd.C_drewN ?_ _) | (with_reducible refine Kd.C_drew ?_) | exact HR166_0.out))) hb); have n5_ := Aside0.mk (below_step (by repeat (first | (with_reducible first | exact HB.out | apply below_alloc | apply pw_below_drewN | apply below_drew1) | exact HB.out)) hb); clear HO162; clear HO165; clear HL166_0; clear HR166_0; clear HB; have HO162 := n0_; have HO165 := n1_; have HL166_0 := n2_; have HO170 := n3_; have HR166_0 := n4_; have HB := n5_; clear n0_ n1_ n2_ n3_ n4_ n5_; (try clear hb); (try clear hb2); (try clear hk); (try clear hi); (try clear ho0); have p171 : 0 ≤ ((ji8) : Int) := of_decide_eq_true (by first | (with_reducible assumption) | assumption); have q171 : (ji8) < (y160.length : Int) := of_decide_eq_true (by first | (with_reducible assumption) | assumption); obtain ⟨ad171, A171_0, c171_0, e171, hx171_0, hl171_0, hi171_0⟩ := at_L3 (Kd.N_reads' HO162.out).2.2 (ji8) p171 q171; obtain rfl : ad166 = ad171 := (by injection e171); obtain ⟨ce171, hce171, hMe171, hcc171⟩ := Kd.N_get HO162.out [] (ji8) p171 (by first | exact q171 | exact of_decide_eq_true (by first | (with_reducible assumption) | assumption) | (have e_ := (Kd.N_reads' HO162.out).1; omega)); obtain ⟨ua171_0, uc171_0, rfl, ul171_0, ge171_0⟩ := Kd.FK_slice_open hMe171; have hv171_0 := hcc171 0 _ rfl; rw [Nat.add_zero, show ((Kd.slice 3 (Kd.int .i64))).sz = 1 from rfl, Nat.mul_one] at hv171_0; replace hv171_0 := Option.some.inj (hv171_0.symm.trans hx171_0); injection hv171_0 with hva_ hvn_ hvc_; rw [hva_] at ge171_0; rw [hvc_] at ul171_0; have HL171_0 := Aside0.mk (show Kd.V (Kd.int .i64) 3 _ w.heap.size _ _ (rd_L3 y160 (ji8)) from Kd.V_mk ul171_0 ge171_0); clear hva_ hvn_ hvc_ ge171_0 ul171_0; clear hcc171 hce171; have HR171_0 := Aside0.mk hi171_0; have HC171_0 := Aside0.mk hl171_0; clear hi171_0 hl171_0; replace p171 := eq_true p171; replace q171 := eq_true q171) | ((with_reducible refine gate_callee (f := 26) rfl ?_); refine goesL_ (some 58) rfl rfl Try.func26 (by kernel_rfl) rfl #[.slice A171_0 (rd_L3 y160 (ji8)).length c171_0, .int .i64 1, .int .i64 0] rfl (by (try simp only [List.map_toArray, List.map_cons, List.map_nil]); first | done | (simp only [hji8]; rfl) | rfl | (simp only [List.length_drop, List.length_take]; rfl)) ?_; (with_reducible refine (huff_Find.calls _ _ (rd_L3 y160 (ji8)) 1 0 t172 false t174 _ ?side1 ?side2 A12.out).mono ?_); (case side1 => repeat (first | exact (by first | ((with_reducible repeat (first | apply Kd.C_alloc | apply Kd.C_drewN | apply Kd.C_drew)); with_reducible exact HR171_0.out) | (repeat (first | (with_reducible exact HR171_0.out) | (with_reducible refine Kd.C_alloc ?_ _) | (with_reducible refine Kd.C_drewN ?_ _) | (with_reducible refine Kd.C_drew ?_) | exact HR171_0.out))) | (with_reducible refine Kd.C_alloc ?_ _) | (with_reducible refine Kd.C_drewN ?_ _) | (with_reducible refine Kd.C_drew ?_))); (case side2 => exact HC171_0.out); rintro e w62 ⟨rfl, hb⟩; refine ⟨_, rfl, ?_⟩; have n0_ := Aside0.mk (Kd.N_below (by (with_reducible repeat (first | apply Kd.N_alloc | apply Kd.N_drewN | apply Kd.N_drew)); exact HO162.out) hb); have n1_ := Aside0.mk (Kd.R_below (by (with_reducible repeat (first | apply Kd.R_alloc | apply Kd.R_drewN | apply Kd.R_drew)); exact HO165.out) hb); have n2_ := Aside0.mk (Kd.V_below (by (with_reducible repeat (first | apply Kd.V_alloc | apply Kd.V_drewN | apply Kd.V_drew)); exact HL166_0.out) hb); have n3_ := Aside0.mk (Kd.R_below (by (with_reducible repeat (first | apply Kd.R_alloc | apply Kd.R_drewN | apply Kd.R_drew)); exact HO170.out) hb); have n4_ := Aside0.mk (Kd.V_below (by (with_reducible repeat (first | apply Kd.V_alloc | apply Kd.V_drewN | apply Kd.V_drew)); exact HL171_0.out) hb); have n5_ := Aside0.mk (Kd.C_below (by first | ((with_reducible repeat (first | apply Kd.C_alloc | apply Kd.C_drewN | apply Kd.C_drew)); with_reducible exact HR166_0.out) | (repeat (first | (with_reducible exact HR166_0.out) | (with_reducible refine Kd.C_alloc ?_ _) | (with_reducible refine Kd.C_drewN ?_ _) | (with_reducible refine Kd.C_drew ?_) | exact HR166_0.out))) hb); have n6_ := Aside0.mk (Kd.C_below (by first | ((with_reducible repeat (first | apply Kd.C_alloc | apply Kd.C_drewN | apply Kd.C_drew)); with_reducible exact HR171_0.out) | (repeat (first | (with_reducible exact HR171_0.out) | (with_reducible refine Kd.C_alloc ?_ _) | (with_reducible refine Kd.C_drewN ?_ _) | (with_reducible refine Kd.C_drew ?_) | exact HR171_0.out))) hb); have n7_ := Aside0.mk (below_step (by repeat (first | (with_reducible first | exact HB.out | apply below_alloc | apply pw_below_drewN | apply below_drew1) | exact HB.out)) hb); clear HO162; clear HO165; clear HL166_0; clear HO170; clear HL171_0; clear HR166_0; clear HR171_0; clear HB; have HO162 := n0_; have HO165 := n1_; have HL166_0 := n2_; have HO170 := n3_; have HL171_0 := n4_; have HR166_0 := n5_; have HR171_0 := n6_; have HB := n7_; clear n0_ n1_ n2_ n3_ n4_ n5_ n6_ n7_; (try clear hb); (try clear hb2); (try clear hk); (try clear hi)) | ((with_reducible refine gate_dst (N := 63) rfl ?_); (try (refine gate_guard (by rfl) ?_; dsimp only)); refine Kd.R_lit (Kd.int .i64) _ 3 ?hg (N := 63) ?hd (xs := ([1, 1] : List Int)) (inner := [.int .i64 1, .int .i64 1]) (ok := fun _ => True) (okp := fun _ => True) ?hr ?hp (fun _ hk => hk) trivial (Below.refl _ _) (Nat.le_refl _) (by simp) ?_; (case hd => rfl); (case hg => rfl); (case hr => first | (go_simp; done) | (go_simp; rfl)); (case hp => exact (Reps.one (show Kd.M (Kd.int .i64) _ _ _ 1 [.int .i64 1] from rfl) (Reps.one (show Kd.M (Kd.int .i64) _ _ _ 1 [.int .i64 1] from rfl) (Reps.none _ _)))); intro v176 w63 ho64 hb hg_ hnew_; clear hg_ hnew_; (first | rw [← Ny175.out] at ho64 | (simp only [Int.reduceToNat] at ho64; rw [← Ny175.out] at ho64)); have n0_ := Aside0.mk (Kd.N_elder' (by (with_reducible repeat (first | apply Kd.N_alloc | apply Kd.N_drewN | apply Kd.N_drew)); exact HO162.out) (Kd.R_base ho64) hb); have n1_ := Aside0.mk (Kd.R_elder' (by (with_reducible repeat (first | apply Kd.R_alloc | apply Kd.R_drewN | apply Kd.R_drew)); exact HO165.out) (Kd.R_base ho64) hb); have n2_ := Aside0.mk (Kd.V_elder' (by (with_reducible repeat (first | apply Kd.V_alloc | apply Kd.V_drewN | apply Kd.V_drew)); exact HL166_0.out) (Kd.R_base ho64) hb); have n3_ := Aside0.mk (Kd.R_below (by (with_reducible repeat (first | apply Kd.R_alloc | apply Kd.R_drewN | apply Kd.R_drew)); exact HO170.out) hb); have n4_ := Aside0.mk (Kd.V_elder' (by (with_reducible repeat (first | apply Kd.V_alloc | apply Kd.V_drewN | apply Kd.V_drew)); exact HL171_0.out) (Kd.R_base ho64) hb); have n5_ := Aside0.mk (Kd.R_lower (Kd.R_new' ho64 (Kd.R_lt (by (with_reducible repeat (first | apply Kd.R_alloc | apply Kd.R_drewN | apply Kd.R_drew)); exact HO165.out))) (below_size (by repeat (first | (with_reducible first | exact HB.out | apply below_alloc | apply pw_below_drewN | apply below_drew1) | exact HB.out)))); have n6_ := Aside0.mk (Kd.C_below (by first | ((with_reducible repeat (first | apply Kd.C_alloc | apply Kd.C_drewN | apply Kd.C_drew)); with_reducible exact HR166_0.out) | (repeat (first | (with_reducible exact HR166_0.out) | (with_reducible refine Kd.C_alloc ?_ _) | (with_reducible refine Kd.C_drewN ?_ _) | (with_reducible refine Kd.C_drew ?_) | exact HR166_0.out))) hb); have n7_ := Aside0.mk (Kd.C_below (by first | ((with_reducible repeat (first | apply Kd.C_alloc | apply Kd.C_drewN | apply Kd.C_drew)); with_reducible exact HR171_0.out) | (repeat (first | (with_reducible exact HR171_0.out) | (with_reducible refine Kd.C_alloc ?_ _) | (with_reducible refine Kd.C_drewN ?_ _) | (with_reducible refine Kd.C_drew ?_) | exact HR171_0.out))) hb); have n8_ := Aside0.mk (below_step (by repeat (first | (with_reducible first | exact HB.out | apply below_alloc | apply pw_below_drewN | apply below_drew1) | exact HB.out)) hb); clear HO162; clear HO165; clear HL166_0; clear HO170; clear HL171_0; clear HR166_0; clear HR171_0; clear HB; have HO162 := n0_; have HO165 := n1_; have HL166_0 := n2_; have HO170 := n3_; have HL171_0 := n4_; have HO177 := n5_; have HR166_0 := n6_; have HR171_0 := n7_; have HB := n8_; clear n0_ n1_ n2_ n3_ n4_ n5_ n6_ n7_ n8_; clear hb ho64; obtain ⟨Ao65, co65, eo65⟩ := Kd.R_slice HO177.out; subst eo65) | ((with_reducible refine gate_callee (f := 26) rfl ?_); refine goesL_ (some 64) rfl rfl Try.func26 (by kernel_rfl) rfl #[.slice Ao65 y175.length co65, .int .i64 0, .int .i64 0] rfl (by (try simp only [List.map_toArray, List.map_cons, List.map_nil]); first | done | rfl | (simp only [List.length_drop, List.length_take]; rfl)) ?_; (with_reducible refine (huff_Find.calls _ _ y175 0 0 t178 false t180 _ ?side1 ?side2 A13.out).mono ?_); (case side1 => repeat (first | exact (Kd.R_reads' HO177.out).2.2 | (with_reducible refine Kd.C_alloc ?_ _) | (with_reducible refine Kd.C_drewN ?_ _) | (with_reducible refine Kd.C_drew ?_))); (case side2 => exact (Kd.R_reads' HO177.out).2.1); rintro e w66 ⟨rfl, hb⟩; refine ⟨_, rfl, ?_⟩; have n0_ := Aside0.mk (Kd.N_below (by (with_reducible repeat (first | apply Kd.N_alloc | apply Kd.N_drewN | apply Kd.N_drew)); exact HO162.out) hb); have n1_ := Aside0.mk (Kd.R_below (by (with_reducible repeat (first | apply Kd.R_alloc | apply Kd.R_drewN | apply Kd.R_drew)); exact HO165.out) hb); have n2_ := Aside0.mk (Kd.V_below (by (with_reducible repeat (first | apply Kd.V_alloc | apply Kd.V_drewN | apply Kd.V_drew)); exact HL166_0.out) hb); have n3_ := Aside0.mk (Kd.R_below (by (with_reducible repeat (first | apply Kd.R_alloc | apply Kd.R_drewN | apply Kd.R_drew)); exact HO170.out) hb); have n4_ := Aside0.mk (Kd.V_below (by (with_reducible repeat (first | apply Kd.V_alloc | apply Kd.V_drewN | apply Kd.V_drew)); exact HL171_0.out) hb); have n5_ := Aside0.mk (Kd.R_below (by (with_reducible repeat (first | apply Kd.R_alloc | apply Kd.R_drewN | apply Kd.R_drew)); exact HO177.out) hb); have n6_ := Aside0.mk (Kd.C_below (by first | ((with_reducible repeat (first | apply Kd.C_alloc | apply Kd.C_drewN | apply Kd.C_drew)); with_reducible exact HR166_0.out) | (repeat (first | (with_reducible exact HR166_0.out) | (with_reducible refine Kd.C_alloc ?_ _) | (with_reducible refine Kd.C_drewN ?_ _) | (with_reducible refine Kd.C_drew ?_) | exact HR166_0.out))) hb); have n7_ := Aside0.mk (Kd.C_below (by first | ((with_reducible repeat (first | apply Kd.C_alloc | apply Kd.C_drewN | apply Kd.C_drew)); with_reducible exact HR171_0.out) | (repeat (first | (with_reducible exact HR171_0.out) | (with_reducible refine Kd.C_alloc ?_ _) | (with_reducible refine Kd.C_drewN ?_ _) | (with_reducible refine Kd.C_drew ?_) | exact HR171_0.out))) hb); have n8_ := Aside0.mk (below_step (by repeat (first | (with_reducible first | exact HB.out | apply below_alloc | apply pw_below_drewN | apply below_drew1) | exact HB.out)) hb); clear HO162; clear HO165; clear HL166_0; clear HO170; clear HL171_0; clear HO177; clear HR166_0; clear HR171_0; clear HB; have HO162 := n0_; have HO165 := n1_; have HL166_0 := n2_; have HO170 := n3_; have HL171_0 := n4_; have HO177 := n5_; have HR166_0 := n6_; have HR171_0 := n7_; have HB := n8_; clear n0_ n1_ n2_ n3_ n4_ n5_ n6_ n7_ n8_; (try clear hb); (try clear hb2); (try clear hk); (try clear hi)) | ((with_reducible refine gate_dst (N := 69) rfl ?_); (try (refine gate_guard (by rfl) ?_; dsimp only)); refine Kd.R_lit (Kd.int .i64) _ 3 ?hg (N := 69) ?hd (xs := ([1, 1] : List Int)) (inner := [.int .i64 1, .int .i64 1]) (ok := fun _ => True) (okp := fun _ => True) ?hr ?hp (fun _ hk => hk) trivial (Below.refl _ _) (Nat.le_refl _) (by simp) ?_; (case hd => rfl); (case hg => rfl); (case hr => first | (go_simp; done) | (go_simp; rfl)); (case hp => exact (Reps.one (show Kd.M (Kd.int .i64) _ _ _ 1 [.int .i64 1] from rfl) (Reps.one (show Kd.M (Kd.int .i64) _ _ _ 1 [.int .i64 1] from rfl) (Reps.none _ _)))); intro v182 w67 ho68 hb hg_ hnew_; clear hg_ hnew_; (first | rw [← Ny181.out] at ho68 | (simp only [Int.reduceToNat] at ho68; rw [← Ny181.out] at ho68)); have n0_ := Aside0.mk (Kd.N_elder' (by (with_reducible repeat (first | apply Kd.N_alloc | apply Kd.N_drewN | apply Kd.N_drew)); exact HO162.out) (Kd.R_base ho68) hb); have n1_ := Aside0.mk (Kd.R_elder' (by (with_reducible repeat (first | apply Kd.R_alloc | apply Kd.R_drewN | apply Kd.R_drew)); exact HO165.out) (Kd.R_base ho68) hb); have n2_ := Aside0.mk (Kd.V_elder' (by (with_reducible repeat (first | apply Kd.V_alloc | apply Kd.V_drewN | apply Kd.V_drew)); exact HL166_0.out) (Kd.R_base ho68) hb); have n3_ := Aside0.mk (Kd.R_below (by (with_reducible repeat (first | apply Kd.R_alloc | apply Kd.R_drewN | apply Kd.R_drew)); exact HO170.out) hb); have n4_ := Aside0.mk (Kd.V_elder' (by (with_reducible repeat (first | apply Kd.V_alloc | apply Kd.V_drewN | apply Kd.V_drew)); exact HL171_0.out) (Kd.R_base ho68) hb); have n5_ := Aside0.mk (Kd.R_elder' (by (with_reducible repeat (first | apply Kd.R_alloc | apply Kd.R_drewN | apply Kd.R_drew)); exact HO177.out) (Kd.R_base ho68) hb); have n6_ := Aside0.mk (Kd.R_lower (Kd.R_new' (Kd.R_new' ho68 (Kd.R_lt (by (with_reducible repeat (first | apply Kd.R_alloc | apply Kd.R_drewN | apply Kd.R_drew)); exact HO165.out))) (Kd.R_lt (by (with_reducible repeat (first | apply Kd.R_alloc | apply Kd.R_drewN | apply Kd.R_drew)); exact HO177.out))) (below_size (by repeat (first | (with_reducible first | exact HB.out | apply below_alloc | apply pw_below_drewN | apply below_drew1) | exact HB.out)))); have n7_ := Aside0.mk (Kd.C_below (by first | ((with_reducible repeat (first | apply Kd.C_alloc | apply Kd.C_drewN | apply Kd.C_drew)); with_reducible exact HR166_0.out) | (repeat (first | (with_reducible exact HR166_0.out) | (with_reducible refine Kd.C_alloc ?_ _) | (with_reducible refine Kd.C_drewN ?_ _) | (with_reducible refine Kd.C_drew ?_) | exact HR166_0.out))) hb); have n8_ := Aside0.mk (Kd.C_below (by first | ((with_reducible repeat (first | apply Kd.C_alloc | apply Kd.C_drewN | apply Kd.C_drew)); with_reducible exact HR171_0.out) | (repeat (first | (with_reducible exact HR171_0.out) | (with_reducible refine Kd.C_alloc ?_ _) | (with_reducible refine Kd.C_drewN ?_ _) | (with_reducible refine Kd.C_drew ?_) | exact HR171_0.out))) hb); have n9_ := Aside0.mk (below_step (by repeat (first | (with_reducible first | exact HB.out | apply below_alloc | apply pw_below_drewN | apply below_drew1) | exact HB.out)) hb); clear HO162; clear HO165; clear HL166_0; clear HO170; clear HL171_0; clear HO177; clear HR166_0; clear HR171_0; clear HB; have HO162 := n0_; have HO165 := n1_; have HL166_0 := n2_; have HO170 := n3_; have HL171_0 := n4_; have HO177 := n5_; have HO183 := n6_; have HR166_0 := n7_; have HR171_0 := n8_; have HB := n9_; clear n0_ n1_ n2_ n3_ n4_ n5_ n6_ n7_ n8_ n9_; clear hb ho68; obtain ⟨Ao69, co69, eo69⟩ := Kd.R_slice HO183.out; subst eo69) | ((with_reducible refine gate_callee (f := 26) rfl ?_); refine goesL_ (some 72) rfl rfl Try.func26 (by kernel_rfl) rfl #[.slice Ao69 y181.length co69, .int .i64 1, .int .i64 (wrap64 (1 + (wrap64 (1 + (Go.bits .and .i64 a1 1023)))))] rfl (by (try simp only [List.map_toArray, List.map_cons, List.map_nil]); first | done | rfl | (simp only [List.length_drop, List.length_take]; rfl)) ?_; (with_reducible refine (huff_Find.calls _ _ y181 1 (wrap64 (1 + (wrap64 (1 + (Go.bits .and .i64 a1 1023))))) t184 false t186 _ ?side1 ?side2 A14.out).mono ?_); (case side1 => repeat (first | exact (Kd.R_reads' HO183.out).2.2 | (with_reducible refine Kd.C_alloc ?_ _) | (with_reducible refine Kd.C_drewN ?_ _) | (with_reducible refine Kd.C_drew ?_))); (case side2 => exact (Kd.R_reads' HO183.out).2.1); rintro e w70 ⟨rfl, hb⟩; refine ⟨_, rfl, ?_⟩; have n0_ := Aside0.mk (Kd.N_below (by (with_reducible repeat (first | apply Kd.N_alloc | apply Kd.N_drewN | apply Kd.N_drew)); exact HO162.out) hb); have n1_ := Aside0.mk (Kd.R_below (by (with_reducible repeat (first | apply Kd.R_alloc | apply Kd.R_drewN | apply Kd.R_drew)); exact HO165.out) hb); have n2_ := Aside0.mk (Kd.V_below (by (with_reducible repeat (first | apply Kd.V_alloc | apply Kd.V_drewN | apply Kd.V_drew)); exact HL166_0.out) hb); have n3_ := Aside0.mk (Kd.R_below (by (with_reducible repeat (first | apply Kd.R_alloc | apply Kd.R_drewN | apply Kd.R_drew)); exact HO170.out) hb); have n4_ := Aside0.mk (Kd.V_below (by (with_reducible repeat (first | apply Kd.V_alloc | apply Kd.V_drewN | apply Kd.V_drew)); exact HL171_0.out) hb); have n5_ := Aside0.mk (Kd.R_below (by (with_reducible repeat (first | apply Kd.R_alloc | apply Kd.R_drewN | apply Kd.R_drew)); exact HO177.out) hb); have n6_ := Aside0.mk (Kd.R_below (by (with_reducible repeat (first | apply Kd.R_alloc | apply Kd.R_drewN | apply Kd.R_drew)); exact HO183.out) hb); have n7_ := Aside0.mk (Kd.C_below (by first | ((with_reducible repeat (first | apply Kd.C_alloc | apply Kd.C_drewN | apply Kd.C_drew)); with_reducible exact HR166_0.out) | (repeat (first | (with_reducible exact HR166_0.out) | (with_reducible refine Kd.C_alloc ?_ _) | (with_reducible refine Kd.C_drewN ?_ _) | (with_reducible refine Kd.C_drew ?_) | exact HR166_0.out))) hb); have n8_ := Aside0.mk (Kd.C_below (by first | ((with_reducible repeat (first | apply Kd.C_alloc | apply Kd.C_drewN | apply Kd.C_drew)); with_reducible exact HR171_0.out) | (repeat (first | (with_reducible exact HR171_0.out) | (with_reducible refine Kd.C_alloc ?_ _) | (with_reducible refine Kd.C_drewN ?_ _) | (with_reducible refine Kd.C_drew ?_) | exact HR171_0.out))) hb); have n9_ := Aside0.mk (below_step (by repeat (first | (with_reducible first | exact HB.out | apply below_alloc | apply pw_below_drewN | apply below_drew1) | exact HB.out)) hb); clear HO162; clear HO165; clear HL166_0; clear HO170; clear HL171_0; clear HO177; clear HO183; clear HR166_0; clear HR171_0; clear HB; have HO162 := n0_; have HO165 := n1_; have HL166_0 := n2_; have HO170 := n3_; have HL171_0 := n4_; have HO177 := n5_; have HO183 := n6_; have HR166_0 := n7_; have HR171_0 := n8_; have HB := n9_; clear n0_ n1_ n2_ n3_ n4_ n5_ n6_ n7_ n8_ n9_; (try clear hb); (try clear hb2); (try clear hk); (try clear hi)) | ((with_reducible refine gate_dst (N := 77) rfl ?_); (try (refine gate_guard (by rfl) ?_; dsimp only)); refine Kd.R_lit (Kd.int .i64) _ 3 ?hg (N := 77) ?hd (xs := ([0, 0] : List Int)) (inner := [.int .i64 0, .int .i64 0]) (ok := fun _ => True) (okp := fun _ => True) ?hr ?hp (fun _ hk => hk) trivial (Below.refl _ _) (Nat.le_refl _) (by simp) ?_; (case hd => rfl); (case hg => rfl); (case hr => first | (go_simp; done) | (go_simp; rfl)); (case hp => exact (Reps.one (show Kd.M (Kd.int .i64) _ _ _ 0 [.int .i64 0] from rfl) (Reps.one (show Kd.M (Kd.int .i64) _ _ _ 0 [.int .i64 0] from rfl) (Reps.none _ _)))); intro v188 w71 ho72 hb hg_ hnew_; clear hg_ hnew_; (first | rw [← Ny187.out] at ho72 | (simp only [Int.reduceToNat] at ho72; rw [← Ny187.out] at ho72)); have n0_ := Aside0.mk (Kd.N_elder' (by (with_reducible repeat (first | apply Kd.N_alloc | apply Kd.N_drewN | apply Kd.N_drew)); exact HO162.out) (Kd.R_base ho72) hb); have n1_ := Aside0.mk (Kd.R_elder' (by (with_reducible repeat (first | apply Kd.R_alloc | apply Kd.R_drewN | apply Kd.R_drew)); exact HO165.out) (Kd.R_base ho72) hb); have n2_ := Aside0.mk (Kd.V_elder' (by (with_reducible repeat (first | apply Kd.V_alloc | apply Kd.V_drewN | apply Kd.V_drew)); exact HL166_0.out) (Kd.R_base ho72) hb); have n3_ := Aside0.mk (Kd.R_below (by (with_reducible repeat (first | apply Kd.R_alloc | apply Kd.R_drewN | apply Kd.R_drew)); exact HO170.out) hb); have n4_ := Aside0.mk (Kd.V_elder' (by (with_reducible repeat (first | apply Kd.V_alloc | apply Kd.V_drewN | apply Kd.V_drew)); exact HL171_0.out) (Kd.R_base ho72) hb); have n5_ := Aside0.mk (Kd.R_elder' (by (with_reducible repeat (first | apply Kd.R_alloc | apply Kd.R_drewN | apply Kd.R_drew)); exact HO177.out) (Kd.R_base ho72) hb); have n6_ := Aside0.mk (Kd.R_elder' (by (with_reducible repeat (first | apply Kd.R_alloc | apply Kd.R_drewN | apply Kd.R_drew)); exact HO183.out) (Kd.R_base ho72) hb); have n7_ := Aside0.mk (Kd.R_lower (Kd.R_new' (Kd.R_new' (Kd.R_new' ho72 (Kd.R_lt (by (with_reducible repeat (first | apply Kd.R_alloc | apply Kd.R_drewN | apply Kd.R_drew)); exact HO165.out))) (Kd.R_lt (by (with_reducible repeat (first | apply Kd.R_alloc | apply Kd.R_drewN | apply Kd.R_drew)); exact HO177.out))) (Kd.R_lt (by (with_reducible repeat (first | apply Kd.R_alloc | apply Kd.R_drewN | apply Kd.R_drew)); exact HO183.out))) (below_size (by repeat (first | (with_reducible first | exact HB.out | apply below_alloc | apply pw_below_drewN | apply below_drew1) | exact HB.out)))); have n8_ := Aside0.mk (Kd.C_below (by first | ((with_reducible repeat (first | apply Kd.C_alloc | apply Kd.C_drewN | apply Kd.C_drew)); with_reducible exact HR166_0.out) | (repeat (first | (with_reducible exact HR166_0.out) | (with_reducible refine Kd.C_alloc ?_ _) | (with_reducible refine Kd.C_drewN ?_ _) | (with_reducible refine Kd.C_drew ?_) | exact HR166_0.out))) hb); have n9_ := Aside0.mk (Kd.C_below (by first | ((with_reducible repeat (first | apply Kd.C_alloc | apply Kd.C_drewN | apply Kd.C_drew)); with_reducible exact HR171_0.out) | (repeat (first | (with_reducible exact HR171_0.out) | (with_reducible refine Kd.C_alloc ?_ _) | (with_reducible refine Kd.C_drewN ?_ _) | (with_reducible refine Kd.C_drew ?_) | exact HR171_0.out))) hb); have n10_ := Aside0.mk (below_step (by repeat (first | (with_reducible first | exact HB.out | apply below_alloc | apply pw_below_drewN | apply below_drew1) | exact HB.out)) hb); clear HO162; clear HO165; clear HL166_0; clear HO170; clear HL171_0; clear HO177; clear HO183; clear HR166_0; clear HR171_0; clear HB; have HO162 := n0_; have HO165 := n1_; have HL166_0 := n2_; have HO170 := n3_; have HL171_0 := n4_; have HO177 := n5_; have HO183 := n6_; have HO189 := n7_; have HR166_0 := n8_; have HR171_0 := n9_; have HB := n10_; clear n0_ n1_ n2_ n3_ n4_ n5_ n6_ n7_ n8_ n9_ n10_; clear hb ho72; obtain ⟨Ao73, co73, eo73⟩ := Kd.R_slice HO189.out; subst eo73) | ((with_reducible refine gate_callee (f := 24) rfl ?_); refine goesL_ (some 78) rfl rfl Try.func24 (by kernel_rfl) rfl #[.slice Ao73 y187.length co73] rfl (by (try simp only [List.map_toArray, List.map_cons, List.map_nil]); first | done | rfl | (simp only [List.length_drop, List.length_take]; rfl)) ?_; (with_reducible refine (huff_Codes.calls _ _ y187 t190 t191 _ ?side1 ?side2 A15.out).mono ?_); (case side1 => repeat (first | exact (Kd.R_reads' HO189.out).2.2 | (with_reducible refine Kd.C_alloc ?_ _) | (with_reducible refine Kd.C_drewN ?_ _) | (with_reducible refine Kd.C_drew ?_))); (case side2 => exact (Kd.R_reads' HO189.out).2.1); rintro e w74 ⟨v192, rfl, ho0, hb⟩; refine ⟨_, rfl, ?_⟩; have n0_ := Aside0.mk (Kd.N_elder' (by (with_reducible repeat (first | apply Kd.N_alloc | apply Kd.N_drewN | apply Kd.N_drew)); exact HO162.out) (Kd.R_base ho0) hb); have n1_ := Aside0.mk (Kd.R_below (by (with_reducible repeat (first | apply Kd.R_alloc | apply Kd.R_drewN | apply Kd.R_drew)); exact HO165.out) hb); have n2_ := Aside0.mk (Kd.V_elder' (by (with_reducible repeat (first | apply Kd.V_alloc | apply Kd.V_drewN | apply Kd.V_drew)); exact HL166_0.out) (Kd.R_base ho0) hb); have n3_ := Aside0.mk (Kd.R_elder' (by (with_reducible repeat (first | apply Kd.R_alloc | apply Kd.R_drewN | apply Kd.R_drew)); exact HO170.out) (Kd.R_base ho0) hb); have n4_ := Aside0.mk (Kd.V_elder' (by (with_reducible repeat (first | apply Kd.V_alloc | apply Kd.V_drewN | apply Kd.V_drew)); exact HL171_0.out) (Kd.R_base ho0) hb); have n5_ := Aside0.mk (Kd.R_below (by (with_reducible repeat (first | apply Kd.R_alloc | apply Kd.R_drewN | apply Kd.R_drew)); exact HO177.out) hb); have n6_ := Aside0.mk (Kd.R_below (by (with_reducible repeat (first | apply Kd.R_alloc | apply Kd.R_drewN | apply Kd.R_drew)); exact HO183.out) hb); have n7_ := Aside0.mk (Kd.R_below (by (with_reducible repeat (first | apply Kd.R_alloc | apply Kd.R_drewN | apply Kd.R_drew)); exact HO189.out) hb); have n8_ := Aside0.mk (Kd.R_lower (Kd.R_new' ho0 (Kd.R_lt (by (with_reducible repeat (first | apply Kd.R_alloc | apply Kd.R_drewN | apply Kd.R_drew)); exact HO170.out))) (below_size (by repeat (first | (with_reducible first | exact HB.out | apply below_alloc | apply pw_below_drewN | apply below_drew1) | exact HB.out)))); have n9_ := Aside0.mk (Kd.C_below (by first | ((with_reducible repeat (first | apply Kd.C_alloc | apply Kd.C_drewN | apply Kd.C_drew)); with_reducible exact HR166_0.out) | (repeat (first | (with_reducible exact HR166_0.out) | (with_reducible refine Kd.C_alloc ?_ _) | (with_reducible refine Kd.C_drewN ?_ _) | (with_reducible refine Kd.C_drew ?_) | exact HR166_0.out))) hb); have n10_ := Aside0.mk (Kd.C_below (by first | ((with_reducible repeat (first | apply Kd.C_alloc | apply Kd.C_drewN | apply Kd.C_drew)); with_reducible exact HR171_0.out) | (repeat (first | (with_reducible exact HR171_0.out) | (with_reducible refine Kd.C_alloc ?_ _) | (with_reducible refine Kd.C_drewN ?_ _) | (with_reducible refine Kd.C_drew ?_) | exact HR171_0.out))) hb); have n11_ := Aside0.mk (below_step (by repeat (first | (with_reducible first | exact HB.out | apply below_alloc | apply pw_below_drewN | apply below_drew1) | exact HB.out)) hb); clear HO162; clear HO165; clear HL166_0; clear HO170; clear HL171_0; clear HO177; clear HO183; clear HO189; clear HR166_0; clear HR171_0; clear HB; have HO162 := n0_; have HO165 := n1_; have HL166_0 := n2_; have HO170 := n3_; have HL171_0 := n4_; have HO177 := n5_; have HO183 := n6_; have HO189 := n7_; have HO193 := n8_; have HR166_0 := n9_; have HR171_0 := n10_; have HB := n11_; clear n0_ n1_ n2_ n3_ n4_ n5_ n6_ n7_ n8_ n9_ n10_ n11_; (try clear hb); (try clear hb2); (try clear hk); (try clear hi); (try clear ho0)))
                                  have n0_ := Aside0.mk (Kd.N_drew HO162.out)
                                  have n1_ := Aside0.mk (Kd.R_drew HO165.out)
                                  have n2_ := Aside0.mk (Kd.V_drew HL166_0.out)
                                  have n3_ := Aside0.mk (Kd.R_drew HO170.out)
                                  have n4_ := Aside0.mk (Kd.V_drew HL171_0.out)
                                  have n5_ := Aside0.mk (Kd.R_drew HO177.out)
                                  have n6_ := Aside0.mk (Kd.R_drew HO183.out)
                                  have n7_ := Aside0.mk (Kd.R_drew HO189.out)
                                  have n8_ := Aside0.mk (Kd.R_drew HO193.out)
                                  have n9_ := Aside0.mk (Kd.C_drew HR166_0.out)
                                  have n10_ := Aside0.mk (Kd.C_drew HR171_0.out)
                                  have n11_ := Aside0.mk (below_drew1 HB.out)
                                  clear HO162
                                  clear HO165
                                  clear HL166_0
                                  clear HO170
                                  clear HL171_0
                                  clear HO177
                                  clear HO183
                                  clear HO189
                                  clear HO193
                                  clear HR166_0
                                  clear HR171_0
                                  clear HB
                                  have HO162 := n0_
                                  have HO165 := n1_
                                  have HL166_0 := n2_
                                  have HO170 := n3_
                                  have HL171_0 := n4_
                                  have HO177 := n5_
                                  have HO183 := n6_
                                  have HO189 := n7_
                                  have HO193 := n8_
                                  have HR166_0 := n9_
                                  have HR171_0 := n10_
                                  have HB := n11_
                                  clear n0_ n1_ n2_ n3_ n4_ n5_ n6_ n7_ n8_ n9_ n10_ n11_
                                  have p194 : 0 ≤ ((ji8) : Int) := of_decide_eq_true (by first | (with_reducible assumption) | assumption)
                                  have q194 : (ji8) < (y160.length : Int) := of_decide_eq_true (by first | (with_reducible assumption) | assumption)
                                  obtain ⟨ad194, A194_0, c194_0, e194, hx194_0, hl194_0, hi194_0⟩ := at_L3 (Kd.N_reads' HO162.out).2.2 (ji8) p194 q194
                                  obtain rfl : ad166 = ad194 := (by injection e194)
                                  obtain ⟨ce194, hce194, hMe194, hcc194⟩ := Kd.N_get HO162.out [] (ji8) p194 (by first | exact q194 | exact of_decide_eq_true (by first | (with_reducible assumption) | assumption) | (have e_ := (Kd.N_reads' HO162.out).1; omega))
                                  obtain ⟨ua194_0, uc194_0, rfl, ul194_0, ge194_0⟩ := Kd.FK_slice_open hMe194
                                  have hv194_0 := hcc194 0 _ rfl
                                  rw [Nat.add_zero, show ((Kd.slice 3 (Kd.int .i64))).sz = 1 from rfl, Nat.mul_one] at hv194_0
                                  replace hv194_0 := Option.some.inj (hv194_0.symm.trans hx194_0)
                                  injection hv194_0 with hva_ hvn_ hvc_
                                  rw [hva_] at ge194_0
                                  rw [hvc_] at ul194_0
                                  have HL194_0 := Aside0.mk (show Kd.V (Kd.int .i64) 3 _ w.heap.size _ _ (rd_L3 y160 (ji8)) from Kd.V_mk ul194_0 ge194_0)
                                  clear hva_ hvn_ hvc_ ge194_0 ul194_0
                                  clear hcc194 hce194
                                  have HR194_0 := Aside0.mk hi194_0
                                  have HC194_0 := Aside0.mk hl194_0
                                  clear hi194_0 hl194_0
                                  replace p194 := eq_true p194
                                  replace q194 := eq_true q194
                                  obtain ⟨Ao76, co76, eo76⟩ := Kd.R_slice HO165.out
                                  (first | subst eo76 | (injection eo76 with f1_ f2_ f3_; have f4_ := f1_.symm; have f5_ := f3_.symm; clear f1_ f2_ f3_; subst f4_; subst f5_))
                                  have p197 : 0 ≤ ((ji8) : Int) := of_decide_eq_true (by first | (with_reducible assumption) | assumption)
                                  have q197 : (ji8) < (y163.length : Int) := of_decide_eq_true (by first | (with_reducible assumption) | assumption)
                                  obtain ⟨ad197, e197, hx197_0⟩ := Kd.at_int (Kd.R_reads' HO165.out).2.2 (ji8) p197 q197
                                  cases e197
                                  replace p197 := eq_true p197
                                  replace q197 := eq_true q197
                                  have p199 : 0 ≤ ((ji8) : Int) := of_decide_eq_true (by first | (with_reducible assumption) | assumption)
                                  have q199 : (ji8) < (y163.length : Int) := of_decide_eq_true (by first | (with_reducible assumption) | assumption)
                                  obtain ⟨ad199, e199, hx199_0⟩ := Kd.at_int (Kd.R_reads' HO165.out).2.2 (ji8) p199 q199
                                  obtain rfl : ad197 = ad199 := (by injection e199)
                                  replace p199 := eq_true p199
                                  replace q199 := eq_true q199
                                  have p201 : 0 ≤ ((ji8) : Int) := of_decide_eq_true (by first | (with_reducible assumption) | assumption)
                                  have q201 : (ji8) < (y163.length : Int) := of_decide_eq_true (by first | (with_reducible assumption) | assumption)
                                  obtain ⟨ad201, e201, hx201_0⟩ := Kd.at_int (Kd.R_reads' HO165.out).2.2 (ji8) p201 q201
                                  obtain rfl : ad197 = ad201 := (by injection e201)
                                  replace p201 := eq_true p201
                                  replace q201 := eq_true q201
                                  refine start_ (n := 70) (S := fun w' => w'.cell? (ad166.add ((ji8)).toNat) = some (.slice A194_0 (rd_L3 y160 (ji8)).length c194_0) ∧ w'.cell? (ad197.add ((ji8)).toNat) = some (.int .i64 (rd y163 (ji8))) ∧ w'.cell? (ad197.add ((ji8)).toNat) = some (.int .i64 (rd y163 (ji8))) ∧ w'.cell? (ad197.add ((ji8)).toNat) = some (.int .i64 (rd y163 (ji8)))) (ds := []) #[false, false, false, false, false, false, false, false, false, false, false, false, false, false, false, false, false, false, false, false, false, false, false, false, false, false, false, false, false, false, false, false, false, false, false, false, false, false, false, false, false, false, false, false, false, false, false, false, false, false, false, false, false, false, false, false, false, false, false, false, false, false, false, false, false, false, false, false, false, false] (by kernel_rfl) rfl rfl ⟨hx194_0, hx197_0, hx199_0, hx201_0⟩ (fun hHeld => ?_); refine with_tabW portagelaw3_HuffForms.tab12 portagelaw3_HuffForms.bits12 (fun HT_ HW_ => ?_)
                                  generalize w74.drew = w75 at HO162 HO165 HL166_0 HO170 HL171_0 HO177 HO183 HO189 HO193 HR166_0 HR171_0 HB HL194_0 HR194_0 hx194_0 hx197_0 hx199_0 hx201_0 hHeld ⊢
                                  refine pure_ (i := 0) (N := some 81) (v := ?_) (a' := ?_) #[true, false, false, false, false, false, false, false, false, false, false, false, false, false, false, false, false, false, false, false, false, false, false, false, false, false, false, false, false, false, false, false, false, false, false, false, false, false, false, false, false, false, false, false, false, false, false, false, false, false, false, false, false, false, false, false, false, false, false, false, false, false, false, false, false, false, false, false, false, false] rfl rfl (any_of HT_.out (by kernel_rfl)) (fun _ _ _ h => h) (Or.inl ⟨by rfl, ?_⟩) ?_ ?_
                                  rotate_left
                                  · intro w'
                                    go_simp
                                    with_reducible rfl
                                  rotate_left
                                  · simp only [Act.put, List.setIfInBounds_toArray, List.set_cons_zero, List.set_cons_succ, i64_w, i32_w, IntKind.wrap_u8, IntKind.wrap_u32]
                                    rfl
                                  refine pure_ (i := 1) (N := some 82) (v := ?_) (a' := ?_) #[true, true, false, false, false, false, false, false, false, false, false, false, false, false, false, false, false, false, false, false, false, false, false, false, false, false, false, false, false, false, false, false, false, false, false, false, false, false, false, false, false, false, false, false, false, false, false, false, false, false, false, false, false, false, false, false, false, false, false, false, false, false, false, false, false, false, false, false, false, false] rfl rfl (any_of HT_.out (by kernel_rfl)) (fun _ _ _ h => h) (Or.inl ⟨by rfl, ?_⟩) ?_ ?_
                                  rotate_left
                                  · intro w'
                                    go_simp
                                    with_reducible rfl
                                  rotate_left
                                  · simp only [Act.put, List.setIfInBounds_toArray, List.set_cons_zero, List.set_cons_succ, i64_w, i32_w, IntKind.wrap_u8, IntKind.wrap_u32]
                                    rfl
                                  refine pure_ (i := 2) (N := some 83) (v := ?_) (a' := ?_) #[true, true, true, false, false, false, false, false, false, false, false, false, false, false, false, false, false, false, false, false, false, false, false, false, false, false, false, false, false, false, false, false, false, false, false, false, false, false, false, false, false, false, false, false, false, false, false, false, false, false, false, false, false, false, false, false, false, false, false, false, false, false, false, false, false, false, false, false, false, false] rfl rfl (any_of HT_.out (by kernel_rfl)) (fun _ _ _ h => h) (Or.inl ⟨by rfl, ?_⟩) ?_ ?_
                                  rotate_left
                                  · intro w'
                                    go_simp
                                    with_reducible rfl
                                  rotate_left
                                  · simp only [Act.put, List.setIfInBounds_toArray, List.set_cons_zero, List.set_cons_succ, i64_w, i32_w, IntKind.wrap_u8, IntKind.wrap_u32]
                                    rfl
                                  refine pure_ (i := 6) (N := some 87) (v := ?_) (a' := ?_) #[true, true, true, false, false, false, true, false, false, false, false, false, false, false, false, false, false, false, false, false, false, false, false, false, false, false, false, false, false, false, false, false, false, false, false, false, false, false, false, false, false, false, false, false, false, false, false, false, false, false, false, false, false, false, false, false, false, false, false, false, false, false, false, false, false, false, false, false, false, false] rfl rfl (any_of HT_.out (by kernel_rfl)) (fun _ _ _ h => h) (Or.inl ⟨by rfl, ?_⟩) ?_ ?_
                                  rotate_left
                                  · intro w'
                                    go_simp
                                    with_reducible rfl
                                  rotate_left
                                  · simp only [Act.put, List.setIfInBounds_toArray, List.set_cons_zero, List.set_cons_succ, i64_w, i32_w, IntKind.wrap_u8, IntKind.wrap_u32]
                                    rfl
                                  refine pure_ (i := 7) (N := some 88) (v := ?_) (a' := ?_) #[true, true, true, false, false, false, true, true, false, false, false, false, false, false, false, false, false, false, false, false, false, false, false, false, false, false, false, false, false, false, false, false, false, false, false, false, false, false, false, false, false, false, false, false, false, false, false, false, false, false, false, false, false, false, false, false, false, false, false, false, false, false, false, false, false, false, false, false, false, false] rfl rfl (any_of HT_.out (by kernel_rfl)) (fun _ _ _ h => h) (Or.inl ⟨by rfl, ?_⟩) ?_ ?_
                                  rotate_left
                                  · intro w'
                                    go_simp
                                    with_reducible rfl
                                  rotate_left
                                  · simp only [Act.put, List.setIfInBounds_toArray, List.set_cons_zero, List.set_cons_succ, i64_w, i32_w, IntKind.wrap_u8, IntKind.wrap_u32]
                                    rfl
                                  refine pure_ (i := 8) (N := some 89) (v := ?_) (a' := ?_) #[true, true, true, false, false, false, true, true, true, false, false, false, false, false, false, false, false, false, false, false, false, false, false, false, false, false, false, false, false, false, false, false, false, false, false, false, false, false, false, false, false, false, false, false, false, false, false, false, false, false, false, false, false, false, false, false, false, false, false, false, false, false, false, false, false, false, false, false, false, false] rfl rfl (any_of HT_.out (by kernel_rfl)) (fun _ _ _ h => h) (Or.inl ⟨by rfl, ?_⟩) ?_ ?_
                                  rotate_left
                                  · intro w'
                                    go_simp
                                    with_reducible rfl
                                  rotate_left
                                  · simp only [Act.put, List.setIfInBounds_toArray, List.set_cons_zero, List.set_cons_succ, i64_w, i32_w, IntKind.wrap_u8, IntKind.wrap_u32]
                                    rfl
                                  refine take_ (i := 3) (N := some 84) (v := ?_) (a' := ?_) #[true, true, true, true, false, false, true, true, true, false, false, false, false, false, false, false, false, false, false, false, false, false, false, false, false, false, false, false, false, false, false, false, false, false, false, false, false, false, false, false, false, false, false, false, false, false, false, false, false, false, false, false, false, false, false, false, false, false, false, false, false, false, false, false, false, false, false, false, false, false] rfl rfl (take_ofW HT_.out HW_.out (by kernel_rfl)) (fun _ _ _ h => h) (Or.inl ⟨by rfl, ?_⟩) hHeld ?_ ?_
                                  rotate_left
                                  · rintro w' ⟨s0, s1, s2, s3⟩
                                    go_simp
                                    with_reducible rfl
                                  rotate_left
                                  · simp only [Act.put, List.setIfInBounds_toArray, List.set_cons_zero, List.set_cons_succ, i64_w, i32_w, IntKind.wrap_u8, IntKind.wrap_u32]
                                    rfl
                                  refine take_ (i := 9) (N := some 90) (v := ?_) (a' := ?_) #[true, true, true, true, false, false, true, true, true, true, false, false, false, false, false, false, false, false, false, false, false, false, false, false, false, false, false, false, false, false, false, false, false, false, false, false, false, false, false, false, false, false, false, false, false, false, false, false, false, false, false, false, false, false, false, false, false, false, false, false, false, false, false, false, false, false, false, false, false, false] rfl rfl (take_ofW HT_.out HW_.out (by kernel_rfl)) (fun _ _ _ h => h) (Or.inl ⟨by rfl, ?_⟩) hHeld ?_ ?_
                                  rotate_left
                                  · rintro w' ⟨s0, s1, s2, s3⟩
                                    go_simp
                                    with_reducible rfl
                                  rotate_left
                                  · simp only [Act.put, List.setIfInBounds_toArray, List.set_cons_zero, List.set_cons_succ, i64_w, i32_w, IntKind.wrap_u8, IntKind.wrap_u32]
                                    rfl
                                  refine one_ (i := 4) (N := some 85) #[true, true, true, true, true, false, true, true, true, true, false, false, false, false, false, false, false, false, false, false, false, false, false, false, false, false, false, false, false, false, false, false, false, false, false, false, false, false, false, false, false, false, false, false, false, false, false, false, false, false, false, false, false, false, false, false, false, false, false, false, false, false, false, false, false, false, false, false, false, false] rfl rfl (one_of HT_.out (by kernel_rfl)) (by decide) (fun K hK => ?_)
                                  refine goes_ Try.func30 (by kernel_rfl) rfl #[.slice A194_0 (rd_L3 y160 (ji8)).length c194_0] (by rfl) rfl rfl (by (try simp only [List.map_toArray, List.map_cons, List.map_nil]); first | done | (simp only [hji8]; rfl) | rfl | (simp only [List.length_drop, List.length_take]; rfl)) ?_
                                  with_reducible refine (huff_Check.calls _ _ (rd_L3 y160 (ji8)) t195 _ ?side1 ?side2 A16.out).mono ?_
                                  (case side1 => repeat (first | exact (by first | ((with_reducible repeat (first | apply Kd.C_alloc | apply Kd.C_drewN | apply Kd.C_drew)); with_reducible exact HR194_0.out) | (repeat (first | (with_reducible exact HR194_0.out) | (with_reducible refine Kd.C_alloc ?_ _) | (with_reducible refine Kd.C_drewN ?_ _) | (with_reducible refine Kd.C_drew ?_) | exact HR194_0.out))) | (with_reducible refine Kd.C_alloc ?_ _) | (with_reducible refine Kd.C_drewN ?_ _) | (with_reducible refine Kd.C_drew ?_)))
                                  (case side2 => exact HC194_0.out)
                                  rintro e w77 ⟨rfl, hb⟩
                                  have HS0_ := (hb.cell (World.block_lt_of_cell? _ _ (hHeld.1))).trans (hHeld.1)
                                  have HS1_ := (hb.cell (World.block_lt_of_cell? _ _ (hHeld.2.1))).trans (hHeld.2.1)
                                  have HS2_ := (hb.cell (World.block_lt_of_cell? _ _ (hHeld.2.2.1))).trans (hHeld.2.2.1)
                                  have HS3_ := (hb.cell (World.block_lt_of_cell? _ _ (hHeld.2.2.2))).trans (hHeld.2.2.2)
                                  refine ⟨_, rfl, ?_⟩
                                  have n0_ := Aside0.mk (Kd.N_below (by (with_reducible repeat (first | apply Kd.N_alloc | apply Kd.N_drewN | apply Kd.N_drew)); exact HO162.out) hb)
                                  have n1_ := Aside0.mk (Kd.R_below (by (with_reducible repeat (first | apply Kd.R_alloc | apply Kd.R_drewN | apply Kd.R_drew)); exact HO165.out) hb)
                                  have n2_ := Aside0.mk (Kd.V_below (by (with_reducible repeat (first | apply Kd.V_alloc | apply Kd.V_drewN | apply Kd.V_drew)); exact HL166_0.out) hb)
                                  have n3_ := Aside0.mk (Kd.R_below (by (with_reducible repeat (first | apply Kd.R_alloc | apply Kd.R_drewN | apply Kd.R_drew)); exact HO170.out) hb)
                                  have n4_ := Aside0.mk (Kd.V_below (by (with_reducible repeat (first | apply Kd.V_alloc | apply Kd.V_drewN | apply Kd.V_drew)); exact HL171_0.out) hb)
                                  have n5_ := Aside0.mk (Kd.R_below (by (with_reducible repeat (first | apply Kd.R_alloc | apply Kd.R_drewN | apply Kd.R_drew)); exact HO177.out) hb)
                                  have n6_ := Aside0.mk (Kd.R_below (by (with_reducible repeat (first | apply Kd.R_alloc | apply Kd.R_drewN | apply Kd.R_drew)); exact HO183.out) hb)
                                  have n7_ := Aside0.mk (Kd.R_below (by (with_reducible repeat (first | apply Kd.R_alloc | apply Kd.R_drewN | apply Kd.R_drew)); exact HO189.out) hb)
                                  have n8_ := Aside0.mk (Kd.R_below (by (with_reducible repeat (first | apply Kd.R_alloc | apply Kd.R_drewN | apply Kd.R_drew)); exact HO193.out) hb)
                                  have n9_ := Aside0.mk (Kd.V_below (by (with_reducible repeat (first | apply Kd.V_alloc | apply Kd.V_drewN | apply Kd.V_drew)); exact HL194_0.out) hb)
                                  have n10_ := Aside0.mk (Kd.C_below (by first | ((with_reducible repeat (first | apply Kd.C_alloc | apply Kd.C_drewN | apply Kd.C_drew)); with_reducible exact HR166_0.out) | (repeat (first | (with_reducible exact HR166_0.out) | (with_reducible refine Kd.C_alloc ?_ _) | (with_reducible refine Kd.C_drewN ?_ _) | (with_reducible refine Kd.C_drew ?_) | exact HR166_0.out))) hb)
                                  have n11_ := Aside0.mk (Kd.C_below (by first | ((with_reducible repeat (first | apply Kd.C_alloc | apply Kd.C_drewN | apply Kd.C_drew)); with_reducible exact HR171_0.out) | (repeat (first | (with_reducible exact HR171_0.out) | (with_reducible refine Kd.C_alloc ?_ _) | (with_reducible refine Kd.C_drewN ?_ _) | (with_reducible refine Kd.C_drew ?_) | exact HR171_0.out))) hb)
                                  have n12_ := Aside0.mk (Kd.C_below (by first | ((with_reducible repeat (first | apply Kd.C_alloc | apply Kd.C_drewN | apply Kd.C_drew)); with_reducible exact HR194_0.out) | (repeat (first | (with_reducible exact HR194_0.out) | (with_reducible refine Kd.C_alloc ?_ _) | (with_reducible refine Kd.C_drewN ?_ _) | (with_reducible refine Kd.C_drew ?_) | exact HR194_0.out))) hb)
                                  have n13_ := Aside0.mk (below_step (by repeat (first | (with_reducible first | exact HB.out | apply below_alloc | apply pw_below_drewN | apply below_drew1) | exact HB.out)) hb)
                                  clear HO162
                                  clear HO165
                                  clear HL166_0
                                  clear HO170
                                  clear HL171_0
                                  clear HO177
                                  clear HO183
                                  clear HO189
                                  clear HO193
                                  clear HL194_0
                                  clear HR166_0
                                  clear HR171_0
                                  clear HR194_0
                                  clear HB
                                  have HO162 := n0_
                                  have HO165 := n1_
                                  have HL166_0 := n2_
                                  have HO170 := n3_
                                  have HL171_0 := n4_
                                  have HO177 := n5_
                                  have HO183 := n6_
                                  have HO189 := n7_
                                  have HO193 := n8_
                                  have HL194_0 := n9_
                                  have HR166_0 := n10_
                                  have HR171_0 := n11_
                                  have HR194_0 := n12_
                                  have HB := n13_
                                  clear n0_ n1_ n2_ n3_ n4_ n5_ n6_ n7_ n8_ n9_ n10_ n11_ n12_ n13_
                                  (try clear hb)
                                  (try clear hb2)
                                  (try clear hk)
                                  (try clear hi)
                                  refine hK.out _ _ ⟨HS0_, HS1_, HS2_, HS3_⟩ (fun hHeld => ?_)
                                  clear hK K
                                  refine norm_ (a' := ?_) ?_ ?_
                                  rotate_left
                                  · show Act.put _ (some 85) _ = _
                                    simp only [Act.put, List.setIfInBounds_toArray, List.set_cons_zero, List.set_cons_succ, i64_w, i32_w, IntKind.wrap_u8, IntKind.wrap_u32]
                                    rfl
                                  refine one_ (i := 5) (N := some 86) #[true, true, true, true, true, true, true, true, true, true, false, false, false, false, false, false, false, false, false, false, false, false, false, false, false, false, false, false, false, false, false, false, false, false, false, false, false, false, false, false, false, false, false, false, false, false, false, false, false, false, false, false, false, false, false, false, false, false, false, false, false, false, false, false, false, false, false, false, false, false] rfl rfl (one_of HT_.out (by kernel_rfl)) (by decide) (fun K hK => ?_)
                                  refine goes_ Try.func29 (by kernel_rfl) rfl #[.int .i64 t195] (by rfl) rfl rfl (by (try simp only [List.map_toArray, List.map_cons, List.map_nil]); first | done | rfl | (simp only [List.length_drop, List.length_take]; rfl)) ?_
                                  with_reducible refine (portagelaw0_Num.calls t195 t196 _ A17.out).mono ?_
                                  rintro e w' ⟨rfl, ⟨nd, rfl⟩⟩
                                  refine ⟨_, rfl, ?_⟩
                                  refine hK.out _ _ ⟨hHeld.1, hHeld.2.1, hHeld.2.2.1, hHeld.2.2.2⟩ (fun hHeld => ?_)
                                  clear hK K
                                  refine norm_ (a' := ?_) ?_ ?_
                                  rotate_left
                                  · show Act.put _ (some 86) _ = _
                                    simp only [Act.put, List.setIfInBounds_toArray, List.set_cons_zero, List.set_cons_succ, i64_w, i32_w, IntKind.wrap_u8, IntKind.wrap_u32]
                                    rfl
                                  refine pure_ (i := 10) (N := some 91) (v := ?_) (a' := ?_) #[true, true, true, true, true, true, true, true, true, true, true, false, false, false, false, false, false, false, false, false, false, false, false, false, false, false, false, false, false, false, false, false, false, false, false, false, false, false, false, false, false, false, false, false, false, false, false, false, false, false, false, false, false, false, false, false, false, false, false, false, false, false, false, false, false, false, false, false, false, false] rfl rfl (any_of HT_.out (by kernel_rfl)) (fun _ _ _ h => h) (Or.inl ⟨by rfl, ?_⟩) ?_ ?_
                                  rotate_left
                                  · intro w'
                                    go_simp
                                    with_reducible rfl
                                  rotate_left
                                  · simp only [Act.put, List.setIfInBounds_toArray, List.set_cons_zero, List.set_cons_succ, i64_w, i32_w, IntKind.wrap_u8, IntKind.wrap_u32]
                                    rfl
                                  refine pure_ (i := 11) (N := some 92) (v := ?_) (a' := ?_) #[true, true, true, true, true, true, true, true, true, true, true, true, false, false, false, false, false, false, false, false, false, false, false, false, false, false, false, false, false, false, false, false, false, false, false, false, false, false, false, false, false, false, false, false, false, false, false, false, false, false, false, false, false, false, false, false, false, false, false, false, false, false, false, false, false, false, false, false, false, false] rfl rfl (any_of HT_.out (by kernel_rfl)) (fun _ _ _ h => h) (Or.inl ⟨by rfl, ?_⟩) ?_ ?_
                                  rotate_left
                                  · intro w'
                                    go_simp
                                    with_reducible rfl
                                  rotate_left
                                  · simp only [Act.put, List.setIfInBounds_toArray, List.set_cons_zero, List.set_cons_succ, i64_w, i32_w, IntKind.wrap_u8, IntKind.wrap_u32]
                                    rfl
                                  refine pure_ (i := 12) (N := some 93) (v := ?_) (a' := ?_) #[true, true, true, true, true, true, true, true, true, true, true, true, true, false, false, false, false, false, false, false, false, false, false, false, false, false, false, false, false, false, false, false, false, false, false, false, false, false, false, false, false, false, false, false, false, false, false, false, false, false, false, false, false, false, false, false, false, false, false, false, false, false, false, false, false, false, false, false, false, false] rfl rfl (any_of HT_.out (by kernel_rfl)) (fun _ _ _ h => h) (Or.inl ⟨by rfl, ?_⟩) ?_ ?_
                                  rotate_left
                                  · intro w'
                                    go_simp
                                    with_reducible rfl
                                  rotate_left
                                  · simp only [Act.put, List.setIfInBounds_toArray, List.set_cons_zero, List.set_cons_succ, i64_w, i32_w, IntKind.wrap_u8, IntKind.wrap_u32]
                                    rfl
                                  refine pure_ (i := 14) (N := some 95) (v := ?_) (a' := ?_) #[true, true, true, true, true, true, true, true, true, true, true, true, true, false, true, false, false, false, false, false, false, false, false, false, false, false, false, false, false, false, false, false, false, false, false, false, false, false, false, false, false, false, false, false, false, false, false, false, false, false, false, false, false, false, false, false, false, false, false, false, false, false, false, false, false, false, false, false, false, false] rfl rfl (any_of HT_.out (by kernel_rfl)) (fun _ _ _ h => h) (Or.inl ⟨by rfl, ?_⟩) ?_ ?_
                                  rotate_left
                                  · intro w'
                                    go_simp
                                    with_reducible rfl
                                  rotate_left
                                  · simp only [Act.put, List.setIfInBounds_toArray, List.set_cons_zero, List.set_cons_succ, i64_w, i32_w, IntKind.wrap_u8, IntKind.wrap_u32]
                                    rfl
                                  refine pure_ (i := 15) (N := some 96) (v := ?_) (a' := ?_) #[true, true, true, true, true, true, true, true, true, true, true, true, true, false, true, true, false, false, false, false, false, false, false, false, false, false, false, false, false, false, false, false, false, false, false, false, false, false, false, false, false, false, false, false, false, false, false, false, false, false, false, false, false, false, false, false, false, false, false, false, false, false, false, false, false, false, false, false, false, false] rfl rfl (any_of HT_.out (by kernel_rfl)) (fun _ _ _ h => h) (Or.inl ⟨by rfl, ?_⟩) ?_ ?_
                                  rotate_left
                                  · intro w'
                                    go_simp
                                    with_reducible rfl
                                  rotate_left
                                  · simp only [Act.put, List.setIfInBounds_toArray, List.set_cons_zero, List.set_cons_succ, i64_w, i32_w, IntKind.wrap_u8, IntKind.wrap_u32]
                                    rfl
                                  refine pure_ (i := 16) (N := some 97) (v := ?_) (a' := ?_) #[true, true, true, true, true, true, true, true, true, true, true, true, true, false, true, true, true, false, false, false, false, false, false, false, false, false, false, false, false, false, false, false, false, false, false, false, false, false, false, false, false, false, false, false, false, false, false, false, false, false, false, false, false, false, false, false, false, false, false, false, false, false, false, false, false, false, false, false, false, false] rfl rfl (any_of HT_.out (by kernel_rfl)) (fun _ _ _ h => h) (Or.inl ⟨by rfl, ?_⟩) ?_ ?_
                                  rotate_left
                                  · intro w'
                                    go_simp
                                    with_reducible rfl
                                  rotate_left
                                  · simp only [Act.put, List.setIfInBounds_toArray, List.set_cons_zero, List.set_cons_succ, i64_w, i32_w, IntKind.wrap_u8, IntKind.wrap_u32]
                                    rfl
                                  refine take_ (i := 17) (N := some 98) (v := ?_) (a' := ?_) #[true, true, true, true, true, true, true, true, true, true, true, true, true, false, true, true, true, true, false, false, false, false, false, false, false, false, false, false, false, false, false, false, false, false, false, false, false, false, false, false, false, false, false, false, false, false, false, false, false, false, false, false, false, false, false, false, false, false, false, false, false, false, false, false, false, false, false, false, false, false] rfl rfl (take_ofW HT_.out HW_.out (by kernel_rfl)) (fun _ _ _ h => h) (Or.inl ⟨by rfl, ?_⟩) hHeld ?_ ?_
                                  rotate_left
                                  · rintro w' ⟨s0, s1, s2, s3⟩
                                    go_simp
                                    with_reducible rfl
                                  rotate_left
                                  · simp only [Act.put, List.setIfInBounds_toArray, List.set_cons_zero, List.set_cons_succ, i64_w, i32_w, IntKind.wrap_u8, IntKind.wrap_u32]
                                    rfl
                                  refine one_ (i := 13) (N := some 94) #[true, true, true, true, true, true, true, true, true, true, true, true, true, true, true, true, true, true, false, false, false, false, false, false, false, false, false, false, false, false, false, false, false, false, false, false, false, false, false, false, false, false, false, false, false, false, false, false, false, false, false, false, false, false, false, false, false, false, false, false, false, false, false, false, false, false, false, false, false, false] rfl rfl (one_of HT_.out (by kernel_rfl)) (by decide) (fun K hK => ?_)
                                  refine goes_ Try.func29 (by kernel_rfl) rfl #[.int .i64 t168] (by rfl) rfl rfl (by (try simp only [List.map_toArray, List.map_cons, List.map_nil]); first | done | rfl | (simp only [List.length_drop, List.length_take]; rfl)) ?_
                                  with_reducible refine (portagelaw0_Num.calls t168 t198 _ A20.out).mono ?_
                                  rintro e w' ⟨rfl, ⟨nd, rfl⟩⟩
                                  refine ⟨_, rfl, ?_⟩
                                  refine hK.out _ _ ⟨hHeld.1, hHeld.2.1, hHeld.2.2.1, hHeld.2.2.2⟩ (fun hHeld => ?_)
                                  clear hK K
                                  refine norm_ (a' := ?_) ?_ ?_
                                  rotate_left
                                  · show Act.put _ (some 94) _ = _
                                    simp only [Act.put, List.setIfInBounds_toArray, List.set_cons_zero, List.set_cons_succ, i64_w, i32_w, IntKind.wrap_u8, IntKind.wrap_u32]
                                    rfl
                                  refine pure_ (i := 18) (N := some 99) (v := ?_) (a' := ?_) #[true, true, true, true, true, true, true, true, true, true, true, true, true, true, true, true, true, true, true, false, false, false, false, false, false, false, false, false, false, false, false, false, false, false, false, false, false, false, false, false, false, false, false, false, false, false, false, false, false, false, false, false, false, false, false, false, false, false, false, false, false, false, false, false, false, false, false, false, false, false] rfl rfl (any_of HT_.out (by kernel_rfl)) (fun _ _ _ h => h) (Or.inl ⟨by rfl, ?_⟩) ?_ ?_
                                  rotate_left
                                  · intro w'
                                    go_simp
                                    with_reducible rfl
                                  rotate_left
                                  · simp only [Act.put, List.setIfInBounds_toArray, List.set_cons_zero, List.set_cons_succ, i64_w, i32_w, IntKind.wrap_u8, IntKind.wrap_u32]
                                    rfl
                                  refine pure_ (i := 19) (N := some 100) (v := ?_) (a' := ?_) #[true, true, true, true, true, true, true, true, true, true, true, true, true, true, true, true, true, true, true, true, false, false, false, false, false, false, false, false, false, false, false, false, false, false, false, false, false, false, false, false, false, false, false, false, false, false, false, false, false, false, false, false, false, false, false, false, false, false, false, false, false, false, false, false, false, false, false, false, false, false] rfl rfl (any_of HT_.out (by kernel_rfl)) (fun _ _ _ h => h) (Or.inl ⟨by rfl, ?_⟩) ?_ ?_
                                  rotate_left
                                  · intro w'
                                    go_simp
                                    with_reducible rfl
                                  rotate_left
                                  · simp only [Act.put, List.setIfInBounds_toArray, List.set_cons_zero, List.set_cons_succ, i64_w, i32_w, IntKind.wrap_u8, IntKind.wrap_u32]
                                    rfl
                                  refine pure_ (i := 20) (N := some 101) (v := ?_) (a' := ?_) #[true, true, true, true, true, true, true, true, true, true, true, true, true, true, true, true, true, true, true, true, true, false, false, false, false, false, false, false, false, false, false, false, false, false, false, false, false, false, false, false, false, false, false, false, false, false, false, false, false, false, false, false, false, false, false, false, false, false, false, false, false, false, false, false, false, false, false, false, false, false] rfl rfl (any_of HT_.out (by kernel_rfl)) (fun _ _ _ h => h) (Or.inl ⟨by rfl, ?_⟩) ?_ ?_
                                  rotate_left
                                  · intro w'
                                    go_simp
                                    with_reducible rfl
                                  rotate_left
                                  · simp only [Act.put, List.setIfInBounds_toArray, List.set_cons_zero, List.set_cons_succ, i64_w, i32_w, IntKind.wrap_u8, IntKind.wrap_u32]
                                    rfl
                                  refine pure_ (i := 21) (N := some 102) (v := ?_) (a' := ?_) #[true, true, true, true, true, true, true, true, true, true, true, true, true, true, true, true, true, true, true, true, true, true, false, false, false, false, false, false, false, false, false, false, false, false, false, false, false, false, false, false, false, false, false, false, false, false, false, false, false, false, false, false, false, false, false, false, false, false, false, false, false, false, false, false, false, false, false, false, false, false] rfl rfl (any_of HT_.out (by kernel_rfl)) (fun _ _ _ h => h) (Or.inl ⟨by rfl, ?_⟩) ?_ ?_
                                  rotate_left
                                  · intro w'
                                    go_simp
                                    with_reducible rfl
                                  rotate_left
                                  · simp only [Act.put, List.setIfInBounds_toArray, List.set_cons_zero, List.set_cons_succ, i64_w, i32_w, IntKind.wrap_u8, IntKind.wrap_u32]
                                    rfl
                                  refine pure_ (i := 22) (N := some 103) (v := ?_) (a' := ?_) #[true, true, true, true, true, true, true, true, true, true, true, true, true, true, true, true, true, true, true, true, true, true, true, false, false, false, false, false, false, false, false, false, false, false, false, false, false, false, false, false, false, false, false, false, false, false, false, false, false, false, false, false, false, false, false, false, false, false, false, false, false, false, false, false, false, false, false, false, false, false] rfl rfl (any_of HT_.out (by kernel_rfl)) (fun _ _ _ h => h) (Or.inl ⟨by rfl, ?_⟩) ?_ ?_
                                  rotate_left
                                  · intro w'
                                    go_simp
                                    with_reducible rfl
                                  rotate_left
                                  · simp only [Act.put, List.setIfInBounds_toArray, List.set_cons_zero, List.set_cons_succ, i64_w, i32_w, IntKind.wrap_u8, IntKind.wrap_u32]
                                    rfl
                                  refine pure_ (i := 23) (N := some 104) (v := ?_) (a' := ?_) #[true, true, true, true, true, true, true, true, true, true, true, true, true, true, true, true, true, true, true, true, true, true, true, true, false, false, false, false, false, false, false, false, false, false, false, false, false, false, false, false, false, false, false, false, false, false, false, false, false, false, false, false, false, false, false, false, false, false, false, false, false, false, false, false, false, false, false, false, false, false] rfl rfl (any_of HT_.out (by kernel_rfl)) (fun _ _ _ h => h) (Or.inl ⟨by rfl, ?_⟩) ?_ ?_
                                  rotate_left
                                  · intro w'
                                    go_simp
                                    with_reducible rfl
                                  rotate_left
                                  · simp only [Act.put, List.setIfInBounds_toArray, List.set_cons_zero, List.set_cons_succ, i64_w, i32_w, IntKind.wrap_u8, IntKind.wrap_u32]
                                    rfl
                                  refine pure_ (i := 24) (N := some 105) (v := ?_) (a' := ?_) #[true, true, true, true, true, true, true, true, true, true, true, true, true, true, true, true, true, true, true, true, true, true, true, true, true, false, false, false, false, false, false, false, false, false, false, false, false, false, false, false, false, false, false, false, false, false, false, false, false, false, false, false, false, false, false, false, false, false, false, false, false, false, false, false, false, false, false, false, false, false] rfl rfl (any_of HT_.out (by kernel_rfl)) (fun _ _ _ h => h) (Or.inl ⟨by rfl, ?_⟩) ?_ ?_
                                  rotate_left
                                  · intro w'
                                    go_simp
                                    with_reducible rfl
                                  rotate_left
                                  · simp only [Act.put, List.setIfInBounds_toArray, List.set_cons_zero, List.set_cons_succ, i64_w, i32_w, IntKind.wrap_u8, IntKind.wrap_u32]
                                    rfl
                                  refine pure_ (i := 25) (N := some 106) (v := ?_) (a' := ?_) #[true, true, true, true, true, true, true, true, true, true, true, true, true, true, true, true, true, true, true, true, true, true, true, true, true, true, false, false, false, false, false, false, false, false, false, false, false, false, false, false, false, false, false, false, false, false, false, false, false, false, false, false, false, false, false, false, false, false, false, false, false, false, false, false, false, false, false, false, false, false] rfl rfl (any_of HT_.out (by kernel_rfl)) (fun _ _ _ h => h) (Or.inl ⟨by rfl, ?_⟩) ?_ ?_
                                  rotate_left
                                  · intro w'
                                    go_simp
                                    with_reducible rfl
                                  rotate_left
                                  · simp only [Act.put, List.setIfInBounds_toArray, List.set_cons_zero, List.set_cons_succ, i64_w, i32_w, IntKind.wrap_u8, IntKind.wrap_u32]
                                    rfl
                                  refine pure_ (i := 27) (N := some 108) (v := ?_) (a' := ?_) #[true, true, true, true, true, true, true, true, true, true, true, true, true, true, true, true, true, true, true, true, true, true, true, true, true, true, false, true, false, false, false, false, false, false, false, false, false, false, false, false, false, false, false, false, false, false, false, false, false, false, false, false, false, false, false, false, false, false, false, false, false, false, false, false, false, false, false, false, false, false] rfl rfl (any_of HT_.out (by kernel_rfl)) (fun _ _ _ h => h) (Or.inl ⟨by rfl, ?_⟩) ?_ ?_
                                  rotate_left
                                  · intro w'
                                    go_simp
                                    with_reducible rfl
                                  rotate_left
                                  · simp only [Act.put, List.setIfInBounds_toArray, List.set_cons_zero, List.set_cons_succ, i64_w, i32_w, IntKind.wrap_u8, IntKind.wrap_u32]
                                    rfl
                                  refine pure_ (i := 28) (N := some 109) (v := ?_) (a' := ?_) #[true, true, true, true, true, true, true, true, true, true, true, true, true, true, true, true, true, true, true, true, true, true, true, true, true, true, false, true, true, false, false, false, false, false, false, false, false, false, false, false, false, false, false, false, false, false, false, false, false, false, false, false, false, false, false, false, false, false, false, false, false, false, false, false, false, false, false, false, false, false] rfl rfl (any_of HT_.out (by kernel_rfl)) (fun _ _ _ h => h) (Or.inl ⟨by rfl, ?_⟩) ?_ ?_
                                  rotate_left
                                  · intro w'
                                    go_simp
                                    with_reducible rfl
                                  rotate_left
                                  · simp only [Act.put, List.setIfInBounds_toArray, List.set_cons_zero, List.set_cons_succ, i64_w, i32_w, IntKind.wrap_u8, IntKind.wrap_u32]
                                    rfl
                                  refine pure_ (i := 29) (N := some 110) (v := ?_) (a' := ?_) #[true, true, true, true, true, true, true, true, true, true, true, true, true, true, true, true, true, true, true, true, true, true, true, true, true, true, false, true, true, true, false, false, false, false, false, false, false, false, false, false, false, false, false, false, false, false, false, false, false, false, false, false, false, false, false, false, false, false, false, false, false, false, false, false, false, false, false, false, false, false] rfl rfl (any_of HT_.out (by kernel_rfl)) (fun _ _ _ h => h) (Or.inl ⟨by rfl, ?_⟩) ?_ ?_
                                  rotate_left
                                  · intro w'
                                    go_simp
                                    with_reducible rfl
                                  rotate_left
                                  · simp only [Act.put, List.setIfInBounds_toArray, List.set_cons_zero, List.set_cons_succ, i64_w, i32_w, IntKind.wrap_u8, IntKind.wrap_u32]
                                    rfl
                                  refine take_ (i := 30) (N := some 111) (v := ?_) (a' := ?_) #[true, true, true, true, true, true, true, true, true, true, true, true, true, true, true, true, true, true, true, true, true, true, true, true, true, true, false, true, true, true, true, false, false, false, false, false, false, false, false, false, false, false, false, false, false, false, false, false, false, false, false, false, false, false, false, false, false, false, false, false, false, false, false, false, false, false, false, false, false, false] rfl rfl (take_ofW HT_.out HW_.out (by kernel_rfl)) (fun _ _ _ h => h) (Or.inl ⟨by rfl, ?_⟩) hHeld ?_ ?_
                                  rotate_left
                                  · rintro w' ⟨s0, s1, s2, s3⟩
                                    go_simp
                                    with_reducible rfl
                                  rotate_left
                                  · simp only [Act.put, List.setIfInBounds_toArray, List.set_cons_zero, List.set_cons_succ, i64_w, i32_w, IntKind.wrap_u8, IntKind.wrap_u32]
                                    rfl
                                  refine one_ (i := 26) (N := some 107) #[true, true, true, true, true, true, true, true, true, true, true, true, true, true, true, true, true, true, true, true, true, true, true, true, true, true, true, true, true, true, true, false, false, false, false, false, false, false, false, false, false, false, false, false, false, false, false, false, false, false, false, false, false, false, false, false, false, false, false, false, false, false, false, false, false, false, false, false, false, false] rfl rfl (one_of HT_.out (by kernel_rfl)) (by decide) (fun K hK => ?_)
                                  refine goes_ Try.func29 (by kernel_rfl) rfl #[.int .i64 t174] (by rfl) rfl rfl (by (try simp only [List.map_toArray, List.map_cons, List.map_nil]); first | done | rfl | (simp only [List.length_drop, List.length_take]; rfl)) ?_
                                  with_reducible refine (portagelaw0_Num.calls t174 t200 _ A23.out).mono ?_
                                  rintro e w' ⟨rfl, ⟨nd, rfl⟩⟩
                                  refine ⟨_, rfl, ?_⟩
                                  refine hK.out _ _ ⟨hHeld.1, hHeld.2.1, hHeld.2.2.1, hHeld.2.2.2⟩ (fun hHeld => ?_)
                                  clear hK K
                                  refine norm_ (a' := ?_) ?_ ?_
                                  rotate_left
                                  · show Act.put _ (some 107) _ = _
                                    simp only [Act.put, List.setIfInBounds_toArray, List.set_cons_zero, List.set_cons_succ, i64_w, i32_w, IntKind.wrap_u8, IntKind.wrap_u32]
                                    rfl
                                  refine pure_ (i := 31) (N := some 112) (v := ?_) (a' := ?_) #[true, true, true, true, true, true, true, true, true, true, true, true, true, true, true, true, true, true, true, true, true, true, true, true, true, true, true, true, true, true, true, true, false, false, false, false, false, false, false, false, false, false, false, false, false, false, false, false, false, false, false, false, false, false, false, false, false, false, false, false, false, false, false, false, false, false, false, false, false, false] rfl rfl (any_of HT_.out (by kernel_rfl)) (fun _ _ _ h => h) (Or.inl ⟨by rfl, ?_⟩) ?_ ?_
                                  rotate_left
                                  · intro w'
                                    go_simp
                                    with_reducible rfl
                                  rotate_left
                                  · simp only [Act.put, List.setIfInBounds_toArray, List.set_cons_zero, List.set_cons_succ, i64_w, i32_w, IntKind.wrap_u8, IntKind.wrap_u32]
                                    rfl
                                  refine pure_ (i := 32) (N := some 113) (v := ?_) (a' := ?_) #[true, true, true, true, true, true, true, true, true, true, true, true, true, true, true, true, true, true, true, true, true, true, true, true, true, true, true, true, true, true, true, true, true, false, false, false, false, false, false, false, false, false, false, false, false, false, false, false, false, false, false, false, false, false, false, false, false, false, false, false, false, false, false, false, false, false, false, false, false, false] rfl rfl (any_of HT_.out (by kernel_rfl)) (fun _ _ _ h => h) (Or.inl ⟨by rfl, ?_⟩) ?_ ?_
                                  rotate_left
                                  · intro w'
                                    go_simp
                                    with_reducible rfl
                                  rotate_left
                                  · simp only [Act.put, List.setIfInBounds_toArray, List.set_cons_zero, List.set_cons_succ, i64_w, i32_w, IntKind.wrap_u8, IntKind.wrap_u32]
                                    rfl
                                  refine pure_ (i := 33) (N := some 114) (v := ?_) (a' := ?_) #[true, true, true, true, true, true, true, true, true, true, true, true, true, true, true, true, true, true, true, true, true, true, true, true, true, true, true, true, true, true, true, true, true, true, false, false, false, false, false, false, false, false, false, false, false, false, false, false, false, false, false, false, false, false, false, false, false, false, false, false, false, false, false, false, false, false, false, false, false, false] rfl rfl (any_of HT_.out (by kernel_rfl)) (fun _ _ _ h => h) (Or.inl ⟨by rfl, ?_⟩) ?_ ?_
                                  rotate_left
                                  · intro w'
                                    go_simp
                                    with_reducible rfl
                                  rotate_left
                                  · simp only [Act.put, List.setIfInBounds_toArray, List.set_cons_zero, List.set_cons_succ, i64_w, i32_w, IntKind.wrap_u8, IntKind.wrap_u32]
                                    rfl
                                  refine pure_ (i := 34) (N := some 115) (v := ?_) (a' := ?_) #[true, true, true, true, true, true, true, true, true, true, true, true, true, true, true, true, true, true, true, true, true, true, true, true, true, true, true, true, true, true, true, true, true, true, true, false, false, false, false, false, false, false, false, false, false, false, false, false, false, false, false, false, false, false, false, false, false, false, false, false, false, false, false, false, false, false, false, false, false, false] rfl rfl (any_of HT_.out (by kernel_rfl)) (fun _ _ _ h => h) (Or.inl ⟨by rfl, ?_⟩) ?_ ?_
                                  rotate_left
                                  · intro w'
                                    go_simp
                                    with_reducible rfl
                                  rotate_left
                                  · simp only [Act.put, List.setIfInBounds_toArray, List.set_cons_zero, List.set_cons_succ, i64_w, i32_w, IntKind.wrap_u8, IntKind.wrap_u32]
                                    rfl
                                  refine pure_ (i := 35) (N := some 116) (v := ?_) (a' := ?_) #[true, true, true, true, true, true, true, true, true, true, true, true, true, true, true, true, true, true, true, true, true, true, true, true, true, true, true, true, true, true, true, true, true, true, true, true, false, false, false, false, false, false, false, false, false, false, false, false, false, false, false, false, false, false, false, false, false, false, false, false, false, false, false, false, false, false, false, false, false, false] rfl rfl (any_of HT_.out (by kernel_rfl)) (fun _ _ _ h => h) (Or.inl ⟨by rfl, ?_⟩) ?_ ?_
                                  rotate_left
                                  · intro w'
                                    go_simp
                                    with_reducible rfl
                                  rotate_left
                                  · simp only [Act.put, List.setIfInBounds_toArray, List.set_cons_zero, List.set_cons_succ, i64_w, i32_w, IntKind.wrap_u8, IntKind.wrap_u32]
                                    rfl
                                  refine pure_ (i := 36) (N := some 117) (v := ?_) (a' := ?_) #[true, true, true, true, true, true, true, true, true, true, true, true, true, true, true, true, true, true, true, true, true, true, true, true, true, true, true, true, true, true, true, true, true, true, true, true, true, false, false, false, false, false, false, false, false, false, false, false, false, false, false, false, false, false, false, false, false, false, false, false, false, false, false, false, false, false, false, false, false, false] rfl rfl (any_of HT_.out (by kernel_rfl)) (fun _ _ _ h => h) (Or.inl ⟨by rfl, ?_⟩) ?_ ?_
                                  rotate_left
                                  · intro w'
                                    go_simp
                                    with_reducible rfl
                                  rotate_left
                                  · simp only [Act.put, List.setIfInBounds_toArray, List.set_cons_zero, List.set_cons_succ, i64_w, i32_w, IntKind.wrap_u8, IntKind.wrap_u32]
                                    rfl
                                  refine pure_ (i := 37) (N := some 118) (v := ?_) (a' := ?_) #[true, true, true, true, true, true, true, true, true, true, true, true, true, true, true, true, true, true, true, true, true, true, true, true, true, true, true, true, true, true, true, true, true, true, true, true, true, true, false, false, false, false, false, false, false, false, false, false, false, false, false, false, false, false, false, false, false, false, false, false, false, false, false, false, false, false, false, false, false, false] rfl rfl (any_of HT_.out (by kernel_rfl)) (fun _ _ _ h => h) (Or.inl ⟨by rfl, ?_⟩) ?_ ?_
                                  rotate_left
                                  · intro w'
                                    go_simp
                                    with_reducible rfl
                                  rotate_left
                                  · simp only [Act.put, List.setIfInBounds_toArray, List.set_cons_zero, List.set_cons_succ, i64_w, i32_w, IntKind.wrap_u8, IntKind.wrap_u32]
                                    rfl
                                  refine pure_ (i := 38) (N := some 119) (v := ?_) (a' := ?_) #[true, true, true, true, true, true, true, true, true, true, true, true, true, true, true, true, true, true, true, true, true, true, true, true, true, true, true, true, true, true, true, true, true, true, true, true, true, true, true, false, false, false, false, false, false, false, false, false, false, false, false, false, false, false, false, false, false, false, false, false, false, false, false, false, false, false, false, false, false, false] rfl rfl (any_of HT_.out (by kernel_rfl)) (fun _ _ _ h => h) (Or.inl ⟨by rfl, ?_⟩) ?_ ?_
                                  rotate_left
                                  · intro w'
                                    go_simp
                                    with_reducible rfl
                                  rotate_left
                                  · simp only [Act.put, List.setIfInBounds_toArray, List.set_cons_zero, List.set_cons_succ, i64_w, i32_w, IntKind.wrap_u8, IntKind.wrap_u32]
                                    rfl
                                  refine one_ (i := 39) (N := some 120) #[true, true, true, true, true, true, true, true, true, true, true, true, true, true, true, true, true, true, true, true, true, true, true, true, true, true, true, true, true, true, true, true, true, true, true, true, true, true, true, true, false, false, false, false, false, false, false, false, false, false, false, false, false, false, false, false, false, false, false, false, false, false, false, false, false, false, false, false, false, false] rfl rfl (one_of HT_.out (by kernel_rfl)) (by decide) (fun K hK => ?_)
                                  refine goes_ Try.func29 (by kernel_rfl) rfl #[.int .i64 t180] (by rfl) rfl rfl (by (try simp only [List.map_toArray, List.map_cons, List.map_nil]); first | done | rfl | (simp only [List.length_drop, List.length_take]; rfl)) ?_
                                  with_reducible refine (portagelaw0_Num.calls t180 t202 _ A26.out).mono ?_
                                  rintro e w' ⟨rfl, ⟨nd, rfl⟩⟩
                                  refine ⟨_, rfl, ?_⟩
                                  refine hK.out _ _ ⟨hHeld.1, hHeld.2.1, hHeld.2.2.1, hHeld.2.2.2⟩ (fun hHeld => ?_)
                                  clear hK K
                                  refine norm_ (a' := ?_) ?_ ?_
                                  rotate_left
                                  · show Act.put _ (some 120) _ = _
                                    simp only [Act.put, List.setIfInBounds_toArray, List.set_cons_zero, List.set_cons_succ, i64_w, i32_w, IntKind.wrap_u8, IntKind.wrap_u32]
                                    rfl
                                  refine pure_ (i := 40) (N := some 121) (v := ?_) (a' := ?_) #[true, true, true, true, true, true, true, true, true, true, true, true, true, true, true, true, true, true, true, true, true, true, true, true, true, true, true, true, true, true, true, true, true, true, true, true, true, true, true, true, true, false, false, false, false, false, false, false, false, false, false, false, false, false, false, false, false, false, false, false, false, false, false, false, false, false, false, false, false, false] rfl rfl (any_of HT_.out (by kernel_rfl)) (fun _ _ _ h => h) (Or.inl ⟨by rfl, ?_⟩) ?_ ?_
                                  rotate_left
                                  · intro w'
                                    go_simp
                                    with_reducible rfl
                                  rotate_left
                                  · simp only [Act.put, List.setIfInBounds_toArray, List.set_cons_zero, List.set_cons_succ, i64_w, i32_w, IntKind.wrap_u8, IntKind.wrap_u32]
                                    rfl
                                  refine pure_ (i := 41) (N := some 122) (v := ?_) (a' := ?_) #[true, true, true, true, true, true, true, true, true, true, true, true, true, true, true, true, true, true, true, true, true, true, true, true, true, true, true, true, true, true, true, true, true, true, true, true, true, true, true, true, true, true, false, false, false, false, false, false, false, false, false, false, false, false, false, false, false, false, false, false, false, false, false, false, false, false, false, false, false, false] rfl rfl (any_of HT_.out (by kernel_rfl)) (fun _ _ _ h => h) (Or.inl ⟨by rfl, ?_⟩) ?_ ?_
                                  rotate_left
                                  · intro w'
                                    go_simp
                                    with_reducible rfl
                                  rotate_left
                                  · simp only [Act.put, List.setIfInBounds_toArray, List.set_cons_zero, List.set_cons_succ, i64_w, i32_w, IntKind.wrap_u8, IntKind.wrap_u32]
                                    rfl
                                  refine pure_ (i := 42) (N := some 123) (v := ?_) (a' := ?_) #[true, true, true, true, true, true, true, true, true, true, true, true, true, true, true, true, true, true, true, true, true, true, true, true, true, true, true, true, true, true, true, true, true, true, true, true, true, true, true, true, true, true, true, false, false, false, false, false, false, false, false, false, false, false, false, false, false, false, false, false, false, false, false, false, false, false, false, false, false, false] rfl rfl (any_of HT_.out (by kernel_rfl)) (fun _ _ _ h => h) (Or.inl ⟨by rfl, ?_⟩) ?_ ?_
                                  rotate_left
                                  · intro w'
                                    go_simp
                                    with_reducible rfl
                                  rotate_left
                                  · simp only [Act.put, List.setIfInBounds_toArray, List.set_cons_zero, List.set_cons_succ, i64_w, i32_w, IntKind.wrap_u8, IntKind.wrap_u32]
                                    rfl
                                  refine pure_ (i := 43) (N := some 124) (v := ?_) (a' := ?_) #[true, true, true, true, true, true, true, true, true, true, true, true, true, true, true, true, true, true, true, true, true, true, true, true, true, true, true, true, true, true, true, true, true, true, true, true, true, true, true, true, true, true, true, true, false, false, false, false, false, false, false, false, false, false, false, false, false, false, false, false, false, false, false, false, false, false, false, false, false, false] rfl rfl (any_of HT_.out (by kernel_rfl)) (fun _ _ _ h => h) (Or.inl ⟨by rfl, ?_⟩) ?_ ?_
                                  rotate_left
                                  · intro w'
                                    go_simp
                                    with_reducible rfl
                                  rotate_left
                                  · simp only [Act.put, List.setIfInBounds_toArray, List.set_cons_zero, List.set_cons_succ, i64_w, i32_w, IntKind.wrap_u8, IntKind.wrap_u32]
                                    rfl
                                  refine pure_ (i := 44) (N := some 125) (v := ?_) (a' := ?_) #[true, true, true, true, true, true, true, true, true, true, true, true, true, true, true, true, true, true, true, true, true, true, true, true, true, true, true, true, true, true, true, true, true, true, true, true, true, true, true, true, true, true, true, true, true, false, false, false, false, false, false, false, false, false, false, false, false, false, false, false, false, false, false, false, false, false, false, false, false, false] rfl rfl (any_of HT_.out (by kernel_rfl)) (fun _ _ _ h => h) (Or.inl ⟨by rfl, ?_⟩) ?_ ?_
                                  rotate_left
                                  · intro w'
                                    go_simp
                                    with_reducible rfl
                                  rotate_left
                                  · simp only [Act.put, List.setIfInBounds_toArray, List.set_cons_zero, List.set_cons_succ, i64_w, i32_w, IntKind.wrap_u8, IntKind.wrap_u32]
                                    rfl
                                  refine pure_ (i := 45) (N := some 126) (v := ?_) (a' := ?_) #[true, true, true, true, true, true, true, true, true, true, true, true, true, true, true, true, true, true, true, true, true, true, true, true, true, true, true, true, true, true, true, true, true, true, true, true, true, true, true, true, true, true, true, true, true, true, false, false, false, false, false, false, false, false, false, false, false, false, false, false, false, false, false, false, false, false, false, false, false, false] rfl rfl (any_of HT_.out (by kernel_rfl)) (fun _ _ _ h => h) (Or.inl ⟨by rfl, ?_⟩) ?_ ?_
                                  rotate_left
                                  · intro w'
                                    go_simp
                                    with_reducible rfl
                                  rotate_left
                                  · simp only [Act.put, List.setIfInBounds_toArray, List.set_cons_zero, List.set_cons_succ, i64_w, i32_w, IntKind.wrap_u8, IntKind.wrap_u32]
                                    rfl
                                  refine pure_ (i := 46) (N := some 127) (v := ?_) (a' := ?_) #[true, true, true, true, true, true, true, true, true, true, true, true, true, true, true, true, true, true, true, true, true, true, true, true, true, true, true, true, true, true, true, true, true, true, true, true, true, true, true, true, true, true, true, true, true, true, true, false, false, false, false, false, false, false, false, false, false, false, false, false, false, false, false, false, false, false, false, false, false, false] rfl rfl (any_of HT_.out (by kernel_rfl)) (fun _ _ _ h => h) (Or.inl ⟨by rfl, ?_⟩) ?_ ?_
                                  rotate_left
                                  · intro w'
                                    go_simp
                                    with_reducible rfl
                                  rotate_left
                                  · simp only [Act.put, List.setIfInBounds_toArray, List.set_cons_zero, List.set_cons_succ, i64_w, i32_w, IntKind.wrap_u8, IntKind.wrap_u32]
                                    rfl
                                  refine pure_ (i := 47) (N := some 128) (v := ?_) (a' := ?_) #[true, true, true, true, true, true, true, true, true, true, true, true, true, true, true, true, true, true, true, true, true, true, true, true, true, true, true, true, true, true, true, true, true, true, true, true, true, true, true, true, true, true, true, true, true, true, true, true, false, false, false, false, false, false, false, false, false, false, false, false, false, false, false, false, false, false, false, false, false, false] rfl rfl (any_of HT_.out (by kernel_rfl)) (fun _ _ _ h => h) (Or.inl ⟨by rfl, ?_⟩) ?_ ?_
                                  rotate_left
                                  · intro w'
                                    go_simp
                                    with_reducible rfl
                                  rotate_left
                                  · simp only [Act.put, List.setIfInBounds_toArray, List.set_cons_zero, List.set_cons_succ, i64_w, i32_w, IntKind.wrap_u8, IntKind.wrap_u32]
                                    rfl
                                  refine one_ (i := 48) (N := some 129) #[true, true, true, true, true, true, true, true, true, true, true, true, true, true, true, true, true, true, true, true, true, true, true, true, true, true, true, true, true, true, true, true, true, true, true, true, true, true, true, true, true, true, true, true, true, true, true, true, true, false, false, false, false, false, false, false, false, false, false, false, false, false, false, false, false, false, false, false, false, false] rfl rfl (one_of HT_.out (by kernel_rfl)) (by decide) (fun K hK => ?_)
                                  refine goes_ Try.func29 (by kernel_rfl) rfl #[.int .i64 t186] (by rfl) rfl rfl (by (try simp only [List.map_toArray, List.map_cons, List.map_nil]); first | done | rfl | (simp only [List.length_drop, List.length_take]; rfl)) ?_
                                  with_reducible refine (portagelaw0_Num.calls t186 t203 _ A29.out).mono ?_
                                  rintro e w' ⟨rfl, ⟨nd, rfl⟩⟩
                                  refine ⟨_, rfl, ?_⟩
                                  refine hK.out _ _ ⟨hHeld.1, hHeld.2.1, hHeld.2.2.1, hHeld.2.2.2⟩ (fun hHeld => ?_)
                                  clear hK K
                                  refine norm_ (a' := ?_) ?_ ?_
                                  rotate_left
                                  · show Act.put _ (some 129) _ = _
                                    simp only [Act.put, List.setIfInBounds_toArray, List.set_cons_zero, List.set_cons_succ, i64_w, i32_w, IntKind.wrap_u8, IntKind.wrap_u32]
                                    rfl
                                  refine pure_ (i := 49) (N := some 130) (v := ?_) (a' := ?_) #[true, true, true, true, true, true, true, true, true, true, true, true, true, true, true, true, true, true, true, true, true, true, true, true, true, true, true, true, true, true, true, true, true, true, true, true, true, true, true, true, true, true, true, true, true, true, true, true, true, true, false, false, false, false, false, false, false, false, false, false, false, false, false, false, false, false, false, false, false, false] rfl rfl (any_of HT_.out (by kernel_rfl)) (fun _ _ _ h => h) (Or.inl ⟨by rfl, ?_⟩) ?_ ?_
                                  rotate_left
                                  · intro w'
                                    go_simp
                                    with_reducible rfl
                                  rotate_left
                                  · simp only [Act.put, List.setIfInBounds_toArray, List.set_cons_zero, List.set_cons_succ, i64_w, i32_w, IntKind.wrap_u8, IntKind.wrap_u32]
                                    rfl
                                  refine pure_ (i := 50) (N := some 131) (v := ?_) (a' := ?_) #[true, true, true, true, true, true, true, true, true, true, true, true, true, true, true, true, true, true, true, true, true, true, true, true, true, true, true, true, true, true, true, true, true, true, true, true, true, true, true, true, true, true, true, true, true, true, true, true, true, true, true, false, false, false, false, false, false, false, false, false, false, false, false, false, false, false, false, false, false, false] rfl rfl (any_of HT_.out (by kernel_rfl)) (fun _ _ _ h => h) (Or.inl ⟨by rfl, ?_⟩) ?_ ?_
                                  rotate_left
                                  · intro w'
                                    go_simp
                                    with_reducible rfl
                                  rotate_left
                                  · simp only [Act.put, List.setIfInBounds_toArray, List.set_cons_zero, List.set_cons_succ, i64_w, i32_w, IntKind.wrap_u8, IntKind.wrap_u32]
                                    rfl
                                  refine pure_ (i := 51) (N := some 132) (v := ?_) (a' := ?_) #[true, true, true, true, true, true, true, true, true, true, true, true, true, true, true, true, true, true, true, true, true, true, true, true, true, true, true, true, true, true, true, true, true, true, true, true, true, true, true, true, true, true, true, true, true, true, true, true, true, true, true, true, false, false, false, false, false, false, false, false, false, false, false, false, false, false, false, false, false, false] rfl rfl (any_of HT_.out (by kernel_rfl)) (fun _ _ _ h => h) (Or.inl ⟨by rfl, ?_⟩) ?_ ?_
                                  rotate_left
                                  · intro w'
                                    go_simp
                                    with_reducible rfl
                                  rotate_left
                                  · simp only [Act.put, List.setIfInBounds_toArray, List.set_cons_zero, List.set_cons_succ, i64_w, i32_w, IntKind.wrap_u8, IntKind.wrap_u32]
                                    rfl
                                  refine pure_ (i := 52) (N := some 133) (v := ?_) (a' := ?_) #[true, true, true, true, true, true, true, true, true, true, true, true, true, true, true, true, true, true, true, true, true, true, true, true, true, true, true, true, true, true, true, true, true, true, true, true, true, true, true, true, true, true, true, true, true, true, true, true, true, true, true, true, true, false, false, false, false, false, false, false, false, false, false, false, false, false, false, false, false, false] rfl rfl (any_of HT_.out (by kernel_rfl)) (fun _ _ _ h => h) (Or.inl ⟨by rfl, ?_⟩) ?_ ?_
                                  rotate_left
                                  · intro w'
                                    go_simp
                                    with_reducible rfl
                                  rotate_left
                                  · simp only [Act.put, List.setIfInBounds_toArray, List.set_cons_zero, List.set_cons_succ, i64_w, i32_w, IntKind.wrap_u8, IntKind.wrap_u32]
                                    rfl
                                  refine pure_ (i := 53) (N := some 134) (v := ?_) (a' := ?_) #[true, true, true, true, true, true, true, true, true, true, true, true, true, true, true, true, true, true, true, true, true, true, true, true, true, true, true, true, true, true, true, true, true, true, true, true, true, true, true, true, true, true, true, true, true, true, true, true, true, true, true, true, true, true, false, false, false, false, false, false, false, false, false, false, false, false, false, false, false, false] rfl rfl (any_of HT_.out (by kernel_rfl)) (fun _ _ _ h => h) (Or.inl ⟨by rfl, ?_⟩) ?_ ?_
                                  rotate_left
                                  · intro w'
                                    go_simp
                                    with_reducible rfl
                                  rotate_left
                                  · simp only [Act.put, List.setIfInBounds_toArray, List.set_cons_zero, List.set_cons_succ, i64_w, i32_w, IntKind.wrap_u8, IntKind.wrap_u32]
                                    rfl
                                  refine pure_ (i := 54) (N := some 135) (v := ?_) (a' := ?_) #[true, true, true, true, true, true, true, true, true, true, true, true, true, true, true, true, true, true, true, true, true, true, true, true, true, true, true, true, true, true, true, true, true, true, true, true, true, true, true, true, true, true, true, true, true, true, true, true, true, true, true, true, true, true, true, false, false, false, false, false, false, false, false, false, false, false, false, false, false, false] rfl rfl (any_of HT_.out (by kernel_rfl)) (fun _ _ _ h => h) (Or.inl ⟨by rfl, ?_⟩) ?_ ?_
                                  rotate_left
                                  · intro w'
                                    go_simp
                                    with_reducible rfl
                                  rotate_left
                                  · simp only [Act.put, List.setIfInBounds_toArray, List.set_cons_zero, List.set_cons_succ, i64_w, i32_w, IntKind.wrap_u8, IntKind.wrap_u32]
                                    rfl
                                  refine one_ (i := 55) (N := some 136) #[true, true, true, true, true, true, true, true, true, true, true, true, true, true, true, true, true, true, true, true, true, true, true, true, true, true, true, true, true, true, true, true, true, true, true, true, true, true, true, true, true, true, true, true, true, true, true, true, true, true, true, true, true, true, true, true, false, false, false, false, false, false, false, false, false, false, false, false, false, false] rfl rfl (one_of HT_.out (by kernel_rfl)) (by decide) (fun K hK => ?_)
                                  refine Kd.R_lit_step k43 _ 43 ?hg (N := 136) ?hd (xs := ([(⟨0, 0⟩ : S43), (⟨0, 0⟩ : S43)] : List (S43))) (inner := [.int .i64 0, .int .i64 0, .int .i64 0, .int .i64 0]) (ok := fun _ => True) (okp := fun _ => True) ?hr ?hp (fun _ hk => hk) trivial (Below.refl _ _) (Nat.le_refl _) (by simp) ?_; (case hd => rfl); (case hg => rfl); (case hr => first | (go_simp; done) | (go_simp; rfl)); (case hp => exact (Reps.c2 (show Kd.M k43 _ _ _ (⟨0, 0⟩ : S43) [.int .i64 0, .int .i64 0] from (k43_mkM _ _ _ (⟨0, 0⟩ : S43) )) (Reps.c2 (show Kd.M k43 _ _ _ (⟨0, 0⟩ : S43) [.int .i64 0, .int .i64 0] from (k43_mkM _ _ _ (⟨0, 0⟩ : S43) )) (Reps.none _ _))))
                                  intro v205 w78 ho79 hb hg_ hnew_
                                  have HS0_ := (hb.cell (World.block_lt_of_cell? _ _ (hHeld.1))).trans (hHeld.1)
                                  have HS1_ := (hb.cell (World.block_lt_of_cell? _ _ (hHeld.2.1))).trans (hHeld.2.1)
                                  have HS2_ := (hb.cell (World.block_lt_of_cell? _ _ (hHeld.2.2.1))).trans (hHeld.2.2.1)
                                  have HS3_ := (hb.cell (World.block_lt_of_cell? _ _ (hHeld.2.2.2))).trans (hHeld.2.2.2)
                                  clear hg_ hnew_
                                  (first | rw [← Ny204.out] at ho79 | (simp only [Int.reduceToNat] at ho79; rw [← Ny204.out] at ho79))
                                  have n0_ := Aside0.mk (Kd.N_elder' (by (with_reducible repeat (first | apply Kd.N_alloc | apply Kd.N_drewN | apply Kd.N_drew)); exact HO162.out) (Kd.R_base ho79) hb)
                                  have n1_ := Aside0.mk (Kd.R_below (by (with_reducible repeat (first | apply Kd.R_alloc | apply Kd.R_drewN | apply Kd.R_drew)); exact HO165.out) hb)
                                  have n2_ := Aside0.mk (Kd.V_elder' (by (with_reducible repeat (first | apply Kd.V_alloc | apply Kd.V_drewN | apply Kd.V_drew)); exact HL166_0.out) (Kd.R_base ho79) hb)
                                  have n3_ := Aside0.mk (Kd.R_elder' (by (with_reducible repeat (first | apply Kd.R_alloc | apply Kd.R_drewN | apply Kd.R_drew)); exact HO170.out) (Kd.R_base ho79) hb)
                                  have n4_ := Aside0.mk (Kd.V_elder' (by (with_reducible repeat (first | apply Kd.V_alloc | apply Kd.V_drewN | apply Kd.V_drew)); exact HL171_0.out) (Kd.R_base ho79) hb)
                                  have n5_ := Aside0.mk (Kd.R_below (by (with_reducible repeat (first | apply Kd.R_alloc | apply Kd.R_drewN | apply Kd.R_drew)); exact HO177.out) hb)
                                  have n6_ := Aside0.mk (Kd.R_below (by (with_reducible repeat (first | apply Kd.R_alloc | apply Kd.R_drewN | apply Kd.R_drew)); exact HO183.out) hb)
                                  have n7_ := Aside0.mk (Kd.R_below (by (with_reducible repeat (first | apply Kd.R_alloc | apply Kd.R_drewN | apply Kd.R_drew)); exact HO189.out) hb)
                                  have n8_ := Aside0.mk (Kd.R_elder' (by (with_reducible repeat (first | apply Kd.R_alloc | apply Kd.R_drewN | apply Kd.R_drew)); exact HO193.out) (Kd.R_base ho79) hb)
                                  have n9_ := Aside0.mk (Kd.V_elder' (by (with_reducible repeat (first | apply Kd.V_alloc | apply Kd.V_drewN | apply Kd.V_drew)); exact HL194_0.out) (Kd.R_base ho79) hb)
                                  have n10_ := Aside0.mk (Kd.R_lower (Kd.R_new' (Kd.R_new' ho79 (Kd.R_lt (by (with_reducible repeat (first | apply Kd.R_alloc | apply Kd.R_drewN | apply Kd.R_drew)); exact HO170.out))) (Kd.R_lt (by (with_reducible repeat (first | apply Kd.R_alloc | apply Kd.R_drewN | apply Kd.R_drew)); exact HO193.out))) (below_size (by repeat (first | (with_reducible first | exact HB.out | apply below_alloc | apply pw_below_drewN | apply below_drew1) | exact HB.out))))
                                  have n11_ := Aside0.mk (Kd.C_below (by first | ((with_reducible repeat (first | apply Kd.C_alloc | apply Kd.C_drewN | apply Kd.C_drew)); with_reducible exact HR166_0.out) | (repeat (first | (with_reducible exact HR166_0.out) | (with_reducible refine Kd.C_alloc ?_ _) | (with_reducible refine Kd.C_drewN ?_ _) | (with_reducible refine Kd.C_drew ?_) | exact HR166_0.out))) hb)
                                  have n12_ := Aside0.mk (Kd.C_below (by first | ((with_reducible repeat (first | apply Kd.C_alloc | apply Kd.C_drewN | apply Kd.C_drew)); with_reducible exact HR171_0.out) | (repeat (first | (with_reducible exact HR171_0.out) | (with_reducible refine Kd.C_alloc ?_ _) | (with_reducible refine Kd.C_drewN ?_ _) | (with_reducible refine Kd.C_drew ?_) | exact HR171_0.out))) hb)
                                  have n13_ := Aside0.mk (Kd.C_below (by first | ((with_reducible repeat (first | apply Kd.C_alloc | apply Kd.C_drewN | apply Kd.C_drew)); with_reducible exact HR194_0.out) | (repeat (first | (with_reducible exact HR194_0.out) | (with_reducible refine Kd.C_alloc ?_ _) | (with_reducible refine Kd.C_drewN ?_ _) | (with_reducible refine Kd.C_drew ?_) | exact HR194_0.out))) hb)
                                  have n14_ := Aside0.mk (below_step (by repeat (first | (with_reducible first | exact HB.out | apply below_alloc | apply pw_below_drewN | apply below_drew1) | exact HB.out)) hb)
                                  clear HO162
                                  clear HO165
                                  clear HL166_0
                                  clear HO170
                                  clear HL171_0
                                  clear HO177
                                  clear HO183
                                  clear HO189
                                  clear HO193
                                  clear HL194_0
                                  clear HR166_0
                                  clear HR171_0
                                  clear HR194_0
                                  clear HB
                                  have HO162 := n0_
                                  have HO165 := n1_
                                  have HL166_0 := n2_
                                  have HO170 := n3_
                                  have HL171_0 := n4_
                                  have HO177 := n5_
                                  have HO183 := n6_
                                  have HO189 := n7_
                                  have HO193 := n8_
                                  have HL194_0 := n9_
                                  have HO206 := n10_
                                  have HR166_0 := n11_
                                  have HR171_0 := n12_
                                  have HR194_0 := n13_
                                  have HB := n14_
                                  clear n0_ n1_ n2_ n3_ n4_ n5_ n6_ n7_ n8_ n9_ n10_ n11_ n12_ n13_ n14_
                                  clear hb ho79
                                  obtain ⟨Ao80, co80, eo80⟩ := Kd.R_slice HO193.out
                                  (first | subst eo80 | (injection eo80 with f1_ f2_ f3_; have f4_ := f1_.symm; have f5_ := f3_.symm; clear f1_ f2_ f3_; subst f4_; subst f5_))
                                  obtain ⟨Ao81, co81, eo81⟩ := Kd.R_slice HO206.out
                                  (first | subst eo81 | (injection eo81 with f1_ f2_ f3_; have f4_ := f1_.symm; have f5_ := f3_.symm; clear f1_ f2_ f3_; subst f4_; subst f5_))
                                  refine hK.out _ _ ⟨HS0_, HS1_, HS2_, HS3_⟩ (fun hHeld => ?_)
                                  clear hK K
                                  refine norm_ (a' := ?_) ?_ ?_
                                  rotate_left
                                  · show Act.put _ (some 136) _ = _
                                    simp only [Act.put, List.setIfInBounds_toArray, List.set_cons_zero, List.set_cons_succ, i64_w, i32_w, IntKind.wrap_u8, IntKind.wrap_u32]
                                    rfl
                                  refine one_ (i := 56) (N := some 137) #[true, true, true, true, true, true, true, true, true, true, true, true, true, true, true, true, true, true, true, true, true, true, true, true, true, true, true, true, true, true, true, true, true, true, true, true, true, true, true, true, true, true, true, true, true, true, true, true, true, true, true, true, true, true, true, true, true, false, false, false, false, false, false, false, false, false, false, false, false, false] rfl rfl (one_of HT_.out (by kernel_rfl)) (by decide) (fun K hK => ?_)
                                  refine goes_ Try.func28 (by kernel_rfl) rfl #[.slice Ao80 t190.length co80, .slice Ao81 y204.length co81] (by rfl) rfl rfl (by (try simp only [List.map_toArray, List.map_cons, List.map_nil]); first | done | rfl | (simp only [List.length_drop, List.length_take]; rfl)) ?_
                                  with_reducible refine (portagelaw0_SameCodes.calls k _ _ t190 _ _ y204 true _ ?side1 ?side2 ?side3 ?side4 A31.out).mono ?_
                                  (case side1 => repeat (first | exact (Kd.R_reads' HO193.out).2.2 | (with_reducible refine Kd.C_alloc ?_ _) | (with_reducible refine Kd.C_drewN ?_ _) | (with_reducible refine Kd.C_drew ?_)))
                                  (case side2 => exact (Kd.R_reads' HO193.out).2.1)
                                  (case side3 => repeat (first | exact (Kd.R_reads' HO206.out).2.2 | (with_reducible refine Kd.C_alloc ?_ _) | (with_reducible refine Kd.C_drewN ?_ _) | (with_reducible refine Kd.C_drew ?_)))
                                  (case side4 => exact (Kd.R_reads' HO206.out).2.1)
                                  rintro e w' ⟨rfl, ⟨nd, rfl⟩⟩
                                  refine ⟨_, rfl, ?_⟩
                                  refine hK.out _ _ ⟨hHeld.1, hHeld.2.1, hHeld.2.2.1, hHeld.2.2.2⟩ (fun hHeld => ?_)
                                  clear hK K
                                  refine norm_ (a' := ?_) ?_ ?_
                                  rotate_left
                                  · show Act.put _ (some 137) _ = _
                                    simp only [Act.put, List.setIfInBounds_toArray, List.set_cons_zero, List.set_cons_succ, i64_w, i32_w, IntKind.wrap_u8, IntKind.wrap_u32]
                                    rfl
                                  refine pure_ (i := 57) (N := some 138) (v := ?_) (a' := ?_) #[true, true, true, true, true, true, true, true, true, true, true, true, true, true, true, true, true, true, true, true, true, true, true, true, true, true, true, true, true, true, true, true, true, true, true, true, true, true, true, true, true, true, true, true, true, true, true, true, true, true, true, true, true, true, true, true, true, true, false, false, false, false, false, false, false, false, false, false, false, false] rfl rfl (any_of HT_.out (by kernel_rfl)) (fun _ _ _ h => h) (Or.inl ⟨by rfl, ?_⟩) ?_ ?_
                                  rotate_left
                                  · intro w'
                                    go_simp
                                    with_reducible rfl
                                  rotate_left
                                  · simp only [Act.put, List.setIfInBounds_toArray, List.set_cons_zero, List.set_cons_succ, i64_w, i32_w, IntKind.wrap_u8, IntKind.wrap_u32]
                                    rfl
                                  refine pure_ (i := 58) (N := some 139) (v := ?_) (a' := ?_) #[true, true, true, true, true, true, true, true, true, true, true, true, true, true, true, true, true, true, true, true, true, true, true, true, true, true, true, true, true, true, true, true, true, true, true, true, true, true, true, true, true, true, true, true, true, true, true, true, true, true, true, true, true, true, true, true, true, true, true, false, false, false, false, false, false, false, false, false, false, false] rfl rfl (any_of HT_.out (by kernel_rfl)) (fun _ _ _ h => h) (Or.inl ⟨by rfl, ?_⟩) ?_ ?_
                                  rotate_left
                                  · intro w'
                                    go_simp
                                    with_reducible rfl
                                  rotate_left
                                  · simp only [Act.put, List.setIfInBounds_toArray, List.set_cons_zero, List.set_cons_succ, i64_w, i32_w, IntKind.wrap_u8, IntKind.wrap_u32]
                                    rfl
                                  refine pure_ (i := 59) (N := some 140) (v := ?_) (a' := ?_) #[true, true, true, true, true, true, true, true, true, true, true, true, true, true, true, true, true, true, true, true, true, true, true, true, true, true, true, true, true, true, true, true, true, true, true, true, true, true, true, true, true, true, true, true, true, true, true, true, true, true, true, true, true, true, true, true, true, true, true, true, false, false, false, false, false, false, false, false, false, false] rfl rfl (any_of HT_.out (by kernel_rfl)) (fun _ _ _ h => h) (Or.inl ⟨by rfl, ?_⟩) ?_ ?_
                                  rotate_left
                                  · intro w'
                                    go_simp
                                    with_reducible rfl
                                  rotate_left
                                  · simp only [Act.put, List.setIfInBounds_toArray, List.set_cons_zero, List.set_cons_succ, i64_w, i32_w, IntKind.wrap_u8, IntKind.wrap_u32]
                                    rfl
                                  refine one_ (i := 60) (N := some 141) #[true, true, true, true, true, true, true, true, true, true, true, true, true, true, true, true, true, true, true, true, true, true, true, true, true, true, true, true, true, true, true, true, true, true, true, true, true, true, true, true, true, true, true, true, true, true, true, true, true, true, true, true, true, true, true, true, true, true, true, true, true, false, false, false, false, false, false, false, false, false] rfl rfl (one_of HT_.out (by kernel_rfl)) (by decide) (fun K hK => ?_)
                                  refine goes_ Try.func29 (by kernel_rfl) rfl #[.int .i64 t191] (by rfl) rfl rfl (by (try simp only [List.map_toArray, List.map_cons, List.map_nil]); first | done | rfl | (simp only [List.length_drop, List.length_take]; rfl)) ?_
                                  with_reducible refine (portagelaw0_Num.calls t191 t208 _ A33.out).mono ?_
                                  rintro e w' ⟨rfl, ⟨nd, rfl⟩⟩
                                  refine ⟨_, rfl, ?_⟩
                                  refine hK.out _ _ ⟨hHeld.1, hHeld.2.1, hHeld.2.2.1, hHeld.2.2.2⟩ (fun hHeld => ?_)
                                  clear hK K
                                  refine norm_ (a' := ?_) ?_ ?_
                                  rotate_left
                                  · show Act.put _ (some 141) _ = _
                                    simp only [Act.put, List.setIfInBounds_toArray, List.set_cons_zero, List.set_cons_succ, i64_w, i32_w, IntKind.wrap_u8, IntKind.wrap_u32]
                                    rfl
                                  refine pure_ (i := 61) (N := some 142) (v := ?_) (a' := ?_) #[true, true, true, true, true, true, true, true, true, true, true, true, true, true, true, true, true, true, true, true, true, true, true, true, true, true, true, true, true, true, true, true, true, true, true, true, true, true, true, true, true, true, true, true, true, true, true, true, true, true, true, true, true, true, true, true, true, true, true, true, true, true, false, false, false, false, false, false, false, false] rfl rfl (any_of HT_.out (by kernel_rfl)) (fun _ _ _ h => h) (Or.inl ⟨by rfl, ?_⟩) ?_ ?_
                                  rotate_left
                                  · intro w'
                                    go_simp
                                    with_reducible rfl
                                  rotate_left
                                  · simp only [Act.put, List.setIfInBounds_toArray, List.set_cons_zero, List.set_cons_succ, i64_w, i32_w, IntKind.wrap_u8, IntKind.wrap_u32]
                                    rfl
                                  refine pure_ (i := 62) (N := some 143) (v := ?_) (a' := ?_) #[true, true, true, true, true, true, true, true, true, true, true, true, true, true, true, true, true, true, true, true, true, true, true, true, true, true, true, true, true, true, true, true, true, true, true, true, true, true, true, true, true, true, true, true, true, true, true, true, true, true, true, true, true, true, true, true, true, true, true, true, true, true, true, false, false, false, false, false, false, false] rfl rfl (any_of HT_.out (by kernel_rfl)) (fun _ _ _ h => h) (Or.inl ⟨by rfl, ?_⟩) ?_ ?_
                                  rotate_left
                                  · intro w'
                                    go_simp
                                    with_reducible rfl
                                  rotate_left
                                  · simp only [Act.put, List.setIfInBounds_toArray, List.set_cons_zero, List.set_cons_succ, i64_w, i32_w, IntKind.wrap_u8, IntKind.wrap_u32]
                                    rfl
                                  refine pure_ (i := 63) (N := some 144) (v := ?_) (a' := ?_) #[true, true, true, true, true, true, true, true, true, true, true, true, true, true, true, true, true, true, true, true, true, true, true, true, true, true, true, true, true, true, true, true, true, true, true, true, true, true, true, true, true, true, true, true, true, true, true, true, true, true, true, true, true, true, true, true, true, true, true, true, true, true, true, true, false, false, false, false, false, false] rfl rfl (any_of HT_.out (by kernel_rfl)) (fun _ _ _ h => h) (Or.inl ⟨by rfl, ?_⟩) ?_ ?_
                                  rotate_left
                                  · intro w'
                                    go_simp
                                    with_reducible rfl
                                  rotate_left
                                  · simp only [Act.put, List.setIfInBounds_toArray, List.set_cons_zero, List.set_cons_succ, i64_w, i32_w, IntKind.wrap_u8, IntKind.wrap_u32]
                                    rfl
                                  refine one_ (i := 64) (N := some 145) #[true, true, true, true, true, true, true, true, true, true, true, true, true, true, true, true, true, true, true, true, true, true, true, true, true, true, true, true, true, true, true, true, true, true, true, true, true, true, true, true, true, true, true, true, true, true, true, true, true, true, true, true, true, true, true, true, true, true, true, true, true, true, true, true, true, false, false, false, false, false] rfl rfl (one_of HT_.out (by kernel_rfl)) (by decide) (fun K hK => ?_)
                                  refine Kd.R_lit_step (Kd.int .i64) _ 3 ?hg (N := 145) ?hd (xs := ([0, 0] : List Int)) (inner := [.int .i64 0, .int .i64 0]) (ok := fun _ => True) (okp := fun _ => True) ?hr ?hp (fun _ hk => hk) trivial (Below.refl _ _) (Nat.le_refl _) (by simp) ?_; (case hd => rfl); (case hg => rfl); (case hr => first | (go_simp; done) | (go_simp; rfl)); (case hp => exact (Reps.one (show Kd.M (Kd.int .i64) _ _ _ 0 [.int .i64 0] from rfl) (Reps.one (show Kd.M (Kd.int .i64) _ _ _ 0 [.int .i64 0] from rfl) (Reps.none _ _))))
                                  intro v210 w82 ho83 hb hg_ hnew_
                                  have HS0_ := (hb.cell (World.block_lt_of_cell? _ _ (hHeld.1))).trans (hHeld.1)
                                  have HS1_ := (hb.cell (World.block_lt_of_cell? _ _ (hHeld.2.1))).trans (hHeld.2.1)
                                  have HS2_ := (hb.cell (World.block_lt_of_cell? _ _ (hHeld.2.2.1))).trans (hHeld.2.2.1)
                                  have HS3_ := (hb.cell (World.block_lt_of_cell? _ _ (hHeld.2.2.2))).trans (hHeld.2.2.2)
                                  clear hg_ hnew_
                                  (first | rw [← Ny209.out] at ho83 | (simp only [Int.reduceToNat] at ho83; rw [← Ny209.out] at ho83))
                                  have n0_ := Aside0.mk (Kd.N_elder' (by (with_reducible repeat (first | apply Kd.N_alloc | apply Kd.N_drewN | apply Kd.N_drew)); exact HO162.out) (Kd.R_base ho83) hb)
                                  have n1_ := Aside0.mk (Kd.R_elder' (by (with_reducible repeat (first | apply Kd.R_alloc | apply Kd.R_drewN | apply Kd.R_drew)); exact HO165.out) (Kd.R_base ho83) hb)
                                  have n2_ := Aside0.mk (Kd.V_elder' (by (with_reducible repeat (first | apply Kd.V_alloc | apply Kd.V_drewN | apply Kd.V_drew)); exact HL166_0.out) (Kd.R_base ho83) hb)
                                  have n3_ := Aside0.mk (Kd.R_below (by (with_reducible repeat (first | apply Kd.R_alloc | apply Kd.R_drewN | apply Kd.R_drew)); exact HO170.out) hb)
                                  have n4_ := Aside0.mk (Kd.V_elder' (by (with_reducible repeat (first | apply Kd.V_alloc | apply Kd.V_drewN | apply Kd.V_drew)); exact HL171_0.out) (Kd.R_base ho83) hb)
                                  have n5_ := Aside0.mk (Kd.R_elder' (by (with_reducible repeat (first | apply Kd.R_alloc | apply Kd.R_drewN | apply Kd.R_drew)); exact HO177.out) (Kd.R_base ho83) hb)
                                  have n6_ := Aside0.mk (Kd.R_elder' (by (with_reducible repeat (first | apply Kd.R_alloc | apply Kd.R_drewN | apply Kd.R_drew)); exact HO183.out) (Kd.R_base ho83) hb)
                                  have n7_ := Aside0.mk (Kd.R_elder' (by (with_reducible repeat (first | apply Kd.R_alloc | apply Kd.R_drewN | apply Kd.R_drew)); exact HO189.out) (Kd.R_base ho83) hb)
                                  have n8_ := Aside0.mk (Kd.R_below (by (with_reducible repeat (first | apply Kd.R_alloc | apply Kd.R_drewN | apply Kd.R_drew)); exact HO193.out) hb)
                                  have n9_ := Aside0.mk (Kd.V_elder' (by (with_reducible repeat (first | apply Kd.V_alloc | apply Kd.V_drewN | apply Kd.V_drew)); exact HL194_0.out) (Kd.R_base ho83) hb)
                                  have n10_ := Aside0.mk (Kd.R_below (by (with_reducible repeat (first | apply Kd.R_alloc | apply Kd.R_drewN | apply Kd.R_drew)); exact HO206.out) hb)
                                  have n11_ := Aside0.mk (Kd.R_lower (Kd.R_new' (Kd.R_new' (Kd.R_new' (Kd.R_new' ho83 (Kd.R_lt (by (with_reducible repeat (first | apply Kd.R_alloc | apply Kd.R_drewN | apply Kd.R_drew)); exact HO165.out))) (Kd.R_lt (by (with_reducible repeat (first | apply Kd.R_alloc | apply Kd.R_drewN | apply Kd.R_drew)); exact HO177.out))) (Kd.R_lt (by (with_reducible repeat (first | apply Kd.R_alloc | apply Kd.R_drewN | apply Kd.R_drew)); exact HO183.out))) (Kd.R_lt (by (with_reducible repeat (first | apply Kd.R_alloc | apply Kd.R_drewN | apply Kd.R_drew)); exact HO189.out))) (below_size (by repeat (first | (with_reducible first | exact HB.out | apply below_alloc | apply pw_below_drewN | apply below_drew1) | exact HB.out))))
                                  have n12_ := Aside0.mk (Kd.C_below (by first | ((with_reducible repeat (first | apply Kd.C_alloc | apply Kd.C_drewN | apply Kd.C_drew)); with_reducible exact HR166_0.out) | (repeat (first | (with_reducible exact HR166_0.out) | (with_reducible refine Kd.C_alloc ?_ _) | (with_reducible refine Kd.C_drewN ?_ _) | (with_reducible refine Kd.C_drew ?_) | exact HR166_0.out))) hb)
                                  have n13_ := Aside0.mk (Kd.C_below (by first | ((with_reducible repeat (first | apply Kd.C_alloc | apply Kd.C_drewN | apply Kd.C_drew)); with_reducible exact HR171_0.out) | (repeat (first | (with_reducible exact HR171_0.out) | (with_reducible refine Kd.C_alloc ?_ _) | (with_reducible refine Kd.C_drewN ?_ _) | (with_reducible refine Kd.C_drew ?_) | exact HR171_0.out))) hb)
                                  have n14_ := Aside0.mk (Kd.C_below (by first | ((with_reducible repeat (first | apply Kd.C_alloc | apply Kd.C_drewN | apply Kd.C_drew)); with_reducible exact HR194_0.out) | (repeat (first | (with_reducible exact HR194_0.out) | (with_reducible refine Kd.C_alloc ?_ _) | (with_reducible refine Kd.C_drewN ?_ _) | (with_reducible refine Kd.C_drew ?_) | exact HR194_0.out))) hb)
                                  have n15_ := Aside0.mk (below_step (by repeat (first | (with_reducible first | exact HB.out | apply below_alloc | apply pw_below_drewN | apply below_drew1) | exact HB.out)) hb)
                                  clear HO162
                                  clear HO165
                                  clear HL166_0
                                  clear HO170
                                  clear HL171_0
                                  clear HO177
                                  clear HO183
                                  clear HO189
                                  clear HO193
                                  clear HL194_0
                                  clear HO206
                                  clear HR166_0
                                  clear HR171_0
                                  clear HR194_0
                                  clear HB
                                  have HO162 := n0_
                                  have HO165 := n1_
                                  have HL166_0 := n2_
                                  have HO170 := n3_
                                  have HL171_0 := n4_
                                  have HO177 := n5_
                                  have HO183 := n6_
                                  have HO189 := n7_
                                  have HO193 := n8_
                                  have HL194_0 := n9_
                                  have HO206 := n10_
                                  have HO211 := n11_
                                  have HR166_0 := n12_
                                  have HR171_0 := n13_
                                  have HR194_0 := n14_
                                  have HB := n15_
                                  clear n0_ n1_ n2_ n3_ n4_ n5_ n6_ n7_ n8_ n9_ n10_ n11_ n12_ n13_ n14_ n15_
                                  clear hb ho83
                                  obtain ⟨Ao84, co84, eo84⟩ := Kd.R_slice HO211.out
                                  (first | subst eo84 | (injection eo84 with f1_ f2_ f3_; have f4_ := f1_.symm; have f5_ := f3_.symm; clear f1_ f2_ f3_; subst f4_; subst f5_))
                                  refine hK.out _ _ ⟨HS0_, HS1_, HS2_, HS3_⟩ (fun hHeld => ?_)
                                  clear hK K
                                  refine norm_ (a' := ?_) ?_ ?_
                                  rotate_left
                                  · show Act.put _ (some 145) _ = _
                                    simp only [Act.put, List.setIfInBounds_toArray, List.set_cons_zero, List.set_cons_succ, i64_w, i32_w, IntKind.wrap_u8, IntKind.wrap_u32]
                                    rfl
                                  refine one_ (i := 65) (N := some 146) #[true, true, true, true, true, true, true, true, true, true, true, true, true, true, true, true, true, true, true, true, true, true, true, true, true, true, true, true, true, true, true, true, true, true, true, true, true, true, true, true, true, true, true, true, true, true, true, true, true, true, true, true, true, true, true, true, true, true, true, true, true, true, true, true, true, true, false, false, false, false] rfl rfl (one_of HT_.out (by kernel_rfl)) (by decide) (fun K hK => ?_)
                                  refine goes_ Try.func30 (by kernel_rfl) rfl #[.slice Ao84 y209.length co84] (by rfl) rfl rfl (by (try simp only [List.map_toArray, List.map_cons, List.map_nil]); first | done | rfl | (simp only [List.length_drop, List.length_take]; rfl)) ?_
                                  with_reducible refine (huff_Check.calls _ _ y209 t212 _ ?side1 ?side2 A35.out).mono ?_
                                  (case side1 => repeat (first | exact (Kd.R_reads' HO211.out).2.2 | (with_reducible refine Kd.C_alloc ?_ _) | (with_reducible refine Kd.C_drewN ?_ _) | (with_reducible refine Kd.C_drew ?_)))
                                  (case side2 => exact (Kd.R_reads' HO211.out).2.1)
                                  rintro e w85 ⟨rfl, hb⟩
                                  have HS0_ := (hb.cell (World.block_lt_of_cell? _ _ (hHeld.1))).trans (hHeld.1)
                                  have HS1_ := (hb.cell (World.block_lt_of_cell? _ _ (hHeld.2.1))).trans (hHeld.2.1)
                                  have HS2_ := (hb.cell (World.block_lt_of_cell? _ _ (hHeld.2.2.1))).trans (hHeld.2.2.1)
                                  have HS3_ := (hb.cell (World.block_lt_of_cell? _ _ (hHeld.2.2.2))).trans (hHeld.2.2.2)
                                  refine ⟨_, rfl, ?_⟩
                                  have n0_ := Aside0.mk (Kd.N_below (by (with_reducible repeat (first | apply Kd.N_alloc | apply Kd.N_drewN | apply Kd.N_drew)); exact HO162.out) hb)
                                  have n1_ := Aside0.mk (Kd.R_below (by (with_reducible repeat (first | apply Kd.R_alloc | apply Kd.R_drewN | apply Kd.R_drew)); exact HO165.out) hb)
                                  have n2_ := Aside0.mk (Kd.V_below (by (with_reducible repeat (first | apply Kd.V_alloc | apply Kd.V_drewN | apply Kd.V_drew)); exact HL166_0.out) hb)
                                  have n3_ := Aside0.mk (Kd.R_below (by (with_reducible repeat (first | apply Kd.R_alloc | apply Kd.R_drewN | apply Kd.R_drew)); exact HO170.out) hb)
                                  have n4_ := Aside0.mk (Kd.V_below (by (with_reducible repeat (first | apply Kd.V_alloc | apply Kd.V_drewN | apply Kd.V_drew)); exact HL171_0.out) hb)
                                  have n5_ := Aside0.mk (Kd.R_below (by (with_reducible repeat (first | apply Kd.R_alloc | apply Kd.R_drewN | apply Kd.R_drew)); exact HO177.out) hb)
                                  have n6_ := Aside0.mk (Kd.R_below (by (with_reducible repeat (first | apply Kd.R_alloc | apply Kd.R_drewN | apply Kd.R_drew)); exact HO183.out) hb)
                                  have n7_ := Aside0.mk (Kd.R_below (by (with_reducible repeat (first | apply Kd.R_alloc | apply Kd.R_drewN | apply Kd.R_drew)); exact HO189.out) hb)
                                  have n8_ := Aside0.mk (Kd.R_below (by (with_reducible repeat (first | apply Kd.R_alloc | apply Kd.R_drewN | apply Kd.R_drew)); exact HO193.out) hb)
                                  have n9_ := Aside0.mk (Kd.V_below (by (with_reducible repeat (first | apply Kd.V_alloc | apply Kd.V_drewN | apply Kd.V_drew)); exact HL194_0.out) hb)
                                  have n10_ := Aside0.mk (Kd.R_below (by (with_reducible repeat (first | apply Kd.R_alloc | apply Kd.R_drewN | apply Kd.R_drew)); exact HO206.out) hb)
                                  have n11_ := Aside0.mk (Kd.R_below (by (with_reducible repeat (first | apply Kd.R_alloc | apply Kd.R_drewN | apply Kd.R_drew)); exact HO211.out) hb)
                                  have n12_ := Aside0.mk (Kd.C_below (by first | ((with_reducible repeat (first | apply Kd.C_alloc | apply Kd.C_drewN | apply Kd.C_drew)); with_reducible exact HR166_0.out) | (repeat (first | (with_reducible exact HR166_0.out) | (with_reducible refine Kd.C_alloc ?_ _) | (with_reducible refine Kd.C_drewN ?_ _) | (with_reducible refine Kd.C_drew ?_) | exact HR166_0.out))) hb)
                                  have n13_ := Aside0.mk (Kd.C_below (by first | ((with_reducible repeat (first | apply Kd.C_alloc | apply Kd.C_drewN | apply Kd.C_drew)); with_reducible exact HR171_0.out) | (repeat (first | (with_reducible exact HR171_0.out) | (with_reducible refine Kd.C_alloc ?_ _) | (with_reducible refine Kd.C_drewN ?_ _) | (with_reducible refine Kd.C_drew ?_) | exact HR171_0.out))) hb)
                                  have n14_ := Aside0.mk (Kd.C_below (by first | ((with_reducible repeat (first | apply Kd.C_alloc | apply Kd.C_drewN | apply Kd.C_drew)); with_reducible exact HR194_0.out) | (repeat (first | (with_reducible exact HR194_0.out) | (with_reducible refine Kd.C_alloc ?_ _) | (with_reducible refine Kd.C_drewN ?_ _) | (with_reducible refine Kd.C_drew ?_) | exact HR194_0.out))) hb)
                                  have n15_ := Aside0.mk (below_step (by repeat (first | (with_reducible first | exact HB.out | apply below_alloc | apply pw_below_drewN | apply below_drew1) | exact HB.out)) hb)
                                  clear HO162
                                  clear HO165
                                  clear HL166_0
                                  clear HO170
                                  clear HL171_0
                                  clear HO177
                                  clear HO183
                                  clear HO189
                                  clear HO193
                                  clear HL194_0
                                  clear HO206
                                  clear HO211
                                  clear HR166_0
                                  clear HR171_0
                                  clear HR194_0
                                  clear HB
                                  have HO162 := n0_
                                  have HO165 := n1_
                                  have HL166_0 := n2_
                                  have HO170 := n3_
                                  have HL171_0 := n4_
                                  have HO177 := n5_
                                  have HO183 := n6_
                                  have HO189 := n7_
                                  have HO193 := n8_
                                  have HL194_0 := n9_
                                  have HO206 := n10_
                                  have HO211 := n11_
                                  have HR166_0 := n12_
                                  have HR171_0 := n13_
                                  have HR194_0 := n14_
                                  have HB := n15_
                                  clear n0_ n1_ n2_ n3_ n4_ n5_ n6_ n7_ n8_ n9_ n10_ n11_ n12_ n13_ n14_ n15_
                                  (try clear hb)
                                  (try clear hb2)
                                  (try clear hk)
                                  (try clear hi)
                                  refine hK.out _ _ ⟨HS0_, HS1_, HS2_, HS3_⟩ (fun hHeld => ?_)
                                  clear hK K
                                  refine norm_ (a' := ?_) ?_ ?_
                                  rotate_left
                                  · show Act.put _ (some 146) _ = _
                                    simp only [Act.put, List.setIfInBounds_toArray, List.set_cons_zero, List.set_cons_succ, i64_w, i32_w, IntKind.wrap_u8, IntKind.wrap_u32]
                                    rfl
                                  refine one_ (i := 66) (N := some 147) #[true, true, true, true, true, true, true, true, true, true, true, true, true, true, true, true, true, true, true, true, true, true, true, true, true, true, true, true, true, true, true, true, true, true, true, true, true, true, true, true, true, true, true, true, true, true, true, true, true, true, true, true, true, true, true, true, true, true, true, true, true, true, true, true, true, true, true, false, false, false] rfl rfl (one_of HT_.out (by kernel_rfl)) (by decide) (fun K hK => ?_)
                                  refine goes_ Try.func29 (by kernel_rfl) rfl #[.int .i64 t212] (by rfl) rfl rfl (by (try simp only [List.map_toArray, List.map_cons, List.map_nil]); first | done | rfl | (simp only [List.length_drop, List.length_take]; rfl)) ?_
                                  with_reducible refine (portagelaw0_Num.calls t212 t213 _ A36.out).mono ?_
                                  rintro e w' ⟨rfl, ⟨nd, rfl⟩⟩
                                  refine ⟨_, rfl, ?_⟩
                                  refine hK.out _ _ ⟨hHeld.1, hHeld.2.1, hHeld.2.2.1, hHeld.2.2.2⟩ (fun hHeld => ?_)
                                  clear hK K
                                  refine norm_ (a' := ?_) ?_ ?_
                                  rotate_left
                                  · show Act.put _ (some 147) _ = _
                                    simp only [Act.put, List.setIfInBounds_toArray, List.set_cons_zero, List.set_cons_succ, i64_w, i32_w, IntKind.wrap_u8, IntKind.wrap_u32]
                                    rfl
                                  refine pure_ (i := 67) (N := some 148) (v := ?_) (a' := ?_) #[true, true, true, true, true, true, true, true, true, true, true, true, true, true, true, true, true, true, true, true, true, true, true, true, true, true, true, true, true, true, true, true, true, true, true, true, true, true, true, true, true, true, true, true, true, true, true, true, true, true, true, true, true, true, true, true, true, true, true, true, true, true, true, true, true, true, true, true, false, false] rfl rfl (any_of HT_.out (by kernel_rfl)) (fun _ _ _ h => h) (Or.inl ⟨by rfl, ?_⟩) ?_ ?_
                                  rotate_left
                                  · intro w'
                                    go_simp
                                    with_reducible rfl
                                  rotate_left
                                  · simp only [Act.put, List.setIfInBounds_toArray, List.set_cons_zero, List.set_cons_succ, i64_w, i32_w, IntKind.wrap_u8, IntKind.wrap_u32]
                                    rfl
                                  refine pure_ (i := 68) (N := some 149) (v := ?_) (a' := ?_) #[true, true, true, true, true, true, true, true, true, true, true, true, true, true, true, true, true, true, true, true, true, true, true, true, true, true, true, true, true, true, true, true, true, true, true, true, true, true, true, true, true, true, true, true, true, true, true, true, true, true, true, true, true, true, true, true, true, true, true, true, true, true, true, true, true, true, true, true, true, false] rfl rfl (any_of HT_.out (by kernel_rfl)) (fun _ _ _ h => h) (Or.inl ⟨by rfl, ?_⟩) ?_ ?_
                                  rotate_left
                                  · intro w'
                                    go_simp
                                    with_reducible rfl
                                  rotate_left
                                  · simp only [Act.put, List.setIfInBounds_toArray, List.set_cons_zero, List.set_cons_succ, i64_w, i32_w, IntKind.wrap_u8, IntKind.wrap_u32]
                                    rfl
                                  refine pure_ (i := 69) (N := some 4) (v := ?_) (a' := ?_) #[true, true, true, true, true, true, true, true, true, true, true, true, true, true, true, true, true, true, true, true, true, true, true, true, true, true, true, true, true, true, true, true, true, true, true, true, true, true, true, true, true, true, true, true, true, true, true, true, true, true, true, true, true, true, true, true, true, true, true, true, true, true, true, true, true, true, true, true, true, true] rfl rfl (any_of HT_.out (by kernel_rfl)) (fun _ _ _ h => h) (Or.inl ⟨by rfl, ?_⟩) ?_ ?_
                                  rotate_left
                                  · intro w'
                                    go_simp
                                    with_reducible rfl
                                  rotate_left
                                  · simp only [Act.put, List.setIfInBounds_toArray, List.set_cons_zero, List.set_cons_succ, i64_w, i32_w, IntKind.wrap_u8, IntKind.wrap_u32]
                                    rfl
                                  refine done_ (done_of HT_.out (by kernel_rfl)) ?_
                                  try go_wp2
                                  go_ret
                                  exact ⟨by first | rfl | (simp [errW_none, errW_some] <;> rfl) | (simp only [← hji5, ← hji8]; first | rfl | (simp [errW_none, errW_some] <;> rfl)) | (simp [*, errW_none, errW_some] <;> rfl), by repeat (first | (with_reducible first | exact HB.out | apply below_alloc | apply pw_below_drewN | apply below_drew1) | exact HB.out)⟩
                                · rw [if_neg c34] at H
                                  have c34b0 : (t208 == 0) = false := beq_eq_false_iff_ne.mpr c34
                                  have c34b1 : (t208 != 0) = true := bne_iff_ne.mpr c34
                                  exact absurd H (by simp)
                              · replace c32 := Bool.eq_false_iff.mpr c32
                                subst c32
                                have H1 : (none) = some r := by rw [if_neg (show ¬ (false = true) by decide)] at H; exact H
                                clear H
                                have H := H1
                                clear H1
                                exact absurd H (by simp)
                            · rw [if_neg c30] at H
                              have c30b0 : (t203 == 0) = false := beq_eq_false_iff_ne.mpr c30
                              have c30b1 : (t203 != 0) = true := bne_iff_ne.mpr c30
                              exact absurd H (by simp)
                        · rw [if_neg c27] at H
                          have c27b0 : (t202 == 0) = false := beq_eq_false_iff_ne.mpr c27
                          have c27b1 : (t202 != 0) = true := bne_iff_ne.mpr c27
                          exact absurd H (by simp)
                    · rw [if_neg c24] at H
                      have c24b0 : (t200 == (rd y163 (ji8))) = false := beq_eq_false_iff_ne.mpr c24
                      have c24b1 : (t200 != (rd y163 (ji8))) = true := bne_iff_ne.mpr c24
                      exact absurd H (by simp)
                · rw [if_neg c21] at H
                  have c21b0 : (t198 == (rd y163 (ji8))) = false := beq_eq_false_iff_ne.mpr c21
                  have c21b1 : (t198 != (rd y163 (ji8))) = true := bne_iff_ne.mpr c21
                  exact absurd H (by simp)
              · rw [if_neg c19] at H
                have c19b0 : (t196 == (rd y163 (ji8))) = false := beq_eq_false_iff_ne.mpr c19
                have c19b1 : (t196 != (rd y163 (ji8))) = true := bne_iff_ne.mpr c19
                exact absurd H (by simp)
            · rw [if_neg c18] at H
              exact absurd H (by simp)
          · rw [if_neg c10] at H
            exact absurd H (by simp)
        · rw [if_neg c9] at H
          exact absurd H (by simp)
      · rw [if_neg c7] at H
        exact absurd H (by simp)
    · rw [if_neg c6] at H
      exact absurd H (by simp)
  · replace c4 := Bool.eq_false_iff.mpr c4
    subst c4
    have H1 : (none) = some r := by rw [if_neg (show ¬ (false = true) by decide)] at H; exact H
    clear H
    have H := H1
    clear H1
    exact absurd H (by simp)

/-- THE ONE PURE STATEMENT of portagelaw3_HuffForms: yours. -/
def portagelaw3_HuffForms.Pure : Prop := ∀ (a0 : Int) (a1 : Int), (Lit.int .i64 a0).wf = true → (Lit.int .i64 a1).wf = true → ∃ k, portagelaw3_HuffForms.f k a0 a1 = some true
theorem portagelaw3_HuffForms.walk (P : portagelaw3_HuffForms.Pure) (a0 : Int) (a1 : Int) (w : World) (w0 : (Lit.int .i64 a0).wf = true) (w1 : (Lit.int .i64 a1).wf = true) :
    Calls Try.prog 5 #[.int .i64 a0, .int .i64 a1] w fun e w' => e = .returned (.bool true) ∧ Below w.heap.size w w' := by
  obtain ⟨k, h⟩ := P a0 a1 w0 w1
  refine (portagelaw3_HuffForms.calls k a0 a1 true w h).mono ?_
  rintro e w' ⟨rfl, hd⟩
  exact ⟨rfl, hd⟩

end Go.Proofs.Ytbifignggnfodaa.HF
