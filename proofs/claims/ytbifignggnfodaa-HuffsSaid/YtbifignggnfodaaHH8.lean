-- Written by a program of this session out of the translation (a changed copy of the kit's printer).
import Derived.Test.YtbifignggnfodaaHH0
import Derived.Test.YtbifignggnfodaaHH2
import Derived.Test.YtbifignggnfodaaHH4
import Derived.Test.YtbifignggnfodaaHH5
import Derived.Test.YtbifignggnfodaaHH6
import Derived.Test.YtbifignggnfodaaHH7
namespace Go.Proofs.Ytbifignggnfodaa.HH
open Go.RowKit Go.Proofs.YtbifignggnfodaaW.PrintWords Go.Proofs.YtbifignggnfodaaW.PrintLast Go.Proofs.YtbifignggnfodaaW.PrintMore
attribute [local go_sem] max2_int min2_int max_two min_two max_three min_three max_four min_four   -- for this text's walks alone
set_option linter.unusedVariables false
set_option linter.unusedSimpArgs false

/-! ### portagelaw3_awake: function 34 -/
def portagelaw3_awake.f (k : Nat)  : Option (Bool) := (some (([2, 1, 3, 3] : List Int) : List Int)).bind fun y155 => ((huff_Codes.f y155).bind fun bt158 => ((huff_Find.f y155 3 7).bind fun bt162 => ((huff_Find.f y155 2 3).bind fun bt165 => ((portagelaw0_SameCodes.f k bt158.1 (([(⟨2, 2⟩ : S43), (⟨1, 0⟩ : S43), (⟨3, 6⟩ : S43), (⟨3, 7⟩ : S43)] : List (S43)))).bind fun t171 => (if t171 = true then ((portagelaw0_Num.f bt158.2).bind fun t172 => (if t172 = 0 then (if bt162.1 = 3 then (if bt162.2.1 = true then ((portagelaw0_Num.f bt162.2.2).bind fun t173 => (if t173 = 0 then (if bt165.2.1 = true then (none) else ((portagelaw0_Num.f bt165.2.2).bind fun t174 => (if t174 = 0 then ((huff_Check.f y155).bind fun t175 => ((portagelaw0_Num.f t175).bind fun t176 => (if t176 = 0 then ((huff_Check.f (([1, 1, 1] : List Int))).bind fun t180 => ((portagelaw0_Num.f t180).bind fun t181 => (if t181 = 301 then ((huff_Check.f (([2, 1] : List Int))).bind fun t185 => ((portagelaw0_Num.f t185).bind fun t186 => (if t186 = 302 then ((huff_Check.f ([] : List Int)).bind fun t187 => ((portagelaw0_Num.f t187).bind fun t188 => (some (t188 == 300)))) else (none)))) else (none)))) else (none)))) else (none)))) else (none))) else (none)) else (none)) else (none))) else (none))))))
theorem portagelaw3_awake.mono : ∀ k, LeO (portagelaw3_awake.f k ) (portagelaw3_awake.f (k + 1) ) := by
  intro  k
  unfold portagelaw3_awake.f
  repeat' first
      | (with_reducible exact portagelaw0_SameCodes.mono _ _ _)
      | (with_reducible exact LeO.refl _)
      | (with_reducible exact LeO.none _)
      | (with_reducible refine LeO.ite ?_ ?_)
      | (with_reducible refine LeO.bind ?_ (fun _ => ?_))
      | exact portagelaw0_SameCodes.mono _ _ _
      | exact LeO.none _
      | refine LeO.ite ?_ ?_
      | refine LeO.bind ?_ (fun _ => ?_)
set_option maxHeartbeats 8000000 in
set_option maxRecDepth 100000 in
theorem portagelaw3_awake.calls (k : Nat)  (r : Bool) (w : World) (h : portagelaw3_awake.f k  = some r) :
    Calls Try.prog 34 #[] w fun e w' => e = .returned (.bool r) ∧ Below w.heap.size w w' := by
  have hu43 := Try.underlying43
  have HB := Aside0.mk (Below.refl w.heap.size w)
  have H : ((some (([2, 1, 3, 3] : List Int) : List Int)).bind fun y155 => ((huff_Codes.f y155).bind fun bt158 => ((huff_Find.f y155 3 7).bind fun bt162 => ((huff_Find.f y155 2 3).bind fun bt165 => ((portagelaw0_SameCodes.f k bt158.1 (([(⟨2, 2⟩ : S43), (⟨1, 0⟩ : S43), (⟨3, 6⟩ : S43), (⟨3, 7⟩ : S43)] : List (S43)))).bind fun t171 => (if t171 = true then ((portagelaw0_Num.f bt158.2).bind fun t172 => (if t172 = 0 then (if bt162.1 = 3 then (if bt162.2.1 = true then ((portagelaw0_Num.f bt162.2.2).bind fun t173 => (if t173 = 0 then (if bt165.2.1 = true then (none) else ((portagelaw0_Num.f bt165.2.2).bind fun t174 => (if t174 = 0 then ((huff_Check.f y155).bind fun t175 => ((portagelaw0_Num.f t175).bind fun t176 => (if t176 = 0 then ((huff_Check.f (([1, 1, 1] : List Int))).bind fun t180 => ((portagelaw0_Num.f t180).bind fun t181 => (if t181 = 301 then ((huff_Check.f (([2, 1] : List Int))).bind fun t185 => ((portagelaw0_Num.f t185).bind fun t186 => (if t186 = 302 then ((huff_Check.f ([] : List Int)).bind fun t187 => ((portagelaw0_Num.f t187).bind fun t188 => (some (t188 == 300)))) else (none)))) else (none)))) else (none)))) else (none)))) else (none))) else (none)) else (none)) else (none))) else (none))))))) = some r := h
  clear h
  obtain ⟨y155, hy155⟩ : ∃ y_ : List Int, y_ = (([2, 1, 3, 3] : List Int)) := ⟨_, rfl⟩
  replace H : ((huff_Codes.f y155).bind fun bt158 => ((huff_Find.f y155 3 7).bind fun bt162 => ((huff_Find.f y155 2 3).bind fun bt165 => ((portagelaw0_SameCodes.f k bt158.1 (([(⟨2, 2⟩ : S43), (⟨1, 0⟩ : S43), (⟨3, 6⟩ : S43), (⟨3, 7⟩ : S43)] : List (S43)))).bind fun t171 => (if t171 = true then ((portagelaw0_Num.f bt158.2).bind fun t172 => (if t172 = 0 then (if bt162.1 = 3 then (if bt162.2.1 = true then ((portagelaw0_Num.f bt162.2.2).bind fun t173 => (if t173 = 0 then (if bt165.2.1 = true then (none) else ((portagelaw0_Num.f bt165.2.2).bind fun t174 => (if t174 = 0 then ((huff_Check.f y155).bind fun t175 => ((portagelaw0_Num.f t175).bind fun t176 => (if t176 = 0 then ((huff_Check.f (([1, 1, 1] : List Int))).bind fun t180 => ((portagelaw0_Num.f t180).bind fun t181 => (if t181 = 301 then ((huff_Check.f (([2, 1] : List Int))).bind fun t185 => ((portagelaw0_Num.f t185).bind fun t186 => (if t186 = 302 then ((huff_Check.f ([] : List Int)).bind fun t187 => ((portagelaw0_Num.f t187).bind fun t188 => (some (t188 == 300)))) else (none)))) else (none)))) else (none)))) else (none)))) else (none))) else (none)) else (none)) else (none))) else (none)))))) = some r := by first | (rw [hy155]; with_reducible exact H) | (have H2_ := (Option.bind_some _ _).symm.trans H; rw [hy155]; with_reducible exact H2_) | (have H2_ := (Option.bind_some _ _).symm.trans H; with_reducible exact H2_) | with_reducible exact H | (rw [hy155]; exact H) | exact H
  have Ny155 := Aside0.mk hy155
  clear hy155
  replace H := Option.bind_eq_some_iff.mp H
  obtain ⟨⟨t158, t159⟩, A10, H⟩ := H
  replace H : ((huff_Find.f y155 3 7).bind fun bt162 => ((huff_Find.f y155 2 3).bind fun bt165 => ((portagelaw0_SameCodes.f k t158 (([(⟨2, 2⟩ : S43), (⟨1, 0⟩ : S43), (⟨3, 6⟩ : S43), (⟨3, 7⟩ : S43)] : List (S43)))).bind fun t171 => (if t171 = true then ((portagelaw0_Num.f t159).bind fun t172 => (if t172 = 0 then (if bt162.1 = 3 then (if bt162.2.1 = true then ((portagelaw0_Num.f bt162.2.2).bind fun t173 => (if t173 = 0 then (if bt165.2.1 = true then (none) else ((portagelaw0_Num.f bt165.2.2).bind fun t174 => (if t174 = 0 then ((huff_Check.f y155).bind fun t175 => ((portagelaw0_Num.f t175).bind fun t176 => (if t176 = 0 then ((huff_Check.f (([1, 1, 1] : List Int))).bind fun t180 => ((portagelaw0_Num.f t180).bind fun t181 => (if t181 = 301 then ((huff_Check.f (([2, 1] : List Int))).bind fun t185 => ((portagelaw0_Num.f t185).bind fun t186 => (if t186 = 302 then ((huff_Check.f ([] : List Int)).bind fun t187 => ((portagelaw0_Num.f t187).bind fun t188 => (some (t188 == 300)))) else (none)))) else (none)))) else (none)))) else (none)))) else (none))) else (none)) else (none)) else (none))) else (none))))) = some r := H
  have A1 := Aside0.mk A10
  clear A10
  replace H := Option.bind_eq_some_iff.mp H
  obtain ⟨⟨t162, t163, t164⟩, A20, H⟩ := H
  replace H : ((huff_Find.f y155 2 3).bind fun bt165 => ((portagelaw0_SameCodes.f k t158 (([(⟨2, 2⟩ : S43), (⟨1, 0⟩ : S43), (⟨3, 6⟩ : S43), (⟨3, 7⟩ : S43)] : List (S43)))).bind fun t171 => (if t171 = true then ((portagelaw0_Num.f t159).bind fun t172 => (if t172 = 0 then (if t162 = 3 then (if t163 = true then ((portagelaw0_Num.f t164).bind fun t173 => (if t173 = 0 then (if bt165.2.1 = true then (none) else ((portagelaw0_Num.f bt165.2.2).bind fun t174 => (if t174 = 0 then ((huff_Check.f y155).bind fun t175 => ((portagelaw0_Num.f t175).bind fun t176 => (if t176 = 0 then ((huff_Check.f (([1, 1, 1] : List Int))).bind fun t180 => ((portagelaw0_Num.f t180).bind fun t181 => (if t181 = 301 then ((huff_Check.f (([2, 1] : List Int))).bind fun t185 => ((portagelaw0_Num.f t185).bind fun t186 => (if t186 = 302 then ((huff_Check.f ([] : List Int)).bind fun t187 => ((portagelaw0_Num.f t187).bind fun t188 => (some (t188 == 300)))) else (none)))) else (none)))) else (none)))) else (none)))) else (none))) else (none)) else (none)) else (none))) else (none)))) = some r := H
  have A2 := Aside0.mk A20
  clear A20
  replace H := Option.bind_eq_some_iff.mp H
  obtain ⟨⟨t165, t166, t167⟩, A30, H⟩ := H
  replace H : ((portagelaw0_SameCodes.f k t158 (([(⟨2, 2⟩ : S43), (⟨1, 0⟩ : S43), (⟨3, 6⟩ : S43), (⟨3, 7⟩ : S43)] : List (S43)))).bind fun t171 => (if t171 = true then ((portagelaw0_Num.f t159).bind fun t172 => (if t172 = 0 then (if t162 = 3 then (if t163 = true then ((portagelaw0_Num.f t164).bind fun t173 => (if t173 = 0 then (if t166 = true then (none) else ((portagelaw0_Num.f t167).bind fun t174 => (if t174 = 0 then ((huff_Check.f y155).bind fun t175 => ((portagelaw0_Num.f t175).bind fun t176 => (if t176 = 0 then ((huff_Check.f (([1, 1, 1] : List Int))).bind fun t180 => ((portagelaw0_Num.f t180).bind fun t181 => (if t181 = 301 then ((huff_Check.f (([2, 1] : List Int))).bind fun t185 => ((portagelaw0_Num.f t185).bind fun t186 => (if t186 = 302 then ((huff_Check.f ([] : List Int)).bind fun t187 => ((portagelaw0_Num.f t187).bind fun t188 => (some (t188 == 300)))) else (none)))) else (none)))) else (none)))) else (none)))) else (none))) else (none)) else (none)) else (none))) else (none))) = some r := H
  have A3 := Aside0.mk A30
  clear A30
  obtain ⟨y168, hy168⟩ : ∃ y_ : List (S43), y_ = (([(⟨2, 2⟩ : S43), (⟨1, 0⟩ : S43), (⟨3, 6⟩ : S43), (⟨3, 7⟩ : S43)] : List (S43))) := ⟨_, rfl⟩
  replace H : ((portagelaw0_SameCodes.f k t158 y168).bind fun t171 => (if t171 = true then ((portagelaw0_Num.f t159).bind fun t172 => (if t172 = 0 then (if t162 = 3 then (if t163 = true then ((portagelaw0_Num.f t164).bind fun t173 => (if t173 = 0 then (if t166 = true then (none) else ((portagelaw0_Num.f t167).bind fun t174 => (if t174 = 0 then ((huff_Check.f y155).bind fun t175 => ((portagelaw0_Num.f t175).bind fun t176 => (if t176 = 0 then ((huff_Check.f (([1, 1, 1] : List Int))).bind fun t180 => ((portagelaw0_Num.f t180).bind fun t181 => (if t181 = 301 then ((huff_Check.f (([2, 1] : List Int))).bind fun t185 => ((portagelaw0_Num.f t185).bind fun t186 => (if t186 = 302 then ((huff_Check.f ([] : List Int)).bind fun t187 => ((portagelaw0_Num.f t187).bind fun t188 => (some (t188 == 300)))) else (none)))) else (none)))) else (none)))) else (none)))) else (none))) else (none)) else (none)) else (none))) else (none))) = some r := by first | (rw [hy168]; with_reducible exact H) | (have H2_ := (Option.bind_some _ _).symm.trans H; rw [hy168]; with_reducible exact H2_) | (have H2_ := (Option.bind_some _ _).symm.trans H; with_reducible exact H2_) | with_reducible exact H | (rw [hy168]; exact H) | exact H
  have Ny168 := Aside0.mk hy168
  clear hy168
  replace H := Option.bind_eq_some_iff.mp H
  obtain ⟨t171, A40, H⟩ := H
  replace H : (if t171 = true then ((portagelaw0_Num.f t159).bind fun t172 => (if t172 = 0 then (if t162 = 3 then (if t163 = true then ((portagelaw0_Num.f t164).bind fun t173 => (if t173 = 0 then (if t166 = true then (none) else ((portagelaw0_Num.f t167).bind fun t174 => (if t174 = 0 then ((huff_Check.f y155).bind fun t175 => ((portagelaw0_Num.f t175).bind fun t176 => (if t176 = 0 then ((huff_Check.f (([1, 1, 1] : List Int))).bind fun t180 => ((portagelaw0_Num.f t180).bind fun t181 => (if t181 = 301 then ((huff_Check.f (([2, 1] : List Int))).bind fun t185 => ((portagelaw0_Num.f t185).bind fun t186 => (if t186 = 302 then ((huff_Check.f ([] : List Int)).bind fun t187 => ((portagelaw0_Num.f t187).bind fun t188 => (some (t188 == 300)))) else (none)))) else (none)))) else (none)))) else (none)))) else (none))) else (none)) else (none)) else (none))) else (none)) = some r := H
  have A4 := Aside0.mk A40
  clear A40
  by_cases c5 : t171 = true
  · subst c5
    have H1 : ((portagelaw0_Num.f t159).bind fun t172 => (if t172 = 0 then (if t162 = 3 then (if t163 = true then ((portagelaw0_Num.f t164).bind fun t173 => (if t173 = 0 then (if t166 = true then (none) else ((portagelaw0_Num.f t167).bind fun t174 => (if t174 = 0 then ((huff_Check.f y155).bind fun t175 => ((portagelaw0_Num.f t175).bind fun t176 => (if t176 = 0 then ((huff_Check.f (([1, 1, 1] : List Int))).bind fun t180 => ((portagelaw0_Num.f t180).bind fun t181 => (if t181 = 301 then ((huff_Check.f (([2, 1] : List Int))).bind fun t185 => ((portagelaw0_Num.f t185).bind fun t186 => (if t186 = 302 then ((huff_Check.f ([] : List Int)).bind fun t187 => ((portagelaw0_Num.f t187).bind fun t188 => (some (t188 == 300)))) else (none)))) else (none)))) else (none)))) else (none)))) else (none))) else (none)) else (none)) else (none))) = some r := by rw [if_pos rfl] at H; exact H
    clear H
    have H := H1
    clear H1
    replace H := Option.bind_eq_some_iff.mp H
    obtain ⟨t172, A60, H⟩ := H
    replace H : (if t172 = 0 then (if t162 = 3 then (if t163 = true then ((portagelaw0_Num.f t164).bind fun t173 => (if t173 = 0 then (if t166 = true then (none) else ((portagelaw0_Num.f t167).bind fun t174 => (if t174 = 0 then ((huff_Check.f y155).bind fun t175 => ((portagelaw0_Num.f t175).bind fun t176 => (if t176 = 0 then ((huff_Check.f (([1, 1, 1] : List Int))).bind fun t180 => ((portagelaw0_Num.f t180).bind fun t181 => (if t181 = 301 then ((huff_Check.f (([2, 1] : List Int))).bind fun t185 => ((portagelaw0_Num.f t185).bind fun t186 => (if t186 = 302 then ((huff_Check.f ([] : List Int)).bind fun t187 => ((portagelaw0_Num.f t187).bind fun t188 => (some (t188 == 300)))) else (none)))) else (none)))) else (none)))) else (none)))) else (none))) else (none)) else (none)) else (none)) = some r := H
    have A6 := Aside0.mk A60
    clear A60
    by_cases c7 : t172 = 0
    · rw [if_pos c7] at H
      have c7b0 : (t172 == 0) = true := beq_iff_eq.mpr c7
      have c7b1 : (t172 != 0) = false := bne_eq_false_iff_eq.mpr c7
      clear c7
      by_cases c8 : t162 = 3
      · rw [if_pos c8] at H
        have c8b0 : (t162 == 3) = true := beq_iff_eq.mpr c8
        have c8b1 : (t162 != 3) = false := bne_eq_false_iff_eq.mpr c8
        clear c8
        by_cases c9 : t163 = true
        · subst c9
          have H1 : ((portagelaw0_Num.f t164).bind fun t173 => (if t173 = 0 then (if t166 = true then (none) else ((portagelaw0_Num.f t167).bind fun t174 => (if t174 = 0 then ((huff_Check.f y155).bind fun t175 => ((portagelaw0_Num.f t175).bind fun t176 => (if t176 = 0 then ((huff_Check.f (([1, 1, 1] : List Int))).bind fun t180 => ((portagelaw0_Num.f t180).bind fun t181 => (if t181 = 301 then ((huff_Check.f (([2, 1] : List Int))).bind fun t185 => ((portagelaw0_Num.f t185).bind fun t186 => (if t186 = 302 then ((huff_Check.f ([] : List Int)).bind fun t187 => ((portagelaw0_Num.f t187).bind fun t188 => (some (t188 == 300)))) else (none)))) else (none)))) else (none)))) else (none)))) else (none))) = some r := by rw [if_pos rfl] at H; exact H
          clear H
          have H := H1
          clear H1
          replace H := Option.bind_eq_some_iff.mp H
          obtain ⟨t173, A100, H⟩ := H
          replace H : (if t173 = 0 then (if t166 = true then (none) else ((portagelaw0_Num.f t167).bind fun t174 => (if t174 = 0 then ((huff_Check.f y155).bind fun t175 => ((portagelaw0_Num.f t175).bind fun t176 => (if t176 = 0 then ((huff_Check.f (([1, 1, 1] : List Int))).bind fun t180 => ((portagelaw0_Num.f t180).bind fun t181 => (if t181 = 301 then ((huff_Check.f (([2, 1] : List Int))).bind fun t185 => ((portagelaw0_Num.f t185).bind fun t186 => (if t186 = 302 then ((huff_Check.f ([] : List Int)).bind fun t187 => ((portagelaw0_Num.f t187).bind fun t188 => (some (t188 == 300)))) else (none)))) else (none)))) else (none)))) else (none)))) else (none)) = some r := H
          have A10 := Aside0.mk A100
          clear A100
          by_cases c11 : t173 = 0
          · rw [if_pos c11] at H
            have c11b0 : (t173 == 0) = true := beq_iff_eq.mpr c11
            have c11b1 : (t173 != 0) = false := bne_eq_false_iff_eq.mpr c11
            clear c11
            by_cases c12 : t166 = true
            · subst c12
              have H1 : (none) = some r := by rw [if_pos rfl] at H; exact H
              clear H
              have H := H1
              clear H1
              exact absurd H (by simp)
            · replace c12 := Bool.eq_false_iff.mpr c12
              subst c12
              have H1 : ((portagelaw0_Num.f t167).bind fun t174 => (if t174 = 0 then ((huff_Check.f y155).bind fun t175 => ((portagelaw0_Num.f t175).bind fun t176 => (if t176 = 0 then ((huff_Check.f (([1, 1, 1] : List Int))).bind fun t180 => ((portagelaw0_Num.f t180).bind fun t181 => (if t181 = 301 then ((huff_Check.f (([2, 1] : List Int))).bind fun t185 => ((portagelaw0_Num.f t185).bind fun t186 => (if t186 = 302 then ((huff_Check.f ([] : List Int)).bind fun t187 => ((portagelaw0_Num.f t187).bind fun t188 => (some (t188 == 300)))) else (none)))) else (none)))) else (none)))) else (none))) = some r := by rw [if_neg (show ¬ (false = true) by decide)] at H; exact H
              clear H
              have H := H1
              clear H1
              replace H := Option.bind_eq_some_iff.mp H
              obtain ⟨t174, A130, H⟩ := H
              replace H : (if t174 = 0 then ((huff_Check.f y155).bind fun t175 => ((portagelaw0_Num.f t175).bind fun t176 => (if t176 = 0 then ((huff_Check.f (([1, 1, 1] : List Int))).bind fun t180 => ((portagelaw0_Num.f t180).bind fun t181 => (if t181 = 301 then ((huff_Check.f (([2, 1] : List Int))).bind fun t185 => ((portagelaw0_Num.f t185).bind fun t186 => (if t186 = 302 then ((huff_Check.f ([] : List Int)).bind fun t187 => ((portagelaw0_Num.f t187).bind fun t188 => (some (t188 == 300)))) else (none)))) else (none)))) else (none)))) else (none)) = some r := H
              have A13 := Aside0.mk A130
              clear A130
              by_cases c14 : t174 = 0
              · rw [if_pos c14] at H
                have c14b0 : (t174 == 0) = true := beq_iff_eq.mpr c14
                have c14b1 : (t174 != 0) = false := bne_eq_false_iff_eq.mpr c14
                clear c14
                replace H := Option.bind_eq_some_iff.mp H
                obtain ⟨t175, A150, H⟩ := H
                replace H : ((portagelaw0_Num.f t175).bind fun t176 => (if t176 = 0 then ((huff_Check.f (([1, 1, 1] : List Int))).bind fun t180 => ((portagelaw0_Num.f t180).bind fun t181 => (if t181 = 301 then ((huff_Check.f (([2, 1] : List Int))).bind fun t185 => ((portagelaw0_Num.f t185).bind fun t186 => (if t186 = 302 then ((huff_Check.f ([] : List Int)).bind fun t187 => ((portagelaw0_Num.f t187).bind fun t188 => (some (t188 == 300)))) else (none)))) else (none)))) else (none))) = some r := H
                have A15 := Aside0.mk A150
                clear A150
                replace H := Option.bind_eq_some_iff.mp H
                obtain ⟨t176, A160, H⟩ := H
                replace H : (if t176 = 0 then ((huff_Check.f (([1, 1, 1] : List Int))).bind fun t180 => ((portagelaw0_Num.f t180).bind fun t181 => (if t181 = 301 then ((huff_Check.f (([2, 1] : List Int))).bind fun t185 => ((portagelaw0_Num.f t185).bind fun t186 => (if t186 = 302 then ((huff_Check.f ([] : List Int)).bind fun t187 => ((portagelaw0_Num.f t187).bind fun t188 => (some (t188 == 300)))) else (none)))) else (none)))) else (none)) = some r := H
                have A16 := Aside0.mk A160
                clear A160
                by_cases c17 : t176 = 0
                · rw [if_pos c17] at H
                  have c17b0 : (t176 == 0) = true := beq_iff_eq.mpr c17
                  have c17b1 : (t176 != 0) = false := bne_eq_false_iff_eq.mpr c17
                  clear c17
                  obtain ⟨y177, hy177⟩ : ∃ y_ : List Int, y_ = (([1, 1, 1] : List Int)) := ⟨_, rfl⟩
                  replace H : ((huff_Check.f y177).bind fun t180 => ((portagelaw0_Num.f t180).bind fun t181 => (if t181 = 301 then ((huff_Check.f (([2, 1] : List Int))).bind fun t185 => ((portagelaw0_Num.f t185).bind fun t186 => (if t186 = 302 then ((huff_Check.f ([] : List Int)).bind fun t187 => ((portagelaw0_Num.f t187).bind fun t188 => (some (t188 == 300)))) else (none)))) else (none)))) = some r := by first | (rw [hy177]; with_reducible exact H) | (have H2_ := (Option.bind_some _ _).symm.trans H; rw [hy177]; with_reducible exact H2_) | (have H2_ := (Option.bind_some _ _).symm.trans H; with_reducible exact H2_) | with_reducible exact H | (rw [hy177]; exact H) | exact H
                  have Ny177 := Aside0.mk hy177
                  clear hy177
                  replace H := Option.bind_eq_some_iff.mp H
                  obtain ⟨t180, A180, H⟩ := H
                  replace H : ((portagelaw0_Num.f t180).bind fun t181 => (if t181 = 301 then ((huff_Check.f (([2, 1] : List Int))).bind fun t185 => ((portagelaw0_Num.f t185).bind fun t186 => (if t186 = 302 then ((huff_Check.f ([] : List Int)).bind fun t187 => ((portagelaw0_Num.f t187).bind fun t188 => (some (t188 == 300)))) else (none)))) else (none))) = some r := H
                  have A18 := Aside0.mk A180
                  clear A180
                  replace H := Option.bind_eq_some_iff.mp H
                  obtain ⟨t181, A190, H⟩ := H
                  replace H : (if t181 = 301 then ((huff_Check.f (([2, 1] : List Int))).bind fun t185 => ((portagelaw0_Num.f t185).bind fun t186 => (if t186 = 302 then ((huff_Check.f ([] : List Int)).bind fun t187 => ((portagelaw0_Num.f t187).bind fun t188 => (some (t188 == 300)))) else (none)))) else (none)) = some r := H
                  have A19 := Aside0.mk A190
                  clear A190
                  by_cases c20 : t181 = 301
                  · rw [if_pos c20] at H
                    have c20b0 : (t181 == 301) = true := beq_iff_eq.mpr c20
                    have c20b1 : (t181 != 301) = false := bne_eq_false_iff_eq.mpr c20
                    clear c20
                    obtain ⟨y182, hy182⟩ : ∃ y_ : List Int, y_ = (([2, 1] : List Int)) := ⟨_, rfl⟩
                    replace H : ((huff_Check.f y182).bind fun t185 => ((portagelaw0_Num.f t185).bind fun t186 => (if t186 = 302 then ((huff_Check.f ([] : List Int)).bind fun t187 => ((portagelaw0_Num.f t187).bind fun t188 => (some (t188 == 300)))) else (none)))) = some r := by first | (rw [hy182]; with_reducible exact H) | (have H2_ := (Option.bind_some _ _).symm.trans H; rw [hy182]; with_reducible exact H2_) | (have H2_ := (Option.bind_some _ _).symm.trans H; with_reducible exact H2_) | with_reducible exact H | (rw [hy182]; exact H) | exact H
                    have Ny182 := Aside0.mk hy182
                    clear hy182
                    replace H := Option.bind_eq_some_iff.mp H
                    obtain ⟨t185, A210, H⟩ := H
                    replace H : ((portagelaw0_Num.f t185).bind fun t186 => (if t186 = 302 then ((huff_Check.f ([] : List Int)).bind fun t187 => ((portagelaw0_Num.f t187).bind fun t188 => (some (t188 == 300)))) else (none))) = some r := H
                    have A21 := Aside0.mk A210
                    clear A210
                    replace H := Option.bind_eq_some_iff.mp H
                    obtain ⟨t186, A220, H⟩ := H
                    replace H : (if t186 = 302 then ((huff_Check.f ([] : List Int)).bind fun t187 => ((portagelaw0_Num.f t187).bind fun t188 => (some (t188 == 300)))) else (none)) = some r := H
                    have A22 := Aside0.mk A220
                    clear A220
                    by_cases c23 : t186 = 302
                    · rw [if_pos c23] at H
                      have c23b0 : (t186 == 302) = true := beq_iff_eq.mpr c23
                      have c23b1 : (t186 != 302) = false := bne_eq_false_iff_eq.mpr c23
                      clear c23
                      replace H := Option.bind_eq_some_iff.mp H
                      obtain ⟨t187, A240, H⟩ := H
                      replace H : ((portagelaw0_Num.f t187).bind fun t188 => (some (t188 == 300))) = some r := H
                      have A24 := Aside0.mk A240
                      clear A240
                      replace H := Option.bind_eq_some_iff.mp H
                      obtain ⟨t188, A250, H⟩ := H
                      replace H : (some (t188 == 300)) = some r := H
                      have A25 := Aside0.mk A250
                      clear A250
                      obtain rfl := Option.some.inj H
                      go_enter Try.func34, Try.ntmps34
                      go_wp2_with (first | ((with_reducible refine gate_dst (N := 10) rfl ?_); (try (refine gate_guard (by rfl) ?_; dsimp only)); refine Kd.R_lit (Kd.int .i64) _ 3 ?hg (N := 10) ?hd (xs := ([2, 1, 3, 3] : List Int)) (inner := [.int .i64 2, .int .i64 1, .int .i64 3, .int .i64 3]) (ok := fun _ => True) (okp := fun _ => True) ?hr ?hp (fun _ hk => hk) trivial (Below.refl _ _) (Nat.le_refl _) (by simp) ?_; (case hd => rfl); (case hg => rfl); (case hr => first | (go_simp; done) | (go_simp; rfl)); (case hp => exact (Reps.one (show Kd.M (Kd.int .i64) _ _ _ 2 [.int .i64 2] from rfl) (Reps.one (show Kd.M (Kd.int .i64) _ _ _ 1 [.int .i64 1] from rfl) (Reps.one (show Kd.M (Kd.int .i64) _ _ _ 3 [.int .i64 3] from rfl) (Reps.one (show Kd.M (Kd.int .i64) _ _ _ 3 [.int .i64 3] from rfl) (Reps.none _ _)))))); intro v156 w26 ho27 hb hg_ hnew_; clear hg_ hnew_; (first | rw [← Ny155.out] at ho27 | (simp only [Int.reduceToNat] at ho27; rw [← Ny155.out] at ho27)); have n0_ := Aside0.mk (Kd.R_lower ho27 (below_size (by repeat (first | (with_reducible first | exact HB.out | apply below_alloc | apply pw_below_drewN | apply below_drew1) | exact HB.out)))); have n1_ := Aside0.mk (below_step (by repeat (first | (with_reducible first | exact HB.out | apply below_alloc | apply pw_below_drewN | apply below_drew1) | exact HB.out)) hb); clear HB; have HO157 := n0_; have HB := n1_; clear n0_ n1_; clear hb ho27; obtain ⟨Ao28, co28, eo28⟩ := Kd.R_slice HO157.out; subst eo28) | ((with_reducible refine gate_callee (f := 24) rfl ?_); refine goesL_ (some 13) rfl rfl Try.func24 (by kernel_rfl) rfl #[.slice Ao28 y155.length co28] rfl (by (try simp only [List.map_toArray, List.map_cons, List.map_nil]); first | done | rfl | (simp only [List.length_drop, List.length_take]; rfl)) ?_; (with_reducible refine (huff_Codes.calls _ _ y155 t158 t159 _ ?side1 ?side2 A1.out).mono ?_); (case side1 => repeat (first | exact (Kd.R_reads' HO157.out).2.2 | (with_reducible refine Kd.C_alloc ?_ _) | (with_reducible refine Kd.C_drewN ?_ _) | (with_reducible refine Kd.C_drew ?_))); (case side2 => exact (Kd.R_reads' HO157.out).2.1); rintro e w29 ⟨v160, rfl, ho0, hb⟩; refine ⟨_, rfl, ?_⟩; have n0_ := Aside0.mk (Kd.R_below (by (with_reducible repeat (first | apply Kd.R_alloc | apply Kd.R_drewN | apply Kd.R_drew)); exact HO157.out) hb); have n1_ := Aside0.mk (Kd.R_lower ho0 (below_size (by repeat (first | (with_reducible first | exact HB.out | apply below_alloc | apply pw_below_drewN | apply below_drew1) | exact HB.out)))); have n2_ := Aside0.mk (below_step (by repeat (first | (with_reducible first | exact HB.out | apply below_alloc | apply pw_below_drewN | apply below_drew1) | exact HB.out)) hb); clear HO157; clear HB; have HO157 := n0_; have HO161 := n1_; have HB := n2_; clear n0_ n1_ n2_; (try clear hb); (try clear hb2); (try clear hk); (try clear hi); (try clear ho0)) | ((with_reducible refine gate_callee (f := 26) rfl ?_); refine goesL_ (some 18) rfl rfl Try.func26 (by kernel_rfl) rfl #[.slice Ao28 y155.length co28, .int .i64 3, .int .i64 7] rfl (by (try simp only [List.map_toArray, List.map_cons, List.map_nil]); first | done | rfl | (simp only [List.length_drop, List.length_take]; rfl)) ?_; (with_reducible refine (huff_Find.calls _ _ y155 3 7 t162 true t164 _ ?side1 ?side2 A2.out).mono ?_); (case side1 => repeat (first | exact (Kd.R_reads' HO157.out).2.2 | (with_reducible refine Kd.C_alloc ?_ _) | (with_reducible refine Kd.C_drewN ?_ _) | (with_reducible refine Kd.C_drew ?_))); (case side2 => exact (Kd.R_reads' HO157.out).2.1); rintro e w30 ⟨rfl, hb⟩; refine ⟨_, rfl, ?_⟩; have n0_ := Aside0.mk (Kd.R_below (by (with_reducible repeat (first | apply Kd.R_alloc | apply Kd.R_drewN | apply Kd.R_drew)); exact HO157.out) hb); have n1_ := Aside0.mk (Kd.R_below (by (with_reducible repeat (first | apply Kd.R_alloc | apply Kd.R_drewN | apply Kd.R_drew)); exact HO161.out) hb); have n2_ := Aside0.mk (below_step (by repeat (first | (with_reducible first | exact HB.out | apply below_alloc | apply pw_below_drewN | apply below_drew1) | exact HB.out)) hb); clear HO157; clear HO161; clear HB; have HO157 := n0_; have HO161 := n1_; have HB := n2_; clear n0_ n1_ n2_; (try clear hb); (try clear hb2); (try clear hk); (try clear hi)) | ((with_reducible refine gate_callee (f := 26) rfl ?_); refine goesL_ (some 24) rfl rfl Try.func26 (by kernel_rfl) rfl #[.slice Ao28 y155.length co28, .int .i64 2, .int .i64 3] rfl (by (try simp only [List.map_toArray, List.map_cons, List.map_nil]); first | done | rfl | (simp only [List.length_drop, List.length_take]; rfl)) ?_; (with_reducible refine (huff_Find.calls _ _ y155 2 3 t165 false t167 _ ?side1 ?side2 A3.out).mono ?_); (case side1 => repeat (first | exact (Kd.R_reads' HO157.out).2.2 | (with_reducible refine Kd.C_alloc ?_ _) | (with_reducible refine Kd.C_drewN ?_ _) | (with_reducible refine Kd.C_drew ?_))); (case side2 => exact (Kd.R_reads' HO157.out).2.1); rintro e w31 ⟨rfl, hb⟩; refine ⟨_, rfl, ?_⟩; have n0_ := Aside0.mk (Kd.R_below (by (with_reducible repeat (first | apply Kd.R_alloc | apply Kd.R_drewN | apply Kd.R_drew)); exact HO157.out) hb); have n1_ := Aside0.mk (Kd.R_below (by (with_reducible repeat (first | apply Kd.R_alloc | apply Kd.R_drewN | apply Kd.R_drew)); exact HO161.out) hb); have n2_ := Aside0.mk (below_step (by repeat (first | (with_reducible first | exact HB.out | apply below_alloc | apply pw_below_drewN | apply below_drew1) | exact HB.out)) hb); clear HO157; clear HO161; clear HB; have HO157 := n0_; have HO161 := n1_; have HB := n2_; clear n0_ n1_ n2_; (try clear hb); (try clear hb2); (try clear hk); (try clear hi)) | ((with_reducible refine gate_dst (N := 33) rfl ?_); (try (refine gate_guard (by rfl) ?_; dsimp only)); refine Kd.R_lit k43 _ 43 ?hg (N := 33) ?hd (xs := ([(⟨2, 2⟩ : S43), (⟨1, 0⟩ : S43), (⟨3, 6⟩ : S43), (⟨3, 7⟩ : S43)] : List (S43))) (inner := [.int .i64 2, .int .i64 2, .int .i64 1, .int .i64 0, .int .i64 3, .int .i64 6, .int .i64 3, .int .i64 7]) (ok := fun _ => True) (okp := fun _ => True) ?hr ?hp (fun _ hk => hk) trivial (Below.refl _ _) (Nat.le_refl _) (by simp) ?_; (case hd => rfl); (case hg => rfl); (case hr => first | (go_simp; done) | (go_simp; rfl)); (case hp => exact (Reps.c2 (show Kd.M k43 _ _ _ (⟨2, 2⟩ : S43) [.int .i64 2, .int .i64 2] from (k43_mkM _ _ _ (⟨2, 2⟩ : S43) )) (Reps.c2 (show Kd.M k43 _ _ _ (⟨1, 0⟩ : S43) [.int .i64 1, .int .i64 0] from (k43_mkM _ _ _ (⟨1, 0⟩ : S43) )) (Reps.c2 (show Kd.M k43 _ _ _ (⟨3, 6⟩ : S43) [.int .i64 3, .int .i64 6] from (k43_mkM _ _ _ (⟨3, 6⟩ : S43) )) (Reps.c2 (show Kd.M k43 _ _ _ (⟨3, 7⟩ : S43) [.int .i64 3, .int .i64 7] from (k43_mkM _ _ _ (⟨3, 7⟩ : S43) )) (Reps.none _ _)))))); intro v169 w32 ho33 hb hg_ hnew_; clear hg_ hnew_; (first | rw [← Ny168.out] at ho33 | (simp only [Int.reduceToNat] at ho33; rw [← Ny168.out] at ho33)); have n0_ := Aside0.mk (Kd.R_below (by (with_reducible repeat (first | apply Kd.R_alloc | apply Kd.R_drewN | apply Kd.R_drew)); exact HO157.out) hb); have n1_ := Aside0.mk (Kd.R_elder' (by (with_reducible repeat (first | apply Kd.R_alloc | apply Kd.R_drewN | apply Kd.R_drew)); exact HO161.out) (Kd.R_base ho33) hb); have n2_ := Aside0.mk (Kd.R_lower (Kd.R_new' ho33 (Kd.R_lt (by (with_reducible repeat (first | apply Kd.R_alloc | apply Kd.R_drewN | apply Kd.R_drew)); exact HO161.out))) (below_size (by repeat (first | (with_reducible first | exact HB.out | apply below_alloc | apply pw_below_drewN | apply below_drew1) | exact HB.out)))); have n3_ := Aside0.mk (below_step (by repeat (first | (with_reducible first | exact HB.out | apply below_alloc | apply pw_below_drewN | apply below_drew1) | exact HB.out)) hb); clear HO157; clear HO161; clear HB; have HO157 := n0_; have HO161 := n1_; have HO170 := n2_; have HB := n3_; clear n0_ n1_ n2_ n3_; clear hb ho33; obtain ⟨Ao34, co34, eo34⟩ := Kd.R_slice HO161.out; subst eo34; obtain ⟨Ao35, co35, eo35⟩ := Kd.R_slice HO170.out; subst eo35) | ((with_reducible refine gate_callee (f := 28) rfl ?_); refine goesL_ (some 34) rfl rfl Try.func28 (by kernel_rfl) rfl #[.slice Ao34 t158.length co34, .slice Ao35 y168.length co35] rfl (by (try simp only [List.map_toArray, List.map_cons, List.map_nil]); first | done | rfl | (simp only [List.length_drop, List.length_take]; rfl)) ?_; (with_reducible refine (portagelaw0_SameCodes.calls k _ _ t158 _ _ y168 true _ ?side1 ?side2 ?side3 ?side4 A4.out).mono ?_); (case side1 => repeat (first | exact (Kd.R_reads' HO161.out).2.2 | (with_reducible refine Kd.C_alloc ?_ _) | (with_reducible refine Kd.C_drewN ?_ _) | (with_reducible refine Kd.C_drew ?_))); (case side2 => exact (Kd.R_reads' HO161.out).2.1); (case side3 => repeat (first | exact (Kd.R_reads' HO170.out).2.2 | (with_reducible refine Kd.C_alloc ?_ _) | (with_reducible refine Kd.C_drewN ?_ _) | (with_reducible refine Kd.C_drew ?_))); (case side4 => exact (Kd.R_reads' HO170.out).2.1); rintro e w' ⟨rfl, ⟨nd, rfl⟩⟩; refine ⟨_, rfl, ?_⟩) | (go_at_call 29; (with_reducible refine (portagelaw0_Num.calls t159 t172 _ A6.out).mono ?_); rintro e w' ⟨rfl, ⟨nd, rfl⟩⟩) | (go_at_call 29; (with_reducible refine (portagelaw0_Num.calls t164 t173 _ A10.out).mono ?_); rintro e w' ⟨rfl, ⟨nd, rfl⟩⟩) | (go_at_call 29; (with_reducible refine (portagelaw0_Num.calls t167 t174 _ A13.out).mono ?_); rintro e w' ⟨rfl, ⟨nd, rfl⟩⟩) | (go_at_call 30; (with_reducible refine (huff_Check.calls _ _ y155 t175 _ ?side1 ?side2 A15.out).mono ?_); (case side1 => repeat (first | exact (Kd.R_reads' HO157.out).2.2 | (with_reducible refine Kd.C_alloc ?_ _) | (with_reducible refine Kd.C_drewN ?_ _) | (with_reducible refine Kd.C_drew ?_))); (case side2 => exact (Kd.R_reads' HO157.out).2.1); rintro e w36 ⟨rfl, hb⟩; have n0_ := Aside0.mk (Kd.R_below (by (with_reducible repeat (first | apply Kd.R_alloc | apply Kd.R_drewN | apply Kd.R_drew)); exact HO157.out) hb); have n1_ := Aside0.mk (Kd.R_below (by (with_reducible repeat (first | apply Kd.R_alloc | apply Kd.R_drewN | apply Kd.R_drew)); exact HO161.out) hb); have n2_ := Aside0.mk (Kd.R_below (by (with_reducible repeat (first | apply Kd.R_alloc | apply Kd.R_drewN | apply Kd.R_drew)); exact HO170.out) hb); have n3_ := Aside0.mk (below_step (by repeat (first | (with_reducible first | exact HB.out | apply below_alloc | apply pw_below_drewN | apply below_drew1) | exact HB.out)) hb); clear HO157; clear HO161; clear HO170; clear HB; have HO157 := n0_; have HO161 := n1_; have HO170 := n2_; have HB := n3_; clear n0_ n1_ n2_ n3_; (try clear hb); (try clear hb2); (try clear hk); (try clear hi)) | (go_at_call 29; (with_reducible refine (portagelaw0_Num.calls t175 t176 _ A16.out).mono ?_); rintro e w' ⟨rfl, ⟨nd, rfl⟩⟩) | ((with_reducible refine gate_dst (N := 68) rfl ?_); (try (refine gate_guard (by rfl) ?_; dsimp only)); refine Kd.R_lit (Kd.int .i64) _ 3 ?hg (N := 68) ?hd (xs := ([1, 1, 1] : List Int)) (inner := [.int .i64 1, .int .i64 1, .int .i64 1]) (ok := fun _ => True) (okp := fun _ => True) ?hr ?hp (fun _ hk => hk) trivial (Below.refl _ _) (Nat.le_refl _) (by simp) ?_; (case hd => rfl); (case hg => rfl); (case hr => first | (go_simp; done) | (go_simp; rfl)); (case hp => exact (Reps.one (show Kd.M (Kd.int .i64) _ _ _ 1 [.int .i64 1] from rfl) (Reps.one (show Kd.M (Kd.int .i64) _ _ _ 1 [.int .i64 1] from rfl) (Reps.one (show Kd.M (Kd.int .i64) _ _ _ 1 [.int .i64 1] from rfl) (Reps.none _ _))))); intro v178 w37 ho38 hb hg_ hnew_; clear hg_ hnew_; (first | rw [← Ny177.out] at ho38 | (simp only [Int.reduceToNat] at ho38; rw [← Ny177.out] at ho38)); have n0_ := Aside0.mk (Kd.R_elder' (by (with_reducible repeat (first | apply Kd.R_alloc | apply Kd.R_drewN | apply Kd.R_drew)); exact HO157.out) (Kd.R_base ho38) hb); have n1_ := Aside0.mk (Kd.R_below (by (with_reducible repeat (first | apply Kd.R_alloc | apply Kd.R_drewN | apply Kd.R_drew)); exact HO161.out) hb); have n2_ := Aside0.mk (Kd.R_below (by (with_reducible repeat (first | apply Kd.R_alloc | apply Kd.R_drewN | apply Kd.R_drew)); exact HO170.out) hb); have n3_ := Aside0.mk (Kd.R_lower (Kd.R_new' ho38 (Kd.R_lt (by (with_reducible repeat (first | apply Kd.R_alloc | apply Kd.R_drewN | apply Kd.R_drew)); exact HO157.out))) (below_size (by repeat (first | (with_reducible first | exact HB.out | apply below_alloc | apply pw_below_drewN | apply below_drew1) | exact HB.out)))); have n4_ := Aside0.mk (below_step (by repeat (first | (with_reducible first | exact HB.out | apply below_alloc | apply pw_below_drewN | apply below_drew1) | exact HB.out)) hb); clear HO157; clear HO161; clear HO170; clear HB; have HO157 := n0_; have HO161 := n1_; have HO170 := n2_; have HO179 := n3_; have HB := n4_; clear n0_ n1_ n2_ n3_ n4_; clear hb ho38; obtain ⟨Ao39, co39, eo39⟩ := Kd.R_slice HO179.out; subst eo39) | (go_at_call 30; (with_reducible refine (huff_Check.calls _ _ y177 t180 _ ?side1 ?side2 A18.out).mono ?_); (case side1 => repeat (first | exact (Kd.R_reads' HO179.out).2.2 | (with_reducible refine Kd.C_alloc ?_ _) | (with_reducible refine Kd.C_drewN ?_ _) | (with_reducible refine Kd.C_drew ?_))); (case side2 => exact (Kd.R_reads' HO179.out).2.1); rintro e w40 ⟨rfl, hb⟩; have n0_ := Aside0.mk (Kd.R_below (by (with_reducible repeat (first | apply Kd.R_alloc | apply Kd.R_drewN | apply Kd.R_drew)); exact HO157.out) hb); have n1_ := Aside0.mk (Kd.R_below (by (with_reducible repeat (first | apply Kd.R_alloc | apply Kd.R_drewN | apply Kd.R_drew)); exact HO161.out) hb); have n2_ := Aside0.mk (Kd.R_below (by (with_reducible repeat (first | apply Kd.R_alloc | apply Kd.R_drewN | apply Kd.R_drew)); exact HO170.out) hb); have n3_ := Aside0.mk (Kd.R_below (by (with_reducible repeat (first | apply Kd.R_alloc | apply Kd.R_drewN | apply Kd.R_drew)); exact HO179.out) hb); have n4_ := Aside0.mk (below_step (by repeat (first | (with_reducible first | exact HB.out | apply below_alloc | apply pw_below_drewN | apply below_drew1) | exact HB.out)) hb); clear HO157; clear HO161; clear HO170; clear HO179; clear HB; have HO157 := n0_; have HO161 := n1_; have HO170 := n2_; have HO179 := n3_; have HB := n4_; clear n0_ n1_ n2_ n3_ n4_; (try clear hb); (try clear hb2); (try clear hk); (try clear hi)) | (go_at_call 29; (with_reducible refine (portagelaw0_Num.calls t180 t181 _ A19.out).mono ?_); rintro e w' ⟨rfl, ⟨nd, rfl⟩⟩) | ((with_reducible refine gate_dst (N := 74) rfl ?_); (try (refine gate_guard (by rfl) ?_; dsimp only)); refine Kd.R_lit (Kd.int .i64) _ 3 ?hg (N := 74) ?hd (xs := ([2, 1] : List Int)) (inner := [.int .i64 2, .int .i64 1]) (ok := fun _ => True) (okp := fun _ => True) ?hr ?hp (fun _ hk => hk) trivial (Below.refl _ _) (Nat.le_refl _) (by simp) ?_; (case hd => rfl); (case hg => rfl); (case hr => first | (go_simp; done) | (go_simp; rfl)); (case hp => exact (Reps.one (show Kd.M (Kd.int .i64) _ _ _ 2 [.int .i64 2] from rfl) (Reps.one (show Kd.M (Kd.int .i64) _ _ _ 1 [.int .i64 1] from rfl) (Reps.none _ _)))); intro v183 w41 ho42 hb hg_ hnew_; clear hg_ hnew_; (first | rw [← Ny182.out] at ho42 | (simp only [Int.reduceToNat] at ho42; rw [← Ny182.out] at ho42)); have n0_ := Aside0.mk (Kd.R_elder' (by (with_reducible repeat (first | apply Kd.R_alloc | apply Kd.R_drewN | apply Kd.R_drew)); exact HO157.out) (Kd.R_base ho42) hb); have n1_ := Aside0.mk (Kd.R_below (by (with_reducible repeat (first | apply Kd.R_alloc | apply Kd.R_drewN | apply Kd.R_drew)); exact HO161.out) hb); have n2_ := Aside0.mk (Kd.R_below (by (with_reducible repeat (first | apply Kd.R_alloc | apply Kd.R_drewN | apply Kd.R_drew)); exact HO170.out) hb); have n3_ := Aside0.mk (Kd.R_elder' (by (with_reducible repeat (first | apply Kd.R_alloc | apply Kd.R_drewN | apply Kd.R_drew)); exact HO179.out) (Kd.R_base ho42) hb); have n4_ := Aside0.mk (Kd.R_lower (Kd.R_new' (Kd.R_new' ho42 (Kd.R_lt (by (with_reducible repeat (first | apply Kd.R_alloc | apply Kd.R_drewN | apply Kd.R_drew)); exact HO157.out))) (Kd.R_lt (by (with_reducible repeat (first | apply Kd.R_alloc | apply Kd.R_drewN | apply Kd.R_drew)); exact HO179.out))) (below_size (by repeat (first | (with_reducible first | exact HB.out | apply below_alloc | apply pw_below_drewN | apply below_drew1) | exact HB.out)))); have n5_ := Aside0.mk (below_step (by repeat (first | (with_reducible first | exact HB.out | apply below_alloc | apply pw_below_drewN | apply below_drew1) | exact HB.out)) hb); clear HO157; clear HO161; clear HO170; clear HO179; clear HB; have HO157 := n0_; have HO161 := n1_; have HO170 := n2_; have HO179 := n3_; have HO184 := n4_; have HB := n5_; clear n0_ n1_ n2_ n3_ n4_ n5_; clear hb ho42; obtain ⟨Ao43, co43, eo43⟩ := Kd.R_slice HO184.out; subst eo43) | (go_at_call 30; (with_reducible refine (huff_Check.calls _ _ y182 t185 _ ?side1 ?side2 A21.out).mono ?_); (case side1 => repeat (first | exact (Kd.R_reads' HO184.out).2.2 | (with_reducible refine Kd.C_alloc ?_ _) | (with_reducible refine Kd.C_drewN ?_ _) | (with_reducible refine Kd.C_drew ?_))); (case side2 => exact (Kd.R_reads' HO184.out).2.1); rintro e w44 ⟨rfl, hb⟩; have n0_ := Aside0.mk (Kd.R_below (by (with_reducible repeat (first | apply Kd.R_alloc | apply Kd.R_drewN | apply Kd.R_drew)); exact HO157.out) hb); have n1_ := Aside0.mk (Kd.R_below (by (with_reducible repeat (first | apply Kd.R_alloc | apply Kd.R_drewN | apply Kd.R_drew)); exact HO161.out) hb); have n2_ := Aside0.mk (Kd.R_below (by (with_reducible repeat (first | apply Kd.R_alloc | apply Kd.R_drewN | apply Kd.R_drew)); exact HO170.out) hb); have n3_ := Aside0.mk (Kd.R_below (by (with_reducible repeat (first | apply Kd.R_alloc | apply Kd.R_drewN | apply Kd.R_drew)); exact HO179.out) hb); have n4_ := Aside0.mk (Kd.R_below (by (with_reducible repeat (first | apply Kd.R_alloc | apply Kd.R_drewN | apply Kd.R_drew)); exact HO184.out) hb); have n5_ := Aside0.mk (below_step (by repeat (first | (with_reducible first | exact HB.out | apply below_alloc | apply pw_below_drewN | apply below_drew1) | exact HB.out)) hb); clear HO157; clear HO161; clear HO170; clear HO179; clear HO184; clear HB; have HO157 := n0_; have HO161 := n1_; have HO170 := n2_; have HO179 := n3_; have HO184 := n4_; have HB := n5_; clear n0_ n1_ n2_ n3_ n4_ n5_; (try clear hb); (try clear hb2); (try clear hk); (try clear hi)) | (go_at_call 29; (with_reducible refine (portagelaw0_Num.calls t185 t186 _ A22.out).mono ?_); rintro e w' ⟨rfl, ⟨nd, rfl⟩⟩) | (go_at_call 30; (refine (huff_Check.calls _ _ ([] : List Int) t187 _ ?side1 ?side2 A24.out).mono ?_); (case side1 => exact Kd.C_nil _ _); (case side2 => exact Nat.le_refl _); rintro e w45 ⟨rfl, hb⟩; have n0_ := Aside0.mk (Kd.R_below (by (with_reducible repeat (first | apply Kd.R_alloc | apply Kd.R_drewN | apply Kd.R_drew)); exact HO157.out) hb); have n1_ := Aside0.mk (Kd.R_below (by (with_reducible repeat (first | apply Kd.R_alloc | apply Kd.R_drewN | apply Kd.R_drew)); exact HO161.out) hb); have n2_ := Aside0.mk (Kd.R_below (by (with_reducible repeat (first | apply Kd.R_alloc | apply Kd.R_drewN | apply Kd.R_drew)); exact HO170.out) hb); have n3_ := Aside0.mk (Kd.R_below (by (with_reducible repeat (first | apply Kd.R_alloc | apply Kd.R_drewN | apply Kd.R_drew)); exact HO179.out) hb); have n4_ := Aside0.mk (Kd.R_below (by (with_reducible repeat (first | apply Kd.R_alloc | apply Kd.R_drewN | apply Kd.R_drew)); exact HO184.out) hb); have n5_ := Aside0.mk (below_step (by repeat (first | (with_reducible first | exact HB.out | apply below_alloc | apply pw_below_drewN | apply below_drew1) | exact HB.out)) hb); clear HO157; clear HO161; clear HO170; clear HO179; clear HO184; clear HB; have HO157 := n0_; have HO161 := n1_; have HO170 := n2_; have HO179 := n3_; have HO184 := n4_; have HB := n5_; clear n0_ n1_ n2_ n3_ n4_ n5_; (try clear hb); (try clear hb2); (try clear hk); (try clear hi)) | (go_at_call 29; (with_reducible refine (portagelaw0_Num.calls t187 t188 _ A25.out).mono ?_); rintro e w' ⟨rfl, ⟨nd, rfl⟩⟩))
                      go_ret
                      exact ⟨by first | rfl | (simp [errW_none, errW_some] <;> rfl) | (simp [*, errW_none, errW_some] <;> rfl), by repeat (first | (with_reducible first | exact HB.out | apply below_alloc | apply pw_below_drewN | apply below_drew1) | exact HB.out)⟩
                    · rw [if_neg c23] at H
                      exact absurd H (by simp)
                  · rw [if_neg c20] at H
                    exact absurd H (by simp)
                · rw [if_neg c17] at H
                  exact absurd H (by simp)
              · rw [if_neg c14] at H
                exact absurd H (by simp)
          · rw [if_neg c11] at H
            exact absurd H (by simp)
        · replace c9 := Bool.eq_false_iff.mpr c9
          subst c9
          have H1 : (none) = some r := by rw [if_neg (show ¬ (false = true) by decide)] at H; exact H
          clear H
          have H := H1
          clear H1
          exact absurd H (by simp)
      · rw [if_neg c8] at H
        exact absurd H (by simp)
    · rw [if_neg c7] at H
      exact absurd H (by simp)
  · replace c5 := Bool.eq_false_iff.mpr c5
    subst c5
    have H1 : (none) = some r := by rw [if_neg (show ¬ (false = true) by decide)] at H; exact H
    clear H
    have H := H1
    clear H1
    exact absurd H (by simp)

/-! ### portagelaw3_Huffs: function 3 -/
def portagelaw3_Huffs.f (k : Nat) (l0 : List Int) (a1 : Int) (a2 : Int) : Option (Bool) := (portagelaw0_LendInts.f l0).bind fun bt189 => ((huff_Codes.f bt189.1).bind fun bt194 => ((portageref1_Codes.f k l0).bind fun bt198 => ((huff_Find.f bt189.1 a1 a2).bind fun bt202 => ((portageref1_Find.f k l0 a1 a2).bind fun bt205 => ((portagelaw0_SameCodes.f k bt194.1 bt198.1).bind fun t208 => (if t208 = true then ((portagelaw0_Num.f bt194.2).bind fun t209 => (if t209 = bt198.2 then (if bt202.1 = bt205.1 then (if (bt202.2.1 != bt205.2.1) = true then (none) else ((portagelaw0_Num.f bt202.2.2).bind fun t210 => (if t210 = bt205.2.2 then ((huff_Check.f bt189.1).bind fun t211 => ((portagelaw0_Num.f t211).bind fun t212 => ((portageref1_Check.f k l0).bind fun t213 => (if t212 = t213 then ((portagelaw0_SpoilCodes.f k bt194.1).bind fun t214 => ((portagelaw0_KeptInts.f k bt189.1 bt189.2 l0).bind fun t215 => (if t215 = true then ((portagelaw3_awake.f k).bind fun t216 => (some t216)) else (none)))) else (none))))) else (none)))) else (none)) else (none))) else (none)))))))
theorem portagelaw3_Huffs.mono : ∀ a0 a1 a2 k, LeO (portagelaw3_Huffs.f k a0 a1 a2) (portagelaw3_Huffs.f (k + 1) a0 a1 a2) := by
  intro a0 a1 a2 k
  unfold portagelaw3_Huffs.f
  repeat' first
      | (with_reducible exact portagelaw0_KeptInts.mono _ _ _ _)
      | (with_reducible exact portagelaw0_SameCodes.mono _ _ _)
      | (with_reducible exact portagelaw0_SpoilCodes.mono _ _)
      | (with_reducible exact portagelaw3_awake.mono _)
      | (with_reducible exact portageref1_Check.mono _ _)
      | (with_reducible exact portageref1_Codes.mono _ _)
      | (with_reducible exact portageref1_Find.mono _ _ _ _)
      | (with_reducible exact LeO.refl _)
      | (with_reducible exact LeO.none _)
      | (with_reducible refine LeO.ite ?_ ?_)
      | (with_reducible refine LeO.bind ?_ (fun _ => ?_))
      | exact portagelaw0_KeptInts.mono _ _ _ _
      | exact portagelaw0_SameCodes.mono _ _ _
      | exact portagelaw0_SpoilCodes.mono _ _
      | exact portagelaw3_awake.mono _
      | exact portageref1_Check.mono _ _
      | exact portageref1_Codes.mono _ _
      | exact portageref1_Find.mono _ _ _ _
      | exact LeO.none _
      | refine LeO.ite ?_ ?_
      | refine LeO.bind ?_ (fun _ => ?_)
set_option maxHeartbeats 8000000 in
set_option maxRecDepth 100000 in
theorem portagelaw3_Huffs.calls (k : Nat) (A0 : Option Addr) (c0 : Nat) (l0 : List Int) (a1 : Int) (a2 : Int) (r : Bool) (w : World) (hr0 : Kd.C (Kd.int .i64) w A0 l0.length l0) (hc0 : l0.length ≤ c0) (h : portagelaw3_Huffs.f k l0 a1 a2 = some r) :
    Calls Try.prog 3 #[.slice A0 l0.length c0, .int .i64 a1, .int .i64 a2] w fun e w' => e = .returned (.bool r) ∧ Below w.heap.size w w' := by
  have HR0 := Aside0.mk hr0
  have HC0 := Aside0.mk hc0
  clear hr0 hc0
  have HB := Aside0.mk (Below.refl w.heap.size w)
  have H : ((portagelaw0_LendInts.f l0).bind fun bt189 => ((huff_Codes.f bt189.1).bind fun bt194 => ((portageref1_Codes.f k l0).bind fun bt198 => ((huff_Find.f bt189.1 a1 a2).bind fun bt202 => ((portageref1_Find.f k l0 a1 a2).bind fun bt205 => ((portagelaw0_SameCodes.f k bt194.1 bt198.1).bind fun t208 => (if t208 = true then ((portagelaw0_Num.f bt194.2).bind fun t209 => (if t209 = bt198.2 then (if bt202.1 = bt205.1 then (if (bt202.2.1 != bt205.2.1) = true then (none) else ((portagelaw0_Num.f bt202.2.2).bind fun t210 => (if t210 = bt205.2.2 then ((huff_Check.f bt189.1).bind fun t211 => ((portagelaw0_Num.f t211).bind fun t212 => ((portageref1_Check.f k l0).bind fun t213 => (if t212 = t213 then ((portagelaw0_SpoilCodes.f k bt194.1).bind fun t214 => ((portagelaw0_KeptInts.f k bt189.1 bt189.2 l0).bind fun t215 => (if t215 = true then ((portagelaw3_awake.f k).bind fun t216 => (some t216)) else (none)))) else (none))))) else (none)))) else (none)) else (none))) else (none)))))))) = some r := h
  clear h
  replace H := Option.bind_eq_some_iff.mp H
  obtain ⟨⟨t189, t191⟩, A40, H⟩ := H
  replace H : ((huff_Codes.f t189).bind fun bt194 => ((portageref1_Codes.f k l0).bind fun bt198 => ((huff_Find.f t189 a1 a2).bind fun bt202 => ((portageref1_Find.f k l0 a1 a2).bind fun bt205 => ((portagelaw0_SameCodes.f k bt194.1 bt198.1).bind fun t208 => (if t208 = true then ((portagelaw0_Num.f bt194.2).bind fun t209 => (if t209 = bt198.2 then (if bt202.1 = bt205.1 then (if (bt202.2.1 != bt205.2.1) = true then (none) else ((portagelaw0_Num.f bt202.2.2).bind fun t210 => (if t210 = bt205.2.2 then ((huff_Check.f t189).bind fun t211 => ((portagelaw0_Num.f t211).bind fun t212 => ((portageref1_Check.f k l0).bind fun t213 => (if t212 = t213 then ((portagelaw0_SpoilCodes.f k bt194.1).bind fun t214 => ((portagelaw0_KeptInts.f k t189 t191 l0).bind fun t215 => (if t215 = true then ((portagelaw3_awake.f k).bind fun t216 => (some t216)) else (none)))) else (none))))) else (none)))) else (none)) else (none))) else (none))))))) = some r := H
  have A4 := Aside0.mk A40
  clear A40
  replace H := Option.bind_eq_some_iff.mp H
  obtain ⟨⟨t194, t195⟩, A50, H⟩ := H
  replace H : ((portageref1_Codes.f k l0).bind fun bt198 => ((huff_Find.f t189 a1 a2).bind fun bt202 => ((portageref1_Find.f k l0 a1 a2).bind fun bt205 => ((portagelaw0_SameCodes.f k t194 bt198.1).bind fun t208 => (if t208 = true then ((portagelaw0_Num.f t195).bind fun t209 => (if t209 = bt198.2 then (if bt202.1 = bt205.1 then (if (bt202.2.1 != bt205.2.1) = true then (none) else ((portagelaw0_Num.f bt202.2.2).bind fun t210 => (if t210 = bt205.2.2 then ((huff_Check.f t189).bind fun t211 => ((portagelaw0_Num.f t211).bind fun t212 => ((portageref1_Check.f k l0).bind fun t213 => (if t212 = t213 then ((portagelaw0_SpoilCodes.f k t194).bind fun t214 => ((portagelaw0_KeptInts.f k t189 t191 l0).bind fun t215 => (if t215 = true then ((portagelaw3_awake.f k).bind fun t216 => (some t216)) else (none)))) else (none))))) else (none)))) else (none)) else (none))) else (none)))))) = some r := H
  have A5 := Aside0.mk A50
  clear A50
  replace H := Option.bind_eq_some_iff.mp H
  obtain ⟨⟨t198, t199⟩, A60, H⟩ := H
  replace H : ((huff_Find.f t189 a1 a2).bind fun bt202 => ((portageref1_Find.f k l0 a1 a2).bind fun bt205 => ((portagelaw0_SameCodes.f k t194 t198).bind fun t208 => (if t208 = true then ((portagelaw0_Num.f t195).bind fun t209 => (if t209 = t199 then (if bt202.1 = bt205.1 then (if (bt202.2.1 != bt205.2.1) = true then (none) else ((portagelaw0_Num.f bt202.2.2).bind fun t210 => (if t210 = bt205.2.2 then ((huff_Check.f t189).bind fun t211 => ((portagelaw0_Num.f t211).bind fun t212 => ((portageref1_Check.f k l0).bind fun t213 => (if t212 = t213 then ((portagelaw0_SpoilCodes.f k t194).bind fun t214 => ((portagelaw0_KeptInts.f k t189 t191 l0).bind fun t215 => (if t215 = true then ((portagelaw3_awake.f k).bind fun t216 => (some t216)) else (none)))) else (none))))) else (none)))) else (none)) else (none))) else (none))))) = some r := H
  have A6 := Aside0.mk A60
  clear A60
  replace H := Option.bind_eq_some_iff.mp H
  obtain ⟨⟨t202, t203, t204⟩, A70, H⟩ := H
  replace H : ((portageref1_Find.f k l0 a1 a2).bind fun bt205 => ((portagelaw0_SameCodes.f k t194 t198).bind fun t208 => (if t208 = true then ((portagelaw0_Num.f t195).bind fun t209 => (if t209 = t199 then (if t202 = bt205.1 then (if (t203 != bt205.2.1) = true then (none) else ((portagelaw0_Num.f t204).bind fun t210 => (if t210 = bt205.2.2 then ((huff_Check.f t189).bind fun t211 => ((portagelaw0_Num.f t211).bind fun t212 => ((portageref1_Check.f k l0).bind fun t213 => (if t212 = t213 then ((portagelaw0_SpoilCodes.f k t194).bind fun t214 => ((portagelaw0_KeptInts.f k t189 t191 l0).bind fun t215 => (if t215 = true then ((portagelaw3_awake.f k).bind fun t216 => (some t216)) else (none)))) else (none))))) else (none)))) else (none)) else (none))) else (none)))) = some r := H
  have A7 := Aside0.mk A70
  clear A70
  replace H := Option.bind_eq_some_iff.mp H
  obtain ⟨⟨t205, t206, t207⟩, A80, H⟩ := H
  replace H : ((portagelaw0_SameCodes.f k t194 t198).bind fun t208 => (if t208 = true then ((portagelaw0_Num.f t195).bind fun t209 => (if t209 = t199 then (if t202 = t205 then (if (t203 != t206) = true then (none) else ((portagelaw0_Num.f t204).bind fun t210 => (if t210 = t207 then ((huff_Check.f t189).bind fun t211 => ((portagelaw0_Num.f t211).bind fun t212 => ((portageref1_Check.f k l0).bind fun t213 => (if t212 = t213 then ((portagelaw0_SpoilCodes.f k t194).bind fun t214 => ((portagelaw0_KeptInts.f k t189 t191 l0).bind fun t215 => (if t215 = true then ((portagelaw3_awake.f k).bind fun t216 => (some t216)) else (none)))) else (none))))) else (none)))) else (none)) else (none))) else (none))) = some r := H
  have A8 := Aside0.mk A80
  clear A80
  replace H := Option.bind_eq_some_iff.mp H
  obtain ⟨t208, A90, H⟩ := H
  replace H : (if t208 = true then ((portagelaw0_Num.f t195).bind fun t209 => (if t209 = t199 then (if t202 = t205 then (if (t203 != t206) = true then (none) else ((portagelaw0_Num.f t204).bind fun t210 => (if t210 = t207 then ((huff_Check.f t189).bind fun t211 => ((portagelaw0_Num.f t211).bind fun t212 => ((portageref1_Check.f k l0).bind fun t213 => (if t212 = t213 then ((portagelaw0_SpoilCodes.f k t194).bind fun t214 => ((portagelaw0_KeptInts.f k t189 t191 l0).bind fun t215 => (if t215 = true then ((portagelaw3_awake.f k).bind fun t216 => (some t216)) else (none)))) else (none))))) else (none)))) else (none)) else (none))) else (none)) = some r := H
  have A9 := Aside0.mk A90
  clear A90
  by_cases c10 : t208 = true
  · subst c10
    have H1 : ((portagelaw0_Num.f t195).bind fun t209 => (if t209 = t199 then (if t202 = t205 then (if (t203 != t206) = true then (none) else ((portagelaw0_Num.f t204).bind fun t210 => (if t210 = t207 then ((huff_Check.f t189).bind fun t211 => ((portagelaw0_Num.f t211).bind fun t212 => ((portageref1_Check.f k l0).bind fun t213 => (if t212 = t213 then ((portagelaw0_SpoilCodes.f k t194).bind fun t214 => ((portagelaw0_KeptInts.f k t189 t191 l0).bind fun t215 => (if t215 = true then ((portagelaw3_awake.f k).bind fun t216 => (some t216)) else (none)))) else (none))))) else (none)))) else (none)) else (none))) = some r := by rw [if_pos rfl] at H; exact H
    clear H
    have H := H1
    clear H1
    replace H := Option.bind_eq_some_iff.mp H
    obtain ⟨t209, A110, H⟩ := H
    replace H : (if t209 = t199 then (if t202 = t205 then (if (t203 != t206) = true then (none) else ((portagelaw0_Num.f t204).bind fun t210 => (if t210 = t207 then ((huff_Check.f t189).bind fun t211 => ((portagelaw0_Num.f t211).bind fun t212 => ((portageref1_Check.f k l0).bind fun t213 => (if t212 = t213 then ((portagelaw0_SpoilCodes.f k t194).bind fun t214 => ((portagelaw0_KeptInts.f k t189 t191 l0).bind fun t215 => (if t215 = true then ((portagelaw3_awake.f k).bind fun t216 => (some t216)) else (none)))) else (none))))) else (none)))) else (none)) else (none)) = some r := H
    have A11 := Aside0.mk A110
    clear A110
    by_cases c12 : t209 = t199
    · rw [if_pos c12] at H
      have c12b0 : (t209 == t199) = true := beq_iff_eq.mpr c12
      have c12b1 : (t209 != t199) = false := bne_eq_false_iff_eq.mpr c12
      clear c12
      by_cases c13 : t202 = t205
      · rw [if_pos c13] at H
        have c13b0 : (t202 == t205) = true := beq_iff_eq.mpr c13
        have c13b1 : (t202 != t205) = false := bne_eq_false_iff_eq.mpr c13
        clear c13
        by_cases c14 : (t203 != t206) = true
        · rw [if_pos c14] at H
          exact absurd H (by simp)
        · rw [if_neg c14] at H
          have c14b0 : (t203 != t206) = false := by simpa using c14
          (try (have c14b1 : decide (t203 = t206) = true := by simpa using c14))
          (try (have c14b2 : (t203 == t206) = true := by simpa using c14))
          clear c14
          replace H := Option.bind_eq_some_iff.mp H
          obtain ⟨t210, A150, H⟩ := H
          replace H : (if t210 = t207 then ((huff_Check.f t189).bind fun t211 => ((portagelaw0_Num.f t211).bind fun t212 => ((portageref1_Check.f k l0).bind fun t213 => (if t212 = t213 then ((portagelaw0_SpoilCodes.f k t194).bind fun t214 => ((portagelaw0_KeptInts.f k t189 t191 l0).bind fun t215 => (if t215 = true then ((portagelaw3_awake.f k).bind fun t216 => (some t216)) else (none)))) else (none))))) else (none)) = some r := H
          have A15 := Aside0.mk A150
          clear A150
          by_cases c16 : t210 = t207
          · rw [if_pos c16] at H
            have c16b0 : (t210 == t207) = true := beq_iff_eq.mpr c16
            have c16b1 : (t210 != t207) = false := bne_eq_false_iff_eq.mpr c16
            clear c16
            replace H := Option.bind_eq_some_iff.mp H
            obtain ⟨t211, A170, H⟩ := H
            replace H : ((portagelaw0_Num.f t211).bind fun t212 => ((portageref1_Check.f k l0).bind fun t213 => (if t212 = t213 then ((portagelaw0_SpoilCodes.f k t194).bind fun t214 => ((portagelaw0_KeptInts.f k t189 t191 l0).bind fun t215 => (if t215 = true then ((portagelaw3_awake.f k).bind fun t216 => (some t216)) else (none)))) else (none)))) = some r := H
            have A17 := Aside0.mk A170
            clear A170
            replace H := Option.bind_eq_some_iff.mp H
            obtain ⟨t212, A180, H⟩ := H
            replace H : ((portageref1_Check.f k l0).bind fun t213 => (if t212 = t213 then ((portagelaw0_SpoilCodes.f k t194).bind fun t214 => ((portagelaw0_KeptInts.f k t189 t191 l0).bind fun t215 => (if t215 = true then ((portagelaw3_awake.f k).bind fun t216 => (some t216)) else (none)))) else (none))) = some r := H
            have A18 := Aside0.mk A180
            clear A180
            replace H := Option.bind_eq_some_iff.mp H
            obtain ⟨t213, A190, H⟩ := H
            replace H : (if t212 = t213 then ((portagelaw0_SpoilCodes.f k t194).bind fun t214 => ((portagelaw0_KeptInts.f k t189 t191 l0).bind fun t215 => (if t215 = true then ((portagelaw3_awake.f k).bind fun t216 => (some t216)) else (none)))) else (none)) = some r := H
            have A19 := Aside0.mk A190
            clear A190
            by_cases c20 : t212 = t213
            · rw [if_pos c20] at H
              have c20b0 : (t212 == t213) = true := beq_iff_eq.mpr c20
              have c20b1 : (t212 != t213) = false := bne_eq_false_iff_eq.mpr c20
              clear c20
              replace H := Option.bind_eq_some_iff.mp H
              obtain ⟨t214, A210, H⟩ := H
              replace H : ((portagelaw0_KeptInts.f k t189 t191 l0).bind fun t215 => (if t215 = true then ((portagelaw3_awake.f k).bind fun t216 => (some t216)) else (none))) = some r := H
              have A21 := Aside0.mk A210
              clear A210
              replace H := Option.bind_eq_some_iff.mp H
              obtain ⟨t215, A220, H⟩ := H
              replace H : (if t215 = true then ((portagelaw3_awake.f k).bind fun t216 => (some t216)) else (none)) = some r := H
              have A22 := Aside0.mk A220
              clear A220
              by_cases c23 : t215 = true
              · subst c23
                have H1 : ((portagelaw3_awake.f k).bind fun t216 => (some t216)) = some r := by rw [if_pos rfl] at H; exact H
                clear H
                have H := H1
                clear H1
                replace H := Option.bind_eq_some_iff.mp H
                obtain ⟨t216, A240, H⟩ := H
                replace H : (some t216) = some r := H
                have A24 := Aside0.mk A240
                clear A240
                obtain rfl := Option.some.inj H
                go_enter Try.func3, Try.ntmps3
                go_wp2_with (first | (go_at_call 23; (with_reducible refine (portagelaw0_LendInts.calls _ _ l0 t189 t191 _ ?side1 ?side2 A4.out).mono ?_); (case side1 => repeat (first | exact HR0.out | (with_reducible refine Kd.C_alloc ?_ _) | (with_reducible refine Kd.C_drewN ?_ _) | (with_reducible refine Kd.C_drew ?_))); (case side2 => exact HC0.out); rintro e w25 ⟨Al193, cl193, rfl, ho0, hb⟩; have n0_ := Aside0.mk (Kd.R_lower ho0 (below_size (by repeat (first | (with_reducible first | exact HB.out | apply below_alloc | apply pw_below_drewN | apply below_drew1) | exact HB.out)))); have n1_ := Aside0.mk (below_step (by repeat (first | (with_reducible first | exact HB.out | apply below_alloc | apply pw_below_drewN | apply below_drew1) | exact HB.out)) hb); clear HB; have HO192 := n0_; have HB := n1_; clear n0_ n1_; (try clear hb); (try clear hb2); (try clear hk); (try clear hi); (try clear ho0); have Nt189 := Aside0.mk (portagelaw0_LendInts.cut A4.out).1; have KL193 := Aside0.mk (portagelaw0_LendInts.cut A4.out).2; have HR190 := Aside0.mk (show Kd.C (Kd.int .i64) w25 Al193 t189.length t189 from by rw [Nt189.out]; exact Kd.C_take (m := t189.length) (Kd.R_reads' HO192.out).2.2 KL193.out); have HC190 := Aside0.mk (show t189.length ≤ cl193 from Nat.le_trans KL193.out (Kd.R_reads' HO192.out).2.1)) | ((with_reducible refine gate_callee (f := 24) rfl ?_); refine goesL_ (some 22) rfl rfl Try.func24 (by kernel_rfl) rfl #[.slice Al193 t189.length cl193] rfl (by (try simp only [List.map_toArray, List.map_cons, List.map_nil]); first | done | rfl | (simp only [List.length_drop, List.length_take]; rfl)) ?_; (with_reducible refine (huff_Codes.calls _ _ t189 t194 t195 _ ?side1 ?side2 A5.out).mono ?_); (case side1 => repeat (first | exact (by repeat (first | (with_reducible exact HR190.out) | (with_reducible refine Kd.C_alloc ?_ _) | (with_reducible refine Kd.C_drewN ?_ _) | (with_reducible refine Kd.C_drew ?_) | exact HR190.out)) | (with_reducible refine Kd.C_alloc ?_ _) | (with_reducible refine Kd.C_drewN ?_ _) | (with_reducible refine Kd.C_drew ?_))); (case side2 => exact HC190.out); rintro e w26 ⟨v196, rfl, ho0, hb⟩; refine ⟨_, rfl, ?_⟩; have n0_ := Aside0.mk (Kd.R_below (by (with_reducible repeat (first | apply Kd.R_alloc | apply Kd.R_drewN | apply Kd.R_drew)); exact HO192.out) hb); have n1_ := Aside0.mk (Kd.R_lower ho0 (below_size (by repeat (first | (with_reducible first | exact HB.out | apply below_alloc | apply pw_below_drewN | apply below_drew1) | exact HB.out)))); have n2_ := Aside0.mk (Kd.C_below (by repeat (first | (with_reducible exact HR190.out) | (with_reducible refine Kd.C_alloc ?_ _) | (with_reducible refine Kd.C_drewN ?_ _) | (with_reducible refine Kd.C_drew ?_) | exact HR190.out)) hb); have n3_ := Aside0.mk (below_step (by repeat (first | (with_reducible first | exact HB.out | apply below_alloc | apply pw_below_drewN | apply below_drew1) | exact HB.out)) hb); clear HO192; clear HR190; clear HB; have HO192 := n0_; have HO197 := n1_; have HR190 := n2_; have HB := n3_; clear n0_ n1_ n2_ n3_; (try clear hb); (try clear hb2); (try clear hk); (try clear hi); (try clear ho0)) | ((with_reducible refine gate_callee (f := 25) rfl ?_); refine goesL_ (some 27) rfl rfl Try.func25 (by kernel_rfl) rfl #[.slice A0 l0.length c0] rfl (by (try simp only [List.map_toArray, List.map_cons, List.map_nil]); first | done | rfl | (simp only [List.length_drop, List.length_take]; rfl)) ?_; (with_reducible refine (portageref1_Codes.calls k _ _ l0 t198 t199 _ ?side1 ?side2 A6.out).mono ?_); (case side1 => repeat (first | exact (Kd.C_below HR0.out HB.out) | (with_reducible refine Kd.C_alloc ?_ _) | (with_reducible refine Kd.C_drewN ?_ _) | (with_reducible refine Kd.C_drew ?_))); (case side2 => exact HC0.out); rintro e w27 ⟨v200, rfl, ho0, hb⟩; refine ⟨_, rfl, ?_⟩; have n0_ := Aside0.mk (Kd.R_below (by (with_reducible repeat (first | apply Kd.R_alloc | apply Kd.R_drewN | apply Kd.R_drew)); exact HO192.out) hb); have n1_ := Aside0.mk (Kd.R_elder' (by (with_reducible repeat (first | apply Kd.R_alloc | apply Kd.R_drewN | apply Kd.R_drew)); exact HO197.out) (Kd.R_base ho0) hb); have n2_ := Aside0.mk (Kd.R_lower (Kd.R_new' ho0 (Kd.R_lt (by (with_reducible repeat (first | apply Kd.R_alloc | apply Kd.R_drewN | apply Kd.R_drew)); exact HO197.out))) (below_size (by repeat (first | (with_reducible first | exact HB.out | apply below_alloc | apply pw_below_drewN | apply below_drew1) | exact HB.out)))); have n3_ := Aside0.mk (Kd.C_below (by repeat (first | (with_reducible exact HR190.out) | (with_reducible refine Kd.C_alloc ?_ _) | (with_reducible refine Kd.C_drewN ?_ _) | (with_reducible refine Kd.C_drew ?_) | exact HR190.out)) hb); have n4_ := Aside0.mk (below_step (by repeat (first | (with_reducible first | exact HB.out | apply below_alloc | apply pw_below_drewN | apply below_drew1) | exact HB.out)) hb); clear HO192; clear HO197; clear HR190; clear HB; have HO192 := n0_; have HO197 := n1_; have HO201 := n2_; have HR190 := n3_; have HB := n4_; clear n0_ n1_ n2_ n3_ n4_; (try clear hb); (try clear hb2); (try clear hk); (try clear hi); (try clear ho0)) | ((with_reducible refine gate_callee (f := 26) rfl ?_); refine goesL_ (some 34) rfl rfl Try.func26 (by kernel_rfl) rfl #[.slice Al193 t189.length cl193, .int .i64 a1, .int .i64 a2] rfl (by (try simp only [List.map_toArray, List.map_cons, List.map_nil]); first | done | rfl | (simp only [List.length_drop, List.length_take]; rfl)) ?_; (with_reducible refine (huff_Find.calls _ _ t189 a1 a2 t202 t203 t204 _ ?side1 ?side2 A7.out).mono ?_); (case side1 => repeat (first | exact (by repeat (first | (with_reducible exact HR190.out) | (with_reducible refine Kd.C_alloc ?_ _) | (with_reducible refine Kd.C_drewN ?_ _) | (with_reducible refine Kd.C_drew ?_) | exact HR190.out)) | (with_reducible refine Kd.C_alloc ?_ _) | (with_reducible refine Kd.C_drewN ?_ _) | (with_reducible refine Kd.C_drew ?_))); (case side2 => exact HC190.out); rintro e w28 ⟨rfl, hb⟩; refine ⟨_, rfl, ?_⟩; have n0_ := Aside0.mk (Kd.R_below (by (with_reducible repeat (first | apply Kd.R_alloc | apply Kd.R_drewN | apply Kd.R_drew)); exact HO192.out) hb); have n1_ := Aside0.mk (Kd.R_below (by (with_reducible repeat (first | apply Kd.R_alloc | apply Kd.R_drewN | apply Kd.R_drew)); exact HO197.out) hb); have n2_ := Aside0.mk (Kd.R_below (by (with_reducible repeat (first | apply Kd.R_alloc | apply Kd.R_drewN | apply Kd.R_drew)); exact HO201.out) hb); have n3_ := Aside0.mk (Kd.C_below (by repeat (first | (with_reducible exact HR190.out) | (with_reducible refine Kd.C_alloc ?_ _) | (with_reducible refine Kd.C_drewN ?_ _) | (with_reducible refine Kd.C_drew ?_) | exact HR190.out)) hb); have n4_ := Aside0.mk (below_step (by repeat (first | (with_reducible first | exact HB.out | apply below_alloc | apply pw_below_drewN | apply below_drew1) | exact HB.out)) hb); clear HO192; clear HO197; clear HO201; clear HR190; clear HB; have HO192 := n0_; have HO197 := n1_; have HO201 := n2_; have HR190 := n3_; have HB := n4_; clear n0_ n1_ n2_ n3_ n4_; (try clear hb); (try clear hb2); (try clear hk); (try clear hi)) | ((with_reducible refine gate_callee (f := 27) rfl ?_); refine goesL_ (some 42) rfl rfl Try.func27 (by kernel_rfl) rfl #[.slice A0 l0.length c0, .int .i64 a1, .int .i64 a2] rfl (by (try simp only [List.map_toArray, List.map_cons, List.map_nil]); first | done | rfl | (simp only [List.length_drop, List.length_take]; rfl)) ?_; (with_reducible refine (portageref1_Find.calls k _ _ l0 a1 a2 t205 t206 t207 _ ?side1 ?side2 A8.out).mono ?_); (case side1 => repeat (first | exact (Kd.C_below HR0.out HB.out) | (with_reducible refine Kd.C_alloc ?_ _) | (with_reducible refine Kd.C_drewN ?_ _) | (with_reducible refine Kd.C_drew ?_))); (case side2 => exact HC0.out); rintro e w29 ⟨rfl, hb⟩; refine ⟨_, rfl, ?_⟩; have n0_ := Aside0.mk (Kd.R_below (by (with_reducible repeat (first | apply Kd.R_alloc | apply Kd.R_drewN | apply Kd.R_drew)); exact HO192.out) hb); have n1_ := Aside0.mk (Kd.R_below (by (with_reducible repeat (first | apply Kd.R_alloc | apply Kd.R_drewN | apply Kd.R_drew)); exact HO197.out) hb); have n2_ := Aside0.mk (Kd.R_below (by (with_reducible repeat (first | apply Kd.R_alloc | apply Kd.R_drewN | apply Kd.R_drew)); exact HO201.out) hb); have n3_ := Aside0.mk (Kd.C_below (by repeat (first | (with_reducible exact HR190.out) | (with_reducible refine Kd.C_alloc ?_ _) | (with_reducible refine Kd.C_drewN ?_ _) | (with_reducible refine Kd.C_drew ?_) | exact HR190.out)) hb); have n4_ := Aside0.mk (below_step (by repeat (first | (with_reducible first | exact HB.out | apply below_alloc | apply pw_below_drewN | apply below_drew1) | exact HB.out)) hb); clear HO192; clear HO197; clear HO201; clear HR190; clear HB; have HO192 := n0_; have HO197 := n1_; have HO201 := n2_; have HR190 := n3_; have HB := n4_; clear n0_ n1_ n2_ n3_ n4_; (try clear hb); (try clear hb2); (try clear hk); (try clear hi); obtain ⟨Ao30, co30, eo30⟩ := Kd.R_slice HO197.out; subst eo30; obtain ⟨Ao31, co31, eo31⟩ := Kd.R_slice HO201.out; subst eo31) | ((with_reducible refine gate_callee (f := 28) rfl ?_); refine goesL_ (some 48) rfl rfl Try.func28 (by kernel_rfl) rfl #[.slice Ao30 t194.length co30, .slice Ao31 t198.length co31] rfl (by (try simp only [List.map_toArray, List.map_cons, List.map_nil]); first | done | rfl | (simp only [List.length_drop, List.length_take]; rfl)) ?_; (with_reducible refine (portagelaw0_SameCodes.calls k _ _ t194 _ _ t198 true _ ?side1 ?side2 ?side3 ?side4 A9.out).mono ?_); (case side1 => repeat (first | exact (Kd.R_reads' HO197.out).2.2 | (with_reducible refine Kd.C_alloc ?_ _) | (with_reducible refine Kd.C_drewN ?_ _) | (with_reducible refine Kd.C_drew ?_))); (case side2 => exact (Kd.R_reads' HO197.out).2.1); (case side3 => repeat (first | exact (Kd.R_reads' HO201.out).2.2 | (with_reducible refine Kd.C_alloc ?_ _) | (with_reducible refine Kd.C_drewN ?_ _) | (with_reducible refine Kd.C_drew ?_))); (case side4 => exact (Kd.R_reads' HO201.out).2.1); rintro e w' ⟨rfl, ⟨nd, rfl⟩⟩; refine ⟨_, rfl, ?_⟩) | (go_at_call 29; (with_reducible refine (portagelaw0_Num.calls t195 t209 _ A11.out).mono ?_); rintro e w' ⟨rfl, ⟨nd, rfl⟩⟩) | (go_at_call 29; (with_reducible refine (portagelaw0_Num.calls t204 t210 _ A15.out).mono ?_); rintro e w' ⟨rfl, ⟨nd, rfl⟩⟩) | (go_at_call 30; (with_reducible refine (huff_Check.calls _ _ t189 t211 _ ?side1 ?side2 A17.out).mono ?_); (case side1 => repeat (first | exact (by repeat (first | (with_reducible exact HR190.out) | (with_reducible refine Kd.C_alloc ?_ _) | (with_reducible refine Kd.C_drewN ?_ _) | (with_reducible refine Kd.C_drew ?_) | exact HR190.out)) | (with_reducible refine Kd.C_alloc ?_ _) | (with_reducible refine Kd.C_drewN ?_ _) | (with_reducible refine Kd.C_drew ?_))); (case side2 => exact HC190.out); rintro e w32 ⟨rfl, hb⟩; have n0_ := Aside0.mk (Kd.R_below (by (with_reducible repeat (first | apply Kd.R_alloc | apply Kd.R_drewN | apply Kd.R_drew)); exact HO192.out) hb); have n1_ := Aside0.mk (Kd.R_below (by (with_reducible repeat (first | apply Kd.R_alloc | apply Kd.R_drewN | apply Kd.R_drew)); exact HO197.out) hb); have n2_ := Aside0.mk (Kd.R_below (by (with_reducible repeat (first | apply Kd.R_alloc | apply Kd.R_drewN | apply Kd.R_drew)); exact HO201.out) hb); have n3_ := Aside0.mk (Kd.C_below (by repeat (first | (with_reducible exact HR190.out) | (with_reducible refine Kd.C_alloc ?_ _) | (with_reducible refine Kd.C_drewN ?_ _) | (with_reducible refine Kd.C_drew ?_) | exact HR190.out)) hb); have n4_ := Aside0.mk (below_step (by repeat (first | (with_reducible first | exact HB.out | apply below_alloc | apply pw_below_drewN | apply below_drew1) | exact HB.out)) hb); clear HO192; clear HO197; clear HO201; clear HR190; clear HB; have HO192 := n0_; have HO197 := n1_; have HO201 := n2_; have HR190 := n3_; have HB := n4_; clear n0_ n1_ n2_ n3_ n4_; (try clear hb); (try clear hb2); (try clear hk); (try clear hi)) | (go_at_call 29; (with_reducible refine (portagelaw0_Num.calls t211 t212 _ A18.out).mono ?_); rintro e w' ⟨rfl, ⟨nd, rfl⟩⟩) | (go_at_call 31; (with_reducible refine (portageref1_Check.calls k _ _ l0 t213 _ ?side1 ?side2 A19.out).mono ?_); (case side1 => repeat (first | exact (Kd.C_below HR0.out (by repeat (first | (with_reducible first | exact HB.out | apply below_alloc | apply pw_below_drewN | apply below_drew1) | exact HB.out))) | (with_reducible refine Kd.C_alloc ?_ _) | (with_reducible refine Kd.C_drewN ?_ _) | (with_reducible refine Kd.C_drew ?_))); (case side2 => exact HC0.out); rintro e w' ⟨rfl, ⟨nd, rfl⟩⟩) | ((with_reducible refine gate_callee (f := 32) rfl ?_); refine goesL_ (some 81) rfl rfl Try.func32 (by kernel_rfl) rfl #[.slice Ao30 t194.length co30] rfl (by (try simp only [List.map_toArray, List.map_cons, List.map_nil]); first | done | rfl | (simp only [List.length_drop, List.length_take]; rfl)) ?_; (with_reducible refine (portagelaw0_SpoilCodes.calls k (fun k_ => some k_ = (.slice Ao30 t194.length co30 : Value).ownBlock) (.slice Ao30 t194.length co30) t194 t214 w _ ?side1 ?side2 A21.out).mono ?_); (case side1 => repeat (first | (with_reducible first | exact HB.out | apply below_alloc | apply pw_below_drewN | apply below_drew1) | exact HB.out)); (case side2 => exact Kd.R_tight rfl HO197.out); rintro e w33 ⟨rfl, hy0, hb, hkp⟩; refine ⟨_, rfl, ?_⟩; have n0_ := Aside0.mk (Kd.R_mono (ok' := fun k_ => True) (Kd.R_keptB ((Kd.R_apart' HO192.out (Kd.R_typed HO197.out) (by decide))) hkp (fun k_ hk_ hs_ => (hk_.2) hs_)) (fun k_ hk_ => trivial)); have n1_ := Aside0.mk (Kd.R_reok rfl hy0 (fun k_ e_ => HO197.out.1 k_ e_)); have n2_ := Aside0.mk (Kd.R_mono (ok' := fun k_ => some k_ ≠ (.slice Ao30 t194.length co30 : Value).ownBlock) (Kd.R_keptB (HO201.out) hkp (fun k_ hk_ hs_ => (hk_.2) hs_)) (fun k_ hk_ => hk_.1.2)); have n3_ := Aside0.mk ((show Kd.C (Kd.int .i64) w33 Al193 t189.length t189 from by rw [Nt189.out]; exact Kd.C_take (m := t189.length) ((Kd.R_reads' (Kd.R_mono (ok' := fun k_ => True) (Kd.R_keptB ((Kd.R_apart' HO192.out (Kd.R_typed HO197.out) (by decide))) hkp (fun k_ hk_ hs_ => (hk_.2) hs_)) (fun k_ hk_ => trivial))).2.2) KL193.out)); have n4_ := Aside0.mk (hb); clear HO192; clear HO197; clear HO201; clear HR190; clear HB; have HO192 := n0_; have HO197 := n1_; have HO201 := n2_; have HR190 := n3_; have HB := n4_; clear n0_ n1_ n2_ n3_ n4_; (try clear hb); (try clear hkp); (try clear hy0)) | ((with_reducible refine gate_callee (f := 33) rfl ?_); refine goesL_ (some 84) rfl rfl Try.func33 (by kernel_rfl) rfl #[.slice Al193 t189.length cl193, .slice A0 l0.length c0] rfl (by (try simp only [List.map_toArray, List.map_cons, List.map_nil]); first | done | rfl | (simp only [List.length_drop, List.length_take]; rfl)) ?_; (with_reducible refine (portagelaw0_KeptInts.calls k _ _ t189 t191 _ _ l0 true _ ?side1 ?side2 ?side3 ?side4 ?side5 ?side6 A22.out).mono ?_); (case side1 => repeat (first | exact (by repeat (first | (with_reducible exact HR190.out) | (with_reducible refine Kd.C_alloc ?_ _) | (with_reducible refine Kd.C_drewN ?_ _) | (with_reducible refine Kd.C_drew ?_) | exact HR190.out)) | (with_reducible refine Kd.C_alloc ?_ _) | (with_reducible refine Kd.C_drewN ?_ _) | (with_reducible refine Kd.C_drew ?_))); (case side2 => exact HC190.out); (case side3 => exact (Kd.R_reads' (by (with_reducible repeat (first | apply Kd.R_alloc | apply Kd.R_drewN | apply Kd.R_drew)); exact HO192.out)).2.2); (case side4 => exact (Kd.R_reads' HO192.out).2.1); (case side5 => repeat (first | exact (Kd.C_below HR0.out HB.out) | (with_reducible refine Kd.C_alloc ?_ _) | (with_reducible refine Kd.C_drewN ?_ _) | (with_reducible refine Kd.C_drew ?_))); (case side6 => exact HC0.out); rintro e w' ⟨rfl, ⟨nd, rfl⟩⟩; refine ⟨_, rfl, ?_⟩) | (go_at_call 34; (with_reducible refine (portagelaw3_awake.calls k  t216 _ A24.out).mono ?_); rintro e w34 ⟨rfl, hb⟩; have n0_ := Aside0.mk (Kd.R_below (by (with_reducible repeat (first | apply Kd.R_alloc | apply Kd.R_drewN | apply Kd.R_drew)); exact HO192.out) hb); have n1_ := Aside0.mk (Kd.R_below (by (with_reducible repeat (first | apply Kd.R_alloc | apply Kd.R_drewN | apply Kd.R_drew)); exact HO197.out) hb); have n2_ := Aside0.mk (Kd.R_below (by (with_reducible repeat (first | apply Kd.R_alloc | apply Kd.R_drewN | apply Kd.R_drew)); exact HO201.out) hb); have n3_ := Aside0.mk (Kd.C_below (by repeat (first | (with_reducible exact HR190.out) | (with_reducible refine Kd.C_alloc ?_ _) | (with_reducible refine Kd.C_drewN ?_ _) | (with_reducible refine Kd.C_drew ?_) | exact HR190.out)) hb); have n4_ := Aside0.mk (below_step (by repeat (first | (with_reducible first | exact HB.out | apply below_alloc | apply pw_below_drewN | apply below_drew1) | exact HB.out)) hb); clear HO192; clear HO197; clear HO201; clear HR190; clear HB; have HO192 := n0_; have HO197 := n1_; have HO201 := n2_; have HR190 := n3_; have HB := n4_; clear n0_ n1_ n2_ n3_ n4_; (try clear hb); (try clear hb2); (try clear hk); (try clear hi)))
                go_ret
                exact ⟨by first | rfl | (simp [errW_none, errW_some] <;> rfl) | (simp [*, errW_none, errW_some] <;> rfl), by repeat (first | (with_reducible first | exact HB.out | apply below_alloc | apply pw_below_drewN | apply below_drew1) | exact HB.out)⟩
              · replace c23 := Bool.eq_false_iff.mpr c23
                subst c23
                have H1 : (none) = some r := by rw [if_neg (show ¬ (false = true) by decide)] at H; exact H
                clear H
                have H := H1
                clear H1
                exact absurd H (by simp)
            · rw [if_neg c20] at H
              exact absurd H (by simp)
          · rw [if_neg c16] at H
            exact absurd H (by simp)
      · rw [if_neg c13] at H
        exact absurd H (by simp)
    · rw [if_neg c12] at H
      exact absurd H (by simp)
  · replace c10 := Bool.eq_false_iff.mpr c10
    subst c10
    have H1 : (none) = some r := by rw [if_neg (show ¬ (false = true) by decide)] at H; exact H
    clear H
    have H := H1
    clear H1
    exact absurd H (by simp)

/-- THE ONE PURE STATEMENT of portagelaw3_Huffs: yours. -/
def portagelaw3_Huffs.Pure : Prop := ∀ (l0 : List Int) (a1 : Int) (a2 : Int), l0.length ≤ maxLen → l0.length * 8 ≤ 140737488351232 → (∀ x ∈ l0, (Lit.int .i64 x).wf = true) → (Lit.int .i64 a1).wf = true → (Lit.int .i64 a2).wf = true → ∃ k, portagelaw3_Huffs.f k l0 a1 a2 = some true
theorem portagelaw3_Huffs.walk (P : portagelaw3_Huffs.Pure) (a0 : Option Addr) (len0 cap0 : Nat) (z0 : List Int) (a1 : Int) (a2 : Int) (w : World) (w0 : (a0 = none ∧ len0 = 0 ∧ cap0 = 0 ∧ z0 = []) ∨ ∃ x, a0 = some x ∧ len0 ≤ cap0 ∧ cap0 ≤ maxLen ∧ z0.length = cap0 ∧ (∀ i, i < z0.length → w.cell? (x.add i) = some (.int .i64 (z0.getD i 0))) ∧ ∀ n ∈ z0, (Lit.int .i64 n).wf = true) (y0 : len0 * 8 ≤ 140737488351232) (w1 : (Lit.int .i64 a1).wf = true) (w2 : (Lit.int .i64 a2).wf = true) :
    Calls Try.prog 3 #[.slice a0 len0 cap0, .int .i64 a1, .int .i64 a2] w fun e w' => e = .returned (.bool true) ∧ Below w.heap.size w w' := by
  obtain ⟨l0, rfl, hr0, hm0, hw0, hc0⟩ := ReadsInt.ofRowC w0
  obtain ⟨k, h⟩ := P l0 a1 a2 hm0 y0 hw0 w1 w2
  refine (portagelaw3_Huffs.calls k _ _ l0 a1 a2 true w (Kd.C_of_reads (d := (0 : Int)) (h1 := fun _ => rfl) hr0) hc0 h).mono ?_
  rintro e w' ⟨rfl, hd⟩
  exact ⟨rfl, hd⟩

end Go.Proofs.Ytbifignggnfodaa.HH
