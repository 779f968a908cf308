-- Written by a program of this session out of the translation (a changed copy of the kit's printer).
import Derived.Test.YtnjbbfcknijcnaaN0
import Derived.Test.YtnjbbfcknijcnaaN2
import Derived.Test.YtnjbbfcknijcnaaN3
import Derived.Test.YtnjbbfcknijcnaaN4
import Derived.Test.YtnjbbfcknijcnaaN6
import Derived.Test.YtnjbbfcknijcnaaN7
import Derived.Test.YtnjbbfcknijcnaaN8
import Derived.Test.YtnjbbfcknijcnaaN9
namespace Go.Proofs.Ytnjbbfcknijcnaa.N
open Go.RowKit Go.Proofs.YtnjbbfcknijcnaaW.PrintWords Go.Proofs.YtnjbbfcknijcnaaW.PrintLast Go.Proofs.YtnjbbfcknijcnaaW.PrintMore
attribute [local go_sem] max2_int min2_int max_two min_two max_three min_three max_four min_four   -- for this text's walks alone
set_option linter.unusedVariables false
set_option linter.unusedSimpArgs false

/-! ### portagelaw5_awake: function 59 -/
def portagelaw5_awake.f (k : Nat)  : Option (Bool) := (match_Tokens.f k (⟨#[97, 98, 99, 97, 98, 99, 97, 98, 99, 120, 97, 98]⟩ : ByteArray)).bind fun bt188 => ((match_Expand.f k bt188.1).bind fun bt192 => ((match_Expand.f k (([(⟨0, 3, 1⟩ : S72)] : List (S72)))).bind fun bt197 => ((portagelaw0_SameTokens.f k bt188.1 (([(⟨97, 0, 0⟩ : S72), (⟨98, 0, 0⟩ : S72), (⟨99, 0, 0⟩ : S72), (⟨0, 6, 3⟩ : S72), (⟨120, 0, 0⟩ : S72), (⟨97, 0, 0⟩ : S72), (⟨98, 0, 0⟩ : S72)] : List (S72)))).bind fun t202 => (if t202 = true then ((portagelaw0_Num.f bt188.2).bind fun t203 => (if t203 = 0 then (if bt192.1.toList = ([97, 98, 99, 97, 98, 99, 97, 98, 99, 120, 97, 98] : List UInt8) then ((portagelaw0_Num.f bt192.2).bind fun t204 => (if t204 = 0 then ((portagelaw0_Num.f bt197.2).bind fun t205 => (if t205 = 500 then ((match_May.f k bt188.1).bind fun t206 => (if t206 = true then ((match_May.f k (([(⟨256, 0, 0⟩ : S72)] : List (S72)))).bind fun t210 => (some (!t210))) else (none))) else (none))) else (none))) else (none)) else (none))) else (none)))))
theorem portagelaw5_awake.mono : ∀ k, LeO (portagelaw5_awake.f k ) (portagelaw5_awake.f (k + 1) ) := by
  intro  k
  unfold portagelaw5_awake.f
  repeat' first
      | (with_reducible exact match_Expand.mono _ _)
      | (with_reducible exact match_May.mono _ _)
      | (with_reducible exact match_Tokens.mono _ _)
      | (with_reducible exact portagelaw0_SameTokens.mono _ _ _)
      | (with_reducible exact LeO.refl _)
      | (with_reducible exact LeO.none _)
      | (with_reducible refine LeO.ite ?_ ?_)
      | (with_reducible refine LeO.bind ?_ (fun _ => ?_))
      | exact match_Expand.mono _ _
      | exact match_May.mono _ _
      | exact match_Tokens.mono _ _
      | exact portagelaw0_SameTokens.mono _ _ _
      | exact LeO.none _
      | refine LeO.ite ?_ ?_
      | refine LeO.bind ?_ (fun _ => ?_)
set_option maxHeartbeats 8000000 in
set_option maxRecDepth 100000 in
theorem portagelaw5_awake.calls (k : Nat)  (r : Bool) (w : World) (h : portagelaw5_awake.f k  = some r) :
    Calls Try.prog 59 #[] w fun e w' => e = .returned (.bool r) ∧ Below w.heap.size w w' := by
  have hu72 := Try.underlying72
  have HB := Aside0.mk (Below.refl w.heap.size w)
  have H : ((match_Tokens.f k (⟨#[97, 98, 99, 97, 98, 99, 97, 98, 99, 120, 97, 98]⟩ : ByteArray)).bind fun bt188 => ((match_Expand.f k bt188.1).bind fun bt192 => ((match_Expand.f k (([(⟨0, 3, 1⟩ : S72)] : List (S72)))).bind fun bt197 => ((portagelaw0_SameTokens.f k bt188.1 (([(⟨97, 0, 0⟩ : S72), (⟨98, 0, 0⟩ : S72), (⟨99, 0, 0⟩ : S72), (⟨0, 6, 3⟩ : S72), (⟨120, 0, 0⟩ : S72), (⟨97, 0, 0⟩ : S72), (⟨98, 0, 0⟩ : S72)] : List (S72)))).bind fun t202 => (if t202 = true then ((portagelaw0_Num.f bt188.2).bind fun t203 => (if t203 = 0 then (if bt192.1.toList = ([97, 98, 99, 97, 98, 99, 97, 98, 99, 120, 97, 98] : List UInt8) then ((portagelaw0_Num.f bt192.2).bind fun t204 => (if t204 = 0 then ((portagelaw0_Num.f bt197.2).bind fun t205 => (if t205 = 500 then ((match_May.f k bt188.1).bind fun t206 => (if t206 = true then ((match_May.f k (([(⟨256, 0, 0⟩ : S72)] : List (S72)))).bind fun t210 => (some (!t210))) else (none))) else (none))) else (none))) else (none)) else (none))) else (none)))))) = some r := h
  clear h
  replace H := Option.bind_eq_some_iff.mp H
  obtain ⟨⟨t188, t189⟩, A10, H⟩ := H
  replace H : ((match_Expand.f k t188).bind fun bt192 => ((match_Expand.f k (([(⟨0, 3, 1⟩ : S72)] : List (S72)))).bind fun bt197 => ((portagelaw0_SameTokens.f k t188 (([(⟨97, 0, 0⟩ : S72), (⟨98, 0, 0⟩ : S72), (⟨99, 0, 0⟩ : S72), (⟨0, 6, 3⟩ : S72), (⟨120, 0, 0⟩ : S72), (⟨97, 0, 0⟩ : S72), (⟨98, 0, 0⟩ : S72)] : List (S72)))).bind fun t202 => (if t202 = true then ((portagelaw0_Num.f t189).bind fun t203 => (if t203 = 0 then (if bt192.1.toList = ([97, 98, 99, 97, 98, 99, 97, 98, 99, 120, 97, 98] : List UInt8) then ((portagelaw0_Num.f bt192.2).bind fun t204 => (if t204 = 0 then ((portagelaw0_Num.f bt197.2).bind fun t205 => (if t205 = 500 then ((match_May.f k t188).bind fun t206 => (if t206 = true then ((match_May.f k (([(⟨256, 0, 0⟩ : S72)] : List (S72)))).bind fun t210 => (some (!t210))) else (none))) else (none))) else (none))) else (none)) else (none))) else (none))))) = some r := H
  have A1 := Aside0.mk A10
  clear A10
  replace H := Option.bind_eq_some_iff.mp H
  obtain ⟨⟨t192, t193⟩, A20, H⟩ := H
  replace H : ((match_Expand.f k (([(⟨0, 3, 1⟩ : S72)] : List (S72)))).bind fun bt197 => ((portagelaw0_SameTokens.f k t188 (([(⟨97, 0, 0⟩ : S72), (⟨98, 0, 0⟩ : S72), (⟨99, 0, 0⟩ : S72), (⟨0, 6, 3⟩ : S72), (⟨120, 0, 0⟩ : S72), (⟨97, 0, 0⟩ : S72), (⟨98, 0, 0⟩ : S72)] : List (S72)))).bind fun t202 => (if t202 = true then ((portagelaw0_Num.f t189).bind fun t203 => (if t203 = 0 then (if t192.toList = ([97, 98, 99, 97, 98, 99, 97, 98, 99, 120, 97, 98] : List UInt8) then ((portagelaw0_Num.f t193).bind fun t204 => (if t204 = 0 then ((portagelaw0_Num.f bt197.2).bind fun t205 => (if t205 = 500 then ((match_May.f k t188).bind fun t206 => (if t206 = true then ((match_May.f k (([(⟨256, 0, 0⟩ : S72)] : List (S72)))).bind fun t210 => (some (!t210))) else (none))) else (none))) else (none))) else (none)) else (none))) else (none)))) = some r := H
  have A2 := Aside0.mk A20
  clear A20
  obtain ⟨y194, hy194⟩ : ∃ y_ : List (S72), y_ = (([(⟨0, 3, 1⟩ : S72)] : List (S72))) := ⟨_, rfl⟩
  replace H : ((match_Expand.f k y194).bind fun bt197 => ((portagelaw0_SameTokens.f k t188 (([(⟨97, 0, 0⟩ : S72), (⟨98, 0, 0⟩ : S72), (⟨99, 0, 0⟩ : S72), (⟨0, 6, 3⟩ : S72), (⟨120, 0, 0⟩ : S72), (⟨97, 0, 0⟩ : S72), (⟨98, 0, 0⟩ : S72)] : List (S72)))).bind fun t202 => (if t202 = true then ((portagelaw0_Num.f t189).bind fun t203 => (if t203 = 0 then (if t192.toList = ([97, 98, 99, 97, 98, 99, 97, 98, 99, 120, 97, 98] : List UInt8) then ((portagelaw0_Num.f t193).bind fun t204 => (if t204 = 0 then ((portagelaw0_Num.f bt197.2).bind fun t205 => (if t205 = 500 then ((match_May.f k t188).bind fun t206 => (if t206 = true then ((match_May.f k (([(⟨256, 0, 0⟩ : S72)] : List (S72)))).bind fun t210 => (some (!t210))) else (none))) else (none))) else (none))) else (none)) else (none))) else (none)))) = some r := by first | (rw [hy194]; with_reducible exact H) | (have H2_ := (Option.bind_some _ _).symm.trans H; rw [hy194]; with_reducible exact H2_) | (have H2_ := (Option.bind_some _ _).symm.trans H; with_reducible exact H2_) | with_reducible exact H | (rw [hy194]; exact H) | exact H
  have Ny194 := Aside0.mk hy194
  clear hy194
  replace H := Option.bind_eq_some_iff.mp H
  obtain ⟨⟨t197, t198⟩, A30, H⟩ := H
  replace H : ((portagelaw0_SameTokens.f k t188 (([(⟨97, 0, 0⟩ : S72), (⟨98, 0, 0⟩ : S72), (⟨99, 0, 0⟩ : S72), (⟨0, 6, 3⟩ : S72), (⟨120, 0, 0⟩ : S72), (⟨97, 0, 0⟩ : S72), (⟨98, 0, 0⟩ : S72)] : List (S72)))).bind fun t202 => (if t202 = true then ((portagelaw0_Num.f t189).bind fun t203 => (if t203 = 0 then (if t192.toList = ([97, 98, 99, 97, 98, 99, 97, 98, 99, 120, 97, 98] : List UInt8) then ((portagelaw0_Num.f t193).bind fun t204 => (if t204 = 0 then ((portagelaw0_Num.f t198).bind fun t205 => (if t205 = 500 then ((match_May.f k t188).bind fun t206 => (if t206 = true then ((match_May.f k (([(⟨256, 0, 0⟩ : S72)] : List (S72)))).bind fun t210 => (some (!t210))) else (none))) else (none))) else (none))) else (none)) else (none))) else (none))) = some r := H
  have A3 := Aside0.mk A30
  clear A30
  obtain ⟨y199, hy199⟩ : ∃ y_ : List (S72), y_ = (([(⟨97, 0, 0⟩ : S72), (⟨98, 0, 0⟩ : S72), (⟨99, 0, 0⟩ : S72), (⟨0, 6, 3⟩ : S72), (⟨120, 0, 0⟩ : S72), (⟨97, 0, 0⟩ : S72), (⟨98, 0, 0⟩ : S72)] : List (S72))) := ⟨_, rfl⟩
  replace H : ((portagelaw0_SameTokens.f k t188 y199).bind fun t202 => (if t202 = true then ((portagelaw0_Num.f t189).bind fun t203 => (if t203 = 0 then (if t192.toList = ([97, 98, 99, 97, 98, 99, 97, 98, 99, 120, 97, 98] : List UInt8) then ((portagelaw0_Num.f t193).bind fun t204 => (if t204 = 0 then ((portagelaw0_Num.f t198).bind fun t205 => (if t205 = 500 then ((match_May.f k t188).bind fun t206 => (if t206 = true then ((match_May.f k (([(⟨256, 0, 0⟩ : S72)] : List (S72)))).bind fun t210 => (some (!t210))) else (none))) else (none))) else (none))) else (none)) else (none))) else (none))) = some r := by first | (rw [hy199]; with_reducible exact H) | (have H2_ := (Option.bind_some _ _).symm.trans H; rw [hy199]; with_reducible exact H2_) | (have H2_ := (Option.bind_some _ _).symm.trans H; with_reducible exact H2_) | with_reducible exact H | (rw [hy199]; exact H) | exact H
  have Ny199 := Aside0.mk hy199
  clear hy199
  replace H := Option.bind_eq_some_iff.mp H
  obtain ⟨t202, A40, H⟩ := H
  replace H : (if t202 = true then ((portagelaw0_Num.f t189).bind fun t203 => (if t203 = 0 then (if t192.toList = ([97, 98, 99, 97, 98, 99, 97, 98, 99, 120, 97, 98] : List UInt8) then ((portagelaw0_Num.f t193).bind fun t204 => (if t204 = 0 then ((portagelaw0_Num.f t198).bind fun t205 => (if t205 = 500 then ((match_May.f k t188).bind fun t206 => (if t206 = true then ((match_May.f k (([(⟨256, 0, 0⟩ : S72)] : List (S72)))).bind fun t210 => (some (!t210))) else (none))) else (none))) else (none))) else (none)) else (none))) else (none)) = some r := H
  have A4 := Aside0.mk A40
  clear A40
  by_cases c5 : t202 = true
  · subst c5
    have H1 : ((portagelaw0_Num.f t189).bind fun t203 => (if t203 = 0 then (if t192.toList = ([97, 98, 99, 97, 98, 99, 97, 98, 99, 120, 97, 98] : List UInt8) then ((portagelaw0_Num.f t193).bind fun t204 => (if t204 = 0 then ((portagelaw0_Num.f t198).bind fun t205 => (if t205 = 500 then ((match_May.f k t188).bind fun t206 => (if t206 = true then ((match_May.f k (([(⟨256, 0, 0⟩ : S72)] : List (S72)))).bind fun t210 => (some (!t210))) else (none))) else (none))) else (none))) else (none)) else (none))) = some r := by rw [if_pos rfl] at H; exact H
    clear H
    have H := H1
    clear H1
    replace H := Option.bind_eq_some_iff.mp H
    obtain ⟨t203, A60, H⟩ := H
    replace H : (if t203 = 0 then (if t192.toList = ([97, 98, 99, 97, 98, 99, 97, 98, 99, 120, 97, 98] : List UInt8) then ((portagelaw0_Num.f t193).bind fun t204 => (if t204 = 0 then ((portagelaw0_Num.f t198).bind fun t205 => (if t205 = 500 then ((match_May.f k t188).bind fun t206 => (if t206 = true then ((match_May.f k (([(⟨256, 0, 0⟩ : S72)] : List (S72)))).bind fun t210 => (some (!t210))) else (none))) else (none))) else (none))) else (none)) else (none)) = some r := H
    have A6 := Aside0.mk A60
    clear A60
    by_cases c7 : t203 = 0
    · rw [if_pos c7] at H
      have c7b0 : (t203 == 0) = true := beq_iff_eq.mpr c7
      have c7b1 : (t203 != 0) = false := bne_eq_false_iff_eq.mpr c7
      clear c7
      by_cases c8 : t192.toList = ([97, 98, 99, 97, 98, 99, 97, 98, 99, 120, 97, 98] : List UInt8)
      · rw [if_pos c8] at H
        have c8b0 : (t192.toList == ([97, 98, 99, 97, 98, 99, 97, 98, 99, 120, 97, 98] : List UInt8)) = true := beq_iff_eq.mpr c8
        have c8b1 : (t192.toList != ([97, 98, 99, 97, 98, 99, 97, 98, 99, 120, 97, 98] : List UInt8)) = false := bne_eq_false_iff_eq.mpr c8
        clear c8
        replace H := Option.bind_eq_some_iff.mp H
        obtain ⟨t204, A90, H⟩ := H
        replace H : (if t204 = 0 then ((portagelaw0_Num.f t198).bind fun t205 => (if t205 = 500 then ((match_May.f k t188).bind fun t206 => (if t206 = true then ((match_May.f k (([(⟨256, 0, 0⟩ : S72)] : List (S72)))).bind fun t210 => (some (!t210))) else (none))) else (none))) else (none)) = some r := H
        have A9 := Aside0.mk A90
        clear A90
        by_cases c10 : t204 = 0
        · rw [if_pos c10] at H
          have c10b0 : (t204 == 0) = true := beq_iff_eq.mpr c10
          have c10b1 : (t204 != 0) = false := bne_eq_false_iff_eq.mpr c10
          clear c10
          replace H := Option.bind_eq_some_iff.mp H
          obtain ⟨t205, A110, H⟩ := H
          replace H : (if t205 = 500 then ((match_May.f k t188).bind fun t206 => (if t206 = true then ((match_May.f k (([(⟨256, 0, 0⟩ : S72)] : List (S72)))).bind fun t210 => (some (!t210))) else (none))) else (none)) = some r := H
          have A11 := Aside0.mk A110
          clear A110
          by_cases c12 : t205 = 500
          · rw [if_pos c12] at H
            have c12b0 : (t205 == 500) = true := beq_iff_eq.mpr c12
            have c12b1 : (t205 != 500) = false := bne_eq_false_iff_eq.mpr c12
            clear c12
            replace H := Option.bind_eq_some_iff.mp H
            obtain ⟨t206, A130, H⟩ := H
            replace H : (if t206 = true then ((match_May.f k (([(⟨256, 0, 0⟩ : S72)] : List (S72)))).bind fun t210 => (some (!t210))) else (none)) = some r := H
            have A13 := Aside0.mk A130
            clear A130
            by_cases c14 : t206 = true
            · subst c14
              have H1 : ((match_May.f k (([(⟨256, 0, 0⟩ : S72)] : List (S72)))).bind fun t210 => (some (!t210))) = some r := by rw [if_pos rfl] at H; exact H
              clear H
              have H := H1
              clear H1
              obtain ⟨y207, hy207⟩ : ∃ y_ : List (S72), y_ = (([(⟨256, 0, 0⟩ : S72)] : List (S72))) := ⟨_, rfl⟩
              replace H : ((match_May.f k y207).bind fun t210 => (some (!t210))) = some r := by first | (rw [hy207]; with_reducible exact H) | (have H2_ := (Option.bind_some _ _).symm.trans H; rw [hy207]; with_reducible exact H2_) | (have H2_ := (Option.bind_some _ _).symm.trans H; with_reducible exact H2_) | with_reducible exact H | (rw [hy207]; exact H) | exact H
              have Ny207 := Aside0.mk hy207
              clear hy207
              replace H := Option.bind_eq_some_iff.mp H
              obtain ⟨t210, A150, H⟩ := H
              replace H : (some (!t210)) = some r := H
              have A15 := Aside0.mk A150
              clear A150
              obtain rfl := Option.some.inj H
              go_enter Try.func59, Try.ntmps59
              go_wp2_with (first | ((with_reducible refine gate_callee (f := 50) rfl ?_); refine goesL_ (some 8) rfl rfl Try.func50 (by kernel_rfl) rfl #[.string (⟨#[97, 98, 99, 97, 98, 99, 97, 98, 99, 120, 97, 98]⟩ : ByteArray)] rfl (by (try simp only [List.map_toArray, List.map_cons, List.map_nil]); first | done | rfl | (simp only [List.length_drop, List.length_take]; rfl)) ?_; (with_reducible refine (match_Tokens.calls k (⟨#[97, 98, 99, 97, 98, 99, 97, 98, 99, 120, 97, 98]⟩ : ByteArray) t188 t189 _ A1.out).mono ?_); rintro e w16 ⟨v190, rfl, ho0, hb⟩; refine ⟨_, rfl, ?_⟩; have n0_ := Aside0.mk (Kd.R_lower ho0 (below_size (by repeat (first | (with_reducible first | exact HB.out | apply below_alloc | apply pw_below_drewN | apply below_drew1) | exact HB.out)))); have n1_ := Aside0.mk (below_step (by repeat (first | (with_reducible first | exact HB.out | apply below_alloc | apply pw_below_drewN | apply below_drew1) | exact HB.out)) hb); clear HB; have HO191 := n0_; have HB := n1_; clear n0_ n1_; (try clear hb); (try clear hb2); (try clear hk); (try clear hi); (try clear ho0); obtain ⟨Ao17, co17, eo17⟩ := Kd.R_slice HO191.out; subst eo17) | ((with_reducible refine gate_callee (f := 52) rfl ?_); refine goesL_ (some 13) rfl rfl Try.func52 (by kernel_rfl) rfl #[.slice Ao17 t188.length co17] rfl (by (try simp only [List.map_toArray, List.map_cons, List.map_nil]); first | done | rfl | (simp only [List.length_drop, List.length_take]; rfl)) ?_; (with_reducible refine (match_Expand.calls k _ _ t188 t192 t193 _ ?side1 ?side2 A2.out).mono ?_); (case side1 => repeat (first | exact (Kd.R_reads' HO191.out).2.2 | (with_reducible refine Kd.C_alloc ?_ _) | (with_reducible refine Kd.C_drewN ?_ _) | (with_reducible refine Kd.C_drew ?_))); (case side2 => exact (Kd.R_reads' HO191.out).2.1); rintro e w18 ⟨rfl, hb⟩; refine ⟨_, rfl, ?_⟩; have n0_ := Aside0.mk (Kd.R_below (by (with_reducible repeat (first | apply Kd.R_alloc | apply Kd.R_drewN | apply Kd.R_drew)); exact HO191.out) hb); have n1_ := Aside0.mk (below_step (by repeat (first | (with_reducible first | exact HB.out | apply below_alloc | apply pw_below_drewN | apply below_drew1) | exact HB.out)) hb); clear HO191; clear HB; have HO191 := n0_; have HB := n1_; clear n0_ n1_; (try clear hb); (try clear hb2); (try clear hk); (try clear hi)) | ((with_reducible refine gate_dst (N := 18) rfl ?_); (try (refine gate_guard (by rfl) ?_; dsimp only)); refine Kd.R_lit k72 _ 72 ?hg (N := 18) ?hd (xs := ([(⟨0, 3, 1⟩ : S72)] : List (S72))) (inner := [.int .i64 0, .int .i64 3, .int .i64 1]) (ok := fun _ => True) (okp := fun _ => True) ?hr ?hp (fun _ hk => hk) trivial (Below.refl _ _) (Nat.le_refl _) (by simp) ?_; (case hd => rfl); (case hg => rfl); (case hr => first | (go_simp; done) | (go_simp; rfl)); (case hp => exact (Reps.c3 (show Kd.M k72 _ _ _ (⟨0, 3, 1⟩ : S72) [.int .i64 0, .int .i64 3, .int .i64 1] from (k72_mkM _ _ _ (⟨0, 3, 1⟩ : S72) )) (Reps.none _ _))); intro v195 w19 ho20 hb hg_ hnew_; clear hg_ hnew_; (first | rw [← Ny194.out] at ho20 | (simp only [Int.reduceToNat] at ho20; rw [← Ny194.out] at ho20)); have n0_ := Aside0.mk (Kd.R_elder' (by (with_reducible repeat (first | apply Kd.R_alloc | apply Kd.R_drewN | apply Kd.R_drew)); exact HO191.out) (Kd.R_base ho20) hb); have n1_ := Aside0.mk (Kd.R_lower (Kd.R_new' ho20 (Kd.R_lt (by (with_reducible repeat (first | apply Kd.R_alloc | apply Kd.R_drewN | apply Kd.R_drew)); exact HO191.out))) (below_size (by repeat (first | (with_reducible first | exact HB.out | apply below_alloc | apply pw_below_drewN | apply below_drew1) | exact HB.out)))); have n2_ := Aside0.mk (below_step (by repeat (first | (with_reducible first | exact HB.out | apply below_alloc | apply pw_below_drewN | apply below_drew1) | exact HB.out)) hb); clear HO191; clear HB; have HO191 := n0_; have HO196 := n1_; have HB := n2_; clear n0_ n1_ n2_; clear hb ho20; obtain ⟨Ao21, co21, eo21⟩ := Kd.R_slice HO196.out; subst eo21) | ((with_reducible refine gate_callee (f := 52) rfl ?_); refine goesL_ (some 19) rfl rfl Try.func52 (by kernel_rfl) rfl #[.slice Ao21 y194.length co21] rfl (by (try simp only [List.map_toArray, List.map_cons, List.map_nil]); first | done | rfl | (simp only [List.length_drop, List.length_take]; rfl)) ?_; (with_reducible refine (match_Expand.calls k _ _ y194 t197 t198 _ ?side1 ?side2 A3.out).mono ?_); (case side1 => repeat (first | exact (Kd.R_reads' HO196.out).2.2 | (with_reducible refine Kd.C_alloc ?_ _) | (with_reducible refine Kd.C_drewN ?_ _) | (with_reducible refine Kd.C_drew ?_))); (case side2 => exact (Kd.R_reads' HO196.out).2.1); rintro e w22 ⟨rfl, hb⟩; refine ⟨_, rfl, ?_⟩; have n0_ := Aside0.mk (Kd.R_below (by (with_reducible repeat (first | apply Kd.R_alloc | apply Kd.R_drewN | apply Kd.R_drew)); exact HO191.out) hb); have n1_ := Aside0.mk (Kd.R_below (by (with_reducible repeat (first | apply Kd.R_alloc | apply Kd.R_drewN | apply Kd.R_drew)); exact HO196.out) hb); have n2_ := Aside0.mk (below_step (by repeat (first | (with_reducible first | exact HB.out | apply below_alloc | apply pw_below_drewN | apply below_drew1) | exact HB.out)) hb); clear HO191; clear HO196; clear HB; have HO191 := n0_; have HO196 := n1_; have HB := n2_; clear n0_ n1_ n2_; (try clear hb); (try clear hb2); (try clear hk); (try clear hi)) | ((with_reducible refine gate_dst (N := 30) rfl ?_); (try (refine gate_guard (by rfl) ?_; dsimp only)); refine Kd.R_lit k72 _ 72 ?hg (N := 30) ?hd (xs := ([(⟨97, 0, 0⟩ : S72), (⟨98, 0, 0⟩ : S72), (⟨99, 0, 0⟩ : S72), (⟨0, 6, 3⟩ : S72), (⟨120, 0, 0⟩ : S72), (⟨97, 0, 0⟩ : S72), (⟨98, 0, 0⟩ : S72)] : List (S72))) (inner := [.int .i64 97, .int .i64 0, .int .i64 0, .int .i64 98, .int .i64 0, .int .i64 0, .int .i64 99, .int .i64 0, .int .i64 0, .int .i64 0, .int .i64 6, .int .i64 3, .int .i64 120, .int .i64 0, .int .i64 0, .int .i64 97, .int .i64 0, .int .i64 0, .int .i64 98, .int .i64 0, .int .i64 0]) (ok := fun _ => True) (okp := fun _ => True) ?hr ?hp (fun _ hk => hk) trivial (Below.refl _ _) (Nat.le_refl _) (by simp) ?_; (case hd => rfl); (case hg => rfl); (case hr => first | (go_simp; done) | (go_simp; rfl)); (case hp => exact (Reps.c3 (show Kd.M k72 _ _ _ (⟨97, 0, 0⟩ : S72) [.int .i64 97, .int .i64 0, .int .i64 0] from (k72_mkM _ _ _ (⟨97, 0, 0⟩ : S72) )) (Reps.c3 (show Kd.M k72 _ _ _ (⟨98, 0, 0⟩ : S72) [.int .i64 98, .int .i64 0, .int .i64 0] from (k72_mkM _ _ _ (⟨98, 0, 0⟩ : S72) )) (Reps.c3 (show Kd.M k72 _ _ _ (⟨99, 0, 0⟩ : S72) [.int .i64 99, .int .i64 0, .int .i64 0] from (k72_mkM _ _ _ (⟨99, 0, 0⟩ : S72) )) (Reps.c3 (show Kd.M k72 _ _ _ (⟨0, 6, 3⟩ : S72) [.int .i64 0, .int .i64 6, .int .i64 3] from (k72_mkM _ _ _ (⟨0, 6, 3⟩ : S72) )) (Reps.c3 (show Kd.M k72 _ _ _ (⟨120, 0, 0⟩ : S72) [.int .i64 120, .int .i64 0, .int .i64 0] from (k72_mkM _ _ _ (⟨120, 0, 0⟩ : S72) )) (Reps.c3 (show Kd.M k72 _ _ _ (⟨97, 0, 0⟩ : S72) [.int .i64 97, .int .i64 0, .int .i64 0] from (k72_mkM _ _ _ (⟨97, 0, 0⟩ : S72) )) (Reps.c3 (show Kd.M k72 _ _ _ (⟨98, 0, 0⟩ : S72) [.int .i64 98, .int .i64 0, .int .i64 0] from (k72_mkM _ _ _ (⟨98, 0, 0⟩ : S72) )) (Reps.none _ _))))))))); intro v200 w23 ho24 hb hg_ hnew_; clear hg_ hnew_; (first | rw [← Ny199.out] at ho24 | (simp only [Int.reduceToNat] at ho24; rw [← Ny199.out] at ho24)); have n0_ := Aside0.mk (Kd.R_elder' (by (with_reducible repeat (first | apply Kd.R_alloc | apply Kd.R_drewN | apply Kd.R_drew)); exact HO191.out) (Kd.R_base ho24) hb); have n1_ := Aside0.mk (Kd.R_elder' (by (with_reducible repeat (first | apply Kd.R_alloc | apply Kd.R_drewN | apply Kd.R_drew)); exact HO196.out) (Kd.R_base ho24) hb); have n2_ := Aside0.mk (Kd.R_lower (Kd.R_new' (Kd.R_new' ho24 (Kd.R_lt (by (with_reducible repeat (first | apply Kd.R_alloc | apply Kd.R_drewN | apply Kd.R_drew)); exact HO191.out))) (Kd.R_lt (by (with_reducible repeat (first | apply Kd.R_alloc | apply Kd.R_drewN | apply Kd.R_drew)); exact HO196.out))) (below_size (by repeat (first | (with_reducible first | exact HB.out | apply below_alloc | apply pw_below_drewN | apply below_drew1) | exact HB.out)))); have n3_ := Aside0.mk (below_step (by repeat (first | (with_reducible first | exact HB.out | apply below_alloc | apply pw_below_drewN | apply below_drew1) | exact HB.out)) hb); clear HO191; clear HO196; clear HB; have HO191 := n0_; have HO196 := n1_; have HO201 := n2_; have HB := n3_; clear n0_ n1_ n2_ n3_; clear hb ho24; obtain ⟨Ao25, co25, eo25⟩ := Kd.R_slice HO201.out; subst eo25) | ((with_reducible refine gate_callee (f := 54) rfl ?_); refine goesL_ (some 31) rfl rfl Try.func54 (by kernel_rfl) rfl #[.slice Ao17 t188.length co17, .slice Ao25 y199.length co25] rfl (by (try simp only [List.map_toArray, List.map_cons, List.map_nil]); first | done | rfl | (simp only [List.length_drop, List.length_take]; rfl)) ?_; (with_reducible refine (portagelaw0_SameTokens.calls k _ _ t188 _ _ y199 true _ ?side1 ?side2 ?side3 ?side4 A4.out).mono ?_); (case side1 => repeat (first | exact (Kd.R_reads' HO191.out).2.2 | (with_reducible refine Kd.C_alloc ?_ _) | (with_reducible refine Kd.C_drewN ?_ _) | (with_reducible refine Kd.C_drew ?_))); (case side2 => exact (Kd.R_reads' HO191.out).2.1); (case side3 => repeat (first | exact (Kd.R_reads' HO201.out).2.2 | (with_reducible refine Kd.C_alloc ?_ _) | (with_reducible refine Kd.C_drewN ?_ _) | (with_reducible refine Kd.C_drew ?_))); (case side4 => exact (Kd.R_reads' HO201.out).2.1); rintro e w' ⟨rfl, ⟨nd, rfl⟩⟩; refine ⟨_, rfl, ?_⟩) | (go_at_call 34; (with_reducible refine (portagelaw0_Num.calls t189 t203 _ A6.out).mono ?_); rintro e w' ⟨rfl, ⟨nd, rfl⟩⟩) | (go_at_call 34; (with_reducible refine (portagelaw0_Num.calls t193 t204 _ A9.out).mono ?_); rintro e w' ⟨rfl, ⟨nd, rfl⟩⟩) | (go_at_call 34; (with_reducible refine (portagelaw0_Num.calls t198 t205 _ A11.out).mono ?_); rintro e w' ⟨rfl, ⟨nd, rfl⟩⟩) | (go_at_call 55; (with_reducible refine (match_May.calls k _ _ t188 true _ ?side1 ?side2 A13.out).mono ?_); (case side1 => repeat (first | exact (Kd.R_reads' HO191.out).2.2 | (with_reducible refine Kd.C_alloc ?_ _) | (with_reducible refine Kd.C_drewN ?_ _) | (with_reducible refine Kd.C_drew ?_))); (case side2 => exact (Kd.R_reads' HO191.out).2.1); rintro e w26 ⟨rfl, hb⟩; have n0_ := Aside0.mk (Kd.R_below (by (with_reducible repeat (first | apply Kd.R_alloc | apply Kd.R_drewN | apply Kd.R_drew)); exact HO191.out) hb); have n1_ := Aside0.mk (Kd.R_below (by (with_reducible repeat (first | apply Kd.R_alloc | apply Kd.R_drewN | apply Kd.R_drew)); exact HO196.out) hb); have n2_ := Aside0.mk (Kd.R_below (by (with_reducible repeat (first | apply Kd.R_alloc | apply Kd.R_drewN | apply Kd.R_drew)); exact HO201.out) hb); have n3_ := Aside0.mk (below_step (by repeat (first | (with_reducible first | exact HB.out | apply below_alloc | apply pw_below_drewN | apply below_drew1) | exact HB.out)) hb); clear HO191; clear HO196; clear HO201; clear HB; have HO191 := n0_; have HO196 := n1_; have HO201 := n2_; have HB := n3_; clear n0_ n1_ n2_ n3_; (try clear hb); (try clear hb2); (try clear hk); (try clear hi)) | ((with_reducible refine gate_dst (N := 57) rfl ?_); (try (refine gate_guard (by rfl) ?_; dsimp only)); refine Kd.R_lit k72 _ 72 ?hg (N := 57) ?hd (xs := ([(⟨256, 0, 0⟩ : S72)] : List (S72))) (inner := [.int .i64 256, .int .i64 0, .int .i64 0]) (ok := fun _ => True) (okp := fun _ => True) ?hr ?hp (fun _ hk => hk) trivial (Below.refl _ _) (Nat.le_refl _) (by simp) ?_; (case hd => rfl); (case hg => rfl); (case hr => first | (go_simp; done) | (go_simp; rfl)); (case hp => exact (Reps.c3 (show Kd.M k72 _ _ _ (⟨256, 0, 0⟩ : S72) [.int .i64 256, .int .i64 0, .int .i64 0] from (k72_mkM _ _ _ (⟨256, 0, 0⟩ : S72) )) (Reps.none _ _))); intro v208 w27 ho28 hb hg_ hnew_; clear hg_ hnew_; (first | rw [← Ny207.out] at ho28 | (simp only [Int.reduceToNat] at ho28; rw [← Ny207.out] at ho28)); have n0_ := Aside0.mk (Kd.R_elder' (by (with_reducible repeat (first | apply Kd.R_alloc | apply Kd.R_drewN | apply Kd.R_drew)); exact HO191.out) (Kd.R_base ho28) hb); have n1_ := Aside0.mk (Kd.R_elder' (by (with_reducible repeat (first | apply Kd.R_alloc | apply Kd.R_drewN | apply Kd.R_drew)); exact HO196.out) (Kd.R_base ho28) hb); have n2_ := Aside0.mk (Kd.R_elder' (by (with_reducible repeat (first | apply Kd.R_alloc | apply Kd.R_drewN | apply Kd.R_drew)); exact HO201.out) (Kd.R_base ho28) hb); have n3_ := Aside0.mk (Kd.R_lower (Kd.R_new' (Kd.R_new' (Kd.R_new' ho28 (Kd.R_lt (by (with_reducible repeat (first | apply Kd.R_alloc | apply Kd.R_drewN | apply Kd.R_drew)); exact HO191.out))) (Kd.R_lt (by (with_reducible repeat (first | apply Kd.R_alloc | apply Kd.R_drewN | apply Kd.R_drew)); exact HO196.out))) (Kd.R_lt (by (with_reducible repeat (first | apply Kd.R_alloc | apply Kd.R_drewN | apply Kd.R_drew)); exact HO201.out))) (below_size (by repeat (first | (with_reducible first | exact HB.out | apply below_alloc | apply pw_below_drewN | apply below_drew1) | exact HB.out)))); have n4_ := Aside0.mk (below_step (by repeat (first | (with_reducible first | exact HB.out | apply below_alloc | apply pw_below_drewN | apply below_drew1) | exact HB.out)) hb); clear HO191; clear HO196; clear HO201; clear HB; have HO191 := n0_; have HO196 := n1_; have HO201 := n2_; have HO209 := n3_; have HB := n4_; clear n0_ n1_ n2_ n3_ n4_; clear hb ho28; obtain ⟨Ao29, co29, eo29⟩ := Kd.R_slice HO209.out; subst eo29) | (go_at_call 55; (with_reducible refine (match_May.calls k _ _ y207 t210 _ ?side1 ?side2 A15.out).mono ?_); (case side1 => repeat (first | exact (Kd.R_reads' HO209.out).2.2 | (with_reducible refine Kd.C_alloc ?_ _) | (with_reducible refine Kd.C_drewN ?_ _) | (with_reducible refine Kd.C_drew ?_))); (case side2 => exact (Kd.R_reads' HO209.out).2.1); rintro e w30 ⟨rfl, hb⟩; have n0_ := Aside0.mk (Kd.R_below (by (with_reducible repeat (first | apply Kd.R_alloc | apply Kd.R_drewN | apply Kd.R_drew)); exact HO191.out) hb); have n1_ := Aside0.mk (Kd.R_below (by (with_reducible repeat (first | apply Kd.R_alloc | apply Kd.R_drewN | apply Kd.R_drew)); exact HO196.out) hb); have n2_ := Aside0.mk (Kd.R_below (by (with_reducible repeat (first | apply Kd.R_alloc | apply Kd.R_drewN | apply Kd.R_drew)); exact HO201.out) hb); have n3_ := Aside0.mk (Kd.R_below (by (with_reducible repeat (first | apply Kd.R_alloc | apply Kd.R_drewN | apply Kd.R_drew)); exact HO209.out) hb); have n4_ := Aside0.mk (below_step (by repeat (first | (with_reducible first | exact HB.out | apply below_alloc | apply pw_below_drewN | apply below_drew1) | exact HB.out)) hb); clear HO191; clear HO196; clear HO201; clear HO209; clear HB; have HO191 := n0_; have HO196 := n1_; have HO201 := n2_; have HO209 := n3_; have HB := n4_; clear n0_ n1_ n2_ n3_ n4_; (try clear hb); (try clear hb2); (try clear hk); (try clear hi)))
              go_ret
              exact ⟨by first | rfl | (simp [errW_none, errW_some] <;> rfl) | (simp [*, errW_none, errW_some] <;> rfl), by repeat (first | (with_reducible first | exact HB.out | apply below_alloc | apply pw_below_drewN | apply below_drew1) | exact HB.out)⟩
            · replace c14 := Bool.eq_false_iff.mpr c14
              subst c14
              have H1 : (none) = some r := by rw [if_neg (show ¬ (false = true) by decide)] at H; exact H
              clear H
              have H := H1
              clear H1
              exact absurd H (by simp)
          · rw [if_neg c12] at H
            exact absurd H (by simp)
        · rw [if_neg c10] at H
          exact absurd H (by simp)
      · rw [if_neg c8] at H
        exact absurd H (by simp)
    · rw [if_neg c7] at H
      exact absurd H (by simp)
  · replace c5 := Bool.eq_false_iff.mpr c5
    subst c5
    have H1 : (none) = some r := by rw [if_neg (show ¬ (false = true) by decide)] at H; exact H
    clear H
    have H := H1
    clear H1
    exact absurd H (by simp)

/-! ### portagelaw5_Matches: function 13 -/
def portagelaw5_Matches.f (k : Nat) (a0 : ByteArray) (l1 : List (S72)) : Option (Bool) := (portagelaw0_LendTokens.f l1).bind fun bt211 => ((match_Tokens.f k a0).bind fun bt216 => ((portageref1_Tokens.f k a0).bind fun bt220 => ((match_Expand.f k bt211.1).bind fun bt224 => ((portageref1_Expand.f k l1).bind fun bt226 => ((portagelaw0_SameTokens.f k bt216.1 bt220.1).bind fun t228 => (if t228 = true then ((portagelaw0_Num.f bt216.2).bind fun t229 => (if t229 = bt220.2 then (if bt224.1.toList = bt226.1.toList then ((portagelaw0_Num.f bt224.2).bind fun t230 => (if t230 = bt226.2 then ((match_May.f k bt211.1).bind fun t231 => ((portageref1_TokensMay.f k l1).bind fun t232 => (if (t231 != t232) = true then (none) else ((portagelaw0_SpoilTokens.f k bt216.1).bind fun t233 => ((portagelaw0_KeptTokens.f k bt211.1 bt211.2 l1).bind fun t234 => (if t234 = true then ((portagelaw5_awake.f k).bind fun t235 => (some t235)) else (none))))))) else (none))) else (none)) else (none))) else (none)))))))
theorem portagelaw5_Matches.mono : ∀ a0 a1 k, LeO (portagelaw5_Matches.f k a0 a1) (portagelaw5_Matches.f (k + 1) a0 a1) := by
  intro a0 a1 k
  unfold portagelaw5_Matches.f
  repeat' first
      | (with_reducible exact match_Expand.mono _ _)
      | (with_reducible exact match_May.mono _ _)
      | (with_reducible exact match_Tokens.mono _ _)
      | (with_reducible exact portagelaw0_KeptTokens.mono _ _ _)
      | (with_reducible exact portagelaw0_SameTokens.mono _ _ _)
      | (with_reducible exact portagelaw0_SpoilTokens.mono _ _)
      | (with_reducible exact portagelaw5_awake.mono _)
      | (with_reducible exact portageref1_Expand.mono _ _)
      | (with_reducible exact portageref1_Tokens.mono _ _)
      | (with_reducible exact portageref1_TokensMay.mono _ _)
      | (with_reducible exact LeO.refl _)
      | (with_reducible exact LeO.none _)
      | (with_reducible refine LeO.ite ?_ ?_)
      | (with_reducible refine LeO.bind ?_ (fun _ => ?_))
      | exact match_Expand.mono _ _
      | exact match_May.mono _ _
      | exact match_Tokens.mono _ _
      | exact portagelaw0_KeptTokens.mono _ _ _
      | exact portagelaw0_SameTokens.mono _ _ _
      | exact portagelaw0_SpoilTokens.mono _ _
      | exact portagelaw5_awake.mono _
      | exact portageref1_Expand.mono _ _
      | exact portageref1_Tokens.mono _ _
      | exact portageref1_TokensMay.mono _ _
      | exact LeO.none _
      | refine LeO.ite ?_ ?_
      | refine LeO.bind ?_ (fun _ => ?_)
set_option maxHeartbeats 8000000 in
set_option maxRecDepth 100000 in
theorem portagelaw5_Matches.calls (k : Nat) (a0 : ByteArray) (A1 : Option Addr) (c1 : Nat) (l1 : List (S72)) (r : Bool) (w : World) (hr1 : Kd.C k72 w A1 l1.length l1) (hc1 : l1.length ≤ c1) (h : portagelaw5_Matches.f k a0 l1 = some r) :
    Calls Try.prog 13 #[.string a0, .slice A1 l1.length c1] w fun e w' => e = .returned (.bool r) ∧ Below w.heap.size w w' := by
  have HR1 := Aside0.mk hr1
  have HC1 := Aside0.mk hc1
  clear hr1 hc1
  have HB := Aside0.mk (Below.refl w.heap.size w)
  have H : ((portagelaw0_LendTokens.f l1).bind fun bt211 => ((match_Tokens.f k a0).bind fun bt216 => ((portageref1_Tokens.f k a0).bind fun bt220 => ((match_Expand.f k bt211.1).bind fun bt224 => ((portageref1_Expand.f k l1).bind fun bt226 => ((portagelaw0_SameTokens.f k bt216.1 bt220.1).bind fun t228 => (if t228 = true then ((portagelaw0_Num.f bt216.2).bind fun t229 => (if t229 = bt220.2 then (if bt224.1.toList = bt226.1.toList then ((portagelaw0_Num.f bt224.2).bind fun t230 => (if t230 = bt226.2 then ((match_May.f k bt211.1).bind fun t231 => ((portageref1_TokensMay.f k l1).bind fun t232 => (if (t231 != t232) = true then (none) else ((portagelaw0_SpoilTokens.f k bt216.1).bind fun t233 => ((portagelaw0_KeptTokens.f k bt211.1 bt211.2 l1).bind fun t234 => (if t234 = true then ((portagelaw5_awake.f k).bind fun t235 => (some t235)) else (none))))))) else (none))) else (none)) else (none))) else (none)))))))) = some r := h
  clear h
  replace H := Option.bind_eq_some_iff.mp H
  obtain ⟨⟨t211, t213⟩, A30, H⟩ := H
  replace H : ((match_Tokens.f k a0).bind fun bt216 => ((portageref1_Tokens.f k a0).bind fun bt220 => ((match_Expand.f k t211).bind fun bt224 => ((portageref1_Expand.f k l1).bind fun bt226 => ((portagelaw0_SameTokens.f k bt216.1 bt220.1).bind fun t228 => (if t228 = true then ((portagelaw0_Num.f bt216.2).bind fun t229 => (if t229 = bt220.2 then (if bt224.1.toList = bt226.1.toList then ((portagelaw0_Num.f bt224.2).bind fun t230 => (if t230 = bt226.2 then ((match_May.f k t211).bind fun t231 => ((portageref1_TokensMay.f k l1).bind fun t232 => (if (t231 != t232) = true then (none) else ((portagelaw0_SpoilTokens.f k bt216.1).bind fun t233 => ((portagelaw0_KeptTokens.f k t211 t213 l1).bind fun t234 => (if t234 = true then ((portagelaw5_awake.f k).bind fun t235 => (some t235)) else (none))))))) else (none))) else (none)) else (none))) else (none))))))) = some r := H
  have A3 := Aside0.mk A30
  clear A30
  replace H := Option.bind_eq_some_iff.mp H
  obtain ⟨⟨t216, t217⟩, A40, H⟩ := H
  replace H : ((portageref1_Tokens.f k a0).bind fun bt220 => ((match_Expand.f k t211).bind fun bt224 => ((portageref1_Expand.f k l1).bind fun bt226 => ((portagelaw0_SameTokens.f k t216 bt220.1).bind fun t228 => (if t228 = true then ((portagelaw0_Num.f t217).bind fun t229 => (if t229 = bt220.2 then (if bt224.1.toList = bt226.1.toList then ((portagelaw0_Num.f bt224.2).bind fun t230 => (if t230 = bt226.2 then ((match_May.f k t211).bind fun t231 => ((portageref1_TokensMay.f k l1).bind fun t232 => (if (t231 != t232) = true then (none) else ((portagelaw0_SpoilTokens.f k t216).bind fun t233 => ((portagelaw0_KeptTokens.f k t211 t213 l1).bind fun t234 => (if t234 = true then ((portagelaw5_awake.f k).bind fun t235 => (some t235)) else (none))))))) else (none))) else (none)) else (none))) else (none)))))) = some r := H
  have A4 := Aside0.mk A40
  clear A40
  replace H := Option.bind_eq_some_iff.mp H
  obtain ⟨⟨t220, t221⟩, A50, H⟩ := H
  replace H : ((match_Expand.f k t211).bind fun bt224 => ((portageref1_Expand.f k l1).bind fun bt226 => ((portagelaw0_SameTokens.f k t216 t220).bind fun t228 => (if t228 = true then ((portagelaw0_Num.f t217).bind fun t229 => (if t229 = t221 then (if bt224.1.toList = bt226.1.toList then ((portagelaw0_Num.f bt224.2).bind fun t230 => (if t230 = bt226.2 then ((match_May.f k t211).bind fun t231 => ((portageref1_TokensMay.f k l1).bind fun t232 => (if (t231 != t232) = true then (none) else ((portagelaw0_SpoilTokens.f k t216).bind fun t233 => ((portagelaw0_KeptTokens.f k t211 t213 l1).bind fun t234 => (if t234 = true then ((portagelaw5_awake.f k).bind fun t235 => (some t235)) else (none))))))) else (none))) else (none)) else (none))) else (none))))) = some r := H
  have A5 := Aside0.mk A50
  clear A50
  replace H := Option.bind_eq_some_iff.mp H
  obtain ⟨⟨t224, t225⟩, A60, H⟩ := H
  replace H : ((portageref1_Expand.f k l1).bind fun bt226 => ((portagelaw0_SameTokens.f k t216 t220).bind fun t228 => (if t228 = true then ((portagelaw0_Num.f t217).bind fun t229 => (if t229 = t221 then (if t224.toList = bt226.1.toList then ((portagelaw0_Num.f t225).bind fun t230 => (if t230 = bt226.2 then ((match_May.f k t211).bind fun t231 => ((portageref1_TokensMay.f k l1).bind fun t232 => (if (t231 != t232) = true then (none) else ((portagelaw0_SpoilTokens.f k t216).bind fun t233 => ((portagelaw0_KeptTokens.f k t211 t213 l1).bind fun t234 => (if t234 = true then ((portagelaw5_awake.f k).bind fun t235 => (some t235)) else (none))))))) else (none))) else (none)) else (none))) else (none)))) = some r := H
  have A6 := Aside0.mk A60
  clear A60
  replace H := Option.bind_eq_some_iff.mp H
  obtain ⟨⟨t226, t227⟩, A70, H⟩ := H
  replace H : ((portagelaw0_SameTokens.f k t216 t220).bind fun t228 => (if t228 = true then ((portagelaw0_Num.f t217).bind fun t229 => (if t229 = t221 then (if t224.toList = t226.toList then ((portagelaw0_Num.f t225).bind fun t230 => (if t230 = t227 then ((match_May.f k t211).bind fun t231 => ((portageref1_TokensMay.f k l1).bind fun t232 => (if (t231 != t232) = true then (none) else ((portagelaw0_SpoilTokens.f k t216).bind fun t233 => ((portagelaw0_KeptTokens.f k t211 t213 l1).bind fun t234 => (if t234 = true then ((portagelaw5_awake.f k).bind fun t235 => (some t235)) else (none))))))) else (none))) else (none)) else (none))) else (none))) = some r := H
  have A7 := Aside0.mk A70
  clear A70
  replace H := Option.bind_eq_some_iff.mp H
  obtain ⟨t228, A80, H⟩ := H
  replace H : (if t228 = true then ((portagelaw0_Num.f t217).bind fun t229 => (if t229 = t221 then (if t224.toList = t226.toList then ((portagelaw0_Num.f t225).bind fun t230 => (if t230 = t227 then ((match_May.f k t211).bind fun t231 => ((portageref1_TokensMay.f k l1).bind fun t232 => (if (t231 != t232) = true then (none) else ((portagelaw0_SpoilTokens.f k t216).bind fun t233 => ((portagelaw0_KeptTokens.f k t211 t213 l1).bind fun t234 => (if t234 = true then ((portagelaw5_awake.f k).bind fun t235 => (some t235)) else (none))))))) else (none))) else (none)) else (none))) else (none)) = some r := H
  have A8 := Aside0.mk A80
  clear A80
  by_cases c9 : t228 = true
  · subst c9
    have H1 : ((portagelaw0_Num.f t217).bind fun t229 => (if t229 = t221 then (if t224.toList = t226.toList then ((portagelaw0_Num.f t225).bind fun t230 => (if t230 = t227 then ((match_May.f k t211).bind fun t231 => ((portageref1_TokensMay.f k l1).bind fun t232 => (if (t231 != t232) = true then (none) else ((portagelaw0_SpoilTokens.f k t216).bind fun t233 => ((portagelaw0_KeptTokens.f k t211 t213 l1).bind fun t234 => (if t234 = true then ((portagelaw5_awake.f k).bind fun t235 => (some t235)) else (none))))))) else (none))) else (none)) else (none))) = some r := by rw [if_pos rfl] at H; exact H
    clear H
    have H := H1
    clear H1
    replace H := Option.bind_eq_some_iff.mp H
    obtain ⟨t229, A100, H⟩ := H
    replace H : (if t229 = t221 then (if t224.toList = t226.toList then ((portagelaw0_Num.f t225).bind fun t230 => (if t230 = t227 then ((match_May.f k t211).bind fun t231 => ((portageref1_TokensMay.f k l1).bind fun t232 => (if (t231 != t232) = true then (none) else ((portagelaw0_SpoilTokens.f k t216).bind fun t233 => ((portagelaw0_KeptTokens.f k t211 t213 l1).bind fun t234 => (if t234 = true then ((portagelaw5_awake.f k).bind fun t235 => (some t235)) else (none))))))) else (none))) else (none)) else (none)) = some r := H
    have A10 := Aside0.mk A100
    clear A100
    by_cases c11 : t229 = t221
    · rw [if_pos c11] at H
      have c11b0 : (t229 == t221) = true := beq_iff_eq.mpr c11
      have c11b1 : (t229 != t221) = false := bne_eq_false_iff_eq.mpr c11
      clear c11
      by_cases c12 : t224.toList = t226.toList
      · rw [if_pos c12] at H
        have c12b0 : (t224.toList == t226.toList) = true := beq_iff_eq.mpr c12
        have c12b1 : (t224.toList != t226.toList) = false := bne_eq_false_iff_eq.mpr c12
        clear c12
        replace H := Option.bind_eq_some_iff.mp H
        obtain ⟨t230, A130, H⟩ := H
        replace H : (if t230 = t227 then ((match_May.f k t211).bind fun t231 => ((portageref1_TokensMay.f k l1).bind fun t232 => (if (t231 != t232) = true then (none) else ((portagelaw0_SpoilTokens.f k t216).bind fun t233 => ((portagelaw0_KeptTokens.f k t211 t213 l1).bind fun t234 => (if t234 = true then ((portagelaw5_awake.f k).bind fun t235 => (some t235)) else (none))))))) else (none)) = some r := H
        have A13 := Aside0.mk A130
        clear A130
        by_cases c14 : t230 = t227
        · rw [if_pos c14] at H
          have c14b0 : (t230 == t227) = true := beq_iff_eq.mpr c14
          have c14b1 : (t230 != t227) = false := bne_eq_false_iff_eq.mpr c14
          clear c14
          replace H := Option.bind_eq_some_iff.mp H
          obtain ⟨t231, A150, H⟩ := H
          replace H : ((portageref1_TokensMay.f k l1).bind fun t232 => (if (t231 != t232) = true then (none) else ((portagelaw0_SpoilTokens.f k t216).bind fun t233 => ((portagelaw0_KeptTokens.f k t211 t213 l1).bind fun t234 => (if t234 = true then ((portagelaw5_awake.f k).bind fun t235 => (some t235)) else (none)))))) = some r := H
          have A15 := Aside0.mk A150
          clear A150
          replace H := Option.bind_eq_some_iff.mp H
          obtain ⟨t232, A160, H⟩ := H
          replace H : (if (t231 != t232) = true then (none) else ((portagelaw0_SpoilTokens.f k t216).bind fun t233 => ((portagelaw0_KeptTokens.f k t211 t213 l1).bind fun t234 => (if t234 = true then ((portagelaw5_awake.f k).bind fun t235 => (some t235)) else (none))))) = some r := H
          have A16 := Aside0.mk A160
          clear A160
          by_cases c17 : (t231 != t232) = true
          · rw [if_pos c17] at H
            exact absurd H (by simp)
          · rw [if_neg c17] at H
            have c17b0 : (t231 != t232) = false := by simpa using c17
            (try (have c17b1 : decide (t231 = t232) = true := by simpa using c17))
            (try (have c17b2 : (t231 == t232) = true := by simpa using c17))
            clear c17
            replace H := Option.bind_eq_some_iff.mp H
            obtain ⟨t233, A180, H⟩ := H
            replace H : ((portagelaw0_KeptTokens.f k t211 t213 l1).bind fun t234 => (if t234 = true then ((portagelaw5_awake.f k).bind fun t235 => (some t235)) else (none))) = some r := H
            have A18 := Aside0.mk A180
            clear A180
            replace H := Option.bind_eq_some_iff.mp H
            obtain ⟨t234, A190, H⟩ := H
            replace H : (if t234 = true then ((portagelaw5_awake.f k).bind fun t235 => (some t235)) else (none)) = some r := H
            have A19 := Aside0.mk A190
            clear A190
            by_cases c20 : t234 = true
            · subst c20
              have H1 : ((portagelaw5_awake.f k).bind fun t235 => (some t235)) = some r := by rw [if_pos rfl] at H; exact H
              clear H
              have H := H1
              clear H1
              replace H := Option.bind_eq_some_iff.mp H
              obtain ⟨t235, A210, H⟩ := H
              replace H : (some t235) = some r := H
              have A21 := Aside0.mk A210
              clear A210
              obtain rfl := Option.some.inj H
              go_enter Try.func13, Try.ntmps13
              go_wp2_with (first | (go_at_call 49; (with_reducible refine (portagelaw0_LendTokens.calls _ _ l1 t211 t213 _ ?side1 ?side2 A3.out).mono ?_); (case side1 => repeat (first | exact HR1.out | (with_reducible refine Kd.C_alloc ?_ _) | (with_reducible refine Kd.C_drewN ?_ _) | (with_reducible refine Kd.C_drew ?_))); (case side2 => exact HC1.out); rintro e w22 ⟨Al215, cl215, rfl, ho0, hb⟩; have n0_ := Aside0.mk (Kd.R_lower ho0 (below_size (by repeat (first | (with_reducible first | exact HB.out | apply below_alloc | apply pw_below_drewN | apply below_drew1) | exact HB.out)))); have n1_ := Aside0.mk (below_step (by repeat (first | (with_reducible first | exact HB.out | apply below_alloc | apply pw_below_drewN | apply below_drew1) | exact HB.out)) hb); clear HB; have HO214 := n0_; have HB := n1_; clear n0_ n1_; (try clear hb); (try clear hb2); (try clear hk); (try clear hi); (try clear ho0); have Nt211 := Aside0.mk (portagelaw0_LendTokens.cut A3.out).1; have KL215 := Aside0.mk (portagelaw0_LendTokens.cut A3.out).2; have HR212 := Aside0.mk (show Kd.C k72 w22 Al215 t211.length t211 from by rw [Nt211.out]; exact Kd.C_take (m := t211.length) (Kd.R_reads' HO214.out).2.2 KL215.out); have HC212 := Aside0.mk (show t211.length ≤ cl215 from Nat.le_trans KL215.out (Kd.R_reads' HO214.out).2.1)) | ((with_reducible refine gate_callee (f := 50) rfl ?_); refine goesL_ (some 18) rfl rfl Try.func50 (by kernel_rfl) rfl #[.string a0] rfl (by (try simp only [List.map_toArray, List.map_cons, List.map_nil]); first | done | rfl | (simp only [List.length_drop, List.length_take]; rfl)) ?_; (with_reducible refine (match_Tokens.calls k a0 t216 t217 _ A4.out).mono ?_); rintro e w23 ⟨v218, rfl, ho0, hb⟩; refine ⟨_, rfl, ?_⟩; have n0_ := Aside0.mk (Kd.R_elder' (by (with_reducible repeat (first | apply Kd.R_alloc | apply Kd.R_drewN | apply Kd.R_drew)); exact HO214.out) (Kd.R_base ho0) hb); have n1_ := Aside0.mk (Kd.R_lower (Kd.R_new' ho0 (Kd.R_lt (by (with_reducible repeat (first | apply Kd.R_alloc | apply Kd.R_drewN | apply Kd.R_drew)); exact HO214.out))) (below_size (by repeat (first | (with_reducible first | exact HB.out | apply below_alloc | apply pw_below_drewN | apply below_drew1) | exact HB.out)))); have n2_ := Aside0.mk (Kd.C_below (by repeat (first | (with_reducible exact HR212.out) | (with_reducible refine Kd.C_alloc ?_ _) | (with_reducible refine Kd.C_drewN ?_ _) | (with_reducible refine Kd.C_drew ?_) | exact HR212.out)) hb); have n3_ := Aside0.mk (below_step (by repeat (first | (with_reducible first | exact HB.out | apply below_alloc | apply pw_below_drewN | apply below_drew1) | exact HB.out)) hb); clear HO214; clear HR212; clear HB; have HO214 := n0_; have HO219 := n1_; have HR212 := n2_; have HB := n3_; clear n0_ n1_ n2_ n3_; (try clear hb); (try clear hb2); (try clear hk); (try clear hi); (try clear ho0)) | ((with_reducible refine gate_callee (f := 51) rfl ?_); refine goesL_ (some 23) rfl rfl Try.func51 (by kernel_rfl) rfl #[.string a0] rfl (by (try simp only [List.map_toArray, List.map_cons, List.map_nil]); first | done | rfl | (simp only [List.length_drop, List.length_take]; rfl)) ?_; (with_reducible refine (portageref1_Tokens.calls k a0 t220 t221 _ A5.out).mono ?_); rintro e w24 ⟨v222, rfl, ho0, hb⟩; refine ⟨_, rfl, ?_⟩; have n0_ := Aside0.mk (Kd.R_elder' (by (with_reducible repeat (first | apply Kd.R_alloc | apply Kd.R_drewN | apply Kd.R_drew)); exact HO214.out) (Kd.R_base ho0) hb); have n1_ := Aside0.mk (Kd.R_elder' (by (with_reducible repeat (first | apply Kd.R_alloc | apply Kd.R_drewN | apply Kd.R_drew)); exact HO219.out) (Kd.R_base ho0) hb); have n2_ := Aside0.mk (Kd.R_lower (Kd.R_new' (Kd.R_new' ho0 (Kd.R_lt (by (with_reducible repeat (first | apply Kd.R_alloc | apply Kd.R_drewN | apply Kd.R_drew)); exact HO214.out))) (Kd.R_lt (by (with_reducible repeat (first | apply Kd.R_alloc | apply Kd.R_drewN | apply Kd.R_drew)); exact HO219.out))) (below_size (by repeat (first | (with_reducible first | exact HB.out | apply below_alloc | apply pw_below_drewN | apply below_drew1) | exact HB.out)))); have n3_ := Aside0.mk (Kd.C_below (by repeat (first | (with_reducible exact HR212.out) | (with_reducible refine Kd.C_alloc ?_ _) | (with_reducible refine Kd.C_drewN ?_ _) | (with_reducible refine Kd.C_drew ?_) | exact HR212.out)) hb); have n4_ := Aside0.mk (below_step (by repeat (first | (with_reducible first | exact HB.out | apply below_alloc | apply pw_below_drewN | apply below_drew1) | exact HB.out)) hb); clear HO214; clear HO219; clear HR212; clear HB; have HO214 := n0_; have HO219 := n1_; have HO223 := n2_; have HR212 := n3_; have HB := n4_; clear n0_ n1_ n2_ n3_ n4_; (try clear hb); (try clear hb2); (try clear hk); (try clear hi); (try clear ho0)) | ((with_reducible refine gate_callee (f := 52) rfl ?_); refine goesL_ (some 28) rfl rfl Try.func52 (by kernel_rfl) rfl #[.slice Al215 t211.length cl215] rfl (by (try simp only [List.map_toArray, List.map_cons, List.map_nil]); first | done | rfl | (simp only [List.length_drop, List.length_take]; rfl)) ?_; (with_reducible refine (match_Expand.calls k _ _ t211 t224 t225 _ ?side1 ?side2 A6.out).mono ?_); (case side1 => repeat (first | exact (by repeat (first | (with_reducible exact HR212.out) | (with_reducible refine Kd.C_alloc ?_ _) | (with_reducible refine Kd.C_drewN ?_ _) | (with_reducible refine Kd.C_drew ?_) | exact HR212.out)) | (with_reducible refine Kd.C_alloc ?_ _) | (with_reducible refine Kd.C_drewN ?_ _) | (with_reducible refine Kd.C_drew ?_))); (case side2 => exact HC212.out); rintro e w25 ⟨rfl, hb⟩; refine ⟨_, rfl, ?_⟩; have n0_ := Aside0.mk (Kd.R_below (by (with_reducible repeat (first | apply Kd.R_alloc | apply Kd.R_drewN | apply Kd.R_drew)); exact HO214.out) hb); have n1_ := Aside0.mk (Kd.R_below (by (with_reducible repeat (first | apply Kd.R_alloc | apply Kd.R_drewN | apply Kd.R_drew)); exact HO219.out) hb); have n2_ := Aside0.mk (Kd.R_below (by (with_reducible repeat (first | apply Kd.R_alloc | apply Kd.R_drewN | apply Kd.R_drew)); exact HO223.out) hb); have n3_ := Aside0.mk (Kd.C_below (by repeat (first | (with_reducible exact HR212.out) | (with_reducible refine Kd.C_alloc ?_ _) | (with_reducible refine Kd.C_drewN ?_ _) | (with_reducible refine Kd.C_drew ?_) | exact HR212.out)) hb); have n4_ := Aside0.mk (below_step (by repeat (first | (with_reducible first | exact HB.out | apply below_alloc | apply pw_below_drewN | apply below_drew1) | exact HB.out)) hb); clear HO214; clear HO219; clear HO223; clear HR212; clear HB; have HO214 := n0_; have HO219 := n1_; have HO223 := n2_; have HR212 := n3_; have HB := n4_; clear n0_ n1_ n2_ n3_ n4_; (try clear hb); (try clear hb2); (try clear hk); (try clear hi)) | ((with_reducible refine gate_callee (f := 53) rfl ?_); refine goesL_ (some 33) rfl rfl Try.func53 (by kernel_rfl) rfl #[.slice A1 l1.length c1] rfl (by (try simp only [List.map_toArray, List.map_cons, List.map_nil]); first | done | rfl | (simp only [List.length_drop, List.length_take]; rfl)) ?_; (with_reducible refine (portageref1_Expand.calls k _ _ l1 t226 t227 _ ?side1 ?side2 A7.out).mono ?_); (case side1 => repeat (first | exact (Kd.C_below HR1.out HB.out) | (with_reducible refine Kd.C_alloc ?_ _) | (with_reducible refine Kd.C_drewN ?_ _) | (with_reducible refine Kd.C_drew ?_))); (case side2 => exact HC1.out); rintro e w26 ⟨rfl, hb⟩; refine ⟨_, rfl, ?_⟩; have n0_ := Aside0.mk (Kd.R_below (by (with_reducible repeat (first | apply Kd.R_alloc | apply Kd.R_drewN | apply Kd.R_drew)); exact HO214.out) hb); have n1_ := Aside0.mk (Kd.R_below (by (with_reducible repeat (first | apply Kd.R_alloc | apply Kd.R_drewN | apply Kd.R_drew)); exact HO219.out) hb); have n2_ := Aside0.mk (Kd.R_below (by (with_reducible repeat (first | apply Kd.R_alloc | apply Kd.R_drewN | apply Kd.R_drew)); exact HO223.out) hb); have n3_ := Aside0.mk (Kd.C_below (by repeat (first | (with_reducible exact HR212.out) | (with_reducible refine Kd.C_alloc ?_ _) | (with_reducible refine Kd.C_drewN ?_ _) | (with_reducible refine Kd.C_drew ?_) | exact HR212.out)) hb); have n4_ := Aside0.mk (below_step (by repeat (first | (with_reducible first | exact HB.out | apply below_alloc | apply pw_below_drewN | apply below_drew1) | exact HB.out)) hb); clear HO214; clear HO219; clear HO223; clear HR212; clear HB; have HO214 := n0_; have HO219 := n1_; have HO223 := n2_; have HR212 := n3_; have HB := n4_; clear n0_ n1_ n2_ n3_ n4_; (try clear hb); (try clear hb2); (try clear hk); (try clear hi); obtain ⟨Ao27, co27, eo27⟩ := Kd.R_slice HO219.out; subst eo27; obtain ⟨Ao28, co28, eo28⟩ := Kd.R_slice HO223.out; subst eo28) | ((with_reducible refine gate_callee (f := 54) rfl ?_); refine goesL_ (some 38) rfl rfl Try.func54 (by kernel_rfl) rfl #[.slice Ao27 t216.length co27, .slice Ao28 t220.length co28] rfl (by (try simp only [List.map_toArray, List.map_cons, List.map_nil]); first | done | rfl | (simp only [List.length_drop, List.length_take]; rfl)) ?_; (with_reducible refine (portagelaw0_SameTokens.calls k _ _ t216 _ _ t220 true _ ?side1 ?side2 ?side3 ?side4 A8.out).mono ?_); (case side1 => repeat (first | exact (Kd.R_reads' HO219.out).2.2 | (with_reducible refine Kd.C_alloc ?_ _) | (with_reducible refine Kd.C_drewN ?_ _) | (with_reducible refine Kd.C_drew ?_))); (case side2 => exact (Kd.R_reads' HO219.out).2.1); (case side3 => repeat (first | exact (Kd.R_reads' HO223.out).2.2 | (with_reducible refine Kd.C_alloc ?_ _) | (with_reducible refine Kd.C_drewN ?_ _) | (with_reducible refine Kd.C_drew ?_))); (case side4 => exact (Kd.R_reads' HO223.out).2.1); rintro e w' ⟨rfl, ⟨nd, rfl⟩⟩; refine ⟨_, rfl, ?_⟩) | (go_at_call 34; (with_reducible refine (portagelaw0_Num.calls t217 t229 _ A10.out).mono ?_); rintro e w' ⟨rfl, ⟨nd, rfl⟩⟩) | (go_at_call 34; (with_reducible refine (portagelaw0_Num.calls t225 t230 _ A13.out).mono ?_); rintro e w' ⟨rfl, ⟨nd, rfl⟩⟩) | (go_at_call 55; (with_reducible refine (match_May.calls k _ _ t211 t231 _ ?side1 ?side2 A15.out).mono ?_); (case side1 => repeat (first | exact (by repeat (first | (with_reducible exact HR212.out) | (with_reducible refine Kd.C_alloc ?_ _) | (with_reducible refine Kd.C_drewN ?_ _) | (with_reducible refine Kd.C_drew ?_) | exact HR212.out)) | (with_reducible refine Kd.C_alloc ?_ _) | (with_reducible refine Kd.C_drewN ?_ _) | (with_reducible refine Kd.C_drew ?_))); (case side2 => exact HC212.out); rintro e w29 ⟨rfl, hb⟩; have n0_ := Aside0.mk (Kd.R_below (by (with_reducible repeat (first | apply Kd.R_alloc | apply Kd.R_drewN | apply Kd.R_drew)); exact HO214.out) hb); have n1_ := Aside0.mk (Kd.R_below (by (with_reducible repeat (first | apply Kd.R_alloc | apply Kd.R_drewN | apply Kd.R_drew)); exact HO219.out) hb); have n2_ := Aside0.mk (Kd.R_below (by (with_reducible repeat (first | apply Kd.R_alloc | apply Kd.R_drewN | apply Kd.R_drew)); exact HO223.out) hb); have n3_ := Aside0.mk (Kd.C_below (by repeat (first | (with_reducible exact HR212.out) | (with_reducible refine Kd.C_alloc ?_ _) | (with_reducible refine Kd.C_drewN ?_ _) | (with_reducible refine Kd.C_drew ?_) | exact HR212.out)) hb); have n4_ := Aside0.mk (below_step (by repeat (first | (with_reducible first | exact HB.out | apply below_alloc | apply pw_below_drewN | apply below_drew1) | exact HB.out)) hb); clear HO214; clear HO219; clear HO223; clear HR212; clear HB; have HO214 := n0_; have HO219 := n1_; have HO223 := n2_; have HR212 := n3_; have HB := n4_; clear n0_ n1_ n2_ n3_ n4_; (try clear hb); (try clear hb2); (try clear hk); (try clear hi)) | (go_at_call 56; (with_reducible refine (portageref1_TokensMay.calls k _ _ l1 t232 _ ?side1 ?side2 A16.out).mono ?_); (case side1 => repeat (first | exact (Kd.C_below HR1.out HB.out) | (with_reducible refine Kd.C_alloc ?_ _) | (with_reducible refine Kd.C_drewN ?_ _) | (with_reducible refine Kd.C_drew ?_))); (case side2 => exact HC1.out); rintro e w30 ⟨rfl, hb⟩; have n0_ := Aside0.mk (Kd.R_below (by (with_reducible repeat (first | apply Kd.R_alloc | apply Kd.R_drewN | apply Kd.R_drew)); exact HO214.out) hb); have n1_ := Aside0.mk (Kd.R_below (by (with_reducible repeat (first | apply Kd.R_alloc | apply Kd.R_drewN | apply Kd.R_drew)); exact HO219.out) hb); have n2_ := Aside0.mk (Kd.R_below (by (with_reducible repeat (first | apply Kd.R_alloc | apply Kd.R_drewN | apply Kd.R_drew)); exact HO223.out) hb); have n3_ := Aside0.mk (Kd.C_below (by repeat (first | (with_reducible exact HR212.out) | (with_reducible refine Kd.C_alloc ?_ _) | (with_reducible refine Kd.C_drewN ?_ _) | (with_reducible refine Kd.C_drew ?_) | exact HR212.out)) hb); have n4_ := Aside0.mk (below_step (by repeat (first | (with_reducible first | exact HB.out | apply below_alloc | apply pw_below_drewN | apply below_drew1) | exact HB.out)) hb); clear HO214; clear HO219; clear HO223; clear HR212; clear HB; have HO214 := n0_; have HO219 := n1_; have HO223 := n2_; have HR212 := n3_; have HB := n4_; clear n0_ n1_ n2_ n3_ n4_; (try clear hb); (try clear hb2); (try clear hk); (try clear hi)) | ((with_reducible refine gate_callee (f := 57) rfl ?_); refine goesL_ (some 65) rfl rfl Try.func57 (by kernel_rfl) rfl #[.slice Ao27 t216.length co27] rfl (by (try simp only [List.map_toArray, List.map_cons, List.map_nil]); first | done | rfl | (simp only [List.length_drop, List.length_take]; rfl)) ?_; (with_reducible refine (portagelaw0_SpoilTokens.calls k (fun k_ => some k_ = (.slice Ao27 t216.length co27 : Value).ownBlock) (.slice Ao27 t216.length co27) t216 t233 w _ ?side1 ?side2 A18.out).mono ?_); (case side1 => repeat (first | (with_reducible first | exact HB.out | apply below_alloc | apply pw_below_drewN | apply below_drew1) | exact HB.out)); (case side2 => exact Kd.R_tight rfl HO219.out); rintro e w31 ⟨rfl, hy0, hb, hkp⟩; refine ⟨_, rfl, ?_⟩; have n0_ := Aside0.mk (Kd.R_mono (ok' := fun k_ => some k_ ≠ (.slice Ao27 t216.length co27 : Value).ownBlock ∧ some k_ ≠ (.slice Ao28 t220.length co28 : Value).ownBlock) (Kd.R_keptB (HO214.out) hkp (fun k_ hk_ hs_ => (hk_.1.2) hs_)) (fun k_ hk_ => ⟨hk_.1.1.2, hk_.1.2⟩)); have n1_ := Aside0.mk (Kd.R_reok rfl hy0 (fun k_ e_ => HO219.out.1 k_ e_)); have n2_ := Aside0.mk (Kd.R_mono (ok' := fun k_ => some k_ ≠ (.slice Al215 t213.length cl215 : Value).ownBlock ∧ some k_ ≠ (.slice Ao27 t216.length co27 : Value).ownBlock) (Kd.R_keptB (HO223.out) hkp (fun k_ hk_ hs_ => (hk_.2) hs_)) (fun k_ hk_ => ⟨hk_.1.1.2, hk_.1.2⟩)); have n3_ := Aside0.mk ((show Kd.C k72 w31 Al215 t211.length t211 from by rw [Nt211.out]; exact Kd.C_take (m := t211.length) ((Kd.R_reads' (Kd.R_mono (ok' := fun k_ => some k_ ≠ (.slice Ao27 t216.length co27 : Value).ownBlock ∧ some k_ ≠ (.slice Ao28 t220.length co28 : Value).ownBlock) (Kd.R_keptB (HO214.out) hkp (fun k_ hk_ hs_ => (hk_.1.2) hs_)) (fun k_ hk_ => ⟨hk_.1.1.2, hk_.1.2⟩))).2.2) KL215.out)); have n4_ := Aside0.mk (hb); clear HO214; clear HO219; clear HO223; clear HR212; clear HB; have HO214 := n0_; have HO219 := n1_; have HO223 := n2_; have HR212 := n3_; have HB := n4_; clear n0_ n1_ n2_ n3_ n4_; (try clear hb); (try clear hkp); (try clear hy0)) | ((with_reducible refine gate_callee (f := 58) rfl ?_); refine goesL_ (some 68) rfl rfl Try.func58 (by kernel_rfl) rfl #[.slice Al215 t211.length cl215, .slice A1 l1.length c1] rfl (by (try simp only [List.map_toArray, List.map_cons, List.map_nil]); first | done | rfl | (simp only [List.length_drop, List.length_take]; rfl)) ?_; (with_reducible refine (portagelaw0_KeptTokens.calls k _ _ t211 t213 _ _ l1 true _ ?side1 ?side2 ?side3 ?side4 ?side5 ?side6 A19.out).mono ?_); (case side1 => repeat (first | exact (by repeat (first | (with_reducible exact HR212.out) | (with_reducible refine Kd.C_alloc ?_ _) | (with_reducible refine Kd.C_drewN ?_ _) | (with_reducible refine Kd.C_drew ?_) | exact HR212.out)) | (with_reducible refine Kd.C_alloc ?_ _) | (with_reducible refine Kd.C_drewN ?_ _) | (with_reducible refine Kd.C_drew ?_))); (case side2 => exact HC212.out); (case side3 => exact (Kd.R_reads' (by (with_reducible repeat (first | apply Kd.R_alloc | apply Kd.R_drewN | apply Kd.R_drew)); exact HO214.out)).2.2); (case side4 => exact (Kd.R_reads' HO214.out).2.1); (case side5 => repeat (first | exact (Kd.C_below HR1.out HB.out) | (with_reducible refine Kd.C_alloc ?_ _) | (with_reducible refine Kd.C_drewN ?_ _) | (with_reducible refine Kd.C_drew ?_))); (case side6 => exact HC1.out); rintro e w' ⟨rfl, ⟨nd, rfl⟩⟩; refine ⟨_, rfl, ?_⟩) | (go_at_call 59; (with_reducible refine (portagelaw5_awake.calls k  t235 _ A21.out).mono ?_); rintro e w32 ⟨rfl, hb⟩; have n0_ := Aside0.mk (Kd.R_below (by (with_reducible repeat (first | apply Kd.R_alloc | apply Kd.R_drewN | apply Kd.R_drew)); exact HO214.out) hb); have n1_ := Aside0.mk (Kd.R_below (by (with_reducible repeat (first | apply Kd.R_alloc | apply Kd.R_drewN | apply Kd.R_drew)); exact HO219.out) hb); have n2_ := Aside0.mk (Kd.R_below (by (with_reducible repeat (first | apply Kd.R_alloc | apply Kd.R_drewN | apply Kd.R_drew)); exact HO223.out) hb); have n3_ := Aside0.mk (Kd.C_below (by repeat (first | (with_reducible exact HR212.out) | (with_reducible refine Kd.C_alloc ?_ _) | (with_reducible refine Kd.C_drewN ?_ _) | (with_reducible refine Kd.C_drew ?_) | exact HR212.out)) hb); have n4_ := Aside0.mk (below_step (by repeat (first | (with_reducible first | exact HB.out | apply below_alloc | apply pw_below_drewN | apply below_drew1) | exact HB.out)) hb); clear HO214; clear HO219; clear HO223; clear HR212; clear HB; have HO214 := n0_; have HO219 := n1_; have HO223 := n2_; have HR212 := n3_; have HB := n4_; clear n0_ n1_ n2_ n3_ n4_; (try clear hb); (try clear hb2); (try clear hk); (try clear hi)))
              go_ret
              exact ⟨by first | rfl | (simp [errW_none, errW_some] <;> rfl) | (simp [*, errW_none, errW_some] <;> rfl), by repeat (first | (with_reducible first | exact HB.out | apply below_alloc | apply pw_below_drewN | apply below_drew1) | exact HB.out)⟩
            · replace c20 := Bool.eq_false_iff.mpr c20
              subst c20
              have H1 : (none) = some r := by rw [if_neg (show ¬ (false = true) by decide)] at H; exact H
              clear H
              have H := H1
              clear H1
              exact absurd H (by simp)
        · rw [if_neg c14] at H
          exact absurd H (by simp)
      · rw [if_neg c12] at H
        exact absurd H (by simp)
    · rw [if_neg c11] at H
      exact absurd H (by simp)
  · replace c9 := Bool.eq_false_iff.mpr c9
    subst c9
    have H1 : (none) = some r := by rw [if_neg (show ¬ (false = true) by decide)] at H; exact H
    clear H
    have H := H1
    clear H1
    exact absurd H (by simp)

end Go.Proofs.Ytnjbbfcknijcnaa.N
