-- Written by a program of this session out of the translation (a changed copy of the kit's printer).
import Derived.Test.YtnjbbfcknijcnaaM0
import Derived.Test.YtnjbbfcknijcnaaM2
import Derived.Test.YtnjbbfcknijcnaaM4
namespace Go.Proofs.Ytnjbbfcknijcnaa.M
open Go.RowKit Go.Proofs.YtnjbbfcknijcnaaW.PrintWords Go.Proofs.YtnjbbfcknijcnaaW.PrintLast Go.Proofs.YtnjbbfcknijcnaaW.PrintMore
attribute [local go_sem] max2_int min2_int max_two min_two max_three min_three max_four min_four   -- for this text's walks alone
set_option linter.unusedVariables false
set_option linter.unusedSimpArgs false

/-! ### portagelaw5_awake: function 59 -/
def portagelaw5_awake.f (k : Nat)  : Option (Bool) := (match_Tokens.f k (⟨#[97, 98, 99, 97, 98, 99, 97, 98, 99, 120, 97, 98]⟩ : ByteArray)).bind fun bt140 => ((match_Expand.f k bt140.1).bind fun bt144 => ((match_Expand.f k (([(⟨0, 3, 1⟩ : S72)] : List (S72)))).bind fun bt149 => ((portagelaw0_SameTokens.f k bt140.1 (([(⟨97, 0, 0⟩ : S72), (⟨98, 0, 0⟩ : S72), (⟨99, 0, 0⟩ : S72), (⟨0, 6, 3⟩ : S72), (⟨120, 0, 0⟩ : S72), (⟨97, 0, 0⟩ : S72), (⟨98, 0, 0⟩ : S72)] : List (S72)))).bind fun t154 => (if t154 = true then ((portagelaw0_Num.f bt140.2).bind fun t155 => (if t155 = 0 then (if bt144.1.toList = ([97, 98, 99, 97, 98, 99, 97, 98, 99, 120, 97, 98] : List UInt8) then ((portagelaw0_Num.f bt144.2).bind fun t156 => (if t156 = 0 then ((portagelaw0_Num.f bt149.2).bind fun t157 => (if t157 = 500 then ((match_May.f k bt140.1).bind fun t158 => (if t158 = true then ((match_May.f k (([(⟨256, 0, 0⟩ : S72)] : List (S72)))).bind fun t162 => (some (!t162))) else (none))) else (none))) else (none))) else (none)) else (none))) else (none)))))
theorem portagelaw5_awake.mono : ∀ k, LeO (portagelaw5_awake.f k ) (portagelaw5_awake.f (k + 1) ) := by
  intro  k
  unfold portagelaw5_awake.f
  repeat' first
      | (with_reducible exact match_Expand.mono _ _)
      | (with_reducible exact match_May.mono _ _)
      | (with_reducible exact match_Tokens.mono _ _)
      | (with_reducible exact portagelaw0_SameTokens.mono _ _ _)
      | (with_reducible exact LeO.refl _)
      | (with_reducible exact LeO.none _)
      | (with_reducible refine LeO.ite ?_ ?_)
      | (with_reducible refine LeO.bind ?_ (fun _ => ?_))
      | exact match_Expand.mono _ _
      | exact match_May.mono _ _
      | exact match_Tokens.mono _ _
      | exact portagelaw0_SameTokens.mono _ _ _
      | exact LeO.none _
      | refine LeO.ite ?_ ?_
      | refine LeO.bind ?_ (fun _ => ?_)
set_option maxHeartbeats 8000000 in
set_option maxRecDepth 100000 in
theorem portagelaw5_awake.calls (k : Nat)  (r : Bool) (w : World) (h : portagelaw5_awake.f k  = some r) :
    Calls Try.prog 59 #[] w fun e w' => e = .returned (.bool r) ∧ Below w.heap.size w w' := by
  have hu72 := Try.underlying72
  have HB := Aside0.mk (Below.refl w.heap.size w)
  have H : ((match_Tokens.f k (⟨#[97, 98, 99, 97, 98, 99, 97, 98, 99, 120, 97, 98]⟩ : ByteArray)).bind fun bt140 => ((match_Expand.f k bt140.1).bind fun bt144 => ((match_Expand.f k (([(⟨0, 3, 1⟩ : S72)] : List (S72)))).bind fun bt149 => ((portagelaw0_SameTokens.f k bt140.1 (([(⟨97, 0, 0⟩ : S72), (⟨98, 0, 0⟩ : S72), (⟨99, 0, 0⟩ : S72), (⟨0, 6, 3⟩ : S72), (⟨120, 0, 0⟩ : S72), (⟨97, 0, 0⟩ : S72), (⟨98, 0, 0⟩ : S72)] : List (S72)))).bind fun t154 => (if t154 = true then ((portagelaw0_Num.f bt140.2).bind fun t155 => (if t155 = 0 then (if bt144.1.toList = ([97, 98, 99, 97, 98, 99, 97, 98, 99, 120, 97, 98] : List UInt8) then ((portagelaw0_Num.f bt144.2).bind fun t156 => (if t156 = 0 then ((portagelaw0_Num.f bt149.2).bind fun t157 => (if t157 = 500 then ((match_May.f k bt140.1).bind fun t158 => (if t158 = true then ((match_May.f k (([(⟨256, 0, 0⟩ : S72)] : List (S72)))).bind fun t162 => (some (!t162))) else (none))) else (none))) else (none))) else (none)) else (none))) else (none)))))) = some r := h
  clear h
  replace H := Option.bind_eq_some_iff.mp H
  obtain ⟨⟨t140, t141⟩, A10, H⟩ := H
  replace H : ((match_Expand.f k t140).bind fun bt144 => ((match_Expand.f k (([(⟨0, 3, 1⟩ : S72)] : List (S72)))).bind fun bt149 => ((portagelaw0_SameTokens.f k t140 (([(⟨97, 0, 0⟩ : S72), (⟨98, 0, 0⟩ : S72), (⟨99, 0, 0⟩ : S72), (⟨0, 6, 3⟩ : S72), (⟨120, 0, 0⟩ : S72), (⟨97, 0, 0⟩ : S72), (⟨98, 0, 0⟩ : S72)] : List (S72)))).bind fun t154 => (if t154 = true then ((portagelaw0_Num.f t141).bind fun t155 => (if t155 = 0 then (if bt144.1.toList = ([97, 98, 99, 97, 98, 99, 97, 98, 99, 120, 97, 98] : List UInt8) then ((portagelaw0_Num.f bt144.2).bind fun t156 => (if t156 = 0 then ((portagelaw0_Num.f bt149.2).bind fun t157 => (if t157 = 500 then ((match_May.f k t140).bind fun t158 => (if t158 = true then ((match_May.f k (([(⟨256, 0, 0⟩ : S72)] : List (S72)))).bind fun t162 => (some (!t162))) else (none))) else (none))) else (none))) else (none)) else (none))) else (none))))) = some r := H
  have A1 := Aside0.mk A10
  clear A10
  replace H := Option.bind_eq_some_iff.mp H
  obtain ⟨⟨t144, t145⟩, A20, H⟩ := H
  replace H : ((match_Expand.f k (([(⟨0, 3, 1⟩ : S72)] : List (S72)))).bind fun bt149 => ((portagelaw0_SameTokens.f k t140 (([(⟨97, 0, 0⟩ : S72), (⟨98, 0, 0⟩ : S72), (⟨99, 0, 0⟩ : S72), (⟨0, 6, 3⟩ : S72), (⟨120, 0, 0⟩ : S72), (⟨97, 0, 0⟩ : S72), (⟨98, 0, 0⟩ : S72)] : List (S72)))).bind fun t154 => (if t154 = true then ((portagelaw0_Num.f t141).bind fun t155 => (if t155 = 0 then (if t144.toList = ([97, 98, 99, 97, 98, 99, 97, 98, 99, 120, 97, 98] : List UInt8) then ((portagelaw0_Num.f t145).bind fun t156 => (if t156 = 0 then ((portagelaw0_Num.f bt149.2).bind fun t157 => (if t157 = 500 then ((match_May.f k t140).bind fun t158 => (if t158 = true then ((match_May.f k (([(⟨256, 0, 0⟩ : S72)] : List (S72)))).bind fun t162 => (some (!t162))) else (none))) else (none))) else (none))) else (none)) else (none))) else (none)))) = some r := H
  have A2 := Aside0.mk A20
  clear A20
  obtain ⟨y146, hy146⟩ : ∃ y_ : List (S72), y_ = (([(⟨0, 3, 1⟩ : S72)] : List (S72))) := ⟨_, rfl⟩
  replace H : ((match_Expand.f k y146).bind fun bt149 => ((portagelaw0_SameTokens.f k t140 (([(⟨97, 0, 0⟩ : S72), (⟨98, 0, 0⟩ : S72), (⟨99, 0, 0⟩ : S72), (⟨0, 6, 3⟩ : S72), (⟨120, 0, 0⟩ : S72), (⟨97, 0, 0⟩ : S72), (⟨98, 0, 0⟩ : S72)] : List (S72)))).bind fun t154 => (if t154 = true then ((portagelaw0_Num.f t141).bind fun t155 => (if t155 = 0 then (if t144.toList = ([97, 98, 99, 97, 98, 99, 97, 98, 99, 120, 97, 98] : List UInt8) then ((portagelaw0_Num.f t145).bind fun t156 => (if t156 = 0 then ((portagelaw0_Num.f bt149.2).bind fun t157 => (if t157 = 500 then ((match_May.f k t140).bind fun t158 => (if t158 = true then ((match_May.f k (([(⟨256, 0, 0⟩ : S72)] : List (S72)))).bind fun t162 => (some (!t162))) else (none))) else (none))) else (none))) else (none)) else (none))) else (none)))) = some r := by first | (rw [hy146]; with_reducible exact H) | (have H2_ := (Option.bind_some _ _).symm.trans H; rw [hy146]; with_reducible exact H2_) | (have H2_ := (Option.bind_some _ _).symm.trans H; with_reducible exact H2_) | with_reducible exact H | (rw [hy146]; exact H) | exact H
  have Ny146 := Aside0.mk hy146
  clear hy146
  replace H := Option.bind_eq_some_iff.mp H
  obtain ⟨⟨t149, t150⟩, A30, H⟩ := H
  replace H : ((portagelaw0_SameTokens.f k t140 (([(⟨97, 0, 0⟩ : S72), (⟨98, 0, 0⟩ : S72), (⟨99, 0, 0⟩ : S72), (⟨0, 6, 3⟩ : S72), (⟨120, 0, 0⟩ : S72), (⟨97, 0, 0⟩ : S72), (⟨98, 0, 0⟩ : S72)] : List (S72)))).bind fun t154 => (if t154 = true then ((portagelaw0_Num.f t141).bind fun t155 => (if t155 = 0 then (if t144.toList = ([97, 98, 99, 97, 98, 99, 97, 98, 99, 120, 97, 98] : List UInt8) then ((portagelaw0_Num.f t145).bind fun t156 => (if t156 = 0 then ((portagelaw0_Num.f t150).bind fun t157 => (if t157 = 500 then ((match_May.f k t140).bind fun t158 => (if t158 = true then ((match_May.f k (([(⟨256, 0, 0⟩ : S72)] : List (S72)))).bind fun t162 => (some (!t162))) else (none))) else (none))) else (none))) else (none)) else (none))) else (none))) = some r := H
  have A3 := Aside0.mk A30
  clear A30
  obtain ⟨y151, hy151⟩ : ∃ y_ : List (S72), y_ = (([(⟨97, 0, 0⟩ : S72), (⟨98, 0, 0⟩ : S72), (⟨99, 0, 0⟩ : S72), (⟨0, 6, 3⟩ : S72), (⟨120, 0, 0⟩ : S72), (⟨97, 0, 0⟩ : S72), (⟨98, 0, 0⟩ : S72)] : List (S72))) := ⟨_, rfl⟩
  replace H : ((portagelaw0_SameTokens.f k t140 y151).bind fun t154 => (if t154 = true then ((portagelaw0_Num.f t141).bind fun t155 => (if t155 = 0 then (if t144.toList = ([97, 98, 99, 97, 98, 99, 97, 98, 99, 120, 97, 98] : List UInt8) then ((portagelaw0_Num.f t145).bind fun t156 => (if t156 = 0 then ((portagelaw0_Num.f t150).bind fun t157 => (if t157 = 500 then ((match_May.f k t140).bind fun t158 => (if t158 = true then ((match_May.f k (([(⟨256, 0, 0⟩ : S72)] : List (S72)))).bind fun t162 => (some (!t162))) else (none))) else (none))) else (none))) else (none)) else (none))) else (none))) = some r := by first | (rw [hy151]; with_reducible exact H) | (have H2_ := (Option.bind_some _ _).symm.trans H; rw [hy151]; with_reducible exact H2_) | (have H2_ := (Option.bind_some _ _).symm.trans H; with_reducible exact H2_) | with_reducible exact H | (rw [hy151]; exact H) | exact H
  have Ny151 := Aside0.mk hy151
  clear hy151
  replace H := Option.bind_eq_some_iff.mp H
  obtain ⟨t154, A40, H⟩ := H
  replace H : (if t154 = true then ((portagelaw0_Num.f t141).bind fun t155 => (if t155 = 0 then (if t144.toList = ([97, 98, 99, 97, 98, 99, 97, 98, 99, 120, 97, 98] : List UInt8) then ((portagelaw0_Num.f t145).bind fun t156 => (if t156 = 0 then ((portagelaw0_Num.f t150).bind fun t157 => (if t157 = 500 then ((match_May.f k t140).bind fun t158 => (if t158 = true then ((match_May.f k (([(⟨256, 0, 0⟩ : S72)] : List (S72)))).bind fun t162 => (some (!t162))) else (none))) else (none))) else (none))) else (none)) else (none))) else (none)) = some r := H
  have A4 := Aside0.mk A40
  clear A40
  by_cases c5 : t154 = true
  · subst c5
    have H1 : ((portagelaw0_Num.f t141).bind fun t155 => (if t155 = 0 then (if t144.toList = ([97, 98, 99, 97, 98, 99, 97, 98, 99, 120, 97, 98] : List UInt8) then ((portagelaw0_Num.f t145).bind fun t156 => (if t156 = 0 then ((portagelaw0_Num.f t150).bind fun t157 => (if t157 = 500 then ((match_May.f k t140).bind fun t158 => (if t158 = true then ((match_May.f k (([(⟨256, 0, 0⟩ : S72)] : List (S72)))).bind fun t162 => (some (!t162))) else (none))) else (none))) else (none))) else (none)) else (none))) = some r := by rw [if_pos rfl] at H; exact H
    clear H
    have H := H1
    clear H1
    replace H := Option.bind_eq_some_iff.mp H
    obtain ⟨t155, A60, H⟩ := H
    replace H : (if t155 = 0 then (if t144.toList = ([97, 98, 99, 97, 98, 99, 97, 98, 99, 120, 97, 98] : List UInt8) then ((portagelaw0_Num.f t145).bind fun t156 => (if t156 = 0 then ((portagelaw0_Num.f t150).bind fun t157 => (if t157 = 500 then ((match_May.f k t140).bind fun t158 => (if t158 = true then ((match_May.f k (([(⟨256, 0, 0⟩ : S72)] : List (S72)))).bind fun t162 => (some (!t162))) else (none))) else (none))) else (none))) else (none)) else (none)) = some r := H
    have A6 := Aside0.mk A60
    clear A60
    by_cases c7 : t155 = 0
    · rw [if_pos c7] at H
      have c7b0 : (t155 == 0) = true := beq_iff_eq.mpr c7
      have c7b1 : (t155 != 0) = false := bne_eq_false_iff_eq.mpr c7
      clear c7
      by_cases c8 : t144.toList = ([97, 98, 99, 97, 98, 99, 97, 98, 99, 120, 97, 98] : List UInt8)
      · rw [if_pos c8] at H
        have c8b0 : (t144.toList == ([97, 98, 99, 97, 98, 99, 97, 98, 99, 120, 97, 98] : List UInt8)) = true := beq_iff_eq.mpr c8
        have c8b1 : (t144.toList != ([97, 98, 99, 97, 98, 99, 97, 98, 99, 120, 97, 98] : List UInt8)) = false := bne_eq_false_iff_eq.mpr c8
        clear c8
        replace H := Option.bind_eq_some_iff.mp H
        obtain ⟨t156, A90, H⟩ := H
        replace H : (if t156 = 0 then ((portagelaw0_Num.f t150).bind fun t157 => (if t157 = 500 then ((match_May.f k t140).bind fun t158 => (if t158 = true then ((match_May.f k (([(⟨256, 0, 0⟩ : S72)] : List (S72)))).bind fun t162 => (some (!t162))) else (none))) else (none))) else (none)) = some r := H
        have A9 := Aside0.mk A90
        clear A90
        by_cases c10 : t156 = 0
        · rw [if_pos c10] at H
          have c10b0 : (t156 == 0) = true := beq_iff_eq.mpr c10
          have c10b1 : (t156 != 0) = false := bne_eq_false_iff_eq.mpr c10
          clear c10
          replace H := Option.bind_eq_some_iff.mp H
          obtain ⟨t157, A110, H⟩ := H
          replace H : (if t157 = 500 then ((match_May.f k t140).bind fun t158 => (if t158 = true then ((match_May.f k (([(⟨256, 0, 0⟩ : S72)] : List (S72)))).bind fun t162 => (some (!t162))) else (none))) else (none)) = some r := H
          have A11 := Aside0.mk A110
          clear A110
          by_cases c12 : t157 = 500
          · rw [if_pos c12] at H
            have c12b0 : (t157 == 500) = true := beq_iff_eq.mpr c12
            have c12b1 : (t157 != 500) = false := bne_eq_false_iff_eq.mpr c12
            clear c12
            replace H := Option.bind_eq_some_iff.mp H
            obtain ⟨t158, A130, H⟩ := H
            replace H : (if t158 = true then ((match_May.f k (([(⟨256, 0, 0⟩ : S72)] : List (S72)))).bind fun t162 => (some (!t162))) else (none)) = some r := H
            have A13 := Aside0.mk A130
            clear A130
            by_cases c14 : t158 = true
            · subst c14
              have H1 : ((match_May.f k (([(⟨256, 0, 0⟩ : S72)] : List (S72)))).bind fun t162 => (some (!t162))) = some r := by rw [if_pos rfl] at H; exact H
              clear H
              have H := H1
              clear H1
              obtain ⟨y159, hy159⟩ : ∃ y_ : List (S72), y_ = (([(⟨256, 0, 0⟩ : S72)] : List (S72))) := ⟨_, rfl⟩
              replace H : ((match_May.f k y159).bind fun t162 => (some (!t162))) = some r := by first | (rw [hy159]; with_reducible exact H) | (have H2_ := (Option.bind_some _ _).symm.trans H; rw [hy159]; with_reducible exact H2_) | (have H2_ := (Option.bind_some _ _).symm.trans H; with_reducible exact H2_) | with_reducible exact H | (rw [hy159]; exact H) | exact H
              have Ny159 := Aside0.mk hy159
              clear hy159
              replace H := Option.bind_eq_some_iff.mp H
              obtain ⟨t162, A150, H⟩ := H
              replace H : (some (!t162)) = some r := H
              have A15 := Aside0.mk A150
              clear A150
              obtain rfl := Option.some.inj H
              go_enter Try.func59, Try.ntmps59
              go_wp2_with (first | ((with_reducible refine gate_callee (f := 50) rfl ?_); refine goesL_ (some 8) rfl rfl Try.func50 (by kernel_rfl) rfl #[.string (⟨#[97, 98, 99, 97, 98, 99, 97, 98, 99, 120, 97, 98]⟩ : ByteArray)] rfl (by (try simp only [List.map_toArray, List.map_cons, List.map_nil]); first | done | rfl | (simp only [List.length_drop, List.length_take]; rfl)) ?_; (with_reducible refine (match_Tokens.calls k (⟨#[97, 98, 99, 97, 98, 99, 97, 98, 99, 120, 97, 98]⟩ : ByteArray) t140 t141 _ A1.out).mono ?_); rintro e w16 ⟨v142, rfl, ho0, hb⟩; refine ⟨_, rfl, ?_⟩; have n0_ := Aside0.mk (Kd.R_lower ho0 (below_size (by repeat (first | (with_reducible first | exact HB.out | apply below_alloc | apply pw_below_drewN | apply below_drew1) | exact HB.out)))); have n1_ := Aside0.mk (below_step (by repeat (first | (with_reducible first | exact HB.out | apply below_alloc | apply pw_below_drewN | apply below_drew1) | exact HB.out)) hb); clear HB; have HO143 := n0_; have HB := n1_; clear n0_ n1_; (try clear hb); (try clear hb2); (try clear hk); (try clear hi); (try clear ho0); obtain ⟨Ao17, co17, eo17⟩ := Kd.R_slice HO143.out; subst eo17) | ((with_reducible refine gate_callee (f := 52) rfl ?_); refine goesL_ (some 13) rfl rfl Try.func52 (by kernel_rfl) rfl #[.slice Ao17 t140.length co17] rfl (by (try simp only [List.map_toArray, List.map_cons, List.map_nil]); first | done | rfl | (simp only [List.length_drop, List.length_take]; rfl)) ?_; (with_reducible refine (match_Expand.calls k _ _ t140 t144 t145 _ ?side1 ?side2 A2.out).mono ?_); (case side1 => repeat (first | exact (Kd.R_reads' HO143.out).2.2 | (with_reducible refine Kd.C_alloc ?_ _) | (with_reducible refine Kd.C_drewN ?_ _) | (with_reducible refine Kd.C_drew ?_))); (case side2 => exact (Kd.R_reads' HO143.out).2.1); rintro e w18 ⟨rfl, hb⟩; refine ⟨_, rfl, ?_⟩; have n0_ := Aside0.mk (Kd.R_below (by (with_reducible repeat (first | apply Kd.R_alloc | apply Kd.R_drewN | apply Kd.R_drew)); exact HO143.out) hb); have n1_ := Aside0.mk (below_step (by repeat (first | (with_reducible first | exact HB.out | apply below_alloc | apply pw_below_drewN | apply below_drew1) | exact HB.out)) hb); clear HO143; clear HB; have HO143 := n0_; have HB := n1_; clear n0_ n1_; (try clear hb); (try clear hb2); (try clear hk); (try clear hi)) | ((with_reducible refine gate_dst (N := 18) rfl ?_); (try (refine gate_guard (by rfl) ?_; dsimp only)); refine Kd.R_lit k72 _ 72 ?hg (N := 18) ?hd (xs := ([(⟨0, 3, 1⟩ : S72)] : List (S72))) (inner := [.int .i64 0, .int .i64 3, .int .i64 1]) (ok := fun _ => True) (okp := fun _ => True) ?hr ?hp (fun _ hk => hk) trivial (Below.refl _ _) (Nat.le_refl _) (by simp) ?_; (case hd => rfl); (case hg => rfl); (case hr => first | (go_simp; done) | (go_simp; rfl)); (case hp => exact (Reps.c3 (show Kd.M k72 _ _ _ (⟨0, 3, 1⟩ : S72) [.int .i64 0, .int .i64 3, .int .i64 1] from (k72_mkM _ _ _ (⟨0, 3, 1⟩ : S72) )) (Reps.none _ _))); intro v147 w19 ho20 hb hg_ hnew_; clear hg_ hnew_; (first | rw [← Ny146.out] at ho20 | (simp only [Int.reduceToNat] at ho20; rw [← Ny146.out] at ho20)); have n0_ := Aside0.mk (Kd.R_elder' (by (with_reducible repeat (first | apply Kd.R_alloc | apply Kd.R_drewN | apply Kd.R_drew)); exact HO143.out) (Kd.R_base ho20) hb); have n1_ := Aside0.mk (Kd.R_lower (Kd.R_new' ho20 (Kd.R_lt (by (with_reducible repeat (first | apply Kd.R_alloc | apply Kd.R_drewN | apply Kd.R_drew)); exact HO143.out))) (below_size (by repeat (first | (with_reducible first | exact HB.out | apply below_alloc | apply pw_below_drewN | apply below_drew1) | exact HB.out)))); have n2_ := Aside0.mk (below_step (by repeat (first | (with_reducible first | exact HB.out | apply below_alloc | apply pw_below_drewN | apply below_drew1) | exact HB.out)) hb); clear HO143; clear HB; have HO143 := n0_; have HO148 := n1_; have HB := n2_; clear n0_ n1_ n2_; clear hb ho20; obtain ⟨Ao21, co21, eo21⟩ := Kd.R_slice HO148.out; subst eo21) | ((with_reducible refine gate_callee (f := 52) rfl ?_); refine goesL_ (some 19) rfl rfl Try.func52 (by kernel_rfl) rfl #[.slice Ao21 y146.length co21] rfl (by (try simp only [List.map_toArray, List.map_cons, List.map_nil]); first | done | rfl | (simp only [List.length_drop, List.length_take]; rfl)) ?_; (with_reducible refine (match_Expand.calls k _ _ y146 t149 t150 _ ?side1 ?side2 A3.out).mono ?_); (case side1 => repeat (first | exact (Kd.R_reads' HO148.out).2.2 | (with_reducible refine Kd.C_alloc ?_ _) | (with_reducible refine Kd.C_drewN ?_ _) | (with_reducible refine Kd.C_drew ?_))); (case side2 => exact (Kd.R_reads' HO148.out).2.1); rintro e w22 ⟨rfl, hb⟩; refine ⟨_, rfl, ?_⟩; have n0_ := Aside0.mk (Kd.R_below (by (with_reducible repeat (first | apply Kd.R_alloc | apply Kd.R_drewN | apply Kd.R_drew)); exact HO143.out) hb); have n1_ := Aside0.mk (Kd.R_below (by (with_reducible repeat (first | apply Kd.R_alloc | apply Kd.R_drewN | apply Kd.R_drew)); exact HO148.out) hb); have n2_ := Aside0.mk (below_step (by repeat (first | (with_reducible first | exact HB.out | apply below_alloc | apply pw_below_drewN | apply below_drew1) | exact HB.out)) hb); clear HO143; clear HO148; clear HB; have HO143 := n0_; have HO148 := n1_; have HB := n2_; clear n0_ n1_ n2_; (try clear hb); (try clear hb2); (try clear hk); (try clear hi)) | ((with_reducible refine gate_dst (N := 30) rfl ?_); (try (refine gate_guard (by rfl) ?_; dsimp only)); refine Kd.R_lit k72 _ 72 ?hg (N := 30) ?hd (xs := ([(⟨97, 0, 0⟩ : S72), (⟨98, 0, 0⟩ : S72), (⟨99, 0, 0⟩ : S72), (⟨0, 6, 3⟩ : S72), (⟨120, 0, 0⟩ : S72), (⟨97, 0, 0⟩ : S72), (⟨98, 0, 0⟩ : S72)] : List (S72))) (inner := [.int .i64 97, .int .i64 0, .int .i64 0, .int .i64 98, .int .i64 0, .int .i64 0, .int .i64 99, .int .i64 0, .int .i64 0, .int .i64 0, .int .i64 6, .int .i64 3, .int .i64 120, .int .i64 0, .int .i64 0, .int .i64 97, .int .i64 0, .int .i64 0, .int .i64 98, .int .i64 0, .int .i64 0]) (ok := fun _ => True) (okp := fun _ => True) ?hr ?hp (fun _ hk => hk) trivial (Below.refl _ _) (Nat.le_refl _) (by simp) ?_; (case hd => rfl); (case hg => rfl); (case hr => first | (go_simp; done) | (go_simp; rfl)); (case hp => exact (Reps.c3 (show Kd.M k72 _ _ _ (⟨97, 0, 0⟩ : S72) [.int .i64 97, .int .i64 0, .int .i64 0] from (k72_mkM _ _ _ (⟨97, 0, 0⟩ : S72) )) (Reps.c3 (show Kd.M k72 _ _ _ (⟨98, 0, 0⟩ : S72) [.int .i64 98, .int .i64 0, .int .i64 0] from (k72_mkM _ _ _ (⟨98, 0, 0⟩ : S72) )) (Reps.c3 (show Kd.M k72 _ _ _ (⟨99, 0, 0⟩ : S72) [.int .i64 99, .int .i64 0, .int .i64 0] from (k72_mkM _ _ _ (⟨99, 0, 0⟩ : S72) )) (Reps.c3 (show Kd.M k72 _ _ _ (⟨0, 6, 3⟩ : S72) [.int .i64 0, .int .i64 6, .int .i64 3] from (k72_mkM _ _ _ (⟨0, 6, 3⟩ : S72) )) (Reps.c3 (show Kd.M k72 _ _ _ (⟨120, 0, 0⟩ : S72) [.int .i64 120, .int .i64 0, .int .i64 0] from (k72_mkM _ _ _ (⟨120, 0, 0⟩ : S72) )) (Reps.c3 (show Kd.M k72 _ _ _ (⟨97, 0, 0⟩ : S72) [.int .i64 97, .int .i64 0, .int .i64 0] from (k72_mkM _ _ _ (⟨97, 0, 0⟩ : S72) )) (Reps.c3 (show Kd.M k72 _ _ _ (⟨98, 0, 0⟩ : S72) [.int .i64 98, .int .i64 0, .int .i64 0] from (k72_mkM _ _ _ (⟨98, 0, 0⟩ : S72) )) (Reps.none _ _))))))))); intro v152 w23 ho24 hb hg_ hnew_; clear hg_ hnew_; (first | rw [← Ny151.out] at ho24 | (simp only [Int.reduceToNat] at ho24; rw [← Ny151.out] at ho24)); have n0_ := Aside0.mk (Kd.R_elder' (by (with_reducible repeat (first | apply Kd.R_alloc | apply Kd.R_drewN | apply Kd.R_drew)); exact HO143.out) (Kd.R_base ho24) hb); have n1_ := Aside0.mk (Kd.R_elder' (by (with_reducible repeat (first | apply Kd.R_alloc | apply Kd.R_drewN | apply Kd.R_drew)); exact HO148.out) (Kd.R_base ho24) hb); have n2_ := Aside0.mk (Kd.R_lower (Kd.R_new' (Kd.R_new' ho24 (Kd.R_lt (by (with_reducible repeat (first | apply Kd.R_alloc | apply Kd.R_drewN | apply Kd.R_drew)); exact HO143.out))) (Kd.R_lt (by (with_reducible repeat (first | apply Kd.R_alloc | apply Kd.R_drewN | apply Kd.R_drew)); exact HO148.out))) (below_size (by repeat (first | (with_reducible first | exact HB.out | apply below_alloc | apply pw_below_drewN | apply below_drew1) | exact HB.out)))); have n3_ := Aside0.mk (below_step (by repeat (first | (with_reducible first | exact HB.out | apply below_alloc | apply pw_below_drewN | apply below_drew1) | exact HB.out)) hb); clear HO143; clear HO148; clear HB; have HO143 := n0_; have HO148 := n1_; have HO153 := n2_; have HB := n3_; clear n0_ n1_ n2_ n3_; clear hb ho24; obtain ⟨Ao25, co25, eo25⟩ := Kd.R_slice HO153.out; subst eo25) | ((with_reducible refine gate_callee (f := 54) rfl ?_); refine goesL_ (some 31) rfl rfl Try.func54 (by kernel_rfl) rfl #[.slice Ao17 t140.length co17, .slice Ao25 y151.length co25] rfl (by (try simp only [List.map_toArray, List.map_cons, List.map_nil]); first | done | rfl | (simp only [List.length_drop, List.length_take]; rfl)) ?_; (with_reducible refine (portagelaw0_SameTokens.calls k _ _ t140 _ _ y151 true _ ?side1 ?side2 ?side3 ?side4 A4.out).mono ?_); (case side1 => repeat (first | exact (Kd.R_reads' HO143.out).2.2 | (with_reducible refine Kd.C_alloc ?_ _) | (with_reducible refine Kd.C_drewN ?_ _) | (with_reducible refine Kd.C_drew ?_))); (case side2 => exact (Kd.R_reads' HO143.out).2.1); (case side3 => repeat (first | exact (Kd.R_reads' HO153.out).2.2 | (with_reducible refine Kd.C_alloc ?_ _) | (with_reducible refine Kd.C_drewN ?_ _) | (with_reducible refine Kd.C_drew ?_))); (case side4 => exact (Kd.R_reads' HO153.out).2.1); rintro e w' ⟨rfl, ⟨nd, rfl⟩⟩; refine ⟨_, rfl, ?_⟩) | (go_at_call 34; (with_reducible refine (portagelaw0_Num.calls t141 t155 _ A6.out).mono ?_); rintro e w' ⟨rfl, ⟨nd, rfl⟩⟩) | (go_at_call 34; (with_reducible refine (portagelaw0_Num.calls t145 t156 _ A9.out).mono ?_); rintro e w' ⟨rfl, ⟨nd, rfl⟩⟩) | (go_at_call 34; (with_reducible refine (portagelaw0_Num.calls t150 t157 _ A11.out).mono ?_); rintro e w' ⟨rfl, ⟨nd, rfl⟩⟩) | (go_at_call 55; (with_reducible refine (match_May.calls k _ _ t140 true _ ?side1 ?side2 A13.out).mono ?_); (case side1 => repeat (first | exact (Kd.R_reads' HO143.out).2.2 | (with_reducible refine Kd.C_alloc ?_ _) | (with_reducible refine Kd.C_drewN ?_ _) | (with_reducible refine Kd.C_drew ?_))); (case side2 => exact (Kd.R_reads' HO143.out).2.1); rintro e w26 ⟨rfl, hb⟩; have n0_ := Aside0.mk (Kd.R_below (by (with_reducible repeat (first | apply Kd.R_alloc | apply Kd.R_drewN | apply Kd.R_drew)); exact HO143.out) hb); have n1_ := Aside0.mk (Kd.R_below (by (with_reducible repeat (first | apply Kd.R_alloc | apply Kd.R_drewN | apply Kd.R_drew)); exact HO148.out) hb); have n2_ := Aside0.mk (Kd.R_below (by (with_reducible repeat (first | apply Kd.R_alloc | apply Kd.R_drewN | apply Kd.R_drew)); exact HO153.out) hb); have n3_ := Aside0.mk (below_step (by repeat (first | (with_reducible first | exact HB.out | apply below_alloc | apply pw_below_drewN | apply below_drew1) | exact HB.out)) hb); clear HO143; clear HO148; clear HO153; clear HB; have HO143 := n0_; have HO148 := n1_; have HO153 := n2_; have HB := n3_; clear n0_ n1_ n2_ n3_; (try clear hb); (try clear hb2); (try clear hk); (try clear hi)) | ((with_reducible refine gate_dst (N := 57) rfl ?_); (try (refine gate_guard (by rfl) ?_; dsimp only)); refine Kd.R_lit k72 _ 72 ?hg (N := 57) ?hd (xs := ([(⟨256, 0, 0⟩ : S72)] : List (S72))) (inner := [.int .i64 256, .int .i64 0, .int .i64 0]) (ok := fun _ => True) (okp := fun _ => True) ?hr ?hp (fun _ hk => hk) trivial (Below.refl _ _) (Nat.le_refl _) (by simp) ?_; (case hd => rfl); (case hg => rfl); (case hr => first | (go_simp; done) | (go_simp; rfl)); (case hp => exact (Reps.c3 (show Kd.M k72 _ _ _ (⟨256, 0, 0⟩ : S72) [.int .i64 256, .int .i64 0, .int .i64 0] from (k72_mkM _ _ _ (⟨256, 0, 0⟩ : S72) )) (Reps.none _ _))); intro v160 w27 ho28 hb hg_ hnew_; clear hg_ hnew_; (first | rw [← Ny159.out] at ho28 | (simp only [Int.reduceToNat] at ho28; rw [← Ny159.out] at ho28)); have n0_ := Aside0.mk (Kd.R_elder' (by (with_reducible repeat (first | apply Kd.R_alloc | apply Kd.R_drewN | apply Kd.R_drew)); exact HO143.out) (Kd.R_base ho28) hb); have n1_ := Aside0.mk (Kd.R_elder' (by (with_reducible repeat (first | apply Kd.R_alloc | apply Kd.R_drewN | apply Kd.R_drew)); exact HO148.out) (Kd.R_base ho28) hb); have n2_ := Aside0.mk (Kd.R_elder' (by (with_reducible repeat (first | apply Kd.R_alloc | apply Kd.R_drewN | apply Kd.R_drew)); exact HO153.out) (Kd.R_base ho28) hb); have n3_ := Aside0.mk (Kd.R_lower (Kd.R_new' (Kd.R_new' (Kd.R_new' ho28 (Kd.R_lt (by (with_reducible repeat (first | apply Kd.R_alloc | apply Kd.R_drewN | apply Kd.R_drew)); exact HO143.out))) (Kd.R_lt (by (with_reducible repeat (first | apply Kd.R_alloc | apply Kd.R_drewN | apply Kd.R_drew)); exact HO148.out))) (Kd.R_lt (by (with_reducible repeat (first | apply Kd.R_alloc | apply Kd.R_drewN | apply Kd.R_drew)); exact HO153.out))) (below_size (by repeat (first | (with_reducible first | exact HB.out | apply below_alloc | apply pw_below_drewN | apply below_drew1) | exact HB.out)))); have n4_ := Aside0.mk (below_step (by repeat (first | (with_reducible first | exact HB.out | apply below_alloc | apply pw_below_drewN | apply below_drew1) | exact HB.out)) hb); clear HO143; clear HO148; clear HO153; clear HB; have HO143 := n0_; have HO148 := n1_; have HO153 := n2_; have HO161 := n3_; have HB := n4_; clear n0_ n1_ n2_ n3_ n4_; clear hb ho28; obtain ⟨Ao29, co29, eo29⟩ := Kd.R_slice HO161.out; subst eo29) | (go_at_call 55; (with_reducible refine (match_May.calls k _ _ y159 t162 _ ?side1 ?side2 A15.out).mono ?_); (case side1 => repeat (first | exact (Kd.R_reads' HO161.out).2.2 | (with_reducible refine Kd.C_alloc ?_ _) | (with_reducible refine Kd.C_drewN ?_ _) | (with_reducible refine Kd.C_drew ?_))); (case side2 => exact (Kd.R_reads' HO161.out).2.1); rintro e w30 ⟨rfl, hb⟩; have n0_ := Aside0.mk (Kd.R_below (by (with_reducible repeat (first | apply Kd.R_alloc | apply Kd.R_drewN | apply Kd.R_drew)); exact HO143.out) hb); have n1_ := Aside0.mk (Kd.R_below (by (with_reducible repeat (first | apply Kd.R_alloc | apply Kd.R_drewN | apply Kd.R_drew)); exact HO148.out) hb); have n2_ := Aside0.mk (Kd.R_below (by (with_reducible repeat (first | apply Kd.R_alloc | apply Kd.R_drewN | apply Kd.R_drew)); exact HO153.out) hb); have n3_ := Aside0.mk (Kd.R_below (by (with_reducible repeat (first | apply Kd.R_alloc | apply Kd.R_drewN | apply Kd.R_drew)); exact HO161.out) hb); have n4_ := Aside0.mk (below_step (by repeat (first | (with_reducible first | exact HB.out | apply below_alloc | apply pw_below_drewN | apply below_drew1) | exact HB.out)) hb); clear HO143; clear HO148; clear HO153; clear HO161; clear HB; have HO143 := n0_; have HO148 := n1_; have HO153 := n2_; have HO161 := n3_; have HB := n4_; clear n0_ n1_ n2_ n3_ n4_; (try clear hb); (try clear hb2); (try clear hk); (try clear hi)))
              go_ret
              exact ⟨by first | rfl | (simp [errW_none, errW_some] <;> rfl) | (simp [*, errW_none, errW_some] <;> rfl), by repeat (first | (with_reducible first | exact HB.out | apply below_alloc | apply pw_below_drewN | apply below_drew1) | exact HB.out)⟩
            · replace c14 := Bool.eq_false_iff.mpr c14
              subst c14
              have H1 : (none) = some r := by rw [if_neg (show ¬ (false = true) by decide)] at H; exact H
              clear H
              have H := H1
              clear H1
              exact absurd H (by simp)
          · rw [if_neg c12] at H
            exact absurd H (by simp)
        · rw [if_neg c10] at H
          exact absurd H (by simp)
      · rw [if_neg c8] at H
        exact absurd H (by simp)
    · rw [if_neg c7] at H
      exact absurd H (by simp)
  · replace c5 := Bool.eq_false_iff.mpr c5
    subst c5
    have H1 : (none) = some r := by rw [if_neg (show ¬ (false = true) by decide)] at H; exact H
    clear H
    have H := H1
    clear H1
    exact absurd H (by simp)

end Go.Proofs.Ytnjbbfcknijcnaa.M
