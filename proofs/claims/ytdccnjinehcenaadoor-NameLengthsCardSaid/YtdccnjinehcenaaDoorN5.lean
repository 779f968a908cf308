-- Written by a program of this session out of the translation (a changed copy of the kit's printer).
import Derived.Test.YtdccnjinehcenaaDoorN0
import Derived.Test.YtdccnjinehcenaaDoorN1
import Derived.Test.YtdccnjinehcenaaDoorN3
namespace Go.Proofs.YtdccnjinehcenaaDoor.N
open Go.RowKit Go.Proofs.YtdccnjinehcenaaDoorW.PrintWords Go.Proofs.YtdccnjinehcenaaDoorW.PrintLast Go.Proofs.YtdccnjinehcenaaDoorW.PrintMore
attribute [local go_sem] max2_int min2_int max_two min_two max_three min_three max_four min_four   -- for this text's walks alone
set_option linter.unusedVariables false
set_option linter.unusedSimpArgs false

/-! ### portagelaw10_NameLengths: function 5 -/
def portagelaw10_NameLengths.f (a0 : Int) : Option (Bool) := (portagelaw10_awake.f).bind fun t124 => (if t124 = true then (if 0 ≤ (wrap64 (Int.tmod (IntKind.u64.wrap (a0)) 20)) then (if (wrap64 (Int.tmod (IntKind.u64.wrap (a0)) 20)) ≤ 20 then ((portagelaw0_Num.f 0).bind fun t125 => (if t125 = 0 then ((name_May.f ((⟨#[97, 98, 99, 100, 101, 102, 103, 104, 105, 106, 107, 108, 109, 110, 111, 112, 113, 114, 115, 116]⟩ : ByteArray).extract 0 ((wrap64 (Int.tmod (IntKind.u64.wrap (a0)) 20)) : Int).toNat)).bind fun t126 => (if (wrap64 (Int.tmod (IntKind.u64.wrap (a0)) 20)) ≥ 1 then (if (t126 == (decide ((wrap64 (Int.tmod (IntKind.u64.wrap (a0)) 20)) ≤ 8))) = true then ((name_May.f ((⟨#[46, 46, 46, 46, 46, 46, 46, 46, 46, 46, 46, 46, 46, 46, 46, 46, 46, 46, 46, 46]⟩ : ByteArray).extract 0 ((wrap64 (Int.tmod (IntKind.u64.wrap (a0)) 20)) : Int).toNat)).bind fun t127 => (if (wrap64 (Int.tmod (IntKind.u64.wrap (a0)) 20)) ≥ 3 then (some (t127 == (decide ((wrap64 (Int.tmod (IntKind.u64.wrap (a0)) 20)) ≤ 8)))) else (some (t127 == false)))) else (none)) else (if (t126 == false) = true then ((name_May.f ((⟨#[46, 46, 46, 46, 46, 46, 46, 46, 46, 46, 46, 46, 46, 46, 46, 46, 46, 46, 46, 46]⟩ : ByteArray).extract 0 ((wrap64 (Int.tmod (IntKind.u64.wrap (a0)) 20)) : Int).toNat)).bind fun t128 => (if (wrap64 (Int.tmod (IntKind.u64.wrap (a0)) 20)) ≥ 3 then (some (t128 == (decide ((wrap64 (Int.tmod (IntKind.u64.wrap (a0)) 20)) ≤ 8)))) else (some (t128 == false)))) else (none)))) else (none))) else (none)) else (none)) else (none))
set_option maxHeartbeats 8000000 in
set_option maxRecDepth 100000 in
theorem portagelaw10_NameLengths.calls (a0 : Int) (r : Bool) (w : World) (h : portagelaw10_NameLengths.f a0 = some r) :
    Calls Tryd.prog 5 #[.int .i64 a0] w fun e w' => e = .returned (.bool r) ∧ Below w.heap.size w w' := by
  have HB := Aside0.mk (Below.refl w.heap.size w)
  have H : ((portagelaw10_awake.f).bind fun t124 => (if t124 = true then (if 0 ≤ (wrap64 (Int.tmod (IntKind.u64.wrap (a0)) 20)) then (if (wrap64 (Int.tmod (IntKind.u64.wrap (a0)) 20)) ≤ 20 then ((portagelaw0_Num.f 0).bind fun t125 => (if t125 = 0 then ((name_May.f ((⟨#[97, 98, 99, 100, 101, 102, 103, 104, 105, 106, 107, 108, 109, 110, 111, 112, 113, 114, 115, 116]⟩ : ByteArray).extract 0 ((wrap64 (Int.tmod (IntKind.u64.wrap (a0)) 20)) : Int).toNat)).bind fun t126 => (if (wrap64 (Int.tmod (IntKind.u64.wrap (a0)) 20)) ≥ 1 then (if (t126 == (decide ((wrap64 (Int.tmod (IntKind.u64.wrap (a0)) 20)) ≤ 8))) = true then ((name_May.f ((⟨#[46, 46, 46, 46, 46, 46, 46, 46, 46, 46, 46, 46, 46, 46, 46, 46, 46, 46, 46, 46]⟩ : ByteArray).extract 0 ((wrap64 (Int.tmod (IntKind.u64.wrap (a0)) 20)) : Int).toNat)).bind fun t127 => (if (wrap64 (Int.tmod (IntKind.u64.wrap (a0)) 20)) ≥ 3 then (some (t127 == (decide ((wrap64 (Int.tmod (IntKind.u64.wrap (a0)) 20)) ≤ 8)))) else (some (t127 == false)))) else (none)) else (if (t126 == false) = true then ((name_May.f ((⟨#[46, 46, 46, 46, 46, 46, 46, 46, 46, 46, 46, 46, 46, 46, 46, 46, 46, 46, 46, 46]⟩ : ByteArray).extract 0 ((wrap64 (Int.tmod (IntKind.u64.wrap (a0)) 20)) : Int).toNat)).bind fun t128 => (if (wrap64 (Int.tmod (IntKind.u64.wrap (a0)) 20)) ≥ 3 then (some (t128 == (decide ((wrap64 (Int.tmod (IntKind.u64.wrap (a0)) 20)) ≤ 8)))) else (some (t128 == false)))) else (none)))) else (none))) else (none)) else (none)) else (none))) = some r := h
  clear h
  replace H := Option.bind_eq_some_iff.mp H
  obtain ⟨t124, A20, H⟩ := H
  replace H : (if t124 = true then (if 0 ≤ (wrap64 (Int.tmod (IntKind.u64.wrap (a0)) 20)) then (if (wrap64 (Int.tmod (IntKind.u64.wrap (a0)) 20)) ≤ 20 then ((portagelaw0_Num.f 0).bind fun t125 => (if t125 = 0 then ((name_May.f ((⟨#[97, 98, 99, 100, 101, 102, 103, 104, 105, 106, 107, 108, 109, 110, 111, 112, 113, 114, 115, 116]⟩ : ByteArray).extract 0 ((wrap64 (Int.tmod (IntKind.u64.wrap (a0)) 20)) : Int).toNat)).bind fun t126 => (if (wrap64 (Int.tmod (IntKind.u64.wrap (a0)) 20)) ≥ 1 then (if (t126 == (decide ((wrap64 (Int.tmod (IntKind.u64.wrap (a0)) 20)) ≤ 8))) = true then ((name_May.f ((⟨#[46, 46, 46, 46, 46, 46, 46, 46, 46, 46, 46, 46, 46, 46, 46, 46, 46, 46, 46, 46]⟩ : ByteArray).extract 0 ((wrap64 (Int.tmod (IntKind.u64.wrap (a0)) 20)) : Int).toNat)).bind fun t127 => (if (wrap64 (Int.tmod (IntKind.u64.wrap (a0)) 20)) ≥ 3 then (some (t127 == (decide ((wrap64 (Int.tmod (IntKind.u64.wrap (a0)) 20)) ≤ 8)))) else (some (t127 == false)))) else (none)) else (if (t126 == false) = true then ((name_May.f ((⟨#[46, 46, 46, 46, 46, 46, 46, 46, 46, 46, 46, 46, 46, 46, 46, 46, 46, 46, 46, 46]⟩ : ByteArray).extract 0 ((wrap64 (Int.tmod (IntKind.u64.wrap (a0)) 20)) : Int).toNat)).bind fun t128 => (if (wrap64 (Int.tmod (IntKind.u64.wrap (a0)) 20)) ≥ 3 then (some (t128 == (decide ((wrap64 (Int.tmod (IntKind.u64.wrap (a0)) 20)) ≤ 8)))) else (some (t128 == false)))) else (none)))) else (none))) else (none)) else (none)) else (none)) = some r := H
  have A2 := Aside0.mk A20
  clear A20
  by_cases c3 : t124 = true
  · subst c3
    have H1 : (if 0 ≤ (wrap64 (Int.tmod (IntKind.u64.wrap (a0)) 20)) then (if (wrap64 (Int.tmod (IntKind.u64.wrap (a0)) 20)) ≤ 20 then ((portagelaw0_Num.f 0).bind fun t125 => (if t125 = 0 then ((name_May.f ((⟨#[97, 98, 99, 100, 101, 102, 103, 104, 105, 106, 107, 108, 109, 110, 111, 112, 113, 114, 115, 116]⟩ : ByteArray).extract 0 ((wrap64 (Int.tmod (IntKind.u64.wrap (a0)) 20)) : Int).toNat)).bind fun t126 => (if (wrap64 (Int.tmod (IntKind.u64.wrap (a0)) 20)) ≥ 1 then (if (t126 == (decide ((wrap64 (Int.tmod (IntKind.u64.wrap (a0)) 20)) ≤ 8))) = true then ((name_May.f ((⟨#[46, 46, 46, 46, 46, 46, 46, 46, 46, 46, 46, 46, 46, 46, 46, 46, 46, 46, 46, 46]⟩ : ByteArray).extract 0 ((wrap64 (Int.tmod (IntKind.u64.wrap (a0)) 20)) : Int).toNat)).bind fun t127 => (if (wrap64 (Int.tmod (IntKind.u64.wrap (a0)) 20)) ≥ 3 then (some (t127 == (decide ((wrap64 (Int.tmod (IntKind.u64.wrap (a0)) 20)) ≤ 8)))) else (some (t127 == false)))) else (none)) else (if (t126 == false) = true then ((name_May.f ((⟨#[46, 46, 46, 46, 46, 46, 46, 46, 46, 46, 46, 46, 46, 46, 46, 46, 46, 46, 46, 46]⟩ : ByteArray).extract 0 ((wrap64 (Int.tmod (IntKind.u64.wrap (a0)) 20)) : Int).toNat)).bind fun t128 => (if (wrap64 (Int.tmod (IntKind.u64.wrap (a0)) 20)) ≥ 3 then (some (t128 == (decide ((wrap64 (Int.tmod (IntKind.u64.wrap (a0)) 20)) ≤ 8)))) else (some (t128 == false)))) else (none)))) else (none))) else (none)) else (none)) = some r := by rw [if_pos rfl] at H; exact H
    clear H
    have H := H1
    clear H1
    obtain ⟨ji4, hji4⟩ : ∃ j_ : Int, (wrap64 (Int.tmod (IntKind.u64.wrap (a0)) 20)) = j_ := ⟨_, rfl⟩
    replace H : (if 0 ≤ (ji4) then (if (ji4) ≤ 20 then ((portagelaw0_Num.f 0).bind fun t125 => (if t125 = 0 then ((name_May.f ((⟨#[97, 98, 99, 100, 101, 102, 103, 104, 105, 106, 107, 108, 109, 110, 111, 112, 113, 114, 115, 116]⟩ : ByteArray).extract 0 ((ji4) : Int).toNat)).bind fun t126 => (if (ji4) ≥ 1 then (if (t126 == (decide ((ji4) ≤ 8))) = true then ((name_May.f ((⟨#[46, 46, 46, 46, 46, 46, 46, 46, 46, 46, 46, 46, 46, 46, 46, 46, 46, 46, 46, 46]⟩ : ByteArray).extract 0 ((ji4) : Int).toNat)).bind fun t127 => (if (ji4) ≥ 3 then (some (t127 == (decide ((ji4) ≤ 8)))) else (some (t127 == false)))) else (none)) else (if (t126 == false) = true then ((name_May.f ((⟨#[46, 46, 46, 46, 46, 46, 46, 46, 46, 46, 46, 46, 46, 46, 46, 46, 46, 46, 46, 46]⟩ : ByteArray).extract 0 ((ji4) : Int).toNat)).bind fun t128 => (if (ji4) ≥ 3 then (some (t128 == (decide ((ji4) ≤ 8)))) else (some (t128 == false)))) else (none)))) else (none))) else (none)) else (none)) = some r := by first | (rw [hji4] at H; exact H) | (simp only [hji4] at H ⊢; exact H)
    (try rw [hji4] at A2)
    have hji4w : (IntKind.i64.wrap (Int.tmod (IntKind.u64.wrap (a0)) 20)) = ji4 := (i64_w _).trans hji4
    by_cases c5 : 0 ≤ (ji4)
    · rw [if_pos c5] at H
      have c5b0 := eq_true c5
      have c5b1 : decide (0 ≤ (ji4)) = true := decide_eq_true c5
      clear c5
      by_cases c6 : (ji4) ≤ 20
      · rw [if_pos c6] at H
        have c6b0 := eq_true c6
        have c6b1 : decide ((ji4) ≤ 20) = true := decide_eq_true c6
        clear c6
        have c7b0 := eq_true (of_decide_eq_true (by first | (with_reducible assumption) | assumption) : 0 ≤ (ji4))
        have c8b0 := eq_true (of_decide_eq_true (by first | (with_reducible assumption) | assumption) : (ji4) ≤ 20)
        replace H := Option.bind_eq_some_iff.mp H
        obtain ⟨t125, A90, H⟩ := H
        replace H : (if t125 = 0 then ((name_May.f ((⟨#[97, 98, 99, 100, 101, 102, 103, 104, 105, 106, 107, 108, 109, 110, 111, 112, 113, 114, 115, 116]⟩ : ByteArray).extract 0 ((ji4) : Int).toNat)).bind fun t126 => (if (ji4) ≥ 1 then (if (t126 == (decide ((ji4) ≤ 8))) = true then ((name_May.f ((⟨#[46, 46, 46, 46, 46, 46, 46, 46, 46, 46, 46, 46, 46, 46, 46, 46, 46, 46, 46, 46]⟩ : ByteArray).extract 0 ((ji4) : Int).toNat)).bind fun t127 => (if (ji4) ≥ 3 then (some (t127 == (decide ((ji4) ≤ 8)))) else (some (t127 == false)))) else (none)) else (if (t126 == false) = true then ((name_May.f ((⟨#[46, 46, 46, 46, 46, 46, 46, 46, 46, 46, 46, 46, 46, 46, 46, 46, 46, 46, 46, 46]⟩ : ByteArray).extract 0 ((ji4) : Int).toNat)).bind fun t128 => (if (ji4) ≥ 3 then (some (t128 == (decide ((ji4) ≤ 8)))) else (some (t128 == false)))) else (none)))) else (none)) = some r := H
        have A9 := Aside0.mk A90
        clear A90
        by_cases c10 : t125 = 0
        · rw [if_pos c10] at H
          have c10b0 : (t125 == 0) = true := beq_iff_eq.mpr c10
          have c10b1 : (t125 != 0) = false := bne_eq_false_iff_eq.mpr c10
          clear c10
          replace H := Option.bind_eq_some_iff.mp H
          obtain ⟨t126, A110, H⟩ := H
          replace H : (if (ji4) ≥ 1 then (if (t126 == (decide ((ji4) ≤ 8))) = true then ((name_May.f ((⟨#[46, 46, 46, 46, 46, 46, 46, 46, 46, 46, 46, 46, 46, 46, 46, 46, 46, 46, 46, 46]⟩ : ByteArray).extract 0 ((ji4) : Int).toNat)).bind fun t127 => (if (ji4) ≥ 3 then (some (t127 == (decide ((ji4) ≤ 8)))) else (some (t127 == false)))) else (none)) else (if (t126 == false) = true then ((name_May.f ((⟨#[46, 46, 46, 46, 46, 46, 46, 46, 46, 46, 46, 46, 46, 46, 46, 46, 46, 46, 46, 46]⟩ : ByteArray).extract 0 ((ji4) : Int).toNat)).bind fun t128 => (if (ji4) ≥ 3 then (some (t128 == (decide ((ji4) ≤ 8)))) else (some (t128 == false)))) else (none))) = some r := H
          have A11 := Aside0.mk A110
          clear A110
          by_cases c12 : (ji4) ≥ 1
          · rw [if_pos c12] at H
            have c12b0 : decide (1 ≤ (ji4)) = true := decide_eq_true c12
            clear c12
            by_cases c13 : (t126 == (decide ((ji4) ≤ 8))) = true
            · rw [if_pos c13] at H
              have c13b0 : (t126 == (decide ((ji4) ≤ 8))) = true := c13
              (try (have c13b1 : decide (t126 = (decide ((ji4) ≤ 8))) = true := by simpa using c13))
              (try (have c13b2 : (t126 == (decide ((ji4) ≤ 8))) = true := by simpa using c13))
              clear c13
              replace H := Option.bind_eq_some_iff.mp H
              obtain ⟨t127, A140, H⟩ := H
              replace H : (if (ji4) ≥ 3 then (some (t127 == (decide ((ji4) ≤ 8)))) else (some (t127 == false))) = some r := H
              have A14 := Aside0.mk A140
              clear A140
              by_cases c15 : (ji4) ≥ 3
              · rw [if_pos c15] at H
                have c15b0 : decide (3 ≤ (ji4)) = true := decide_eq_true c15
                clear c15
                obtain rfl := Option.some.inj H
                go_enter Tryd.func5, Tryd.ntmps5
                go_wp2_with (first | ((with_reducible refine gate_callee (f := 8) rfl ?_); refine goesL_ (some 6) rfl rfl Tryd.func8 (by kernel_rfl) rfl #[] rfl (by (try simp only [List.map_toArray, List.map_cons, List.map_nil]); first | done | rfl | (simp only [List.length_drop, List.length_take]; rfl)) ?_; (with_reducible refine (portagelaw10_awake.calls  true _ A2.out).mono ?_); rintro e w16 ⟨rfl, hb⟩; refine ⟨_, rfl, ?_⟩; have n0_ := Aside0.mk (below_step (by repeat (first | (with_reducible first | exact HB.out | apply below_alloc | apply pw_below_drewN | apply below_drew1) | exact HB.out)) hb); clear HB; have HB := n0_; clear n0_; (try clear hb); (try clear hb2); (try clear hk); (try clear hi)) | ((with_reducible refine gate_callee (f := 9) rfl ?_); refine goesL_ (some 16) rfl rfl Tryd.func9 (by kernel_rfl) rfl #[.int .i64 0] rfl (by (try simp only [List.map_toArray, List.map_cons, List.map_nil]); first | done | rfl | (simp only [List.length_drop, List.length_take]; rfl)) ?_; (with_reducible refine (portagelaw0_Num.calls 0 t125 _ A9.out).mono ?_); rintro e w' ⟨rfl, ⟨nd, rfl⟩⟩; refine ⟨_, rfl, ?_⟩) | (go_at_call 6; (with_reducible refine (name_May.calls ((⟨#[97, 98, 99, 100, 101, 102, 103, 104, 105, 106, 107, 108, 109, 110, 111, 112, 113, 114, 115, 116]⟩ : ByteArray).extract 0 ((ji4) : Int).toNat) t126 _ A11.out).mono ?_); rintro e w17 ⟨rfl, hb⟩; have n0_ := Aside0.mk (below_step (by repeat (first | (with_reducible first | exact HB.out | apply below_alloc | apply pw_below_drewN | apply below_drew1) | exact HB.out)) hb); clear HB; have HB := n0_; clear n0_; (try clear hb); (try clear hb2); (try clear hk); (try clear hi)) | (go_at_call 6; (with_reducible refine (name_May.calls ((⟨#[46, 46, 46, 46, 46, 46, 46, 46, 46, 46, 46, 46, 46, 46, 46, 46, 46, 46, 46, 46]⟩ : ByteArray).extract 0 ((ji4) : Int).toNat) t127 _ A14.out).mono ?_); rintro e w18 ⟨rfl, hb⟩; have n0_ := Aside0.mk (below_step (by repeat (first | (with_reducible first | exact HB.out | apply below_alloc | apply pw_below_drewN | apply below_drew1) | exact HB.out)) hb); clear HB; have HB := n0_; clear n0_; (try clear hb); (try clear hb2); (try clear hk); (try clear hi)))
                go_ret
                exact ⟨by first | rfl | (simp [errW_none, errW_some] <;> rfl) | (simp only [← hji4]; first | rfl | (simp [errW_none, errW_some] <;> rfl)) | (simp [*, errW_none, errW_some] <;> rfl), by repeat (first | (with_reducible first | exact HB.out | apply below_alloc | apply pw_below_drewN | apply below_drew1) | exact HB.out)⟩
              · rw [if_neg c15] at H
                have c15b0 : decide (3 ≤ (ji4)) = false := decide_eq_false c15
                clear c15
                obtain rfl := Option.some.inj H
                go_enter Tryd.func5, Tryd.ntmps5
                go_wp2_with (first | ((with_reducible refine gate_callee (f := 8) rfl ?_); refine goesL_ (some 6) rfl rfl Tryd.func8 (by kernel_rfl) rfl #[] rfl (by (try simp only [List.map_toArray, List.map_cons, List.map_nil]); first | done | rfl | (simp only [List.length_drop, List.length_take]; rfl)) ?_; (with_reducible refine (portagelaw10_awake.calls  true _ A2.out).mono ?_); rintro e w19 ⟨rfl, hb⟩; refine ⟨_, rfl, ?_⟩; have n0_ := Aside0.mk (below_step (by repeat (first | (with_reducible first | exact HB.out | apply below_alloc | apply pw_below_drewN | apply below_drew1) | exact HB.out)) hb); clear HB; have HB := n0_; clear n0_; (try clear hb); (try clear hb2); (try clear hk); (try clear hi)) | ((with_reducible refine gate_callee (f := 9) rfl ?_); refine goesL_ (some 16) rfl rfl Tryd.func9 (by kernel_rfl) rfl #[.int .i64 0] rfl (by (try simp only [List.map_toArray, List.map_cons, List.map_nil]); first | done | rfl | (simp only [List.length_drop, List.length_take]; rfl)) ?_; (with_reducible refine (portagelaw0_Num.calls 0 t125 _ A9.out).mono ?_); rintro e w' ⟨rfl, ⟨nd, rfl⟩⟩; refine ⟨_, rfl, ?_⟩) | (go_at_call 6; (with_reducible refine (name_May.calls ((⟨#[97, 98, 99, 100, 101, 102, 103, 104, 105, 106, 107, 108, 109, 110, 111, 112, 113, 114, 115, 116]⟩ : ByteArray).extract 0 ((ji4) : Int).toNat) t126 _ A11.out).mono ?_); rintro e w20 ⟨rfl, hb⟩; have n0_ := Aside0.mk (below_step (by repeat (first | (with_reducible first | exact HB.out | apply below_alloc | apply pw_below_drewN | apply below_drew1) | exact HB.out)) hb); clear HB; have HB := n0_; clear n0_; (try clear hb); (try clear hb2); (try clear hk); (try clear hi)) | (go_at_call 6; (with_reducible refine (name_May.calls ((⟨#[46, 46, 46, 46, 46, 46, 46, 46, 46, 46, 46, 46, 46, 46, 46, 46, 46, 46, 46, 46]⟩ : ByteArray).extract 0 ((ji4) : Int).toNat) t127 _ A14.out).mono ?_); rintro e w21 ⟨rfl, hb⟩; have n0_ := Aside0.mk (below_step (by repeat (first | (with_reducible first | exact HB.out | apply below_alloc | apply pw_below_drewN | apply below_drew1) | exact HB.out)) hb); clear HB; have HB := n0_; clear n0_; (try clear hb); (try clear hb2); (try clear hk); (try clear hi)))
                go_ret
                exact ⟨by first | rfl | (simp [errW_none, errW_some] <;> rfl) | (simp only [← hji4]; first | rfl | (simp [errW_none, errW_some] <;> rfl)) | (simp [*, errW_none, errW_some] <;> rfl), by repeat (first | (with_reducible first | exact HB.out | apply below_alloc | apply pw_below_drewN | apply below_drew1) | exact HB.out)⟩
            · rw [if_neg c13] at H
              exact absurd H (by simp)
          · rw [if_neg c12] at H
            have c12b0 : decide (1 ≤ (ji4)) = false := decide_eq_false c12
            clear c12
            by_cases c22 : (t126 == false) = true
            · rw [if_pos c22] at H
              have c22b0 : (t126 == false) = true := c22
              (try (have c22b1 : decide (t126 = false) = true := by simpa using c22))
              (try (have c22b2 : (t126 == false) = true := by simpa using c22))
              clear c22
              replace H := Option.bind_eq_some_iff.mp H
              obtain ⟨t128, A230, H⟩ := H
              replace H : (if (ji4) ≥ 3 then (some (t128 == (decide ((ji4) ≤ 8)))) else (some (t128 == false))) = some r := H
              have A23 := Aside0.mk A230
              clear A230
              by_cases c24 : (ji4) ≥ 3
              · rw [if_pos c24] at H
                have c24b0 : decide (3 ≤ (ji4)) = true := decide_eq_true c24
                clear c24
                obtain rfl := Option.some.inj H
                go_enter Tryd.func5, Tryd.ntmps5
                go_wp2_with (first | ((with_reducible refine gate_callee (f := 8) rfl ?_); refine goesL_ (some 6) rfl rfl Tryd.func8 (by kernel_rfl) rfl #[] rfl (by (try simp only [List.map_toArray, List.map_cons, List.map_nil]); first | done | rfl | (simp only [List.length_drop, List.length_take]; rfl)) ?_; (with_reducible refine (portagelaw10_awake.calls  true _ A2.out).mono ?_); rintro e w25 ⟨rfl, hb⟩; refine ⟨_, rfl, ?_⟩; have n0_ := Aside0.mk (below_step (by repeat (first | (with_reducible first | exact HB.out | apply below_alloc | apply pw_below_drewN | apply below_drew1) | exact HB.out)) hb); clear HB; have HB := n0_; clear n0_; (try clear hb); (try clear hb2); (try clear hk); (try clear hi)) | ((with_reducible refine gate_callee (f := 9) rfl ?_); refine goesL_ (some 16) rfl rfl Tryd.func9 (by kernel_rfl) rfl #[.int .i64 0] rfl (by (try simp only [List.map_toArray, List.map_cons, List.map_nil]); first | done | rfl | (simp only [List.length_drop, List.length_take]; rfl)) ?_; (with_reducible refine (portagelaw0_Num.calls 0 t125 _ A9.out).mono ?_); rintro e w' ⟨rfl, ⟨nd, rfl⟩⟩; refine ⟨_, rfl, ?_⟩) | (go_at_call 6; (with_reducible refine (name_May.calls ((⟨#[97, 98, 99, 100, 101, 102, 103, 104, 105, 106, 107, 108, 109, 110, 111, 112, 113, 114, 115, 116]⟩ : ByteArray).extract 0 ((ji4) : Int).toNat) t126 _ A11.out).mono ?_); rintro e w26 ⟨rfl, hb⟩; have n0_ := Aside0.mk (below_step (by repeat (first | (with_reducible first | exact HB.out | apply below_alloc | apply pw_below_drewN | apply below_drew1) | exact HB.out)) hb); clear HB; have HB := n0_; clear n0_; (try clear hb); (try clear hb2); (try clear hk); (try clear hi)) | (go_at_call 6; (with_reducible refine (name_May.calls ((⟨#[46, 46, 46, 46, 46, 46, 46, 46, 46, 46, 46, 46, 46, 46, 46, 46, 46, 46, 46, 46]⟩ : ByteArray).extract 0 ((ji4) : Int).toNat) t128 _ A23.out).mono ?_); rintro e w27 ⟨rfl, hb⟩; have n0_ := Aside0.mk (below_step (by repeat (first | (with_reducible first | exact HB.out | apply below_alloc | apply pw_below_drewN | apply below_drew1) | exact HB.out)) hb); clear HB; have HB := n0_; clear n0_; (try clear hb); (try clear hb2); (try clear hk); (try clear hi)))
                go_ret
                exact ⟨by first | rfl | (simp [errW_none, errW_some] <;> rfl) | (simp only [← hji4]; first | rfl | (simp [errW_none, errW_some] <;> rfl)) | (simp [*, errW_none, errW_some] <;> rfl), by repeat (first | (with_reducible first | exact HB.out | apply below_alloc | apply pw_below_drewN | apply below_drew1) | exact HB.out)⟩
              · rw [if_neg c24] at H
                have c24b0 : decide (3 ≤ (ji4)) = false := decide_eq_false c24
                clear c24
                obtain rfl := Option.some.inj H
                go_enter Tryd.func5, Tryd.ntmps5
                go_wp2_with (first | ((with_reducible refine gate_callee (f := 8) rfl ?_); refine goesL_ (some 6) rfl rfl Tryd.func8 (by kernel_rfl) rfl #[] rfl (by (try simp only [List.map_toArray, List.map_cons, List.map_nil]); first | done | rfl | (simp only [List.length_drop, List.length_take]; rfl)) ?_; (with_reducible refine (portagelaw10_awake.calls  true _ A2.out).mono ?_); rintro e w28 ⟨rfl, hb⟩; refine ⟨_, rfl, ?_⟩; have n0_ := Aside0.mk (below_step (by repeat (first | (with_reducible first | exact HB.out | apply below_alloc | apply pw_below_drewN | apply below_drew1) | exact HB.out)) hb); clear HB; have HB := n0_; clear n0_; (try clear hb); (try clear hb2); (try clear hk); (try clear hi)) | ((with_reducible refine gate_callee (f := 9) rfl ?_); refine goesL_ (some 16) rfl rfl Tryd.func9 (by kernel_rfl) rfl #[.int .i64 0] rfl (by (try simp only [List.map_toArray, List.map_cons, List.map_nil]); first | done | rfl | (simp only [List.length_drop, List.length_take]; rfl)) ?_; (with_reducible refine (portagelaw0_Num.calls 0 t125 _ A9.out).mono ?_); rintro e w' ⟨rfl, ⟨nd, rfl⟩⟩; refine ⟨_, rfl, ?_⟩) | (go_at_call 6; (with_reducible refine (name_May.calls ((⟨#[97, 98, 99, 100, 101, 102, 103, 104, 105, 106, 107, 108, 109, 110, 111, 112, 113, 114, 115, 116]⟩ : ByteArray).extract 0 ((ji4) : Int).toNat) t126 _ A11.out).mono ?_); rintro e w29 ⟨rfl, hb⟩; have n0_ := Aside0.mk (below_step (by repeat (first | (with_reducible first | exact HB.out | apply below_alloc | apply pw_below_drewN | apply below_drew1) | exact HB.out)) hb); clear HB; have HB := n0_; clear n0_; (try clear hb); (try clear hb2); (try clear hk); (try clear hi)) | (go_at_call 6; (with_reducible refine (name_May.calls ((⟨#[46, 46, 46, 46, 46, 46, 46, 46, 46, 46, 46, 46, 46, 46, 46, 46, 46, 46, 46, 46]⟩ : ByteArray).extract 0 ((ji4) : Int).toNat) t128 _ A23.out).mono ?_); rintro e w30 ⟨rfl, hb⟩; have n0_ := Aside0.mk (below_step (by repeat (first | (with_reducible first | exact HB.out | apply below_alloc | apply pw_below_drewN | apply below_drew1) | exact HB.out)) hb); clear HB; have HB := n0_; clear n0_; (try clear hb); (try clear hb2); (try clear hk); (try clear hi)))
                go_ret
                exact ⟨by first | rfl | (simp [errW_none, errW_some] <;> rfl) | (simp only [← hji4]; first | rfl | (simp [errW_none, errW_some] <;> rfl)) | (simp [*, errW_none, errW_some] <;> rfl), by repeat (first | (with_reducible first | exact HB.out | apply below_alloc | apply pw_below_drewN | apply below_drew1) | exact HB.out)⟩
            · rw [if_neg c22] at H
              exact absurd H (by simp)
        · rw [if_neg c10] at H
          exact absurd H (by simp)
      · rw [if_neg c6] at H
        exact absurd H (by simp)
    · rw [if_neg c5] at H
      exact absurd H (by simp)
  · replace c3 := Bool.eq_false_iff.mpr c3
    subst c3
    have H1 : (none) = some r := by rw [if_neg (show ¬ (false = true) by decide)] at H; exact H
    clear H
    have H := H1
    clear H1
    exact absurd H (by simp)

/-- THE ONE PURE STATEMENT of portagelaw10_NameLengths: yours. -/
def portagelaw10_NameLengths.Pure : Prop := ∀ (a0 : Int), (Lit.int .i64 a0).wf = true → portagelaw10_NameLengths.f a0 = some true
theorem portagelaw10_NameLengths.walk (P : portagelaw10_NameLengths.Pure) (a0 : Int) (w : World) (w0 : (Lit.int .i64 a0).wf = true) :
    Calls Tryd.prog 5 #[.int .i64 a0] w fun e w' => e = .returned (.bool true) ∧ Below w.heap.size w w' := by
  have h := P a0 w0
  refine (portagelaw10_NameLengths.calls a0 true w h).mono ?_
  rintro e w' ⟨rfl, hd⟩
  exact ⟨rfl, hd⟩

end Go.Proofs.YtdccnjinehcenaaDoor.N
