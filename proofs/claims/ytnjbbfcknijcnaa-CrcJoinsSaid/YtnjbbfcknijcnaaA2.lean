-- Written by a program of this session out of the translation (a changed copy of the kit's printer).
import Derived.Test.YtnjbbfcknijcnaaA0
import Derived.Test.YtnjbbfcknijcnaaA1
namespace Go.Proofs.Ytnjbbfcknijcnaa.A
open Go.RowKit Go.Proofs.YtnjbbfcknijcnaaW.PrintWords Go.Proofs.YtnjbbfcknijcnaaW.PrintLast Go.Proofs.YtnjbbfcknijcnaaW.PrintMore
attribute [local go_sem] max2_int min2_int max_two min_two max_three min_three max_four min_four   -- for this text's walks alone
set_option linter.unusedVariables false
set_option linter.unusedSimpArgs false

/-! ### portagelaw2_awake: function 33 -/
def portagelaw2_awake.f (k : Nat)  : Option (Bool) := (portagelaw0_Num.f 0).bind fun t104 => (if t104 = 0 then ((crc_Of.f k (⟨#[49, 50, 51, 52, 53, 54, 55, 56, 57]⟩ : ByteArray)).bind fun t105 => (if t105 = 3421780262 then ((crc_Of.f k (⟨#[]⟩ : ByteArray)).bind fun t106 => (if t106 = 0 then ((crc_Of.f k (⟨#[49, 50, 51, 52, 53]⟩ : ByteArray)).bind fun t107 => ((crc_Join.f k t107 (⟨#[54, 55, 56, 57]⟩ : ByteArray)).bind fun t108 => (some (t108 == 3421780262)))) else (none))) else (none))) else (none))
theorem portagelaw2_awake.mono : ∀ k, LeO (portagelaw2_awake.f k ) (portagelaw2_awake.f (k + 1) ) := by
  intro  k
  unfold portagelaw2_awake.f
  repeat' first
      | (with_reducible exact crc_Join.mono _ _ _)
      | (with_reducible exact crc_Of.mono _ _)
      | (with_reducible exact LeO.refl _)
      | (with_reducible exact LeO.none _)
      | (with_reducible refine LeO.ite ?_ ?_)
      | (with_reducible refine LeO.bind ?_ (fun _ => ?_))
      | exact crc_Join.mono _ _ _
      | exact crc_Of.mono _ _
      | exact LeO.none _
      | refine LeO.ite ?_ ?_
      | refine LeO.bind ?_ (fun _ => ?_)
set_option maxHeartbeats 8000000 in
set_option maxRecDepth 100000 in
theorem portagelaw2_awake.calls (k : Nat)  (r : Bool) (w : World) (h : portagelaw2_awake.f k  = some r) :
    Calls Try.prog 33 #[] w fun e w' => e = .returned (.bool r) ∧ Drawn0 w w' := by
  have H : ((portagelaw0_Num.f 0).bind fun t104 => (if t104 = 0 then ((crc_Of.f k (⟨#[49, 50, 51, 52, 53, 54, 55, 56, 57]⟩ : ByteArray)).bind fun t105 => (if t105 = 3421780262 then ((crc_Of.f k (⟨#[]⟩ : ByteArray)).bind fun t106 => (if t106 = 0 then ((crc_Of.f k (⟨#[49, 50, 51, 52, 53]⟩ : ByteArray)).bind fun t107 => ((crc_Join.f k t107 (⟨#[54, 55, 56, 57]⟩ : ByteArray)).bind fun t108 => (some (t108 == 3421780262)))) else (none))) else (none))) else (none))) = some r := h
  clear h
  replace H := Option.bind_eq_some_iff.mp H
  obtain ⟨t104, A10, H⟩ := H
  replace H : (if t104 = 0 then ((crc_Of.f k (⟨#[49, 50, 51, 52, 53, 54, 55, 56, 57]⟩ : ByteArray)).bind fun t105 => (if t105 = 3421780262 then ((crc_Of.f k (⟨#[]⟩ : ByteArray)).bind fun t106 => (if t106 = 0 then ((crc_Of.f k (⟨#[49, 50, 51, 52, 53]⟩ : ByteArray)).bind fun t107 => ((crc_Join.f k t107 (⟨#[54, 55, 56, 57]⟩ : ByteArray)).bind fun t108 => (some (t108 == 3421780262)))) else (none))) else (none))) else (none)) = some r := H
  have A1 := Aside0.mk A10
  clear A10
  by_cases c2 : t104 = 0
  · rw [if_pos c2] at H
    have c2b0 : (t104 == 0) = true := beq_iff_eq.mpr c2
    have c2b1 : (t104 != 0) = false := bne_eq_false_iff_eq.mpr c2
    clear c2
    replace H := Option.bind_eq_some_iff.mp H
    obtain ⟨t105, A30, H⟩ := H
    replace H : (if t105 = 3421780262 then ((crc_Of.f k (⟨#[]⟩ : ByteArray)).bind fun t106 => (if t106 = 0 then ((crc_Of.f k (⟨#[49, 50, 51, 52, 53]⟩ : ByteArray)).bind fun t107 => ((crc_Join.f k t107 (⟨#[54, 55, 56, 57]⟩ : ByteArray)).bind fun t108 => (some (t108 == 3421780262)))) else (none))) else (none)) = some r := H
    have A3 := Aside0.mk A30
    clear A30
    by_cases c4 : t105 = 3421780262
    · rw [if_pos c4] at H
      have c4b0 : (t105 == 3421780262) = true := beq_iff_eq.mpr c4
      have c4b1 : (t105 != 3421780262) = false := bne_eq_false_iff_eq.mpr c4
      clear c4
      replace H := Option.bind_eq_some_iff.mp H
      obtain ⟨t106, A50, H⟩ := H
      replace H : (if t106 = 0 then ((crc_Of.f k (⟨#[49, 50, 51, 52, 53]⟩ : ByteArray)).bind fun t107 => ((crc_Join.f k t107 (⟨#[54, 55, 56, 57]⟩ : ByteArray)).bind fun t108 => (some (t108 == 3421780262)))) else (none)) = some r := H
      have A5 := Aside0.mk A50
      clear A50
      by_cases c6 : t106 = 0
      · rw [if_pos c6] at H
        have c6b0 : (t106 == 0) = true := beq_iff_eq.mpr c6
        have c6b1 : (t106 != 0) = false := bne_eq_false_iff_eq.mpr c6
        clear c6
        replace H := Option.bind_eq_some_iff.mp H
        obtain ⟨t107, A70, H⟩ := H
        replace H : ((crc_Join.f k t107 (⟨#[54, 55, 56, 57]⟩ : ByteArray)).bind fun t108 => (some (t108 == 3421780262))) = some r := H
        have A7 := Aside0.mk A70
        clear A70
        replace H := Option.bind_eq_some_iff.mp H
        obtain ⟨t108, A80, H⟩ := H
        replace H : (some (t108 == 3421780262)) = some r := H
        have A8 := Aside0.mk A80
        clear A80
        obtain rfl := Option.some.inj H
        go_enter Try.func33, Try.ntmps33
        go_wp2_with (first | ((with_reducible refine gate_callee (f := 34) rfl ?_); refine goesL_ (some 1) rfl rfl Try.func34 (by kernel_rfl) rfl #[.int .i64 0] rfl (by (try simp only [List.map_toArray, List.map_cons, List.map_nil]); first | done | rfl | (simp only [List.length_drop, List.length_take]; rfl)) ?_; (with_reducible refine (portagelaw0_Num.calls 0 t104 _ A1.out).mono ?_); rintro e w' ⟨rfl, ⟨nd, rfl⟩⟩; refine ⟨_, rfl, ?_⟩) | (go_at_call 29; (with_reducible refine (crc_Of.calls k (⟨#[49, 50, 51, 52, 53, 54, 55, 56, 57]⟩ : ByteArray) t105 _ A3.out).mono ?_); rintro e w' ⟨rfl, ⟨nd, rfl⟩⟩) | (go_at_call 29; (with_reducible refine (crc_Of.calls k (⟨#[]⟩ : ByteArray) t106 _ A5.out).mono ?_); rintro e w' ⟨rfl, ⟨nd, rfl⟩⟩) | (go_at_call 29; (with_reducible refine (crc_Of.calls k (⟨#[49, 50, 51, 52, 53]⟩ : ByteArray) t107 _ A7.out).mono ?_); rintro e w' ⟨rfl, ⟨nd, rfl⟩⟩) | (go_at_call 31; (with_reducible refine (crc_Join.calls k t107 (⟨#[54, 55, 56, 57]⟩ : ByteArray) t108 _ A8.out).mono ?_); rintro e w' ⟨rfl, ⟨nd, rfl⟩⟩))
        go_ret
        exact ⟨by first | rfl | (simp; done) | (simp [*]; done), by repeat (first | exact Drawn0.refl _ | apply Drawn0.step)⟩
      · rw [if_neg c6] at H
        exact absurd H (by simp)
    · rw [if_neg c4] at H
      exact absurd H (by simp)
  · rw [if_neg c2] at H
    exact absurd H (by simp)

/-! ### portagelaw2_Crcs: function 4 -/
def portagelaw2_Crcs.f (k : Nat) (a0 : ByteArray) (a1 : Int) : Option (Bool) := (crc_Of.f k a0).bind fun t109 => ((portageref1_Crc.f k a0).bind fun t110 => (if t109 = t110 then ((crc_Join.f k a1 a0).bind fun t111 => ((portageref1_Join.f k a1 a0).bind fun t112 => (if t111 = t112 then ((portagelaw2_awake.f k).bind fun t113 => (some t113)) else (none)))) else (none)))
theorem portagelaw2_Crcs.mono : ∀ a0 a1 k, LeO (portagelaw2_Crcs.f k a0 a1) (portagelaw2_Crcs.f (k + 1) a0 a1) := by
  intro a0 a1 k
  unfold portagelaw2_Crcs.f
  repeat' first
      | (with_reducible exact crc_Join.mono _ _ _)
      | (with_reducible exact crc_Of.mono _ _)
      | (with_reducible exact portagelaw2_awake.mono _)
      | (with_reducible exact portageref1_Crc.mono _ _)
      | (with_reducible exact portageref1_Join.mono _ _ _)
      | (with_reducible exact LeO.refl _)
      | (with_reducible exact LeO.none _)
      | (with_reducible refine LeO.ite ?_ ?_)
      | (with_reducible refine LeO.bind ?_ (fun _ => ?_))
      | exact crc_Join.mono _ _ _
      | exact crc_Of.mono _ _
      | exact portagelaw2_awake.mono _
      | exact portageref1_Crc.mono _ _
      | exact portageref1_Join.mono _ _ _
      | exact LeO.none _
      | refine LeO.ite ?_ ?_
      | refine LeO.bind ?_ (fun _ => ?_)
set_option maxHeartbeats 8000000 in
set_option maxRecDepth 100000 in
theorem portagelaw2_Crcs.calls (k : Nat) (a0 : ByteArray) (a1 : Int) (r : Bool) (w : World) (h : portagelaw2_Crcs.f k a0 a1 = some r) :
    Calls Try.prog 4 #[.string a0, .int .i64 a1] w fun e w' => e = .returned (.bool r) ∧ Drawn0 w w' := by
  have H : ((crc_Of.f k a0).bind fun t109 => ((portageref1_Crc.f k a0).bind fun t110 => (if t109 = t110 then ((crc_Join.f k a1 a0).bind fun t111 => ((portageref1_Join.f k a1 a0).bind fun t112 => (if t111 = t112 then ((portagelaw2_awake.f k).bind fun t113 => (some t113)) else (none)))) else (none)))) = some r := h
  clear h
  replace H := Option.bind_eq_some_iff.mp H
  obtain ⟨t109, A30, H⟩ := H
  replace H : ((portageref1_Crc.f k a0).bind fun t110 => (if t109 = t110 then ((crc_Join.f k a1 a0).bind fun t111 => ((portageref1_Join.f k a1 a0).bind fun t112 => (if t111 = t112 then ((portagelaw2_awake.f k).bind fun t113 => (some t113)) else (none)))) else (none))) = some r := H
  have A3 := Aside0.mk A30
  clear A30
  replace H := Option.bind_eq_some_iff.mp H
  obtain ⟨t110, A40, H⟩ := H
  replace H : (if t109 = t110 then ((crc_Join.f k a1 a0).bind fun t111 => ((portageref1_Join.f k a1 a0).bind fun t112 => (if t111 = t112 then ((portagelaw2_awake.f k).bind fun t113 => (some t113)) else (none)))) else (none)) = some r := H
  have A4 := Aside0.mk A40
  clear A40
  by_cases c5 : t109 = t110
  · rw [if_pos c5] at H
    have c5b0 : (t109 == t110) = true := beq_iff_eq.mpr c5
    have c5b1 : (t109 != t110) = false := bne_eq_false_iff_eq.mpr c5
    clear c5
    replace H := Option.bind_eq_some_iff.mp H
    obtain ⟨t111, A60, H⟩ := H
    replace H : ((portageref1_Join.f k a1 a0).bind fun t112 => (if t111 = t112 then ((portagelaw2_awake.f k).bind fun t113 => (some t113)) else (none))) = some r := H
    have A6 := Aside0.mk A60
    clear A60
    replace H := Option.bind_eq_some_iff.mp H
    obtain ⟨t112, A70, H⟩ := H
    replace H : (if t111 = t112 then ((portagelaw2_awake.f k).bind fun t113 => (some t113)) else (none)) = some r := H
    have A7 := Aside0.mk A70
    clear A70
    by_cases c8 : t111 = t112
    · rw [if_pos c8] at H
      have c8b0 : (t111 == t112) = true := beq_iff_eq.mpr c8
      have c8b1 : (t111 != t112) = false := bne_eq_false_iff_eq.mpr c8
      clear c8
      replace H := Option.bind_eq_some_iff.mp H
      obtain ⟨t113, A90, H⟩ := H
      replace H : (some t113) = some r := H
      have A9 := Aside0.mk A90
      clear A90
      obtain rfl := Option.some.inj H
      go_enter Try.func4, Try.ntmps4
      go_wp2_with (first | ((with_reducible refine gate_callee (f := 29) rfl ?_); refine goesL_ (some 6) rfl rfl Try.func29 (by kernel_rfl) rfl #[.string a0] rfl (by (try simp only [List.map_toArray, List.map_cons, List.map_nil]); first | done | rfl | (simp only [List.length_drop, List.length_take]; rfl)) ?_; (with_reducible refine (crc_Of.calls k a0 t109 _ A3.out).mono ?_); rintro e w' ⟨rfl, ⟨nd, rfl⟩⟩; refine ⟨_, rfl, ?_⟩) | ((with_reducible refine gate_callee (f := 30) rfl ?_); refine goesL_ (some 8) rfl rfl Try.func30 (by kernel_rfl) rfl #[.string a0] rfl (by (try simp only [List.map_toArray, List.map_cons, List.map_nil]); first | done | rfl | (simp only [List.length_drop, List.length_take]; rfl)) ?_; (with_reducible refine (portageref1_Crc.calls k a0 t110 _ A4.out).mono ?_); rintro e w' ⟨rfl, ⟨nd, rfl⟩⟩; refine ⟨_, rfl, ?_⟩) | (go_at_call 31; (with_reducible refine (crc_Join.calls k a1 a0 t111 _ A6.out).mono ?_); rintro e w' ⟨rfl, ⟨nd, rfl⟩⟩) | (go_at_call 32; (with_reducible refine (portageref1_Join.calls k a1 a0 t112 _ A7.out).mono ?_); rintro e w' ⟨rfl, ⟨nd, rfl⟩⟩) | (go_at_call 33; (with_reducible refine (portagelaw2_awake.calls k  t113 _ A9.out).mono ?_); rintro e w' ⟨rfl, ⟨nd, rfl⟩⟩))
      go_ret
      exact ⟨by first | rfl | (simp; done) | (simp [*]; done), by repeat (first | exact Drawn0.refl _ | apply Drawn0.step)⟩
    · rw [if_neg c8] at H
      exact absurd H (by simp)
  · rw [if_neg c5] at H
    exact absurd H (by simp)

/-- THE ONE PURE STATEMENT of portagelaw2_Crcs: yours. -/
def portagelaw2_Crcs.Pure : Prop := ∀ (a0 : ByteArray) (a1 : Int), a0.size ≤ 140737488351232 → (Lit.int .i64 a1).wf = true → ∃ k, portagelaw2_Crcs.f k a0 a1 = some true
theorem portagelaw2_Crcs.walk (P : portagelaw2_Crcs.Pure) (a0 : ByteArray) (a1 : Int) (w : World) (w0 : a0.size ≤ 140737488351232) (w1 : (Lit.int .i64 a1).wf = true) :
    Calls Try.prog 4 #[.string a0, .int .i64 a1] w fun e w' => e = .returned (.bool true) ∧ Below w.heap.size w w' := by
  obtain ⟨k, h⟩ := P a0 a1 w0 w1
  refine (portagelaw2_Crcs.calls k a0 a1 true w h).mono ?_
  rintro e w' ⟨rfl, hd⟩
  exact ⟨rfl, hd.below⟩

end Go.Proofs.Ytnjbbfcknijcnaa.A
