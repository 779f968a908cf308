-- Written by a program of this session out of the translation (a changed copy of the kit's printer).
import Derived.Test.YtdccnjinehcenaaDoorN0
import Derived.Test.YtdccnjinehcenaaDoorN1
import Derived.Test.YtdccnjinehcenaaDoorN2
namespace Go.Proofs.YtdccnjinehcenaaDoor.N
open Go.RowKit Go.Proofs.YtdccnjinehcenaaDoorW.PrintWords Go.Proofs.YtdccnjinehcenaaDoorW.PrintLast Go.Proofs.YtdccnjinehcenaaDoorW.PrintMore
attribute [local go_sem] max2_int min2_int max_two min_two max_three min_three max_four min_four   -- for this text's walks alone
set_option linter.unusedVariables false
set_option linter.unusedSimpArgs false

/-! ### portagelaw0_Num: function 9 -/
def portagelaw0_Num.f (a0 : Int) : Option (Int) := some a0
set_option maxHeartbeats 8000000 in
set_option maxRecDepth 100000 in
theorem portagelaw0_Num.calls (a0 : Int) (r : Int) (w : World) (h : portagelaw0_Num.f a0 = some r) :
    Calls Tryd.prog 9 #[.int .i64 a0] w fun e w' => e = .returned (.int .i64 r) ∧ Drawn0 w w' := by
  have H : (some a0) = some r := h
  clear h
  obtain rfl := Option.some.inj H
  go_enter Tryd.func9, Tryd.ntmps9
  go_wp2
  go_ret
  exact ⟨by first | rfl | (simp; done) | (simp [*]; done), by repeat (first | exact Drawn0.refl _ | apply Drawn0.step)⟩

/-! ### portagelaw10_awake: function 8 -/
def portagelaw10_awake.f  : Option (Bool) := (portagelaw0_Num.f 0).bind fun t103 => (if t103 = 0 then ((name_May.f (⟨#[97, 45, 49, 95, 46, 122]⟩ : ByteArray)).bind fun t104 => (if t104 = true then ((name_May.f (⟨#[]⟩ : ByteArray)).bind fun t105 => (if t105 = true then (none) else ((name_May.f (⟨#[46, 46]⟩ : ByteArray)).bind fun t106 => (if t106 = true then (none) else ((name_May.f (⟨#[65]⟩ : ByteArray)).bind fun t107 => (if t107 = true then (none) else ((name_May.f (⟨#[110, 105, 110, 101, 99, 104, 97, 114, 115]⟩ : ByteArray)).bind fun t108 => (if t108 = true then (none) else ((name_May.f (⟨#[46, 46, 46]⟩ : ByteArray)).bind fun t109 => (some t109)))))))))) else (none))) else (none))
set_option maxHeartbeats 8000000 in
set_option maxRecDepth 100000 in
theorem portagelaw10_awake.calls  (r : Bool) (w : World) (h : portagelaw10_awake.f  = some r) :
    Calls Tryd.prog 8 #[] w fun e w' => e = .returned (.bool r) ∧ Below w.heap.size w w' := by
  have HB := Aside0.mk (Below.refl w.heap.size w)
  have H : ((portagelaw0_Num.f 0).bind fun t103 => (if t103 = 0 then ((name_May.f (⟨#[97, 45, 49, 95, 46, 122]⟩ : ByteArray)).bind fun t104 => (if t104 = true then ((name_May.f (⟨#[]⟩ : ByteArray)).bind fun t105 => (if t105 = true then (none) else ((name_May.f (⟨#[46, 46]⟩ : ByteArray)).bind fun t106 => (if t106 = true then (none) else ((name_May.f (⟨#[65]⟩ : ByteArray)).bind fun t107 => (if t107 = true then (none) else ((name_May.f (⟨#[110, 105, 110, 101, 99, 104, 97, 114, 115]⟩ : ByteArray)).bind fun t108 => (if t108 = true then (none) else ((name_May.f (⟨#[46, 46, 46]⟩ : ByteArray)).bind fun t109 => (some t109)))))))))) else (none))) else (none))) = some r := h
  clear h
  replace H := Option.bind_eq_some_iff.mp H
  obtain ⟨t103, A10, H⟩ := H
  replace H : (if t103 = 0 then ((name_May.f (⟨#[97, 45, 49, 95, 46, 122]⟩ : ByteArray)).bind fun t104 => (if t104 = true then ((name_May.f (⟨#[]⟩ : ByteArray)).bind fun t105 => (if t105 = true then (none) else ((name_May.f (⟨#[46, 46]⟩ : ByteArray)).bind fun t106 => (if t106 = true then (none) else ((name_May.f (⟨#[65]⟩ : ByteArray)).bind fun t107 => (if t107 = true then (none) else ((name_May.f (⟨#[110, 105, 110, 101, 99, 104, 97, 114, 115]⟩ : ByteArray)).bind fun t108 => (if t108 = true then (none) else ((name_May.f (⟨#[46, 46, 46]⟩ : ByteArray)).bind fun t109 => (some t109)))))))))) else (none))) else (none)) = some r := H
  have A1 := Aside0.mk A10
  clear A10
  by_cases c2 : t103 = 0
  · rw [if_pos c2] at H
    have c2b0 : (t103 == 0) = true := beq_iff_eq.mpr c2
    have c2b1 : (t103 != 0) = false := bne_eq_false_iff_eq.mpr c2
    clear c2
    replace H := Option.bind_eq_some_iff.mp H
    obtain ⟨t104, A30, H⟩ := H
    replace H : (if t104 = true then ((name_May.f (⟨#[]⟩ : ByteArray)).bind fun t105 => (if t105 = true then (none) else ((name_May.f (⟨#[46, 46]⟩ : ByteArray)).bind fun t106 => (if t106 = true then (none) else ((name_May.f (⟨#[65]⟩ : ByteArray)).bind fun t107 => (if t107 = true then (none) else ((name_May.f (⟨#[110, 105, 110, 101, 99, 104, 97, 114, 115]⟩ : ByteArray)).bind fun t108 => (if t108 = true then (none) else ((name_May.f (⟨#[46, 46, 46]⟩ : ByteArray)).bind fun t109 => (some t109)))))))))) else (none)) = some r := H
    have A3 := Aside0.mk A30
    clear A30
    by_cases c4 : t104 = true
    · subst c4
      have H1 : ((name_May.f (⟨#[]⟩ : ByteArray)).bind fun t105 => (if t105 = true then (none) else ((name_May.f (⟨#[46, 46]⟩ : ByteArray)).bind fun t106 => (if t106 = true then (none) else ((name_May.f (⟨#[65]⟩ : ByteArray)).bind fun t107 => (if t107 = true then (none) else ((name_May.f (⟨#[110, 105, 110, 101, 99, 104, 97, 114, 115]⟩ : ByteArray)).bind fun t108 => (if t108 = true then (none) else ((name_May.f (⟨#[46, 46, 46]⟩ : ByteArray)).bind fun t109 => (some t109)))))))))) = some r := by rw [if_pos rfl] at H; exact H
      clear H
      have H := H1
      clear H1
      replace H := Option.bind_eq_some_iff.mp H
      obtain ⟨t105, A50, H⟩ := H
      replace H : (if t105 = true then (none) else ((name_May.f (⟨#[46, 46]⟩ : ByteArray)).bind fun t106 => (if t106 = true then (none) else ((name_May.f (⟨#[65]⟩ : ByteArray)).bind fun t107 => (if t107 = true then (none) else ((name_May.f (⟨#[110, 105, 110, 101, 99, 104, 97, 114, 115]⟩ : ByteArray)).bind fun t108 => (if t108 = true then (none) else ((name_May.f (⟨#[46, 46, 46]⟩ : ByteArray)).bind fun t109 => (some t109))))))))) = some r := H
      have A5 := Aside0.mk A50
      clear A50
      by_cases c6 : t105 = true
      · subst c6
        have H1 : (none) = some r := by rw [if_pos rfl] at H; exact H
        clear H
        have H := H1
        clear H1
        exact absurd H (by simp)
      · replace c6 := Bool.eq_false_iff.mpr c6
        subst c6
        have H1 : ((name_May.f (⟨#[46, 46]⟩ : ByteArray)).bind fun t106 => (if t106 = true then (none) else ((name_May.f (⟨#[65]⟩ : ByteArray)).bind fun t107 => (if t107 = true then (none) else ((name_May.f (⟨#[110, 105, 110, 101, 99, 104, 97, 114, 115]⟩ : ByteArray)).bind fun t108 => (if t108 = true then (none) else ((name_May.f (⟨#[46, 46, 46]⟩ : ByteArray)).bind fun t109 => (some t109)))))))) = some r := by rw [if_neg (show ¬ (false = true) by decide)] at H; exact H
        clear H
        have H := H1
        clear H1
        replace H := Option.bind_eq_some_iff.mp H
        obtain ⟨t106, A70, H⟩ := H
        replace H : (if t106 = true then (none) else ((name_May.f (⟨#[65]⟩ : ByteArray)).bind fun t107 => (if t107 = true then (none) else ((name_May.f (⟨#[110, 105, 110, 101, 99, 104, 97, 114, 115]⟩ : ByteArray)).bind fun t108 => (if t108 = true then (none) else ((name_May.f (⟨#[46, 46, 46]⟩ : ByteArray)).bind fun t109 => (some t109))))))) = some r := H
        have A7 := Aside0.mk A70
        clear A70
        by_cases c8 : t106 = true
        · subst c8
          have H1 : (none) = some r := by rw [if_pos rfl] at H; exact H
          clear H
          have H := H1
          clear H1
          exact absurd H (by simp)
        · replace c8 := Bool.eq_false_iff.mpr c8
          subst c8
          have H1 : ((name_May.f (⟨#[65]⟩ : ByteArray)).bind fun t107 => (if t107 = true then (none) else ((name_May.f (⟨#[110, 105, 110, 101, 99, 104, 97, 114, 115]⟩ : ByteArray)).bind fun t108 => (if t108 = true then (none) else ((name_May.f (⟨#[46, 46, 46]⟩ : ByteArray)).bind fun t109 => (some t109)))))) = some r := by rw [if_neg (show ¬ (false = true) by decide)] at H; exact H
          clear H
          have H := H1
          clear H1
          replace H := Option.bind_eq_some_iff.mp H
          obtain ⟨t107, A90, H⟩ := H
          replace H : (if t107 = true then (none) else ((name_May.f (⟨#[110, 105, 110, 101, 99, 104, 97, 114, 115]⟩ : ByteArray)).bind fun t108 => (if t108 = true then (none) else ((name_May.f (⟨#[46, 46, 46]⟩ : ByteArray)).bind fun t109 => (some t109))))) = some r := H
          have A9 := Aside0.mk A90
          clear A90
          by_cases c10 : t107 = true
          · subst c10
            have H1 : (none) = some r := by rw [if_pos rfl] at H; exact H
            clear H
            have H := H1
            clear H1
            exact absurd H (by simp)
          · replace c10 := Bool.eq_false_iff.mpr c10
            subst c10
            have H1 : ((name_May.f (⟨#[110, 105, 110, 101, 99, 104, 97, 114, 115]⟩ : ByteArray)).bind fun t108 => (if t108 = true then (none) else ((name_May.f (⟨#[46, 46, 46]⟩ : ByteArray)).bind fun t109 => (some t109)))) = some r := by rw [if_neg (show ¬ (false = true) by decide)] at H; exact H
            clear H
            have H := H1
            clear H1
            replace H := Option.bind_eq_some_iff.mp H
            obtain ⟨t108, A110, H⟩ := H
            replace H : (if t108 = true then (none) else ((name_May.f (⟨#[46, 46, 46]⟩ : ByteArray)).bind fun t109 => (some t109))) = some r := H
            have A11 := Aside0.mk A110
            clear A110
            by_cases c12 : t108 = true
            · subst c12
              have H1 : (none) = some r := by rw [if_pos rfl] at H; exact H
              clear H
              have H := H1
              clear H1
              exact absurd H (by simp)
            · replace c12 := Bool.eq_false_iff.mpr c12
              subst c12
              have H1 : ((name_May.f (⟨#[46, 46, 46]⟩ : ByteArray)).bind fun t109 => (some t109)) = some r := by rw [if_neg (show ¬ (false = true) by decide)] at H; exact H
              clear H
              have H := H1
              clear H1
              replace H := Option.bind_eq_some_iff.mp H
              obtain ⟨t109, A130, H⟩ := H
              replace H : (some t109) = some r := H
              have A13 := Aside0.mk A130
              clear A130
              obtain rfl := Option.some.inj H
              go_enter Tryd.func8, Tryd.ntmps8
              go_wp2_with (first | ((with_reducible refine gate_callee (f := 9) rfl ?_); refine goesL_ (some 1) rfl rfl Tryd.func9 (by kernel_rfl) rfl #[.int .i64 0] rfl (by (try simp only [List.map_toArray, List.map_cons, List.map_nil]); first | done | rfl | (simp only [List.length_drop, List.length_take]; rfl)) ?_; (with_reducible refine (portagelaw0_Num.calls 0 t103 _ A1.out).mono ?_); rintro e w' ⟨rfl, ⟨nd, rfl⟩⟩; refine ⟨_, rfl, ?_⟩) | (go_at_call 6; (with_reducible refine (name_May.calls (⟨#[97, 45, 49, 95, 46, 122]⟩ : ByteArray) true _ A3.out).mono ?_); rintro e w14 ⟨rfl, hb⟩; have n0_ := Aside0.mk (below_step (by repeat (first | (with_reducible first | exact HB.out | apply below_alloc | apply pw_below_drewN | apply below_drew1) | exact HB.out)) hb); clear HB; have HB := n0_; clear n0_; (try clear hb); (try clear hb2); (try clear hk); (try clear hi)) | (go_at_call 6; (with_reducible refine (name_May.calls (⟨#[]⟩ : ByteArray) false _ A5.out).mono ?_); rintro e w15 ⟨rfl, hb⟩; have n0_ := Aside0.mk (below_step (by repeat (first | (with_reducible first | exact HB.out | apply below_alloc | apply pw_below_drewN | apply below_drew1) | exact HB.out)) hb); clear HB; have HB := n0_; clear n0_; (try clear hb); (try clear hb2); (try clear hk); (try clear hi)) | (go_at_call 6; (with_reducible refine (name_May.calls (⟨#[46, 46]⟩ : ByteArray) false _ A7.out).mono ?_); rintro e w16 ⟨rfl, hb⟩; have n0_ := Aside0.mk (below_step (by repeat (first | (with_reducible first | exact HB.out | apply below_alloc | apply pw_below_drewN | apply below_drew1) | exact HB.out)) hb); clear HB; have HB := n0_; clear n0_; (try clear hb); (try clear hb2); (try clear hk); (try clear hi)) | (go_at_call 6; (with_reducible refine (name_May.calls (⟨#[65]⟩ : ByteArray) false _ A9.out).mono ?_); rintro e w17 ⟨rfl, hb⟩; have n0_ := Aside0.mk (below_step (by repeat (first | (with_reducible first | exact HB.out | apply below_alloc | apply pw_below_drewN | apply below_drew1) | exact HB.out)) hb); clear HB; have HB := n0_; clear n0_; (try clear hb); (try clear hb2); (try clear hk); (try clear hi)) | (go_at_call 6; (with_reducible refine (name_May.calls (⟨#[110, 105, 110, 101, 99, 104, 97, 114, 115]⟩ : ByteArray) false _ A11.out).mono ?_); rintro e w18 ⟨rfl, hb⟩; have n0_ := Aside0.mk (below_step (by repeat (first | (with_reducible first | exact HB.out | apply below_alloc | apply pw_below_drewN | apply below_drew1) | exact HB.out)) hb); clear HB; have HB := n0_; clear n0_; (try clear hb); (try clear hb2); (try clear hk); (try clear hi)) | (go_at_call 6; (with_reducible refine (name_May.calls (⟨#[46, 46, 46]⟩ : ByteArray) t109 _ A13.out).mono ?_); rintro e w19 ⟨rfl, hb⟩; have n0_ := Aside0.mk (below_step (by repeat (first | (with_reducible first | exact HB.out | apply below_alloc | apply pw_below_drewN | apply below_drew1) | exact HB.out)) hb); clear HB; have HB := n0_; clear n0_; (try clear hb); (try clear hb2); (try clear hk); (try clear hi)))
              go_ret
              exact ⟨by first | rfl | (simp [errW_none, errW_some] <;> rfl) | (simp [*, errW_none, errW_some] <;> rfl), by repeat (first | (with_reducible first | exact HB.out | apply below_alloc | apply pw_below_drewN | apply below_drew1) | exact HB.out)⟩
    · replace c4 := Bool.eq_false_iff.mpr c4
      subst c4
      have H1 : (none) = some r := by rw [if_neg (show ¬ (false = true) by decide)] at H; exact H
      clear H
      have H := H1
      clear H1
      exact absurd H (by simp)
  · rw [if_neg c2] at H
    exact absurd H (by simp)

/-! ### portagelaw10_Names: function 3 -/
def portagelaw10_Names.f (k : Nat) (a0 : ByteArray) : Option (Bool) := (name_May.f a0).bind fun t110 => ((portageref10_NameMay.f k a0).bind fun t111 => (if (t110 == t111) = true then ((portagelaw10_awake.f).bind fun t112 => (some t112)) else (none)))
theorem portagelaw10_Names.mono : ∀ a0 k, LeO (portagelaw10_Names.f k a0) (portagelaw10_Names.f (k + 1) a0) := by
  intro a0 k
  unfold portagelaw10_Names.f
  repeat' first
      | (with_reducible exact portageref10_NameMay.mono _ _)
      | (with_reducible exact LeO.refl _)
      | (with_reducible exact LeO.none _)
      | (with_reducible refine LeO.ite ?_ ?_)
      | (with_reducible refine LeO.bind ?_ (fun _ => ?_))
      | exact portageref10_NameMay.mono _ _
      | exact LeO.none _
      | refine LeO.ite ?_ ?_
      | refine LeO.bind ?_ (fun _ => ?_)
set_option maxHeartbeats 8000000 in
set_option maxRecDepth 100000 in
theorem portagelaw10_Names.calls (k : Nat) (a0 : ByteArray) (r : Bool) (w : World) (h : portagelaw10_Names.f k a0 = some r) :
    Calls Tryd.prog 3 #[.string a0] w fun e w' => e = .returned (.bool r) ∧ Below w.heap.size w w' := by
  have HB := Aside0.mk (Below.refl w.heap.size w)
  have H : ((name_May.f a0).bind fun t110 => ((portageref10_NameMay.f k a0).bind fun t111 => (if (t110 == t111) = true then ((portagelaw10_awake.f).bind fun t112 => (some t112)) else (none)))) = some r := h
  clear h
  replace H := Option.bind_eq_some_iff.mp H
  obtain ⟨t110, A20, H⟩ := H
  replace H : ((portageref10_NameMay.f k a0).bind fun t111 => (if (t110 == t111) = true then ((portagelaw10_awake.f).bind fun t112 => (some t112)) else (none))) = some r := H
  have A2 := Aside0.mk A20
  clear A20
  replace H := Option.bind_eq_some_iff.mp H
  obtain ⟨t111, A30, H⟩ := H
  replace H : (if (t110 == t111) = true then ((portagelaw10_awake.f).bind fun t112 => (some t112)) else (none)) = some r := H
  have A3 := Aside0.mk A30
  clear A30
  by_cases c4 : (t110 == t111) = true
  · rw [if_pos c4] at H
    have c4b0 : (t110 == t111) = true := c4
    (try (have c4b1 : decide (t110 = t111) = true := by simpa using c4))
    (try (have c4b2 : (t110 == t111) = true := by simpa using c4))
    clear c4
    replace H := Option.bind_eq_some_iff.mp H
    obtain ⟨t112, A50, H⟩ := H
    replace H : (some t112) = some r := H
    have A5 := Aside0.mk A50
    clear A50
    obtain rfl := Option.some.inj H
    go_enter Tryd.func3, Tryd.ntmps3
    go_wp2_with (first | ((with_reducible refine gate_callee (f := 6) rfl ?_); refine goesL_ (some 4) rfl rfl Tryd.func6 (by kernel_rfl) rfl #[.string a0] rfl (by (try simp only [List.map_toArray, List.map_cons, List.map_nil]); first | done | rfl | (simp only [List.length_drop, List.length_take]; rfl)) ?_; (with_reducible refine (name_May.calls a0 t110 _ A2.out).mono ?_); rintro e w6 ⟨rfl, hb⟩; refine ⟨_, rfl, ?_⟩; have n0_ := Aside0.mk (below_step (by repeat (first | (with_reducible first | exact HB.out | apply below_alloc | apply pw_below_drewN | apply below_drew1) | exact HB.out)) hb); clear HB; have HB := n0_; clear n0_; (try clear hb); (try clear hb2); (try clear hk); (try clear hi)) | ((with_reducible refine gate_callee (f := 7) rfl ?_); refine goesL_ (some 6) rfl rfl Tryd.func7 (by kernel_rfl) rfl #[.string a0] rfl (by (try simp only [List.map_toArray, List.map_cons, List.map_nil]); first | done | rfl | (simp only [List.length_drop, List.length_take]; rfl)) ?_; (with_reducible refine (portageref10_NameMay.calls k a0 t111 _ A3.out).mono ?_); rintro e w' ⟨rfl, ⟨nd, rfl⟩⟩; refine ⟨_, rfl, ?_⟩) | (go_at_call 8; (with_reducible refine (portagelaw10_awake.calls  t112 _ A5.out).mono ?_); rintro e w7 ⟨rfl, hb⟩; have n0_ := Aside0.mk (below_step (by repeat (first | (with_reducible first | exact HB.out | apply below_alloc | apply pw_below_drewN | apply below_drew1) | exact HB.out)) hb); clear HB; have HB := n0_; clear n0_; (try clear hb); (try clear hb2); (try clear hk); (try clear hi)))
    go_ret
    exact ⟨by first | rfl | (simp [errW_none, errW_some] <;> rfl) | (simp [*, errW_none, errW_some] <;> rfl), by repeat (first | (with_reducible first | exact HB.out | apply below_alloc | apply pw_below_drewN | apply below_drew1) | exact HB.out)⟩
  · rw [if_neg c4] at H
    exact absurd H (by simp)

/-- THE ONE PURE STATEMENT of portagelaw10_Names: yours. -/
def portagelaw10_Names.Pure : Prop := ∀ (a0 : ByteArray), a0.size ≤ 140737488351232 → ∃ k, portagelaw10_Names.f k a0 = some true
theorem portagelaw10_Names.walk (P : portagelaw10_Names.Pure) (a0 : ByteArray) (w : World) (w0 : a0.size ≤ 140737488351232) :
    Calls Tryd.prog 3 #[.string a0] w fun e w' => e = .returned (.bool true) ∧ Below w.heap.size w w' := by
  obtain ⟨k, h⟩ := P a0 w0
  refine (portagelaw10_Names.calls k a0 true w h).mono ?_
  rintro e w' ⟨rfl, hd⟩
  exact ⟨rfl, hd⟩

end Go.Proofs.YtdccnjinehcenaaDoor.N
