-- Written by a program of this session out of the translation (a changed copy of the kit's printer).
import Derived.Test.YtnjbbfcknijcnaaT0
import Derived.Test.YtnjbbfcknijcnaaT1
import Derived.Test.YtnjbbfcknijcnaaFz
import Derived.Test.YtnjbbfcknijcnaaOwn
namespace Go.Proofs.Ytnjbbfcknijcnaa.T
open Go.RowKit Go.Proofs.YtnjbbfcknijcnaaW.PrintWords Go.Proofs.YtnjbbfcknijcnaaW.PrintLast Go.Proofs.YtnjbbfcknijcnaaW.PrintMore
attribute [local go_sem] max2_int min2_int max_two min_two max_three min_three max_four min_four   -- for this text's walks alone
set_option linter.unusedVariables false
set_option linter.unusedSimpArgs false

-- IMPORT Derived.Test.YtnjbbfcknijcnaaFz
-- IMPORT Derived.Test.YtnjbbfcknijcnaaOwn
/-! ### portagelaw2_CrcTurned: function 5 -/
mutual
def portagelaw2_CrcTurned.j0 : Nat → ByteArray → Int → Int → Int → Bool → Option (Bool)
  | 0, _, _, _, _, _ => none
  | k + 1, x0, x1, x2, x10, x45 => if x45 = true then (none) else (if (x0.size : Int) < 1 then (some true) else (if x0.size ≤ 9223372036854775807 then (if (IntKind.u64.wrap ((x0.size : Int))) = 0 then (none) else (portagelaw2_CrcTurned.l0 k x2 x10 (bytesOf x0) (wrap64 (Int.tmod (IntKind.u64.wrap (x1)) (IntKind.u64.wrap ((x0.size : Int))))) false 0)) else (none)))
def portagelaw2_CrcTurned.l0 : Nat → Int → Int → List Int → Int → Bool → Int → Option (Bool)
  | 0, _, _, _, _, _, _ => none
  | k + 1, x2, x10, x11, x12, x13, x14 => if x14 < 4 then (if (wrap64 (x12 + x14)) < (x11.length : Int) then (if 0 ≤ (wrap64 (8 * x14)) then (if 0 ≤ (wrap64 (x12 + x14)) then ((some (x11.set ((wrap64 (x12 + x14)) : Int).toNat (Go.bits .xor .u8 (rd x11 (wrap64 (x12 + x14))) ((Go.bits .and .i64 (shr .i64 x2 (wrap64 (8 * x14))) 255) % 256)) : List Int)).bind fun y115 => (if x13 = true then (portagelaw2_CrcTurned.l0 k x2 x10 y115 x12 true (wrap64 (x14 + 1))) else (portagelaw2_CrcTurned.l0 k x2 x10 y115 x12 (((Go.bits .and .i64 (shr .i64 x2 (wrap64 (8 * x14))) 255) % 256) != 0) (wrap64 (x14 + 1))))) else (none)) else (none)) else ((crc_Of.f k (strOfNums x11)).bind fun t116 => (some ((t116 != x10) == x13)))) else ((crc_Of.f k (strOfNums x11)).bind fun t117 => (some ((t117 != x10) == x13)))
end
def portagelaw2_CrcTurned.f (k : Nat) (a0 : ByteArray) (a1 : Int) (a2 : Int) (a3 : Int) : Option (Bool) := (portagelaw2_awake.f k).bind fun t107 => (if t107 = true then (if (IntKind.u64.wrap (wrap64 ((a0.size : Int) + 1))) = 0 then (none) else ((crc_Of.f k a0).bind fun t108 => (if 0 ≤ (wrap64 (Int.tmod (IntKind.u64.wrap (a3)) (IntKind.u64.wrap (wrap64 ((a0.size : Int) + 1))))) then (if (wrap64 (Int.tmod (IntKind.u64.wrap (a3)) (IntKind.u64.wrap (wrap64 ((a0.size : Int) + 1))))) ≤ (a0.size : Int) then ((crc_Of.f k (a0.extract 0 ((wrap64 (Int.tmod (IntKind.u64.wrap (a3)) (IntKind.u64.wrap (wrap64 ((a0.size : Int) + 1))))) : Int).toNat)).bind fun t109 => ((crc_Join.f k t109 (a0.extract ((wrap64 (Int.tmod (IntKind.u64.wrap (a3)) (IntKind.u64.wrap (wrap64 ((a0.size : Int) + 1))))) : Int).toNat a0.size)).bind fun t110 => (if t110 = t108 then (if t108 < 0 then (portagelaw2_CrcTurned.j0 k a0 a1 a2 t108 true) else (portagelaw2_CrcTurned.j0 k a0 a1 a2 t108 (decide (t108 > 4294967295)))) else (portagelaw2_CrcTurned.j0 k a0 a1 a2 t108 true)))) else (none)) else (none)))) else (none))
theorem portagelaw2_CrcTurned.mono_l : ∀ k, (∀ y0 y1 y2 y3 y4, LeO (portagelaw2_CrcTurned.j0 k y0 y1 y2 y3 y4) (portagelaw2_CrcTurned.j0 (k + 1) y0 y1 y2 y3 y4)) ∧ (∀ y0 y1 y2 y3 y4 y5, LeO (portagelaw2_CrcTurned.l0 k y0 y1 y2 y3 y4 y5) (portagelaw2_CrcTurned.l0 (k + 1) y0 y1 y2 y3 y4 y5))
  | 0 => ⟨fun _ _ _ _ _ r h => by simp [portagelaw2_CrcTurned.j0] at h, fun _ _ _ _ _ _ r h => by simp [portagelaw2_CrcTurned.l0] at h⟩
  | k + 1 => by
    obtain ⟨ih0, ih1⟩ := portagelaw2_CrcTurned.mono_l k
    refine ⟨?_, ?_⟩
    · intro y0 y1 y2 y3 y4
      unfold portagelaw2_CrcTurned.j0
      repeat' first
      | (with_reducible exact ih0 _ _ _ _ _)
      | (with_reducible exact ih1 _ _ _ _ _ _)
      | (with_reducible exact crc_Join.mono _ _ _)
      | (with_reducible exact crc_Of.mono _ _)
      | (with_reducible exact portagelaw2_awake.mono _)
      | (with_reducible exact LeO.refl _)
      | (with_reducible exact LeO.none _)
      | (with_reducible refine LeO.ite ?_ ?_)
      | (with_reducible refine LeO.bind ?_ (fun _ => ?_))
      | exact ih0 _ _ _ _ _
      | exact ih1 _ _ _ _ _ _
      | exact crc_Join.mono _ _ _
      | exact crc_Of.mono _ _
      | exact portagelaw2_awake.mono _
      | exact LeO.none _
      | refine LeO.ite ?_ ?_
      | refine LeO.bind ?_ (fun _ => ?_)
    · intro y0 y1 y2 y3 y4 y5
      unfold portagelaw2_CrcTurned.l0
      repeat' first
      | (with_reducible exact ih0 _ _ _ _ _)
      | (with_reducible exact ih1 _ _ _ _ _ _)
      | (with_reducible exact crc_Join.mono _ _ _)
      | (with_reducible exact crc_Of.mono _ _)
      | (with_reducible exact portagelaw2_awake.mono _)
      | (with_reducible exact LeO.refl _)
      | (with_reducible exact LeO.none _)
      | (with_reducible refine LeO.ite ?_ ?_)
      | (with_reducible refine LeO.bind ?_ (fun _ => ?_))
      | exact ih0 _ _ _ _ _
      | exact ih1 _ _ _ _ _ _
      | exact crc_Join.mono _ _ _
      | exact crc_Of.mono _ _
      | exact portagelaw2_awake.mono _
      | exact LeO.none _
      | refine LeO.ite ?_ ?_
      | refine LeO.bind ?_ (fun _ => ?_)
theorem portagelaw2_CrcTurned.mono : ∀ a0 a1 a2 a3 k, LeO (portagelaw2_CrcTurned.f k a0 a1 a2 a3) (portagelaw2_CrcTurned.f (k + 1) a0 a1 a2 a3) := by
  intro a0 a1 a2 a3 k
  obtain ⟨ih0, ih1⟩ := portagelaw2_CrcTurned.mono_l k
  unfold portagelaw2_CrcTurned.f
  repeat' first
      | (with_reducible exact ih0 _ _ _ _ _)
      | (with_reducible exact ih1 _ _ _ _ _ _)
      | (with_reducible exact crc_Join.mono _ _ _)
      | (with_reducible exact crc_Of.mono _ _)
      | (with_reducible exact portagelaw2_awake.mono _)
      | (with_reducible exact LeO.refl _)
      | (with_reducible exact LeO.none _)
      | (with_reducible refine LeO.ite ?_ ?_)
      | (with_reducible refine LeO.bind ?_ (fun _ => ?_))
      | exact ih0 _ _ _ _ _
      | exact ih1 _ _ _ _ _ _
      | exact crc_Join.mono _ _ _
      | exact crc_Of.mono _ _
      | exact portagelaw2_awake.mono _
      | exact LeO.none _
      | refine LeO.ite ?_ ?_
      | refine LeO.bind ?_ (fun _ => ?_)
set_option maxHeartbeats 8000000 in
set_option maxRecDepth 100000 in
theorem portagelaw2_CrcTurned.calls (k : Nat) (a0 : ByteArray) (a1 : Int) (a2 : Int) (a3 : Int) (r : Bool) (w : World) (h : portagelaw2_CrcTurned.f k a0 a1 a2 a3 = some r) :
    Calls Try.prog 5 #[.string a0, .int .i64 a1, .int .i64 a2, .int .i64 a3] w fun e w' => e = .returned (.bool r) ∧ Below w.heap.size w w' := by
  have HB := Aside0.mk (Below.refl w.heap.size w)
  have H : ((portagelaw2_awake.f k).bind fun t107 => (if t107 = true then (if (IntKind.u64.wrap (wrap64 ((a0.size : Int) + 1))) = 0 then (none) else ((crc_Of.f k a0).bind fun t108 => (if 0 ≤ (wrap64 (Int.tmod (IntKind.u64.wrap (a3)) (IntKind.u64.wrap (wrap64 ((a0.size : Int) + 1))))) then (if (wrap64 (Int.tmod (IntKind.u64.wrap (a3)) (IntKind.u64.wrap (wrap64 ((a0.size : Int) + 1))))) ≤ (a0.size : Int) then ((crc_Of.f k (a0.extract 0 ((wrap64 (Int.tmod (IntKind.u64.wrap (a3)) (IntKind.u64.wrap (wrap64 ((a0.size : Int) + 1))))) : Int).toNat)).bind fun t109 => ((crc_Join.f k t109 (a0.extract ((wrap64 (Int.tmod (IntKind.u64.wrap (a3)) (IntKind.u64.wrap (wrap64 ((a0.size : Int) + 1))))) : Int).toNat a0.size)).bind fun t110 => (if t110 = t108 then (if t108 < 0 then (portagelaw2_CrcTurned.j0 k a0 a1 a2 t108 true) else (portagelaw2_CrcTurned.j0 k a0 a1 a2 t108 (decide (t108 > 4294967295)))) else (portagelaw2_CrcTurned.j0 k a0 a1 a2 t108 true)))) else (none)) else (none)))) else (none))) = some r := h
  clear h
  replace H := Option.bind_eq_some_iff.mp H
  obtain ⟨t107, A50, H⟩ := H
  replace H : (if t107 = true then (if (IntKind.u64.wrap (wrap64 ((a0.size : Int) + 1))) = 0 then (none) else ((crc_Of.f k a0).bind fun t108 => (if 0 ≤ (wrap64 (Int.tmod (IntKind.u64.wrap (a3)) (IntKind.u64.wrap (wrap64 ((a0.size : Int) + 1))))) then (if (wrap64 (Int.tmod (IntKind.u64.wrap (a3)) (IntKind.u64.wrap (wrap64 ((a0.size : Int) + 1))))) ≤ (a0.size : Int) then ((crc_Of.f k (a0.extract 0 ((wrap64 (Int.tmod (IntKind.u64.wrap (a3)) (IntKind.u64.wrap (wrap64 ((a0.size : Int) + 1))))) : Int).toNat)).bind fun t109 => ((crc_Join.f k t109 (a0.extract ((wrap64 (Int.tmod (IntKind.u64.wrap (a3)) (IntKind.u64.wrap (wrap64 ((a0.size : Int) + 1))))) : Int).toNat a0.size)).bind fun t110 => (if t110 = t108 then (if t108 < 0 then (portagelaw2_CrcTurned.j0 k a0 a1 a2 t108 true) else (portagelaw2_CrcTurned.j0 k a0 a1 a2 t108 (decide (t108 > 4294967295)))) else (portagelaw2_CrcTurned.j0 k a0 a1 a2 t108 true)))) else (none)) else (none)))) else (none)) = some r := H
  have A5 := Aside0.mk A50
  clear A50
  by_cases c6 : t107 = true
  · subst c6
    have H1 : (if (IntKind.u64.wrap (wrap64 ((a0.size : Int) + 1))) = 0 then (none) else ((crc_Of.f k a0).bind fun t108 => (if 0 ≤ (wrap64 (Int.tmod (IntKind.u64.wrap (a3)) (IntKind.u64.wrap (wrap64 ((a0.size : Int) + 1))))) then (if (wrap64 (Int.tmod (IntKind.u64.wrap (a3)) (IntKind.u64.wrap (wrap64 ((a0.size : Int) + 1))))) ≤ (a0.size : Int) then ((crc_Of.f k (a0.extract 0 ((wrap64 (Int.tmod (IntKind.u64.wrap (a3)) (IntKind.u64.wrap (wrap64 ((a0.size : Int) + 1))))) : Int).toNat)).bind fun t109 => ((crc_Join.f k t109 (a0.extract ((wrap64 (Int.tmod (IntKind.u64.wrap (a3)) (IntKind.u64.wrap (wrap64 ((a0.size : Int) + 1))))) : Int).toNat a0.size)).bind fun t110 => (if t110 = t108 then (if t108 < 0 then (portagelaw2_CrcTurned.j0 k a0 a1 a2 t108 true) else (portagelaw2_CrcTurned.j0 k a0 a1 a2 t108 (decide (t108 > 4294967295)))) else (portagelaw2_CrcTurned.j0 k a0 a1 a2 t108 true)))) else (none)) else (none)))) = some r := by rw [if_pos rfl] at H; exact H
    clear H
    have H := H1
    clear H1
    by_cases c7 : (IntKind.u64.wrap (wrap64 ((a0.size : Int) + 1))) = 0
    · rw [if_pos c7] at H
      exact absurd H (by simp)
    · rw [if_neg c7] at H
      have c7b0 : ((IntKind.u64.wrap (wrap64 ((a0.size : Int) + 1))) == 0) = false := beq_eq_false_iff_ne.mpr c7
      have c7b1 : ((IntKind.u64.wrap (wrap64 ((a0.size : Int) + 1))) != 0) = true := bne_iff_ne.mpr c7
      replace H := Option.bind_eq_some_iff.mp H
      obtain ⟨t108, A80, H⟩ := H
      replace H : (if 0 ≤ (wrap64 (Int.tmod (IntKind.u64.wrap (a3)) (IntKind.u64.wrap (wrap64 ((a0.size : Int) + 1))))) then (if (wrap64 (Int.tmod (IntKind.u64.wrap (a3)) (IntKind.u64.wrap (wrap64 ((a0.size : Int) + 1))))) ≤ (a0.size : Int) then ((crc_Of.f k (a0.extract 0 ((wrap64 (Int.tmod (IntKind.u64.wrap (a3)) (IntKind.u64.wrap (wrap64 ((a0.size : Int) + 1))))) : Int).toNat)).bind fun t109 => ((crc_Join.f k t109 (a0.extract ((wrap64 (Int.tmod (IntKind.u64.wrap (a3)) (IntKind.u64.wrap (wrap64 ((a0.size : Int) + 1))))) : Int).toNat a0.size)).bind fun t110 => (if t110 = t108 then (if t108 < 0 then (portagelaw2_CrcTurned.j0 k a0 a1 a2 t108 true) else (portagelaw2_CrcTurned.j0 k a0 a1 a2 t108 (decide (t108 > 4294967295)))) else (portagelaw2_CrcTurned.j0 k a0 a1 a2 t108 true)))) else (none)) else (none)) = some r := H
      have A8 := Aside0.mk A80
      clear A80
      have HC9 := Aside0.mk H
      clear H
      go_enter Try.func5, Try.ntmps5
      go_upto_region 5 with (first | (go_at_call 33; (with_reducible refine (portagelaw2_awake.calls k  true _ A5.out).mono ?_); rintro e w' ⟨rfl, ⟨nd, rfl⟩⟩; (try first | exact ⟨rfl, _, World.drewN_drewN _ _ _⟩ | exact ⟨rfl, _, Eq.trans (World.drewN_drewN _ _ _) (congrArg (World.drewN _) (Nat.add_assoc _ _ _))⟩)) | (go_at_call 29; (with_reducible refine (crc_Of.calls k a0 t108 _ A8.out).mono ?_); rintro e w' ⟨rfl, ⟨nd, rfl⟩⟩; (try first | exact ⟨rfl, _, World.drewN_drewN _ _ _⟩ | exact ⟨rfl, _, Eq.trans (World.drewN_drewN _ _ _) (congrArg (World.drewN _) (Nat.add_assoc _ _ _))⟩)))
      repeat (go_quiet (first | (go_at_call 33; (with_reducible refine (portagelaw2_awake.calls k  true _ A5.out).mono ?_); rintro e w' ⟨rfl, ⟨nd, rfl⟩⟩; (try first | exact ⟨rfl, _, World.drewN_drewN _ _ _⟩ | exact ⟨rfl, _, Eq.trans (World.drewN_drewN _ _ _) (congrArg (World.drewN _) (Nat.add_assoc _ _ _))⟩)) | (go_at_call 29; (with_reducible refine (crc_Of.calls k a0 t108 _ A8.out).mono ?_); rintro e w' ⟨rfl, ⟨nd, rfl⟩⟩; (try first | exact ⟨rfl, _, World.drewN_drewN _ _ _⟩ | exact ⟨rfl, _, Eq.trans (World.drewN_drewN _ _ _) (congrArg (World.drewN _) (Nat.add_assoc _ _ _))⟩))); go_upto_region 5 with (first | (go_at_call 33; (with_reducible refine (portagelaw2_awake.calls k  true _ A5.out).mono ?_); rintro e w' ⟨rfl, ⟨nd, rfl⟩⟩; (try first | exact ⟨rfl, _, World.drewN_drewN _ _ _⟩ | exact ⟨rfl, _, Eq.trans (World.drewN_drewN _ _ _) (congrArg (World.drewN _) (Nat.add_assoc _ _ _))⟩)) | (go_at_call 29; (with_reducible refine (crc_Of.calls k a0 t108 _ A8.out).mono ?_); rintro e w' ⟨rfl, ⟨nd, rfl⟩⟩; (try first | exact ⟨rfl, _, World.drewN_drewN _ _ _⟩ | exact ⟨rfl, _, Eq.trans (World.drewN_drewN _ _ _) (congrArg (World.drewN _) (Nat.add_assoc _ _ _))⟩))))
      (try simp only [Act.put, List.setIfInBounds_toArray, List.set_cons_zero, List.set_cons_succ])
      go_cut [45] (fun v45 wc => ∃ (kq : Nat) (x45_8 : Bool), v45 = .bool x45_8 ∧ Aside0 (portagelaw2_CrcTurned.j0 kq a0 a1 a2 t108 x45_8 = some r) ∧ Aside0 (kq ≤ k) ∧ Aside0 (Below w.heap.size w wc))
      case first =>
        have H := HC9.out
        clear HC9
        obtain ⟨ji10, hji10⟩ : ∃ j_ : Int, (wrap64 (Int.tmod (IntKind.u64.wrap (a3)) (IntKind.u64.wrap (wrap64 ((a0.size : Int) + 1))))) = j_ := ⟨_, rfl⟩
        replace H : (if 0 ≤ (ji10) then (if (ji10) ≤ (a0.size : Int) then ((crc_Of.f k (a0.extract 0 ((ji10) : Int).toNat)).bind fun t109 => ((crc_Join.f k t109 (a0.extract ((ji10) : Int).toNat a0.size)).bind fun t110 => (if t110 = t108 then (if t108 < 0 then (portagelaw2_CrcTurned.j0 k a0 a1 a2 t108 true) else (portagelaw2_CrcTurned.j0 k a0 a1 a2 t108 (decide (t108 > 4294967295)))) else (portagelaw2_CrcTurned.j0 k a0 a1 a2 t108 true)))) else (none)) else (none)) = some r := by first | (rw [hji10] at H; exact H) | (simp only [hji10] at H ⊢; exact H)
        have hji10w : (IntKind.i64.wrap (Int.tmod (IntKind.u64.wrap (a3)) (IntKind.u64.wrap (wrap64 ((a0.size : Int) + 1))))) = ji10 := (i64_w _).trans hji10
        by_cases c11 : 0 ≤ (ji10)
        · rw [if_pos c11] at H
          have c11b0 := eq_true c11
          have c11b1 : decide (0 ≤ (ji10)) = true := decide_eq_true c11
          clear c11
          by_cases c12 : (ji10) ≤ (a0.size : Int)
          · rw [if_pos c12] at H
            have c12b0 := eq_true c12
            have c12b1 : decide ((ji10) ≤ (a0.size : Int)) = true := decide_eq_true c12
            clear c12
            replace H := Option.bind_eq_some_iff.mp H
            obtain ⟨t109, A130, H⟩ := H
            replace H : ((crc_Join.f k t109 (a0.extract ((ji10) : Int).toNat a0.size)).bind fun t110 => (if t110 = t108 then (if t108 < 0 then (portagelaw2_CrcTurned.j0 k a0 a1 a2 t108 true) else (portagelaw2_CrcTurned.j0 k a0 a1 a2 t108 (decide (t108 > 4294967295)))) else (portagelaw2_CrcTurned.j0 k a0 a1 a2 t108 true))) = some r := H
            have A13 := Aside0.mk A130
            clear A130
            have c14b0 := eq_true (of_decide_eq_true (by first | (with_reducible assumption) | assumption) : 0 ≤ (ji10))
            have c15b0 := eq_true (of_decide_eq_true (by first | (with_reducible assumption) | assumption) : (ji10) ≤ (a0.size : Int))
            replace H := Option.bind_eq_some_iff.mp H
            obtain ⟨t110, A160, H⟩ := H
            replace H : (if t110 = t108 then (if t108 < 0 then (portagelaw2_CrcTurned.j0 k a0 a1 a2 t108 true) else (portagelaw2_CrcTurned.j0 k a0 a1 a2 t108 (decide (t108 > 4294967295)))) else (portagelaw2_CrcTurned.j0 k a0 a1 a2 t108 true)) = some r := H
            have A16 := Aside0.mk A160
            clear A160
            by_cases c17 : t110 = t108
            · rw [if_pos c17] at H
              have c17b0 : (t110 == t108) = true := beq_iff_eq.mpr c17
              have c17b1 : (t110 != t108) = false := bne_eq_false_iff_eq.mpr c17
              clear c17
              (first | rw [c17b0] | (simp only [i64_w, i32_w]; rw [c17b0]) | skip)
              by_cases c18 : t108 < 0
              · rw [if_pos c18] at H
                have c18b0 : decide (t108 < 0) = true := decide_eq_true c18
                clear c18
                have H' := Aside0.mk H
                clear H
                go_wp2_with (first | (go_at_call 29; (with_reducible refine (crc_Of.calls k (a0.extract 0 ((ji10) : Int).toNat) t109 _ A13.out).mono ?_); rintro e w' ⟨rfl, ⟨nd, rfl⟩⟩; (try first | exact ⟨rfl, _, World.drewN_drewN _ _ _⟩ | exact ⟨rfl, _, Eq.trans (World.drewN_drewN _ _ _) (congrArg (World.drewN _) (Nat.add_assoc _ _ _))⟩)) | (go_at_call 31; (with_reducible refine (crc_Join.calls k t109 (a0.extract ((ji10) : Int).toNat a0.size) t110 _ A16.out).mono ?_); rintro e w' ⟨rfl, ⟨nd, rfl⟩⟩; (try first | exact ⟨rfl, _, World.drewN_drewN _ _ _⟩ | exact ⟨rfl, _, Eq.trans (World.drewN_drewN _ _ _) (congrArg (World.drewN _) (Nat.add_assoc _ _ _))⟩)))
                repeat (go_quiet (first | (go_at_call 29; (with_reducible refine (crc_Of.calls k (a0.extract 0 ((ji10) : Int).toNat) t109 _ A13.out).mono ?_); rintro e w' ⟨rfl, ⟨nd, rfl⟩⟩; (try first | exact ⟨rfl, _, World.drewN_drewN _ _ _⟩ | exact ⟨rfl, _, Eq.trans (World.drewN_drewN _ _ _) (congrArg (World.drewN _) (Nat.add_assoc _ _ _))⟩)) | (go_at_call 31; (with_reducible refine (crc_Join.calls k t109 (a0.extract ((ji10) : Int).toNat a0.size) t110 _ A16.out).mono ?_); rintro e w' ⟨rfl, ⟨nd, rfl⟩⟩; (try first | exact ⟨rfl, _, World.drewN_drewN _ _ _⟩ | exact ⟨rfl, _, Eq.trans (World.drewN_drewN _ _ _) (congrArg (World.drewN _) (Nat.add_assoc _ _ _))⟩))); try go_wp2_with (first | (go_at_call 29; (with_reducible refine (crc_Of.calls k (a0.extract 0 ((ji10) : Int).toNat) t109 _ A13.out).mono ?_); rintro e w' ⟨rfl, ⟨nd, rfl⟩⟩; (try first | exact ⟨rfl, _, World.drewN_drewN _ _ _⟩ | exact ⟨rfl, _, Eq.trans (World.drewN_drewN _ _ _) (congrArg (World.drewN _) (Nat.add_assoc _ _ _))⟩)) | (go_at_call 31; (with_reducible refine (crc_Join.calls k t109 (a0.extract ((ji10) : Int).toNat a0.size) t110 _ A16.out).mono ?_); rintro e w' ⟨rfl, ⟨nd, rfl⟩⟩; (try first | exact ⟨rfl, _, World.drewN_drewN _ _ _⟩ | exact ⟨rfl, _, Eq.trans (World.drewN_drewN _ _ _) (congrArg (World.drewN _) (Nat.add_assoc _ _ _))⟩))))
                go_meet
                case rel => exact ⟨_, (true), (by first | rfl | (simp; done) | (simp [*]; done)), H', ⟨by first | omega | exact Nat.le_refl _⟩, ⟨by repeat (first | (with_reducible first | exact HB.out | apply below_alloc | apply pw_below_drewN | apply below_drew1) | exact HB.out)⟩⟩
              · rw [if_neg c18] at H
                have c18b0 : decide (t108 < 0) = false := decide_eq_false c18
                clear c18
                have H' := Aside0.mk H
                clear H
                go_wp2_with (first | (go_at_call 29; (with_reducible refine (crc_Of.calls k (a0.extract 0 ((ji10) : Int).toNat) t109 _ A13.out).mono ?_); rintro e w' ⟨rfl, ⟨nd, rfl⟩⟩; (try first | exact ⟨rfl, _, World.drewN_drewN _ _ _⟩ | exact ⟨rfl, _, Eq.trans (World.drewN_drewN _ _ _) (congrArg (World.drewN _) (Nat.add_assoc _ _ _))⟩)) | (go_at_call 31; (with_reducible refine (crc_Join.calls k t109 (a0.extract ((ji10) : Int).toNat a0.size) t110 _ A16.out).mono ?_); rintro e w' ⟨rfl, ⟨nd, rfl⟩⟩; (try first | exact ⟨rfl, _, World.drewN_drewN _ _ _⟩ | exact ⟨rfl, _, Eq.trans (World.drewN_drewN _ _ _) (congrArg (World.drewN _) (Nat.add_assoc _ _ _))⟩)))
                repeat (go_quiet (first | (go_at_call 29; (with_reducible refine (crc_Of.calls k (a0.extract 0 ((ji10) : Int).toNat) t109 _ A13.out).mono ?_); rintro e w' ⟨rfl, ⟨nd, rfl⟩⟩; (try first | exact ⟨rfl, _, World.drewN_drewN _ _ _⟩ | exact ⟨rfl, _, Eq.trans (World.drewN_drewN _ _ _) (congrArg (World.drewN _) (Nat.add_assoc _ _ _))⟩)) | (go_at_call 31; (with_reducible refine (crc_Join.calls k t109 (a0.extract ((ji10) : Int).toNat a0.size) t110 _ A16.out).mono ?_); rintro e w' ⟨rfl, ⟨nd, rfl⟩⟩; (try first | exact ⟨rfl, _, World.drewN_drewN _ _ _⟩ | exact ⟨rfl, _, Eq.trans (World.drewN_drewN _ _ _) (congrArg (World.drewN _) (Nat.add_assoc _ _ _))⟩))); try go_wp2_with (first | (go_at_call 29; (with_reducible refine (crc_Of.calls k (a0.extract 0 ((ji10) : Int).toNat) t109 _ A13.out).mono ?_); rintro e w' ⟨rfl, ⟨nd, rfl⟩⟩; (try first | exact ⟨rfl, _, World.drewN_drewN _ _ _⟩ | exact ⟨rfl, _, Eq.trans (World.drewN_drewN _ _ _) (congrArg (World.drewN _) (Nat.add_assoc _ _ _))⟩)) | (go_at_call 31; (with_reducible refine (crc_Join.calls k t109 (a0.extract ((ji10) : Int).toNat a0.size) t110 _ A16.out).mono ?_); rintro e w' ⟨rfl, ⟨nd, rfl⟩⟩; (try first | exact ⟨rfl, _, World.drewN_drewN _ _ _⟩ | exact ⟨rfl, _, Eq.trans (World.drewN_drewN _ _ _) (congrArg (World.drewN _) (Nat.add_assoc _ _ _))⟩))))
                go_meet
                case rel => exact ⟨_, (decide (t108 > 4294967295)), (by first | rfl | (simp; done) | (simp [*]; done)), H', ⟨by first | omega | exact Nat.le_refl _⟩, ⟨by repeat (first | (with_reducible first | exact HB.out | apply below_alloc | apply pw_below_drewN | apply below_drew1) | exact HB.out)⟩⟩
            · rw [if_neg c17] at H
              have c17b0 : (t110 == t108) = false := beq_eq_false_iff_ne.mpr c17
              have c17b1 : (t110 != t108) = true := bne_iff_ne.mpr c17
              (first | rw [c17b0] | (simp only [i64_w, i32_w]; rw [c17b0]) | skip)
              have H' := Aside0.mk H
              clear H
              go_wp2_with (first | (go_at_call 29; (with_reducible refine (crc_Of.calls k (a0.extract 0 ((ji10) : Int).toNat) t109 _ A13.out).mono ?_); rintro e w' ⟨rfl, ⟨nd, rfl⟩⟩; (try first | exact ⟨rfl, _, World.drewN_drewN _ _ _⟩ | exact ⟨rfl, _, Eq.trans (World.drewN_drewN _ _ _) (congrArg (World.drewN _) (Nat.add_assoc _ _ _))⟩)) | (go_at_call 31; (with_reducible refine (crc_Join.calls k t109 (a0.extract ((ji10) : Int).toNat a0.size) t110 _ A16.out).mono ?_); rintro e w' ⟨rfl, ⟨nd, rfl⟩⟩; (try first | exact ⟨rfl, _, World.drewN_drewN _ _ _⟩ | exact ⟨rfl, _, Eq.trans (World.drewN_drewN _ _ _) (congrArg (World.drewN _) (Nat.add_assoc _ _ _))⟩)))
              repeat (go_quiet (first | (go_at_call 29; (with_reducible refine (crc_Of.calls k (a0.extract 0 ((ji10) : Int).toNat) t109 _ A13.out).mono ?_); rintro e w' ⟨rfl, ⟨nd, rfl⟩⟩; (try first | exact ⟨rfl, _, World.drewN_drewN _ _ _⟩ | exact ⟨rfl, _, Eq.trans (World.drewN_drewN _ _ _) (congrArg (World.drewN _) (Nat.add_assoc _ _ _))⟩)) | (go_at_call 31; (with_reducible refine (crc_Join.calls k t109 (a0.extract ((ji10) : Int).toNat a0.size) t110 _ A16.out).mono ?_); rintro e w' ⟨rfl, ⟨nd, rfl⟩⟩; (try first | exact ⟨rfl, _, World.drewN_drewN _ _ _⟩ | exact ⟨rfl, _, Eq.trans (World.drewN_drewN _ _ _) (congrArg (World.drewN _) (Nat.add_assoc _ _ _))⟩))); try go_wp2_with (first | (go_at_call 29; (with_reducible refine (crc_Of.calls k (a0.extract 0 ((ji10) : Int).toNat) t109 _ A13.out).mono ?_); rintro e w' ⟨rfl, ⟨nd, rfl⟩⟩; (try first | exact ⟨rfl, _, World.drewN_drewN _ _ _⟩ | exact ⟨rfl, _, Eq.trans (World.drewN_drewN _ _ _) (congrArg (World.drewN _) (Nat.add_assoc _ _ _))⟩)) | (go_at_call 31; (with_reducible refine (crc_Join.calls k t109 (a0.extract ((ji10) : Int).toNat a0.size) t110 _ A16.out).mono ?_); rintro e w' ⟨rfl, ⟨nd, rfl⟩⟩; (try first | exact ⟨rfl, _, World.drewN_drewN _ _ _⟩ | exact ⟨rfl, _, Eq.trans (World.drewN_drewN _ _ _) (congrArg (World.drewN _) (Nat.add_assoc _ _ _))⟩))))
              go_meet
              case rel => exact ⟨_, (true), (by first | rfl | (simp; done) | (simp [*]; done)), H', ⟨by first | omega | exact Nat.le_refl _⟩, ⟨by repeat (first | (with_reducible first | exact HB.out | apply below_alloc | apply pw_below_drewN | apply below_drew1) | exact HB.out)⟩⟩
          · rw [if_neg c12] at H
            exact absurd H (by simp)
        · rw [if_neg c11] at H
          exact absurd H (by simp)
      case rest =>
        clear HC9
        try clear c1
        try clear p2
        try clear c5
        try clear c6
        try clear p6
        try clear c7
        try clear c7b0
        try clear c7b1
        try clear c11
        try clear c11b0
        try clear c11b1
        try clear c12
        try clear c12b0
        try clear c12b1
        try clear c14
        try clear c14b0
        try clear c15
        try clear c15b0
        try clear c17
        try clear c17b0
        try clear c17b1
        try clear c18
        try clear c18b0
        obtain ⟨kq, x45_8, rfl, HA, HJ8, HB⟩ := hcut
        cases kq with
        | zero => exact absurd HA.out (by simp [portagelaw2_CrcTurned.j0])
        | succ kj8 =>
          have H := HA.out
          clear HA
          simp only [portagelaw2_CrcTurned.j0] at H
          by_cases c19 : x45_8 = true
          · subst c19
            have H1 : (none) = some r := by rw [if_pos rfl] at H; exact H
            clear H
            have H := H1
            clear H1
            exact absurd H (by simp)
          · replace c19 := Bool.eq_false_iff.mpr c19
            subst c19
            have H1 : (if (a0.size : Int) < 1 then (some true) else (if a0.size ≤ 9223372036854775807 then (if (IntKind.u64.wrap ((a0.size : Int))) = 0 then (none) else (portagelaw2_CrcTurned.l0 kj8 a2 t108 (bytesOf a0) (wrap64 (Int.tmod (IntKind.u64.wrap (a1)) (IntKind.u64.wrap ((a0.size : Int))))) false 0)) else (none))) = some r := by rw [if_neg (show ¬ (false = true) by decide)] at H; exact H
            clear H
            have H := H1
            clear H1
            by_cases c20 : (a0.size : Int) < 1
            · rw [if_pos c20] at H
              have c20b0 : decide ((a0.size : Int) < 1) = true := decide_eq_true c20
              have c20b1 : decide (a0.size < 1) = true := decide_eq_true (by omega)
              clear c20
              obtain rfl := Option.some.inj H
              go_wp2
              repeat (go_quiet (fail); try go_wp2)
              go_ret
              exact ⟨by first | rfl | (simp [errW_none, errW_some] <;> rfl) | (simp [*, errW_none, errW_some] <;> rfl), by repeat (first | (with_reducible first | exact HB.out | apply below_alloc | apply pw_below_drewN | apply below_drew1) | exact HB.out)⟩
            · rw [if_neg c20] at H
              have c20b0 : decide ((a0.size : Int) < 1) = false := decide_eq_false c20
              have c20b1 : decide (a0.size < 1) = false := decide_eq_false (by omega)
              clear c20
              by_cases c21 : a0.size ≤ 9223372036854775807
              · rw [if_pos c21] at H
                have c21b0 := eq_true c21
                have c21b1 : decide (a0.size ≤ 9223372036854775807) = true := decide_eq_true c21
                try have c21b2 : (9223372036854775807 < a0.size) = False := eq_false (Nat.not_lt.2 c21)
                clear c21
                obtain ⟨y111, hy111⟩ : ∃ y_ : List Int, y_ = (bytesOf a0) := ⟨_, rfl⟩
                replace H : (if (IntKind.u64.wrap ((a0.size : Int))) = 0 then (none) else (portagelaw2_CrcTurned.l0 kj8 a2 t108 y111 (wrap64 (Int.tmod (IntKind.u64.wrap (a1)) (IntKind.u64.wrap ((a0.size : Int))))) false 0)) = some r := by first | (rw [hy111]; with_reducible exact H) | (have H2_ := (Option.bind_some _ _).symm.trans H; rw [hy111]; with_reducible exact H2_) | (have H2_ := (Option.bind_some _ _).symm.trans H; with_reducible exact H2_) | with_reducible exact H | (rw [hy111]; exact H) | exact H
                have Ny111 := Aside0.mk hy111
                clear hy111
                by_cases c22 : (IntKind.u64.wrap ((a0.size : Int))) = 0
                · rw [if_pos c22] at H
                  exact absurd H (by simp)
                · rw [if_neg c22] at H
                  have c22b0 : ((IntKind.u64.wrap ((a0.size : Int))) == 0) = false := beq_eq_false_iff_ne.mpr c22
                  have c22b1 : ((IntKind.u64.wrap ((a0.size : Int))) != 0) = true := bne_iff_ne.mpr c22
                  obtain ⟨ji23, hji23⟩ : ∃ j_ : Int, (wrap64 (Int.tmod (IntKind.u64.wrap (a1)) (IntKind.u64.wrap ((a0.size : Int))))) = j_ := ⟨_, rfl⟩
                  replace H : (portagelaw2_CrcTurned.l0 kj8 a2 t108 y111 ji23 false 0) = some r := by first | (rw [hji23] at H; exact H) | (simp only [hji23] at H ⊢; exact H)
                  have hji23w : (IntKind.i64.wrap (Int.tmod (IntKind.u64.wrap (a1)) (IntKind.u64.wrap ((a0.size : Int))))) = ji23 := (i64_w _).trans hji23
                  have H' := Aside0.mk H
                  clear H
                  go_wp2_with (first | ((with_reducible refine gate_dst (N := 50) rfl ?_); (try (refine gate_guard (by rfl) ?_; dsimp only)); refine Go.Proofs.YtnjbbfcknijcnaaW.Own.Fz.bytes_event ?hg (N := 50) ?hd (s := a0) (e := 5) ?hz ?hr ?_; (case hd => rfl); (case hg => rfl); (case hz => exact (of_decide_eq_true (by first | (with_reducible assumption) | assumption))); (case hr => go_simp; rw [(print_bytes (P := Try.prog) 9 27 5 Try.underlying9 Try.underlying27 Try.underlying5 _ _)]; rfl); intro v112 w24 ho25 hb hg_ hnew_; clear hg_ hnew_; (first | rw [← Ny111.out] at ho25 | (simp only [Int.reduceToNat] at ho25; rw [← Ny111.out] at ho25)); have n0_ := Aside0.mk (Go.Proofs.YtnjbbfcknijcnaaW.Own.Fz.R_lower ho25 (below_size (by repeat (first | (with_reducible first | exact HB.out | apply below_alloc | apply pw_below_drewN | apply below_drew1) | exact HB.out)))); have n1_ := Aside0.mk (below_step (by repeat (first | (with_reducible first | exact HB.out | apply below_alloc | apply pw_below_drewN | apply below_drew1) | exact HB.out)) hb); clear HB; have HO113 := n0_; have HB := n1_; clear n0_ n1_; clear hb ho25))
                  repeat (go_quiet (first | ((with_reducible refine gate_dst (N := 50) rfl ?_); (try (refine gate_guard (by rfl) ?_; dsimp only)); refine Go.Proofs.YtnjbbfcknijcnaaW.Own.Fz.bytes_event ?hg (N := 50) ?hd (s := a0) (e := 5) ?hz ?hr ?_; (case hd => rfl); (case hg => rfl); (case hz => exact (of_decide_eq_true (by first | (with_reducible assumption) | assumption))); (case hr => go_simp; rw [(print_bytes (P := Try.prog) 9 27 5 Try.underlying9 Try.underlying27 Try.underlying5 _ _)]; rfl); intro v112 w24 ho25 hb hg_ hnew_; clear hg_ hnew_; (first | rw [← Ny111.out] at ho25 | (simp only [Int.reduceToNat] at ho25; rw [← Ny111.out] at ho25)); have n0_ := Aside0.mk (Go.Proofs.YtnjbbfcknijcnaaW.Own.Fz.R_lower ho25 (below_size (by repeat (first | (with_reducible first | exact HB.out | apply below_alloc | apply pw_below_drewN | apply below_drew1) | exact HB.out)))); have n1_ := Aside0.mk (below_step (by repeat (first | (with_reducible first | exact HB.out | apply below_alloc | apply pw_below_drewN | apply below_drew1) | exact HB.out)) hb); clear HB; have HO113 := n0_; have HB := n1_; clear n0_ n1_; clear hb ho25)); try go_wp2_with (first | ((with_reducible refine gate_dst (N := 50) rfl ?_); (try (refine gate_guard (by rfl) ?_; dsimp only)); refine Go.Proofs.YtnjbbfcknijcnaaW.Own.Fz.bytes_event ?hg (N := 50) ?hd (s := a0) (e := 5) ?hz ?hr ?_; (case hd => rfl); (case hg => rfl); (case hz => exact (of_decide_eq_true (by first | (with_reducible assumption) | assumption))); (case hr => go_simp; rw [(print_bytes (P := Try.prog) 9 27 5 Try.underlying9 Try.underlying27 Try.underlying5 _ _)]; rfl); intro v112 w24 ho25 hb hg_ hnew_; clear hg_ hnew_; (first | rw [← Ny111.out] at ho25 | (simp only [Int.reduceToNat] at ho25; rw [← Ny111.out] at ho25)); have n0_ := Aside0.mk (Go.Proofs.YtnjbbfcknijcnaaW.Own.Fz.R_lower ho25 (below_size (by repeat (first | (with_reducible first | exact HB.out | apply below_alloc | apply pw_below_drewN | apply below_drew1) | exact HB.out)))); have n1_ := Aside0.mk (below_step (by repeat (first | (with_reducible first | exact HB.out | apply below_alloc | apply pw_below_drewN | apply below_drew1) | exact HB.out)) hb); clear HB; have HO113 := n0_; have HB := n1_; clear n0_ n1_; clear hb ho25)))
                  go_loopg [13, 14] kj8 (fun kq v13 v14 w' => ∃ (x11_2 : List Int) (x13_2 : Bool) (x14_2 : Int), v13 = .bool x13_2 ∧ v14 = .int .i64 x14_2 ∧ Aside0 (portagelaw2_CrcTurned.l0 kq a2 t108 x11_2 ji23 x13_2 x14_2 = some r) ∧ Aside0 (kq ≤ kj8) ∧ Aside0 (Go.Proofs.YtnjbbfcknijcnaaW.Own.Fz.R (Kd.int .u8) 5 w' w.heap.size (fun _ => True) v112 x11_2) ∧ Aside0 (Below w.heap.size w w'))
                  case atStart => exact ⟨(y111), (false), (0), (by first | rfl | (simp; done) | (simp [*]; done)), (by first | rfl | (simp; done) | (simp [*]; done)), H', ⟨Nat.le_refl _⟩, ⟨by (with_reducible repeat (first | apply Go.Proofs.YtnjbbfcknijcnaaW.Own.Fz.R_alloc | apply Go.Proofs.YtnjbbfcknijcnaaW.Own.Fz.R_drewN | apply Go.Proofs.YtnjbbfcknijcnaaW.Own.Fz.R_drew)); exact HO113.out⟩, ⟨by repeat (first | (with_reducible first | exact HB.out | apply below_alloc | apply pw_below_drewN | apply below_drew1) | exact HB.out)⟩⟩
                  case round =>
                    clear H'
                    try clear c1
                    try clear c2
                    try clear p2
                    try clear c5
                    try clear c6
                    try clear p6
                    try clear c7
                    try clear c7b0
                    try clear c7b1
                    try clear c11
                    try clear c11b0
                    try clear c11b1
                    try clear c12
                    try clear c12b0
                    try clear c12b1
                    try clear c14
                    try clear c14b0
                    try clear c15
                    try clear c15b0
                    try clear c17
                    try clear c17b0
                    try clear c17b1
                    try clear c18
                    try clear c18b0
                    try clear c19
                    try clear c20
                    try clear c20b0
                    try clear c20b1
                    try clear c21
                    try clear c21b0
                    try clear c21b1
                    try clear c21b2
                    try clear c22
                    try clear c22b0
                    try clear c22b1
                    try clear p2
                    try clear p6
                    obtain ⟨x11_2, x13_2, x14_2, rfl, rfl, HA, HK2, HO_11, HB⟩ := hrel
                    cases gk with
                    | zero => exact absurd HA.out (by simp [portagelaw2_CrcTurned.l0])
                    | succ k2 =>
                      have H := HA.out
                      clear HA
                      simp only [portagelaw2_CrcTurned.l0] at H
                      by_cases c26 : x14_2 < 4
                      · rw [if_pos c26] at H
                        have c26b0 : decide (x14_2 < 4) = true := decide_eq_true c26
                        clear c26
                        by_cases c27 : (wrap64 (ji23 + x14_2)) < (x11_2.length : Int)
                        · rw [if_pos c27] at H
                          have c27b0 : decide ((wrap64 (ji23 + x14_2)) < (x11_2.length : Int)) = true := decide_eq_true c27
                          clear c27
                          obtain ⟨ji28, hji28⟩ : ∃ j_ : Int, (wrap64 (8 * x14_2)) = j_ := ⟨_, rfl⟩
                          replace H : (if 0 ≤ (ji28) then (if 0 ≤ (wrap64 (ji23 + x14_2)) then ((some (x11_2.set ((wrap64 (ji23 + x14_2)) : Int).toNat (Go.bits .xor .u8 (rd x11_2 (wrap64 (ji23 + x14_2))) ((Go.bits .and .i64 (shr .i64 a2 (ji28)) 255) % 256)) : List Int)).bind fun y115 => (if x13_2 = true then (portagelaw2_CrcTurned.l0 k2 a2 t108 y115 ji23 true (wrap64 (x14_2 + 1))) else (portagelaw2_CrcTurned.l0 k2 a2 t108 y115 ji23 (((Go.bits .and .i64 (shr .i64 a2 (ji28)) 255) % 256) != 0) (wrap64 (x14_2 + 1))))) else (none)) else (none)) = some r := by first | (rw [hji28] at H; exact H) | (simp only [hji28] at H ⊢; exact H)
                          have hji28w : (IntKind.i64.wrap (8 * x14_2)) = ji28 := (i64_w _).trans hji28
                          by_cases c29 : 0 ≤ (ji28)
                          · rw [if_pos c29] at H
                            have c29b0 := eq_true c29
                            have c29b1 : decide (0 ≤ (ji28)) = true := decide_eq_true c29
                            clear c29
                            obtain ⟨ji30, hji30⟩ : ∃ j_ : Int, (shr .i64 a2 (ji28)) = j_ := ⟨_, rfl⟩
                            replace H : (if 0 ≤ (wrap64 (ji23 + x14_2)) then ((some (x11_2.set ((wrap64 (ji23 + x14_2)) : Int).toNat (Go.bits .xor .u8 (rd x11_2 (wrap64 (ji23 + x14_2))) ((Go.bits .and .i64 (ji30) 255) % 256)) : List Int)).bind fun y115 => (if x13_2 = true then (portagelaw2_CrcTurned.l0 k2 a2 t108 y115 ji23 true (wrap64 (x14_2 + 1))) else (portagelaw2_CrcTurned.l0 k2 a2 t108 y115 ji23 (((Go.bits .and .i64 (ji30) 255) % 256) != 0) (wrap64 (x14_2 + 1))))) else (none)) = some r := by first | (rw [hji30] at H; exact H) | (simp only [hji30] at H ⊢; exact H)
                            have hji30_ : (a2 / 2 ^ min (ji28).toNat 64) = ji30 := hji30
                            have hji30z : (ji28) ≤ 64 → (a2 / 2 ^ (ji28).toNat) = ji30 := shr_small hji30
                            (try (have hji30B : (ji28) ≤ 64 := by first | omega | (rw [← hji28]; exact Int.le_trans (Int.le_of_lt (Int.tmod_lt_of_pos _ (by decide))) (by decide))))
                            (try (have hji30C := hji30z hji30B))
                            obtain ⟨ji31, hji31⟩ : ∃ j_ : Int, (wrap64 (ji23 + x14_2)) = j_ := ⟨_, rfl⟩
                            replace H : (if 0 ≤ (ji31) then ((some (x11_2.set ((ji31) : Int).toNat (Go.bits .xor .u8 (rd x11_2 (ji31)) ((Go.bits .and .i64 (ji30) 255) % 256)) : List Int)).bind fun y115 => (if x13_2 = true then (portagelaw2_CrcTurned.l0 k2 a2 t108 y115 ji23 true (wrap64 (x14_2 + 1))) else (portagelaw2_CrcTurned.l0 k2 a2 t108 y115 ji23 (((Go.bits .and .i64 (ji30) 255) % 256) != 0) (wrap64 (x14_2 + 1))))) else (none)) = some r := by first | (rw [hji31] at H; exact H) | (simp only [hji31] at H ⊢; exact H)
                            (try rw [hji31] at c27b0)
                            have hji31w : (IntKind.i64.wrap (ji23 + x14_2)) = ji31 := (i64_w _).trans hji31
                            by_cases c32 : 0 ≤ (ji31)
                            · rw [if_pos c32] at H
                              have c32b0 : decide (0 ≤ (ji31)) = true := decide_eq_true c32
                              clear c32
                              obtain ⟨y115, hy115⟩ : ∃ y_ : List Int, y_ = (x11_2.set ((ji31) : Int).toNat (Go.bits .xor .u8 (rd x11_2 (ji31)) ((Go.bits .and .i64 (ji30) 255) % 256))) := ⟨_, rfl⟩
                              replace H : (if x13_2 = true then (portagelaw2_CrcTurned.l0 k2 a2 t108 y115 ji23 true (wrap64 (x14_2 + 1))) else (portagelaw2_CrcTurned.l0 k2 a2 t108 y115 ji23 (((Go.bits .and .i64 (ji30) 255) % 256) != 0) (wrap64 (x14_2 + 1)))) = some r := by first | (rw [hy115]; with_reducible exact H) | (have H2_ := (Option.bind_some _ _).symm.trans H; rw [hy115]; with_reducible exact H2_) | (have H2_ := (Option.bind_some _ _).symm.trans H; with_reducible exact H2_) | with_reducible exact H | (rw [hy115]; exact H) | exact H
                              have Ny115 := Aside0.mk hy115
                              clear hy115
                              by_cases c34 : x13_2 = true
                              · subst c34
                                have H1 : (portagelaw2_CrcTurned.l0 k2 a2 t108 y115 ji23 true (wrap64 (x14_2 + 1))) = some r := by rw [if_pos rfl] at H; exact H
                                clear H
                                have H := H1
                                clear H1
                                have H' := Aside0.mk H
                                clear H
                                obtain ⟨Ao35, co35, eo35⟩ := Go.Proofs.YtnjbbfcknijcnaaW.Own.Fz.R_slice HO_11.out
                                subst eo35
                                have p114 : 0 ≤ ((ji31) : Int) := of_decide_eq_true (by first | (with_reducible assumption) | assumption)
                                have q114 : (ji31) < (x11_2.length : Int) := of_decide_eq_true (by first | (with_reducible assumption) | assumption)
                                obtain ⟨ad114, e114, hx114_0⟩ := Kd.at_int (Go.Proofs.YtnjbbfcknijcnaaW.Own.Fz.R_reads' HO_11.out).2.2 (ji31) p114 q114
                                cases e114
                                replace p114 := eq_true p114
                                replace q114 := eq_true q114
                                have p33 : 0 ≤ ((ji31) : Int) := of_decide_eq_true (by first | (with_reducible assumption) | assumption)
                                have q33 : ((ji31) : Int) < ((x11_2.length : Int) : Int) := of_decide_eq_true (by first | (with_reducible assumption) | assumption)
                                obtain ⟨go33, co33, eo33, gb33, gl33, cl33, HG33⟩ := Go.Proofs.YtnjbbfcknijcnaaW.Own.Fz.R_form HO_11.out (by omega)
                                (first | cases eo33 | (injection eo33 with ea_ en_ ec_; (first | subst ea_ | (injection ea_ with ea_; subst ea_)); subst ec_; clear en_))
                                have GB33 := Aside0.mk gb33
                                have GG33 := Aside0.mk HG33
                                clear gb33 gl33 HG33
                                (first | simp only [add_plain] at hx114_0 | skip)
                                obtain ⟨hx33_0, hf33_0⟩ := Go.Proofs.YtnjbbfcknijcnaaW.Own.Fz.R_celln 0 HO_11.out ((ji31) : Int) p33 q33
                                replace p33 := eq_true p33
                                replace q33 := eq_true q33
                                have HP36 := Go.Proofs.YtnjbbfcknijcnaaW.Own.Fz.R_putg HO_11.out ((ji31) : Int) (Go.bits .xor .u8 (rd x11_2 (ji31)) ((Go.bits .and .i64 (ji30) 255) % 256))
                                go_wp2_with (first | ((with_reducible refine gate_store (t := 5) (p := 88) rfl ?_); (try (rw [drewN_self wr]; generalize hq_ : World.drewN wr _ = wr; have n0_ := Aside0.mk (Go.Proofs.YtnjbbfcknijcnaaW.Own.Fz.R_at hq_ HO_11.out); have n1_ := Aside0.mk (below_at hq_ HB.out); clear hq_ HO_11 HB; have HO_11 := n0_; have HB := n1_; clear n0_ n1_; (try (have HP36 := Go.Proofs.YtnjbbfcknijcnaaW.Own.Fz.R_putg HO_11.out ((ji31) : Int) (Go.bits .xor .u8 (rd x11_2 (ji31)) ((Go.bits .and .i64 (ji30) 255) % 256)))))); refine store_event (t := 5) (p := 88) (v := ?vo_w37) (w1 := (wr.setCell ⟨go33, ((ji31) : Int).toNat, none⟩ (.int .u8 (Go.bits .xor .u8 (rd x11_2 (ji31)) ((Go.bits .and .i64 (ji30) 255) % 256))))) ?hg ?ho ?hn ?hr ?_; (case ho => rfl); (case hg => rfl); (case hn => rfl); (case hr => first | (go_simp; done) | (go_simp; rfl)); intro w37 hw; have hg : wr.grownBy w37 (some go33) := (by rw [hw]; exact HP36.2); have hp_ : Go.Proofs.YtnjbbfcknijcnaaW.Own.Fz.R (Kd.int .u8) 5 w37 w.heap.size (fun _ => True) (.slice (some ⟨go33, 0, none⟩) x11_2.length co35) y115 := (by rw [hw, Ny115.out]; exact HP36.1); clear HP36; have n0_ := Aside0.mk (hp_); have n1_ := Aside0.mk ((by rw [hw]; exact below_set (HB.out) GB33.out : Below w.heap.size w w37)); clear HO_11; clear HB; have HO_11 := n0_; have HB := n1_; clear n0_ n1_; clear hg hw hp_))
                                repeat (go_quiet (first | ((with_reducible refine gate_store (t := 5) (p := 88) rfl ?_); (try (rw [drewN_self wr]; generalize hq_ : World.drewN wr _ = wr; have n0_ := Aside0.mk (Go.Proofs.YtnjbbfcknijcnaaW.Own.Fz.R_at hq_ HO_11.out); have n1_ := Aside0.mk (below_at hq_ HB.out); clear hq_ HO_11 HB; have HO_11 := n0_; have HB := n1_; clear n0_ n1_; (try (have HP36 := Go.Proofs.YtnjbbfcknijcnaaW.Own.Fz.R_putg HO_11.out ((ji31) : Int) (Go.bits .xor .u8 (rd x11_2 (ji31)) ((Go.bits .and .i64 (ji30) 255) % 256)))))); refine store_event (t := 5) (p := 88) (v := ?vo_w37) (w1 := (wr.setCell ⟨go33, ((ji31) : Int).toNat, none⟩ (.int .u8 (Go.bits .xor .u8 (rd x11_2 (ji31)) ((Go.bits .and .i64 (ji30) 255) % 256))))) ?hg ?ho ?hn ?hr ?_; (case ho => rfl); (case hg => rfl); (case hn => rfl); (case hr => first | (go_simp; done) | (go_simp; rfl)); intro w37 hw; have hg : wr.grownBy w37 (some go33) := (by rw [hw]; exact HP36.2); have hp_ : Go.Proofs.YtnjbbfcknijcnaaW.Own.Fz.R (Kd.int .u8) 5 w37 w.heap.size (fun _ => True) (.slice (some ⟨go33, 0, none⟩) x11_2.length co35) y115 := (by rw [hw, Ny115.out]; exact HP36.1); clear HP36; have n0_ := Aside0.mk (hp_); have n1_ := Aside0.mk ((by rw [hw]; exact below_set (HB.out) GB33.out : Below w.heap.size w w37)); clear HO_11; clear HB; have HO_11 := n0_; have HB := n1_; clear n0_ n1_; clear hg hw hp_)); try go_wp2_with (first | ((with_reducible refine gate_store (t := 5) (p := 88) rfl ?_); (try (rw [drewN_self wr]; generalize hq_ : World.drewN wr _ = wr; have n0_ := Aside0.mk (Go.Proofs.YtnjbbfcknijcnaaW.Own.Fz.R_at hq_ HO_11.out); have n1_ := Aside0.mk (below_at hq_ HB.out); clear hq_ HO_11 HB; have HO_11 := n0_; have HB := n1_; clear n0_ n1_; (try (have HP36 := Go.Proofs.YtnjbbfcknijcnaaW.Own.Fz.R_putg HO_11.out ((ji31) : Int) (Go.bits .xor .u8 (rd x11_2 (ji31)) ((Go.bits .and .i64 (ji30) 255) % 256)))))); refine store_event (t := 5) (p := 88) (v := ?vo_w37) (w1 := (wr.setCell ⟨go33, ((ji31) : Int).toNat, none⟩ (.int .u8 (Go.bits .xor .u8 (rd x11_2 (ji31)) ((Go.bits .and .i64 (ji30) 255) % 256))))) ?hg ?ho ?hn ?hr ?_; (case ho => rfl); (case hg => rfl); (case hn => rfl); (case hr => first | (go_simp; done) | (go_simp; rfl)); intro w37 hw; have hg : wr.grownBy w37 (some go33) := (by rw [hw]; exact HP36.2); have hp_ : Go.Proofs.YtnjbbfcknijcnaaW.Own.Fz.R (Kd.int .u8) 5 w37 w.heap.size (fun _ => True) (.slice (some ⟨go33, 0, none⟩) x11_2.length co35) y115 := (by rw [hw, Ny115.out]; exact HP36.1); clear HP36; have n0_ := Aside0.mk (hp_); have n1_ := Aside0.mk ((by rw [hw]; exact below_set (HB.out) GB33.out : Below w.heap.size w w37)); clear HO_11; clear HB; have HO_11 := n0_; have HB := n1_; clear n0_ n1_; clear hg hw hp_)))
                                go_roundg k2
                                case measure => have := HJ8.out; have := HK2.out; omega
                                case rel => exact ⟨(y115), (true), (wrap64 (x14_2 + 1)), (by first | rfl | (simp; done) | (simp [*]; done)), (by first | rfl | (simp; done) | (simp [*]; done)), H', ⟨by have := HJ8.out; have := HK2.out; omega⟩, ⟨by (with_reducible repeat (first | apply Go.Proofs.YtnjbbfcknijcnaaW.Own.Fz.R_alloc | apply Go.Proofs.YtnjbbfcknijcnaaW.Own.Fz.R_drewN | apply Go.Proofs.YtnjbbfcknijcnaaW.Own.Fz.R_drew)); exact HO_11.out⟩, ⟨by repeat (first | (with_reducible first | exact HB.out | apply below_alloc | apply pw_below_drewN | apply below_drew1) | exact HB.out)⟩⟩
                              · replace c34 := Bool.eq_false_iff.mpr c34
                                subst c34
                                have H1 : (portagelaw2_CrcTurned.l0 k2 a2 t108 y115 ji23 (((Go.bits .and .i64 (ji30) 255) % 256) != 0) (wrap64 (x14_2 + 1))) = some r := by rw [if_neg (show ¬ (false = true) by decide)] at H; exact H
                                clear H
                                have H := H1
                                clear H1
                                have H' := Aside0.mk H
                                clear H
                                obtain ⟨Ao38, co38, eo38⟩ := Go.Proofs.YtnjbbfcknijcnaaW.Own.Fz.R_slice HO_11.out
                                subst eo38
                                have p114 : 0 ≤ ((ji31) : Int) := of_decide_eq_true (by first | (with_reducible assumption) | assumption)
                                have q114 : (ji31) < (x11_2.length : Int) := of_decide_eq_true (by first | (with_reducible assumption) | assumption)
                                obtain ⟨ad114, e114, hx114_0⟩ := Kd.at_int (Go.Proofs.YtnjbbfcknijcnaaW.Own.Fz.R_reads' HO_11.out).2.2 (ji31) p114 q114
                                cases e114
                                replace p114 := eq_true p114
                                replace q114 := eq_true q114
                                have p33 : 0 ≤ ((ji31) : Int) := of_decide_eq_true (by first | (with_reducible assumption) | assumption)
                                have q33 : ((ji31) : Int) < ((x11_2.length : Int) : Int) := of_decide_eq_true (by first | (with_reducible assumption) | assumption)
                                obtain ⟨go33, co33, eo33, gb33, gl33, cl33, HG33⟩ := Go.Proofs.YtnjbbfcknijcnaaW.Own.Fz.R_form HO_11.out (by omega)
                                (first | cases eo33 | (injection eo33 with ea_ en_ ec_; (first | subst ea_ | (injection ea_ with ea_; subst ea_)); subst ec_; clear en_))
                                have GB33 := Aside0.mk gb33
                                have GG33 := Aside0.mk HG33
                                clear gb33 gl33 HG33
                                (first | simp only [add_plain] at hx114_0 | skip)
                                obtain ⟨hx33_0, hf33_0⟩ := Go.Proofs.YtnjbbfcknijcnaaW.Own.Fz.R_celln 0 HO_11.out ((ji31) : Int) p33 q33
                                replace p33 := eq_true p33
                                replace q33 := eq_true q33
                                have HP39 := Go.Proofs.YtnjbbfcknijcnaaW.Own.Fz.R_putg HO_11.out ((ji31) : Int) (Go.bits .xor .u8 (rd x11_2 (ji31)) ((Go.bits .and .i64 (ji30) 255) % 256))
                                go_wp2_with (first | ((with_reducible refine gate_store (t := 5) (p := 88) rfl ?_); (try (rw [drewN_self wr]; generalize hq_ : World.drewN wr _ = wr; have n0_ := Aside0.mk (Go.Proofs.YtnjbbfcknijcnaaW.Own.Fz.R_at hq_ HO_11.out); have n1_ := Aside0.mk (below_at hq_ HB.out); clear hq_ HO_11 HB; have HO_11 := n0_; have HB := n1_; clear n0_ n1_; (try (have HP39 := Go.Proofs.YtnjbbfcknijcnaaW.Own.Fz.R_putg HO_11.out ((ji31) : Int) (Go.bits .xor .u8 (rd x11_2 (ji31)) ((Go.bits .and .i64 (ji30) 255) % 256)))))); refine store_event (t := 5) (p := 88) (v := ?vo_w40) (w1 := (wr.setCell ⟨go33, ((ji31) : Int).toNat, none⟩ (.int .u8 (Go.bits .xor .u8 (rd x11_2 (ji31)) ((Go.bits .and .i64 (ji30) 255) % 256))))) ?hg ?ho ?hn ?hr ?_; (case ho => rfl); (case hg => rfl); (case hn => rfl); (case hr => first | (go_simp; done) | (go_simp; rfl)); intro w40 hw; have hg : wr.grownBy w40 (some go33) := (by rw [hw]; exact HP39.2); have hp_ : Go.Proofs.YtnjbbfcknijcnaaW.Own.Fz.R (Kd.int .u8) 5 w40 w.heap.size (fun _ => True) (.slice (some ⟨go33, 0, none⟩) x11_2.length co38) y115 := (by rw [hw, Ny115.out]; exact HP39.1); clear HP39; have n0_ := Aside0.mk (hp_); have n1_ := Aside0.mk ((by rw [hw]; exact below_set (HB.out) GB33.out : Below w.heap.size w w40)); clear HO_11; clear HB; have HO_11 := n0_; have HB := n1_; clear n0_ n1_; clear hg hw hp_))
                                repeat (go_quiet (first | ((with_reducible refine gate_store (t := 5) (p := 88) rfl ?_); (try (rw [drewN_self wr]; generalize hq_ : World.drewN wr _ = wr; have n0_ := Aside0.mk (Go.Proofs.YtnjbbfcknijcnaaW.Own.Fz.R_at hq_ HO_11.out); have n1_ := Aside0.mk (below_at hq_ HB.out); clear hq_ HO_11 HB; have HO_11 := n0_; have HB := n1_; clear n0_ n1_; (try (have HP39 := Go.Proofs.YtnjbbfcknijcnaaW.Own.Fz.R_putg HO_11.out ((ji31) : Int) (Go.bits .xor .u8 (rd x11_2 (ji31)) ((Go.bits .and .i64 (ji30) 255) % 256)))))); refine store_event (t := 5) (p := 88) (v := ?vo_w40) (w1 := (wr.setCell ⟨go33, ((ji31) : Int).toNat, none⟩ (.int .u8 (Go.bits .xor .u8 (rd x11_2 (ji31)) ((Go.bits .and .i64 (ji30) 255) % 256))))) ?hg ?ho ?hn ?hr ?_; (case ho => rfl); (case hg => rfl); (case hn => rfl); (case hr => first | (go_simp; done) | (go_simp; rfl)); intro w40 hw; have hg : wr.grownBy w40 (some go33) := (by rw [hw]; exact HP39.2); have hp_ : Go.Proofs.YtnjbbfcknijcnaaW.Own.Fz.R (Kd.int .u8) 5 w40 w.heap.size (fun _ => True) (.slice (some ⟨go33, 0, none⟩) x11_2.length co38) y115 := (by rw [hw, Ny115.out]; exact HP39.1); clear HP39; have n0_ := Aside0.mk (hp_); have n1_ := Aside0.mk ((by rw [hw]; exact below_set (HB.out) GB33.out : Below w.heap.size w w40)); clear HO_11; clear HB; have HO_11 := n0_; have HB := n1_; clear n0_ n1_; clear hg hw hp_)); try go_wp2_with (first | ((with_reducible refine gate_store (t := 5) (p := 88) rfl ?_); (try (rw [drewN_self wr]; generalize hq_ : World.drewN wr _ = wr; have n0_ := Aside0.mk (Go.Proofs.YtnjbbfcknijcnaaW.Own.Fz.R_at hq_ HO_11.out); have n1_ := Aside0.mk (below_at hq_ HB.out); clear hq_ HO_11 HB; have HO_11 := n0_; have HB := n1_; clear n0_ n1_; (try (have HP39 := Go.Proofs.YtnjbbfcknijcnaaW.Own.Fz.R_putg HO_11.out ((ji31) : Int) (Go.bits .xor .u8 (rd x11_2 (ji31)) ((Go.bits .and .i64 (ji30) 255) % 256)))))); refine store_event (t := 5) (p := 88) (v := ?vo_w40) (w1 := (wr.setCell ⟨go33, ((ji31) : Int).toNat, none⟩ (.int .u8 (Go.bits .xor .u8 (rd x11_2 (ji31)) ((Go.bits .and .i64 (ji30) 255) % 256))))) ?hg ?ho ?hn ?hr ?_; (case ho => rfl); (case hg => rfl); (case hn => rfl); (case hr => first | (go_simp; done) | (go_simp; rfl)); intro w40 hw; have hg : wr.grownBy w40 (some go33) := (by rw [hw]; exact HP39.2); have hp_ : Go.Proofs.YtnjbbfcknijcnaaW.Own.Fz.R (Kd.int .u8) 5 w40 w.heap.size (fun _ => True) (.slice (some ⟨go33, 0, none⟩) x11_2.length co38) y115 := (by rw [hw, Ny115.out]; exact HP39.1); clear HP39; have n0_ := Aside0.mk (hp_); have n1_ := Aside0.mk ((by rw [hw]; exact below_set (HB.out) GB33.out : Below w.heap.size w w40)); clear HO_11; clear HB; have HO_11 := n0_; have HB := n1_; clear n0_ n1_; clear hg hw hp_)))
                                go_roundg k2
                                case measure => have := HJ8.out; have := HK2.out; omega
                                case rel => exact ⟨(y115), ((((Go.bits .and .i64 (ji30) 255) % 256) != 0)), (wrap64 (x14_2 + 1)), (by first | rfl | (simp; done) | (simp only [← hji30] <;> (first | rfl | simp)) | (simp [*]; done)), (by first | rfl | (simp; done) | (simp [*]; done)), H', ⟨by have := HJ8.out; have := HK2.out; omega⟩, ⟨by (with_reducible repeat (first | apply Go.Proofs.YtnjbbfcknijcnaaW.Own.Fz.R_alloc | apply Go.Proofs.YtnjbbfcknijcnaaW.Own.Fz.R_drewN | apply Go.Proofs.YtnjbbfcknijcnaaW.Own.Fz.R_drew)); exact HO_11.out⟩, ⟨by repeat (first | (with_reducible first | exact HB.out | apply below_alloc | apply pw_below_drewN | apply below_drew1) | exact HB.out)⟩⟩
                            · rw [if_neg c32] at H
                              exact absurd H (by simp)
                          · rw [if_neg c29] at H
                            exact absurd H (by simp)
                        · rw [if_neg c27] at H
                          have c27b0 : decide ((wrap64 (ji23 + x14_2)) < (x11_2.length : Int)) = false := decide_eq_false c27
                          clear c27
                          replace H := Option.bind_eq_some_iff.mp H
                          obtain ⟨t116, A410, H⟩ := H
                          replace H : (some ((t116 != t108) == x13_2)) = some r := H
                          have A41 := Aside0.mk A410
                          clear A410
                          obtain rfl := Option.some.inj H
                          obtain ⟨Ao42, co42, eo42⟩ := Go.Proofs.YtnjbbfcknijcnaaW.Own.Fz.R_slice HO_11.out
                          subst eo42
                          have hcv43 := Go.Proofs.YtnjbbfcknijcnaaW.Own.Fz.own_string (P := Try.prog) Try.underlying27 Try.underlying5 Try.underlying9 (Go.Proofs.YtnjbbfcknijcnaaW.Own.Fz.own_of_R HO_11.out)
                          go_wp2_with (first | (go_at_call 29; (with_reducible refine (crc_Of.calls k2 (strOfNums x11_2) t116 _ A41.out).mono ?_); rintro e w' ⟨rfl, ⟨nd, rfl⟩⟩; (try first | exact ⟨rfl, _, World.drewN_drewN _ _ _⟩ | exact ⟨rfl, _, Eq.trans (World.drewN_drewN _ _ _) (congrArg (World.drewN _) (Nat.add_assoc _ _ _))⟩)))
                          repeat (go_quiet (first | (go_at_call 29; (with_reducible refine (crc_Of.calls k2 (strOfNums x11_2) t116 _ A41.out).mono ?_); rintro e w' ⟨rfl, ⟨nd, rfl⟩⟩; (try first | exact ⟨rfl, _, World.drewN_drewN _ _ _⟩ | exact ⟨rfl, _, Eq.trans (World.drewN_drewN _ _ _) (congrArg (World.drewN _) (Nat.add_assoc _ _ _))⟩))); try go_wp2_with (first | (go_at_call 29; (with_reducible refine (crc_Of.calls k2 (strOfNums x11_2) t116 _ A41.out).mono ?_); rintro e w' ⟨rfl, ⟨nd, rfl⟩⟩; (try first | exact ⟨rfl, _, World.drewN_drewN _ _ _⟩ | exact ⟨rfl, _, Eq.trans (World.drewN_drewN _ _ _) (congrArg (World.drewN _) (Nat.add_assoc _ _ _))⟩))))
                          go_ret
                          exact ⟨by first | rfl | (simp [errW_none, errW_some] <;> rfl) | (simp only [← hji23]; first | rfl | (simp [errW_none, errW_some] <;> rfl)) | (simp [*, errW_none, errW_some] <;> rfl), by repeat (first | (with_reducible first | exact HB.out | apply below_alloc | apply pw_below_drewN | apply below_drew1) | exact HB.out)⟩
                      · rw [if_neg c26] at H
                        have c26b0 : decide (x14_2 < 4) = false := decide_eq_false c26
                        clear c26
                        replace H := Option.bind_eq_some_iff.mp H
                        obtain ⟨t117, A440, H⟩ := H
                        replace H : (some ((t117 != t108) == x13_2)) = some r := H
                        have A44 := Aside0.mk A440
                        clear A440
                        obtain rfl := Option.some.inj H
                        have hcv45 := Go.Proofs.YtnjbbfcknijcnaaW.Own.Fz.own_string (P := Try.prog) Try.underlying27 Try.underlying5 Try.underlying9 (Go.Proofs.YtnjbbfcknijcnaaW.Own.Fz.own_of_R HO_11.out)
                        go_wp2_with (first | (go_at_call 29; (with_reducible refine (crc_Of.calls k2 (strOfNums x11_2) t117 _ A44.out).mono ?_); rintro e w' ⟨rfl, ⟨nd, rfl⟩⟩; (try first | exact ⟨rfl, _, World.drewN_drewN _ _ _⟩ | exact ⟨rfl, _, Eq.trans (World.drewN_drewN _ _ _) (congrArg (World.drewN _) (Nat.add_assoc _ _ _))⟩)))
                        repeat (go_quiet (first | (go_at_call 29; (with_reducible refine (crc_Of.calls k2 (strOfNums x11_2) t117 _ A44.out).mono ?_); rintro e w' ⟨rfl, ⟨nd, rfl⟩⟩; (try first | exact ⟨rfl, _, World.drewN_drewN _ _ _⟩ | exact ⟨rfl, _, Eq.trans (World.drewN_drewN _ _ _) (congrArg (World.drewN _) (Nat.add_assoc _ _ _))⟩))); try go_wp2_with (first | (go_at_call 29; (with_reducible refine (crc_Of.calls k2 (strOfNums x11_2) t117 _ A44.out).mono ?_); rintro e w' ⟨rfl, ⟨nd, rfl⟩⟩; (try first | exact ⟨rfl, _, World.drewN_drewN _ _ _⟩ | exact ⟨rfl, _, Eq.trans (World.drewN_drewN _ _ _) (congrArg (World.drewN _) (Nat.add_assoc _ _ _))⟩))))
                        go_ret
                        exact ⟨by first | rfl | (simp [errW_none, errW_some] <;> rfl) | (simp only [← hji23]; first | rfl | (simp [errW_none, errW_some] <;> rfl)) | (simp [*, errW_none, errW_some] <;> rfl), by repeat (first | (with_reducible first | exact HB.out | apply below_alloc | apply pw_below_drewN | apply below_drew1) | exact HB.out)⟩
              · rw [if_neg c21] at H
                exact absurd H (by simp)
  · replace c6 := Bool.eq_false_iff.mpr c6
    subst c6
    have H1 : (none) = some r := by rw [if_neg (show ¬ (false = true) by decide)] at H; exact H
    clear H
    have H := H1
    clear H1
    exact absurd H (by simp)

/-- THE ONE PURE STATEMENT of portagelaw2_CrcTurned: yours. -/
def portagelaw2_CrcTurned.Pure : Prop := ∀ (a0 : ByteArray) (a1 : Int) (a2 : Int) (a3 : Int), a0.size ≤ 140737488351232 → (Lit.int .i64 a1).wf = true → (Lit.int .i64 a2).wf = true → (Lit.int .i64 a3).wf = true → ∃ k, portagelaw2_CrcTurned.f k a0 a1 a2 a3 = some true
theorem portagelaw2_CrcTurned.walk (P : portagelaw2_CrcTurned.Pure) (a0 : ByteArray) (a1 : Int) (a2 : Int) (a3 : Int) (w : World) (w0 : a0.size ≤ 140737488351232) (w1 : (Lit.int .i64 a1).wf = true) (w2 : (Lit.int .i64 a2).wf = true) (w3 : (Lit.int .i64 a3).wf = true) :
    Calls Try.prog 5 #[.string a0, .int .i64 a1, .int .i64 a2, .int .i64 a3] w fun e w' => e = .returned (.bool true) ∧ Below w.heap.size w w' := by
  obtain ⟨k, h⟩ := P a0 a1 a2 a3 w0 w1 w2 w3
  refine (portagelaw2_CrcTurned.calls k a0 a1 a2 a3 true w h).mono ?_
  rintro e w' ⟨rfl, hd⟩
  exact ⟨rfl, hd⟩

end Go.Proofs.Ytnjbbfcknijcnaa.T
