-- Written by a program of this session out of the translation (a changed copy of the kit's printer).
import Derived.Test.YtnjbbfcknijcnaaA0
import Derived.Test.YtnjbbfcknijcnaaA1
import Derived.Test.YtnjbbfcknijcnaaA2
namespace Go.Proofs.Ytnjbbfcknijcnaa.A
open Go.RowKit Go.Proofs.YtnjbbfcknijcnaaW.PrintWords Go.Proofs.YtnjbbfcknijcnaaW.PrintLast Go.Proofs.YtnjbbfcknijcnaaW.PrintMore
attribute [local go_sem] max2_int min2_int max_two min_two max_three min_three max_four min_four   -- for this text's walks alone
set_option linter.unusedVariables false
set_option linter.unusedSimpArgs false

/-! ### portagelaw2_CrcTable: function 7 -/
def portagelaw2_CrcTable.f (k : Nat) (a0 : Int) : Option (Bool) := (portagelaw2_awake.f k).bind fun t124 => (if t124 = true then ((some (([(⟨#[]⟩ : ByteArray), (⟨#[97]⟩ : ByteArray), (⟨#[97, 98, 99]⟩ : ByteArray), (⟨#[49, 50, 51, 52, 53, 54, 55, 56, 57]⟩ : ByteArray), (⟨#[0]⟩ : ByteArray), (⟨#[0, 0, 0, 0]⟩ : ByteArray), (⟨#[255, 255, 255, 255]⟩ : ByteArray)] : List ByteArray) : List ByteArray)).bind fun y125 => ((some (([0, 3904355907, 891568578, 3421780262, 3523407757, 558161692, 4294967295] : List Int) : List Int)).bind fun y128 => ((portagelaw0_Num.f 0).bind fun t131 => (if t131 = 0 then (if 0 ≤ (wrap64 (Int.tmod (IntKind.u64.wrap (a0)) 7)) then (if (wrap64 (Int.tmod (IntKind.u64.wrap (a0)) 7)) < (y125.length : Int) then ((crc_Of.f k (rdOf ByteArray.empty y125 (wrap64 (Int.tmod (IntKind.u64.wrap (a0)) 7)))).bind fun t133 => (if (wrap64 (Int.tmod (IntKind.u64.wrap (a0)) 7)) < (y128.length : Int) then (some (t133 == (rd y128 (wrap64 (Int.tmod (IntKind.u64.wrap (a0)) 7))))) else (none))) else (none)) else (none)) else (none))))) else (none))
theorem portagelaw2_CrcTable.mono : ∀ a0 k, LeO (portagelaw2_CrcTable.f k a0) (portagelaw2_CrcTable.f (k + 1) a0) := by
  intro a0 k
  unfold portagelaw2_CrcTable.f
  repeat' first
      | (with_reducible exact crc_Of.mono _ _)
      | (with_reducible exact portagelaw2_awake.mono _)
      | (with_reducible exact LeO.refl _)
      | (with_reducible exact LeO.none _)
      | (with_reducible refine LeO.ite ?_ ?_)
      | (with_reducible refine LeO.bind ?_ (fun _ => ?_))
      | exact crc_Of.mono _ _
      | exact portagelaw2_awake.mono _
      | exact LeO.none _
      | refine LeO.ite ?_ ?_
      | refine LeO.bind ?_ (fun _ => ?_)
set_option maxHeartbeats 8000000 in
set_option maxRecDepth 100000 in
theorem portagelaw2_CrcTable.calls (k : Nat) (a0 : Int) (r : Bool) (w : World) (h : portagelaw2_CrcTable.f k a0 = some r) :
    Calls Try.prog 7 #[.int .i64 a0] w fun e w' => e = .returned (.bool r) ∧ Below w.heap.size w w' := by
  have HB := Aside0.mk (Below.refl w.heap.size w)
  have H : ((portagelaw2_awake.f k).bind fun t124 => (if t124 = true then ((some (([(⟨#[]⟩ : ByteArray), (⟨#[97]⟩ : ByteArray), (⟨#[97, 98, 99]⟩ : ByteArray), (⟨#[49, 50, 51, 52, 53, 54, 55, 56, 57]⟩ : ByteArray), (⟨#[0]⟩ : ByteArray), (⟨#[0, 0, 0, 0]⟩ : ByteArray), (⟨#[255, 255, 255, 255]⟩ : ByteArray)] : List ByteArray) : List ByteArray)).bind fun y125 => ((some (([0, 3904355907, 891568578, 3421780262, 3523407757, 558161692, 4294967295] : List Int) : List Int)).bind fun y128 => ((portagelaw0_Num.f 0).bind fun t131 => (if t131 = 0 then (if 0 ≤ (wrap64 (Int.tmod (IntKind.u64.wrap (a0)) 7)) then (if (wrap64 (Int.tmod (IntKind.u64.wrap (a0)) 7)) < (y125.length : Int) then ((crc_Of.f k (rdOf ByteArray.empty y125 (wrap64 (Int.tmod (IntKind.u64.wrap (a0)) 7)))).bind fun t133 => (if (wrap64 (Int.tmod (IntKind.u64.wrap (a0)) 7)) < (y128.length : Int) then (some (t133 == (rd y128 (wrap64 (Int.tmod (IntKind.u64.wrap (a0)) 7))))) else (none))) else (none)) else (none)) else (none))))) else (none))) = some r := h
  clear h
  replace H := Option.bind_eq_some_iff.mp H
  obtain ⟨t124, A20, H⟩ := H
  replace H : (if t124 = true then ((some (([(⟨#[]⟩ : ByteArray), (⟨#[97]⟩ : ByteArray), (⟨#[97, 98, 99]⟩ : ByteArray), (⟨#[49, 50, 51, 52, 53, 54, 55, 56, 57]⟩ : ByteArray), (⟨#[0]⟩ : ByteArray), (⟨#[0, 0, 0, 0]⟩ : ByteArray), (⟨#[255, 255, 255, 255]⟩ : ByteArray)] : List ByteArray) : List ByteArray)).bind fun y125 => ((some (([0, 3904355907, 891568578, 3421780262, 3523407757, 558161692, 4294967295] : List Int) : List Int)).bind fun y128 => ((portagelaw0_Num.f 0).bind fun t131 => (if t131 = 0 then (if 0 ≤ (wrap64 (Int.tmod (IntKind.u64.wrap (a0)) 7)) then (if (wrap64 (Int.tmod (IntKind.u64.wrap (a0)) 7)) < (y125.length : Int) then ((crc_Of.f k (rdOf ByteArray.empty y125 (wrap64 (Int.tmod (IntKind.u64.wrap (a0)) 7)))).bind fun t133 => (if (wrap64 (Int.tmod (IntKind.u64.wrap (a0)) 7)) < (y128.length : Int) then (some (t133 == (rd y128 (wrap64 (Int.tmod (IntKind.u64.wrap (a0)) 7))))) else (none))) else (none)) else (none)) else (none))))) else (none)) = some r := H
  have A2 := Aside0.mk A20
  clear A20
  by_cases c3 : t124 = true
  · subst c3
    have H1 : ((some (([(⟨#[]⟩ : ByteArray), (⟨#[97]⟩ : ByteArray), (⟨#[97, 98, 99]⟩ : ByteArray), (⟨#[49, 50, 51, 52, 53, 54, 55, 56, 57]⟩ : ByteArray), (⟨#[0]⟩ : ByteArray), (⟨#[0, 0, 0, 0]⟩ : ByteArray), (⟨#[255, 255, 255, 255]⟩ : ByteArray)] : List ByteArray) : List ByteArray)).bind fun y125 => ((some (([0, 3904355907, 891568578, 3421780262, 3523407757, 558161692, 4294967295] : List Int) : List Int)).bind fun y128 => ((portagelaw0_Num.f 0).bind fun t131 => (if t131 = 0 then (if 0 ≤ (wrap64 (Int.tmod (IntKind.u64.wrap (a0)) 7)) then (if (wrap64 (Int.tmod (IntKind.u64.wrap (a0)) 7)) < (y125.length : Int) then ((crc_Of.f k (rdOf ByteArray.empty y125 (wrap64 (Int.tmod (IntKind.u64.wrap (a0)) 7)))).bind fun t133 => (if (wrap64 (Int.tmod (IntKind.u64.wrap (a0)) 7)) < (y128.length : Int) then (some (t133 == (rd y128 (wrap64 (Int.tmod (IntKind.u64.wrap (a0)) 7))))) else (none))) else (none)) else (none)) else (none))))) = some r := by rw [if_pos rfl] at H; exact H
    clear H
    have H := H1
    clear H1
    obtain ⟨y125, hy125⟩ : ∃ y_ : List ByteArray, y_ = (([(⟨#[]⟩ : ByteArray), (⟨#[97]⟩ : ByteArray), (⟨#[97, 98, 99]⟩ : ByteArray), (⟨#[49, 50, 51, 52, 53, 54, 55, 56, 57]⟩ : ByteArray), (⟨#[0]⟩ : ByteArray), (⟨#[0, 0, 0, 0]⟩ : ByteArray), (⟨#[255, 255, 255, 255]⟩ : ByteArray)] : List ByteArray)) := ⟨_, rfl⟩
    replace H : ((some (([0, 3904355907, 891568578, 3421780262, 3523407757, 558161692, 4294967295] : List Int) : List Int)).bind fun y128 => ((portagelaw0_Num.f 0).bind fun t131 => (if t131 = 0 then (if 0 ≤ (wrap64 (Int.tmod (IntKind.u64.wrap (a0)) 7)) then (if (wrap64 (Int.tmod (IntKind.u64.wrap (a0)) 7)) < (y125.length : Int) then ((crc_Of.f k (rdOf ByteArray.empty y125 (wrap64 (Int.tmod (IntKind.u64.wrap (a0)) 7)))).bind fun t133 => (if (wrap64 (Int.tmod (IntKind.u64.wrap (a0)) 7)) < (y128.length : Int) then (some (t133 == (rd y128 (wrap64 (Int.tmod (IntKind.u64.wrap (a0)) 7))))) else (none))) else (none)) else (none)) else (none)))) = some r := by first | (rw [hy125]; with_reducible exact H) | (have H2_ := (Option.bind_some _ _).symm.trans H; rw [hy125]; with_reducible exact H2_) | (have H2_ := (Option.bind_some _ _).symm.trans H; with_reducible exact H2_) | with_reducible exact H | (rw [hy125]; exact H) | exact H
    have Ny125 := Aside0.mk hy125
    clear hy125
    obtain ⟨y128, hy128⟩ : ∃ y_ : List Int, y_ = (([0, 3904355907, 891568578, 3421780262, 3523407757, 558161692, 4294967295] : List Int)) := ⟨_, rfl⟩
    replace H : ((portagelaw0_Num.f 0).bind fun t131 => (if t131 = 0 then (if 0 ≤ (wrap64 (Int.tmod (IntKind.u64.wrap (a0)) 7)) then (if (wrap64 (Int.tmod (IntKind.u64.wrap (a0)) 7)) < (y125.length : Int) then ((crc_Of.f k (rdOf ByteArray.empty y125 (wrap64 (Int.tmod (IntKind.u64.wrap (a0)) 7)))).bind fun t133 => (if (wrap64 (Int.tmod (IntKind.u64.wrap (a0)) 7)) < (y128.length : Int) then (some (t133 == (rd y128 (wrap64 (Int.tmod (IntKind.u64.wrap (a0)) 7))))) else (none))) else (none)) else (none)) else (none))) = some r := by first | (rw [hy128]; with_reducible exact H) | (have H2_ := (Option.bind_some _ _).symm.trans H; rw [hy128]; with_reducible exact H2_) | (have H2_ := (Option.bind_some _ _).symm.trans H; with_reducible exact H2_) | with_reducible exact H | (rw [hy128]; exact H) | exact H
    have Ny128 := Aside0.mk hy128
    clear hy128
    replace H := Option.bind_eq_some_iff.mp H
    obtain ⟨t131, A40, H⟩ := H
    replace H : (if t131 = 0 then (if 0 ≤ (wrap64 (Int.tmod (IntKind.u64.wrap (a0)) 7)) then (if (wrap64 (Int.tmod (IntKind.u64.wrap (a0)) 7)) < (y125.length : Int) then ((crc_Of.f k (rdOf ByteArray.empty y125 (wrap64 (Int.tmod (IntKind.u64.wrap (a0)) 7)))).bind fun t133 => (if (wrap64 (Int.tmod (IntKind.u64.wrap (a0)) 7)) < (y128.length : Int) then (some (t133 == (rd y128 (wrap64 (Int.tmod (IntKind.u64.wrap (a0)) 7))))) else (none))) else (none)) else (none)) else (none)) = some r := H
    have A4 := Aside0.mk A40
    clear A40
    by_cases c5 : t131 = 0
    · rw [if_pos c5] at H
      have c5b0 : (t131 == 0) = true := beq_iff_eq.mpr c5
      have c5b1 : (t131 != 0) = false := bne_eq_false_iff_eq.mpr c5
      clear c5
      obtain ⟨ji6, hji6⟩ : ∃ j_ : Int, (wrap64 (Int.tmod (IntKind.u64.wrap (a0)) 7)) = j_ := ⟨_, rfl⟩
      replace H : (if 0 ≤ (ji6) then (if (ji6) < (y125.length : Int) then ((crc_Of.f k (rdOf ByteArray.empty y125 (ji6))).bind fun t133 => (if (ji6) < (y128.length : Int) then (some (t133 == (rd y128 (ji6)))) else (none))) else (none)) else (none)) = some r := by first | (rw [hji6] at H; exact H) | (simp only [hji6] at H ⊢; exact H)
      (try rw [hji6] at A2)
      (try rw [hji6] at A4)
      have hji6w : (IntKind.i64.wrap (Int.tmod (IntKind.u64.wrap (a0)) 7)) = ji6 := (i64_w _).trans hji6
      by_cases c7 : 0 ≤ (ji6)
      · rw [if_pos c7] at H
        have c7b0 : decide (0 ≤ (ji6)) = true := decide_eq_true c7
        clear c7
        by_cases c8 : (ji6) < (y125.length : Int)
        · rw [if_pos c8] at H
          have c8b0 : decide ((ji6) < (y125.length : Int)) = true := decide_eq_true c8
          clear c8
          replace H := Option.bind_eq_some_iff.mp H
          obtain ⟨t133, A90, H⟩ := H
          replace H : (if (ji6) < (y128.length : Int) then (some (t133 == (rd y128 (ji6)))) else (none)) = some r := H
          have A9 := Aside0.mk A90
          clear A90
          by_cases c10 : (ji6) < (y128.length : Int)
          · rw [if_pos c10] at H
            have c10b0 : decide ((ji6) < (y128.length : Int)) = true := decide_eq_true c10
            clear c10
            obtain rfl := Option.some.inj H
            go_enter Try.func7, Try.ntmps7
            go_wp2_with (first | (go_at_call 33; (with_reducible refine (portagelaw2_awake.calls k  true _ A2.out).mono ?_); rintro e w' ⟨rfl, ⟨nd, rfl⟩⟩; (try first | exact ⟨rfl, _, World.drewN_drewN _ _ _⟩ | exact ⟨rfl, _, Eq.trans (World.drewN_drewN _ _ _) (congrArg (World.drewN _) (Nat.add_assoc _ _ _))⟩)) | ((with_reducible refine gate_dst (N := 8) rfl ?_); refine Kd.R_lit Kd.string _ 9 ?hg (N := 8) ?hd (xs := ([(⟨#[]⟩ : ByteArray), (⟨#[97]⟩ : ByteArray), (⟨#[97, 98, 99]⟩ : ByteArray), (⟨#[49, 50, 51, 52, 53, 54, 55, 56, 57]⟩ : ByteArray), (⟨#[0]⟩ : ByteArray), (⟨#[0, 0, 0, 0]⟩ : ByteArray), (⟨#[255, 255, 255, 255]⟩ : ByteArray)] : List ByteArray)) (inner := [.string (⟨#[]⟩ : ByteArray), .string (⟨#[97]⟩ : ByteArray), .string (⟨#[97, 98, 99]⟩ : ByteArray), .string (⟨#[49, 50, 51, 52, 53, 54, 55, 56, 57]⟩ : ByteArray), .string (⟨#[0]⟩ : ByteArray), .string (⟨#[0, 0, 0, 0]⟩ : ByteArray), .string (⟨#[255, 255, 255, 255]⟩ : ByteArray)]) (ok := fun _ => True) (okp := fun _ => True) ?hr ?hp (fun _ hk => hk) trivial (Below.refl _ _) (Nat.le_refl _) (by simp) ?_; (case hd => rfl); (case hg => rfl); (case hr => first | (go_simp; done) | (go_simp; rfl)); (case hp => exact (Reps.one (show Kd.M Kd.string _ _ _ (⟨#[]⟩ : ByteArray) [.string (⟨#[]⟩ : ByteArray)] from rfl) (Reps.one (show Kd.M Kd.string _ _ _ (⟨#[97]⟩ : ByteArray) [.string (⟨#[97]⟩ : ByteArray)] from rfl) (Reps.one (show Kd.M Kd.string _ _ _ (⟨#[97, 98, 99]⟩ : ByteArray) [.string (⟨#[97, 98, 99]⟩ : ByteArray)] from rfl) (Reps.one (show Kd.M Kd.string _ _ _ (⟨#[49, 50, 51, 52, 53, 54, 55, 56, 57]⟩ : ByteArray) [.string (⟨#[49, 50, 51, 52, 53, 54, 55, 56, 57]⟩ : ByteArray)] from rfl) (Reps.one (show Kd.M Kd.string _ _ _ (⟨#[0]⟩ : ByteArray) [.string (⟨#[0]⟩ : ByteArray)] from rfl) (Reps.one (show Kd.M Kd.string _ _ _ (⟨#[0, 0, 0, 0]⟩ : ByteArray) [.string (⟨#[0, 0, 0, 0]⟩ : ByteArray)] from rfl) (Reps.one (show Kd.M Kd.string _ _ _ (⟨#[255, 255, 255, 255]⟩ : ByteArray) [.string (⟨#[255, 255, 255, 255]⟩ : ByteArray)] from rfl) (Reps.none _ _))))))))); intro v126 w11 ho12 hb hg_ hnew_; clear hg_ hnew_; (first | rw [← Ny125.out] at ho12 | (simp only [Int.reduceToNat] at ho12; rw [← Ny125.out] at ho12)); have n0_ := Aside0.mk (Kd.R_lower ho12 (below_size (by repeat (first | (with_reducible first | exact HB.out | apply below_alloc | apply pw_below_drewN | apply below_drew1) | exact HB.out)))); have n1_ := Aside0.mk (below_step (by repeat (first | (with_reducible first | exact HB.out | apply below_alloc | apply pw_below_drewN | apply below_drew1) | exact HB.out)) hb); clear HB; have HO127 := n0_; have HB := n1_; clear n0_ n1_; clear hb ho12) | ((with_reducible refine gate_dst (N := 9) rfl ?_); refine Kd.R_lit (Kd.int .i64) _ 3 ?hg (N := 9) ?hd (xs := ([0, 3904355907, 891568578, 3421780262, 3523407757, 558161692, 4294967295] : List Int)) (inner := [.int .i64 0, .int .i64 3904355907, .int .i64 891568578, .int .i64 3421780262, .int .i64 3523407757, .int .i64 558161692, .int .i64 4294967295]) (ok := fun _ => True) (okp := fun _ => True) ?hr ?hp (fun _ hk => hk) trivial (Below.refl _ _) (Nat.le_refl _) (by simp) ?_; (case hd => rfl); (case hg => rfl); (case hr => first | (go_simp; done) | (go_simp; rfl)); (case hp => exact (Reps.one (show Kd.M (Kd.int .i64) _ _ _ 0 [.int .i64 0] from rfl) (Reps.one (show Kd.M (Kd.int .i64) _ _ _ 3904355907 [.int .i64 3904355907] from rfl) (Reps.one (show Kd.M (Kd.int .i64) _ _ _ 891568578 [.int .i64 891568578] from rfl) (Reps.one (show Kd.M (Kd.int .i64) _ _ _ 3421780262 [.int .i64 3421780262] from rfl) (Reps.one (show Kd.M (Kd.int .i64) _ _ _ 3523407757 [.int .i64 3523407757] from rfl) (Reps.one (show Kd.M (Kd.int .i64) _ _ _ 558161692 [.int .i64 558161692] from rfl) (Reps.one (show Kd.M (Kd.int .i64) _ _ _ 4294967295 [.int .i64 4294967295] from rfl) (Reps.none _ _))))))))); intro v129 w13 ho14 hb hg_ hnew_; clear hg_ hnew_; (first | rw [← Ny128.out] at ho14 | (simp only [Int.reduceToNat] at ho14; rw [← Ny128.out] at ho14)); have n0_ := Aside0.mk (Kd.R_below (by (with_reducible repeat (first | apply Kd.R_alloc | apply Kd.R_drewN | apply Kd.R_drew)); exact HO127.out) hb); have n1_ := Aside0.mk (Kd.R_lower ho14 (below_size (by repeat (first | (with_reducible first | exact HB.out | apply below_alloc | apply pw_below_drewN | apply below_drew1) | exact HB.out)))); have n2_ := Aside0.mk (below_step (by repeat (first | (with_reducible first | exact HB.out | apply below_alloc | apply pw_below_drewN | apply below_drew1) | exact HB.out)) hb); clear HO127; clear HB; have HO127 := n0_; have HO130 := n1_; have HB := n2_; clear n0_ n1_ n2_; clear hb ho14) | (go_at_call 34; (with_reducible refine (portagelaw0_Num.calls 0 t131 _ A4.out).mono ?_); rintro e w' ⟨rfl, ⟨nd, rfl⟩⟩; (try first | exact ⟨rfl, _, World.drewN_drewN _ _ _⟩ | exact ⟨rfl, _, Eq.trans (World.drewN_drewN _ _ _) (congrArg (World.drewN _) (Nat.add_assoc _ _ _))⟩); obtain ⟨Ao15, co15, eo15⟩ := Kd.R_slice HO127.out; subst eo15; have p132 : 0 ≤ ((ji6) : Int) := of_decide_eq_true (by first | (with_reducible assumption) | assumption); have q132 : (ji6) < (y125.length : Int) := of_decide_eq_true (by first | (with_reducible assumption) | assumption); obtain ⟨ad132, e132, hx132_0⟩ := Kd.at_string (Kd.R_reads' HO127.out).2.2 (ji6) p132 q132; cases e132; replace p132 := eq_true p132; replace q132 := eq_true q132) | (go_at_call 29; (with_reducible refine (crc_Of.calls k (rdOf ByteArray.empty y125 (ji6)) t133 _ A9.out).mono ?_); rintro e w' ⟨rfl, ⟨nd, rfl⟩⟩; (try first | exact ⟨rfl, _, World.drewN_drewN _ _ _⟩ | exact ⟨rfl, _, Eq.trans (World.drewN_drewN _ _ _) (congrArg (World.drewN _) (Nat.add_assoc _ _ _))⟩); obtain ⟨Ao16, co16, eo16⟩ := Kd.R_slice HO130.out; subst eo16; have p134 : 0 ≤ ((ji6) : Int) := of_decide_eq_true (by first | (with_reducible assumption) | assumption); have q134 : (ji6) < (y128.length : Int) := of_decide_eq_true (by first | (with_reducible assumption) | assumption); obtain ⟨ad134, e134, hx134_0⟩ := Kd.at_int (Kd.R_reads' HO130.out).2.2 (ji6) p134 q134; cases e134; replace p134 := eq_true p134; replace q134 := eq_true q134))
            repeat (go_quiet (first | (go_at_call 33; (with_reducible refine (portagelaw2_awake.calls k  true _ A2.out).mono ?_); rintro e w' ⟨rfl, ⟨nd, rfl⟩⟩; (try first | exact ⟨rfl, _, World.drewN_drewN _ _ _⟩ | exact ⟨rfl, _, Eq.trans (World.drewN_drewN _ _ _) (congrArg (World.drewN _) (Nat.add_assoc _ _ _))⟩)) | ((with_reducible refine gate_dst (N := 8) rfl ?_); refine Kd.R_lit Kd.string _ 9 ?hg (N := 8) ?hd (xs := ([(⟨#[]⟩ : ByteArray), (⟨#[97]⟩ : ByteArray), (⟨#[97, 98, 99]⟩ : ByteArray), (⟨#[49, 50, 51, 52, 53, 54, 55, 56, 57]⟩ : ByteArray), (⟨#[0]⟩ : ByteArray), (⟨#[0, 0, 0, 0]⟩ : ByteArray), (⟨#[255, 255, 255, 255]⟩ : ByteArray)] : List ByteArray)) (inner := [.string (⟨#[]⟩ : ByteArray), .string (⟨#[97]⟩ : ByteArray), .string (⟨#[97, 98, 99]⟩ : ByteArray), .string (⟨#[49, 50, 51, 52, 53, 54, 55, 56, 57]⟩ : ByteArray), .string (⟨#[0]⟩ : ByteArray), .string (⟨#[0, 0, 0, 0]⟩ : ByteArray), .string (⟨#[255, 255, 255, 255]⟩ : ByteArray)]) (ok := fun _ => True) (okp := fun _ => True) ?hr ?hp (fun _ hk => hk) trivial (Below.refl _ _) (Nat.le_refl _) (by simp) ?_; (case hd => rfl); (case hg => rfl); (case hr => first | (go_simp; done) | (go_simp; rfl)); (case hp => exact (Reps.one (show Kd.M Kd.string _ _ _ (⟨#[]⟩ : ByteArray) [.string (⟨#[]⟩ : ByteArray)] from rfl) (Reps.one (show Kd.M Kd.string _ _ _ (⟨#[97]⟩ : ByteArray) [.string (⟨#[97]⟩ : ByteArray)] from rfl) (Reps.one (show Kd.M Kd.string _ _ _ (⟨#[97, 98, 99]⟩ : ByteArray) [.string (⟨#[97, 98, 99]⟩ : ByteArray)] from rfl) (Reps.one (show Kd.M Kd.string _ _ _ (⟨#[49, 50, 51, 52, 53, 54, 55, 56, 57]⟩ : ByteArray) [.string (⟨#[49, 50, 51, 52, 53, 54, 55, 56, 57]⟩ : ByteArray)] from rfl) (Reps.one (show Kd.M Kd.string _ _ _ (⟨#[0]⟩ : ByteArray) [.string (⟨#[0]⟩ : ByteArray)] from rfl) (Reps.one (show Kd.M Kd.string _ _ _ (⟨#[0, 0, 0, 0]⟩ : ByteArray) [.string (⟨#[0, 0, 0, 0]⟩ : ByteArray)] from rfl) (Reps.one (show Kd.M Kd.string _ _ _ (⟨#[255, 255, 255, 255]⟩ : ByteArray) [.string (⟨#[255, 255, 255, 255]⟩ : ByteArray)] from rfl) (Reps.none _ _))))))))); intro v126 w11 ho12 hb hg_ hnew_; clear hg_ hnew_; (first | rw [← Ny125.out] at ho12 | (simp only [Int.reduceToNat] at ho12; rw [← Ny125.out] at ho12)); have n0_ := Aside0.mk (Kd.R_lower ho12 (below_size (by repeat (first | (with_reducible first | exact HB.out | apply below_alloc | apply pw_below_drewN | apply below_drew1) | exact HB.out)))); have n1_ := Aside0.mk (below_step (by repeat (first | (with_reducible first | exact HB.out | apply below_alloc | apply pw_below_drewN | apply below_drew1) | exact HB.out)) hb); clear HB; have HO127 := n0_; have HB := n1_; clear n0_ n1_; clear hb ho12) | ((with_reducible refine gate_dst (N := 9) rfl ?_); refine Kd.R_lit (Kd.int .i64) _ 3 ?hg (N := 9) ?hd (xs := ([0, 3904355907, 891568578, 3421780262, 3523407757, 558161692, 4294967295] : List Int)) (inner := [.int .i64 0, .int .i64 3904355907, .int .i64 891568578, .int .i64 3421780262, .int .i64 3523407757, .int .i64 558161692, .int .i64 4294967295]) (ok := fun _ => True) (okp := fun _ => True) ?hr ?hp (fun _ hk => hk) trivial (Below.refl _ _) (Nat.le_refl _) (by simp) ?_; (case hd => rfl); (case hg => rfl); (case hr => first | (go_simp; done) | (go_simp; rfl)); (case hp => exact (Reps.one (show Kd.M (Kd.int .i64) _ _ _ 0 [.int .i64 0] from rfl) (Reps.one (show Kd.M (Kd.int .i64) _ _ _ 3904355907 [.int .i64 3904355907] from rfl) (Reps.one (show Kd.M (Kd.int .i64) _ _ _ 891568578 [.int .i64 891568578] from rfl) (Reps.one (show Kd.M (Kd.int .i64) _ _ _ 3421780262 [.int .i64 3421780262] from rfl) (Reps.one (show Kd.M (Kd.int .i64) _ _ _ 3523407757 [.int .i64 3523407757] from rfl) (Reps.one (show Kd.M (Kd.int .i64) _ _ _ 558161692 [.int .i64 558161692] from rfl) (Reps.one (show Kd.M (Kd.int .i64) _ _ _ 4294967295 [.int .i64 4294967295] from rfl) (Reps.none _ _))))))))); intro v129 w13 ho14 hb hg_ hnew_; clear hg_ hnew_; (first | rw [← Ny128.out] at ho14 | (simp only [Int.reduceToNat] at ho14; rw [← Ny128.out] at ho14)); have n0_ := Aside0.mk (Kd.R_below (by (with_reducible repeat (first | apply Kd.R_alloc | apply Kd.R_drewN | apply Kd.R_drew)); exact HO127.out) hb); have n1_ := Aside0.mk (Kd.R_lower ho14 (below_size (by repeat (first | (with_reducible first | exact HB.out | apply below_alloc | apply pw_below_drewN | apply below_drew1) | exact HB.out)))); have n2_ := Aside0.mk (below_step (by repeat (first | (with_reducible first | exact HB.out | apply below_alloc | apply pw_below_drewN | apply below_drew1) | exact HB.out)) hb); clear HO127; clear HB; have HO127 := n0_; have HO130 := n1_; have HB := n2_; clear n0_ n1_ n2_; clear hb ho14) | (go_at_call 34; (with_reducible refine (portagelaw0_Num.calls 0 t131 _ A4.out).mono ?_); rintro e w' ⟨rfl, ⟨nd, rfl⟩⟩; (try first | exact ⟨rfl, _, World.drewN_drewN _ _ _⟩ | exact ⟨rfl, _, Eq.trans (World.drewN_drewN _ _ _) (congrArg (World.drewN _) (Nat.add_assoc _ _ _))⟩); obtain ⟨Ao15, co15, eo15⟩ := Kd.R_slice HO127.out; subst eo15; have p132 : 0 ≤ ((ji6) : Int) := of_decide_eq_true (by first | (with_reducible assumption) | assumption); have q132 : (ji6) < (y125.length : Int) := of_decide_eq_true (by first | (with_reducible assumption) | assumption); obtain ⟨ad132, e132, hx132_0⟩ := Kd.at_string (Kd.R_reads' HO127.out).2.2 (ji6) p132 q132; cases e132; replace p132 := eq_true p132; replace q132 := eq_true q132) | (go_at_call 29; (with_reducible refine (crc_Of.calls k (rdOf ByteArray.empty y125 (ji6)) t133 _ A9.out).mono ?_); rintro e w' ⟨rfl, ⟨nd, rfl⟩⟩; (try first | exact ⟨rfl, _, World.drewN_drewN _ _ _⟩ | exact ⟨rfl, _, Eq.trans (World.drewN_drewN _ _ _) (congrArg (World.drewN _) (Nat.add_assoc _ _ _))⟩); obtain ⟨Ao16, co16, eo16⟩ := Kd.R_slice HO130.out; subst eo16; have p134 : 0 ≤ ((ji6) : Int) := of_decide_eq_true (by first | (with_reducible assumption) | assumption); have q134 : (ji6) < (y128.length : Int) := of_decide_eq_true (by first | (with_reducible assumption) | assumption); obtain ⟨ad134, e134, hx134_0⟩ := Kd.at_int (Kd.R_reads' HO130.out).2.2 (ji6) p134 q134; cases e134; replace p134 := eq_true p134; replace q134 := eq_true q134)); try go_wp2_with (first | (go_at_call 33; (with_reducible refine (portagelaw2_awake.calls k  true _ A2.out).mono ?_); rintro e w' ⟨rfl, ⟨nd, rfl⟩⟩; (try first | exact ⟨rfl, _, World.drewN_drewN _ _ _⟩ | exact ⟨rfl, _, Eq.trans (World.drewN_drewN _ _ _) (congrArg (World.drewN _) (Nat.add_assoc _ _ _))⟩)) | ((with_reducible refine gate_dst (N := 8) rfl ?_); refine Kd.R_lit Kd.string _ 9 ?hg (N := 8) ?hd (xs := ([(⟨#[]⟩ : ByteArray), (⟨#[97]⟩ : ByteArray), (⟨#[97, 98, 99]⟩ : ByteArray), (⟨#[49, 50, 51, 52, 53, 54, 55, 56, 57]⟩ : ByteArray), (⟨#[0]⟩ : ByteArray), (⟨#[0, 0, 0, 0]⟩ : ByteArray), (⟨#[255, 255, 255, 255]⟩ : ByteArray)] : List ByteArray)) (inner := [.string (⟨#[]⟩ : ByteArray), .string (⟨#[97]⟩ : ByteArray), .string (⟨#[97, 98, 99]⟩ : ByteArray), .string (⟨#[49, 50, 51, 52, 53, 54, 55, 56, 57]⟩ : ByteArray), .string (⟨#[0]⟩ : ByteArray), .string (⟨#[0, 0, 0, 0]⟩ : ByteArray), .string (⟨#[255, 255, 255, 255]⟩ : ByteArray)]) (ok := fun _ => True) (okp := fun _ => True) ?hr ?hp (fun _ hk => hk) trivial (Below.refl _ _) (Nat.le_refl _) (by simp) ?_; (case hd => rfl); (case hg => rfl); (case hr => first | (go_simp; done) | (go_simp; rfl)); (case hp => exact (Reps.one (show Kd.M Kd.string _ _ _ (⟨#[]⟩ : ByteArray) [.string (⟨#[]⟩ : ByteArray)] from rfl) (Reps.one (show Kd.M Kd.string _ _ _ (⟨#[97]⟩ : ByteArray) [.string (⟨#[97]⟩ : ByteArray)] from rfl) (Reps.one (show Kd.M Kd.string _ _ _ (⟨#[97, 98, 99]⟩ : ByteArray) [.string (⟨#[97, 98, 99]⟩ : ByteArray)] from rfl) (Reps.one (show Kd.M Kd.string _ _ _ (⟨#[49, 50, 51, 52, 53, 54, 55, 56, 57]⟩ : ByteArray) [.string (⟨#[49, 50, 51, 52, 53, 54, 55, 56, 57]⟩ : ByteArray)] from rfl) (Reps.one (show Kd.M Kd.string _ _ _ (⟨#[0]⟩ : ByteArray) [.string (⟨#[0]⟩ : ByteArray)] from rfl) (Reps.one (show Kd.M Kd.string _ _ _ (⟨#[0, 0, 0, 0]⟩ : ByteArray) [.string (⟨#[0, 0, 0, 0]⟩ : ByteArray)] from rfl) (Reps.one (show Kd.M Kd.string _ _ _ (⟨#[255, 255, 255, 255]⟩ : ByteArray) [.string (⟨#[255, 255, 255, 255]⟩ : ByteArray)] from rfl) (Reps.none _ _))))))))); intro v126 w11 ho12 hb hg_ hnew_; clear hg_ hnew_; (first | rw [← Ny125.out] at ho12 | (simp only [Int.reduceToNat] at ho12; rw [← Ny125.out] at ho12)); have n0_ := Aside0.mk (Kd.R_lower ho12 (below_size (by repeat (first | (with_reducible first | exact HB.out | apply below_alloc | apply pw_below_drewN | apply below_drew1) | exact HB.out)))); have n1_ := Aside0.mk (below_step (by repeat (first | (with_reducible first | exact HB.out | apply below_alloc | apply pw_below_drewN | apply below_drew1) | exact HB.out)) hb); clear HB; have HO127 := n0_; have HB := n1_; clear n0_ n1_; clear hb ho12) | ((with_reducible refine gate_dst (N := 9) rfl ?_); refine Kd.R_lit (Kd.int .i64) _ 3 ?hg (N := 9) ?hd (xs := ([0, 3904355907, 891568578, 3421780262, 3523407757, 558161692, 4294967295] : List Int)) (inner := [.int .i64 0, .int .i64 3904355907, .int .i64 891568578, .int .i64 3421780262, .int .i64 3523407757, .int .i64 558161692, .int .i64 4294967295]) (ok := fun _ => True) (okp := fun _ => True) ?hr ?hp (fun _ hk => hk) trivial (Below.refl _ _) (Nat.le_refl _) (by simp) ?_; (case hd => rfl); (case hg => rfl); (case hr => first | (go_simp; done) | (go_simp; rfl)); (case hp => exact (Reps.one (show Kd.M (Kd.int .i64) _ _ _ 0 [.int .i64 0] from rfl) (Reps.one (show Kd.M (Kd.int .i64) _ _ _ 3904355907 [.int .i64 3904355907] from rfl) (Reps.one (show Kd.M (Kd.int .i64) _ _ _ 891568578 [.int .i64 891568578] from rfl) (Reps.one (show Kd.M (Kd.int .i64) _ _ _ 3421780262 [.int .i64 3421780262] from rfl) (Reps.one (show Kd.M (Kd.int .i64) _ _ _ 3523407757 [.int .i64 3523407757] from rfl) (Reps.one (show Kd.M (Kd.int .i64) _ _ _ 558161692 [.int .i64 558161692] from rfl) (Reps.one (show Kd.M (Kd.int .i64) _ _ _ 4294967295 [.int .i64 4294967295] from rfl) (Reps.none _ _))))))))); intro v129 w13 ho14 hb hg_ hnew_; clear hg_ hnew_; (first | rw [← Ny128.out] at ho14 | (simp only [Int.reduceToNat] at ho14; rw [← Ny128.out] at ho14)); have n0_ := Aside0.mk (Kd.R_below (by (with_reducible repeat (first | apply Kd.R_alloc | apply Kd.R_drewN | apply Kd.R_drew)); exact HO127.out) hb); have n1_ := Aside0.mk (Kd.R_lower ho14 (below_size (by repeat (first | (with_reducible first | exact HB.out | apply below_alloc | apply pw_below_drewN | apply below_drew1) | exact HB.out)))); have n2_ := Aside0.mk (below_step (by repeat (first | (with_reducible first | exact HB.out | apply below_alloc | apply pw_below_drewN | apply below_drew1) | exact HB.out)) hb); clear HO127; clear HB; have HO127 := n0_; have HO130 := n1_; have HB := n2_; clear n0_ n1_ n2_; clear hb ho14) | (go_at_call 34; (with_reducible refine (portagelaw0_Num.calls 0 t131 _ A4.out).mono ?_); rintro e w' ⟨rfl, ⟨nd, rfl⟩⟩; (try first | exact ⟨rfl, _, World.drewN_drewN _ _ _⟩ | exact ⟨rfl, _, Eq.trans (World.drewN_drewN _ _ _) (congrArg (World.drewN _) (Nat.add_assoc _ _ _))⟩); obtain ⟨Ao15, co15, eo15⟩ := Kd.R_slice HO127.out; subst eo15; have p132 : 0 ≤ ((ji6) : Int) := of_decide_eq_true (by first | (with_reducible assumption) | assumption); have q132 : (ji6) < (y125.length : Int) := of_decide_eq_true (by first | (with_reducible assumption) | assumption); obtain ⟨ad132, e132, hx132_0⟩ := Kd.at_string (Kd.R_reads' HO127.out).2.2 (ji6) p132 q132; cases e132; replace p132 := eq_true p132; replace q132 := eq_true q132) | (go_at_call 29; (with_reducible refine (crc_Of.calls k (rdOf ByteArray.empty y125 (ji6)) t133 _ A9.out).mono ?_); rintro e w' ⟨rfl, ⟨nd, rfl⟩⟩; (try first | exact ⟨rfl, _, World.drewN_drewN _ _ _⟩ | exact ⟨rfl, _, Eq.trans (World.drewN_drewN _ _ _) (congrArg (World.drewN _) (Nat.add_assoc _ _ _))⟩); obtain ⟨Ao16, co16, eo16⟩ := Kd.R_slice HO130.out; subst eo16; have p134 : 0 ≤ ((ji6) : Int) := of_decide_eq_true (by first | (with_reducible assumption) | assumption); have q134 : (ji6) < (y128.length : Int) := of_decide_eq_true (by first | (with_reducible assumption) | assumption); obtain ⟨ad134, e134, hx134_0⟩ := Kd.at_int (Kd.R_reads' HO130.out).2.2 (ji6) p134 q134; cases e134; replace p134 := eq_true p134; replace q134 := eq_true q134)))
            go_ret
            exact ⟨by first | rfl | (simp [errW_none, errW_some] <;> rfl) | (simp only [← hji6]; first | rfl | (simp [errW_none, errW_some] <;> rfl)) | (simp [*, errW_none, errW_some] <;> rfl), by repeat (first | (with_reducible first | exact HB.out | apply below_alloc | apply pw_below_drewN | apply below_drew1) | exact HB.out)⟩
          · rw [if_neg c10] at H
            exact absurd H (by simp)
        · rw [if_neg c8] at H
          exact absurd H (by simp)
      · rw [if_neg c7] at H
        exact absurd H (by simp)
    · rw [if_neg c5] at H
      exact absurd H (by simp)
  · replace c3 := Bool.eq_false_iff.mpr c3
    subst c3
    have H1 : (none) = some r := by rw [if_neg (show ¬ (false = true) by decide)] at H; exact H
    clear H
    have H := H1
    clear H1
    exact absurd H (by simp)

/-- THE ONE PURE STATEMENT of portagelaw2_CrcTable: yours. -/
def portagelaw2_CrcTable.Pure : Prop := ∀ (a0 : Int), (Lit.int .i64 a0).wf = true → ∃ k, portagelaw2_CrcTable.f k a0 = some true
theorem portagelaw2_CrcTable.walk (P : portagelaw2_CrcTable.Pure) (a0 : Int) (w : World) (w0 : (Lit.int .i64 a0).wf = true) :
    Calls Try.prog 7 #[.int .i64 a0] w fun e w' => e = .returned (.bool true) ∧ Below w.heap.size w w' := by
  obtain ⟨k, h⟩ := P a0 w0
  refine (portagelaw2_CrcTable.calls k a0 true w h).mono ?_
  rintro e w' ⟨rfl, hd⟩
  exact ⟨rfl, hd⟩

/-! ### portagelaw2_CrcJoins: function 8 -/
def portagelaw2_CrcJoins.f (k : Nat) (a0 : ByteArray) (a1 : ByteArray) (a2 : ByteArray) (a3 : Int) : Option (Bool) := (portagelaw2_awake.f k).bind fun t135 => (if t135 = true then ((crc_Of.f k a0).bind fun t136 => ((crc_Join.f k t136 a1).bind fun t137 => ((crc_Join.f k t137 a2).bind fun t138 => ((crc_Of.f k a0).bind fun t139 => (if a1.size + a2.size ≤ 9223372036854775807 then ((crc_Join.f k t139 (a1 ++ a2)).bind fun t140 => (if a0.size + a1.size ≤ 9223372036854775807 then ((crc_Of.f k (a0 ++ a1)).bind fun t141 => ((crc_Join.f k t141 a2).bind fun t142 => ((portagelaw0_Num.f 0).bind fun t143 => (if t143 = 0 then (if t138 = t140 then (if t140 = t142 then (if (a0 ++ a1).size + a2.size ≤ 9223372036854775807 then ((crc_Of.f k ((a0 ++ a1) ++ a2)).bind fun t144 => (if t142 = t144 then ((crc_Join.f k ((IntKind.u64.wrap (a3)) % 4294967296) (⟨#[]⟩ : ByteArray)).bind fun t145 => (if t145 = ((IntKind.u64.wrap (a3)) % 4294967296) then ((crc_Join.f k a3 a0).bind fun t146 => ((crc_Join.f k ((IntKind.u64.wrap (a3)) % 4294967296) a0).bind fun t147 => (some (t146 == t147)))) else (none))) else (none))) else (none)) else (none)) else (none)) else (none))))) else (none))) else (none)))))) else (none))
theorem portagelaw2_CrcJoins.mono : ∀ a0 a1 a2 a3 k, LeO (portagelaw2_CrcJoins.f k a0 a1 a2 a3) (portagelaw2_CrcJoins.f (k + 1) a0 a1 a2 a3) := by
  intro a0 a1 a2 a3 k
  unfold portagelaw2_CrcJoins.f
  repeat' first
      | (with_reducible exact crc_Join.mono _ _ _)
      | (with_reducible exact crc_Of.mono _ _)
      | (with_reducible exact portagelaw2_awake.mono _)
      | (with_reducible exact LeO.refl _)
      | (with_reducible exact LeO.none _)
      | (with_reducible refine LeO.ite ?_ ?_)
      | (with_reducible refine LeO.bind ?_ (fun _ => ?_))
      | exact crc_Join.mono _ _ _
      | exact crc_Of.mono _ _
      | exact portagelaw2_awake.mono _
      | exact LeO.none _
      | refine LeO.ite ?_ ?_
      | refine LeO.bind ?_ (fun _ => ?_)
set_option maxHeartbeats 8000000 in
set_option maxRecDepth 100000 in
theorem portagelaw2_CrcJoins.calls (k : Nat) (a0 : ByteArray) (a1 : ByteArray) (a2 : ByteArray) (a3 : Int) (r : Bool) (w : World) (h : portagelaw2_CrcJoins.f k a0 a1 a2 a3 = some r) :
    Calls Try.prog 8 #[.string a0, .string a1, .string a2, .int .i64 a3] w fun e w' => e = .returned (.bool r) ∧ Drawn0 w w' := by
  have H : ((portagelaw2_awake.f k).bind fun t135 => (if t135 = true then ((crc_Of.f k a0).bind fun t136 => ((crc_Join.f k t136 a1).bind fun t137 => ((crc_Join.f k t137 a2).bind fun t138 => ((crc_Of.f k a0).bind fun t139 => (if a1.size + a2.size ≤ 9223372036854775807 then ((crc_Join.f k t139 (a1 ++ a2)).bind fun t140 => (if a0.size + a1.size ≤ 9223372036854775807 then ((crc_Of.f k (a0 ++ a1)).bind fun t141 => ((crc_Join.f k t141 a2).bind fun t142 => ((portagelaw0_Num.f 0).bind fun t143 => (if t143 = 0 then (if t138 = t140 then (if t140 = t142 then (if (a0 ++ a1).size + a2.size ≤ 9223372036854775807 then ((crc_Of.f k ((a0 ++ a1) ++ a2)).bind fun t144 => (if t142 = t144 then ((crc_Join.f k ((IntKind.u64.wrap (a3)) % 4294967296) (⟨#[]⟩ : ByteArray)).bind fun t145 => (if t145 = ((IntKind.u64.wrap (a3)) % 4294967296) then ((crc_Join.f k a3 a0).bind fun t146 => ((crc_Join.f k ((IntKind.u64.wrap (a3)) % 4294967296) a0).bind fun t147 => (some (t146 == t147)))) else (none))) else (none))) else (none)) else (none)) else (none)) else (none))))) else (none))) else (none)))))) else (none))) = some r := h
  clear h
  replace H := Option.bind_eq_some_iff.mp H
  obtain ⟨t135, A50, H⟩ := H
  replace H : (if t135 = true then ((crc_Of.f k a0).bind fun t136 => ((crc_Join.f k t136 a1).bind fun t137 => ((crc_Join.f k t137 a2).bind fun t138 => ((crc_Of.f k a0).bind fun t139 => (if a1.size + a2.size ≤ 9223372036854775807 then ((crc_Join.f k t139 (a1 ++ a2)).bind fun t140 => (if a0.size + a1.size ≤ 9223372036854775807 then ((crc_Of.f k (a0 ++ a1)).bind fun t141 => ((crc_Join.f k t141 a2).bind fun t142 => ((portagelaw0_Num.f 0).bind fun t143 => (if t143 = 0 then (if t138 = t140 then (if t140 = t142 then (if (a0 ++ a1).size + a2.size ≤ 9223372036854775807 then ((crc_Of.f k ((a0 ++ a1) ++ a2)).bind fun t144 => (if t142 = t144 then ((crc_Join.f k ((IntKind.u64.wrap (a3)) % 4294967296) (⟨#[]⟩ : ByteArray)).bind fun t145 => (if t145 = ((IntKind.u64.wrap (a3)) % 4294967296) then ((crc_Join.f k a3 a0).bind fun t146 => ((crc_Join.f k ((IntKind.u64.wrap (a3)) % 4294967296) a0).bind fun t147 => (some (t146 == t147)))) else (none))) else (none))) else (none)) else (none)) else (none)) else (none))))) else (none))) else (none)))))) else (none)) = some r := H
  have A5 := Aside0.mk A50
  clear A50
  by_cases c6 : t135 = true
  · subst c6
    have H1 : ((crc_Of.f k a0).bind fun t136 => ((crc_Join.f k t136 a1).bind fun t137 => ((crc_Join.f k t137 a2).bind fun t138 => ((crc_Of.f k a0).bind fun t139 => (if a1.size + a2.size ≤ 9223372036854775807 then ((crc_Join.f k t139 (a1 ++ a2)).bind fun t140 => (if a0.size + a1.size ≤ 9223372036854775807 then ((crc_Of.f k (a0 ++ a1)).bind fun t141 => ((crc_Join.f k t141 a2).bind fun t142 => ((portagelaw0_Num.f 0).bind fun t143 => (if t143 = 0 then (if t138 = t140 then (if t140 = t142 then (if (a0 ++ a1).size + a2.size ≤ 9223372036854775807 then ((crc_Of.f k ((a0 ++ a1) ++ a2)).bind fun t144 => (if t142 = t144 then ((crc_Join.f k ((IntKind.u64.wrap (a3)) % 4294967296) (⟨#[]⟩ : ByteArray)).bind fun t145 => (if t145 = ((IntKind.u64.wrap (a3)) % 4294967296) then ((crc_Join.f k a3 a0).bind fun t146 => ((crc_Join.f k ((IntKind.u64.wrap (a3)) % 4294967296) a0).bind fun t147 => (some (t146 == t147)))) else (none))) else (none))) else (none)) else (none)) else (none)) else (none))))) else (none))) else (none)))))) = some r := by rw [if_pos rfl] at H; exact H
    clear H
    have H := H1
    clear H1
    replace H := Option.bind_eq_some_iff.mp H
    obtain ⟨t136, A70, H⟩ := H
    replace H : ((crc_Join.f k t136 a1).bind fun t137 => ((crc_Join.f k t137 a2).bind fun t138 => ((crc_Of.f k a0).bind fun t139 => (if a1.size + a2.size ≤ 9223372036854775807 then ((crc_Join.f k t139 (a1 ++ a2)).bind fun t140 => (if a0.size + a1.size ≤ 9223372036854775807 then ((crc_Of.f k (a0 ++ a1)).bind fun t141 => ((crc_Join.f k t141 a2).bind fun t142 => ((portagelaw0_Num.f 0).bind fun t143 => (if t143 = 0 then (if t138 = t140 then (if t140 = t142 then (if (a0 ++ a1).size + a2.size ≤ 9223372036854775807 then ((crc_Of.f k ((a0 ++ a1) ++ a2)).bind fun t144 => (if t142 = t144 then ((crc_Join.f k ((IntKind.u64.wrap (a3)) % 4294967296) (⟨#[]⟩ : ByteArray)).bind fun t145 => (if t145 = ((IntKind.u64.wrap (a3)) % 4294967296) then ((crc_Join.f k a3 a0).bind fun t146 => ((crc_Join.f k ((IntKind.u64.wrap (a3)) % 4294967296) a0).bind fun t147 => (some (t146 == t147)))) else (none))) else (none))) else (none)) else (none)) else (none)) else (none))))) else (none))) else (none))))) = some r := H
    have A7 := Aside0.mk A70
    clear A70
    replace H := Option.bind_eq_some_iff.mp H
    obtain ⟨t137, A80, H⟩ := H
    replace H : ((crc_Join.f k t137 a2).bind fun t138 => ((crc_Of.f k a0).bind fun t139 => (if a1.size + a2.size ≤ 9223372036854775807 then ((crc_Join.f k t139 (a1 ++ a2)).bind fun t140 => (if a0.size + a1.size ≤ 9223372036854775807 then ((crc_Of.f k (a0 ++ a1)).bind fun t141 => ((crc_Join.f k t141 a2).bind fun t142 => ((portagelaw0_Num.f 0).bind fun t143 => (if t143 = 0 then (if t138 = t140 then (if t140 = t142 then (if (a0 ++ a1).size + a2.size ≤ 9223372036854775807 then ((crc_Of.f k ((a0 ++ a1) ++ a2)).bind fun t144 => (if t142 = t144 then ((crc_Join.f k ((IntKind.u64.wrap (a3)) % 4294967296) (⟨#[]⟩ : ByteArray)).bind fun t145 => (if t145 = ((IntKind.u64.wrap (a3)) % 4294967296) then ((crc_Join.f k a3 a0).bind fun t146 => ((crc_Join.f k ((IntKind.u64.wrap (a3)) % 4294967296) a0).bind fun t147 => (some (t146 == t147)))) else (none))) else (none))) else (none)) else (none)) else (none)) else (none))))) else (none))) else (none)))) = some r := H
    have A8 := Aside0.mk A80
    clear A80
    replace H := Option.bind_eq_some_iff.mp H
    obtain ⟨t138, A90, H⟩ := H
    replace H : ((crc_Of.f k a0).bind fun t139 => (if a1.size + a2.size ≤ 9223372036854775807 then ((crc_Join.f k t139 (a1 ++ a2)).bind fun t140 => (if a0.size + a1.size ≤ 9223372036854775807 then ((crc_Of.f k (a0 ++ a1)).bind fun t141 => ((crc_Join.f k t141 a2).bind fun t142 => ((portagelaw0_Num.f 0).bind fun t143 => (if t143 = 0 then (if t138 = t140 then (if t140 = t142 then (if (a0 ++ a1).size + a2.size ≤ 9223372036854775807 then ((crc_Of.f k ((a0 ++ a1) ++ a2)).bind fun t144 => (if t142 = t144 then ((crc_Join.f k ((IntKind.u64.wrap (a3)) % 4294967296) (⟨#[]⟩ : ByteArray)).bind fun t145 => (if t145 = ((IntKind.u64.wrap (a3)) % 4294967296) then ((crc_Join.f k a3 a0).bind fun t146 => ((crc_Join.f k ((IntKind.u64.wrap (a3)) % 4294967296) a0).bind fun t147 => (some (t146 == t147)))) else (none))) else (none))) else (none)) else (none)) else (none)) else (none))))) else (none))) else (none))) = some r := H
    have A9 := Aside0.mk A90
    clear A90
    replace H := Option.bind_eq_some_iff.mp H
    obtain ⟨t139, A100, H⟩ := H
    replace H : (if a1.size + a2.size ≤ 9223372036854775807 then ((crc_Join.f k t139 (a1 ++ a2)).bind fun t140 => (if a0.size + a1.size ≤ 9223372036854775807 then ((crc_Of.f k (a0 ++ a1)).bind fun t141 => ((crc_Join.f k t141 a2).bind fun t142 => ((portagelaw0_Num.f 0).bind fun t143 => (if t143 = 0 then (if t138 = t140 then (if t140 = t142 then (if (a0 ++ a1).size + a2.size ≤ 9223372036854775807 then ((crc_Of.f k ((a0 ++ a1) ++ a2)).bind fun t144 => (if t142 = t144 then ((crc_Join.f k ((IntKind.u64.wrap (a3)) % 4294967296) (⟨#[]⟩ : ByteArray)).bind fun t145 => (if t145 = ((IntKind.u64.wrap (a3)) % 4294967296) then ((crc_Join.f k a3 a0).bind fun t146 => ((crc_Join.f k ((IntKind.u64.wrap (a3)) % 4294967296) a0).bind fun t147 => (some (t146 == t147)))) else (none))) else (none))) else (none)) else (none)) else (none)) else (none))))) else (none))) else (none)) = some r := H
    have A10 := Aside0.mk A100
    clear A100
    by_cases c11 : a1.size + a2.size ≤ 9223372036854775807
    · rw [if_pos c11] at H
      have c11b0 := eq_true c11
      have c11b1 : decide (a1.size + a2.size ≤ 9223372036854775807) = true := decide_eq_true c11
      try have c11b2 : (9223372036854775807 < a1.size + a2.size) = False := eq_false (Nat.not_lt.2 c11)
      replace H := Option.bind_eq_some_iff.mp H
      obtain ⟨t140, A120, H⟩ := H
      replace H : (if a0.size + a1.size ≤ 9223372036854775807 then ((crc_Of.f k (a0 ++ a1)).bind fun t141 => ((crc_Join.f k t141 a2).bind fun t142 => ((portagelaw0_Num.f 0).bind fun t143 => (if t143 = 0 then (if t138 = t140 then (if t140 = t142 then (if (a0 ++ a1).size + a2.size ≤ 9223372036854775807 then ((crc_Of.f k ((a0 ++ a1) ++ a2)).bind fun t144 => (if t142 = t144 then ((crc_Join.f k ((IntKind.u64.wrap (a3)) % 4294967296) (⟨#[]⟩ : ByteArray)).bind fun t145 => (if t145 = ((IntKind.u64.wrap (a3)) % 4294967296) then ((crc_Join.f k a3 a0).bind fun t146 => ((crc_Join.f k ((IntKind.u64.wrap (a3)) % 4294967296) a0).bind fun t147 => (some (t146 == t147)))) else (none))) else (none))) else (none)) else (none)) else (none)) else (none))))) else (none)) = some r := H
      have A12 := Aside0.mk A120
      clear A120
      by_cases c13 : a0.size + a1.size ≤ 9223372036854775807
      · rw [if_pos c13] at H
        have c13b0 := eq_true c13
        have c13b1 : decide (a0.size + a1.size ≤ 9223372036854775807) = true := decide_eq_true c13
        try have c13b2 : (9223372036854775807 < a0.size + a1.size) = False := eq_false (Nat.not_lt.2 c13)
        replace H := Option.bind_eq_some_iff.mp H
        obtain ⟨t141, A140, H⟩ := H
        replace H : ((crc_Join.f k t141 a2).bind fun t142 => ((portagelaw0_Num.f 0).bind fun t143 => (if t143 = 0 then (if t138 = t140 then (if t140 = t142 then (if (a0 ++ a1).size + a2.size ≤ 9223372036854775807 then ((crc_Of.f k ((a0 ++ a1) ++ a2)).bind fun t144 => (if t142 = t144 then ((crc_Join.f k ((IntKind.u64.wrap (a3)) % 4294967296) (⟨#[]⟩ : ByteArray)).bind fun t145 => (if t145 = ((IntKind.u64.wrap (a3)) % 4294967296) then ((crc_Join.f k a3 a0).bind fun t146 => ((crc_Join.f k ((IntKind.u64.wrap (a3)) % 4294967296) a0).bind fun t147 => (some (t146 == t147)))) else (none))) else (none))) else (none)) else (none)) else (none)) else (none)))) = some r := H
        have A14 := Aside0.mk A140
        clear A140
        replace H := Option.bind_eq_some_iff.mp H
        obtain ⟨t142, A150, H⟩ := H
        replace H : ((portagelaw0_Num.f 0).bind fun t143 => (if t143 = 0 then (if t138 = t140 then (if t140 = t142 then (if (a0 ++ a1).size + a2.size ≤ 9223372036854775807 then ((crc_Of.f k ((a0 ++ a1) ++ a2)).bind fun t144 => (if t142 = t144 then ((crc_Join.f k ((IntKind.u64.wrap (a3)) % 4294967296) (⟨#[]⟩ : ByteArray)).bind fun t145 => (if t145 = ((IntKind.u64.wrap (a3)) % 4294967296) then ((crc_Join.f k a3 a0).bind fun t146 => ((crc_Join.f k ((IntKind.u64.wrap (a3)) % 4294967296) a0).bind fun t147 => (some (t146 == t147)))) else (none))) else (none))) else (none)) else (none)) else (none)) else (none))) = some r := H
        have A15 := Aside0.mk A150
        clear A150
        replace H := Option.bind_eq_some_iff.mp H
        obtain ⟨t143, A160, H⟩ := H
        replace H : (if t143 = 0 then (if t138 = t140 then (if t140 = t142 then (if (a0 ++ a1).size + a2.size ≤ 9223372036854775807 then ((crc_Of.f k ((a0 ++ a1) ++ a2)).bind fun t144 => (if t142 = t144 then ((crc_Join.f k ((IntKind.u64.wrap (a3)) % 4294967296) (⟨#[]⟩ : ByteArray)).bind fun t145 => (if t145 = ((IntKind.u64.wrap (a3)) % 4294967296) then ((crc_Join.f k a3 a0).bind fun t146 => ((crc_Join.f k ((IntKind.u64.wrap (a3)) % 4294967296) a0).bind fun t147 => (some (t146 == t147)))) else (none))) else (none))) else (none)) else (none)) else (none)) else (none)) = some r := H
        have A16 := Aside0.mk A160
        clear A160
        by_cases c17 : t143 = 0
        · rw [if_pos c17] at H
          have c17b0 : (t143 == 0) = true := beq_iff_eq.mpr c17
          have c17b1 : (t143 != 0) = false := bne_eq_false_iff_eq.mpr c17
          clear c17
          by_cases c18 : t138 = t140
          · rw [if_pos c18] at H
            have c18b0 : (t138 == t140) = true := beq_iff_eq.mpr c18
            have c18b1 : (t138 != t140) = false := bne_eq_false_iff_eq.mpr c18
            clear c18
            by_cases c19 : t140 = t142
            · rw [if_pos c19] at H
              have c19b0 : (t140 == t142) = true := beq_iff_eq.mpr c19
              have c19b1 : (t140 != t142) = false := bne_eq_false_iff_eq.mpr c19
              clear c19
              by_cases c20 : (a0 ++ a1).size + a2.size ≤ 9223372036854775807
              · rw [if_pos c20] at H
                have c20b0 := eq_true c20
                have c20b1 : decide ((a0 ++ a1).size + a2.size ≤ 9223372036854775807) = true := decide_eq_true c20
                try have c20b2 : (9223372036854775807 < (a0 ++ a1).size + a2.size) = False := eq_false (Nat.not_lt.2 c20)
                replace H := Option.bind_eq_some_iff.mp H
                obtain ⟨t144, A210, H⟩ := H
                replace H : (if t142 = t144 then ((crc_Join.f k ((IntKind.u64.wrap (a3)) % 4294967296) (⟨#[]⟩ : ByteArray)).bind fun t145 => (if t145 = ((IntKind.u64.wrap (a3)) % 4294967296) then ((crc_Join.f k a3 a0).bind fun t146 => ((crc_Join.f k ((IntKind.u64.wrap (a3)) % 4294967296) a0).bind fun t147 => (some (t146 == t147)))) else (none))) else (none)) = some r := H
                have A21 := Aside0.mk A210
                clear A210
                by_cases c22 : t142 = t144
                · rw [if_pos c22] at H
                  have c22b0 : (t142 == t144) = true := beq_iff_eq.mpr c22
                  have c22b1 : (t142 != t144) = false := bne_eq_false_iff_eq.mpr c22
                  clear c22
                  replace H := Option.bind_eq_some_iff.mp H
                  obtain ⟨t145, A230, H⟩ := H
                  replace H : (if t145 = ((IntKind.u64.wrap (a3)) % 4294967296) then ((crc_Join.f k a3 a0).bind fun t146 => ((crc_Join.f k ((IntKind.u64.wrap (a3)) % 4294967296) a0).bind fun t147 => (some (t146 == t147)))) else (none)) = some r := H
                  have A23 := Aside0.mk A230
                  clear A230
                  by_cases c24 : t145 = ((IntKind.u64.wrap (a3)) % 4294967296)
                  · rw [if_pos c24] at H
                    have c24b0 : (t145 == ((IntKind.u64.wrap (a3)) % 4294967296)) = true := beq_iff_eq.mpr c24
                    have c24b1 : (t145 != ((IntKind.u64.wrap (a3)) % 4294967296)) = false := bne_eq_false_iff_eq.mpr c24
                    clear c24
                    replace H := Option.bind_eq_some_iff.mp H
                    obtain ⟨t146, A250, H⟩ := H
                    replace H : ((crc_Join.f k ((IntKind.u64.wrap (a3)) % 4294967296) a0).bind fun t147 => (some (t146 == t147))) = some r := H
                    have A25 := Aside0.mk A250
                    clear A250
                    replace H := Option.bind_eq_some_iff.mp H
                    obtain ⟨t147, A260, H⟩ := H
                    replace H : (some (t146 == t147)) = some r := H
                    have A26 := Aside0.mk A260
                    clear A260
                    obtain rfl := Option.some.inj H
                    go_enter Try.func8, Try.ntmps8
                    go_wp2_with (first | ((with_reducible refine gate_callee (f := 33) rfl ?_); refine goesL_ (some 13) rfl rfl Try.func33 (by kernel_rfl) rfl #[] rfl (by (try simp only [List.map_toArray, List.map_cons, List.map_nil]); first | done | rfl | (simp only [List.length_drop, List.length_take]; rfl)) ?_; (with_reducible refine (portagelaw2_awake.calls k  true _ A5.out).mono ?_); rintro e w' ⟨rfl, ⟨nd, rfl⟩⟩; refine ⟨_, rfl, ?_⟩) | ((with_reducible refine gate_callee (f := 29) rfl ?_); refine goesL_ (some 20) rfl rfl Try.func29 (by kernel_rfl) rfl #[.string a0] rfl (by (try simp only [List.map_toArray, List.map_cons, List.map_nil]); first | done | rfl | (simp only [List.length_drop, List.length_take]; rfl)) ?_; (with_reducible refine (crc_Of.calls k a0 t136 _ A7.out).mono ?_); rintro e w' ⟨rfl, ⟨nd, rfl⟩⟩; refine ⟨_, rfl, ?_⟩) | ((with_reducible refine gate_callee (f := 31) rfl ?_); refine goesL_ (some 22) rfl rfl Try.func31 (by kernel_rfl) rfl #[.int .i64 t136, .string a1] rfl (by (try simp only [List.map_toArray, List.map_cons, List.map_nil]); first | done | rfl | (simp only [List.length_drop, List.length_take]; rfl)) ?_; (with_reducible refine (crc_Join.calls k t136 a1 t137 _ A8.out).mono ?_); rintro e w' ⟨rfl, ⟨nd, rfl⟩⟩; refine ⟨_, rfl, ?_⟩) | ((with_reducible refine gate_callee (f := 31) rfl ?_); refine goesL_ (some 24) rfl rfl Try.func31 (by kernel_rfl) rfl #[.int .i64 t137, .string a2] rfl (by (try simp only [List.map_toArray, List.map_cons, List.map_nil]); first | done | rfl | (simp only [List.length_drop, List.length_take]; rfl)) ?_; (with_reducible refine (crc_Join.calls k t137 a2 t138 _ A9.out).mono ?_); rintro e w' ⟨rfl, ⟨nd, rfl⟩⟩; refine ⟨_, rfl, ?_⟩) | ((with_reducible refine gate_callee (f := 29) rfl ?_); refine goesL_ (some 26) rfl rfl Try.func29 (by kernel_rfl) rfl #[.string a0] rfl (by (try simp only [List.map_toArray, List.map_cons, List.map_nil]); first | done | rfl | (simp only [List.length_drop, List.length_take]; rfl)) ?_; (with_reducible refine (crc_Of.calls k a0 t139 _ A10.out).mono ?_); rintro e w' ⟨rfl, ⟨nd, rfl⟩⟩; refine ⟨_, rfl, ?_⟩) | ((with_reducible refine gate_callee (f := 31) rfl ?_); refine goesL_ (some 30) rfl rfl Try.func31 (by kernel_rfl) rfl #[.int .i64 t139, .string (a1 ++ a2)] rfl (by (try simp only [List.map_toArray, List.map_cons, List.map_nil]); first | done | rfl | (simp only [List.length_drop, List.length_take]; rfl)) ?_; (with_reducible refine (crc_Join.calls k t139 (a1 ++ a2) t140 _ A12.out).mono ?_); rintro e w' ⟨rfl, ⟨nd, rfl⟩⟩; refine ⟨_, rfl, ?_⟩) | ((with_reducible refine gate_callee (f := 29) rfl ?_); refine goesL_ (some 34) rfl rfl Try.func29 (by kernel_rfl) rfl #[.string (a0 ++ a1)] rfl (by (try simp only [List.map_toArray, List.map_cons, List.map_nil]); first | done | rfl | (simp only [List.length_drop, List.length_take]; rfl)) ?_; (with_reducible refine (crc_Of.calls k (a0 ++ a1) t141 _ A14.out).mono ?_); rintro e w' ⟨rfl, ⟨nd, rfl⟩⟩; refine ⟨_, rfl, ?_⟩) | ((with_reducible refine gate_callee (f := 31) rfl ?_); refine goesL_ (some 36) rfl rfl Try.func31 (by kernel_rfl) rfl #[.int .i64 t141, .string a2] rfl (by (try simp only [List.map_toArray, List.map_cons, List.map_nil]); first | done | rfl | (simp only [List.length_drop, List.length_take]; rfl)) ?_; (with_reducible refine (crc_Join.calls k t141 a2 t142 _ A15.out).mono ?_); rintro e w' ⟨rfl, ⟨nd, rfl⟩⟩; refine ⟨_, rfl, ?_⟩) | ((with_reducible refine gate_callee (f := 34) rfl ?_); refine goesL_ (some 37) rfl rfl Try.func34 (by kernel_rfl) rfl #[.int .i64 0] rfl (by (try simp only [List.map_toArray, List.map_cons, List.map_nil]); first | done | rfl | (simp only [List.length_drop, List.length_take]; rfl)) ?_; (with_reducible refine (portagelaw0_Num.calls 0 t143 _ A16.out).mono ?_); rintro e w' ⟨rfl, ⟨nd, rfl⟩⟩; refine ⟨_, rfl, ?_⟩) | (go_at_call 29; (with_reducible refine (crc_Of.calls k ((a0 ++ a1) ++ a2) t144 _ A21.out).mono ?_); rintro e w' ⟨rfl, ⟨nd, rfl⟩⟩) | (go_at_call 31; (with_reducible refine (crc_Join.calls k ((IntKind.u64.wrap (a3)) % 4294967296) (⟨#[]⟩ : ByteArray) t145 _ A23.out).mono ?_); rintro e w' ⟨rfl, ⟨nd, rfl⟩⟩) | (go_at_call 31; (with_reducible refine (crc_Join.calls k a3 a0 t146 _ A25.out).mono ?_); rintro e w' ⟨rfl, ⟨nd, rfl⟩⟩) | (go_at_call 31; (with_reducible refine (crc_Join.calls k ((IntKind.u64.wrap (a3)) % 4294967296) a0 t147 _ A26.out).mono ?_); rintro e w' ⟨rfl, ⟨nd, rfl⟩⟩))
                    go_ret
                    exact ⟨by first | rfl | (simp; done) | (simp [*]; done), by repeat (first | exact Drawn0.refl _ | apply Drawn0.step)⟩
                  · rw [if_neg c24] at H
                    exact absurd H (by simp)
                · rw [if_neg c22] at H
                  exact absurd H (by simp)
              · rw [if_neg c20] at H
                exact absurd H (by simp)
            · rw [if_neg c19] at H
              exact absurd H (by simp)
          · rw [if_neg c18] at H
            exact absurd H (by simp)
        · rw [if_neg c17] at H
          exact absurd H (by simp)
      · rw [if_neg c13] at H
        exact absurd H (by simp)
    · rw [if_neg c11] at H
      exact absurd H (by simp)
  · replace c6 := Bool.eq_false_iff.mpr c6
    subst c6
    have H1 : (none) = some r := by rw [if_neg (show ¬ (false = true) by decide)] at H; exact H
    clear H
    have H := H1
    clear H1
    exact absurd H (by simp)

/-- THE ONE PURE STATEMENT of portagelaw2_CrcJoins: yours. -/
def portagelaw2_CrcJoins.Pure : Prop := ∀ (a0 : ByteArray) (a1 : ByteArray) (a2 : ByteArray) (a3 : Int), a0.size ≤ 140737488351232 → a1.size ≤ 140737488351232 → a2.size ≤ 140737488351232 → (Lit.int .i64 a3).wf = true → ∃ k, portagelaw2_CrcJoins.f k a0 a1 a2 a3 = some true
theorem portagelaw2_CrcJoins.walk (P : portagelaw2_CrcJoins.Pure) (a0 : ByteArray) (a1 : ByteArray) (a2 : ByteArray) (a3 : Int) (w : World) (w0 : a0.size ≤ 140737488351232) (w1 : a1.size ≤ 140737488351232) (w2 : a2.size ≤ 140737488351232) (w3 : (Lit.int .i64 a3).wf = true) :
    Calls Try.prog 8 #[.string a0, .string a1, .string a2, .int .i64 a3] w fun e w' => e = .returned (.bool true) ∧ Below w.heap.size w w' := by
  obtain ⟨k, h⟩ := P a0 a1 a2 a3 w0 w1 w2 w3
  refine (portagelaw2_CrcJoins.calls k a0 a1 a2 a3 true w h).mono ?_
  rintro e w' ⟨rfl, hd⟩
  exact ⟨rfl, hd.below⟩

end Go.Proofs.Ytnjbbfcknijcnaa.A
