-- Written by a program of this session out of the translation (a changed copy of the kit's printer).
import Derived.Test.YtdccnjinehcenaaLF0
import Derived.Test.YtdccnjinehcenaaLF1
import Derived.Test.YtdccnjinehcenaaLF2
import Derived.Test.YtdccnjinehcenaaLF3
import Derived.Test.YtdccnjinehcenaaLF4
import Derived.Test.YtdccnjinehcenaaLF5
import Derived.Test.YtdccnjinehcenaaLF7
namespace Go.Proofs.Ytdccnjinehcenaa.LF
open Go.RowKit Go.Proofs.YtdccnjinehcenaaW.PrintWords Go.Proofs.YtdccnjinehcenaaW.PrintLast Go.Proofs.YtdccnjinehcenaaW.PrintMore
attribute [local go_sem] max2_int min2_int max_two min_two max_three min_three max_four min_four   -- for this text's walks alone
set_option linter.unusedVariables false
set_option linter.unusedSimpArgs false

/-! ### slot_Find: function 27 -/
def slot_Find.l0 : Nat → List ByteArray → Int → ByteArray → Int → Option (Int × ByteArray × Int)
  | 0, _, _, _, _ => none
  | k + 1, x0, x5, x6, x14 => if x14 < 2 then ((slot_from.f x14).bind fun t180 => ((slot_look.f k x0 t180).bind fun bt181 => (if bt181.2.2 = true then (if bt181.1 > x5 then (slot_Find.l0 k x0 bt181.1 bt181.2.1 (wrap64 (x14 + 1))) else (slot_Find.l0 k x0 x5 x6 (wrap64 (x14 + 1)))) else (slot_Find.l0 k x0 x5 x6 (wrap64 (x14 + 1)))))) else (if x5 = 0 then (some (0, (⟨#[]⟩ : ByteArray), 1801)) else (some (x5, x6, 0)))
def slot_Find.f (k : Nat) (l0 : List ByteArray) : Option (Int × ByteArray × Int) := (disk_May.f k l0).bind fun t179 => (if t179 = true then (slot_Find.l0 k l0 0 (⟨#[]⟩ : ByteArray) 0) else (some (0, (⟨#[]⟩ : ByteArray), 1800)))
theorem slot_Find.mono_l : ∀ k, (∀ y0 y1 y2 y3, LeO (slot_Find.l0 k y0 y1 y2 y3) (slot_Find.l0 (k + 1) y0 y1 y2 y3))
  | 0 => fun _ _ _ _ r h => by simp [slot_Find.l0] at h
  | k + 1 => by
    have ih0 := slot_Find.mono_l k
    · intro y0 y1 y2 y3
      unfold slot_Find.l0
      repeat' first
      | (with_reducible exact ih0 _ _ _ _)
      | (with_reducible exact disk_May.mono _ _)
      | (with_reducible exact slot_look.mono _ _ _)
      | (with_reducible exact LeO.refl _)
      | (with_reducible exact LeO.none _)
      | (with_reducible refine LeO.ite ?_ ?_)
      | (with_reducible refine LeO.bind ?_ (fun _ => ?_))
      | exact ih0 _ _ _ _
      | exact disk_May.mono _ _
      | exact slot_look.mono _ _ _
      | exact LeO.none _
      | refine LeO.ite ?_ ?_
      | refine LeO.bind ?_ (fun _ => ?_)
theorem slot_Find.mono : ∀ a0 k, LeO (slot_Find.f k a0) (slot_Find.f (k + 1) a0) := by
  intro a0 k
  have ih0 := slot_Find.mono_l k
  unfold slot_Find.f
  repeat' first
      | (with_reducible exact ih0 _ _ _ _)
      | (with_reducible exact disk_May.mono _ _)
      | (with_reducible exact slot_look.mono _ _ _)
      | (with_reducible exact LeO.refl _)
      | (with_reducible exact LeO.none _)
      | (with_reducible refine LeO.ite ?_ ?_)
      | (with_reducible refine LeO.bind ?_ (fun _ => ?_))
      | exact ih0 _ _ _ _
      | exact disk_May.mono _ _
      | exact slot_look.mono _ _ _
      | exact LeO.none _
      | refine LeO.ite ?_ ?_
      | refine LeO.bind ?_ (fun _ => ?_)
set_option maxHeartbeats 8000000 in
set_option maxRecDepth 100000 in
theorem slot_Find.calls (k : Nat) (A0 : Option Addr) (c0 : Nat) (l0 : List ByteArray) (r1 : Int) (r2 : ByteArray) (r3 : Int) (w : World) (hr0 : Kd.C Kd.string w A0 l0.length l0) (hc0 : l0.length ≤ c0) (h : slot_Find.f k l0 = some (r1, r2, r3)) :
    Calls Try.prog 27 #[.slice A0 l0.length c0] w fun e w' => e = .returned (.tuple #[.int .i64 r1, .string r2, .int .i64 r3]) ∧ Below w.heap.size w w' := by
  have HR0 := Aside0.mk hr0
  have HC0 := Aside0.mk hc0
  clear hr0 hc0
  have HB := Aside0.mk (Below.refl w.heap.size w)
  have H : ((disk_May.f k l0).bind fun t179 => (if t179 = true then (slot_Find.l0 k l0 0 (⟨#[]⟩ : ByteArray) 0) else (some (0, (⟨#[]⟩ : ByteArray), 1800)))) = some (r1, r2, r3) := h
  clear h
  replace H := Option.bind_eq_some_iff.mp H
  obtain ⟨t179, A20, H⟩ := H
  replace H : (if t179 = true then (slot_Find.l0 k l0 0 (⟨#[]⟩ : ByteArray) 0) else (some (0, (⟨#[]⟩ : ByteArray), 1800))) = some (r1, r2, r3) := H
  have A2 := Aside0.mk A20
  clear A20
  by_cases c3 : t179 = true
  · subst c3
    have H1 : (slot_Find.l0 k l0 0 (⟨#[]⟩ : ByteArray) 0) = some (r1, r2, r3) := by rw [if_pos rfl] at H; exact H
    clear H
    have H := H1
    clear H1
    have H' := Aside0.mk H
    clear H
    go_enter Try.func27, Try.ntmps27
    go_wp2_with (first | ((with_reducible refine gate_callee (f := 19) rfl ?_); refine goesL_ (some 12) rfl rfl Try.func19 (by kernel_rfl) rfl #[.slice A0 l0.length c0] rfl (by (try simp only [List.map_toArray, List.map_cons, List.map_nil]); first | done | rfl | (simp only [List.length_drop, List.length_take]; rfl)) ?_; (with_reducible refine (disk_May.calls k _ _ l0 true _ ?side1 ?side2 A2.out).mono ?_); (case side1 => repeat (first | exact HR0.out | (with_reducible refine Kd.C_alloc ?_ _) | (with_reducible refine Kd.C_drewN ?_ _) | (with_reducible refine Kd.C_drew ?_))); (case side2 => exact HC0.out); rintro e w' ⟨rfl, ⟨nd, rfl⟩⟩; refine ⟨_, rfl, ?_⟩))
    go_loopg [5, 6, 14] k (fun kq v5 v6 v14 w' => ∃ (x5_1 : Int) (x6_1 : ByteArray) (x14_1 : Int), v5 = .int .i64 x5_1 ∧ v6 = .string x6_1 ∧ v14 = .int .i64 x14_1 ∧ Aside0 (slot_Find.l0 kq l0 x5_1 x6_1 x14_1 = some (r1, r2, r3)) ∧ Aside0 (kq ≤ k) ∧ Aside0 (Below w.heap.size w w'))
    case atStart => exact ⟨(0), ((⟨#[]⟩ : ByteArray)), (0), (by first | rfl | (simp; done) | (simp [*]; done)), (by first | rfl | (simp; done) | (simp [*]; done)), (by first | rfl | (simp; done) | (simp [*]; done)), H', ⟨Nat.le_refl _⟩, ⟨by repeat (first | (with_reducible first | exact HB.out | apply below_alloc | apply pw_below_drewN | apply below_drew1) | exact HB.out)⟩⟩
    case round =>
      clear H'
      try clear c1
      try clear c2
      try clear p2
      try clear c3
      obtain ⟨x5_1, x6_1, x14_1, rfl, rfl, rfl, HA, HK1, HB⟩ := hrel
      cases gk with
      | zero => exact absurd HA.out (by simp [slot_Find.l0])
      | succ k1 =>
        have H := HA.out
        clear HA
        simp only [slot_Find.l0] at H
        by_cases c4 : x14_1 < 2
        · rw [if_pos c4] at H
          have c4b0 : decide (x14_1 < 2) = true := decide_eq_true c4
          clear c4
          replace H := Option.bind_eq_some_iff.mp H
          obtain ⟨t180, A50, H⟩ := H
          replace H : ((slot_look.f k1 l0 t180).bind fun bt181 => (if bt181.2.2 = true then (if bt181.1 > x5_1 then (slot_Find.l0 k1 l0 bt181.1 bt181.2.1 (wrap64 (x14_1 + 1))) else (slot_Find.l0 k1 l0 x5_1 x6_1 (wrap64 (x14_1 + 1)))) else (slot_Find.l0 k1 l0 x5_1 x6_1 (wrap64 (x14_1 + 1))))) = some (r1, r2, r3) := H
          have A5 := Aside0.mk A50
          clear A50
          replace H := Option.bind_eq_some_iff.mp H
          obtain ⟨⟨t181, t182, t183⟩, A60, H⟩ := H
          replace H : (if t183 = true then (if t181 > x5_1 then (slot_Find.l0 k1 l0 t181 t182 (wrap64 (x14_1 + 1))) else (slot_Find.l0 k1 l0 x5_1 x6_1 (wrap64 (x14_1 + 1)))) else (slot_Find.l0 k1 l0 x5_1 x6_1 (wrap64 (x14_1 + 1)))) = some (r1, r2, r3) := H
          have A6 := Aside0.mk A60
          clear A60
          by_cases c7 : t183 = true
          · subst c7
            have H1 : (if t181 > x5_1 then (slot_Find.l0 k1 l0 t181 t182 (wrap64 (x14_1 + 1))) else (slot_Find.l0 k1 l0 x5_1 x6_1 (wrap64 (x14_1 + 1)))) = some (r1, r2, r3) := by rw [if_pos rfl] at H; exact H
            clear H
            have H := H1
            clear H1
            by_cases c8 : t181 > x5_1
            · rw [if_pos c8] at H
              have c8b0 : decide (x5_1 < t181) = true := decide_eq_true c8
              clear c8
              have H' := Aside0.mk H
              clear H
              go_wp2_with (first | ((with_reducible refine gate_callee (f := 43) rfl ?_); refine goesL_ (some 20) rfl rfl Try.func43 (by kernel_rfl) rfl #[.int .i64 x14_1] rfl (by (try simp only [List.map_toArray, List.map_cons, List.map_nil]); first | done | rfl | (simp only [List.length_drop, List.length_take]; rfl)) ?_; (with_reducible refine (slot_from.calls x14_1 t180 _ A5.out).mono ?_); rintro e w' ⟨rfl, ⟨nd, rfl⟩⟩; refine ⟨_, rfl, ?_⟩) | ((with_reducible refine gate_callee (f := 46) rfl ?_); refine goesL_ (some 21) rfl rfl Try.func46 (by kernel_rfl) rfl #[.slice A0 l0.length c0, .int .i64 t180] rfl (by (try simp only [List.map_toArray, List.map_cons, List.map_nil]); first | done | rfl | (simp only [List.length_drop, List.length_take]; rfl)) ?_; (with_reducible refine (slot_look.calls k1 _ _ l0 t180 t181 t182 true _ ?side1 ?side2 A6.out).mono ?_); (case side1 => repeat (first | exact (Kd.C_below HR0.out (by repeat (first | (with_reducible first | exact HB.out | apply below_alloc | apply pw_below_drewN | apply below_drew1) | exact HB.out))) | (with_reducible refine Kd.C_alloc ?_ _) | (with_reducible refine Kd.C_drewN ?_ _) | (with_reducible refine Kd.C_drew ?_))); (case side2 => exact HC0.out); rintro e w9 ⟨rfl, hb⟩; refine ⟨_, rfl, ?_⟩; have n0_ := Aside0.mk (below_step (by repeat (first | (with_reducible first | exact HB.out | apply below_alloc | apply pw_below_drewN | apply below_drew1) | exact HB.out)) hb); clear HB; have HB := n0_; clear n0_; (try clear hb); (try clear hb2); (try clear hk); (try clear hi)))
              go_roundg k1
              case measure => have := HK1.out; omega
              case rel => exact ⟨(t181), (t182), (wrap64 (x14_1 + 1)), (by first | rfl | (simp; done) | (simp [*]; done)), (by first | rfl | (simp; done) | (simp [*]; done)), (by first | rfl | (simp; done) | (simp [*]; done)), H', ⟨by have := HK1.out; omega⟩, ⟨by repeat (first | (with_reducible first | exact HB.out | apply below_alloc | apply pw_below_drewN | apply below_drew1) | exact HB.out)⟩⟩
            · rw [if_neg c8] at H
              have c8b0 : decide (x5_1 < t181) = false := decide_eq_false c8
              clear c8
              have H' := Aside0.mk H
              clear H
              go_wp2_with (first | ((with_reducible refine gate_callee (f := 43) rfl ?_); refine goesL_ (some 20) rfl rfl Try.func43 (by kernel_rfl) rfl #[.int .i64 x14_1] rfl (by (try simp only [List.map_toArray, List.map_cons, List.map_nil]); first | done | rfl | (simp only [List.length_drop, List.length_take]; rfl)) ?_; (with_reducible refine (slot_from.calls x14_1 t180 _ A5.out).mono ?_); rintro e w' ⟨rfl, ⟨nd, rfl⟩⟩; refine ⟨_, rfl, ?_⟩) | ((with_reducible refine gate_callee (f := 46) rfl ?_); refine goesL_ (some 21) rfl rfl Try.func46 (by kernel_rfl) rfl #[.slice A0 l0.length c0, .int .i64 t180] rfl (by (try simp only [List.map_toArray, List.map_cons, List.map_nil]); first | done | rfl | (simp only [List.length_drop, List.length_take]; rfl)) ?_; (with_reducible refine (slot_look.calls k1 _ _ l0 t180 t181 t182 true _ ?side1 ?side2 A6.out).mono ?_); (case side1 => repeat (first | exact (Kd.C_below HR0.out (by repeat (first | (with_reducible first | exact HB.out | apply below_alloc | apply pw_below_drewN | apply below_drew1) | exact HB.out))) | (with_reducible refine Kd.C_alloc ?_ _) | (with_reducible refine Kd.C_drewN ?_ _) | (with_reducible refine Kd.C_drew ?_))); (case side2 => exact HC0.out); rintro e w10 ⟨rfl, hb⟩; refine ⟨_, rfl, ?_⟩; have n0_ := Aside0.mk (below_step (by repeat (first | (with_reducible first | exact HB.out | apply below_alloc | apply pw_below_drewN | apply below_drew1) | exact HB.out)) hb); clear HB; have HB := n0_; clear n0_; (try clear hb); (try clear hb2); (try clear hk); (try clear hi)))
              go_roundg k1
              case measure => have := HK1.out; omega
              case rel => exact ⟨(x5_1), (x6_1), (wrap64 (x14_1 + 1)), (by first | rfl | (simp; done) | (simp [*]; done)), (by first | rfl | (simp; done) | (simp [*]; done)), (by first | rfl | (simp; done) | (simp [*]; done)), H', ⟨by have := HK1.out; omega⟩, ⟨by repeat (first | (with_reducible first | exact HB.out | apply below_alloc | apply pw_below_drewN | apply below_drew1) | exact HB.out)⟩⟩
          · replace c7 := Bool.eq_false_iff.mpr c7
            subst c7
            have H1 : (slot_Find.l0 k1 l0 x5_1 x6_1 (wrap64 (x14_1 + 1))) = some (r1, r2, r3) := by rw [if_neg (show ¬ (false = true) by decide)] at H; exact H
            clear H
            have H := H1
            clear H1
            have H' := Aside0.mk H
            clear H
            go_wp2_with (first | ((with_reducible refine gate_callee (f := 43) rfl ?_); refine goesL_ (some 20) rfl rfl Try.func43 (by kernel_rfl) rfl #[.int .i64 x14_1] rfl (by (try simp only [List.map_toArray, List.map_cons, List.map_nil]); first | done | rfl | (simp only [List.length_drop, List.length_take]; rfl)) ?_; (with_reducible refine (slot_from.calls x14_1 t180 _ A5.out).mono ?_); rintro e w' ⟨rfl, ⟨nd, rfl⟩⟩; refine ⟨_, rfl, ?_⟩) | ((with_reducible refine gate_callee (f := 46) rfl ?_); refine goesL_ (some 21) rfl rfl Try.func46 (by kernel_rfl) rfl #[.slice A0 l0.length c0, .int .i64 t180] rfl (by (try simp only [List.map_toArray, List.map_cons, List.map_nil]); first | done | rfl | (simp only [List.length_drop, List.length_take]; rfl)) ?_; (with_reducible refine (slot_look.calls k1 _ _ l0 t180 t181 t182 false _ ?side1 ?side2 A6.out).mono ?_); (case side1 => repeat (first | exact (Kd.C_below HR0.out (by repeat (first | (with_reducible first | exact HB.out | apply below_alloc | apply pw_below_drewN | apply below_drew1) | exact HB.out))) | (with_reducible refine Kd.C_alloc ?_ _) | (with_reducible refine Kd.C_drewN ?_ _) | (with_reducible refine Kd.C_drew ?_))); (case side2 => exact HC0.out); rintro e w11 ⟨rfl, hb⟩; refine ⟨_, rfl, ?_⟩; have n0_ := Aside0.mk (below_step (by repeat (first | (with_reducible first | exact HB.out | apply below_alloc | apply pw_below_drewN | apply below_drew1) | exact HB.out)) hb); clear HB; have HB := n0_; clear n0_; (try clear hb); (try clear hb2); (try clear hk); (try clear hi)))
            go_roundg k1
            case measure => have := HK1.out; omega
            case rel => exact ⟨(x5_1), (x6_1), (wrap64 (x14_1 + 1)), (by first | rfl | (simp; done) | (simp [*]; done)), (by first | rfl | (simp; done) | (simp [*]; done)), (by first | rfl | (simp; done) | (simp [*]; done)), H', ⟨by have := HK1.out; omega⟩, ⟨by repeat (first | (with_reducible first | exact HB.out | apply below_alloc | apply pw_below_drewN | apply below_drew1) | exact HB.out)⟩⟩
        · rw [if_neg c4] at H
          have c4b0 : decide (x14_1 < 2) = false := decide_eq_false c4
          clear c4
          by_cases c12 : x5_1 = 0
          · rw [if_pos c12] at H
            have c12b0 : (x5_1 == 0) = true := beq_iff_eq.mpr c12
            have c12b1 : (x5_1 != 0) = false := bne_eq_false_iff_eq.mpr c12
            clear c12
            simp only [Option.some.injEq, Prod.mk.injEq] at H
            obtain ⟨rfl, rfl, rfl⟩ := H
            go_wp2
            go_ret3
            exact ⟨by first | rfl | (simp [errW_none, errW_some] <;> rfl) | (simp [*, errW_none, errW_some] <;> rfl), by repeat (first | (with_reducible first | exact HB.out | apply below_alloc | apply pw_below_drewN | apply below_drew1) | exact HB.out)⟩
          · rw [if_neg c12] at H
            have c12b0 : (x5_1 == 0) = false := beq_eq_false_iff_ne.mpr c12
            have c12b1 : (x5_1 != 0) = true := bne_iff_ne.mpr c12
            simp only [Option.some.injEq, Prod.mk.injEq] at H
            obtain ⟨rfl, rfl, rfl⟩ := H
            go_wp2
            go_ret3
            exact ⟨by first | rfl | (simp [errW_none, errW_some] <;> rfl) | (simp [*, errW_none, errW_some] <;> rfl), by repeat (first | (with_reducible first | exact HB.out | apply below_alloc | apply pw_below_drewN | apply below_drew1) | exact HB.out)⟩
  · replace c3 := Bool.eq_false_iff.mpr c3
    subst c3
    have H1 : (some (0, (⟨#[]⟩ : ByteArray), 1800)) = some (r1, r2, r3) := by rw [if_neg (show ¬ (false = true) by decide)] at H; exact H
    clear H
    have H := H1
    clear H1
    simp only [Option.some.injEq, Prod.mk.injEq] at H
    obtain ⟨rfl, rfl, rfl⟩ := H
    go_enter Try.func27, Try.ntmps27
    go_wp2_with (first | ((with_reducible refine gate_callee (f := 19) rfl ?_); refine goesL_ (some 12) rfl rfl Try.func19 (by kernel_rfl) rfl #[.slice A0 l0.length c0] rfl (by (try simp only [List.map_toArray, List.map_cons, List.map_nil]); first | done | rfl | (simp only [List.length_drop, List.length_take]; rfl)) ?_; (with_reducible refine (disk_May.calls k _ _ l0 false _ ?side1 ?side2 A2.out).mono ?_); (case side1 => repeat (first | exact HR0.out | (with_reducible refine Kd.C_alloc ?_ _) | (with_reducible refine Kd.C_drewN ?_ _) | (with_reducible refine Kd.C_drew ?_))); (case side2 => exact HC0.out); rintro e w' ⟨rfl, ⟨nd, rfl⟩⟩; refine ⟨_, rfl, ?_⟩))
    go_ret3
    exact ⟨by first | rfl | (simp [errW_none, errW_some] <;> rfl) | (simp [*, errW_none, errW_some] <;> rfl), by repeat (first | (with_reducible first | exact HB.out | apply below_alloc | apply pw_below_drewN | apply below_drew1) | exact HB.out)⟩

/-! ### portagelaw18_awake: function 31 -/
def portagelaw18_awake.f (k : Nat)  : Option (Bool) := (slot_Plan.f k 1 (⟨#[104, 101, 108, 108, 111]⟩ : ByteArray)).bind fun bt184 => ((portageref17_NewDisk.f k).bind fun t188 => ((portageref17_Run.f k t188 bt184.1 (bt184.1.length : Int) 0).bind fun bt191 => ((slot_Find.f k bt191.1).bind fun bt195 => ((portageref17_NewDisk.f k).bind fun t198 => ((slot_Find.f k t198).bind fun bt201 => ((slot_Find.f k ([] : List ByteArray)).bind fun bt204 => ((slot_Plan.f k 0 (⟨#[]⟩ : ByteArray)).bind fun bt207 => (if (bt184.1.length : Int) = 3 then ((portagelaw0_Num.f bt184.2).bind fun t211 => (if t211 = 0 then (if 0 < (bt184.1.length : Int) then (if ((rd_T42 bt184.1 0).f0) = 65 then (if bt191.2 = 0 then (if bt195.1 = 1 then (if bt195.2.1.toList = ([104, 101, 108, 108, 111] : List UInt8) then ((portagelaw0_Num.f bt195.2.2).bind fun t213 => (if t213 = 0 then ((portagelaw0_Num.f bt201.2.2).bind fun t214 => (if t214 = 1801 then ((portagelaw0_Num.f bt204.2.2).bind fun t215 => (if t215 = 1800 then ((portagelaw0_Num.f bt207.2).bind fun t216 => (some (t216 == 1800))) else (none))) else (none))) else (none))) else (none)) else (none)) else (none)) else (none)) else (none)) else (none))) else (none)))))))))
theorem portagelaw18_awake.mono : ∀ k, LeO (portagelaw18_awake.f k ) (portagelaw18_awake.f (k + 1) ) := by
  intro  k
  unfold portagelaw18_awake.f
  repeat' first
      | (with_reducible exact portageref17_NewDisk.mono _)
      | (with_reducible exact portageref17_Run.mono _ _ _ _ _)
      | (with_reducible exact slot_Find.mono _ _)
      | (with_reducible exact slot_Plan.mono _ _ _)
      | (with_reducible exact LeO.refl _)
      | (with_reducible exact LeO.none _)
      | (with_reducible refine LeO.ite ?_ ?_)
      | (with_reducible refine LeO.bind ?_ (fun _ => ?_))
      | exact portageref17_NewDisk.mono _
      | exact portageref17_Run.mono _ _ _ _ _
      | exact slot_Find.mono _ _
      | exact slot_Plan.mono _ _ _
      | exact LeO.none _
      | refine LeO.ite ?_ ?_
      | refine LeO.bind ?_ (fun _ => ?_)
set_option maxHeartbeats 8000000 in
set_option maxRecDepth 100000 in
theorem portagelaw18_awake.calls (k : Nat)  (r : Bool) (w : World) (h : portagelaw18_awake.f k  = some r) :
    Calls Try.prog 31 #[] w fun e w' => e = .returned (.bool r) ∧ Below w.heap.size w w' := by
  have HB := Aside0.mk (Below.refl w.heap.size w)
  have H : ((slot_Plan.f k 1 (⟨#[104, 101, 108, 108, 111]⟩ : ByteArray)).bind fun bt184 => ((portageref17_NewDisk.f k).bind fun t188 => ((portageref17_Run.f k t188 bt184.1 (bt184.1.length : Int) 0).bind fun bt191 => ((slot_Find.f k bt191.1).bind fun bt195 => ((portageref17_NewDisk.f k).bind fun t198 => ((slot_Find.f k t198).bind fun bt201 => ((slot_Find.f k ([] : List ByteArray)).bind fun bt204 => ((slot_Plan.f k 0 (⟨#[]⟩ : ByteArray)).bind fun bt207 => (if (bt184.1.length : Int) = 3 then ((portagelaw0_Num.f bt184.2).bind fun t211 => (if t211 = 0 then (if 0 < (bt184.1.length : Int) then (if ((rd_T42 bt184.1 0).f0) = 65 then (if bt191.2 = 0 then (if bt195.1 = 1 then (if bt195.2.1.toList = ([104, 101, 108, 108, 111] : List UInt8) then ((portagelaw0_Num.f bt195.2.2).bind fun t213 => (if t213 = 0 then ((portagelaw0_Num.f bt201.2.2).bind fun t214 => (if t214 = 1801 then ((portagelaw0_Num.f bt204.2.2).bind fun t215 => (if t215 = 1800 then ((portagelaw0_Num.f bt207.2).bind fun t216 => (some (t216 == 1800))) else (none))) else (none))) else (none))) else (none)) else (none)) else (none)) else (none)) else (none)) else (none))) else (none)))))))))) = some r := h
  clear h
  replace H := Option.bind_eq_some_iff.mp H
  obtain ⟨⟨t184, t185⟩, A10, H⟩ := H
  replace H : ((portageref17_NewDisk.f k).bind fun t188 => ((portageref17_Run.f k t188 t184 (t184.length : Int) 0).bind fun bt191 => ((slot_Find.f k bt191.1).bind fun bt195 => ((portageref17_NewDisk.f k).bind fun t198 => ((slot_Find.f k t198).bind fun bt201 => ((slot_Find.f k ([] : List ByteArray)).bind fun bt204 => ((slot_Plan.f k 0 (⟨#[]⟩ : ByteArray)).bind fun bt207 => (if (t184.length : Int) = 3 then ((portagelaw0_Num.f t185).bind fun t211 => (if t211 = 0 then (if 0 < (t184.length : Int) then (if ((rd_T42 t184 0).f0) = 65 then (if bt191.2 = 0 then (if bt195.1 = 1 then (if bt195.2.1.toList = ([104, 101, 108, 108, 111] : List UInt8) then ((portagelaw0_Num.f bt195.2.2).bind fun t213 => (if t213 = 0 then ((portagelaw0_Num.f bt201.2.2).bind fun t214 => (if t214 = 1801 then ((portagelaw0_Num.f bt204.2.2).bind fun t215 => (if t215 = 1800 then ((portagelaw0_Num.f bt207.2).bind fun t216 => (some (t216 == 1800))) else (none))) else (none))) else (none))) else (none)) else (none)) else (none)) else (none)) else (none)) else (none))) else (none))))))))) = some r := H
  have A1 := Aside0.mk A10
  clear A10
  replace H := Option.bind_eq_some_iff.mp H
  obtain ⟨t188, A20, H⟩ := H
  replace H : ((portageref17_Run.f k t188 t184 (t184.length : Int) 0).bind fun bt191 => ((slot_Find.f k bt191.1).bind fun bt195 => ((portageref17_NewDisk.f k).bind fun t198 => ((slot_Find.f k t198).bind fun bt201 => ((slot_Find.f k ([] : List ByteArray)).bind fun bt204 => ((slot_Plan.f k 0 (⟨#[]⟩ : ByteArray)).bind fun bt207 => (if (t184.length : Int) = 3 then ((portagelaw0_Num.f t185).bind fun t211 => (if t211 = 0 then (if 0 < (t184.length : Int) then (if ((rd_T42 t184 0).f0) = 65 then (if bt191.2 = 0 then (if bt195.1 = 1 then (if bt195.2.1.toList = ([104, 101, 108, 108, 111] : List UInt8) then ((portagelaw0_Num.f bt195.2.2).bind fun t213 => (if t213 = 0 then ((portagelaw0_Num.f bt201.2.2).bind fun t214 => (if t214 = 1801 then ((portagelaw0_Num.f bt204.2.2).bind fun t215 => (if t215 = 1800 then ((portagelaw0_Num.f bt207.2).bind fun t216 => (some (t216 == 1800))) else (none))) else (none))) else (none))) else (none)) else (none)) else (none)) else (none)) else (none)) else (none))) else (none)))))))) = some r := H
  have A2 := Aside0.mk A20
  clear A20
  replace H := Option.bind_eq_some_iff.mp H
  obtain ⟨⟨t191, t192⟩, A30, H⟩ := H
  replace H : ((slot_Find.f k t191).bind fun bt195 => ((portageref17_NewDisk.f k).bind fun t198 => ((slot_Find.f k t198).bind fun bt201 => ((slot_Find.f k ([] : List ByteArray)).bind fun bt204 => ((slot_Plan.f k 0 (⟨#[]⟩ : ByteArray)).bind fun bt207 => (if (t184.length : Int) = 3 then ((portagelaw0_Num.f t185).bind fun t211 => (if t211 = 0 then (if 0 < (t184.length : Int) then (if ((rd_T42 t184 0).f0) = 65 then (if t192 = 0 then (if bt195.1 = 1 then (if bt195.2.1.toList = ([104, 101, 108, 108, 111] : List UInt8) then ((portagelaw0_Num.f bt195.2.2).bind fun t213 => (if t213 = 0 then ((portagelaw0_Num.f bt201.2.2).bind fun t214 => (if t214 = 1801 then ((portagelaw0_Num.f bt204.2.2).bind fun t215 => (if t215 = 1800 then ((portagelaw0_Num.f bt207.2).bind fun t216 => (some (t216 == 1800))) else (none))) else (none))) else (none))) else (none)) else (none)) else (none)) else (none)) else (none)) else (none))) else (none))))))) = some r := H
  have A3 := Aside0.mk A30
  clear A30
  replace H := Option.bind_eq_some_iff.mp H
  obtain ⟨⟨t195, t196, t197⟩, A40, H⟩ := H
  replace H : ((portageref17_NewDisk.f k).bind fun t198 => ((slot_Find.f k t198).bind fun bt201 => ((slot_Find.f k ([] : List ByteArray)).bind fun bt204 => ((slot_Plan.f k 0 (⟨#[]⟩ : ByteArray)).bind fun bt207 => (if (t184.length : Int) = 3 then ((portagelaw0_Num.f t185).bind fun t211 => (if t211 = 0 then (if 0 < (t184.length : Int) then (if ((rd_T42 t184 0).f0) = 65 then (if t192 = 0 then (if t195 = 1 then (if t196.toList = ([104, 101, 108, 108, 111] : List UInt8) then ((portagelaw0_Num.f t197).bind fun t213 => (if t213 = 0 then ((portagelaw0_Num.f bt201.2.2).bind fun t214 => (if t214 = 1801 then ((portagelaw0_Num.f bt204.2.2).bind fun t215 => (if t215 = 1800 then ((portagelaw0_Num.f bt207.2).bind fun t216 => (some (t216 == 1800))) else (none))) else (none))) else (none))) else (none)) else (none)) else (none)) else (none)) else (none)) else (none))) else (none)))))) = some r := H
  have A4 := Aside0.mk A40
  clear A40
  replace H := Option.bind_eq_some_iff.mp H
  obtain ⟨t198, A50, H⟩ := H
  replace H : ((slot_Find.f k t198).bind fun bt201 => ((slot_Find.f k ([] : List ByteArray)).bind fun bt204 => ((slot_Plan.f k 0 (⟨#[]⟩ : ByteArray)).bind fun bt207 => (if (t184.length : Int) = 3 then ((portagelaw0_Num.f t185).bind fun t211 => (if t211 = 0 then (if 0 < (t184.length : Int) then (if ((rd_T42 t184 0).f0) = 65 then (if t192 = 0 then (if t195 = 1 then (if t196.toList = ([104, 101, 108, 108, 111] : List UInt8) then ((portagelaw0_Num.f t197).bind fun t213 => (if t213 = 0 then ((portagelaw0_Num.f bt201.2.2).bind fun t214 => (if t214 = 1801 then ((portagelaw0_Num.f bt204.2.2).bind fun t215 => (if t215 = 1800 then ((portagelaw0_Num.f bt207.2).bind fun t216 => (some (t216 == 1800))) else (none))) else (none))) else (none))) else (none)) else (none)) else (none)) else (none)) else (none)) else (none))) else (none))))) = some r := H
  have A5 := Aside0.mk A50
  clear A50
  replace H := Option.bind_eq_some_iff.mp H
  obtain ⟨⟨t201, t202, t203⟩, A60, H⟩ := H
  replace H : ((slot_Find.f k ([] : List ByteArray)).bind fun bt204 => ((slot_Plan.f k 0 (⟨#[]⟩ : ByteArray)).bind fun bt207 => (if (t184.length : Int) = 3 then ((portagelaw0_Num.f t185).bind fun t211 => (if t211 = 0 then (if 0 < (t184.length : Int) then (if ((rd_T42 t184 0).f0) = 65 then (if t192 = 0 then (if t195 = 1 then (if t196.toList = ([104, 101, 108, 108, 111] : List UInt8) then ((portagelaw0_Num.f t197).bind fun t213 => (if t213 = 0 then ((portagelaw0_Num.f t203).bind fun t214 => (if t214 = 1801 then ((portagelaw0_Num.f bt204.2.2).bind fun t215 => (if t215 = 1800 then ((portagelaw0_Num.f bt207.2).bind fun t216 => (some (t216 == 1800))) else (none))) else (none))) else (none))) else (none)) else (none)) else (none)) else (none)) else (none)) else (none))) else (none)))) = some r := H
  have A6 := Aside0.mk A60
  clear A60
  replace H := Option.bind_eq_some_iff.mp H
  obtain ⟨⟨t204, t205, t206⟩, A70, H⟩ := H
  replace H : ((slot_Plan.f k 0 (⟨#[]⟩ : ByteArray)).bind fun bt207 => (if (t184.length : Int) = 3 then ((portagelaw0_Num.f t185).bind fun t211 => (if t211 = 0 then (if 0 < (t184.length : Int) then (if ((rd_T42 t184 0).f0) = 65 then (if t192 = 0 then (if t195 = 1 then (if t196.toList = ([104, 101, 108, 108, 111] : List UInt8) then ((portagelaw0_Num.f t197).bind fun t213 => (if t213 = 0 then ((portagelaw0_Num.f t203).bind fun t214 => (if t214 = 1801 then ((portagelaw0_Num.f t206).bind fun t215 => (if t215 = 1800 then ((portagelaw0_Num.f bt207.2).bind fun t216 => (some (t216 == 1800))) else (none))) else (none))) else (none))) else (none)) else (none)) else (none)) else (none)) else (none)) else (none))) else (none))) = some r := H
  have A7 := Aside0.mk A70
  clear A70
  replace H := Option.bind_eq_some_iff.mp H
  obtain ⟨⟨t207, t208⟩, A80, H⟩ := H
  replace H : (if (t184.length : Int) = 3 then ((portagelaw0_Num.f t185).bind fun t211 => (if t211 = 0 then (if 0 < (t184.length : Int) then (if ((rd_T42 t184 0).f0) = 65 then (if t192 = 0 then (if t195 = 1 then (if t196.toList = ([104, 101, 108, 108, 111] : List UInt8) then ((portagelaw0_Num.f t197).bind fun t213 => (if t213 = 0 then ((portagelaw0_Num.f t203).bind fun t214 => (if t214 = 1801 then ((portagelaw0_Num.f t206).bind fun t215 => (if t215 = 1800 then ((portagelaw0_Num.f t208).bind fun t216 => (some (t216 == 1800))) else (none))) else (none))) else (none))) else (none)) else (none)) else (none)) else (none)) else (none)) else (none))) else (none)) = some r := H
  have A8 := Aside0.mk A80
  clear A80
  by_cases c9 : (t184.length : Int) = 3
  · rw [if_pos c9] at H
    have c9b0 : ((t184.length : Int) == 3) = true := beq_iff_eq.mpr c9
    have c9b1 : ((t184.length : Int) != 3) = false := bne_eq_false_iff_eq.mpr c9
    clear c9
    replace H := Option.bind_eq_some_iff.mp H
    obtain ⟨t211, A100, H⟩ := H
    replace H : (if t211 = 0 then (if 0 < (t184.length : Int) then (if ((rd_T42 t184 0).f0) = 65 then (if t192 = 0 then (if t195 = 1 then (if t196.toList = ([104, 101, 108, 108, 111] : List UInt8) then ((portagelaw0_Num.f t197).bind fun t213 => (if t213 = 0 then ((portagelaw0_Num.f t203).bind fun t214 => (if t214 = 1801 then ((portagelaw0_Num.f t206).bind fun t215 => (if t215 = 1800 then ((portagelaw0_Num.f t208).bind fun t216 => (some (t216 == 1800))) else (none))) else (none))) else (none))) else (none)) else (none)) else (none)) else (none)) else (none)) else (none)) = some r := H
    have A10 := Aside0.mk A100
    clear A100
    by_cases c11 : t211 = 0
    · rw [if_pos c11] at H
      have c11b0 : (t211 == 0) = true := beq_iff_eq.mpr c11
      have c11b1 : (t211 != 0) = false := bne_eq_false_iff_eq.mpr c11
      clear c11
      by_cases c12 : 0 < (t184.length : Int)
      · rw [if_pos c12] at H
        have c12b0 : decide (0 < (t184.length : Int)) = true := decide_eq_true c12
        have c12b1 : decide (0 < t184.length) = true := decide_eq_true (by omega)
        clear c12
        by_cases c13 : ((rd_T42 t184 0).f0) = 65
        · rw [if_pos c13] at H
          have c13b0 : (((rd_T42 t184 0).f0) == 65) = true := beq_iff_eq.mpr c13
          have c13b1 : (((rd_T42 t184 0).f0) != 65) = false := bne_eq_false_iff_eq.mpr c13
          clear c13
          by_cases c14 : t192 = 0
          · rw [if_pos c14] at H
            have c14b0 : (t192 == 0) = true := beq_iff_eq.mpr c14
            have c14b1 : (t192 != 0) = false := bne_eq_false_iff_eq.mpr c14
            clear c14
            by_cases c15 : t195 = 1
            · rw [if_pos c15] at H
              have c15b0 : (t195 == 1) = true := beq_iff_eq.mpr c15
              have c15b1 : (t195 != 1) = false := bne_eq_false_iff_eq.mpr c15
              clear c15
              by_cases c16 : t196.toList = ([104, 101, 108, 108, 111] : List UInt8)
              · rw [if_pos c16] at H
                have c16b0 : (t196.toList == ([104, 101, 108, 108, 111] : List UInt8)) = true := beq_iff_eq.mpr c16
                have c16b1 : (t196.toList != ([104, 101, 108, 108, 111] : List UInt8)) = false := bne_eq_false_iff_eq.mpr c16
                clear c16
                replace H := Option.bind_eq_some_iff.mp H
                obtain ⟨t213, A170, H⟩ := H
                replace H : (if t213 = 0 then ((portagelaw0_Num.f t203).bind fun t214 => (if t214 = 1801 then ((portagelaw0_Num.f t206).bind fun t215 => (if t215 = 1800 then ((portagelaw0_Num.f t208).bind fun t216 => (some (t216 == 1800))) else (none))) else (none))) else (none)) = some r := H
                have A17 := Aside0.mk A170
                clear A170
                by_cases c18 : t213 = 0
                · rw [if_pos c18] at H
                  have c18b0 : (t213 == 0) = true := beq_iff_eq.mpr c18
                  have c18b1 : (t213 != 0) = false := bne_eq_false_iff_eq.mpr c18
                  clear c18
                  replace H := Option.bind_eq_some_iff.mp H
                  obtain ⟨t214, A190, H⟩ := H
                  replace H : (if t214 = 1801 then ((portagelaw0_Num.f t206).bind fun t215 => (if t215 = 1800 then ((portagelaw0_Num.f t208).bind fun t216 => (some (t216 == 1800))) else (none))) else (none)) = some r := H
                  have A19 := Aside0.mk A190
                  clear A190
                  by_cases c20 : t214 = 1801
                  · rw [if_pos c20] at H
                    have c20b0 : (t214 == 1801) = true := beq_iff_eq.mpr c20
                    have c20b1 : (t214 != 1801) = false := bne_eq_false_iff_eq.mpr c20
                    clear c20
                    replace H := Option.bind_eq_some_iff.mp H
                    obtain ⟨t215, A210, H⟩ := H
                    replace H : (if t215 = 1800 then ((portagelaw0_Num.f t208).bind fun t216 => (some (t216 == 1800))) else (none)) = some r := H
                    have A21 := Aside0.mk A210
                    clear A210
                    by_cases c22 : t215 = 1800
                    · rw [if_pos c22] at H
                      have c22b0 : (t215 == 1800) = true := beq_iff_eq.mpr c22
                      have c22b1 : (t215 != 1800) = false := bne_eq_false_iff_eq.mpr c22
                      clear c22
                      replace H := Option.bind_eq_some_iff.mp H
                      obtain ⟨t216, A230, H⟩ := H
                      replace H : (some (t216 == 1800)) = some r := H
                      have A23 := Aside0.mk A230
                      clear A230
                      obtain rfl := Option.some.inj H
                      go_enter Try.func31, Try.ntmps31
                      go_wp2_with (first | ((with_reducible refine gate_callee (f := 25) rfl ?_); refine goesL_ (some 17) rfl rfl Try.func25 (by kernel_rfl) rfl #[.int .i64 1, .string (⟨#[104, 101, 108, 108, 111]⟩ : ByteArray)] rfl (by (try simp only [List.map_toArray, List.map_cons, List.map_nil]); first | done | rfl | (simp only [List.length_drop, List.length_take]; rfl)) ?_; (with_reducible refine (slot_Plan.calls k 1 (⟨#[104, 101, 108, 108, 111]⟩ : ByteArray) t184 t185 _ A1.out).mono ?_); rintro e w24 ⟨v186, rfl, ho0, hb⟩; refine ⟨_, rfl, ?_⟩; have n0_ := Aside0.mk (Kd.R_lower ho0 (below_size (by repeat (first | (with_reducible first | exact HB.out | apply below_alloc | apply pw_below_drewN | apply below_drew1) | exact HB.out)))); have n1_ := Aside0.mk (below_step (by repeat (first | (with_reducible first | exact HB.out | apply below_alloc | apply pw_below_drewN | apply below_drew1) | exact HB.out)) hb); clear HB; have HO187 := n0_; have HB := n1_; clear n0_ n1_; (try clear hb); (try clear hb2); (try clear hk); (try clear hi); (try clear ho0)) | ((with_reducible refine gate_callee (f := 12) rfl ?_); refine goesL_ (some 21) rfl rfl Try.func12 (by kernel_rfl) rfl #[] rfl (by (try simp only [List.map_toArray, List.map_cons, List.map_nil]); first | done | rfl | (simp only [List.length_drop, List.length_take]; rfl)) ?_; (with_reducible refine (portageref17_NewDisk.calls k  t188 _ A2.out).mono ?_); rintro e w25 ⟨v189, rfl, ho0, hb⟩; refine ⟨_, rfl, ?_⟩; have n0_ := Aside0.mk (Kd.R_below (by (with_reducible repeat (first | apply Kd.R_alloc | apply Kd.R_drewN | apply Kd.R_drew)); exact HO187.out) hb); have n1_ := Aside0.mk (Kd.R_lower ho0 (below_size (by repeat (first | (with_reducible first | exact HB.out | apply below_alloc | apply pw_below_drewN | apply below_drew1) | exact HB.out)))); have n2_ := Aside0.mk (below_step (by repeat (first | (with_reducible first | exact HB.out | apply below_alloc | apply pw_below_drewN | apply below_drew1) | exact HB.out)) hb); clear HO187; clear HB; have HO187 := n0_; have HO190 := n1_; have HB := n2_; clear n0_ n1_ n2_; (try clear hb); (try clear hb2); (try clear hk); (try clear hi); (try clear ho0); obtain ⟨Ao26, co26, eo26⟩ := Kd.R_slice HO187.out; subst eo26; obtain ⟨Ao27, co27, eo27⟩ := Kd.R_slice HO190.out; subst eo27) | ((with_reducible refine gate_callee (f := 16) rfl ?_); refine goesL_ (some 25) rfl rfl Try.func16 (by kernel_rfl) rfl #[.slice Ao27 t188.length co27, .slice Ao26 t184.length co26, .int .i64 (t184.length : Int), .int .i64 0] rfl (by (try simp only [List.map_toArray, List.map_cons, List.map_nil]); first | done | rfl | (simp only [List.length_drop, List.length_take]; rfl)) ?_; (with_reducible refine (portageref17_Run.calls k _ _ t188 _ _ t184 (t184.length : Int) 0 t191 t192 _ ?side1 ?side2 ?side3 ?side4 A3.out).mono ?_); (case side1 => repeat (first | exact (Kd.R_reads' HO190.out).2.2 | (with_reducible refine Kd.C_alloc ?_ _) | (with_reducible refine Kd.C_drewN ?_ _) | (with_reducible refine Kd.C_drew ?_))); (case side2 => exact (Kd.R_reads' HO190.out).2.1); (case side3 => repeat (first | exact (Kd.R_reads' HO187.out).2.2 | (with_reducible refine Kd.C_alloc ?_ _) | (with_reducible refine Kd.C_drewN ?_ _) | (with_reducible refine Kd.C_drew ?_))); (case side4 => exact (Kd.R_reads' HO187.out).2.1); rintro e w28 ⟨v193, rfl, ho0, hb⟩; refine ⟨_, rfl, ?_⟩; have n0_ := Aside0.mk (Kd.R_below (by (with_reducible repeat (first | apply Kd.R_alloc | apply Kd.R_drewN | apply Kd.R_drew)); exact HO187.out) hb); have n1_ := Aside0.mk (Kd.R_elder' (by (with_reducible repeat (first | apply Kd.R_alloc | apply Kd.R_drewN | apply Kd.R_drew)); exact HO190.out) (Kd.R_base ho0) hb); have n2_ := Aside0.mk (Kd.R_lower (Kd.R_new' ho0 (Kd.R_lt (by (with_reducible repeat (first | apply Kd.R_alloc | apply Kd.R_drewN | apply Kd.R_drew)); exact HO190.out))) (below_size (by repeat (first | (with_reducible first | exact HB.out | apply below_alloc | apply pw_below_drewN | apply below_drew1) | exact HB.out)))); have n3_ := Aside0.mk (below_step (by repeat (first | (with_reducible first | exact HB.out | apply below_alloc | apply pw_below_drewN | apply below_drew1) | exact HB.out)) hb); clear HO187; clear HO190; clear HB; have HO187 := n0_; have HO190 := n1_; have HO194 := n2_; have HB := n3_; clear n0_ n1_ n2_ n3_; (try clear hb); (try clear hb2); (try clear hk); (try clear hi); (try clear ho0); obtain ⟨Ao29, co29, eo29⟩ := Kd.R_slice HO194.out; subst eo29) | ((with_reducible refine gate_callee (f := 27) rfl ?_); refine goesL_ (some 30) rfl rfl Try.func27 (by kernel_rfl) rfl #[.slice Ao29 t191.length co29] rfl (by (try simp only [List.map_toArray, List.map_cons, List.map_nil]); first | done | rfl | (simp only [List.length_drop, List.length_take]; rfl)) ?_; (with_reducible refine (slot_Find.calls k _ _ t191 t195 t196 t197 _ ?side1 ?side2 A4.out).mono ?_); (case side1 => repeat (first | exact (Kd.R_reads' HO194.out).2.2 | (with_reducible refine Kd.C_alloc ?_ _) | (with_reducible refine Kd.C_drewN ?_ _) | (with_reducible refine Kd.C_drew ?_))); (case side2 => exact (Kd.R_reads' HO194.out).2.1); rintro e w30 ⟨rfl, hb⟩; refine ⟨_, rfl, ?_⟩; have n0_ := Aside0.mk (Kd.R_below (by (with_reducible repeat (first | apply Kd.R_alloc | apply Kd.R_drewN | apply Kd.R_drew)); exact HO187.out) hb); have n1_ := Aside0.mk (Kd.R_below (by (with_reducible repeat (first | apply Kd.R_alloc | apply Kd.R_drewN | apply Kd.R_drew)); exact HO190.out) hb); have n2_ := Aside0.mk (Kd.R_below (by (with_reducible repeat (first | apply Kd.R_alloc | apply Kd.R_drewN | apply Kd.R_drew)); exact HO194.out) hb); have n3_ := Aside0.mk (below_step (by repeat (first | (with_reducible first | exact HB.out | apply below_alloc | apply pw_below_drewN | apply below_drew1) | exact HB.out)) hb); clear HO187; clear HO190; clear HO194; clear HB; have HO187 := n0_; have HO190 := n1_; have HO194 := n2_; have HB := n3_; clear n0_ n1_ n2_ n3_; (try clear hb); (try clear hb2); (try clear hk); (try clear hi)) | ((with_reducible refine gate_callee (f := 12) rfl ?_); refine goesL_ (some 35) rfl rfl Try.func12 (by kernel_rfl) rfl #[] rfl (by (try simp only [List.map_toArray, List.map_cons, List.map_nil]); first | done | rfl | (simp only [List.length_drop, List.length_take]; rfl)) ?_; (with_reducible refine (portageref17_NewDisk.calls k  t198 _ A5.out).mono ?_); rintro e w31 ⟨v199, rfl, ho0, hb⟩; refine ⟨_, rfl, ?_⟩; have n0_ := Aside0.mk (Kd.R_below (by (with_reducible repeat (first | apply Kd.R_alloc | apply Kd.R_drewN | apply Kd.R_drew)); exact HO187.out) hb); have n1_ := Aside0.mk (Kd.R_elder' (by (with_reducible repeat (first | apply Kd.R_alloc | apply Kd.R_drewN | apply Kd.R_drew)); exact HO190.out) (Kd.R_base ho0) hb); have n2_ := Aside0.mk (Kd.R_elder' (by (with_reducible repeat (first | apply Kd.R_alloc | apply Kd.R_drewN | apply Kd.R_drew)); exact HO194.out) (Kd.R_base ho0) hb); have n3_ := Aside0.mk (Kd.R_lower (Kd.R_new' (Kd.R_new' ho0 (Kd.R_lt (by (with_reducible repeat (first | apply Kd.R_alloc | apply Kd.R_drewN | apply Kd.R_drew)); exact HO190.out))) (Kd.R_lt (by (with_reducible repeat (first | apply Kd.R_alloc | apply Kd.R_drewN | apply Kd.R_drew)); exact HO194.out))) (below_size (by repeat (first | (with_reducible first | exact HB.out | apply below_alloc | apply pw_below_drewN | apply below_drew1) | exact HB.out)))); have n4_ := Aside0.mk (below_step (by repeat (first | (with_reducible first | exact HB.out | apply below_alloc | apply pw_below_drewN | apply below_drew1) | exact HB.out)) hb); clear HO187; clear HO190; clear HO194; clear HB; have HO187 := n0_; have HO190 := n1_; have HO194 := n2_; have HO200 := n3_; have HB := n4_; clear n0_ n1_ n2_ n3_ n4_; (try clear hb); (try clear hb2); (try clear hk); (try clear hi); (try clear ho0); obtain ⟨Ao32, co32, eo32⟩ := Kd.R_slice HO200.out; subst eo32) | ((with_reducible refine gate_callee (f := 27) rfl ?_); refine goesL_ (some 36) rfl rfl Try.func27 (by kernel_rfl) rfl #[.slice Ao32 t198.length co32] rfl (by (try simp only [List.map_toArray, List.map_cons, List.map_nil]); first | done | rfl | (simp only [List.length_drop, List.length_take]; rfl)) ?_; (with_reducible refine (slot_Find.calls k _ _ t198 t201 t202 t203 _ ?side1 ?side2 A6.out).mono ?_); (case side1 => repeat (first | exact (Kd.R_reads' HO200.out).2.2 | (with_reducible refine Kd.C_alloc ?_ _) | (with_reducible refine Kd.C_drewN ?_ _) | (with_reducible refine Kd.C_drew ?_))); (case side2 => exact (Kd.R_reads' HO200.out).2.1); rintro e w33 ⟨rfl, hb⟩; refine ⟨_, rfl, ?_⟩; have n0_ := Aside0.mk (Kd.R_below (by (with_reducible repeat (first | apply Kd.R_alloc | apply Kd.R_drewN | apply Kd.R_drew)); exact HO187.out) hb); have n1_ := Aside0.mk (Kd.R_below (by (with_reducible repeat (first | apply Kd.R_alloc | apply Kd.R_drewN | apply Kd.R_drew)); exact HO190.out) hb); have n2_ := Aside0.mk (Kd.R_below (by (with_reducible repeat (first | apply Kd.R_alloc | apply Kd.R_drewN | apply Kd.R_drew)); exact HO194.out) hb); have n3_ := Aside0.mk (Kd.R_below (by (with_reducible repeat (first | apply Kd.R_alloc | apply Kd.R_drewN | apply Kd.R_drew)); exact HO200.out) hb); have n4_ := Aside0.mk (below_step (by repeat (first | (with_reducible first | exact HB.out | apply below_alloc | apply pw_below_drewN | apply below_drew1) | exact HB.out)) hb); clear HO187; clear HO190; clear HO194; clear HO200; clear HB; have HO187 := n0_; have HO190 := n1_; have HO194 := n2_; have HO200 := n3_; have HB := n4_; clear n0_ n1_ n2_ n3_ n4_; (try clear hb); (try clear hb2); (try clear hk); (try clear hi)) | ((with_reducible refine gate_callee (f := 27) rfl ?_); refine goesL_ (some 41) rfl rfl Try.func27 (by kernel_rfl) rfl #[.slice none 0 0] rfl (by (try simp only [List.map_toArray, List.map_cons, List.map_nil]); first | done | rfl | (simp only [List.length_drop, List.length_take]; rfl)) ?_; (refine (slot_Find.calls k _ _ ([] : List ByteArray) t204 t205 t206 _ ?side1 ?side2 A7.out).mono ?_); (case side1 => exact Kd.C_nil _ _); (case side2 => exact Nat.le_refl _); rintro e w34 ⟨rfl, hb⟩; refine ⟨_, rfl, ?_⟩; have n0_ := Aside0.mk (Kd.R_below (by (with_reducible repeat (first | apply Kd.R_alloc | apply Kd.R_drewN | apply Kd.R_drew)); exact HO187.out) hb); have n1_ := Aside0.mk (Kd.R_below (by (with_reducible repeat (first | apply Kd.R_alloc | apply Kd.R_drewN | apply Kd.R_drew)); exact HO190.out) hb); have n2_ := Aside0.mk (Kd.R_below (by (with_reducible repeat (first | apply Kd.R_alloc | apply Kd.R_drewN | apply Kd.R_drew)); exact HO194.out) hb); have n3_ := Aside0.mk (Kd.R_below (by (with_reducible repeat (first | apply Kd.R_alloc | apply Kd.R_drewN | apply Kd.R_drew)); exact HO200.out) hb); have n4_ := Aside0.mk (below_step (by repeat (first | (with_reducible first | exact HB.out | apply below_alloc | apply pw_below_drewN | apply below_drew1) | exact HB.out)) hb); clear HO187; clear HO190; clear HO194; clear HO200; clear HB; have HO187 := n0_; have HO190 := n1_; have HO194 := n2_; have HO200 := n3_; have HB := n4_; clear n0_ n1_ n2_ n3_ n4_; (try clear hb); (try clear hb2); (try clear hk); (try clear hi)) | ((with_reducible refine gate_callee (f := 25) rfl ?_); refine goesL_ (some 46) rfl rfl Try.func25 (by kernel_rfl) rfl #[.int .i64 0, .string (⟨#[]⟩ : ByteArray)] rfl (by (try simp only [List.map_toArray, List.map_cons, List.map_nil]); first | done | rfl | (simp only [List.length_drop, List.length_take]; rfl)) ?_; (with_reducible refine (slot_Plan.calls k 0 (⟨#[]⟩ : ByteArray) t207 t208 _ A8.out).mono ?_); rintro e w35 ⟨v209, rfl, ho0, hb⟩; refine ⟨_, rfl, ?_⟩; have n0_ := Aside0.mk (Kd.R_elder' (by (with_reducible repeat (first | apply Kd.R_alloc | apply Kd.R_drewN | apply Kd.R_drew)); exact HO187.out) (Kd.R_base ho0) hb); have n1_ := Aside0.mk (Kd.R_below (by (with_reducible repeat (first | apply Kd.R_alloc | apply Kd.R_drewN | apply Kd.R_drew)); exact HO190.out) hb); have n2_ := Aside0.mk (Kd.R_below (by (with_reducible repeat (first | apply Kd.R_alloc | apply Kd.R_drewN | apply Kd.R_drew)); exact HO194.out) hb); have n3_ := Aside0.mk (Kd.R_below (by (with_reducible repeat (first | apply Kd.R_alloc | apply Kd.R_drewN | apply Kd.R_drew)); exact HO200.out) hb); have n4_ := Aside0.mk (Kd.R_lower (Kd.R_new' ho0 (Kd.R_lt (by (with_reducible repeat (first | apply Kd.R_alloc | apply Kd.R_drewN | apply Kd.R_drew)); exact HO187.out))) (below_size (by repeat (first | (with_reducible first | exact HB.out | apply below_alloc | apply pw_below_drewN | apply below_drew1) | exact HB.out)))); have n5_ := Aside0.mk (below_step (by repeat (first | (with_reducible first | exact HB.out | apply below_alloc | apply pw_below_drewN | apply below_drew1) | exact HB.out)) hb); clear HO187; clear HO190; clear HO194; clear HO200; clear HB; have HO187 := n0_; have HO190 := n1_; have HO194 := n2_; have HO200 := n3_; have HO210 := n4_; have HB := n5_; clear n0_ n1_ n2_ n3_ n4_ n5_; (try clear hb); (try clear hb2); (try clear hk); (try clear hi); (try clear ho0)) | (go_at_call 18; (with_reducible refine (portagelaw0_Num.calls t185 t211 _ A10.out).mono ?_); rintro e w' ⟨rfl, ⟨nd, rfl⟩⟩; have p212 : 0 ≤ (0 : Int) := (by omega); have q212 : 0 < (t184.length : Int) := of_decide_eq_true (by first | (with_reducible assumption) | assumption); obtain ⟨ad212, e212, hx212_0, hx212_1⟩ := at_T42 (Kd.R_reads' HO187.out).2.2 0 p212 q212; cases e212; have qi212 : (0 < t184.length) = True := eq_true (by omega); (try rw [show ((0 : Int)).toNat = 0 from rfl] at hx212_0); (try rw [show 0 * 2 = 0 from rfl] at hx212_0); (try rw [Addr.add_zero'] at hx212_0); (try rw [show ((0 : Int)).toNat = 0 from rfl] at hx212_1); (try rw [show 0 * 2 = 0 from rfl] at hx212_1); (try rw [Addr.add_zero'] at hx212_1); replace p212 := eq_true p212; replace q212 := eq_true q212) | (go_at_call 18; (with_reducible refine (portagelaw0_Num.calls t197 t213 _ A17.out).mono ?_); rintro e w' ⟨rfl, ⟨nd, rfl⟩⟩) | (go_at_call 18; (with_reducible refine (portagelaw0_Num.calls t203 t214 _ A19.out).mono ?_); rintro e w' ⟨rfl, ⟨nd, rfl⟩⟩) | (go_at_call 18; (with_reducible refine (portagelaw0_Num.calls t206 t215 _ A21.out).mono ?_); rintro e w' ⟨rfl, ⟨nd, rfl⟩⟩) | (go_at_call 18; (with_reducible refine (portagelaw0_Num.calls t208 t216 _ A23.out).mono ?_); rintro e w' ⟨rfl, ⟨nd, rfl⟩⟩))
                      go_ret
                      exact ⟨by first | rfl | (simp [errW_none, errW_some] <;> rfl) | (simp [*, errW_none, errW_some] <;> rfl), by repeat (first | (with_reducible first | exact HB.out | apply below_alloc | apply pw_below_drewN | apply below_drew1) | exact HB.out)⟩
                    · rw [if_neg c22] at H
                      exact absurd H (by simp)
                  · rw [if_neg c20] at H
                    exact absurd H (by simp)
                · rw [if_neg c18] at H
                  exact absurd H (by simp)
              · rw [if_neg c16] at H
                exact absurd H (by simp)
            · rw [if_neg c15] at H
              exact absurd H (by simp)
          · rw [if_neg c14] at H
            exact absurd H (by simp)
        · rw [if_neg c13] at H
          exact absurd H (by simp)
      · rw [if_neg c12] at H
        exact absurd H (by simp)
    · rw [if_neg c11] at H
      exact absurd H (by simp)
  · rw [if_neg c9] at H
    exact absurd H (by simp)

/-! ### portagelaw18_text: function 32 -/
def portagelaw18_text.l0 : Nat → Int → Int → List Int → Int → Option (ByteArray)
  | 0, _, _, _, _ => none
  | k + 1, x0, x1, x5, x6 => if x6 < x0 then (if 0 ≤ x6 then (if x6 < (x5.length : Int) then (portagelaw18_text.l0 k x0 x1 (x5.set (x6 : Int).toNat ((x1 + ((Int.tmod x6 13) % 256)) % 256)) (wrap64 (x6 + 1))) else (none)) else (none)) else (some (strOfNums x5))
def portagelaw18_text.f (k : Nat) (a0 : Int) (a1 : Int) : Option (ByteArray) := if 0 ≤ a0 then (if (a0 : Int).toNat ≤ 281474976710656 then (portagelaw18_text.l0 k a0 a1 (List.replicate (a0 : Int).toNat 0) 0) else (none)) else (none)
theorem portagelaw18_text.mono_l : ∀ k, (∀ y0 y1 y2 y3, LeO (portagelaw18_text.l0 k y0 y1 y2 y3) (portagelaw18_text.l0 (k + 1) y0 y1 y2 y3))
  | 0 => fun _ _ _ _ r h => by simp [portagelaw18_text.l0] at h
  | k + 1 => by
    have ih0 := portagelaw18_text.mono_l k
    · intro y0 y1 y2 y3
      unfold portagelaw18_text.l0
      repeat' first
      | (with_reducible exact ih0 _ _ _ _)
      | (with_reducible exact LeO.refl _)
      | (with_reducible exact LeO.none _)
      | (with_reducible refine LeO.ite ?_ ?_)
      | (with_reducible refine LeO.bind ?_ (fun _ => ?_))
      | exact ih0 _ _ _ _
      | exact LeO.none _
      | refine LeO.ite ?_ ?_
      | refine LeO.bind ?_ (fun _ => ?_)
theorem portagelaw18_text.mono : ∀ a0 a1 k, LeO (portagelaw18_text.f k a0 a1) (portagelaw18_text.f (k + 1) a0 a1) := by
  intro a0 a1 k
  have ih0 := portagelaw18_text.mono_l k
  unfold portagelaw18_text.f
  repeat' first
      | (with_reducible exact ih0 _ _ _ _)
      | (with_reducible exact LeO.refl _)
      | (with_reducible exact LeO.none _)
      | (with_reducible refine LeO.ite ?_ ?_)
      | (with_reducible refine LeO.bind ?_ (fun _ => ?_))
      | exact ih0 _ _ _ _
      | exact LeO.none _
      | refine LeO.ite ?_ ?_
      | refine LeO.bind ?_ (fun _ => ?_)
set_option maxHeartbeats 8000000 in
set_option maxRecDepth 100000 in
theorem portagelaw18_text.calls (k : Nat) (a0 : Int) (a1 : Int) (r : ByteArray) (w : World) (h : portagelaw18_text.f k a0 a1 = some r) :
    Calls Try.prog 32 #[.int .i64 a0, .int .u8 a1] w fun e w' => e = .returned (.string r) ∧ Below w.heap.size w w' := by
  have HB := Aside0.mk (Below.refl w.heap.size w)
  have H : (if 0 ≤ a0 then (if (a0 : Int).toNat ≤ 281474976710656 then (portagelaw18_text.l0 k a0 a1 (List.replicate (a0 : Int).toNat 0) 0) else (none)) else (none)) = some r := h
  clear h
  by_cases c3 : 0 ≤ a0
  · rw [if_pos c3] at H
    have c3b0 := eq_true c3
    have c3b1 : decide (0 ≤ a0) = true := decide_eq_true c3
    clear c3
    by_cases c4 : (a0 : Int).toNat ≤ 281474976710656
    · rw [if_pos c4] at H
      have c4b0 := eq_true c4
      have c4b1 : decide ((a0 : Int).toNat ≤ 281474976710656) = true := decide_eq_true c4
      clear c4
      obtain ⟨y217, hy217⟩ : ∃ y_ : List Int, y_ = (List.replicate (a0 : Int).toNat 0) := ⟨_, rfl⟩
      replace H : (portagelaw18_text.l0 k a0 a1 y217 0) = some r := by first | (rw [hy217]; with_reducible exact H) | (have H2_ := (Option.bind_some _ _).symm.trans H; rw [hy217]; with_reducible exact H2_) | (have H2_ := (Option.bind_some _ _).symm.trans H; with_reducible exact H2_) | with_reducible exact H | (rw [hy217]; exact H) | exact H
      have Ny217 := Aside0.mk hy217
      clear hy217
      have H' := Aside0.mk H
      clear H
      go_enter Try.func32, Try.ntmps32
      go_wp2_with (first | ((with_reducible refine gate_dst (N := 8) rfl ?_); refine Kd.R_make (Kd.int .u8) _ 5 rfl (N := 8) rfl 43 _ _ rfl a0 rfl rfl Try.underlying43 (.int .u8 0) 1 info5 rfl (by decide) (by omega) 0 (ok := fun _ => True) (okp := fun _ => True) rfl (fun _ hk => hk) trivial (of_decide_eq_true (by first | (with_reducible assumption) | assumption)) (Nat.le_trans (Nat.mul_le_mul_right _ (of_decide_eq_true (by first | (with_reducible assumption) | assumption) : a0.toNat ≤ 281474976710656)) (by omega)) (Below.refl _ _) (Nat.le_refl _) ?_; intro v218 w5 ho6 hb hg_ hnew_; clear hg_ hnew_; (first | rw [← Ny217.out] at ho6 | (simp only [Int.reduceToNat] at ho6; rw [← Ny217.out] at ho6)); have n0_ := Aside0.mk (Kd.R_lower ho6 (below_size (by repeat (first | (with_reducible first | exact HB.out | apply below_alloc | apply pw_below_drewN | apply below_drew1) | exact HB.out)))); have n1_ := Aside0.mk (below_step (by repeat (first | (with_reducible first | exact HB.out | apply below_alloc | apply pw_below_drewN | apply below_drew1) | exact HB.out)) hb); clear HB; have HO219 := n0_; have HB := n1_; clear n0_ n1_; clear hb ho6))
      go_loopg [6] k (fun kq v6 w' => ∃ (x5_1 : List Int) (x6_1 : Int), v6 = .int .i64 x6_1 ∧ Aside0 (portagelaw18_text.l0 kq a0 a1 x5_1 x6_1 = some r) ∧ Aside0 (kq ≤ k) ∧ Aside0 (Kd.R (Kd.int .u8) 5 w' w.heap.size (fun _ => True) v218 x5_1) ∧ Aside0 (Below w.heap.size w w'))
      case atStart => exact ⟨(y217), (0), (by first | rfl | (simp; done) | (simp [*]; done)), H', ⟨Nat.le_refl _⟩, ⟨by (with_reducible repeat (first | apply Kd.R_alloc | apply Kd.R_drewN | apply Kd.R_drew)); exact HO219.out⟩, ⟨by repeat (first | (with_reducible first | exact HB.out | apply below_alloc | apply pw_below_drewN | apply below_drew1) | exact HB.out)⟩⟩
      case round =>
        clear H'
        try clear p2
        try clear c3
        try clear c3b0
        try clear c3b1
        try clear c4
        try clear c4b0
        try clear c4b1
        obtain ⟨x5_1, x6_1, rfl, HA, HK1, HO_5, HB⟩ := hrel
        cases gk with
        | zero => exact absurd HA.out (by simp [portagelaw18_text.l0])
        | succ k1 =>
          have H := HA.out
          clear HA
          simp only [portagelaw18_text.l0] at H
          by_cases c7 : x6_1 < a0
          · rw [if_pos c7] at H
            have c7b0 : decide (x6_1 < a0) = true := decide_eq_true c7
            clear c7
            by_cases c8 : 0 ≤ x6_1
            · rw [if_pos c8] at H
              have c8b0 : decide (0 ≤ x6_1) = true := decide_eq_true c8
              clear c8
              by_cases c9 : x6_1 < (x5_1.length : Int)
              · rw [if_pos c9] at H
                have c9b0 : decide (x6_1 < (x5_1.length : Int)) = true := decide_eq_true c9
                clear c9
                obtain ⟨y220, hy220⟩ : ∃ y_ : List Int, y_ = (x5_1.set (x6_1 : Int).toNat ((a1 + ((Int.tmod x6_1 13) % 256)) % 256)) := ⟨_, rfl⟩
                replace H : (portagelaw18_text.l0 k1 a0 a1 y220 (wrap64 (x6_1 + 1))) = some r := by first | (rw [hy220]; with_reducible exact H) | (have H2_ := (Option.bind_some _ _).symm.trans H; rw [hy220]; with_reducible exact H2_) | (have H2_ := (Option.bind_some _ _).symm.trans H; with_reducible exact H2_) | with_reducible exact H | (rw [hy220]; exact H) | exact H
                have Ny220 := Aside0.mk hy220
                clear hy220
                have H' := Aside0.mk H
                clear H
                have p10 : 0 ≤ (x6_1 : Int) := of_decide_eq_true (by first | (with_reducible assumption) | assumption)
                have q10 : (x6_1 : Int) < ((x5_1.length : Int) : Int) := of_decide_eq_true (by first | (with_reducible assumption) | assumption)
                obtain ⟨go10, co10, eo10, gb10, gl10, cl10, HG10⟩ := Kd.R_form HO_5.out (by omega)
                (first | cases eo10 | (injection eo10 with ea_ en_ ec_; (first | subst ea_ | (injection ea_ with ea_; subst ea_)); subst ec_; clear en_))
                have GB10 := Aside0.mk gb10
                have GG10 := Aside0.mk HG10
                clear gb10 gl10 HG10
                obtain ⟨hx10_0, hf10_0⟩ := Kd.R_celln 0 HO_5.out (x6_1 : Int) p10 q10
                replace p10 := eq_true p10
                replace q10 := eq_true q10
                have HP11 := Kd.R_putg HO_5.out (x6_1 : Int) ((a1 + ((Int.tmod x6_1 13) % 256)) % 256)
                go_wp2_with (first | ((with_reducible refine gate_store (t := 5) (p := 21) rfl ?_); refine store_event (t := 5) (p := 21) (v := ?vo_w12) (w1 := (wr.setCell ⟨go10, (x6_1 : Int).toNat, none⟩ (.int .u8 ((a1 + ((Int.tmod x6_1 13) % 256)) % 256)))) ?hg ?ho ?hn ?hr ?_; (case ho => rfl); (case hg => rfl); (case hn => rfl); (case hr => first | (go_simp; done) | (go_simp; rfl)); intro w12 hw; have hg : wr.grownBy w12 (some go10) := (by rw [hw]; exact HP11.2); have hp_ : Kd.R (Kd.int .u8) 5 w12 w.heap.size (fun _ => True) (.slice (some ⟨go10, 0, none⟩) x5_1.length co10) y220 := (by rw [hw, Ny220.out]; exact HP11.1); clear HP11; have n0_ := Aside0.mk (hp_); have n1_ := Aside0.mk ((by rw [hw]; exact below_set (HB.out) GB10.out : Below w.heap.size w w12)); clear HO_5; clear HB; have HO_5 := n0_; have HB := n1_; clear n0_ n1_; clear hg hw hp_))
                go_roundg k1
                case measure => have := HK1.out; omega
                case rel => exact ⟨(y220), (wrap64 (x6_1 + 1)), (by first | rfl | (simp; done) | (simp [*]; done)), H', ⟨by have := HK1.out; omega⟩, ⟨by (with_reducible repeat (first | apply Kd.R_alloc | apply Kd.R_drewN | apply Kd.R_drew)); exact HO_5.out⟩, ⟨by repeat (first | (with_reducible first | exact HB.out | apply below_alloc | apply pw_below_drewN | apply below_drew1) | exact HB.out)⟩⟩
              · rw [if_neg c9] at H
                exact absurd H (by simp)
            · rw [if_neg c8] at H
              exact absurd H (by simp)
          · rw [if_neg c7] at H
            have c7b0 : decide (x6_1 < a0) = false := decide_eq_false c7
            clear c7
            obtain rfl := Option.some.inj H
            have hcv13 := own_string (P := Try.prog) Try.underlying43 Try.underlying5 Try.underlying9 (Kd.own_of_R HO_5.out)
            go_wp2
            go_ret
            exact ⟨by first | rfl | (simp [errW_none, errW_some] <;> rfl) | (simp [*, errW_none, errW_some] <;> rfl), by repeat (first | (with_reducible first | exact HB.out | apply below_alloc | apply pw_below_drewN | apply below_drew1) | exact HB.out)⟩
    · rw [if_neg c4] at H
      exact absurd H (by simp)
  · rw [if_neg c3] at H
    exact absurd H (by simp)

end Go.Proofs.Ytdccnjinehcenaa.LF
