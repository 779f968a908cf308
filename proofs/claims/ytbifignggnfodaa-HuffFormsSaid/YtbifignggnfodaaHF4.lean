-- Written by a program of this session out of the translation (a changed copy of the kit's printer).
import Derived.Test.YtbifignggnfodaaHF0
import Derived.Test.YtbifignggnfodaaHF1
import Derived.Test.YtbifignggnfodaaHF3
namespace Go.Proofs.Ytbifignggnfodaa.HF
open Go.RowKit Go.Proofs.YtbifignggnfodaaW.PrintWords Go.Proofs.YtbifignggnfodaaW.PrintLast Go.Proofs.YtbifignggnfodaaW.PrintMore
attribute [local go_sem] max2_int min2_int max_two min_two max_three min_three max_four min_four   -- for this text's walks alone
set_option linter.unusedVariables false
set_option linter.unusedSimpArgs false

attribute [local go_sem high] eqA43
/-! ### huff_Codes: function 24 -/
def huff_Codes.f (l0 : List Int) : Option (List (S43) × Int) := some (if huffMay l0 = false then (([] : List (S43)), 300) else if HuffM.lft l0 15 < 0 then (([] : List (S43)), 301) else (huffCodes l0, 0))
theorem huff_Codes.calls (A0 : Option Addr) (c0 : Nat) (l0 : List Int) (r1 : List (S43)) (r2 : Int) (w : World) (hr0 : Kd.C (Kd.int .i64) w A0 l0.length l0) (hc0 : l0.length ≤ c0) (h : huff_Codes.f l0 = some (r1, r2)) :
    Calls Try.prog 24 #[.slice A0 l0.length c0] w fun e w' => ∃ v0_ : Value, e = .returned (.tuple #[v0_, .int .i64 r2]) ∧ Kd.R k43 43 w' w.heap.size (fun _ => True) v0_ r1 ∧ Below w.heap.size w w' := by
  have h := Option.some.inj h
  cases h1 : huffMay l0 with
  | false =>
    rw [if_pos h1] at h
    injection h with e1 e2
    subst e1 e2
    exact (huff_Codes_no A0 c0 l0 w hr0 hc0 300 rfl rfl (fun w hr => huff_book_form A0 c0 l0 w hr hc0 h1)).mono fun e w' ⟨he, hb⟩ => ⟨_, he, Kd.R_nil _ _ _ _ _, hb⟩
  | true =>
    rw [if_neg (by rw [h1]; decide)] at h
    by_cases h2 : HuffM.lft l0 15 < 0
    · rw [if_pos h2] at h
      injection h with e1 e2
      subst e1 e2
      exact (huff_Codes_no A0 c0 l0 w hr0 hc0 301 rfl rfl (fun w hr => huff_book_over A0 c0 l0 w hr hc0 h1 h2)).mono fun e w' ⟨he, hb⟩ => ⟨_, he, Kd.R_nil _ _ _ _ _, hb⟩
    · rw [if_neg h2] at h
      injection h with e1 e2
      subst e1 e2
      exact huff_Codes_yes A0 c0 l0 w hr0 hc0 h1 h2

/-! ### huff_Book_Find: function 70 -/

/-! ### huff_Find: function 26 -/
def huff_Find.f (l0 : List Int) (a1 : Int) (a2 : Int) : Option (Int × Bool × Int) := if huffMay l0 = false then some (0, false, 300) else if HuffM.lft l0 15 < 0 then some (0, false, 301) else if a1 < 1 then some (0, false, 0) else if a1 > 15 then some (0, false, 0) else if a2 < HuffM.cd l0 a1.toNat then some (0, false, 0) else if wrap64 (a2 - HuffM.cd l0 a1.toNat) ≥ HuffM.cnt l0 a1.toNat then some (0, false, 0) else if 0 ≤ wrap64 (a2 - HuffM.cd l0 a1.toNat) then some (rd (HuffM.pos l0 a1.toNat) (wrap64 (a2 - HuffM.cd l0 a1.toNat)), true, 0) else none
theorem huff_Find.calls (A0 : Option Addr) (c0 : Nat) (l0 : List Int) (a1 : Int) (a2 : Int) (r1 : Int) (r2 : Bool) (r3 : Int) (w : World) (hr0 : Kd.C (Kd.int .i64) w A0 l0.length l0) (hc0 : l0.length ≤ c0) (h : huff_Find.f l0 a1 a2 = some (r1, r2, r3)) :
    Calls Try.prog 26 #[.slice A0 l0.length c0, .int .i64 a1, .int .i64 a2] w fun e w' => e = .returned (.tuple #[.int .i64 r1, .bool r2, .int .i64 r3]) ∧ Below w.heap.size w w' := by
  unfold huff_Find.f at h
  cases h1 : huffMay l0 with
  | false =>
    rw [if_pos h1] at h
    obtain ⟨rfl, rfl, rfl⟩ : 0 = r1 ∧ false = r2 ∧ 300 = r3 := by simpa using h
    exact huff_Find_no A0 c0 l0 w a1 a2 hr0 hc0 300 rfl rfl (fun w hr => huff_book_form A0 c0 l0 w hr hc0 h1)
  | true =>
    have hl := (huffMay_out h1).1
    rw [if_neg (by rw [h1]; decide)] at h
    by_cases h2 : HuffM.lft l0 15 < 0
    · rw [if_pos h2] at h
      obtain ⟨rfl, rfl, rfl⟩ : 0 = r1 ∧ false = r2 ∧ 301 = r3 := by simpa using h
      exact huff_Find_no A0 c0 l0 w a1 a2 hr0 hc0 301 rfl rfl (fun w hr => huff_book_over A0 c0 l0 w hr hc0 h1 h2)
    · rw [if_neg h2] at h
      by_cases h3 : a1 < 1
      · rw [if_pos h3] at h
        obtain ⟨rfl, rfl, rfl⟩ : 0 = r1 ∧ false = r2 ∧ 0 = r3 := by simpa using h
        exact huff_Find_yes A0 c0 l0 w a1 a2 0 false hr0 hc0 h1 h2 (fun g vs w' hb _ => huff_BFind_no g vs l0 a1 a2 w' hb hl (.inl h3))
      · rw [if_neg h3] at h
        by_cases h4 : a1 > 15
        · rw [if_pos h4] at h
          obtain ⟨rfl, rfl, rfl⟩ : 0 = r1 ∧ false = r2 ∧ 0 = r3 := by simpa using h
          exact huff_Find_yes A0 c0 l0 w a1 a2 0 false hr0 hc0 h1 h2 (fun g vs w' hb _ => huff_BFind_no g vs l0 a1 a2 w' hb hl (.inr h4))
        · rw [if_neg h4] at h
          obtain ⟨n, rfl⟩ : ∃ n : Nat, a1 = (n : Int) := ⟨a1.toNat, by omega⟩
          rw [Int.toNat_natCast] at h
          by_cases h5 : a2 < HuffM.cd l0 n
          · rw [if_pos h5] at h
            obtain ⟨rfl, rfl, rfl⟩ : 0 = r1 ∧ false = r2 ∧ 0 = r3 := by simpa using h
            exact huff_Find_yes A0 c0 l0 w n a2 0 false hr0 hc0 h1 h2 (fun g vs w' hb _ => huff_BFind_out g vs l0 a2 w' n hb hl (by omega) (by omega) (.inl h5))
          · rw [if_neg h5] at h
            by_cases h6 : wrap64 (a2 - HuffM.cd l0 n) ≥ HuffM.cnt l0 n
            · rw [if_pos h6] at h
              obtain ⟨rfl, rfl, rfl⟩ : 0 = r1 ∧ false = r2 ∧ 0 = r3 := by simpa using h
              exact huff_Find_yes A0 c0 l0 w n a2 0 false hr0 hc0 h1 h2 (fun g vs w' hb _ => huff_BFind_out g vs l0 a2 w' n hb hl (by omega) (by omega) (.inr h6))
            · rw [if_neg h6] at h
              by_cases h7 : 0 ≤ wrap64 (a2 - HuffM.cd l0 n)
              · rw [if_pos h7] at h
                obtain ⟨q, hq⟩ : ∃ q : Nat, wrap64 (a2 - HuffM.cd l0 n) = (q : Int) := ⟨(wrap64 (a2 - HuffM.cd l0 n)).toNat, by omega⟩
                rw [hq] at h h6
                obtain ⟨rfl, rfl, rfl⟩ : rd (HuffM.pos l0 n) (q : Int) = r1 ∧ true = r2 ∧ 0 = r3 := by simpa using h
                exact huff_Find_yes A0 c0 l0 w n a2 _ true hr0 hc0 h1 h2 (fun g vs w' hb hr => huff_BFind_yes g vs l0 a2 w.heap.size w' n hb hr hl (by omega) (by omega) h5 q hq (by omega))
              · rw [if_neg h7] at h
                exact absurd h (by simp)

/-! ### portagelaw0_SameCodes: function 28 -/
def portagelaw0_SameCodes.l0 : Nat → List (S43) → List (S43) → Int → Option (Bool)
  | 0, _, _, _ => none
  | k + 1, x0, x1, x5 => if x5 < (x0.length : Int) then (if 0 ≤ x5 then (if x5 < (x1.length : Int) then (if (!(((rd_T43 x0 x5).f0) == ((rd_T43 x1 x5).f0)) || (!(((rd_T43 x0 x5).f1) == ((rd_T43 x1 x5).f1)))) = true then (some false) else (portagelaw0_SameCodes.l0 k x0 x1 (wrap64 (x5 + 1)))) else (none)) else (none)) else (some true)
def portagelaw0_SameCodes.f (k : Nat) (l0 : List (S43)) (l1 : List (S43)) : Option (Bool) := if (l0.length : Int) = (l1.length : Int) then (portagelaw0_SameCodes.l0 k l0 l1 0) else (some false)
theorem portagelaw0_SameCodes.mono_l : ∀ k, (∀ y0 y1 y2, LeO (portagelaw0_SameCodes.l0 k y0 y1 y2) (portagelaw0_SameCodes.l0 (k + 1) y0 y1 y2))
  | 0 => fun _ _ _ r h => by simp [portagelaw0_SameCodes.l0] at h
  | k + 1 => by
    have ih0 := portagelaw0_SameCodes.mono_l k
    · intro y0 y1 y2
      unfold portagelaw0_SameCodes.l0
      repeat' first
      | (with_reducible exact ih0 _ _ _)
      | (with_reducible exact LeO.refl _)
      | (with_reducible exact LeO.none _)
      | (with_reducible refine LeO.ite ?_ ?_)
      | (with_reducible refine LeO.bind ?_ (fun _ => ?_))
      | exact ih0 _ _ _
      | exact LeO.none _
      | refine LeO.ite ?_ ?_
      | refine LeO.bind ?_ (fun _ => ?_)
theorem portagelaw0_SameCodes.mono : ∀ a0 a1 k, LeO (portagelaw0_SameCodes.f k a0 a1) (portagelaw0_SameCodes.f (k + 1) a0 a1) := by
  intro a0 a1 k
  have ih0 := portagelaw0_SameCodes.mono_l k
  unfold portagelaw0_SameCodes.f
  repeat' first
      | (with_reducible exact ih0 _ _ _)
      | (with_reducible exact LeO.refl _)
      | (with_reducible exact LeO.none _)
      | (with_reducible refine LeO.ite ?_ ?_)
      | (with_reducible refine LeO.bind ?_ (fun _ => ?_))
      | exact ih0 _ _ _
      | exact LeO.none _
      | refine LeO.ite ?_ ?_
      | refine LeO.bind ?_ (fun _ => ?_)
set_option maxHeartbeats 8000000 in
set_option maxRecDepth 100000 in
theorem portagelaw0_SameCodes.calls (k : Nat) (A0 : Option Addr) (c0 : Nat) (l0 : List (S43)) (A1 : Option Addr) (c1 : Nat) (l1 : List (S43)) (r : Bool) (w : World) (hr0 : Kd.C k43 w A0 l0.length l0) (hc0 : l0.length ≤ c0) (hr1 : Kd.C k43 w A1 l1.length l1) (hc1 : l1.length ≤ c1) (h : portagelaw0_SameCodes.f k l0 l1 = some r) :
    Calls Try.prog 28 #[.slice A0 l0.length c0, .slice A1 l1.length c1] w fun e w' => e = .returned (.bool r) ∧ Drawn0 w w' := by
  have hu43 := Try.underlying43
  have HR0 := Aside0.mk hr0
  have HC0 := Aside0.mk hc0
  clear hr0 hc0
  have HR1 := Aside0.mk hr1
  have HC1 := Aside0.mk hc1
  clear hr1 hc1
  have H : (if (l0.length : Int) = (l1.length : Int) then (portagelaw0_SameCodes.l0 k l0 l1 0) else (some false)) = some r := h
  clear h
  by_cases c3 : (l0.length : Int) = (l1.length : Int)
  · rw [if_pos c3] at H
    have c3b0 : ((l0.length : Int) == (l1.length : Int)) = true := beq_iff_eq.mpr c3
    have c3b1 : ((l0.length : Int) != (l1.length : Int)) = false := bne_eq_false_iff_eq.mpr c3
    have c3b2 : (l0.length == l1.length) = true := by first | simpa using c3 | (simp at c3 ⊢; omega)
    clear c3
    have H' := Aside0.mk H
    clear H
    go_enter Try.func28, Try.ntmps28
    go_wp2
    repeat (go_quiet (fail); try go_wp2)
    go_loopg [5] k (fun kq v5 w' => ∃ (x5_1 : Int), v5 = .int .i64 x5_1 ∧ Aside0 (portagelaw0_SameCodes.l0 kq l0 l1 x5_1 = some r) ∧ Aside0 (kq ≤ k) ∧ Drawn0 w w')
    case atStart => exact ⟨(0), (by first | rfl | (simp; done) | (simp [*]; done)), H', ⟨Nat.le_refl _⟩, by repeat (first | exact Drawn0.refl _ | apply Drawn0.step)⟩
    case round =>
      clear H'
      try clear c1
      try clear c2
      try clear p2
      try clear c3
      try clear c3b0
      try clear c3b1
      try clear c3b2
      obtain ⟨x5_1, rfl, HA, HK1, ⟨m1, rfl⟩⟩ := hrel
      cases gk with
      | zero => exact absurd HA.out (by simp [portagelaw0_SameCodes.l0])
      | succ k1 =>
        have H := HA.out
        clear HA
        simp only [portagelaw0_SameCodes.l0] at H
        by_cases c4 : x5_1 < (l0.length : Int)
        · rw [if_pos c4] at H
          have c4b0 : decide (x5_1 < (l0.length : Int)) = true := decide_eq_true c4
          clear c4
          by_cases c5 : 0 ≤ x5_1
          · rw [if_pos c5] at H
            have c5b0 : decide (0 ≤ x5_1) = true := decide_eq_true c5
            clear c5
            by_cases c6 : x5_1 < (l1.length : Int)
            · rw [if_pos c6] at H
              have c6b0 : decide (x5_1 < (l1.length : Int)) = true := decide_eq_true c6
              clear c6
              by_cases c7 : (!(((rd_T43 l0 x5_1).f0) == ((rd_T43 l1 x5_1).f0)) || (!(((rd_T43 l0 x5_1).f1) == ((rd_T43 l1 x5_1).f1)))) = true
              · rw [if_pos c7] at H
                have c7b0 : (!(((rd_T43 l0 x5_1).f0) == ((rd_T43 l1 x5_1).f0)) || (!(((rd_T43 l0 x5_1).f1) == ((rd_T43 l1 x5_1).f1)))) = true := c7
                clear c7
                obtain rfl := Option.some.inj H
                have p105 : 0 ≤ (x5_1 : Int) := of_decide_eq_true (by first | (with_reducible assumption) | assumption)
                have q105 : x5_1 < (l0.length : Int) := of_decide_eq_true (by first | (with_reducible assumption) | assumption)
                obtain ⟨ad105, e105, hx105_0, hx105_1⟩ := at_T43 HR0.out x5_1 p105 q105
                cases e105
                replace p105 := eq_true p105
                replace q105 := eq_true q105
                have p106 : 0 ≤ (x5_1 : Int) := of_decide_eq_true (by first | (with_reducible assumption) | assumption)
                have q106 : x5_1 < (l1.length : Int) := of_decide_eq_true (by first | (with_reducible assumption) | assumption)
                obtain ⟨ad106, e106, hx106_0, hx106_1⟩ := at_T43 HR1.out x5_1 p106 q106
                cases e106
                replace p106 := eq_true p106
                replace q106 := eq_true q106
                go_wp2
                repeat (go_quiet (fail); try go_wp2)
                go_ret
                exact ⟨by first | rfl | (simp; done) | (simp [*]; done), by repeat (first | exact Drawn0.refl _ | apply Drawn0.step)⟩
              · rw [if_neg c7] at H
                have c7b0 : (!(((rd_T43 l0 x5_1).f0) == ((rd_T43 l1 x5_1).f0)) || (!(((rd_T43 l0 x5_1).f1) == ((rd_T43 l1 x5_1).f1)))) = false := by simpa using c7
                clear c7
                have H' := Aside0.mk H
                clear H
                have p105 : 0 ≤ (x5_1 : Int) := of_decide_eq_true (by first | (with_reducible assumption) | assumption)
                have q105 : x5_1 < (l0.length : Int) := of_decide_eq_true (by first | (with_reducible assumption) | assumption)
                obtain ⟨ad105, e105, hx105_0, hx105_1⟩ := at_T43 HR0.out x5_1 p105 q105
                cases e105
                replace p105 := eq_true p105
                replace q105 := eq_true q105
                have p106 : 0 ≤ (x5_1 : Int) := of_decide_eq_true (by first | (with_reducible assumption) | assumption)
                have q106 : x5_1 < (l1.length : Int) := of_decide_eq_true (by first | (with_reducible assumption) | assumption)
                obtain ⟨ad106, e106, hx106_0, hx106_1⟩ := at_T43 HR1.out x5_1 p106 q106
                cases e106
                replace p106 := eq_true p106
                replace q106 := eq_true q106
                go_wp2
                repeat (go_quiet (fail); try go_wp2)
                go_roundg k1
                case measure => have := HK1.out; omega
                case rel => exact ⟨(wrap64 (x5_1 + 1)), (by first | rfl | (simp; done) | (simp [*]; done)), H', ⟨by have := HK1.out; omega⟩, by repeat (first | exact Drawn0.refl _ | apply Drawn0.step)⟩
            · rw [if_neg c6] at H
              exact absurd H (by simp)
          · rw [if_neg c5] at H
            exact absurd H (by simp)
        · rw [if_neg c4] at H
          have c4b0 : decide (x5_1 < (l0.length : Int)) = false := decide_eq_false c4
          clear c4
          obtain rfl := Option.some.inj H
          go_wp2
          repeat (go_quiet (fail); try go_wp2)
          go_ret
          exact ⟨by first | rfl | (simp; done) | (simp [*]; done), by repeat (first | exact Drawn0.refl _ | apply Drawn0.step)⟩
  · rw [if_neg c3] at H
    have c3b0 : ((l0.length : Int) == (l1.length : Int)) = false := beq_eq_false_iff_ne.mpr c3
    have c3b1 : ((l0.length : Int) != (l1.length : Int)) = true := bne_iff_ne.mpr c3
    have c3b2 : (l0.length == l1.length) = false := by first | simpa using c3 | (simp at c3 ⊢; omega)
    obtain rfl := Option.some.inj H
    go_enter Try.func28, Try.ntmps28
    go_wp2
    repeat (go_quiet (fail); try go_wp2)
    go_ret
    exact ⟨by first | rfl | (simp; done) | (simp [*]; done), by repeat (first | exact Drawn0.refl _ | apply Drawn0.step)⟩

/-! ### portagelaw0_Num: function 29 -/
def portagelaw0_Num.f (a0 : Int) : Option (Int) := some a0
set_option maxHeartbeats 8000000 in
set_option maxRecDepth 100000 in
theorem portagelaw0_Num.calls (a0 : Int) (r : Int) (w : World) (h : portagelaw0_Num.f a0 = some r) :
    Calls Try.prog 29 #[.int .i64 a0] w fun e w' => e = .returned (.int .i64 r) ∧ Drawn0 w w' := by
  have H : (some a0) = some r := h
  clear h
  obtain rfl := Option.some.inj H
  go_enter Try.func29, Try.ntmps29
  go_wp2
  go_ret
  exact ⟨by first | rfl | (simp; done) | (simp [*]; done), by repeat (first | exact Drawn0.refl _ | apply Drawn0.step)⟩

/-! ### huff_Check: function 30 -/
def huff_Check.f (l0 : List Int) : Option (Int) := some (huffNum l0)
theorem huff_Check.calls (A0 : Option Addr) (c0 : Nat) (l0 : List Int) (r : Int) (w : World) (hr0 : Kd.C (Kd.int .i64) w A0 l0.length l0) (hc0 : l0.length ≤ c0) (h : huff_Check.f l0 = some r) :
    Calls Try.prog 30 #[.slice A0 l0.length c0] w fun e w' => e = .returned (.int .i64 r) ∧ Below w.heap.size w w' := by
  obtain rfl := Option.some.inj h
  exact huff_Check_any A0 c0 l0 w hr0 hc0

/-! ### portagelaw3_awake: function 34 -/
def portagelaw3_awake.f (k : Nat)  : Option (Bool) := (some (([2, 1, 3, 3] : List Int) : List Int)).bind fun y107 => ((huff_Codes.f y107).bind fun bt110 => ((huff_Find.f y107 3 7).bind fun bt114 => ((huff_Find.f y107 2 3).bind fun bt117 => ((portagelaw0_SameCodes.f k bt110.1 (([(⟨2, 2⟩ : S43), (⟨1, 0⟩ : S43), (⟨3, 6⟩ : S43), (⟨3, 7⟩ : S43)] : List (S43)))).bind fun t123 => (if t123 = true then ((portagelaw0_Num.f bt110.2).bind fun t124 => (if t124 = 0 then (if bt114.1 = 3 then (if bt114.2.1 = true then ((portagelaw0_Num.f bt114.2.2).bind fun t125 => (if t125 = 0 then (if bt117.2.1 = true then (none) else ((portagelaw0_Num.f bt117.2.2).bind fun t126 => (if t126 = 0 then ((huff_Check.f y107).bind fun t127 => ((portagelaw0_Num.f t127).bind fun t128 => (if t128 = 0 then ((huff_Check.f (([1, 1, 1] : List Int))).bind fun t132 => ((portagelaw0_Num.f t132).bind fun t133 => (if t133 = 301 then ((huff_Check.f (([2, 1] : List Int))).bind fun t137 => ((portagelaw0_Num.f t137).bind fun t138 => (if t138 = 302 then ((huff_Check.f ([] : List Int)).bind fun t139 => ((portagelaw0_Num.f t139).bind fun t140 => (some (t140 == 300)))) else (none)))) else (none)))) else (none)))) else (none)))) else (none))) else (none)) else (none)) else (none))) else (none))))))
theorem portagelaw3_awake.mono : ∀ k, LeO (portagelaw3_awake.f k ) (portagelaw3_awake.f (k + 1) ) := by
  intro  k
  unfold portagelaw3_awake.f
  repeat' first
      | (with_reducible exact portagelaw0_SameCodes.mono _ _ _)
      | (with_reducible exact LeO.refl _)
      | (with_reducible exact LeO.none _)
      | (with_reducible refine LeO.ite ?_ ?_)
      | (with_reducible refine LeO.bind ?_ (fun _ => ?_))
      | exact portagelaw0_SameCodes.mono _ _ _
      | exact LeO.none _
      | refine LeO.ite ?_ ?_
      | refine LeO.bind ?_ (fun _ => ?_)
set_option maxHeartbeats 8000000 in
set_option maxRecDepth 100000 in
theorem portagelaw3_awake.calls (k : Nat)  (r : Bool) (w : World) (h : portagelaw3_awake.f k  = some r) :
    Calls Try.prog 34 #[] w fun e w' => e = .returned (.bool r) ∧ Below w.heap.size w w' := by
  have hu43 := Try.underlying43
  have HB := Aside0.mk (Below.refl w.heap.size w)
  have H : ((some (([2, 1, 3, 3] : List Int) : List Int)).bind fun y107 => ((huff_Codes.f y107).bind fun bt110 => ((huff_Find.f y107 3 7).bind fun bt114 => ((huff_Find.f y107 2 3).bind fun bt117 => ((portagelaw0_SameCodes.f k bt110.1 (([(⟨2, 2⟩ : S43), (⟨1, 0⟩ : S43), (⟨3, 6⟩ : S43), (⟨3, 7⟩ : S43)] : List (S43)))).bind fun t123 => (if t123 = true then ((portagelaw0_Num.f bt110.2).bind fun t124 => (if t124 = 0 then (if bt114.1 = 3 then (if bt114.2.1 = true then ((portagelaw0_Num.f bt114.2.2).bind fun t125 => (if t125 = 0 then (if bt117.2.1 = true then (none) else ((portagelaw0_Num.f bt117.2.2).bind fun t126 => (if t126 = 0 then ((huff_Check.f y107).bind fun t127 => ((portagelaw0_Num.f t127).bind fun t128 => (if t128 = 0 then ((huff_Check.f (([1, 1, 1] : List Int))).bind fun t132 => ((portagelaw0_Num.f t132).bind fun t133 => (if t133 = 301 then ((huff_Check.f (([2, 1] : List Int))).bind fun t137 => ((portagelaw0_Num.f t137).bind fun t138 => (if t138 = 302 then ((huff_Check.f ([] : List Int)).bind fun t139 => ((portagelaw0_Num.f t139).bind fun t140 => (some (t140 == 300)))) else (none)))) else (none)))) else (none)))) else (none)))) else (none))) else (none)) else (none)) else (none))) else (none))))))) = some r := h
  clear h
  obtain ⟨y107, hy107⟩ : ∃ y_ : List Int, y_ = (([2, 1, 3, 3] : List Int)) := ⟨_, rfl⟩
  replace H : ((huff_Codes.f y107).bind fun bt110 => ((huff_Find.f y107 3 7).bind fun bt114 => ((huff_Find.f y107 2 3).bind fun bt117 => ((portagelaw0_SameCodes.f k bt110.1 (([(⟨2, 2⟩ : S43), (⟨1, 0⟩ : S43), (⟨3, 6⟩ : S43), (⟨3, 7⟩ : S43)] : List (S43)))).bind fun t123 => (if t123 = true then ((portagelaw0_Num.f bt110.2).bind fun t124 => (if t124 = 0 then (if bt114.1 = 3 then (if bt114.2.1 = true then ((portagelaw0_Num.f bt114.2.2).bind fun t125 => (if t125 = 0 then (if bt117.2.1 = true then (none) else ((portagelaw0_Num.f bt117.2.2).bind fun t126 => (if t126 = 0 then ((huff_Check.f y107).bind fun t127 => ((portagelaw0_Num.f t127).bind fun t128 => (if t128 = 0 then ((huff_Check.f (([1, 1, 1] : List Int))).bind fun t132 => ((portagelaw0_Num.f t132).bind fun t133 => (if t133 = 301 then ((huff_Check.f (([2, 1] : List Int))).bind fun t137 => ((portagelaw0_Num.f t137).bind fun t138 => (if t138 = 302 then ((huff_Check.f ([] : List Int)).bind fun t139 => ((portagelaw0_Num.f t139).bind fun t140 => (some (t140 == 300)))) else (none)))) else (none)))) else (none)))) else (none)))) else (none))) else (none)) else (none)) else (none))) else (none)))))) = some r := by first | (rw [hy107]; with_reducible exact H) | (have H2_ := (Option.bind_some _ _).symm.trans H; rw [hy107]; with_reducible exact H2_) | (have H2_ := (Option.bind_some _ _).symm.trans H; with_reducible exact H2_) | with_reducible exact H | (rw [hy107]; exact H) | exact H
  have Ny107 := Aside0.mk hy107
  clear hy107
  replace H := Option.bind_eq_some_iff.mp H
  obtain ⟨⟨t110, t111⟩, A10, H⟩ := H
  replace H : ((huff_Find.f y107 3 7).bind fun bt114 => ((huff_Find.f y107 2 3).bind fun bt117 => ((portagelaw0_SameCodes.f k t110 (([(⟨2, 2⟩ : S43), (⟨1, 0⟩ : S43), (⟨3, 6⟩ : S43), (⟨3, 7⟩ : S43)] : List (S43)))).bind fun t123 => (if t123 = true then ((portagelaw0_Num.f t111).bind fun t124 => (if t124 = 0 then (if bt114.1 = 3 then (if bt114.2.1 = true then ((portagelaw0_Num.f bt114.2.2).bind fun t125 => (if t125 = 0 then (if bt117.2.1 = true then (none) else ((portagelaw0_Num.f bt117.2.2).bind fun t126 => (if t126 = 0 then ((huff_Check.f y107).bind fun t127 => ((portagelaw0_Num.f t127).bind fun t128 => (if t128 = 0 then ((huff_Check.f (([1, 1, 1] : List Int))).bind fun t132 => ((portagelaw0_Num.f t132).bind fun t133 => (if t133 = 301 then ((huff_Check.f (([2, 1] : List Int))).bind fun t137 => ((portagelaw0_Num.f t137).bind fun t138 => (if t138 = 302 then ((huff_Check.f ([] : List Int)).bind fun t139 => ((portagelaw0_Num.f t139).bind fun t140 => (some (t140 == 300)))) else (none)))) else (none)))) else (none)))) else (none)))) else (none))) else (none)) else (none)) else (none))) else (none))))) = some r := H
  have A1 := Aside0.mk A10
  clear A10
  replace H := Option.bind_eq_some_iff.mp H
  obtain ⟨⟨t114, t115, t116⟩, A20, H⟩ := H
  replace H : ((huff_Find.f y107 2 3).bind fun bt117 => ((portagelaw0_SameCodes.f k t110 (([(⟨2, 2⟩ : S43), (⟨1, 0⟩ : S43), (⟨3, 6⟩ : S43), (⟨3, 7⟩ : S43)] : List (S43)))).bind fun t123 => (if t123 = true then ((portagelaw0_Num.f t111).bind fun t124 => (if t124 = 0 then (if t114 = 3 then (if t115 = true then ((portagelaw0_Num.f t116).bind fun t125 => (if t125 = 0 then (if bt117.2.1 = true then (none) else ((portagelaw0_Num.f bt117.2.2).bind fun t126 => (if t126 = 0 then ((huff_Check.f y107).bind fun t127 => ((portagelaw0_Num.f t127).bind fun t128 => (if t128 = 0 then ((huff_Check.f (([1, 1, 1] : List Int))).bind fun t132 => ((portagelaw0_Num.f t132).bind fun t133 => (if t133 = 301 then ((huff_Check.f (([2, 1] : List Int))).bind fun t137 => ((portagelaw0_Num.f t137).bind fun t138 => (if t138 = 302 then ((huff_Check.f ([] : List Int)).bind fun t139 => ((portagelaw0_Num.f t139).bind fun t140 => (some (t140 == 300)))) else (none)))) else (none)))) else (none)))) else (none)))) else (none))) else (none)) else (none)) else (none))) else (none)))) = some r := H
  have A2 := Aside0.mk A20
  clear A20
  replace H := Option.bind_eq_some_iff.mp H
  obtain ⟨⟨t117, t118, t119⟩, A30, H⟩ := H
  replace H : ((portagelaw0_SameCodes.f k t110 (([(⟨2, 2⟩ : S43), (⟨1, 0⟩ : S43), (⟨3, 6⟩ : S43), (⟨3, 7⟩ : S43)] : List (S43)))).bind fun t123 => (if t123 = true then ((portagelaw0_Num.f t111).bind fun t124 => (if t124 = 0 then (if t114 = 3 then (if t115 = true then ((portagelaw0_Num.f t116).bind fun t125 => (if t125 = 0 then (if t118 = true then (none) else ((portagelaw0_Num.f t119).bind fun t126 => (if t126 = 0 then ((huff_Check.f y107).bind fun t127 => ((portagelaw0_Num.f t127).bind fun t128 => (if t128 = 0 then ((huff_Check.f (([1, 1, 1] : List Int))).bind fun t132 => ((portagelaw0_Num.f t132).bind fun t133 => (if t133 = 301 then ((huff_Check.f (([2, 1] : List Int))).bind fun t137 => ((portagelaw0_Num.f t137).bind fun t138 => (if t138 = 302 then ((huff_Check.f ([] : List Int)).bind fun t139 => ((portagelaw0_Num.f t139).bind fun t140 => (some (t140 == 300)))) else (none)))) else (none)))) else (none)))) else (none)))) else (none))) else (none)) else (none)) else (none))) else (none))) = some r := H
  have A3 := Aside0.mk A30
  clear A30
  obtain ⟨y120, hy120⟩ : ∃ y_ : List (S43), y_ = (([(⟨2, 2⟩ : S43), (⟨1, 0⟩ : S43), (⟨3, 6⟩ : S43), (⟨3, 7⟩ : S43)] : List (S43))) := ⟨_, rfl⟩
  replace H : ((portagelaw0_SameCodes.f k t110 y120).bind fun t123 => (if t123 = true then ((portagelaw0_Num.f t111).bind fun t124 => (if t124 = 0 then (if t114 = 3 then (if t115 = true then ((portagelaw0_Num.f t116).bind fun t125 => (if t125 = 0 then (if t118 = true then (none) else ((portagelaw0_Num.f t119).bind fun t126 => (if t126 = 0 then ((huff_Check.f y107).bind fun t127 => ((portagelaw0_Num.f t127).bind fun t128 => (if t128 = 0 then ((huff_Check.f (([1, 1, 1] : List Int))).bind fun t132 => ((portagelaw0_Num.f t132).bind fun t133 => (if t133 = 301 then ((huff_Check.f (([2, 1] : List Int))).bind fun t137 => ((portagelaw0_Num.f t137).bind fun t138 => (if t138 = 302 then ((huff_Check.f ([] : List Int)).bind fun t139 => ((portagelaw0_Num.f t139).bind fun t140 => (some (t140 == 300)))) else (none)))) else (none)))) else (none)))) else (none)))) else (none))) else (none)) else (none)) else (none))) else (none))) = some r := by first | (rw [hy120]; with_reducible exact H) | (have H2_ := (Option.bind_some _ _).symm.trans H; rw [hy120]; with_reducible exact H2_) | (have H2_ := (Option.bind_some _ _).symm.trans H; with_reducible exact H2_) | with_reducible exact H | (rw [hy120]; exact H) | exact H
  have Ny120 := Aside0.mk hy120
  clear hy120
  replace H := Option.bind_eq_some_iff.mp H
  obtain ⟨t123, A40, H⟩ := H
  replace H : (if t123 = true then ((portagelaw0_Num.f t111).bind fun t124 => (if t124 = 0 then (if t114 = 3 then (if t115 = true then ((portagelaw0_Num.f t116).bind fun t125 => (if t125 = 0 then (if t118 = true then (none) else ((portagelaw0_Num.f t119).bind fun t126 => (if t126 = 0 then ((huff_Check.f y107).bind fun t127 => ((portagelaw0_Num.f t127).bind fun t128 => (if t128 = 0 then ((huff_Check.f (([1, 1, 1] : List Int))).bind fun t132 => ((portagelaw0_Num.f t132).bind fun t133 => (if t133 = 301 then ((huff_Check.f (([2, 1] : List Int))).bind fun t137 => ((portagelaw0_Num.f t137).bind fun t138 => (if t138 = 302 then ((huff_Check.f ([] : List Int)).bind fun t139 => ((portagelaw0_Num.f t139).bind fun t140 => (some (t140 == 300)))) else (none)))) else (none)))) else (none)))) else (none)))) else (none))) else (none)) else (none)) else (none))) else (none)) = some r := H
  have A4 := Aside0.mk A40
  clear A40
  by_cases c5 : t123 = true
  · subst c5
    have H1 : ((portagelaw0_Num.f t111).bind fun t124 => (if t124 = 0 then (if t114 = 3 then (if t115 = true then ((portagelaw0_Num.f t116).bind fun t125 => (if t125 = 0 then (if t118 = true then (none) else ((portagelaw0_Num.f t119).bind fun t126 => (if t126 = 0 then ((huff_Check.f y107).bind fun t127 => ((portagelaw0_Num.f t127).bind fun t128 => (if t128 = 0 then ((huff_Check.f (([1, 1, 1] : List Int))).bind fun t132 => ((portagelaw0_Num.f t132).bind fun t133 => (if t133 = 301 then ((huff_Check.f (([2, 1] : List Int))).bind fun t137 => ((portagelaw0_Num.f t137).bind fun t138 => (if t138 = 302 then ((huff_Check.f ([] : List Int)).bind fun t139 => ((portagelaw0_Num.f t139).bind fun t140 => (some (t140 == 300)))) else (none)))) else (none)))) else (none)))) else (none)))) else (none))) else (none)) else (none)) else (none))) = some r := by rw [if_pos rfl] at H; exact H
    clear H
    have H := H1
    clear H1
    replace H := Option.bind_eq_some_iff.mp H
    obtain ⟨t124, A60, H⟩ := H
    replace H : (if t124 = 0 then (if t114 = 3 then (if t115 = true then ((portagelaw0_Num.f t116).bind fun t125 => (if t125 = 0 then (if t118 = true then (none) else ((portagelaw0_Num.f t119).bind fun t126 => (if t126 = 0 then ((huff_Check.f y107).bind fun t127 => ((portagelaw0_Num.f t127).bind fun t128 => (if t128 = 0 then ((huff_Check.f (([1, 1, 1] : List Int))).bind fun t132 => ((portagelaw0_Num.f t132).bind fun t133 => (if t133 = 301 then ((huff_Check.f (([2, 1] : List Int))).bind fun t137 => ((portagelaw0_Num.f t137).bind fun t138 => (if t138 = 302 then ((huff_Check.f ([] : List Int)).bind fun t139 => ((portagelaw0_Num.f t139).bind fun t140 => (some (t140 == 300)))) else (none)))) else (none)))) else (none)))) else (none)))) else (none))) else (none)) else (none)) else (none)) = some r := H
    have A6 := Aside0.mk A60
    clear A60
    by_cases c7 : t124 = 0
    · rw [if_pos c7] at H
      have c7b0 : (t124 == 0) = true := beq_iff_eq.mpr c7
      have c7b1 : (t124 != 0) = false := bne_eq_false_iff_eq.mpr c7
      clear c7
      by_cases c8 : t114 = 3
      · rw [if_pos c8] at H
        have c8b0 : (t114 == 3) = true := beq_iff_eq.mpr c8
        have c8b1 : (t114 != 3) = false := bne_eq_false_iff_eq.mpr c8
        clear c8
        by_cases c9 : t115 = true
        · subst c9
          have H1 : ((portagelaw0_Num.f t116).bind fun t125 => (if t125 = 0 then (if t118 = true then (none) else ((portagelaw0_Num.f t119).bind fun t126 => (if t126 = 0 then ((huff_Check.f y107).bind fun t127 => ((portagelaw0_Num.f t127).bind fun t128 => (if t128 = 0 then ((huff_Check.f (([1, 1, 1] : List Int))).bind fun t132 => ((portagelaw0_Num.f t132).bind fun t133 => (if t133 = 301 then ((huff_Check.f (([2, 1] : List Int))).bind fun t137 => ((portagelaw0_Num.f t137).bind fun t138 => (if t138 = 302 then ((huff_Check.f ([] : List Int)).bind fun t139 => ((portagelaw0_Num.f t139).bind fun t140 => (some (t140 == 300)))) else (none)))) else (none)))) else (none)))) else (none)))) else (none))) = some r := by rw [if_pos rfl] at H; exact H
          clear H
          have H := H1
          clear H1
          replace H := Option.bind_eq_some_iff.mp H
          obtain ⟨t125, A100, H⟩ := H
          replace H : (if t125 = 0 then (if t118 = true then (none) else ((portagelaw0_Num.f t119).bind fun t126 => (if t126 = 0 then ((huff_Check.f y107).bind fun t127 => ((portagelaw0_Num.f t127).bind fun t128 => (if t128 = 0 then ((huff_Check.f (([1, 1, 1] : List Int))).bind fun t132 => ((portagelaw0_Num.f t132).bind fun t133 => (if t133 = 301 then ((huff_Check.f (([2, 1] : List Int))).bind fun t137 => ((portagelaw0_Num.f t137).bind fun t138 => (if t138 = 302 then ((huff_Check.f ([] : List Int)).bind fun t139 => ((portagelaw0_Num.f t139).bind fun t140 => (some (t140 == 300)))) else (none)))) else (none)))) else (none)))) else (none)))) else (none)) = some r := H
          have A10 := Aside0.mk A100
          clear A100
          by_cases c11 : t125 = 0
          · rw [if_pos c11] at H
            have c11b0 : (t125 == 0) = true := beq_iff_eq.mpr c11
            have c11b1 : (t125 != 0) = false := bne_eq_false_iff_eq.mpr c11
            clear c11
            by_cases c12 : t118 = true
            · subst c12
              have H1 : (none) = some r := by rw [if_pos rfl] at H; exact H
              clear H
              have H := H1
              clear H1
              exact absurd H (by simp)
            · replace c12 := Bool.eq_false_iff.mpr c12
              subst c12
              have H1 : ((portagelaw0_Num.f t119).bind fun t126 => (if t126 = 0 then ((huff_Check.f y107).bind fun t127 => ((portagelaw0_Num.f t127).bind fun t128 => (if t128 = 0 then ((huff_Check.f (([1, 1, 1] : List Int))).bind fun t132 => ((portagelaw0_Num.f t132).bind fun t133 => (if t133 = 301 then ((huff_Check.f (([2, 1] : List Int))).bind fun t137 => ((portagelaw0_Num.f t137).bind fun t138 => (if t138 = 302 then ((huff_Check.f ([] : List Int)).bind fun t139 => ((portagelaw0_Num.f t139).bind fun t140 => (some (t140 == 300)))) else (none)))) else (none)))) else (none)))) else (none))) = some r := by rw [if_neg (show ¬ (false = true) by decide)] at H; exact H
              clear H
              have H := H1
              clear H1
              replace H := Option.bind_eq_some_iff.mp H
              obtain ⟨t126, A130, H⟩ := H
              replace H : (if t126 = 0 then ((huff_Check.f y107).bind fun t127 => ((portagelaw0_Num.f t127).bind fun t128 => (if t128 = 0 then ((huff_Check.f (([1, 1, 1] : List Int))).bind fun t132 => ((portagelaw0_Num.f t132).bind fun t133 => (if t133 = 301 then ((huff_Check.f (([2, 1] : List Int))).bind fun t137 => ((portagelaw0_Num.f t137).bind fun t138 => (if t138 = 302 then ((huff_Check.f ([] : List Int)).bind fun t139 => ((portagelaw0_Num.f t139).bind fun t140 => (some (t140 == 300)))) else (none)))) else (none)))) else (none)))) else (none)) = some r := H
              have A13 := Aside0.mk A130
              clear A130
              by_cases c14 : t126 = 0
              · rw [if_pos c14] at H
                have c14b0 : (t126 == 0) = true := beq_iff_eq.mpr c14
                have c14b1 : (t126 != 0) = false := bne_eq_false_iff_eq.mpr c14
                clear c14
                replace H := Option.bind_eq_some_iff.mp H
                obtain ⟨t127, A150, H⟩ := H
                replace H : ((portagelaw0_Num.f t127).bind fun t128 => (if t128 = 0 then ((huff_Check.f (([1, 1, 1] : List Int))).bind fun t132 => ((portagelaw0_Num.f t132).bind fun t133 => (if t133 = 301 then ((huff_Check.f (([2, 1] : List Int))).bind fun t137 => ((portagelaw0_Num.f t137).bind fun t138 => (if t138 = 302 then ((huff_Check.f ([] : List Int)).bind fun t139 => ((portagelaw0_Num.f t139).bind fun t140 => (some (t140 == 300)))) else (none)))) else (none)))) else (none))) = some r := H
                have A15 := Aside0.mk A150
                clear A150
                replace H := Option.bind_eq_some_iff.mp H
                obtain ⟨t128, A160, H⟩ := H
                replace H : (if t128 = 0 then ((huff_Check.f (([1, 1, 1] : List Int))).bind fun t132 => ((portagelaw0_Num.f t132).bind fun t133 => (if t133 = 301 then ((huff_Check.f (([2, 1] : List Int))).bind fun t137 => ((portagelaw0_Num.f t137).bind fun t138 => (if t138 = 302 then ((huff_Check.f ([] : List Int)).bind fun t139 => ((portagelaw0_Num.f t139).bind fun t140 => (some (t140 == 300)))) else (none)))) else (none)))) else (none)) = some r := H
                have A16 := Aside0.mk A160
                clear A160
                by_cases c17 : t128 = 0
                · rw [if_pos c17] at H
                  have c17b0 : (t128 == 0) = true := beq_iff_eq.mpr c17
                  have c17b1 : (t128 != 0) = false := bne_eq_false_iff_eq.mpr c17
                  clear c17
                  obtain ⟨y129, hy129⟩ : ∃ y_ : List Int, y_ = (([1, 1, 1] : List Int)) := ⟨_, rfl⟩
                  replace H : ((huff_Check.f y129).bind fun t132 => ((portagelaw0_Num.f t132).bind fun t133 => (if t133 = 301 then ((huff_Check.f (([2, 1] : List Int))).bind fun t137 => ((portagelaw0_Num.f t137).bind fun t138 => (if t138 = 302 then ((huff_Check.f ([] : List Int)).bind fun t139 => ((portagelaw0_Num.f t139).bind fun t140 => (some (t140 == 300)))) else (none)))) else (none)))) = some r := by first | (rw [hy129]; with_reducible exact H) | (have H2_ := (Option.bind_some _ _).symm.trans H; rw [hy129]; with_reducible exact H2_) | (have H2_ := (Option.bind_some _ _).symm.trans H; with_reducible exact H2_) | with_reducible exact H | (rw [hy129]; exact H) | exact H
                  have Ny129 := Aside0.mk hy129
                  clear hy129
                  replace H := Option.bind_eq_some_iff.mp H
                  obtain ⟨t132, A180, H⟩ := H
                  replace H : ((portagelaw0_Num.f t132).bind fun t133 => (if t133 = 301 then ((huff_Check.f (([2, 1] : List Int))).bind fun t137 => ((portagelaw0_Num.f t137).bind fun t138 => (if t138 = 302 then ((huff_Check.f ([] : List Int)).bind fun t139 => ((portagelaw0_Num.f t139).bind fun t140 => (some (t140 == 300)))) else (none)))) else (none))) = some r := H
                  have A18 := Aside0.mk A180
                  clear A180
                  replace H := Option.bind_eq_some_iff.mp H
                  obtain ⟨t133, A190, H⟩ := H
                  replace H : (if t133 = 301 then ((huff_Check.f (([2, 1] : List Int))).bind fun t137 => ((portagelaw0_Num.f t137).bind fun t138 => (if t138 = 302 then ((huff_Check.f ([] : List Int)).bind fun t139 => ((portagelaw0_Num.f t139).bind fun t140 => (some (t140 == 300)))) else (none)))) else (none)) = some r := H
                  have A19 := Aside0.mk A190
                  clear A190
                  by_cases c20 : t133 = 301
                  · rw [if_pos c20] at H
                    have c20b0 : (t133 == 301) = true := beq_iff_eq.mpr c20
                    have c20b1 : (t133 != 301) = false := bne_eq_false_iff_eq.mpr c20
                    clear c20
                    obtain ⟨y134, hy134⟩ : ∃ y_ : List Int, y_ = (([2, 1] : List Int)) := ⟨_, rfl⟩
                    replace H : ((huff_Check.f y134).bind fun t137 => ((portagelaw0_Num.f t137).bind fun t138 => (if t138 = 302 then ((huff_Check.f ([] : List Int)).bind fun t139 => ((portagelaw0_Num.f t139).bind fun t140 => (some (t140 == 300)))) else (none)))) = some r := by first | (rw [hy134]; with_reducible exact H) | (have H2_ := (Option.bind_some _ _).symm.trans H; rw [hy134]; with_reducible exact H2_) | (have H2_ := (Option.bind_some _ _).symm.trans H; with_reducible exact H2_) | with_reducible exact H | (rw [hy134]; exact H) | exact H
                    have Ny134 := Aside0.mk hy134
                    clear hy134
                    replace H := Option.bind_eq_some_iff.mp H
                    obtain ⟨t137, A210, H⟩ := H
                    replace H : ((portagelaw0_Num.f t137).bind fun t138 => (if t138 = 302 then ((huff_Check.f ([] : List Int)).bind fun t139 => ((portagelaw0_Num.f t139).bind fun t140 => (some (t140 == 300)))) else (none))) = some r := H
                    have A21 := Aside0.mk A210
                    clear A210
                    replace H := Option.bind_eq_some_iff.mp H
                    obtain ⟨t138, A220, H⟩ := H
                    replace H : (if t138 = 302 then ((huff_Check.f ([] : List Int)).bind fun t139 => ((portagelaw0_Num.f t139).bind fun t140 => (some (t140 == 300)))) else (none)) = some r := H
                    have A22 := Aside0.mk A220
                    clear A220
                    by_cases c23 : t138 = 302
                    · rw [if_pos c23] at H
                      have c23b0 : (t138 == 302) = true := beq_iff_eq.mpr c23
                      have c23b1 : (t138 != 302) = false := bne_eq_false_iff_eq.mpr c23
                      clear c23
                      replace H := Option.bind_eq_some_iff.mp H
                      obtain ⟨t139, A240, H⟩ := H
                      replace H : ((portagelaw0_Num.f t139).bind fun t140 => (some (t140 == 300))) = some r := H
                      have A24 := Aside0.mk A240
                      clear A240
                      replace H := Option.bind_eq_some_iff.mp H
                      obtain ⟨t140, A250, H⟩ := H
                      replace H : (some (t140 == 300)) = some r := H
                      have A25 := Aside0.mk A250
                      clear A250
                      obtain rfl := Option.some.inj H
                      go_enter Try.func34, Try.ntmps34
                      go_wp2_with (first | ((with_reducible refine gate_dst (N := 10) rfl ?_); (try (refine gate_guard (by rfl) ?_; dsimp only)); refine Kd.R_lit (Kd.int .i64) _ 3 ?hg (N := 10) ?hd (xs := ([2, 1, 3, 3] : List Int)) (inner := [.int .i64 2, .int .i64 1, .int .i64 3, .int .i64 3]) (ok := fun _ => True) (okp := fun _ => True) ?hr ?hp (fun _ hk => hk) trivial (Below.refl _ _) (Nat.le_refl _) (by simp) ?_; (case hd => rfl); (case hg => rfl); (case hr => first | (go_simp; done) | (go_simp; rfl)); (case hp => exact (Reps.one (show Kd.M (Kd.int .i64) _ _ _ 2 [.int .i64 2] from rfl) (Reps.one (show Kd.M (Kd.int .i64) _ _ _ 1 [.int .i64 1] from rfl) (Reps.one (show Kd.M (Kd.int .i64) _ _ _ 3 [.int .i64 3] from rfl) (Reps.one (show Kd.M (Kd.int .i64) _ _ _ 3 [.int .i64 3] from rfl) (Reps.none _ _)))))); intro v108 w26 ho27 hb hg_ hnew_; clear hg_ hnew_; (first | rw [← Ny107.out] at ho27 | (simp only [Int.reduceToNat] at ho27; rw [← Ny107.out] at ho27)); have n0_ := Aside0.mk (Kd.R_lower ho27 (below_size (by repeat (first | (with_reducible first | exact HB.out | apply below_alloc | apply pw_below_drewN | apply below_drew1) | exact HB.out)))); have n1_ := Aside0.mk (below_step (by repeat (first | (with_reducible first | exact HB.out | apply below_alloc | apply pw_below_drewN | apply below_drew1) | exact HB.out)) hb); clear HB; have HO109 := n0_; have HB := n1_; clear n0_ n1_; clear hb ho27; obtain ⟨Ao28, co28, eo28⟩ := Kd.R_slice HO109.out; subst eo28) | ((with_reducible refine gate_callee (f := 24) rfl ?_); refine goesL_ (some 13) rfl rfl Try.func24 (by kernel_rfl) rfl #[.slice Ao28 y107.length co28] rfl (by (try simp only [List.map_toArray, List.map_cons, List.map_nil]); first | done | rfl | (simp only [List.length_drop, List.length_take]; rfl)) ?_; (with_reducible refine (huff_Codes.calls _ _ y107 t110 t111 _ ?side1 ?side2 A1.out).mono ?_); (case side1 => repeat (first | exact (Kd.R_reads' HO109.out).2.2 | (with_reducible refine Kd.C_alloc ?_ _) | (with_reducible refine Kd.C_drewN ?_ _) | (with_reducible refine Kd.C_drew ?_))); (case side2 => exact (Kd.R_reads' HO109.out).2.1); rintro e w29 ⟨v112, rfl, ho0, hb⟩; refine ⟨_, rfl, ?_⟩; have n0_ := Aside0.mk (Kd.R_below (by (with_reducible repeat (first | apply Kd.R_alloc | apply Kd.R_drewN | apply Kd.R_drew)); exact HO109.out) hb); have n1_ := Aside0.mk (Kd.R_lower ho0 (below_size (by repeat (first | (with_reducible first | exact HB.out | apply below_alloc | apply pw_below_drewN | apply below_drew1) | exact HB.out)))); have n2_ := Aside0.mk (below_step (by repeat (first | (with_reducible first | exact HB.out | apply below_alloc | apply pw_below_drewN | apply below_drew1) | exact HB.out)) hb); clear HO109; clear HB; have HO109 := n0_; have HO113 := n1_; have HB := n2_; clear n0_ n1_ n2_; (try clear hb); (try clear hb2); (try clear hk); (try clear hi); (try clear ho0)) | ((with_reducible refine gate_callee (f := 26) rfl ?_); refine goesL_ (some 18) rfl rfl Try.func26 (by kernel_rfl) rfl #[.slice Ao28 y107.length co28, .int .i64 3, .int .i64 7] rfl (by (try simp only [List.map_toArray, List.map_cons, List.map_nil]); first | done | rfl | (simp only [List.length_drop, List.length_take]; rfl)) ?_; (with_reducible refine (huff_Find.calls _ _ y107 3 7 t114 true t116 _ ?side1 ?side2 A2.out).mono ?_); (case side1 => repeat (first | exact (Kd.R_reads' HO109.out).2.2 | (with_reducible refine Kd.C_alloc ?_ _) | (with_reducible refine Kd.C_drewN ?_ _) | (with_reducible refine Kd.C_drew ?_))); (case side2 => exact (Kd.R_reads' HO109.out).2.1); rintro e w30 ⟨rfl, hb⟩; refine ⟨_, rfl, ?_⟩; have n0_ := Aside0.mk (Kd.R_below (by (with_reducible repeat (first | apply Kd.R_alloc | apply Kd.R_drewN | apply Kd.R_drew)); exact HO109.out) hb); have n1_ := Aside0.mk (Kd.R_below (by (with_reducible repeat (first | apply Kd.R_alloc | apply Kd.R_drewN | apply Kd.R_drew)); exact HO113.out) hb); have n2_ := Aside0.mk (below_step (by repeat (first | (with_reducible first | exact HB.out | apply below_alloc | apply pw_below_drewN | apply below_drew1) | exact HB.out)) hb); clear HO109; clear HO113; clear HB; have HO109 := n0_; have HO113 := n1_; have HB := n2_; clear n0_ n1_ n2_; (try clear hb); (try clear hb2); (try clear hk); (try clear hi)) | ((with_reducible refine gate_callee (f := 26) rfl ?_); refine goesL_ (some 24) rfl rfl Try.func26 (by kernel_rfl) rfl #[.slice Ao28 y107.length co28, .int .i64 2, .int .i64 3] rfl (by (try simp only [List.map_toArray, List.map_cons, List.map_nil]); first | done | rfl | (simp only [List.length_drop, List.length_take]; rfl)) ?_; (with_reducible refine (huff_Find.calls _ _ y107 2 3 t117 false t119 _ ?side1 ?side2 A3.out).mono ?_); (case side1 => repeat (first | exact (Kd.R_reads' HO109.out).2.2 | (with_reducible refine Kd.C_alloc ?_ _) | (with_reducible refine Kd.C_drewN ?_ _) | (with_reducible refine Kd.C_drew ?_))); (case side2 => exact (Kd.R_reads' HO109.out).2.1); rintro e w31 ⟨rfl, hb⟩; refine ⟨_, rfl, ?_⟩; have n0_ := Aside0.mk (Kd.R_below (by (with_reducible repeat (first | apply Kd.R_alloc | apply Kd.R_drewN | apply Kd.R_drew)); exact HO109.out) hb); have n1_ := Aside0.mk (Kd.R_below (by (with_reducible repeat (first | apply Kd.R_alloc | apply Kd.R_drewN | apply Kd.R_drew)); exact HO113.out) hb); have n2_ := Aside0.mk (below_step (by repeat (first | (with_reducible first | exact HB.out | apply below_alloc | apply pw_below_drewN | apply below_drew1) | exact HB.out)) hb); clear HO109; clear HO113; clear HB; have HO109 := n0_; have HO113 := n1_; have HB := n2_; clear n0_ n1_ n2_; (try clear hb); (try clear hb2); (try clear hk); (try clear hi)) | ((with_reducible refine gate_dst (N := 33) rfl ?_); (try (refine gate_guard (by rfl) ?_; dsimp only)); refine Kd.R_lit k43 _ 43 ?hg (N := 33) ?hd (xs := ([(⟨2, 2⟩ : S43), (⟨1, 0⟩ : S43), (⟨3, 6⟩ : S43), (⟨3, 7⟩ : S43)] : List (S43))) (inner := [.int .i64 2, .int .i64 2, .int .i64 1, .int .i64 0, .int .i64 3, .int .i64 6, .int .i64 3, .int .i64 7]) (ok := fun _ => True) (okp := fun _ => True) ?hr ?hp (fun _ hk => hk) trivial (Below.refl _ _) (Nat.le_refl _) (by simp) ?_; (case hd => rfl); (case hg => rfl); (case hr => first | (go_simp; done) | (go_simp; rfl)); (case hp => exact (Reps.c2 (show Kd.M k43 _ _ _ (⟨2, 2⟩ : S43) [.int .i64 2, .int .i64 2] from (k43_mkM _ _ _ (⟨2, 2⟩ : S43) )) (Reps.c2 (show Kd.M k43 _ _ _ (⟨1, 0⟩ : S43) [.int .i64 1, .int .i64 0] from (k43_mkM _ _ _ (⟨1, 0⟩ : S43) )) (Reps.c2 (show Kd.M k43 _ _ _ (⟨3, 6⟩ : S43) [.int .i64 3, .int .i64 6] from (k43_mkM _ _ _ (⟨3, 6⟩ : S43) )) (Reps.c2 (show Kd.M k43 _ _ _ (⟨3, 7⟩ : S43) [.int .i64 3, .int .i64 7] from (k43_mkM _ _ _ (⟨3, 7⟩ : S43) )) (Reps.none _ _)))))); intro v121 w32 ho33 hb hg_ hnew_; clear hg_ hnew_; (first | rw [← Ny120.out] at ho33 | (simp only [Int.reduceToNat] at ho33; rw [← Ny120.out] at ho33)); have n0_ := Aside0.mk (Kd.R_below (by (with_reducible repeat (first | apply Kd.R_alloc | apply Kd.R_drewN | apply Kd.R_drew)); exact HO109.out) hb); have n1_ := Aside0.mk (Kd.R_elder' (by (with_reducible repeat (first | apply Kd.R_alloc | apply Kd.R_drewN | apply Kd.R_drew)); exact HO113.out) (Kd.R_base ho33) hb); have n2_ := Aside0.mk (Kd.R_lower (Kd.R_new' ho33 (Kd.R_lt (by (with_reducible repeat (first | apply Kd.R_alloc | apply Kd.R_drewN | apply Kd.R_drew)); exact HO113.out))) (below_size (by repeat (first | (with_reducible first | exact HB.out | apply below_alloc | apply pw_below_drewN | apply below_drew1) | exact HB.out)))); have n3_ := Aside0.mk (below_step (by repeat (first | (with_reducible first | exact HB.out | apply below_alloc | apply pw_below_drewN | apply below_drew1) | exact HB.out)) hb); clear HO109; clear HO113; clear HB; have HO109 := n0_; have HO113 := n1_; have HO122 := n2_; have HB := n3_; clear n0_ n1_ n2_ n3_; clear hb ho33; obtain ⟨Ao34, co34, eo34⟩ := Kd.R_slice HO113.out; subst eo34; obtain ⟨Ao35, co35, eo35⟩ := Kd.R_slice HO122.out; subst eo35) | ((with_reducible refine gate_callee (f := 28) rfl ?_); refine goesL_ (some 34) rfl rfl Try.func28 (by kernel_rfl) rfl #[.slice Ao34 t110.length co34, .slice Ao35 y120.length co35] rfl (by (try simp only [List.map_toArray, List.map_cons, List.map_nil]); first | done | rfl | (simp only [List.length_drop, List.length_take]; rfl)) ?_; (with_reducible refine (portagelaw0_SameCodes.calls k _ _ t110 _ _ y120 true _ ?side1 ?side2 ?side3 ?side4 A4.out).mono ?_); (case side1 => repeat (first | exact (Kd.R_reads' HO113.out).2.2 | (with_reducible refine Kd.C_alloc ?_ _) | (with_reducible refine Kd.C_drewN ?_ _) | (with_reducible refine Kd.C_drew ?_))); (case side2 => exact (Kd.R_reads' HO113.out).2.1); (case side3 => repeat (first | exact (Kd.R_reads' HO122.out).2.2 | (with_reducible refine Kd.C_alloc ?_ _) | (with_reducible refine Kd.C_drewN ?_ _) | (with_reducible refine Kd.C_drew ?_))); (case side4 => exact (Kd.R_reads' HO122.out).2.1); rintro e w' ⟨rfl, ⟨nd, rfl⟩⟩; refine ⟨_, rfl, ?_⟩) | (go_at_call 29; (with_reducible refine (portagelaw0_Num.calls t111 t124 _ A6.out).mono ?_); rintro e w' ⟨rfl, ⟨nd, rfl⟩⟩) | (go_at_call 29; (with_reducible refine (portagelaw0_Num.calls t116 t125 _ A10.out).mono ?_); rintro e w' ⟨rfl, ⟨nd, rfl⟩⟩) | (go_at_call 29; (with_reducible refine (portagelaw0_Num.calls t119 t126 _ A13.out).mono ?_); rintro e w' ⟨rfl, ⟨nd, rfl⟩⟩) | (go_at_call 30; (with_reducible refine (huff_Check.calls _ _ y107 t127 _ ?side1 ?side2 A15.out).mono ?_); (case side1 => repeat (first | exact (Kd.R_reads' HO109.out).2.2 | (with_reducible refine Kd.C_alloc ?_ _) | (with_reducible refine Kd.C_drewN ?_ _) | (with_reducible refine Kd.C_drew ?_))); (case side2 => exact (Kd.R_reads' HO109.out).2.1); rintro e w36 ⟨rfl, hb⟩; have n0_ := Aside0.mk (Kd.R_below (by (with_reducible repeat (first | apply Kd.R_alloc | apply Kd.R_drewN | apply Kd.R_drew)); exact HO109.out) hb); have n1_ := Aside0.mk (Kd.R_below (by (with_reducible repeat (first | apply Kd.R_alloc | apply Kd.R_drewN | apply Kd.R_drew)); exact HO113.out) hb); have n2_ := Aside0.mk (Kd.R_below (by (with_reducible repeat (first | apply Kd.R_alloc | apply Kd.R_drewN | apply Kd.R_drew)); exact HO122.out) hb); have n3_ := Aside0.mk (below_step (by repeat (first | (with_reducible first | exact HB.out | apply below_alloc | apply pw_below_drewN | apply below_drew1) | exact HB.out)) hb); clear HO109; clear HO113; clear HO122; clear HB; have HO109 := n0_; have HO113 := n1_; have HO122 := n2_; have HB := n3_; clear n0_ n1_ n2_ n3_; (try clear hb); (try clear hb2); (try clear hk); (try clear hi)) | (go_at_call 29; (with_reducible refine (portagelaw0_Num.calls t127 t128 _ A16.out).mono ?_); rintro e w' ⟨rfl, ⟨nd, rfl⟩⟩) | ((with_reducible refine gate_dst (N := 68) rfl ?_); (try (refine gate_guard (by rfl) ?_; dsimp only)); refine Kd.R_lit (Kd.int .i64) _ 3 ?hg (N := 68) ?hd (xs := ([1, 1, 1] : List Int)) (inner := [.int .i64 1, .int .i64 1, .int .i64 1]) (ok := fun _ => True) (okp := fun _ => True) ?hr ?hp (fun _ hk => hk) trivial (Below.refl _ _) (Nat.le_refl _) (by simp) ?_; (case hd => rfl); (case hg => rfl); (case hr => first | (go_simp; done) | (go_simp; rfl)); (case hp => exact (Reps.one (show Kd.M (Kd.int .i64) _ _ _ 1 [.int .i64 1] from rfl) (Reps.one (show Kd.M (Kd.int .i64) _ _ _ 1 [.int .i64 1] from rfl) (Reps.one (show Kd.M (Kd.int .i64) _ _ _ 1 [.int .i64 1] from rfl) (Reps.none _ _))))); intro v130 w37 ho38 hb hg_ hnew_; clear hg_ hnew_; (first | rw [← Ny129.out] at ho38 | (simp only [Int.reduceToNat] at ho38; rw [← Ny129.out] at ho38)); have n0_ := Aside0.mk (Kd.R_elder' (by (with_reducible repeat (first | apply Kd.R_alloc | apply Kd.R_drewN | apply Kd.R_drew)); exact HO109.out) (Kd.R_base ho38) hb); have n1_ := Aside0.mk (Kd.R_below (by (with_reducible repeat (first | apply Kd.R_alloc | apply Kd.R_drewN | apply Kd.R_drew)); exact HO113.out) hb); have n2_ := Aside0.mk (Kd.R_below (by (with_reducible repeat (first | apply Kd.R_alloc | apply Kd.R_drewN | apply Kd.R_drew)); exact HO122.out) hb); have n3_ := Aside0.mk (Kd.R_lower (Kd.R_new' ho38 (Kd.R_lt (by (with_reducible repeat (first | apply Kd.R_alloc | apply Kd.R_drewN | apply Kd.R_drew)); exact HO109.out))) (below_size (by repeat (first | (with_reducible first | exact HB.out | apply below_alloc | apply pw_below_drewN | apply below_drew1) | exact HB.out)))); have n4_ := Aside0.mk (below_step (by repeat (first | (with_reducible first | exact HB.out | apply below_alloc | apply pw_below_drewN | apply below_drew1) | exact HB.out)) hb); clear HO109; clear HO113; clear HO122; clear HB; have HO109 := n0_; have HO113 := n1_; have HO122 := n2_; have HO131 := n3_; have HB := n4_; clear n0_ n1_ n2_ n3_ n4_; clear hb ho38; obtain ⟨Ao39, co39, eo39⟩ := Kd.R_slice HO131.out; subst eo39) | (go_at_call 30; (with_reducible refine (huff_Check.calls _ _ y129 t132 _ ?side1 ?side2 A18.out).mono ?_); (case side1 => repeat (first | exact (Kd.R_reads' HO131.out).2.2 | (with_reducible refine Kd.C_alloc ?_ _) | (with_reducible refine Kd.C_drewN ?_ _) | (with_reducible refine Kd.C_drew ?_))); (case side2 => exact (Kd.R_reads' HO131.out).2.1); rintro e w40 ⟨rfl, hb⟩; have n0_ := Aside0.mk (Kd.R_below (by (with_reducible repeat (first | apply Kd.R_alloc | apply Kd.R_drewN | apply Kd.R_drew)); exact HO109.out) hb); have n1_ := Aside0.mk (Kd.R_below (by (with_reducible repeat (first | apply Kd.R_alloc | apply Kd.R_drewN | apply Kd.R_drew)); exact HO113.out) hb); have n2_ := Aside0.mk (Kd.R_below (by (with_reducible repeat (first | apply Kd.R_alloc | apply Kd.R_drewN | apply Kd.R_drew)); exact HO122.out) hb); have n3_ := Aside0.mk (Kd.R_below (by (with_reducible repeat (first | apply Kd.R_alloc | apply Kd.R_drewN | apply Kd.R_drew)); exact HO131.out) hb); have n4_ := Aside0.mk (below_step (by repeat (first | (with_reducible first | exact HB.out | apply below_alloc | apply pw_below_drewN | apply below_drew1) | exact HB.out)) hb); clear HO109; clear HO113; clear HO122; clear HO131; clear HB; have HO109 := n0_; have HO113 := n1_; have HO122 := n2_; have HO131 := n3_; have HB := n4_; clear n0_ n1_ n2_ n3_ n4_; (try clear hb); (try clear hb2); (try clear hk); (try clear hi)) | (go_at_call 29; (with_reducible refine (portagelaw0_Num.calls t132 t133 _ A19.out).mono ?_); rintro e w' ⟨rfl, ⟨nd, rfl⟩⟩) | ((with_reducible refine gate_dst (N := 74) rfl ?_); (try (refine gate_guard (by rfl) ?_; dsimp only)); refine Kd.R_lit (Kd.int .i64) _ 3 ?hg (N := 74) ?hd (xs := ([2, 1] : List Int)) (inner := [.int .i64 2, .int .i64 1]) (ok := fun _ => True) (okp := fun _ => True) ?hr ?hp (fun _ hk => hk) trivial (Below.refl _ _) (Nat.le_refl _) (by simp) ?_; (case hd => rfl); (case hg => rfl); (case hr => first | (go_simp; done) | (go_simp; rfl)); (case hp => exact (Reps.one (show Kd.M (Kd.int .i64) _ _ _ 2 [.int .i64 2] from rfl) (Reps.one (show Kd.M (Kd.int .i64) _ _ _ 1 [.int .i64 1] from rfl) (Reps.none _ _)))); intro v135 w41 ho42 hb hg_ hnew_; clear hg_ hnew_; (first | rw [← Ny134.out] at ho42 | (simp only [Int.reduceToNat] at ho42; rw [← Ny134.out] at ho42)); have n0_ := Aside0.mk (Kd.R_elder' (by (with_reducible repeat (first | apply Kd.R_alloc | apply Kd.R_drewN | apply Kd.R_drew)); exact HO109.out) (Kd.R_base ho42) hb); have n1_ := Aside0.mk (Kd.R_below (by (with_reducible repeat (first | apply Kd.R_alloc | apply Kd.R_drewN | apply Kd.R_drew)); exact HO113.out) hb); have n2_ := Aside0.mk (Kd.R_below (by (with_reducible repeat (first | apply Kd.R_alloc | apply Kd.R_drewN | apply Kd.R_drew)); exact HO122.out) hb); have n3_ := Aside0.mk (Kd.R_elder' (by (with_reducible repeat (first | apply Kd.R_alloc | apply Kd.R_drewN | apply Kd.R_drew)); exact HO131.out) (Kd.R_base ho42) hb); have n4_ := Aside0.mk (Kd.R_lower (Kd.R_new' (Kd.R_new' ho42 (Kd.R_lt (by (with_reducible repeat (first | apply Kd.R_alloc | apply Kd.R_drewN | apply Kd.R_drew)); exact HO109.out))) (Kd.R_lt (by (with_reducible repeat (first | apply Kd.R_alloc | apply Kd.R_drewN | apply Kd.R_drew)); exact HO131.out))) (below_size (by repeat (first | (with_reducible first | exact HB.out | apply below_alloc | apply pw_below_drewN | apply below_drew1) | exact HB.out)))); have n5_ := Aside0.mk (below_step (by repeat (first | (with_reducible first | exact HB.out | apply below_alloc | apply pw_below_drewN | apply below_drew1) | exact HB.out)) hb); clear HO109; clear HO113; clear HO122; clear HO131; clear HB; have HO109 := n0_; have HO113 := n1_; have HO122 := n2_; have HO131 := n3_; have HO136 := n4_; have HB := n5_; clear n0_ n1_ n2_ n3_ n4_ n5_; clear hb ho42; obtain ⟨Ao43, co43, eo43⟩ := Kd.R_slice HO136.out; subst eo43) | (go_at_call 30; (with_reducible refine (huff_Check.calls _ _ y134 t137 _ ?side1 ?side2 A21.out).mono ?_); (case side1 => repeat (first | exact (Kd.R_reads' HO136.out).2.2 | (with_reducible refine Kd.C_alloc ?_ _) | (with_reducible refine Kd.C_drewN ?_ _) | (with_reducible refine Kd.C_drew ?_))); (case side2 => exact (Kd.R_reads' HO136.out).2.1); rintro e w44 ⟨rfl, hb⟩; have n0_ := Aside0.mk (Kd.R_below (by (with_reducible repeat (first | apply Kd.R_alloc | apply Kd.R_drewN | apply Kd.R_drew)); exact HO109.out) hb); have n1_ := Aside0.mk (Kd.R_below (by (with_reducible repeat (first | apply Kd.R_alloc | apply Kd.R_drewN | apply Kd.R_drew)); exact HO113.out) hb); have n2_ := Aside0.mk (Kd.R_below (by (with_reducible repeat (first | apply Kd.R_alloc | apply Kd.R_drewN | apply Kd.R_drew)); exact HO122.out) hb); have n3_ := Aside0.mk (Kd.R_below (by (with_reducible repeat (first | apply Kd.R_alloc | apply Kd.R_drewN | apply Kd.R_drew)); exact HO131.out) hb); have n4_ := Aside0.mk (Kd.R_below (by (with_reducible repeat (first | apply Kd.R_alloc | apply Kd.R_drewN | apply Kd.R_drew)); exact HO136.out) hb); have n5_ := Aside0.mk (below_step (by repeat (first | (with_reducible first | exact HB.out | apply below_alloc | apply pw_below_drewN | apply below_drew1) | exact HB.out)) hb); clear HO109; clear HO113; clear HO122; clear HO131; clear HO136; clear HB; have HO109 := n0_; have HO113 := n1_; have HO122 := n2_; have HO131 := n3_; have HO136 := n4_; have HB := n5_; clear n0_ n1_ n2_ n3_ n4_ n5_; (try clear hb); (try clear hb2); (try clear hk); (try clear hi)) | (go_at_call 29; (with_reducible refine (portagelaw0_Num.calls t137 t138 _ A22.out).mono ?_); rintro e w' ⟨rfl, ⟨nd, rfl⟩⟩) | (go_at_call 30; (refine (huff_Check.calls _ _ ([] : List Int) t139 _ ?side1 ?side2 A24.out).mono ?_); (case side1 => exact Kd.C_nil _ _); (case side2 => exact Nat.le_refl _); rintro e w45 ⟨rfl, hb⟩; have n0_ := Aside0.mk (Kd.R_below (by (with_reducible repeat (first | apply Kd.R_alloc | apply Kd.R_drewN | apply Kd.R_drew)); exact HO109.out) hb); have n1_ := Aside0.mk (Kd.R_below (by (with_reducible repeat (first | apply Kd.R_alloc | apply Kd.R_drewN | apply Kd.R_drew)); exact HO113.out) hb); have n2_ := Aside0.mk (Kd.R_below (by (with_reducible repeat (first | apply Kd.R_alloc | apply Kd.R_drewN | apply Kd.R_drew)); exact HO122.out) hb); have n3_ := Aside0.mk (Kd.R_below (by (with_reducible repeat (first | apply Kd.R_alloc | apply Kd.R_drewN | apply Kd.R_drew)); exact HO131.out) hb); have n4_ := Aside0.mk (Kd.R_below (by (with_reducible repeat (first | apply Kd.R_alloc | apply Kd.R_drewN | apply Kd.R_drew)); exact HO136.out) hb); have n5_ := Aside0.mk (below_step (by repeat (first | (with_reducible first | exact HB.out | apply below_alloc | apply pw_below_drewN | apply below_drew1) | exact HB.out)) hb); clear HO109; clear HO113; clear HO122; clear HO131; clear HO136; clear HB; have HO109 := n0_; have HO113 := n1_; have HO122 := n2_; have HO131 := n3_; have HO136 := n4_; have HB := n5_; clear n0_ n1_ n2_ n3_ n4_ n5_; (try clear hb); (try clear hb2); (try clear hk); (try clear hi)) | (go_at_call 29; (with_reducible refine (portagelaw0_Num.calls t139 t140 _ A25.out).mono ?_); rintro e w' ⟨rfl, ⟨nd, rfl⟩⟩))
                      go_ret
                      exact ⟨by first | rfl | (simp [errW_none, errW_some] <;> rfl) | (simp [*, errW_none, errW_some] <;> rfl), by repeat (first | (with_reducible first | exact HB.out | apply below_alloc | apply pw_below_drewN | apply below_drew1) | exact HB.out)⟩
                    · rw [if_neg c23] at H
                      exact absurd H (by simp)
                  · rw [if_neg c20] at H
                    exact absurd H (by simp)
                · rw [if_neg c17] at H
                  exact absurd H (by simp)
              · rw [if_neg c14] at H
                exact absurd H (by simp)
          · rw [if_neg c11] at H
            exact absurd H (by simp)
        · replace c9 := Bool.eq_false_iff.mpr c9
          subst c9
          have H1 : (none) = some r := by rw [if_neg (show ¬ (false = true) by decide)] at H; exact H
          clear H
          have H := H1
          clear H1
          exact absurd H (by simp)
      · rw [if_neg c8] at H
        exact absurd H (by simp)
    · rw [if_neg c7] at H
      exact absurd H (by simp)
  · replace c5 := Bool.eq_false_iff.mpr c5
    subst c5
    have H1 : (none) = some r := by rw [if_neg (show ¬ (false = true) by decide)] at H; exact H
    clear H
    have H := H1
    clear H1
    exact absurd H (by simp)

end Go.Proofs.Ytbifignggnfodaa.HF
