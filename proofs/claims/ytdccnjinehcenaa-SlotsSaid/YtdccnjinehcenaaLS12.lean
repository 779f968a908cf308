-- Written by a program of this session out of the translation (a changed copy of the kit's printer).
import Derived.Test.YtdccnjinehcenaaLS0
import Derived.Test.YtdccnjinehcenaaLS1
import Derived.Test.YtdccnjinehcenaaLS2
import Derived.Test.YtdccnjinehcenaaLS3
import Derived.Test.YtdccnjinehcenaaLS4
import Derived.Test.YtdccnjinehcenaaLS6
import Derived.Test.YtdccnjinehcenaaLS10
namespace Go.Proofs.Ytdccnjinehcenaa.LS
open Go.RowKit Go.Proofs.YtdccnjinehcenaaW.PrintWords Go.Proofs.YtdccnjinehcenaaW.PrintLast Go.Proofs.YtdccnjinehcenaaW.PrintMore
attribute [local go_sem] max2_int min2_int max_two min_two max_three min_three max_four min_four   -- for this text's walks alone
set_option linter.unusedVariables false
set_option linter.unusedSimpArgs false

attribute [local go_sem high] eqA42
/-! ### portagelaw0_SameWrites: function 29 -/
def portagelaw0_SameWrites.l0 : Nat → List (S42) → List (S42) → Int → Option (Bool)
  | 0, _, _, _ => none
  | k + 1, x0, x1, x5 => if x5 < (x0.length : Int) then (if 0 ≤ x5 then (if x5 < (x1.length : Int) then (if (!(((rd_T42 x0 x5).f0) == ((rd_T42 x1 x5).f0)) || (!((((rd_T42 x0 x5).f1).toList) == (((rd_T42 x1 x5).f1).toList)))) = true then (some false) else (portagelaw0_SameWrites.l0 k x0 x1 (wrap64 (x5 + 1)))) else (none)) else (none)) else (some true)
def portagelaw0_SameWrites.f (k : Nat) (l0 : List (S42)) (l1 : List (S42)) : Option (Bool) := if (l0.length : Int) = (l1.length : Int) then (portagelaw0_SameWrites.l0 k l0 l1 0) else (some false)
theorem portagelaw0_SameWrites.mono_l : ∀ k, (∀ y0 y1 y2, LeO (portagelaw0_SameWrites.l0 k y0 y1 y2) (portagelaw0_SameWrites.l0 (k + 1) y0 y1 y2))
  | 0 => fun _ _ _ r h => by simp [portagelaw0_SameWrites.l0] at h
  | k + 1 => by
    have ih0 := portagelaw0_SameWrites.mono_l k
    · intro y0 y1 y2
      unfold portagelaw0_SameWrites.l0
      repeat' first
      | (with_reducible exact ih0 _ _ _)
      | (with_reducible exact LeO.refl _)
      | (with_reducible exact LeO.none _)
      | (with_reducible refine LeO.ite ?_ ?_)
      | (with_reducible refine LeO.bind ?_ (fun _ => ?_))
      | exact ih0 _ _ _
      | exact LeO.none _
      | refine LeO.ite ?_ ?_
      | refine LeO.bind ?_ (fun _ => ?_)
theorem portagelaw0_SameWrites.mono : ∀ a0 a1 k, LeO (portagelaw0_SameWrites.f k a0 a1) (portagelaw0_SameWrites.f (k + 1) a0 a1) := by
  intro a0 a1 k
  have ih0 := portagelaw0_SameWrites.mono_l k
  unfold portagelaw0_SameWrites.f
  repeat' first
      | (with_reducible exact ih0 _ _ _)
      | (with_reducible exact LeO.refl _)
      | (with_reducible exact LeO.none _)
      | (with_reducible refine LeO.ite ?_ ?_)
      | (with_reducible refine LeO.bind ?_ (fun _ => ?_))
      | exact ih0 _ _ _
      | exact LeO.none _
      | refine LeO.ite ?_ ?_
      | refine LeO.bind ?_ (fun _ => ?_)
set_option maxHeartbeats 8000000 in
set_option maxRecDepth 100000 in
theorem portagelaw0_SameWrites.calls (k : Nat) (A0 : Option Addr) (c0 : Nat) (l0 : List (S42)) (A1 : Option Addr) (c1 : Nat) (l1 : List (S42)) (r : Bool) (w : World) (hr0 : Kd.C k42 w A0 l0.length l0) (hc0 : l0.length ≤ c0) (hr1 : Kd.C k42 w A1 l1.length l1) (hc1 : l1.length ≤ c1) (h : portagelaw0_SameWrites.f k l0 l1 = some r) :
    Calls Try.prog 29 #[.slice A0 l0.length c0, .slice A1 l1.length c1] w fun e w' => e = .returned (.bool r) ∧ Drawn0 w w' := by
  have hu42 := Try.underlying42
  have HR0 := Aside0.mk hr0
  have HC0 := Aside0.mk hc0
  clear hr0 hc0
  have HR1 := Aside0.mk hr1
  have HC1 := Aside0.mk hc1
  clear hr1 hc1
  have H : (if (l0.length : Int) = (l1.length : Int) then (portagelaw0_SameWrites.l0 k l0 l1 0) else (some false)) = some r := h
  clear h
  by_cases c3 : (l0.length : Int) = (l1.length : Int)
  · rw [if_pos c3] at H
    have c3b0 : ((l0.length : Int) == (l1.length : Int)) = true := beq_iff_eq.mpr c3
    have c3b1 : ((l0.length : Int) != (l1.length : Int)) = false := bne_eq_false_iff_eq.mpr c3
    have c3b2 : (l0.length == l1.length) = true := by first | simpa using c3 | (simp at c3 ⊢; omega)
    clear c3
    have H' := Aside0.mk H
    clear H
    go_enter Try.func29, Try.ntmps29
    go_wp2
    repeat (go_quiet (fail); try go_wp2)
    go_loopg [5] k (fun kq v5 w' => ∃ (x5_1 : Int), v5 = .int .i64 x5_1 ∧ Aside0 (portagelaw0_SameWrites.l0 kq l0 l1 x5_1 = some r) ∧ Aside0 (kq ≤ k) ∧ Drawn0 w w')
    case atStart => exact ⟨(0), (by first | rfl | (simp; done) | (simp [*]; done)), H', ⟨Nat.le_refl _⟩, by repeat (first | exact Drawn0.refl _ | apply Drawn0.step)⟩
    case round =>
      clear H'
      try clear c1
      try clear c2
      try clear p2
      try clear c3
      try clear c3b0
      try clear c3b1
      try clear c3b2
      obtain ⟨x5_1, rfl, HA, HK1, ⟨m1, rfl⟩⟩ := hrel
      cases gk with
      | zero => exact absurd HA.out (by simp [portagelaw0_SameWrites.l0])
      | succ k1 =>
        have H := HA.out
        clear HA
        simp only [portagelaw0_SameWrites.l0] at H
        by_cases c4 : x5_1 < (l0.length : Int)
        · rw [if_pos c4] at H
          have c4b0 : decide (x5_1 < (l0.length : Int)) = true := decide_eq_true c4
          clear c4
          by_cases c5 : 0 ≤ x5_1
          · rw [if_pos c5] at H
            have c5b0 : decide (0 ≤ x5_1) = true := decide_eq_true c5
            clear c5
            by_cases c6 : x5_1 < (l1.length : Int)
            · rw [if_pos c6] at H
              have c6b0 : decide (x5_1 < (l1.length : Int)) = true := decide_eq_true c6
              clear c6
              by_cases c7 : (!(((rd_T42 l0 x5_1).f0) == ((rd_T42 l1 x5_1).f0)) || (!((((rd_T42 l0 x5_1).f1).toList) == (((rd_T42 l1 x5_1).f1).toList)))) = true
              · rw [if_pos c7] at H
                have c7b0 : (!(((rd_T42 l0 x5_1).f0) == ((rd_T42 l1 x5_1).f0)) || (!((((rd_T42 l0 x5_1).f1).toList) == (((rd_T42 l1 x5_1).f1).toList)))) = true := c7
                clear c7
                obtain rfl := Option.some.inj H
                have p212 : 0 ≤ (x5_1 : Int) := of_decide_eq_true (by first | (with_reducible assumption) | assumption)
                have q212 : x5_1 < (l0.length : Int) := of_decide_eq_true (by first | (with_reducible assumption) | assumption)
                obtain ⟨ad212, e212, hx212_0, hx212_1⟩ := at_T42 HR0.out x5_1 p212 q212
                cases e212
                replace p212 := eq_true p212
                replace q212 := eq_true q212
                have p213 : 0 ≤ (x5_1 : Int) := of_decide_eq_true (by first | (with_reducible assumption) | assumption)
                have q213 : x5_1 < (l1.length : Int) := of_decide_eq_true (by first | (with_reducible assumption) | assumption)
                obtain ⟨ad213, e213, hx213_0, hx213_1⟩ := at_T42 HR1.out x5_1 p213 q213
                cases e213
                replace p213 := eq_true p213
                replace q213 := eq_true q213
                go_wp2
                repeat (go_quiet (fail); try go_wp2)
                go_ret
                exact ⟨by first | rfl | (simp; done) | (simp [*]; done), by repeat (first | exact Drawn0.refl _ | apply Drawn0.step)⟩
              · rw [if_neg c7] at H
                have c7b0 : (!(((rd_T42 l0 x5_1).f0) == ((rd_T42 l1 x5_1).f0)) || (!((((rd_T42 l0 x5_1).f1).toList) == (((rd_T42 l1 x5_1).f1).toList)))) = false := by simpa using c7
                clear c7
                have H' := Aside0.mk H
                clear H
                have p212 : 0 ≤ (x5_1 : Int) := of_decide_eq_true (by first | (with_reducible assumption) | assumption)
                have q212 : x5_1 < (l0.length : Int) := of_decide_eq_true (by first | (with_reducible assumption) | assumption)
                obtain ⟨ad212, e212, hx212_0, hx212_1⟩ := at_T42 HR0.out x5_1 p212 q212
                cases e212
                replace p212 := eq_true p212
                replace q212 := eq_true q212
                have p213 : 0 ≤ (x5_1 : Int) := of_decide_eq_true (by first | (with_reducible assumption) | assumption)
                have q213 : x5_1 < (l1.length : Int) := of_decide_eq_true (by first | (with_reducible assumption) | assumption)
                obtain ⟨ad213, e213, hx213_0, hx213_1⟩ := at_T42 HR1.out x5_1 p213 q213
                cases e213
                replace p213 := eq_true p213
                replace q213 := eq_true q213
                go_wp2
                repeat (go_quiet (fail); try go_wp2)
                go_roundg k1
                case measure => have := HK1.out; omega
                case rel => exact ⟨(wrap64 (x5_1 + 1)), (by first | rfl | (simp; done) | (simp [*]; done)), H', ⟨by have := HK1.out; omega⟩, by repeat (first | exact Drawn0.refl _ | apply Drawn0.step)⟩
            · rw [if_neg c6] at H
              exact absurd H (by simp)
          · rw [if_neg c5] at H
            exact absurd H (by simp)
        · rw [if_neg c4] at H
          have c4b0 : decide (x5_1 < (l0.length : Int)) = false := decide_eq_false c4
          clear c4
          obtain rfl := Option.some.inj H
          go_wp2
          repeat (go_quiet (fail); try go_wp2)
          go_ret
          exact ⟨by first | rfl | (simp; done) | (simp [*]; done), by repeat (first | exact Drawn0.refl _ | apply Drawn0.step)⟩
  · rw [if_neg c3] at H
    have c3b0 : ((l0.length : Int) == (l1.length : Int)) = false := beq_eq_false_iff_ne.mpr c3
    have c3b1 : ((l0.length : Int) != (l1.length : Int)) = true := bne_iff_ne.mpr c3
    have c3b2 : (l0.length == l1.length) = false := by first | simpa using c3 | (simp at c3 ⊢; omega)
    obtain rfl := Option.some.inj H
    go_enter Try.func29, Try.ntmps29
    go_wp2
    repeat (go_quiet (fail); try go_wp2)
    go_ret
    exact ⟨by first | rfl | (simp; done) | (simp [*]; done), by repeat (first | exact Drawn0.refl _ | apply Drawn0.step)⟩

/-! ### portagelaw0_SpoilWrites: function 30 -/
def portagelaw0_SpoilWrites.l0 : Nat → List (S42) → Int → Option ((List (S42)))
  | 0, _, _ => none
  | k + 1, x0, x2 => if x2 < (x0.length : Int) then (if 0 ≤ x2 then (portagelaw0_SpoilWrites.l0 k (x0.set (x2 : Int).toNat (⟨Go.bits .xor .i64 ((rd_T42 x0 x2).f0) 90, (rd_T42 x0 x2).f1⟩ : S42)) (wrap64 (x2 + 1))) else (none)) else (some x0)
def portagelaw0_SpoilWrites.f (k : Nat) (l0 : List (S42)) : Option ((List (S42))) := portagelaw0_SpoilWrites.l0 k l0 0
theorem portagelaw0_SpoilWrites.mono_l : ∀ k, (∀ y0 y1, LeO (portagelaw0_SpoilWrites.l0 k y0 y1) (portagelaw0_SpoilWrites.l0 (k + 1) y0 y1))
  | 0 => fun _ _ r h => by simp [portagelaw0_SpoilWrites.l0] at h
  | k + 1 => by
    have ih0 := portagelaw0_SpoilWrites.mono_l k
    · intro y0 y1
      unfold portagelaw0_SpoilWrites.l0
      repeat' first
      | (with_reducible exact ih0 _ _)
      | (with_reducible exact LeO.refl _)
      | (with_reducible exact LeO.none _)
      | (with_reducible refine LeO.ite ?_ ?_)
      | (with_reducible refine LeO.bind ?_ (fun _ => ?_))
      | exact ih0 _ _
      | exact LeO.none _
      | refine LeO.ite ?_ ?_
      | refine LeO.bind ?_ (fun _ => ?_)
theorem portagelaw0_SpoilWrites.mono : ∀ a0 k, LeO (portagelaw0_SpoilWrites.f k a0) (portagelaw0_SpoilWrites.f (k + 1) a0) := by
  intro a0 k
  have ih0 := portagelaw0_SpoilWrites.mono_l k
  unfold portagelaw0_SpoilWrites.f
  repeat' first
      | (with_reducible exact ih0 _ _)
      | (with_reducible exact LeO.refl _)
      | (with_reducible exact LeO.none _)
      | (with_reducible refine LeO.ite ?_ ?_)
      | (with_reducible refine LeO.bind ?_ (fun _ => ?_))
      | exact ih0 _ _
      | exact LeO.none _
      | refine LeO.ite ?_ ?_
      | refine LeO.bind ?_ (fun _ => ?_)
set_option maxHeartbeats 8000000 in
set_option maxRecDepth 100000 in
theorem portagelaw0_SpoilWrites.calls (k : Nat) (P0_ : Nat → Prop) (u9000_ : Value) (l0 : List (S42)) (r : List (S42)) (w0 w : World) (hB : Below w0.heap.size w0 w) (ho0 : Kd.R k42 42 w w0.heap.size P0_ u9000_ l0) (h : portagelaw0_SpoilWrites.f k l0 = some r) :
    Calls Try.prog 30 #[u9000_] w fun e w' => e = .returned (.tuple #[]) ∧ Kd.R k42 42 w' w0.heap.size (fun k_ => (P0_ k_ ∨ w.heap.size ≤ k_)) u9000_ r ∧ Below w0.heap.size w0 w' ∧ Kept w w' (fun k_ => P0_ k_) := by
  have HO0 := Aside0.mk (show Kd.R k42 42 w w0.heap.size (fun k_ => (P0_ k_ ∨ w.heap.size ≤ k_)) u9000_ l0 from Kd.R_mono ho0 (fun k_ hk => (.inl hk)))
  have HK := Aside0.mk (Kept.refl w (fun k_ => P0_ k_))
  have HW0 := Aside0.mk hB.size
  have HB := Aside0.mk hB
  clear hB
  have H : (portagelaw0_SpoilWrites.l0 k l0 0) = some r := h
  clear h
  have H' := Aside0.mk H
  clear H
  go_enter Try.func30, Try.ntmps30
  go_wp2
  go_loopg [2] k (fun kq v2 w' => ∃ (x0_1 : List (S42)) (x2_1 : Int), v2 = .int .i64 x2_1 ∧ Aside0 (portagelaw0_SpoilWrites.l0 kq x0_1 x2_1 = some r) ∧ Aside0 (kq ≤ k) ∧ Aside0 (Kd.R k42 42 w' w0.heap.size (fun k_ => (P0_ k_ ∨ w.heap.size ≤ k_)) u9000_ x0_1) ∧ Aside0 (Kept w w' (fun k_ => P0_ k_)) ∧ Aside0 (Below w0.heap.size w0 w'))
  case atStart => exact ⟨(l0), (0), (by first | rfl | (simp; done) | (simp [*]; done)), H', ⟨Nat.le_refl _⟩, ⟨by (with_reducible repeat (first | apply Kd.R_alloc | apply Kd.R_drewN | apply Kd.R_drew)); exact HO0.out⟩, ⟨by repeat (first | (with_reducible first | exact HK.out | apply Kept.alloc | apply Kept.drewN | apply Kept.drew) | exact HK.out)⟩, ⟨by repeat (first | (with_reducible first | exact HB.out | apply below_alloc | apply pw_below_drewN | apply below_drew1) | exact HB.out)⟩⟩
  case round =>
    clear H'
    obtain ⟨x0_1, x2_1, rfl, HA, HK1, HO_0, HK, HB⟩ := hrel
    cases gk with
    | zero => exact absurd HA.out (by simp [portagelaw0_SpoilWrites.l0])
    | succ k1 =>
      have H := HA.out
      clear HA
      simp only [portagelaw0_SpoilWrites.l0] at H
      by_cases c2 : x2_1 < (x0_1.length : Int)
      · rw [if_pos c2] at H
        have c2b0 : decide (x2_1 < (x0_1.length : Int)) = true := decide_eq_true c2
        clear c2
        by_cases c3 : 0 ≤ x2_1
        · rw [if_pos c3] at H
          have c3b0 : decide (0 ≤ x2_1) = true := decide_eq_true c3
          clear c3
          obtain ⟨y215, hy215⟩ : ∃ y_ : List (S42), y_ = (x0_1.set (x2_1 : Int).toNat (⟨Go.bits .xor .i64 ((rd_T42 x0_1 x2_1).f0) 90, (rd_T42 x0_1 x2_1).f1⟩ : S42)) := ⟨_, rfl⟩
          replace H : (portagelaw0_SpoilWrites.l0 k1 y215 (wrap64 (x2_1 + 1))) = some r := by first | (rw [hy215]; with_reducible exact H) | (have H2_ := (Option.bind_some _ _).symm.trans H; rw [hy215]; with_reducible exact H2_) | (have H2_ := (Option.bind_some _ _).symm.trans H; with_reducible exact H2_) | with_reducible exact H | (rw [hy215]; exact H) | exact H
          have Ny215 := Aside0.mk hy215
          clear hy215
          have H' := Aside0.mk H
          clear H
          obtain ⟨Ao5, co5, eo5⟩ := Kd.R_slice HO_0.out
          subst eo5
          have p214 : 0 ≤ (x2_1 : Int) := of_decide_eq_true (by first | (with_reducible assumption) | assumption)
          have q214 : x2_1 < (x0_1.length : Int) := of_decide_eq_true (by first | (with_reducible assumption) | assumption)
          obtain ⟨ad214, e214, hx214_0, hx214_1⟩ := at_T42 (Kd.R_reads' HO_0.out).2.2 x2_1 p214 q214
          cases e214
          replace p214 := eq_true p214
          replace q214 := eq_true q214
          have p4 : 0 ≤ (x2_1 : Int) := of_decide_eq_true (by first | (with_reducible assumption) | assumption)
          have q4 : (x2_1 : Int) < ((x0_1.length : Int) : Int) := of_decide_eq_true (by first | (with_reducible assumption) | assumption)
          obtain ⟨go4, co4, eo4, gb4, gl4, cl4, HG4⟩ := Kd.R_form HO_0.out (by omega)
          (first | cases eo4 | (injection eo4 with ea_ en_ ec_; (first | subst ea_ | (injection ea_ with ea_; subst ea_)); subst ec_; clear en_))
          have GB4 := Aside0.mk gb4
          have GG4 := Aside0.mk HG4
          clear gb4 gl4 HG4
          have HMgo4 := Aside0.mk (show (P0_ go4 ∨ w.heap.size ≤ go4) from (HO_0.out.1 _ rfl))
          (first | simp only [add_plain] at hx214_0 | skip)
          (first | simp only [add_plain] at hx214_1 | skip)
          obtain ⟨ce4, hcl4, hM4, hcc4, hfr4⟩ := Kd.R_elem HO_0.out z42 (x2_1 : Int) p4 q4
          obtain rfl := k42_openM hM4
          have hx4_0 : wr.cell? ⟨go4, (x2_1 : Int).toNat * 2, none⟩ = some (.int .i64 ((rd_T42 x0_1 x2_1).f0)) := hcc4 0 _ rfl
          have hx4_1 : wr.cell? ⟨go4, (x2_1 : Int).toNat * 2 + 1, none⟩ = some (.string ((rd_T42 x0_1 x2_1).f1)) := hcc4 1 _ rfl
          have hf4_0 : wr.frozen? ⟨go4, (x2_1 : Int).toNat * 2, none⟩ = false := hfr4 0
          have hf4_1 : wr.frozen? ⟨go4, (x2_1 : Int).toNat * 2 + 1, none⟩ = false := hfr4 1
          clear hcl4 hcc4 hfr4 hM4
          replace p4 := eq_true p4
          replace q4 := eq_true q4
          have HX6 := Aside0.mk (show Kd.R k42 42 wr w0.heap.size (fun k_ => (P0_ k_ ∨ w.heap.size ≤ k_)) (.slice (some ⟨go4, 0, none⟩) x0_1.length co5) x0_1 from (by (with_reducible repeat (first | apply Kd.R_alloc | apply Kd.R_drewN | apply Kd.R_drew)); exact HO_0.out))
          obtain ⟨ce6, hcl6, hM6, hcc6, hfr6⟩ := Kd.R_elem HX6.out z42 (x2_1 : Int) (of_decide_eq_true (by first | (with_reducible assumption) | assumption)) (by have h_ : (x2_1 : Int) < ((x0_1.length : Int) : Int) := of_decide_eq_true (by first | (with_reducible assumption) | assumption); first | exact h_ | (have e_ := (Kd.R_reads' HO_0.out).1; omega) | simpa using h_)
          obtain rfl := k42_openM hM6
          have HP6 := Kd.R_seg HX6.out (x2_1 : Int) (of_decide_eq_true (by first | (with_reducible assumption) | assumption)) (by have h_ : (x2_1 : Int) < ((x0_1.length : Int) : Int) := of_decide_eq_true (by first | (with_reducible assumption) | assumption); first | exact h_ | (have e_ := (Kd.R_reads' HO_0.out).1; omega) | simpa using h_) (seg := [.int .i64 (Go.bits .xor .i64 ((rd_T42 x0_1 x2_1).f0) 90)]) (j := 0) hcl6 hcc6 (show 1 ≤ 2 from by decide) (x' := (⟨Go.bits .xor .i64 ((rd_T42 x0_1 x2_1).f0) 90, (rd_T42 x0_1 x2_1).f1⟩ : S42)) (k42_mkM _ _ _ (⟨Go.bits .xor .i64 ((rd_T42 x0_1 x2_1).f0) 90, (rd_T42 x0_1 x2_1).f1⟩ : S42) ) (fun _ hk => hk)
          have hx6_0 := hcc6 0 _ rfl
          (try simp only [show (k42).sz = 2 from rfl, Nat.mul_one, Nat.add_zero] at hx6_0)
          have hf6_0 := hfr6 0
          (try simp only [show (k42).sz = 2 from rfl, Nat.mul_one, Nat.add_zero] at hf6_0)
          clear hcl6 hcc6 hfr6 hM6
          go_wp2_with (first | ((with_reducible refine gate_store (t := 3) (p := 18) rfl ?_); refine store_event (t := 3) (p := 18) (v := ?vo_w7) (w1 := (wr.setCell ⟨go4, (x2_1 : Int).toNat * 2, none⟩ (.int .i64 (Go.bits .xor .i64 ((rd_T42 x0_1 x2_1).f0) 90)))) ?hg ?ho ?hn ?hr ?_; (case ho => rfl); (case hg => rfl); (case hn => rfl); (case hr => first | (go_simp; done) | (go_simp; rfl)); intro w7 hw; have hg : wr.grownBy w7 (some go4) := (by rw [hw]; exact HP6.2); have hp_ : Kd.R k42 42 w7 w0.heap.size (fun k_ => (P0_ k_ ∨ w.heap.size ≤ k_)) (.slice (some ⟨go4, 0, none⟩) x0_1.length co5) y215 := (by rw [hw, Ny215.out]; exact HP6.1); clear HP6; have n0_ := Aside0.mk (hp_); have n1_ := Aside0.mk ((by rw [hw]; exact below_set (HB.out) GB4.out : Below w0.heap.size w0 w7)); have n2_ := Aside0.mk (Kept.of_grown (S := (fun k_ => P0_ k_)) hg (by repeat (first | (with_reducible first | exact HK.out | apply Kept.alloc | apply Kept.drewN | apply Kept.drew) | exact HK.out)) (fun k_ e_ => (HO_0.out.1 k_ e_))); clear HO_0; clear HB; clear HK; have HO_0 := n0_; have HB := n1_; have HK := n2_; clear n0_ n1_ n2_; clear hg hw hp_))
          go_roundg k1
          case measure => have := HK1.out; omega
          case rel => exact ⟨(y215), (wrap64 (x2_1 + 1)), (by first | rfl | (simp; done) | (simp [*]; done)), H', ⟨by have := HK1.out; omega⟩, ⟨by (with_reducible repeat (first | apply Kd.R_alloc | apply Kd.R_drewN | apply Kd.R_drew)); exact HO_0.out⟩, ⟨by repeat (first | (with_reducible first | exact HK.out | apply Kept.alloc | apply Kept.drewN | apply Kept.drew) | exact HK.out)⟩, ⟨by repeat (first | (with_reducible first | exact HB.out | apply below_alloc | apply pw_below_drewN | apply below_drew1) | exact HB.out)⟩⟩
        · rw [if_neg c3] at H
          exact absurd H (by simp)
      · rw [if_neg c2] at H
        have c2b0 : decide (x2_1 < (x0_1.length : Int)) = false := decide_eq_false c2
        clear c2
        obtain rfl := Option.some.inj H
        obtain ⟨Ao8, co8, eo8⟩ := Kd.R_slice HO_0.out
        subst eo8
        go_wp2
        first | go_end0 | ((try simp only [Exit.inBlock, Exit.then]); refine bodyPost_ret (results_none rfl _ _ _) rfl ?_)
        exact ⟨by first | rfl | (simp [errW_none, errW_some] <;> rfl) | (simp [*, errW_none, errW_some] <;> rfl), by (with_reducible repeat (first | apply Kd.R_alloc | apply Kd.R_drewN | apply Kd.R_drew)); exact HO_0.out, by repeat (first | (with_reducible first | exact HB.out | apply below_alloc | apply pw_below_drewN | apply below_drew1) | exact HB.out), by repeat (first | (with_reducible first | exact HK.out | apply Kept.alloc | apply Kept.drewN | apply Kept.drew) | exact HK.out)⟩

/-! ### portagelaw18_awake: function 31 -/
def portagelaw18_awake.f (k : Nat)  : Option (Bool) := (slot_Plan.f k 1 (⟨#[104, 101, 108, 108, 111]⟩ : ByteArray)).bind fun bt216 => ((portageref17_NewDisk.f k).bind fun t220 => ((portageref17_Run.f k t220 bt216.1 (bt216.1.length : Int) 0).bind fun bt223 => ((slot_Find.f k bt223.1).bind fun bt227 => ((portageref17_NewDisk.f k).bind fun t230 => ((slot_Find.f k t230).bind fun bt233 => ((slot_Find.f k ([] : List ByteArray)).bind fun bt236 => ((slot_Plan.f k 0 (⟨#[]⟩ : ByteArray)).bind fun bt239 => (if (bt216.1.length : Int) = 3 then ((portagelaw0_Num.f bt216.2).bind fun t243 => (if t243 = 0 then (if 0 < (bt216.1.length : Int) then (if ((rd_T42 bt216.1 0).f0) = 65 then (if bt223.2 = 0 then (if bt227.1 = 1 then (if bt227.2.1.toList = ([104, 101, 108, 108, 111] : List UInt8) then ((portagelaw0_Num.f bt227.2.2).bind fun t245 => (if t245 = 0 then ((portagelaw0_Num.f bt233.2.2).bind fun t246 => (if t246 = 1801 then ((portagelaw0_Num.f bt236.2.2).bind fun t247 => (if t247 = 1800 then ((portagelaw0_Num.f bt239.2).bind fun t248 => (some (t248 == 1800))) else (none))) else (none))) else (none))) else (none)) else (none)) else (none)) else (none)) else (none)) else (none))) else (none)))))))))
theorem portagelaw18_awake.mono : ∀ k, LeO (portagelaw18_awake.f k ) (portagelaw18_awake.f (k + 1) ) := by
  intro  k
  unfold portagelaw18_awake.f
  repeat' first
      | (with_reducible exact portageref17_NewDisk.mono _)
      | (with_reducible exact portageref17_Run.mono _ _ _ _ _)
      | (with_reducible exact slot_Find.mono _ _)
      | (with_reducible exact slot_Plan.mono _ _ _)
      | (with_reducible exact LeO.refl _)
      | (with_reducible exact LeO.none _)
      | (with_reducible refine LeO.ite ?_ ?_)
      | (with_reducible refine LeO.bind ?_ (fun _ => ?_))
      | exact portageref17_NewDisk.mono _
      | exact portageref17_Run.mono _ _ _ _ _
      | exact slot_Find.mono _ _
      | exact slot_Plan.mono _ _ _
      | exact LeO.none _
      | refine LeO.ite ?_ ?_
      | refine LeO.bind ?_ (fun _ => ?_)
set_option maxHeartbeats 8000000 in
set_option maxRecDepth 100000 in
theorem portagelaw18_awake.calls (k : Nat)  (r : Bool) (w : World) (h : portagelaw18_awake.f k  = some r) :
    Calls Try.prog 31 #[] w fun e w' => e = .returned (.bool r) ∧ Below w.heap.size w w' := by
  have HB := Aside0.mk (Below.refl w.heap.size w)
  have H : ((slot_Plan.f k 1 (⟨#[104, 101, 108, 108, 111]⟩ : ByteArray)).bind fun bt216 => ((portageref17_NewDisk.f k).bind fun t220 => ((portageref17_Run.f k t220 bt216.1 (bt216.1.length : Int) 0).bind fun bt223 => ((slot_Find.f k bt223.1).bind fun bt227 => ((portageref17_NewDisk.f k).bind fun t230 => ((slot_Find.f k t230).bind fun bt233 => ((slot_Find.f k ([] : List ByteArray)).bind fun bt236 => ((slot_Plan.f k 0 (⟨#[]⟩ : ByteArray)).bind fun bt239 => (if (bt216.1.length : Int) = 3 then ((portagelaw0_Num.f bt216.2).bind fun t243 => (if t243 = 0 then (if 0 < (bt216.1.length : Int) then (if ((rd_T42 bt216.1 0).f0) = 65 then (if bt223.2 = 0 then (if bt227.1 = 1 then (if bt227.2.1.toList = ([104, 101, 108, 108, 111] : List UInt8) then ((portagelaw0_Num.f bt227.2.2).bind fun t245 => (if t245 = 0 then ((portagelaw0_Num.f bt233.2.2).bind fun t246 => (if t246 = 1801 then ((portagelaw0_Num.f bt236.2.2).bind fun t247 => (if t247 = 1800 then ((portagelaw0_Num.f bt239.2).bind fun t248 => (some (t248 == 1800))) else (none))) else (none))) else (none))) else (none)) else (none)) else (none)) else (none)) else (none)) else (none))) else (none)))))))))) = some r := h
  clear h
  replace H := Option.bind_eq_some_iff.mp H
  obtain ⟨⟨t216, t217⟩, A10, H⟩ := H
  replace H : ((portageref17_NewDisk.f k).bind fun t220 => ((portageref17_Run.f k t220 t216 (t216.length : Int) 0).bind fun bt223 => ((slot_Find.f k bt223.1).bind fun bt227 => ((portageref17_NewDisk.f k).bind fun t230 => ((slot_Find.f k t230).bind fun bt233 => ((slot_Find.f k ([] : List ByteArray)).bind fun bt236 => ((slot_Plan.f k 0 (⟨#[]⟩ : ByteArray)).bind fun bt239 => (if (t216.length : Int) = 3 then ((portagelaw0_Num.f t217).bind fun t243 => (if t243 = 0 then (if 0 < (t216.length : Int) then (if ((rd_T42 t216 0).f0) = 65 then (if bt223.2 = 0 then (if bt227.1 = 1 then (if bt227.2.1.toList = ([104, 101, 108, 108, 111] : List UInt8) then ((portagelaw0_Num.f bt227.2.2).bind fun t245 => (if t245 = 0 then ((portagelaw0_Num.f bt233.2.2).bind fun t246 => (if t246 = 1801 then ((portagelaw0_Num.f bt236.2.2).bind fun t247 => (if t247 = 1800 then ((portagelaw0_Num.f bt239.2).bind fun t248 => (some (t248 == 1800))) else (none))) else (none))) else (none))) else (none)) else (none)) else (none)) else (none)) else (none)) else (none))) else (none))))))))) = some r := H
  have A1 := Aside0.mk A10
  clear A10
  replace H := Option.bind_eq_some_iff.mp H
  obtain ⟨t220, A20, H⟩ := H
  replace H : ((portageref17_Run.f k t220 t216 (t216.length : Int) 0).bind fun bt223 => ((slot_Find.f k bt223.1).bind fun bt227 => ((portageref17_NewDisk.f k).bind fun t230 => ((slot_Find.f k t230).bind fun bt233 => ((slot_Find.f k ([] : List ByteArray)).bind fun bt236 => ((slot_Plan.f k 0 (⟨#[]⟩ : ByteArray)).bind fun bt239 => (if (t216.length : Int) = 3 then ((portagelaw0_Num.f t217).bind fun t243 => (if t243 = 0 then (if 0 < (t216.length : Int) then (if ((rd_T42 t216 0).f0) = 65 then (if bt223.2 = 0 then (if bt227.1 = 1 then (if bt227.2.1.toList = ([104, 101, 108, 108, 111] : List UInt8) then ((portagelaw0_Num.f bt227.2.2).bind fun t245 => (if t245 = 0 then ((portagelaw0_Num.f bt233.2.2).bind fun t246 => (if t246 = 1801 then ((portagelaw0_Num.f bt236.2.2).bind fun t247 => (if t247 = 1800 then ((portagelaw0_Num.f bt239.2).bind fun t248 => (some (t248 == 1800))) else (none))) else (none))) else (none))) else (none)) else (none)) else (none)) else (none)) else (none)) else (none))) else (none)))))))) = some r := H
  have A2 := Aside0.mk A20
  clear A20
  replace H := Option.bind_eq_some_iff.mp H
  obtain ⟨⟨t223, t224⟩, A30, H⟩ := H
  replace H : ((slot_Find.f k t223).bind fun bt227 => ((portageref17_NewDisk.f k).bind fun t230 => ((slot_Find.f k t230).bind fun bt233 => ((slot_Find.f k ([] : List ByteArray)).bind fun bt236 => ((slot_Plan.f k 0 (⟨#[]⟩ : ByteArray)).bind fun bt239 => (if (t216.length : Int) = 3 then ((portagelaw0_Num.f t217).bind fun t243 => (if t243 = 0 then (if 0 < (t216.length : Int) then (if ((rd_T42 t216 0).f0) = 65 then (if t224 = 0 then (if bt227.1 = 1 then (if bt227.2.1.toList = ([104, 101, 108, 108, 111] : List UInt8) then ((portagelaw0_Num.f bt227.2.2).bind fun t245 => (if t245 = 0 then ((portagelaw0_Num.f bt233.2.2).bind fun t246 => (if t246 = 1801 then ((portagelaw0_Num.f bt236.2.2).bind fun t247 => (if t247 = 1800 then ((portagelaw0_Num.f bt239.2).bind fun t248 => (some (t248 == 1800))) else (none))) else (none))) else (none))) else (none)) else (none)) else (none)) else (none)) else (none)) else (none))) else (none))))))) = some r := H
  have A3 := Aside0.mk A30
  clear A30
  replace H := Option.bind_eq_some_iff.mp H
  obtain ⟨⟨t227, t228, t229⟩, A40, H⟩ := H
  replace H : ((portageref17_NewDisk.f k).bind fun t230 => ((slot_Find.f k t230).bind fun bt233 => ((slot_Find.f k ([] : List ByteArray)).bind fun bt236 => ((slot_Plan.f k 0 (⟨#[]⟩ : ByteArray)).bind fun bt239 => (if (t216.length : Int) = 3 then ((portagelaw0_Num.f t217).bind fun t243 => (if t243 = 0 then (if 0 < (t216.length : Int) then (if ((rd_T42 t216 0).f0) = 65 then (if t224 = 0 then (if t227 = 1 then (if t228.toList = ([104, 101, 108, 108, 111] : List UInt8) then ((portagelaw0_Num.f t229).bind fun t245 => (if t245 = 0 then ((portagelaw0_Num.f bt233.2.2).bind fun t246 => (if t246 = 1801 then ((portagelaw0_Num.f bt236.2.2).bind fun t247 => (if t247 = 1800 then ((portagelaw0_Num.f bt239.2).bind fun t248 => (some (t248 == 1800))) else (none))) else (none))) else (none))) else (none)) else (none)) else (none)) else (none)) else (none)) else (none))) else (none)))))) = some r := H
  have A4 := Aside0.mk A40
  clear A40
  replace H := Option.bind_eq_some_iff.mp H
  obtain ⟨t230, A50, H⟩ := H
  replace H : ((slot_Find.f k t230).bind fun bt233 => ((slot_Find.f k ([] : List ByteArray)).bind fun bt236 => ((slot_Plan.f k 0 (⟨#[]⟩ : ByteArray)).bind fun bt239 => (if (t216.length : Int) = 3 then ((portagelaw0_Num.f t217).bind fun t243 => (if t243 = 0 then (if 0 < (t216.length : Int) then (if ((rd_T42 t216 0).f0) = 65 then (if t224 = 0 then (if t227 = 1 then (if t228.toList = ([104, 101, 108, 108, 111] : List UInt8) then ((portagelaw0_Num.f t229).bind fun t245 => (if t245 = 0 then ((portagelaw0_Num.f bt233.2.2).bind fun t246 => (if t246 = 1801 then ((portagelaw0_Num.f bt236.2.2).bind fun t247 => (if t247 = 1800 then ((portagelaw0_Num.f bt239.2).bind fun t248 => (some (t248 == 1800))) else (none))) else (none))) else (none))) else (none)) else (none)) else (none)) else (none)) else (none)) else (none))) else (none))))) = some r := H
  have A5 := Aside0.mk A50
  clear A50
  replace H := Option.bind_eq_some_iff.mp H
  obtain ⟨⟨t233, t234, t235⟩, A60, H⟩ := H
  replace H : ((slot_Find.f k ([] : List ByteArray)).bind fun bt236 => ((slot_Plan.f k 0 (⟨#[]⟩ : ByteArray)).bind fun bt239 => (if (t216.length : Int) = 3 then ((portagelaw0_Num.f t217).bind fun t243 => (if t243 = 0 then (if 0 < (t216.length : Int) then (if ((rd_T42 t216 0).f0) = 65 then (if t224 = 0 then (if t227 = 1 then (if t228.toList = ([104, 101, 108, 108, 111] : List UInt8) then ((portagelaw0_Num.f t229).bind fun t245 => (if t245 = 0 then ((portagelaw0_Num.f t235).bind fun t246 => (if t246 = 1801 then ((portagelaw0_Num.f bt236.2.2).bind fun t247 => (if t247 = 1800 then ((portagelaw0_Num.f bt239.2).bind fun t248 => (some (t248 == 1800))) else (none))) else (none))) else (none))) else (none)) else (none)) else (none)) else (none)) else (none)) else (none))) else (none)))) = some r := H
  have A6 := Aside0.mk A60
  clear A60
  replace H := Option.bind_eq_some_iff.mp H
  obtain ⟨⟨t236, t237, t238⟩, A70, H⟩ := H
  replace H : ((slot_Plan.f k 0 (⟨#[]⟩ : ByteArray)).bind fun bt239 => (if (t216.length : Int) = 3 then ((portagelaw0_Num.f t217).bind fun t243 => (if t243 = 0 then (if 0 < (t216.length : Int) then (if ((rd_T42 t216 0).f0) = 65 then (if t224 = 0 then (if t227 = 1 then (if t228.toList = ([104, 101, 108, 108, 111] : List UInt8) then ((portagelaw0_Num.f t229).bind fun t245 => (if t245 = 0 then ((portagelaw0_Num.f t235).bind fun t246 => (if t246 = 1801 then ((portagelaw0_Num.f t238).bind fun t247 => (if t247 = 1800 then ((portagelaw0_Num.f bt239.2).bind fun t248 => (some (t248 == 1800))) else (none))) else (none))) else (none))) else (none)) else (none)) else (none)) else (none)) else (none)) else (none))) else (none))) = some r := H
  have A7 := Aside0.mk A70
  clear A70
  replace H := Option.bind_eq_some_iff.mp H
  obtain ⟨⟨t239, t240⟩, A80, H⟩ := H
  replace H : (if (t216.length : Int) = 3 then ((portagelaw0_Num.f t217).bind fun t243 => (if t243 = 0 then (if 0 < (t216.length : Int) then (if ((rd_T42 t216 0).f0) = 65 then (if t224 = 0 then (if t227 = 1 then (if t228.toList = ([104, 101, 108, 108, 111] : List UInt8) then ((portagelaw0_Num.f t229).bind fun t245 => (if t245 = 0 then ((portagelaw0_Num.f t235).bind fun t246 => (if t246 = 1801 then ((portagelaw0_Num.f t238).bind fun t247 => (if t247 = 1800 then ((portagelaw0_Num.f t240).bind fun t248 => (some (t248 == 1800))) else (none))) else (none))) else (none))) else (none)) else (none)) else (none)) else (none)) else (none)) else (none))) else (none)) = some r := H
  have A8 := Aside0.mk A80
  clear A80
  by_cases c9 : (t216.length : Int) = 3
  · rw [if_pos c9] at H
    have c9b0 : ((t216.length : Int) == 3) = true := beq_iff_eq.mpr c9
    have c9b1 : ((t216.length : Int) != 3) = false := bne_eq_false_iff_eq.mpr c9
    clear c9
    replace H := Option.bind_eq_some_iff.mp H
    obtain ⟨t243, A100, H⟩ := H
    replace H : (if t243 = 0 then (if 0 < (t216.length : Int) then (if ((rd_T42 t216 0).f0) = 65 then (if t224 = 0 then (if t227 = 1 then (if t228.toList = ([104, 101, 108, 108, 111] : List UInt8) then ((portagelaw0_Num.f t229).bind fun t245 => (if t245 = 0 then ((portagelaw0_Num.f t235).bind fun t246 => (if t246 = 1801 then ((portagelaw0_Num.f t238).bind fun t247 => (if t247 = 1800 then ((portagelaw0_Num.f t240).bind fun t248 => (some (t248 == 1800))) else (none))) else (none))) else (none))) else (none)) else (none)) else (none)) else (none)) else (none)) else (none)) = some r := H
    have A10 := Aside0.mk A100
    clear A100
    by_cases c11 : t243 = 0
    · rw [if_pos c11] at H
      have c11b0 : (t243 == 0) = true := beq_iff_eq.mpr c11
      have c11b1 : (t243 != 0) = false := bne_eq_false_iff_eq.mpr c11
      clear c11
      by_cases c12 : 0 < (t216.length : Int)
      · rw [if_pos c12] at H
        have c12b0 : decide (0 < (t216.length : Int)) = true := decide_eq_true c12
        have c12b1 : decide (0 < t216.length) = true := decide_eq_true (by omega)
        clear c12
        by_cases c13 : ((rd_T42 t216 0).f0) = 65
        · rw [if_pos c13] at H
          have c13b0 : (((rd_T42 t216 0).f0) == 65) = true := beq_iff_eq.mpr c13
          have c13b1 : (((rd_T42 t216 0).f0) != 65) = false := bne_eq_false_iff_eq.mpr c13
          clear c13
          by_cases c14 : t224 = 0
          · rw [if_pos c14] at H
            have c14b0 : (t224 == 0) = true := beq_iff_eq.mpr c14
            have c14b1 : (t224 != 0) = false := bne_eq_false_iff_eq.mpr c14
            clear c14
            by_cases c15 : t227 = 1
            · rw [if_pos c15] at H
              have c15b0 : (t227 == 1) = true := beq_iff_eq.mpr c15
              have c15b1 : (t227 != 1) = false := bne_eq_false_iff_eq.mpr c15
              clear c15
              by_cases c16 : t228.toList = ([104, 101, 108, 108, 111] : List UInt8)
              · rw [if_pos c16] at H
                have c16b0 : (t228.toList == ([104, 101, 108, 108, 111] : List UInt8)) = true := beq_iff_eq.mpr c16
                have c16b1 : (t228.toList != ([104, 101, 108, 108, 111] : List UInt8)) = false := bne_eq_false_iff_eq.mpr c16
                clear c16
                replace H := Option.bind_eq_some_iff.mp H
                obtain ⟨t245, A170, H⟩ := H
                replace H : (if t245 = 0 then ((portagelaw0_Num.f t235).bind fun t246 => (if t246 = 1801 then ((portagelaw0_Num.f t238).bind fun t247 => (if t247 = 1800 then ((portagelaw0_Num.f t240).bind fun t248 => (some (t248 == 1800))) else (none))) else (none))) else (none)) = some r := H
                have A17 := Aside0.mk A170
                clear A170
                by_cases c18 : t245 = 0
                · rw [if_pos c18] at H
                  have c18b0 : (t245 == 0) = true := beq_iff_eq.mpr c18
                  have c18b1 : (t245 != 0) = false := bne_eq_false_iff_eq.mpr c18
                  clear c18
                  replace H := Option.bind_eq_some_iff.mp H
                  obtain ⟨t246, A190, H⟩ := H
                  replace H : (if t246 = 1801 then ((portagelaw0_Num.f t238).bind fun t247 => (if t247 = 1800 then ((portagelaw0_Num.f t240).bind fun t248 => (some (t248 == 1800))) else (none))) else (none)) = some r := H
                  have A19 := Aside0.mk A190
                  clear A190
                  by_cases c20 : t246 = 1801
                  · rw [if_pos c20] at H
                    have c20b0 : (t246 == 1801) = true := beq_iff_eq.mpr c20
                    have c20b1 : (t246 != 1801) = false := bne_eq_false_iff_eq.mpr c20
                    clear c20
                    replace H := Option.bind_eq_some_iff.mp H
                    obtain ⟨t247, A210, H⟩ := H
                    replace H : (if t247 = 1800 then ((portagelaw0_Num.f t240).bind fun t248 => (some (t248 == 1800))) else (none)) = some r := H
                    have A21 := Aside0.mk A210
                    clear A210
                    by_cases c22 : t247 = 1800
                    · rw [if_pos c22] at H
                      have c22b0 : (t247 == 1800) = true := beq_iff_eq.mpr c22
                      have c22b1 : (t247 != 1800) = false := bne_eq_false_iff_eq.mpr c22
                      clear c22
                      replace H := Option.bind_eq_some_iff.mp H
                      obtain ⟨t248, A230, H⟩ := H
                      replace H : (some (t248 == 1800)) = some r := H
                      have A23 := Aside0.mk A230
                      clear A230
                      obtain rfl := Option.some.inj H
                      go_enter Try.func31, Try.ntmps31
                      go_wp2_with (first | ((with_reducible refine gate_callee (f := 25) rfl ?_); refine goesL_ (some 17) rfl rfl Try.func25 (by kernel_rfl) rfl #[.int .i64 1, .string (⟨#[104, 101, 108, 108, 111]⟩ : ByteArray)] rfl (by (try simp only [List.map_toArray, List.map_cons, List.map_nil]); first | done | rfl | (simp only [List.length_drop, List.length_take]; rfl)) ?_; (with_reducible refine (slot_Plan.calls k 1 (⟨#[104, 101, 108, 108, 111]⟩ : ByteArray) t216 t217 _ A1.out).mono ?_); rintro e w24 ⟨v218, rfl, ho0, hb⟩; refine ⟨_, rfl, ?_⟩; have n0_ := Aside0.mk (Kd.R_lower ho0 (below_size (by repeat (first | (with_reducible first | exact HB.out | apply below_alloc | apply pw_below_drewN | apply below_drew1) | exact HB.out)))); have n1_ := Aside0.mk (below_step (by repeat (first | (with_reducible first | exact HB.out | apply below_alloc | apply pw_below_drewN | apply below_drew1) | exact HB.out)) hb); clear HB; have HO219 := n0_; have HB := n1_; clear n0_ n1_; (try clear hb); (try clear hb2); (try clear hk); (try clear hi); (try clear ho0)) | ((with_reducible refine gate_callee (f := 12) rfl ?_); refine goesL_ (some 21) rfl rfl Try.func12 (by kernel_rfl) rfl #[] rfl (by (try simp only [List.map_toArray, List.map_cons, List.map_nil]); first | done | rfl | (simp only [List.length_drop, List.length_take]; rfl)) ?_; (with_reducible refine (portageref17_NewDisk.calls k  t220 _ A2.out).mono ?_); rintro e w25 ⟨v221, rfl, ho0, hb⟩; refine ⟨_, rfl, ?_⟩; have n0_ := Aside0.mk (Kd.R_below (by (with_reducible repeat (first | apply Kd.R_alloc | apply Kd.R_drewN | apply Kd.R_drew)); exact HO219.out) hb); have n1_ := Aside0.mk (Kd.R_lower ho0 (below_size (by repeat (first | (with_reducible first | exact HB.out | apply below_alloc | apply pw_below_drewN | apply below_drew1) | exact HB.out)))); have n2_ := Aside0.mk (below_step (by repeat (first | (with_reducible first | exact HB.out | apply below_alloc | apply pw_below_drewN | apply below_drew1) | exact HB.out)) hb); clear HO219; clear HB; have HO219 := n0_; have HO222 := n1_; have HB := n2_; clear n0_ n1_ n2_; (try clear hb); (try clear hb2); (try clear hk); (try clear hi); (try clear ho0); obtain ⟨Ao26, co26, eo26⟩ := Kd.R_slice HO219.out; subst eo26; obtain ⟨Ao27, co27, eo27⟩ := Kd.R_slice HO222.out; subst eo27) | ((with_reducible refine gate_callee (f := 16) rfl ?_); refine goesL_ (some 25) rfl rfl Try.func16 (by kernel_rfl) rfl #[.slice Ao27 t220.length co27, .slice Ao26 t216.length co26, .int .i64 (t216.length : Int), .int .i64 0] rfl (by (try simp only [List.map_toArray, List.map_cons, List.map_nil]); first | done | rfl | (simp only [List.length_drop, List.length_take]; rfl)) ?_; (with_reducible refine (portageref17_Run.calls k _ _ t220 _ _ t216 (t216.length : Int) 0 t223 t224 _ ?side1 ?side2 ?side3 ?side4 A3.out).mono ?_); (case side1 => repeat (first | exact (Kd.R_reads' HO222.out).2.2 | (with_reducible refine Kd.C_alloc ?_ _) | (with_reducible refine Kd.C_drewN ?_ _) | (with_reducible refine Kd.C_drew ?_))); (case side2 => exact (Kd.R_reads' HO222.out).2.1); (case side3 => repeat (first | exact (Kd.R_reads' HO219.out).2.2 | (with_reducible refine Kd.C_alloc ?_ _) | (with_reducible refine Kd.C_drewN ?_ _) | (with_reducible refine Kd.C_drew ?_))); (case side4 => exact (Kd.R_reads' HO219.out).2.1); rintro e w28 ⟨v225, rfl, ho0, hb⟩; refine ⟨_, rfl, ?_⟩; have n0_ := Aside0.mk (Kd.R_below (by (with_reducible repeat (first | apply Kd.R_alloc | apply Kd.R_drewN | apply Kd.R_drew)); exact HO219.out) hb); have n1_ := Aside0.mk (Kd.R_elder' (by (with_reducible repeat (first | apply Kd.R_alloc | apply Kd.R_drewN | apply Kd.R_drew)); exact HO222.out) (Kd.R_base ho0) hb); have n2_ := Aside0.mk (Kd.R_lower (Kd.R_new' ho0 (Kd.R_lt (by (with_reducible repeat (first | apply Kd.R_alloc | apply Kd.R_drewN | apply Kd.R_drew)); exact HO222.out))) (below_size (by repeat (first | (with_reducible first | exact HB.out | apply below_alloc | apply pw_below_drewN | apply below_drew1) | exact HB.out)))); have n3_ := Aside0.mk (below_step (by repeat (first | (with_reducible first | exact HB.out | apply below_alloc | apply pw_below_drewN | apply below_drew1) | exact HB.out)) hb); clear HO219; clear HO222; clear HB; have HO219 := n0_; have HO222 := n1_; have HO226 := n2_; have HB := n3_; clear n0_ n1_ n2_ n3_; (try clear hb); (try clear hb2); (try clear hk); (try clear hi); (try clear ho0); obtain ⟨Ao29, co29, eo29⟩ := Kd.R_slice HO226.out; subst eo29) | ((with_reducible refine gate_callee (f := 27) rfl ?_); refine goesL_ (some 30) rfl rfl Try.func27 (by kernel_rfl) rfl #[.slice Ao29 t223.length co29] rfl (by (try simp only [List.map_toArray, List.map_cons, List.map_nil]); first | done | rfl | (simp only [List.length_drop, List.length_take]; rfl)) ?_; (with_reducible refine (slot_Find.calls k _ _ t223 t227 t228 t229 _ ?side1 ?side2 A4.out).mono ?_); (case side1 => repeat (first | exact (Kd.R_reads' HO226.out).2.2 | (with_reducible refine Kd.C_alloc ?_ _) | (with_reducible refine Kd.C_drewN ?_ _) | (with_reducible refine Kd.C_drew ?_))); (case side2 => exact (Kd.R_reads' HO226.out).2.1); rintro e w30 ⟨rfl, hb⟩; refine ⟨_, rfl, ?_⟩; have n0_ := Aside0.mk (Kd.R_below (by (with_reducible repeat (first | apply Kd.R_alloc | apply Kd.R_drewN | apply Kd.R_drew)); exact HO219.out) hb); have n1_ := Aside0.mk (Kd.R_below (by (with_reducible repeat (first | apply Kd.R_alloc | apply Kd.R_drewN | apply Kd.R_drew)); exact HO222.out) hb); have n2_ := Aside0.mk (Kd.R_below (by (with_reducible repeat (first | apply Kd.R_alloc | apply Kd.R_drewN | apply Kd.R_drew)); exact HO226.out) hb); have n3_ := Aside0.mk (below_step (by repeat (first | (with_reducible first | exact HB.out | apply below_alloc | apply pw_below_drewN | apply below_drew1) | exact HB.out)) hb); clear HO219; clear HO222; clear HO226; clear HB; have HO219 := n0_; have HO222 := n1_; have HO226 := n2_; have HB := n3_; clear n0_ n1_ n2_ n3_; (try clear hb); (try clear hb2); (try clear hk); (try clear hi)) | ((with_reducible refine gate_callee (f := 12) rfl ?_); refine goesL_ (some 35) rfl rfl Try.func12 (by kernel_rfl) rfl #[] rfl (by (try simp only [List.map_toArray, List.map_cons, List.map_nil]); first | done | rfl | (simp only [List.length_drop, List.length_take]; rfl)) ?_; (with_reducible refine (portageref17_NewDisk.calls k  t230 _ A5.out).mono ?_); rintro e w31 ⟨v231, rfl, ho0, hb⟩; refine ⟨_, rfl, ?_⟩; have n0_ := Aside0.mk (Kd.R_below (by (with_reducible repeat (first | apply Kd.R_alloc | apply Kd.R_drewN | apply Kd.R_drew)); exact HO219.out) hb); have n1_ := Aside0.mk (Kd.R_elder' (by (with_reducible repeat (first | apply Kd.R_alloc | apply Kd.R_drewN | apply Kd.R_drew)); exact HO222.out) (Kd.R_base ho0) hb); have n2_ := Aside0.mk (Kd.R_elder' (by (with_reducible repeat (first | apply Kd.R_alloc | apply Kd.R_drewN | apply Kd.R_drew)); exact HO226.out) (Kd.R_base ho0) hb); have n3_ := Aside0.mk (Kd.R_lower (Kd.R_new' (Kd.R_new' ho0 (Kd.R_lt (by (with_reducible repeat (first | apply Kd.R_alloc | apply Kd.R_drewN | apply Kd.R_drew)); exact HO222.out))) (Kd.R_lt (by (with_reducible repeat (first | apply Kd.R_alloc | apply Kd.R_drewN | apply Kd.R_drew)); exact HO226.out))) (below_size (by repeat (first | (with_reducible first | exact HB.out | apply below_alloc | apply pw_below_drewN | apply below_drew1) | exact HB.out)))); have n4_ := Aside0.mk (below_step (by repeat (first | (with_reducible first | exact HB.out | apply below_alloc | apply pw_below_drewN | apply below_drew1) | exact HB.out)) hb); clear HO219; clear HO222; clear HO226; clear HB; have HO219 := n0_; have HO222 := n1_; have HO226 := n2_; have HO232 := n3_; have HB := n4_; clear n0_ n1_ n2_ n3_ n4_; (try clear hb); (try clear hb2); (try clear hk); (try clear hi); (try clear ho0); obtain ⟨Ao32, co32, eo32⟩ := Kd.R_slice HO232.out; subst eo32) | ((with_reducible refine gate_callee (f := 27) rfl ?_); refine goesL_ (some 36) rfl rfl Try.func27 (by kernel_rfl) rfl #[.slice Ao32 t230.length co32] rfl (by (try simp only [List.map_toArray, List.map_cons, List.map_nil]); first | done | rfl | (simp only [List.length_drop, List.length_take]; rfl)) ?_; (with_reducible refine (slot_Find.calls k _ _ t230 t233 t234 t235 _ ?side1 ?side2 A6.out).mono ?_); (case side1 => repeat (first | exact (Kd.R_reads' HO232.out).2.2 | (with_reducible refine Kd.C_alloc ?_ _) | (with_reducible refine Kd.C_drewN ?_ _) | (with_reducible refine Kd.C_drew ?_))); (case side2 => exact (Kd.R_reads' HO232.out).2.1); rintro e w33 ⟨rfl, hb⟩; refine ⟨_, rfl, ?_⟩; have n0_ := Aside0.mk (Kd.R_below (by (with_reducible repeat (first | apply Kd.R_alloc | apply Kd.R_drewN | apply Kd.R_drew)); exact HO219.out) hb); have n1_ := Aside0.mk (Kd.R_below (by (with_reducible repeat (first | apply Kd.R_alloc | apply Kd.R_drewN | apply Kd.R_drew)); exact HO222.out) hb); have n2_ := Aside0.mk (Kd.R_below (by (with_reducible repeat (first | apply Kd.R_alloc | apply Kd.R_drewN | apply Kd.R_drew)); exact HO226.out) hb); have n3_ := Aside0.mk (Kd.R_below (by (with_reducible repeat (first | apply Kd.R_alloc | apply Kd.R_drewN | apply Kd.R_drew)); exact HO232.out) hb); have n4_ := Aside0.mk (below_step (by repeat (first | (with_reducible first | exact HB.out | apply below_alloc | apply pw_below_drewN | apply below_drew1) | exact HB.out)) hb); clear HO219; clear HO222; clear HO226; clear HO232; clear HB; have HO219 := n0_; have HO222 := n1_; have HO226 := n2_; have HO232 := n3_; have HB := n4_; clear n0_ n1_ n2_ n3_ n4_; (try clear hb); (try clear hb2); (try clear hk); (try clear hi)) | ((with_reducible refine gate_callee (f := 27) rfl ?_); refine goesL_ (some 41) rfl rfl Try.func27 (by kernel_rfl) rfl #[.slice none 0 0] rfl (by (try simp only [List.map_toArray, List.map_cons, List.map_nil]); first | done | rfl | (simp only [List.length_drop, List.length_take]; rfl)) ?_; (refine (slot_Find.calls k _ _ ([] : List ByteArray) t236 t237 t238 _ ?side1 ?side2 A7.out).mono ?_); (case side1 => exact Kd.C_nil _ _); (case side2 => exact Nat.le_refl _); rintro e w34 ⟨rfl, hb⟩; refine ⟨_, rfl, ?_⟩; have n0_ := Aside0.mk (Kd.R_below (by (with_reducible repeat (first | apply Kd.R_alloc | apply Kd.R_drewN | apply Kd.R_drew)); exact HO219.out) hb); have n1_ := Aside0.mk (Kd.R_below (by (with_reducible repeat (first | apply Kd.R_alloc | apply Kd.R_drewN | apply Kd.R_drew)); exact HO222.out) hb); have n2_ := Aside0.mk (Kd.R_below (by (with_reducible repeat (first | apply Kd.R_alloc | apply Kd.R_drewN | apply Kd.R_drew)); exact HO226.out) hb); have n3_ := Aside0.mk (Kd.R_below (by (with_reducible repeat (first | apply Kd.R_alloc | apply Kd.R_drewN | apply Kd.R_drew)); exact HO232.out) hb); have n4_ := Aside0.mk (below_step (by repeat (first | (with_reducible first | exact HB.out | apply below_alloc | apply pw_below_drewN | apply below_drew1) | exact HB.out)) hb); clear HO219; clear HO222; clear HO226; clear HO232; clear HB; have HO219 := n0_; have HO222 := n1_; have HO226 := n2_; have HO232 := n3_; have HB := n4_; clear n0_ n1_ n2_ n3_ n4_; (try clear hb); (try clear hb2); (try clear hk); (try clear hi)) | ((with_reducible refine gate_callee (f := 25) rfl ?_); refine goesL_ (some 46) rfl rfl Try.func25 (by kernel_rfl) rfl #[.int .i64 0, .string (⟨#[]⟩ : ByteArray)] rfl (by (try simp only [List.map_toArray, List.map_cons, List.map_nil]); first | done | rfl | (simp only [List.length_drop, List.length_take]; rfl)) ?_; (with_reducible refine (slot_Plan.calls k 0 (⟨#[]⟩ : ByteArray) t239 t240 _ A8.out).mono ?_); rintro e w35 ⟨v241, rfl, ho0, hb⟩; refine ⟨_, rfl, ?_⟩; have n0_ := Aside0.mk (Kd.R_elder' (by (with_reducible repeat (first | apply Kd.R_alloc | apply Kd.R_drewN | apply Kd.R_drew)); exact HO219.out) (Kd.R_base ho0) hb); have n1_ := Aside0.mk (Kd.R_below (by (with_reducible repeat (first | apply Kd.R_alloc | apply Kd.R_drewN | apply Kd.R_drew)); exact HO222.out) hb); have n2_ := Aside0.mk (Kd.R_below (by (with_reducible repeat (first | apply Kd.R_alloc | apply Kd.R_drewN | apply Kd.R_drew)); exact HO226.out) hb); have n3_ := Aside0.mk (Kd.R_below (by (with_reducible repeat (first | apply Kd.R_alloc | apply Kd.R_drewN | apply Kd.R_drew)); exact HO232.out) hb); have n4_ := Aside0.mk (Kd.R_lower (Kd.R_new' ho0 (Kd.R_lt (by (with_reducible repeat (first | apply Kd.R_alloc | apply Kd.R_drewN | apply Kd.R_drew)); exact HO219.out))) (below_size (by repeat (first | (with_reducible first | exact HB.out | apply below_alloc | apply pw_below_drewN | apply below_drew1) | exact HB.out)))); have n5_ := Aside0.mk (below_step (by repeat (first | (with_reducible first | exact HB.out | apply below_alloc | apply pw_below_drewN | apply below_drew1) | exact HB.out)) hb); clear HO219; clear HO222; clear HO226; clear HO232; clear HB; have HO219 := n0_; have HO222 := n1_; have HO226 := n2_; have HO232 := n3_; have HO242 := n4_; have HB := n5_; clear n0_ n1_ n2_ n3_ n4_ n5_; (try clear hb); (try clear hb2); (try clear hk); (try clear hi); (try clear ho0)) | (go_at_call 18; (with_reducible refine (portagelaw0_Num.calls t217 t243 _ A10.out).mono ?_); rintro e w' ⟨rfl, ⟨nd, rfl⟩⟩; have p244 : 0 ≤ (0 : Int) := (by omega); have q244 : 0 < (t216.length : Int) := of_decide_eq_true (by first | (with_reducible assumption) | assumption); obtain ⟨ad244, e244, hx244_0, hx244_1⟩ := at_T42 (Kd.R_reads' HO219.out).2.2 0 p244 q244; cases e244; have qi244 : (0 < t216.length) = True := eq_true (by omega); (try rw [show ((0 : Int)).toNat = 0 from rfl] at hx244_0); (try rw [show 0 * 2 = 0 from rfl] at hx244_0); (try rw [Addr.add_zero'] at hx244_0); (try rw [show ((0 : Int)).toNat = 0 from rfl] at hx244_1); (try rw [show 0 * 2 = 0 from rfl] at hx244_1); (try rw [Addr.add_zero'] at hx244_1); replace p244 := eq_true p244; replace q244 := eq_true q244) | (go_at_call 18; (with_reducible refine (portagelaw0_Num.calls t229 t245 _ A17.out).mono ?_); rintro e w' ⟨rfl, ⟨nd, rfl⟩⟩) | (go_at_call 18; (with_reducible refine (portagelaw0_Num.calls t235 t246 _ A19.out).mono ?_); rintro e w' ⟨rfl, ⟨nd, rfl⟩⟩) | (go_at_call 18; (with_reducible refine (portagelaw0_Num.calls t238 t247 _ A21.out).mono ?_); rintro e w' ⟨rfl, ⟨nd, rfl⟩⟩) | (go_at_call 18; (with_reducible refine (portagelaw0_Num.calls t240 t248 _ A23.out).mono ?_); rintro e w' ⟨rfl, ⟨nd, rfl⟩⟩))
                      go_ret
                      exact ⟨by first | rfl | (simp [errW_none, errW_some] <;> rfl) | (simp [*, errW_none, errW_some] <;> rfl), by repeat (first | (with_reducible first | exact HB.out | apply below_alloc | apply pw_below_drewN | apply below_drew1) | exact HB.out)⟩
                    · rw [if_neg c22] at H
                      exact absurd H (by simp)
                  · rw [if_neg c20] at H
                    exact absurd H (by simp)
                · rw [if_neg c18] at H
                  exact absurd H (by simp)
              · rw [if_neg c16] at H
                exact absurd H (by simp)
            · rw [if_neg c15] at H
              exact absurd H (by simp)
          · rw [if_neg c14] at H
            exact absurd H (by simp)
        · rw [if_neg c13] at H
          exact absurd H (by simp)
      · rw [if_neg c12] at H
        exact absurd H (by simp)
    · rw [if_neg c11] at H
      exact absurd H (by simp)
  · rw [if_neg c9] at H
    exact absurd H (by simp)

end Go.Proofs.Ytdccnjinehcenaa.LS
