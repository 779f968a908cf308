-- Written by a program of this session out of the translation (a changed copy of the kit's printer).
import Derived.Test.YtneogampbohfnaaDoorZG0
import Derived.Test.YtneogampbohfnaaDoorZG6
import Derived.Test.YtneogampbohfnaaDoorZG8
import Derived.Test.YtneogampbohfnaaDoorZG10
namespace Go.Proofs.YtneogampbohfnaaDoor.ZG
open Go.Proofs.YtneogampbohfnaaDoor.ZB (S39 z39 k39 k39_open k39_openM k39_mk k39_mkM rd_T39 at_T39)
open Go.RowKit Go.Proofs.YtneogampbohfnaaDoorW.PrintWords Go.Proofs.YtneogampbohfnaaDoorW.PrintLast Go.Proofs.YtneogampbohfnaaDoorW.PrintMore
attribute [local go_sem] max2_int min2_int max_two min_two max_three min_three max_four min_four   -- for this text's walks alone
set_option linter.unusedVariables false
set_option linter.unusedSimpArgs false

/-! ### portageref1_turn: function 89 -/
mutual
def portageref1_turn.l0 : Nat → Int → ByteArray → Int → Option (Int)
 | 0, _, _, _ => none
 | k + 1, x0, x1, x5 => if x5 < (x1.size : Int) then (if 0 ≤ x5 then (portageref1_turn.l1 k (Go.bits .xor .u32 x0 ((bt x1 x5) % 4294967296)) x1 x5 0) else (none)) else (some x0)
def portageref1_turn.l1 : Nat → Int → ByteArray → Int → Int → Option (Int)
 | 0, _, _, _, _ => none
 | k + 1, x0, x1, x5, x6 => if x6 < 8 then (if (Go.bits .and .u32 x0 1) = 1 then (portageref1_turn.l1 k (Go.bits .xor .u32 (x0 / 2) 3988292384) x1 x5 (wrap64 (x6 + 1))) else (portageref1_turn.l1 k (x0 / 2) x1 x5 (wrap64 (x6 + 1)))) else (portageref1_turn.l0 k x0 x1 (wrap64 (x5 + 1)))
end
def portageref1_turn.f (k : Nat) (a0 : Int) (a1 : ByteArray) : Option (Int) := portageref1_turn.l0 k a0 a1 0
theorem portageref1_turn.mono_l : ∀ k, (∀ y0 y1 y2, LeO (portageref1_turn.l0 k y0 y1 y2) (portageref1_turn.l0 (k + 1) y0 y1 y2)) ∧ (∀ y0 y1 y2 y3, LeO (portageref1_turn.l1 k y0 y1 y2 y3) (portageref1_turn.l1 (k + 1) y0 y1 y2 y3))
 | 0 => ⟨fun _ _ _ r h => by simp [portageref1_turn.l0] at h, fun _ _ _ _ r h => by simp [portageref1_turn.l1] at h⟩
 | k + 1 => by
  obtain ⟨ih0, ih1⟩ := portageref1_turn.mono_l k
  refine ⟨?_, ?_⟩
  ·intro y0 y1 y2
   unfold portageref1_turn.l0
   repeat' first
   | (with_reducible exact ih0 _ _ _)
   | (with_reducible exact ih1 _ _ _ _)
   | (with_reducible exact LeO.refl _)
   | (with_reducible exact LeO.none _)
   | (with_reducible refine LeO.ite ?_ ?_)
   | (with_reducible refine LeO.bind ?_ (fun _ => ?_))
   | exact ih0 _ _ _
   | exact ih1 _ _ _ _
   | exact LeO.none _
   | refine LeO.ite ?_ ?_
   | refine LeO.bind ?_ (fun _ => ?_)
  ·intro y0 y1 y2 y3
   unfold portageref1_turn.l1
   repeat' first
   | (with_reducible exact ih0 _ _ _)
   | (with_reducible exact ih1 _ _ _ _)
   | (with_reducible exact LeO.refl _)
   | (with_reducible exact LeO.none _)
   | (with_reducible refine LeO.ite ?_ ?_)
   | (with_reducible refine LeO.bind ?_ (fun _ => ?_))
   | exact ih0 _ _ _
   | exact ih1 _ _ _ _
   | exact LeO.none _
   | refine LeO.ite ?_ ?_
   | refine LeO.bind ?_ (fun _ => ?_)
theorem portageref1_turn.mono : ∀ a0 a1 k, LeO (portageref1_turn.f k a0 a1) (portageref1_turn.f (k + 1) a0 a1) := by
 intro a0 a1 k
 obtain ⟨ih0, ih1⟩ := portageref1_turn.mono_l k
 unfold portageref1_turn.f
 repeat' first
   | (with_reducible exact ih0 _ _ _)
   | (with_reducible exact ih1 _ _ _ _)
   | (with_reducible exact LeO.refl _)
   | (with_reducible exact LeO.none _)
   | (with_reducible refine LeO.ite ?_ ?_)
   | (with_reducible refine LeO.bind ?_ (fun _ => ?_))
   | exact ih0 _ _ _
   | exact ih1 _ _ _ _
   | exact LeO.none _
   | refine LeO.ite ?_ ?_
   | refine LeO.bind ?_ (fun _ => ?_)
set_option maxHeartbeats 8000000 in
set_option maxRecDepth 100000 in
theorem portageref1_turn.calls (k : Nat) (a0 : Int) (a1 : ByteArray) (r : Int) (w : World) (h : portageref1_turn.f k a0 a1 = some r) :
  Calls Tryd.prog 89 #[.int .u32 a0, .string a1] w fun e w' => e = .returned (.int .u32 r) ∧ Drawn0 w w' := by
 have H : (portageref1_turn.l0 k a0 a1 0) = some r := h
 clear h
 have H' := qas H
 clear H
 go_enter Tryd.func89, Tryd.ntmps89
 go_wp2
 go_loopg [0, 5] k (fun kq v0 v5 w' => ∃ (x0_1 : Int) (x5_1 : Int), v0 = .int .u32 x0_1 ∧ v5 = .int .i64 x5_1 ∧ Aside0 (portageref1_turn.l0 kq x0_1 a1 x5_1 = some r) ∧ Aside0 (kq ≤ k) ∧ Drawn0 w w')
 case atStart => exact ⟨(a0), (0), (by first | rfl | (simp; done) | (simp [*]; done)), (by first | rfl | (simp; done) | (simp [*]; done)), H', ⟨Nat.le_refl _⟩, by repeat (first | exact Drawn0.refl _ | apply Drawn0.step)⟩
 case round =>
  clear H'
  try clear p2
  obtain ⟨x0_1, x5_1, rfl, rfl, HA, HK1, ⟨m1, rfl⟩⟩ := hrel
  cases gk with
  | zero => exact absurd HA.out (by simp [portageref1_turn.l0])
  | succ k1 =>
   have H := HA.out
   clear HA
   simp only [portageref1_turn.l0] at H
   by_cases c3 : x5_1 < (a1.size : Int)
   ·rw [if_pos c3] at H
    have c3b0 : decide (x5_1 < (a1.size : Int)) = true := decide_eq_true c3
    clear c3
    by_cases c4 : 0 ≤ x5_1
    ·rw [if_pos c4] at H
     have c4b0 : decide (0 ≤ x5_1) = true := decide_eq_true c4
     clear c4
     have H' := qas H
     clear H
     have p5 : 0 ≤ (x5_1 : Int) := qde (by first | (with_reducible assumption) | assumption)
     have q5 : x5_1 < (a1.size : Int) := qde (by first | (with_reducible assumption) | assumption)
     have hx5 := bt_at a1 x5_1
     replace p5 := eq_true p5
     replace q5 := eq_true q5
     go_wp2
     go_loopg [0, 6] k1 (fun kq v0 v6 w' => ∃ (x0_2 : Int) (x6_2 : Int), v0 = .int .u32 x0_2 ∧ v6 = .int .i64 x6_2 ∧ Aside0 (portageref1_turn.l1 kq x0_2 a1 x5_1 x6_2 = some r) ∧ Aside0 (kq ≤ k1) ∧ Drawn0 w w')
     case atStart => exact ⟨(Go.bits .xor .u32 x0_1 ((bt a1 x5_1) % 4294967296)), (0), (by first | rfl | (simp; done) | (simp [*]; done)), (by first | rfl | (simp; done) | (simp [*]; done)), H', ⟨Nat.le_refl _⟩, by repeat (first | exact Drawn0.refl _ | apply Drawn0.step)⟩
     case round =>
      clear H'
      try clear p2
      try clear c3
      try clear c3b0
      try clear c4
      try clear c4b0
      try clear p5
      try clear q5
      try clear hx5
      try clear p2
      try clear p5
      try clear q5
      obtain ⟨x0_2, x6_2, rfl, rfl, HA, HK2, ⟨m2, rfl⟩⟩ := hrel
      cases gk with
      | zero => exact absurd HA.out (by simp [portageref1_turn.l1])
      | succ k2 =>
       have H := HA.out
       clear HA
       simp only [portageref1_turn.l1] at H
       by_cases c6 : x6_2 < 8
       ·rw [if_pos c6] at H
        have c6b0 : decide (x6_2 < 8) = true := decide_eq_true c6
        clear c6
        by_cases c7 : (Go.bits .and .u32 x0_2 1) = 1
        ·rw [if_pos c7] at H
         have c7b0 : ((Go.bits .and .u32 x0_2 1) == 1) = true := beq_iff_eq.mpr c7
         have c7b1 : ((Go.bits .and .u32 x0_2 1) != 1) = false := bne_eq_false_iff_eq.mpr c7
         clear c7
         have H' := qas H
         clear H
         go_wp2
         go_roundg k2
         case measure => have := HK1.out; have := HK2.out; omega
         case rel => exact ⟨(Go.bits .xor .u32 (x0_2 / 2) 3988292384), (wrap64 (x6_2 + 1)), (by first | rfl | (simp; done) | (simp [*]; done)), (by first | rfl | (simp; done) | (simp [*]; done)), H', ⟨by have := HK1.out; have := HK2.out; omega⟩, by repeat (first | exact Drawn0.refl _ | apply Drawn0.step)⟩
        ·rw [if_neg c7] at H
         have c7b0 : ((Go.bits .and .u32 x0_2 1) == 1) = false := beq_eq_false_iff_ne.mpr c7
         have c7b1 : ((Go.bits .and .u32 x0_2 1) != 1) = true := bne_iff_ne.mpr c7
         have H' := qas H
         clear H
         go_wp2
         go_roundg k2
         case measure => have := HK1.out; have := HK2.out; omega
         case rel => exact ⟨(x0_2 / 2), (wrap64 (x6_2 + 1)), (by first | rfl | (simp; done) | (simp [*]; done)), (by first | rfl | (simp; done) | (simp [*]; done)), H', ⟨by have := HK1.out; have := HK2.out; omega⟩, by repeat (first | exact Drawn0.refl _ | apply Drawn0.step)⟩
       ·rw [if_neg c6] at H
        have c6b0 : decide (x6_2 < 8) = false := decide_eq_false c6
        clear c6
        have H' := qas H
        clear H
        go_wp2
        go_roundg k2
        case measure => have := HK1.out; have := HK2.out; omega
        case rel => exact ⟨(x0_2), (wrap64 (x5_1 + 1)), (by first | rfl | (simp; done) | (simp [*]; done)), (by first | rfl | (simp; done) | (simp [*]; done)), H', ⟨by have := HK1.out; have := HK2.out; omega⟩, by repeat (first | exact Drawn0.refl _ | apply Drawn0.step)⟩
    ·rw [if_neg c4] at H
     exact absurd H (by simp)
   ·rw [if_neg c3] at H
    have c3b0 : decide (x5_1 < (a1.size : Int)) = false := decide_eq_false c3
    clear c3
    obtain rfl := Option.some.inj H
    go_wp2
    go_ret
    exact ⟨by first | rfl | (simp; done) | (simp [*]; done), by repeat (first | exact Drawn0.refl _ | apply Drawn0.step)⟩

/-! ### portageref1_Crc: function 60 -/
def portageref1_Crc.f (k : Nat) (a0 : ByteArray) : Option (Int) := (portageref1_turn.f k 4294967295 a0).bind fun t248 => (some (wrap64 (Go.bits .xor .u32 4294967295 t248)))
theorem portageref1_Crc.mono : ∀ a0 k, LeO (portageref1_Crc.f k a0) (portageref1_Crc.f (k + 1) a0) := by
 intro a0 k
 unfold portageref1_Crc.f
 repeat' first
   | (with_reducible exact portageref1_turn.mono _ _ _)
   | (with_reducible exact LeO.refl _)
   | (with_reducible exact LeO.none _)
   | (with_reducible refine LeO.ite ?_ ?_)
   | (with_reducible refine LeO.bind ?_ (fun _ => ?_))
   | exact portageref1_turn.mono _ _ _
   | exact LeO.none _
   | refine LeO.ite ?_ ?_
   | refine LeO.bind ?_ (fun _ => ?_)
set_option maxHeartbeats 8000000 in
set_option maxRecDepth 100000 in
theorem portageref1_Crc.calls (k : Nat) (a0 : ByteArray) (r : Int) (w : World) (h : portageref1_Crc.f k a0 = some r) :
  Calls Tryd.prog 60 #[.string a0] w fun e w' => e = .returned (.int .i64 r) ∧ Drawn0 w w' := by
 have H : ((portageref1_turn.f k 4294967295 a0).bind fun t248 => (some (wrap64 (Go.bits .xor .u32 4294967295 t248)))) = some r := h
 clear h
 replace H := Option.bind_eq_some_iff.mp H
 obtain ⟨t248, A20, H⟩ := H
 replace H : (some (wrap64 (Go.bits .xor .u32 4294967295 t248))) = some r := H
 have A2 := qas A20
 clear A20
 obtain rfl := Option.some.inj H
 go_enter Tryd.func60, Tryd.ntmps60
 go_wp2_with (first | ((with_reducible refine gate_callee (f := 89) rfl ?_); refine goesL_ (some 4) rfl rfl Tryd.func89 (by kernel_rfl) rfl #[.int .u32 4294967295, .string a0] rfl (by (try simp only [List.map_toArray, List.map_cons, List.map_nil]); first | done | rfl | (simp only [List.length_drop, List.length_take]; rfl)) ?_; (with_reducible refine (portageref1_turn.calls k 4294967295 a0 t248 _ A2.out).mono ?_); rintro e w' ⟨rfl, ⟨nd, rfl⟩⟩; refine ⟨_, rfl, ?_⟩))
 go_ret
 exact ⟨by first | rfl | (simp; done) | (simp [*]; done), by repeat (first | exact Drawn0.refl _ | apply Drawn0.step)⟩

/-! ### portagelaw14_small: function 32 -/
def portagelaw14_small.f (k : Nat) (a0 : ByteArray) (a1 : Int) (a2 : Int) (a3 : ByteArray) : Option (ByteArray × Bool × List Int × Int × Int × Int × ByteArray × Int × Int) := if 4 ≤ 35184372088832 then ((some (List.replicate 4 0 : List Int)).bind fun y250 => (if 0 ≤ a1 then (if a1 < (y250.length : Int) then ((portageref1_Crc.f k a3).bind fun t254 => (some (a0, false, (y250.set (a1 : Int).toNat a2), a2, a1, 0, a3, (a3.size : Int), t254))) else (none)) else (none))) else (none)
theorem portagelaw14_small.mono : ∀ a0 a1 a2 a3 k, LeO (portagelaw14_small.f k a0 a1 a2 a3) (portagelaw14_small.f (k + 1) a0 a1 a2 a3) := by
 intro a0 a1 a2 a3 k
 unfold portagelaw14_small.f
 repeat' first
   | (with_reducible exact portageref1_Crc.mono _ _)
   | (with_reducible exact LeO.refl _)
   | (with_reducible exact LeO.none _)
   | (with_reducible refine LeO.ite ?_ ?_)
   | (with_reducible refine LeO.bind ?_ (fun _ => ?_))
   | exact portageref1_Crc.mono _ _
   | exact LeO.none _
   | refine LeO.ite ?_ ?_
   | refine LeO.bind ?_ (fun _ => ?_)
set_option maxHeartbeats 8000000 in
set_option maxRecDepth 100000 in
theorem portagelaw14_small.calls (k : Nat) (a0 : ByteArray) (a1 : Int) (a2 : Int) (a3 : ByteArray) (r1 : ByteArray) (r2 : Bool) (r3 : List Int) (r4 : Int) (r5 : Int) (r6 : Int) (r7 : ByteArray) (r8 : Int) (r9 : Int) (w : World) (h : portagelaw14_small.f k a0 a1 a2 a3 = some (r1, r2, r3, r4, r5, r6, r7, r8, r9)) :
  Calls Tryd.prog 32 #[.string a0, .int .i64 a1, .int .i64 a2, .string a3] w fun e w' => ∃ v2_ : Value, e = .returned (.agg #[.string r1, .bool r2, v2_, .int .i64 r4, .int .i64 r5, .int .i64 r6, .string r7, .int .i64 r8, .int .i64 r9]) ∧ Kd.R (Kd.int .i64) 3 w' w.heap.size (fun _ => True) v2_ r3 ∧ Below w.heap.size w w' := by
 have hu39 := Tryd.underlying39
 have HB := qas (Below.refl w.heap.size w)
 have H : (if 4 ≤ 35184372088832 then ((some (List.replicate 4 0 : List Int)).bind fun y250 => (if 0 ≤ a1 then (if a1 < (y250.length : Int) then ((portageref1_Crc.f k a3).bind fun t254 => (some (a0, false, (y250.set (a1 : Int).toNat a2), a2, a1, 0, a3, (a3.size : Int), t254))) else (none)) else (none))) else (none)) = some (r1, r2, r3, r4, r5, r6, r7, r8, r9) := h
 clear h
 by_cases c5 : 4 ≤ 35184372088832
 ·rw [if_pos c5] at H
  have c5b0 := eq_true c5
  have c5b1 : decide (4 ≤ 35184372088832) = true := decide_eq_true c5
  clear c5
  obtain ⟨y250, hy250⟩ : ∃ y_ : List Int, y_ = (List.replicate 4 0) := ⟨_, rfl⟩
  replace H : (if 0 ≤ a1 then (if a1 < (y250.length : Int) then ((portageref1_Crc.f k a3).bind fun t254 => (some (a0, false, (y250.set (a1 : Int).toNat a2), a2, a1, 0, a3, (a3.size : Int), t254))) else (none)) else (none)) = some (r1, r2, r3, r4, r5, r6, r7, r8, r9) := by first | (rw [hy250]; with_reducible exact H) | (have H2_ := (Option.bind_some _ _).symm.trans H; rw [hy250]; with_reducible exact H2_) | (have H2_ := (Option.bind_some _ _).symm.trans H; with_reducible exact H2_) | with_reducible exact H | (rw [hy250]; exact H) | exact H
  have Ny250 := qas hy250
  clear hy250
  by_cases c6 : 0 ≤ a1
  ·rw [if_pos c6] at H
   have c6b0 : decide (0 ≤ a1) = true := decide_eq_true c6
   clear c6
   by_cases c7 : a1 < (y250.length : Int)
   ·rw [if_pos c7] at H
    have c7b0 : decide (a1 < (y250.length : Int)) = true := decide_eq_true c7
    clear c7
    obtain ⟨y253, hy253⟩ : ∃ y_ : List Int, y_ = (y250.set (a1 : Int).toNat a2) := ⟨_, rfl⟩
    replace H : ((portageref1_Crc.f k a3).bind fun t254 => (some (a0, false, y253, a2, a1, 0, a3, (a3.size : Int), t254))) = some (r1, r2, r3, r4, r5, r6, r7, r8, r9) := by first | (rw [hy253]; with_reducible exact H) | (have H2_ := (Option.bind_some _ _).symm.trans H; rw [hy253]; with_reducible exact H2_) | (have H2_ := (Option.bind_some _ _).symm.trans H; with_reducible exact H2_) | with_reducible exact H | (rw [hy253]; exact H) | exact H
    have Ny253 := qas hy253
    clear hy253
    replace H := Option.bind_eq_some_iff.mp H
    obtain ⟨t254, A90, H⟩ := H
    replace H : (some (a0, false, y253, a2, a1, 0, a3, (a3.size : Int), t254)) = some (r1, r2, r3, r4, r5, r6, r7, r8, r9) := H
    have A9 := qas A90
    clear A90
    simp only [Option.some.injEq, Prod.mk.injEq] at H
    obtain ⟨rfl, rfl, rfl, rfl, rfl, rfl, rfl, rfl, rfl⟩ := H
    go_enter Tryd.func32, Tryd.ntmps32
    go_wp2_with (first | ((with_reducible refine gate_dst (N := 8) rfl ?_); refine box_event ?hg (N := 8) ?hd (cs := #[.string (⟨#[]⟩ : ByteArray), .bool false, .slice none 0 0, .int .i64 0, .int .i64 0, .int .i64 0, .string (⟨#[]⟩ : ByteArray), .int .i64 0, .int .i64 0]) (t := 39) ?hr ?_; (case hd => rfl); (case hg => rfl); (case hr => first | (go_simp; done) | (go_simp; rfl)); intro gb249 hg w10 hbox hb; have n0_ := qas (below_step (by repeat (first | (with_reducible first | exact HB.out | apply qbA | apply qbB | apply qbC) | exact HB.out)) hb); have n1_ := qas (hbox); have n2_ := qas ((by rw [hg]; exact (below_size (by repeat (first | (with_reducible first | exact HB.out | apply qbA | apply qbB | apply qbC) | exact HB.out))) : w.heap.size ≤ gb249)); have n3_ := qas ((by rw [hg]; exact (below_size (by repeat (first | (with_reducible first | exact HB.out | apply qbA | apply qbB | apply qbC) | exact HB.out))) : w.heap.size ≤ gb249)); clear HB; have HB := n0_; have BK249 := n1_; have GW249 := n2_; have GE249 := n3_; clear n0_ n1_ n2_ n3_; clear hb hbox hg) | ((with_reducible refine gate_dst (N := 10) rfl ?_); refine Kd.R_make (Kd.int .i64) _ 3 rfl (N := 10) rfl 37 _ _ rfl 4 rfl rfl Tryd.underlying37 (.int .i64 0) 8 info3 rfl (by decide) (by omega) 0 (ok := fun _ => True) (okp := fun _ => True) rfl (fun _ hk => hk) trivial (by omega) (by omega) (Below.refl _ _) (Nat.le_refl _) ?_; intro v251 w11 ho12 hb hg_ hnew_; clear hg_ hnew_; (first | rw [← Ny250.out] at ho12 | (simp only [Int.reduceToNat] at ho12; rw [← Ny250.out] at ho12)); have n0_ := qas (Kd.R_lower ho12 (below_size (by repeat (first | (with_reducible first | exact HB.out | apply qbA | apply qbB | apply qbC | refine below_set ?_ GE249.out) | exact HB.out)))); have n1_ := qas (blk_below (g := gb249) (o := .cells #[.string (⟨#[]⟩ : ByteArray), .bool false, .slice none 0 0, .int .i64 0, .int .i64 0, .int .i64 0, .string (⟨#[]⟩ : ByteArray), .int .i64 0, .int .i64 0] 39 (0, 0)) (by (with_reducible repeat (first | refine qkA ?_ _ | refine qkB ?_ | refine qkC ?_ _)); exact BK249.out) hb); have n2_ := qas (below_step (by repeat (first | (with_reducible first | exact HB.out | apply qbA | apply qbB | apply qbC | refine below_set ?_ GE249.out) | exact HB.out)) hb); clear BK249; clear HB; have HO252 := n0_; have BK249 := n1_; have HB := n2_; clear n0_ n1_ n2_; clear hb ho12; have p8 : 0 ≤ (a1 : Int) := qde (by first | (with_reducible assumption) | assumption); have q8 : (a1 : Int) < ((y250.length : Int) : Int) := qde (by first | (with_reducible assumption) | assumption); obtain ⟨go8, co8, eo8, gb8, gl8, cl8, HG8⟩ := Kd.R_form HO252.out (by omega); (first | cases eo8 | (injection eo8 with ea_ en_ ec_; (first | subst ea_ | (injection ea_ with ea_; subst ea_)); subst ec_; clear en_)); have GB8 := qas gb8; have GG8 := qas HG8; clear gb8 gl8 HG8; obtain ⟨hx8_0, hf8_0⟩ := Kd.R_celln 0 HO252.out (a1 : Int) p8 q8; replace p8 := eq_true p8; replace q8 := eq_true q8; obtain ⟨hy13_, hz13_⟩ := Kd.R_celln 0 HO252.out (a1 : Int) (qde (by first | (with_reducible assumption) | assumption)) (qde (by first | (with_reducible assumption) | assumption)); have HP13 := Kd.R_putg HO252.out (a1 : Int) a2) | ((with_reducible refine gate_store (t := 3) (p := 14) rfl ?_); refine store_event (t := 3) (p := 14) (v := ?vo_w14) (w1 := (w11.setCell ⟨go8, (a1 : Int).toNat, none⟩ (.int .i64 a2))) ?hg ?ho ?hn ?hr ?_; (case ho => rfl); (case hg => rfl); (case hn => rfl); (case hr => first | (go_simp; done) | (go_simp; rfl)); intro w14 hw; have hg : w11.grownBy w14 (some go8) := (by rw [hw]; exact HP13.2); have hp_ : Kd.R (Kd.int .i64) 3 w14 w.heap.size (fun _ => True) (.slice (some ⟨go8, 0, none⟩) y250.length co8) y253 := (by rw [hw, Ny253.out]; exact HP13.1); clear HP13; have n0_ := qas (blk_grown (g := gb249) (o := .cells #[.string (⟨#[]⟩ : ByteArray), .bool false, .slice none 0 0, .int .i64 0, .int .i64 0, .int .i64 0, .string (⟨#[]⟩ : ByteArray), .int .i64 0, .int .i64 0] 39 (0, 0)) (by (with_reducible repeat (first | refine qkA ?_ _ | refine qkB ?_ | refine qkC ?_ _)); exact BK249.out) hg (Kd.R_ne HO252.out BK249.out (by decide))); have n1_ := qas (hp_); have n2_ := qas ((by rw [hw]; exact below_set (HB.out) GB8.out : Below w.heap.size w w14)); clear BK249; clear HO252; clear HB; have BK249 := n0_; have HO252 := n1_; have HB := n2_; clear n0_ n1_ n2_; clear hg hw hp_) | ((with_reducible refine gate_callee (f := 60) rfl ?_); refine goesL_ (some 23) rfl rfl Tryd.func60 (by kernel_rfl) rfl #[.string a3] rfl (by (try simp only [List.map_toArray, List.map_cons, List.map_nil]); first | done | rfl | (simp only [List.length_drop, List.length_take]; rfl)) ?_; (with_reducible refine (portageref1_Crc.calls k a3 t254 _ A9.out).mono ?_); rintro e w' ⟨rfl, ⟨nd, rfl⟩⟩; refine ⟨_, rfl, ?_⟩; (try (rw [drewN_self w14]; generalize hq_ : World.drewN w14 _ = w14; have n0_ : Aside0 (Kd.R (Kd.int .i64) 3 w14 w.heap.size (fun _ => True) (.slice (some ⟨go8, 0, none⟩) y250.length co8) y253) := ⟨by rw [← hq_]; exact (by (with_reducible repeat (first | apply Kd.R_alloc | apply Kd.R_drewN | apply Kd.R_drew)); exact HO252.out)⟩; have n1_ : Aside0 (w14.heap[gb249]? = some (.cells #[.string (⟨#[]⟩ : ByteArray), .bool false, .slice none 0 0, .int .i64 0, .int .i64 0, .int .i64 0, .string (⟨#[]⟩ : ByteArray), .int .i64 0, .int .i64 0] 39 (0, 0))) := ⟨by rw [← hq_]; exact (by (with_reducible repeat (first | refine qkA ?_ _ | refine qkB ?_ | refine qkC ?_ _)); exact BK249.out)⟩; have n2_ : Aside0 (Below w.heap.size w w14) := ⟨by rw [← hq_]; exact (by repeat (first | (with_reducible first | exact HB.out | apply qbA | apply qbB | apply qbC | refine below_set ?_ GE249.out) | exact HB.out))⟩; clear HO252 BK249 HB hq_; have HO252 := n0_; have BK249 := n1_; have HB := n2_; clear n0_ n1_ n2_)); have hcz15_0 : w14.cell? ⟨gb249, 0, none⟩ = some (.string (⟨#[]⟩ : ByteArray)) := (blk_cell BK249.out 0).trans rfl; have hcz15_1 : w14.cell? ⟨gb249, 1, none⟩ = some (.bool false) := (blk_cell BK249.out 1).trans rfl; have hcz15_2 : w14.cell? ⟨gb249, 2, none⟩ = some (.slice none 0 0) := (blk_cell BK249.out 2).trans rfl; have hcz15_3 : w14.cell? ⟨gb249, 3, none⟩ = some (.int .i64 0) := (blk_cell BK249.out 3).trans rfl; have hcz15_4 : w14.cell? ⟨gb249, 4, none⟩ = some (.int .i64 0) := (blk_cell BK249.out 4).trans rfl; have hcz15_5 : w14.cell? ⟨gb249, 5, none⟩ = some (.int .i64 0) := (blk_cell BK249.out 5).trans rfl; have hcz15_6 : w14.cell? ⟨gb249, 6, none⟩ = some (.string (⟨#[]⟩ : ByteArray)) := (blk_cell BK249.out 6).trans rfl; have hcz15_7 : w14.cell? ⟨gb249, 7, none⟩ = some (.int .i64 0) := (blk_cell BK249.out 7).trans rfl; have hcz15_8 : w14.cell? ⟨gb249, 8, none⟩ = some (.int .i64 0) := (blk_cell BK249.out 8).trans rfl; have hfz15_0 := blk_frozen BK249.out 0; have hfz15_1 := blk_frozen BK249.out 1; have hfz15_2 := blk_frozen BK249.out 2; have hfz15_3 := blk_frozen BK249.out 3; have hfz15_4 := blk_frozen BK249.out 4; have hfz15_5 := blk_frozen BK249.out 5; have hfz15_6 := blk_frozen BK249.out 6; have hfz15_7 := blk_frozen BK249.out 7; have hfz15_8 := blk_frozen BK249.out 8))
    refine bodyPost_ret (results_cell_row rfl _ _ gb249 39 #[.string a0, .bool false, .slice (some ⟨go8, 0, none⟩) y250.length co8, .int .i64 a2, .int .i64 a1, .int .i64 0, .string a3, .int .i64 (a3.size : Int), .int .i64 t254] (0, 0) _ rfl (by (with_reducible repeat (first | refine qkA ?_ _ | refine qkB ?_ | refine qkC ?_ _)); refine blk_put (cs := #[.string a0, .bool false, .slice (some ⟨go8, 0, none⟩) y250.length co8, .int .i64 a2, .int .i64 a1, .int .i64 0, .string a3, .int .i64 (a3.size : Int), .int .i64 0]) ?_ 8 _ rfl; (with_reducible repeat (first | refine qkA ?_ _ | refine qkB ?_ | refine qkC ?_ _)); refine blk_put (cs := #[.string a0, .bool false, .slice (some ⟨go8, 0, none⟩) y250.length co8, .int .i64 a2, .int .i64 a1, .int .i64 0, .string a3, .int .i64 0, .int .i64 0]) ?_ 7 _ rfl; (with_reducible repeat (first | refine qkA ?_ _ | refine qkB ?_ | refine qkC ?_ _)); refine blk_put (cs := #[.string a0, .bool false, .slice (some ⟨go8, 0, none⟩) y250.length co8, .int .i64 a2, .int .i64 a1, .int .i64 0, .string (⟨#[]⟩ : ByteArray), .int .i64 0, .int .i64 0]) ?_ 6 _ rfl; (with_reducible repeat (first | refine qkA ?_ _ | refine qkB ?_ | refine qkC ?_ _)); refine blk_put (cs := #[.string a0, .bool false, .slice (some ⟨go8, 0, none⟩) y250.length co8, .int .i64 a2, .int .i64 a1, .int .i64 0, .string (⟨#[]⟩ : ByteArray), .int .i64 0, .int .i64 0]) ?_ 5 _ rfl; (with_reducible repeat (first | refine qkA ?_ _ | refine qkB ?_ | refine qkC ?_ _)); refine blk_put (cs := #[.string a0, .bool false, .slice (some ⟨go8, 0, none⟩) y250.length co8, .int .i64 a2, .int .i64 0, .int .i64 0, .string (⟨#[]⟩ : ByteArray), .int .i64 0, .int .i64 0]) ?_ 4 _ rfl; (with_reducible repeat (first | refine qkA ?_ _ | refine qkB ?_ | refine qkC ?_ _)); refine blk_put (cs := #[.string a0, .bool false, .slice (some ⟨go8, 0, none⟩) y250.length co8, .int .i64 0, .int .i64 0, .int .i64 0, .string (⟨#[]⟩ : ByteArray), .int .i64 0, .int .i64 0]) ?_ 3 _ rfl; (with_reducible repeat (first | refine qkA ?_ _ | refine qkB ?_ | refine qkC ?_ _)); refine blk_put (cs := #[.string a0, .bool false, .slice none 0 0, .int .i64 0, .int .i64 0, .int .i64 0, .string (⟨#[]⟩ : ByteArray), .int .i64 0, .int .i64 0]) ?_ 2 _ rfl; (with_reducible repeat (first | refine qkA ?_ _ | refine qkB ?_ | refine qkC ?_ _)); refine blk_put (cs := #[.string a0, .bool false, .slice none 0 0, .int .i64 0, .int .i64 0, .int .i64 0, .string (⟨#[]⟩ : ByteArray), .int .i64 0, .int .i64 0]) ?_ 1 _ rfl; (with_reducible repeat (first | refine qkA ?_ _ | refine qkB ?_ | refine qkC ?_ _)); refine blk_put (cs := #[.string (⟨#[]⟩ : ByteArray), .bool false, .slice none 0 0, .int .i64 0, .int .i64 0, .int .i64 0, .string (⟨#[]⟩ : ByteArray), .int .i64 0, .int .i64 0]) ?_ 0 _ rfl; (with_reducible repeat (first | refine qkA ?_ _ | refine qkB ?_ | refine qkC ?_ _)); exact BK249.out) Tryd.underlying39 rfl (by kernel_rfl)) rfl ?_
    exact ⟨_, by first | rfl | (simp [errW_none, errW_some] <;> rfl) | (simp [*, errW_none, errW_some] <;> rfl), by (with_reducible repeat (first | apply Kd.R_alloc | apply Kd.R_drewN | apply Kd.R_drew)); exact Kd.R_mono (Kd.R_far (p := ⟨gb249, 8, none⟩) (Kd.R_far (p := ⟨gb249, 7, none⟩) (Kd.R_far (p := ⟨gb249, 6, none⟩) (Kd.R_far (p := ⟨gb249, 5, none⟩) (Kd.R_far (p := ⟨gb249, 4, none⟩) (Kd.R_far (p := ⟨gb249, 3, none⟩) (Kd.R_far (p := ⟨gb249, 2, none⟩) (Kd.R_far (p := ⟨gb249, 1, none⟩) (Kd.R_far (p := ⟨gb249, 0, none⟩) (Kd.R_types HO252.out BK249.out (by decide)) (fun _ hk => hk.2) (.string a0)) (fun _ hk => hk.2) (.bool false)) (fun _ hk => hk.2) (.slice (some ⟨go8, 0, none⟩) y250.length co8)) (fun _ hk => hk.2) (.int .i64 a2)) (fun _ hk => hk.2) (.int .i64 a1)) (fun _ hk => hk.2) (.int .i64 0)) (fun _ hk => hk.2) (.string a3)) (fun _ hk => hk.2) (.int .i64 (a3.size : Int))) (fun _ hk => hk.2) (.int .i64 t254)) (fun _ hk => trivial), by repeat (first | (with_reducible first | exact HB.out | apply qbA | apply qbB | apply qbC | refine below_set ?_ GE249.out) | exact HB.out)⟩
   ·rw [if_neg c7] at H
    exact absurd H (by simp)
  ·rw [if_neg c6] at H
   exact absurd H (by simp)
 ·rw [if_neg c5] at H
  exact absurd H (by simp)

/-! ### portagelaw14_awake: function 31 -/
def portagelaw14_awake.f (k : Nat)  : Option (Bool) := (portagelaw14_small.f k (⟨#[97]⟩ : ByteArray) 0 1 (⟨#[104, 105]⟩ : ByteArray)).bind fun bt255 => ((portagelaw14_small.f k (⟨#[98]⟩ : ByteArray) 2 5 (⟨#[]⟩ : ByteArray)).bind fun bt266 => ((some (([(⟨bt255.1, bt255.2.1, bt255.2.2.1, bt255.2.2.2.1, bt255.2.2.2.2.1, bt255.2.2.2.2.2.1, bt255.2.2.2.2.2.2.1, bt255.2.2.2.2.2.2.2.1, bt255.2.2.2.2.2.2.2.2⟩ : S39), (⟨bt266.1, bt266.2.1, bt266.2.2.1, bt266.2.2.2.1, bt266.2.2.2.2.1, bt266.2.2.2.2.2.1, bt266.2.2.2.2.2.2.1, bt266.2.2.2.2.2.2.2.1, bt266.2.2.2.2.2.2.2.2⟩ : S39)] : List (S39)) : List (S39))).bind fun y277 => ((zipput_Put.f y277).bind fun bt281 => ((zipget_Get.f k bt281.1).bind fun bt283 => (if bt281.1.size + 1 ≤ 9223372036854775807 then ((zipget_Get.f k (bt281.1 ++ (⟨#[120]⟩ : ByteArray))).bind fun bt288 => ((zipget_Get.f k (⟨#[]⟩ : ByteArray)).bind fun bt293 => ((portagelaw0_Num.f bt281.2).bind fun t298 => (if t298 = 0 then ((portagelaw0_SameFolder.f k y277 bt283.1).bind fun t299 => (if t299 = true then ((portagelaw0_Num.f bt283.2).bind fun t300 => (if t300 = 0 then ((portagelaw0_Num.f bt288.2).bind fun t301 => (if t301 = 1400 then ((portagelaw0_Num.f bt293.2).bind fun t302 => (some (t302 == 1400))) else (none))) else (none))) else (none))) else (none))))) else (none))))))
theorem portagelaw14_awake.mono : ∀ k, LeO (portagelaw14_awake.f k ) (portagelaw14_awake.f (k + 1) ) := by
 intro  k
 unfold portagelaw14_awake.f
 repeat' first
   | (with_reducible exact portagelaw0_SameFolder.mono _ _ _)
   | (with_reducible exact portagelaw14_small.mono _ _ _ _ _)
   | (with_reducible exact zipget_Get.mono _ _)
   | (with_reducible exact LeO.refl _)
   | (with_reducible exact LeO.none _)
   | (with_reducible refine LeO.ite ?_ ?_)
   | (with_reducible refine LeO.bind ?_ (fun _ => ?_))
   | exact portagelaw0_SameFolder.mono _ _ _
   | exact portagelaw14_small.mono _ _ _ _ _
   | exact zipget_Get.mono _ _
   | exact LeO.none _
   | refine LeO.ite ?_ ?_
   | refine LeO.bind ?_ (fun _ => ?_)
set_option maxHeartbeats 8000000 in
set_option maxRecDepth 100000 in
theorem portagelaw14_awake.calls (k : Nat)  (r : Bool) (w : World) (h : portagelaw14_awake.f k  = some r) :
  Calls Tryd.prog 31 #[] w fun e w' => e = .returned (.bool r) ∧ Below w.heap.size w w' := by
 have hu24 := Tryd.underlying24
 have HB := qas (Below.refl w.heap.size w)
 have H : ((portagelaw14_small.f k (⟨#[97]⟩ : ByteArray) 0 1 (⟨#[104, 105]⟩ : ByteArray)).bind fun bt255 => ((portagelaw14_small.f k (⟨#[98]⟩ : ByteArray) 2 5 (⟨#[]⟩ : ByteArray)).bind fun bt266 => ((some (([(⟨bt255.1, bt255.2.1, bt255.2.2.1, bt255.2.2.2.1, bt255.2.2.2.2.1, bt255.2.2.2.2.2.1, bt255.2.2.2.2.2.2.1, bt255.2.2.2.2.2.2.2.1, bt255.2.2.2.2.2.2.2.2⟩ : S39), (⟨bt266.1, bt266.2.1, bt266.2.2.1, bt266.2.2.2.1, bt266.2.2.2.2.1, bt266.2.2.2.2.2.1, bt266.2.2.2.2.2.2.1, bt266.2.2.2.2.2.2.2.1, bt266.2.2.2.2.2.2.2.2⟩ : S39)] : List (S39)) : List (S39))).bind fun y277 => ((zipput_Put.f y277).bind fun bt281 => ((zipget_Get.f k bt281.1).bind fun bt283 => (if bt281.1.size + 1 ≤ 9223372036854775807 then ((zipget_Get.f k (bt281.1 ++ (⟨#[120]⟩ : ByteArray))).bind fun bt288 => ((zipget_Get.f k (⟨#[]⟩ : ByteArray)).bind fun bt293 => ((portagelaw0_Num.f bt281.2).bind fun t298 => (if t298 = 0 then ((portagelaw0_SameFolder.f k y277 bt283.1).bind fun t299 => (if t299 = true then ((portagelaw0_Num.f bt283.2).bind fun t300 => (if t300 = 0 then ((portagelaw0_Num.f bt288.2).bind fun t301 => (if t301 = 1400 then ((portagelaw0_Num.f bt293.2).bind fun t302 => (some (t302 == 1400))) else (none))) else (none))) else (none))) else (none))))) else (none))))))) = some r := h
 clear h
 replace H := Option.bind_eq_some_iff.mp H
 obtain ⟨⟨t255, t256, t257, t260, t261, t262, t263, t264, t265⟩, A10, H⟩ := H
 replace H : ((portagelaw14_small.f k (⟨#[98]⟩ : ByteArray) 2 5 (⟨#[]⟩ : ByteArray)).bind fun bt266 => ((some (([(⟨t255, t256, t257, t260, t261, t262, t263, t264, t265⟩ : S39), (⟨bt266.1, bt266.2.1, bt266.2.2.1, bt266.2.2.2.1, bt266.2.2.2.2.1, bt266.2.2.2.2.2.1, bt266.2.2.2.2.2.2.1, bt266.2.2.2.2.2.2.2.1, bt266.2.2.2.2.2.2.2.2⟩ : S39)] : List (S39)) : List (S39))).bind fun y277 => ((zipput_Put.f y277).bind fun bt281 => ((zipget_Get.f k bt281.1).bind fun bt283 => (if bt281.1.size + 1 ≤ 9223372036854775807 then ((zipget_Get.f k (bt281.1 ++ (⟨#[120]⟩ : ByteArray))).bind fun bt288 => ((zipget_Get.f k (⟨#[]⟩ : ByteArray)).bind fun bt293 => ((portagelaw0_Num.f bt281.2).bind fun t298 => (if t298 = 0 then ((portagelaw0_SameFolder.f k y277 bt283.1).bind fun t299 => (if t299 = true then ((portagelaw0_Num.f bt283.2).bind fun t300 => (if t300 = 0 then ((portagelaw0_Num.f bt288.2).bind fun t301 => (if t301 = 1400 then ((portagelaw0_Num.f bt293.2).bind fun t302 => (some (t302 == 1400))) else (none))) else (none))) else (none))) else (none))))) else (none)))))) = some r := H
 have A1 := qas A10
 clear A10
 replace H := Option.bind_eq_some_iff.mp H
 obtain ⟨⟨t266, t267, t268, t271, t272, t273, t274, t275, t276⟩, A20, H⟩ := H
 replace H : ((some (([(⟨t255, t256, t257, t260, t261, t262, t263, t264, t265⟩ : S39), (⟨t266, t267, t268, t271, t272, t273, t274, t275, t276⟩ : S39)] : List (S39)) : List (S39))).bind fun y277 => ((zipput_Put.f y277).bind fun bt281 => ((zipget_Get.f k bt281.1).bind fun bt283 => (if bt281.1.size + 1 ≤ 9223372036854775807 then ((zipget_Get.f k (bt281.1 ++ (⟨#[120]⟩ : ByteArray))).bind fun bt288 => ((zipget_Get.f k (⟨#[]⟩ : ByteArray)).bind fun bt293 => ((portagelaw0_Num.f bt281.2).bind fun t298 => (if t298 = 0 then ((portagelaw0_SameFolder.f k y277 bt283.1).bind fun t299 => (if t299 = true then ((portagelaw0_Num.f bt283.2).bind fun t300 => (if t300 = 0 then ((portagelaw0_Num.f bt288.2).bind fun t301 => (if t301 = 1400 then ((portagelaw0_Num.f bt293.2).bind fun t302 => (some (t302 == 1400))) else (none))) else (none))) else (none))) else (none))))) else (none))))) = some r := H
 have A2 := qas A20
 clear A20
 obtain ⟨y277, hy277⟩ : ∃ y_ : List (S39), y_ = (([(⟨t255, t256, t257, t260, t261, t262, t263, t264, t265⟩ : S39), (⟨t266, t267, t268, t271, t272, t273, t274, t275, t276⟩ : S39)] : List (S39))) := ⟨_, rfl⟩
 replace H : ((zipput_Put.f y277).bind fun bt281 => ((zipget_Get.f k bt281.1).bind fun bt283 => (if bt281.1.size + 1 ≤ 9223372036854775807 then ((zipget_Get.f k (bt281.1 ++ (⟨#[120]⟩ : ByteArray))).bind fun bt288 => ((zipget_Get.f k (⟨#[]⟩ : ByteArray)).bind fun bt293 => ((portagelaw0_Num.f bt281.2).bind fun t298 => (if t298 = 0 then ((portagelaw0_SameFolder.f k y277 bt283.1).bind fun t299 => (if t299 = true then ((portagelaw0_Num.f bt283.2).bind fun t300 => (if t300 = 0 then ((portagelaw0_Num.f bt288.2).bind fun t301 => (if t301 = 1400 then ((portagelaw0_Num.f bt293.2).bind fun t302 => (some (t302 == 1400))) else (none))) else (none))) else (none))) else (none))))) else (none)))) = some r := by first | (rw [hy277]; with_reducible exact H) | (have H2_ := (Option.bind_some _ _).symm.trans H; rw [hy277]; with_reducible exact H2_) | (have H2_ := (Option.bind_some _ _).symm.trans H; with_reducible exact H2_) | with_reducible exact H | (rw [hy277]; exact H) | exact H
 have Ny277 := qas hy277
 clear hy277
 replace H := Option.bind_eq_some_iff.mp H
 obtain ⟨⟨t281, t282⟩, A30, H⟩ := H
 replace H : ((zipget_Get.f k t281).bind fun bt283 => (if t281.size + 1 ≤ 9223372036854775807 then ((zipget_Get.f k (t281 ++ (⟨#[120]⟩ : ByteArray))).bind fun bt288 => ((zipget_Get.f k (⟨#[]⟩ : ByteArray)).bind fun bt293 => ((portagelaw0_Num.f t282).bind fun t298 => (if t298 = 0 then ((portagelaw0_SameFolder.f k y277 bt283.1).bind fun t299 => (if t299 = true then ((portagelaw0_Num.f bt283.2).bind fun t300 => (if t300 = 0 then ((portagelaw0_Num.f bt288.2).bind fun t301 => (if t301 = 1400 then ((portagelaw0_Num.f bt293.2).bind fun t302 => (some (t302 == 1400))) else (none))) else (none))) else (none))) else (none))))) else (none))) = some r := H
 have A3 := qas A30
 clear A30
 replace H := Option.bind_eq_some_iff.mp H
 obtain ⟨⟨t283, t286⟩, A40, H⟩ := H
 replace H : (if t281.size + 1 ≤ 9223372036854775807 then ((zipget_Get.f k (t281 ++ (⟨#[120]⟩ : ByteArray))).bind fun bt288 => ((zipget_Get.f k (⟨#[]⟩ : ByteArray)).bind fun bt293 => ((portagelaw0_Num.f t282).bind fun t298 => (if t298 = 0 then ((portagelaw0_SameFolder.f k y277 t283).bind fun t299 => (if t299 = true then ((portagelaw0_Num.f t286).bind fun t300 => (if t300 = 0 then ((portagelaw0_Num.f bt288.2).bind fun t301 => (if t301 = 1400 then ((portagelaw0_Num.f bt293.2).bind fun t302 => (some (t302 == 1400))) else (none))) else (none))) else (none))) else (none))))) else (none)) = some r := H
 have A4 := qas A40
 clear A40
 by_cases c5 : t281.size + 1 ≤ 9223372036854775807
 ·rw [if_pos c5] at H
  have c5b0 := eq_true c5
  have c5b1 : decide (t281.size + 1 ≤ 9223372036854775807) = true := decide_eq_true c5
  try have c5b2 : (9223372036854775807 < t281.size + 1) = False := eq_false (Nat.not_lt.2 c5)
  replace H := Option.bind_eq_some_iff.mp H
  obtain ⟨⟨t288, t291⟩, A60, H⟩ := H
  replace H : ((zipget_Get.f k (⟨#[]⟩ : ByteArray)).bind fun bt293 => ((portagelaw0_Num.f t282).bind fun t298 => (if t298 = 0 then ((portagelaw0_SameFolder.f k y277 t283).bind fun t299 => (if t299 = true then ((portagelaw0_Num.f t286).bind fun t300 => (if t300 = 0 then ((portagelaw0_Num.f t291).bind fun t301 => (if t301 = 1400 then ((portagelaw0_Num.f bt293.2).bind fun t302 => (some (t302 == 1400))) else (none))) else (none))) else (none))) else (none)))) = some r := H
  have A6 := qas A60
  clear A60
  replace H := Option.bind_eq_some_iff.mp H
  obtain ⟨⟨t293, t296⟩, A70, H⟩ := H
  replace H : ((portagelaw0_Num.f t282).bind fun t298 => (if t298 = 0 then ((portagelaw0_SameFolder.f k y277 t283).bind fun t299 => (if t299 = true then ((portagelaw0_Num.f t286).bind fun t300 => (if t300 = 0 then ((portagelaw0_Num.f t291).bind fun t301 => (if t301 = 1400 then ((portagelaw0_Num.f t296).bind fun t302 => (some (t302 == 1400))) else (none))) else (none))) else (none))) else (none))) = some r := H
  have A7 := qas A70
  clear A70
  replace H := Option.bind_eq_some_iff.mp H
  obtain ⟨t298, A80, H⟩ := H
  replace H : (if t298 = 0 then ((portagelaw0_SameFolder.f k y277 t283).bind fun t299 => (if t299 = true then ((portagelaw0_Num.f t286).bind fun t300 => (if t300 = 0 then ((portagelaw0_Num.f t291).bind fun t301 => (if t301 = 1400 then ((portagelaw0_Num.f t296).bind fun t302 => (some (t302 == 1400))) else (none))) else (none))) else (none))) else (none)) = some r := H
  have A8 := qas A80
  clear A80
  by_cases c9 : t298 = 0
  ·rw [if_pos c9] at H
   have c9b0 : (t298 == 0) = true := beq_iff_eq.mpr c9
   have c9b1 : (t298 != 0) = false := bne_eq_false_iff_eq.mpr c9
   clear c9
   replace H := Option.bind_eq_some_iff.mp H
   obtain ⟨t299, A100, H⟩ := H
   replace H : (if t299 = true then ((portagelaw0_Num.f t286).bind fun t300 => (if t300 = 0 then ((portagelaw0_Num.f t291).bind fun t301 => (if t301 = 1400 then ((portagelaw0_Num.f t296).bind fun t302 => (some (t302 == 1400))) else (none))) else (none))) else (none)) = some r := H
   have A10 := qas A100
   clear A100
   by_cases c11 : t299 = true
   ·subst c11
    have H1 : ((portagelaw0_Num.f t286).bind fun t300 => (if t300 = 0 then ((portagelaw0_Num.f t291).bind fun t301 => (if t301 = 1400 then ((portagelaw0_Num.f t296).bind fun t302 => (some (t302 == 1400))) else (none))) else (none))) = some r := by rw [if_pos rfl] at H; exact H
    clear H
    have H := H1
    clear H1
    replace H := Option.bind_eq_some_iff.mp H
    obtain ⟨t300, A120, H⟩ := H
    replace H : (if t300 = 0 then ((portagelaw0_Num.f t291).bind fun t301 => (if t301 = 1400 then ((portagelaw0_Num.f t296).bind fun t302 => (some (t302 == 1400))) else (none))) else (none)) = some r := H
    have A12 := qas A120
    clear A120
    by_cases c13 : t300 = 0
    ·rw [if_pos c13] at H
     have c13b0 : (t300 == 0) = true := beq_iff_eq.mpr c13
     have c13b1 : (t300 != 0) = false := bne_eq_false_iff_eq.mpr c13
     clear c13
     replace H := Option.bind_eq_some_iff.mp H
     obtain ⟨t301, A140, H⟩ := H
     replace H : (if t301 = 1400 then ((portagelaw0_Num.f t296).bind fun t302 => (some (t302 == 1400))) else (none)) = some r := H
     have A14 := qas A140
     clear A140
     by_cases c15 : t301 = 1400
     ·rw [if_pos c15] at H
      have c15b0 : (t301 == 1400) = true := beq_iff_eq.mpr c15
      have c15b1 : (t301 != 1400) = false := bne_eq_false_iff_eq.mpr c15
      clear c15
      replace H := Option.bind_eq_some_iff.mp H
      obtain ⟨t302, A160, H⟩ := H
      replace H : (some (t302 == 1400)) = some r := H
      have A16 := qas A160
      clear A160
      obtain rfl := Option.some.inj H
      go_enter Tryd.func31, Tryd.ntmps31
      go_wp2_with (first | ((with_reducible refine gate_callee (f := 32) rfl ?_); refine goesL_ (some 10) rfl rfl Tryd.func32 (by kernel_rfl) rfl #[.string (⟨#[97]⟩ : ByteArray), .int .i64 0, .int .i64 1, .string (⟨#[104, 105]⟩ : ByteArray)] rfl (by (try simp only [List.map_toArray, List.map_cons, List.map_nil]); first | done | rfl | (simp only [List.length_drop, List.length_take]; rfl)) ?_; (with_reducible refine (portagelaw14_small.calls k (⟨#[97]⟩ : ByteArray) 0 1 (⟨#[104, 105]⟩ : ByteArray) t255 t256 t257 t260 t261 t262 t263 t264 t265 _ A1.out).mono ?_); rintro e w17 ⟨v258, rfl, ho0, hb⟩; refine ⟨_, rfl, ?_⟩; have n0_ := qas (Kd.R_lower ho0 (below_size (by repeat (first | (with_reducible first | exact HB.out | apply qbA | apply qbB | apply qbC) | exact HB.out)))); have n1_ := qas (below_step (by repeat (first | (with_reducible first | exact HB.out | apply qbA | apply qbB | apply qbC) | exact HB.out)) hb); clear HB; have HO259 := n0_; have HB := n1_; clear n0_ n1_; (try clear hb); (try clear hb2); (try clear hk); (try clear hi); (try clear ho0)) | ((with_reducible refine gate_callee (f := 32) rfl ?_); refine goesL_ (some 11) rfl rfl Tryd.func32 (by kernel_rfl) rfl #[.string (⟨#[98]⟩ : ByteArray), .int .i64 2, .int .i64 5, .string (⟨#[]⟩ : ByteArray)] rfl (by (try simp only [List.map_toArray, List.map_cons, List.map_nil]); first | done | rfl | (simp only [List.length_drop, List.length_take]; rfl)) ?_; (with_reducible refine (portagelaw14_small.calls k (⟨#[98]⟩ : ByteArray) 2 5 (⟨#[]⟩ : ByteArray) t266 t267 t268 t271 t272 t273 t274 t275 t276 _ A2.out).mono ?_); rintro e w18 ⟨v269, rfl, ho0, hb⟩; refine ⟨_, rfl, ?_⟩; have n0_ := qas (Kd.R_elder' (by (with_reducible repeat (first | apply Kd.R_alloc | apply Kd.R_drewN | apply Kd.R_drew)); exact HO259.out) (Kd.R_base ho0) hb); have n1_ := qas (Kd.R_lower (Kd.R_new' ho0 (Kd.R_lt (by (with_reducible repeat (first | apply Kd.R_alloc | apply Kd.R_drewN | apply Kd.R_drew)); exact HO259.out))) (below_size (by repeat (first | (with_reducible first | exact HB.out | apply qbA | apply qbB | apply qbC) | exact HB.out)))); have n2_ := qas (below_step (by repeat (first | (with_reducible first | exact HB.out | apply qbA | apply qbB | apply qbC) | exact HB.out)) hb); clear HO259; clear HB; have HO259 := n0_; have HO270 := n1_; have HB := n2_; clear n0_ n1_ n2_; (try clear hb); (try clear hb2); (try clear hk); (try clear hi); (try clear ho0); obtain ⟨Ao19, co19, eo19⟩ := Kd.R_slice HO259.out; subst eo19; obtain ⟨Ao20, co20, eo20⟩ := Kd.R_slice HO270.out; subst eo20) | ((with_reducible refine gate_dst (N := 12) rfl ?_); refine Kd.N_lit k39 _ 39 ?hg (N' := 12) ?hd (xs := ([(⟨t255, t256, t257, t260, t261, t262, t263, t264, t265⟩ : S39), (⟨t266, t267, t268, t271, t272, t273, t274, t275, t276⟩ : S39)] : List (S39))) (inner := [.string t255, .bool t256, .slice Ao19 t257.length co19, .int .i64 t260, .int .i64 t261, .int .i64 t262, .string t263, .int .i64 t264, .int .i64 t265, .string t266, .bool t267, .slice Ao20 t268.length co20, .int .i64 t271, .int .i64 t272, .int .i64 t273, .string t274, .int .i64 t275, .int .i64 t276]) (ok := (fun _ => True)) (okp := (fun _ => True)) ?hr ?hp (fun _ hk => hk) ((show ∀ k_, w18.heap.size ≤ k_ → (fun _ => True) k_ from fun k_ hk => trivial) _ (Nat.le_refl _)) (Below.refl _ _) (Nat.le_refl _) (by simp) ?_; (case hd => rfl); (case hg => rfl); (case hr => first | (go_simp; done) | (go_simp; rfl)); (case hp => exact (Reps.c9 (show Kd.FK k39 _ _ (⟨t255, t256, t257, t260, t261, t262, t263, t264, t265⟩ : S39) [.string t255, .bool t256, .slice Ao19 t257.length co19, .int .i64 t260, .int .i64 t261, .int .i64 t262, .string t263, .int .i64 t264, .int .i64 t265] from (k39_mkF _ _ (⟨t255, t256, t257, t260, t261, t262, t263, t264, t265⟩ : S39) (Kd.R_reads' (Kd.R_mono (ok' := (fun _ => True)) (HO259.out) (fun k_ hk => trivial))).2.1 (Kd.R_F (Kd.R_mono (ok' := (fun _ => True)) (HO259.out) (fun k_ hk => trivial))))) (Reps.c9 (show Kd.FK k39 _ _ (⟨t266, t267, t268, t271, t272, t273, t274, t275, t276⟩ : S39) [.string t266, .bool t267, .slice Ao20 t268.length co20, .int .i64 t271, .int .i64 t272, .int .i64 t273, .string t274, .int .i64 t275, .int .i64 t276] from (k39_mkF _ _ (⟨t266, t267, t268, t271, t272, t273, t274, t275, t276⟩ : S39) (Kd.R_reads' (Kd.R_mono (ok' := (fun _ => True)) (HO270.out) (fun k_ hk => trivial))).2.1 (Kd.R_F (Kd.R_mono (ok' := (fun _ => True)) (HO270.out) (fun k_ hk => trivial))))) (Reps.none _ _)))); intro v278 w21 ho22 hb hg_ hnew_; clear hg_ hnew_; (first | rw [← Ny277.out] at ho22 | (simp only [Int.reduceToNat] at ho22; rw [← Ny277.out] at ho22)); have n0_ := qas (Kd.N_lower ho22 (below_size (by repeat (first | (with_reducible first | exact HB.out | apply qbA | apply qbB | apply qbC) | exact HB.out)))); have n1_ := qas (below_step (by repeat (first | (with_reducible first | exact HB.out | apply qbA | apply qbB | apply qbC) | exact HB.out)) hb); clear HB; clear HO259; clear HO270; have HO279 := n0_; have HB := n1_; clear n0_ n1_; clear hb ho22; obtain ⟨Ao23, co23, eo23⟩ := Kd.N_slice HO279.out; subst eo23) | ((with_reducible refine gate_dst (N := 1) rfl ?_); refine box_event ?hg (N := 1) ?hd (cs := #[.slice none 0 0]) (t := 24) ?hr ?_; (case hd => rfl); (case hg => rfl); (case hr => first | (go_simp; done) | (go_simp; rfl)); intro gb280 hg w24 hbox hb; have n0_ := qas (Kd.N_below (Kd.N_elderB (by (with_reducible repeat (first | apply Kd.N_alloc | apply Kd.N_drewN | apply Kd.N_drew)); exact HO279.out) gb280 (Nat.le_of_eq hg.symm)) hb); have n1_ := qas (below_step (by repeat (first | (with_reducible first | exact HB.out | apply qbA | apply qbB | apply qbC) | exact HB.out)) hb); have n2_ := qas (hbox); have n3_ := qas ((by rw [hg]; exact (below_size (by repeat (first | (with_reducible first | exact HB.out | apply qbA | apply qbB | apply qbC) | exact HB.out))) : w.heap.size ≤ gb280)); have n4_ := qas ((by rw [hg]; exact (below_size (by repeat (first | (with_reducible first | exact HB.out | apply qbA | apply qbB | apply qbC) | exact HB.out))) : w.heap.size ≤ gb280)); clear HO279; clear HB; have HO279 := n0_; have HB := n1_; have BK280 := n2_; have GW280 := n3_; have GE280 := n4_; clear n0_ n1_ n2_ n3_ n4_; clear hb hbox hg; have hcz25_0 : w24.cell? ⟨gb280, 0, none⟩ = some (.slice none 0 0) := (blk_cell BK280.out 0).trans rfl; have hfz25_0 := blk_frozen BK280.out 0) | ((with_reducible refine gate_callee (f := 17) rfl ?_); refine goesL_ (some 16) rfl rfl Tryd.func17 (by kernel_rfl) rfl #[.agg #[.slice Ao23 y277.length co23]] rfl (by (try simp only [List.map_toArray, List.map_cons, List.map_nil]); first | done | rfl | (simp only [List.length_drop, List.length_take]; rfl)) ?_; (with_reducible refine (zipput_Put.calls _ _ y277 t281 t282 _ ?side1 ?side2 A3.out).mono ?_); (case side1 => refine (Kd.N_reads' (e := 39) (base := w.heap.size) (ok := fun k_ => (True ∧ k_ ≠ gb280)) (n := y277.length) (c := co23) ?_).2.2; exact (by (with_reducible repeat (first | apply Kd.N_alloc | apply Kd.N_drewN | apply Kd.N_drew)); exact (Kd.N_mono (Kd.N_far (p := ⟨gb280, 0, none⟩) (Kd.N_mono HO279.out (fun k_ hk => (⟨hk, hk.2⟩ : _ ∧ k_ ≠ gb280))) (fun _ hk => hk.2) (.slice Ao23 y277.length co23)) (fun _ h_ => h_.1)))); (case side2 => exact (Kd.N_reads' HO279.out).2.1); rintro e w26 ⟨rfl, hb⟩; refine ⟨_, rfl, ?_⟩; have n0_ := qas (Kd.N_below (by (with_reducible repeat (first | apply Kd.N_alloc | apply Kd.N_drewN | apply Kd.N_drew)); exact (Kd.N_mono (Kd.N_far (p := ⟨gb280, 0, none⟩) (Kd.N_mono HO279.out (fun k_ hk => (⟨hk, hk.2⟩ : _ ∧ k_ ≠ gb280))) (fun _ hk => hk.2) (.slice Ao23 y277.length co23)) (fun _ h_ => h_.1))) hb); have n1_ := qas (blk_below (g := gb280) (o := .cells #[.slice Ao23 y277.length co23] 24 (0, 0)) (by (with_reducible repeat (first | refine qkA ?_ _ | refine qkB ?_ | refine qkC ?_ _)); refine blk_put (cs := #[.slice none 0 0]) ?_ 0 _ rfl; (with_reducible repeat (first | refine qkA ?_ _ | refine qkB ?_ | refine qkC ?_ _)); exact BK280.out) hb); have n2_ := qas (below_step (by repeat (first | (with_reducible first | exact HB.out | apply qbA | apply qbB | apply qbC | refine below_set ?_ GE280.out) | exact HB.out)) hb); clear HO279; clear BK280; clear HB; have HO279 := n0_; have BK280 := n1_; have HB := n2_; clear n0_ n1_ n2_; (try clear hb); (try clear hb2); (try clear hk); (try clear hi)) | ((with_reducible refine gate_callee (f := 28) rfl ?_); refine goesL_ (some 21) rfl rfl Tryd.func28 (by kernel_rfl) rfl #[.string t281] rfl (by (try simp only [List.map_toArray, List.map_cons, List.map_nil]); first | done | rfl | (simp only [List.length_drop, List.length_take]; rfl)) ?_; (with_reducible refine (zipget_Get.calls k t281 t283 t286 _ A4.out).mono ?_); rintro e w27 ⟨v284, rfl, ho0, hb⟩; refine ⟨_, rfl, ?_⟩; have n0_ := qas (Kd.N_elder' (by (with_reducible repeat (first | apply Kd.N_alloc | apply Kd.N_drewN | apply Kd.N_drew)); exact HO279.out) (Kd.S_base ho0) hb); have n1_ := qas (Kd.N_lower (Kd.N_mono (ok' := fun k_ => some k_ ≠ (.slice Ao23 y277.length co23 : Value).ownBlock ∧ k_ ≠ gb280) (Kd.S_N (Kd.S_bound ho0)) (fun k_ hk_ => ⟨(Kd.fresh' (Kd.N_lt (by (with_reducible repeat (first | apply Kd.N_alloc | apply Kd.N_drewN | apply Kd.N_drew)); exact HO279.out)) k_ hk_.2.1), (Kd.freshB (g := gb280) (o := .cells #[.slice Ao23 y277.length co23] 24 (0, 0)) (by (with_reducible repeat (first | refine qkA ?_ _ | refine qkB ?_ | refine qkC ?_ _)); exact BK280.out) k_ hk_.2.1)⟩)) (below_size (by repeat (first | (with_reducible first | exact HB.out | apply qbA | apply qbB | apply qbC | refine below_set ?_ GE280.out) | exact HB.out)))); have n2_ := qas (blk_below (g := gb280) (o := .cells #[.slice Ao23 y277.length co23] 24 (0, 0)) (by (with_reducible repeat (first | refine qkA ?_ _ | refine qkB ?_ | refine qkC ?_ _)); exact BK280.out) hb); have n3_ := qas (below_step (by repeat (first | (with_reducible first | exact HB.out | apply qbA | apply qbB | apply qbC | refine below_set ?_ GE280.out) | exact HB.out)) hb); clear HO279; clear BK280; clear HB; have HO279 := n0_; have HO285 := n1_; have BK280 := n2_; have HB := n3_; clear n0_ n1_ n2_ n3_; (try clear hb); (try clear hb2); (try clear hk); (try clear hi); (try clear ho0)) | ((with_reducible refine gate_dst (N := 4) rfl ?_); refine box_event ?hg (N := 4) ?hd (cs := #[.slice none 0 0]) (t := 24) ?hr ?_; (case hd => rfl); (case hg => rfl); (case hr => first | (go_simp; done) | (go_simp; rfl)); intro gb287 hg w28 hbox hb; have n0_ := qas (Kd.N_below (Kd.N_elderB (by (with_reducible repeat (first | apply Kd.N_alloc | apply Kd.N_drewN | apply Kd.N_drew)); exact HO279.out) gb287 (Nat.le_of_eq hg.symm)) hb); have n1_ := qas (Kd.N_below (Kd.N_elderB (by (with_reducible repeat (first | apply Kd.N_alloc | apply Kd.N_drewN | apply Kd.N_drew)); exact HO285.out) gb287 (Nat.le_of_eq hg.symm)) hb); have n2_ := qas (blk_below (g := gb280) (o := .cells #[.slice Ao23 y277.length co23] 24 (0, 0)) (by (with_reducible repeat (first | refine qkA ?_ _ | refine qkB ?_ | refine qkC ?_ _)); exact BK280.out) hb); have n3_ := qas (below_step (by repeat (first | (with_reducible first | exact HB.out | apply qbA | apply qbB | apply qbC | refine below_set ?_ GE280.out) | exact HB.out)) hb); have n4_ := qas (hbox); have n5_ := qas ((by rw [hg]; exact (below_size (by repeat (first | (with_reducible first | exact HB.out | apply qbA | apply qbB | apply qbC | refine below_set ?_ GE280.out) | exact HB.out))) : w.heap.size ≤ gb287)); have n6_ := qas ((by rw [hg]; exact (below_size (by repeat (first | (with_reducible first | exact HB.out | apply qbA | apply qbB | apply qbC | refine below_set ?_ GE280.out) | exact HB.out))) : w.heap.size ≤ gb287)); have n7_ := qas ((by rw [hg]; exact Nat.ne_of_lt (blk_lt (g := gb280) (o := .cells #[.slice Ao23 y277.length co23] 24 (0, 0)) (by (with_reducible repeat (first | refine qkA ?_ _ | refine qkB ?_ | refine qkC ?_ _)); exact BK280.out)) : gb280 ≠ gb287)); have n8_ := qas ((by rw [hg]; exact Nat.ne_of_gt (blk_lt (g := gb280) (o := .cells #[.slice Ao23 y277.length co23] 24 (0, 0)) (by (with_reducible repeat (first | refine qkA ?_ _ | refine qkB ?_ | refine qkC ?_ _)); exact BK280.out)) : gb287 ≠ gb280)); clear HO279; clear HO285; clear BK280; clear HB; have HO279 := n0_; have HO285 := n1_; have BK280 := n2_; have HB := n3_; have BK287 := n4_; have GW287 := n5_; have GE287 := n6_; have NB280_287 := n7_; have NB287_280 := n8_; clear n0_ n1_ n2_ n3_ n4_ n5_ n6_ n7_ n8_; clear hb hbox hg; obtain ⟨Ao29, co29, eo29⟩ := Kd.N_slice HO285.out; subst eo29; have hnb30 := NB287_280.out; have hnc30 := NB280_287.out; have hcz31_0 : w28.cell? ⟨gb287, 0, none⟩ = some (.slice none 0 0) := (blk_cell BK287.out 0).trans rfl; have hfz31_0 := blk_frozen BK287.out 0) | ((with_reducible refine gate_callee (f := 28) rfl ?_); refine goesL_ (some 27) rfl rfl Tryd.func28 (by kernel_rfl) rfl #[.string (t281 ++ (⟨#[120]⟩ : ByteArray))] rfl (by (try simp only [List.map_toArray, List.map_cons, List.map_nil]); first | done | rfl | (simp only [List.length_drop, List.length_take]; rfl)) ?_; (with_reducible refine (zipget_Get.calls k (t281 ++ (⟨#[120]⟩ : ByteArray)) t288 t291 _ A6.out).mono ?_); rintro e w32 ⟨v289, rfl, ho0, hb⟩; refine ⟨_, rfl, ?_⟩; have n0_ := qas (Kd.N_elder' (by (with_reducible repeat (first | apply Kd.N_alloc | apply Kd.N_drewN | apply Kd.N_drew)); exact (Kd.N_mono (Kd.N_far (p := ⟨gb287, 0, none⟩) (Kd.N_mono HO279.out (fun k_ hk => (⟨hk, hk.2⟩ : _ ∧ k_ ≠ gb287))) (fun _ hk => hk.2) (.slice Ao29 t283.length co29)) (fun _ h_ => h_.1))) (Kd.S_base ho0) hb); have n1_ := qas (Kd.N_elder' (by (with_reducible repeat (first | apply Kd.N_alloc | apply Kd.N_drewN | apply Kd.N_drew)); exact (Kd.N_mono (Kd.N_far (p := ⟨gb287, 0, none⟩) (Kd.N_mono HO285.out (fun k_ hk => (⟨hk, hk.2⟩ : _ ∧ k_ ≠ gb287))) (fun _ hk => hk.2) (.slice Ao29 t283.length co29)) (fun _ h_ => h_.1))) (Kd.S_base ho0) hb); have n2_ := qas (Kd.N_lower (Kd.N_mono (ok' := fun k_ => some k_ ≠ (.slice Ao23 y277.length co23 : Value).ownBlock ∧ some k_ ≠ (.slice Ao29 t283.length co29 : Value).ownBlock ∧ k_ ≠ gb280 ∧ k_ ≠ gb287) (Kd.S_N (Kd.S_bound ho0)) (fun k_ hk_ => ⟨(Kd.fresh' (Kd.N_lt (by (with_reducible repeat (first | apply Kd.N_alloc | apply Kd.N_drewN | apply Kd.N_drew)); exact (Kd.N_mono (Kd.N_far (p := ⟨gb287, 0, none⟩) (Kd.N_mono HO279.out (fun k_ hk => (⟨hk, hk.2⟩ : _ ∧ k_ ≠ gb287))) (fun _ hk => hk.2) (.slice Ao29 t283.length co29)) (fun _ h_ => h_.1)))) k_ hk_.2.1), (Kd.fresh' (Kd.N_lt (by (with_reducible repeat (first | apply Kd.N_alloc | apply Kd.N_drewN | apply Kd.N_drew)); exact (Kd.N_mono (Kd.N_far (p := ⟨gb287, 0, none⟩) (Kd.N_mono HO285.out (fun k_ hk => (⟨hk, hk.2⟩ : _ ∧ k_ ≠ gb287))) (fun _ hk => hk.2) (.slice Ao29 t283.length co29)) (fun _ h_ => h_.1)))) k_ hk_.2.1), (Kd.freshB (g := gb280) (o := .cells #[.slice Ao23 y277.length co23] 24 (0, 0)) (by (with_reducible repeat (first | refine qkA ?_ _ | refine qkB ?_ | refine qkC ?_ _)); refine blk_far ?_ NB280_287.out _; (with_reducible repeat (first | refine qkA ?_ _ | refine qkB ?_ | refine qkC ?_ _)); exact BK280.out) k_ hk_.2.1), (Kd.freshB (g := gb287) (o := .cells #[.slice Ao29 t283.length co29] 24 (0, 0)) (by (with_reducible repeat (first | refine qkA ?_ _ | refine qkB ?_ | refine qkC ?_ _)); refine blk_put (cs := #[.slice none 0 0]) ?_ 0 _ rfl; (with_reducible repeat (first | refine qkA ?_ _ | refine qkB ?_ | refine qkC ?_ _)); exact BK287.out) k_ hk_.2.1)⟩)) (below_size (by repeat (first | (with_reducible first | exact HB.out | apply qbA | apply qbB | apply qbC | refine below_set ?_ GE280.out | refine below_set ?_ GE287.out) | exact HB.out)))); have n3_ := qas (blk_below (g := gb280) (o := .cells #[.slice Ao23 y277.length co23] 24 (0, 0)) (by (with_reducible repeat (first | refine qkA ?_ _ | refine qkB ?_ | refine qkC ?_ _)); refine blk_far ?_ NB280_287.out _; (with_reducible repeat (first | refine qkA ?_ _ | refine qkB ?_ | refine qkC ?_ _)); exact BK280.out) hb); have n4_ := qas (blk_below (g := gb287) (o := .cells #[.slice Ao29 t283.length co29] 24 (0, 0)) (by (with_reducible repeat (first | refine qkA ?_ _ | refine qkB ?_ | refine qkC ?_ _)); refine blk_put (cs := #[.slice none 0 0]) ?_ 0 _ rfl; (with_reducible repeat (first | refine qkA ?_ _ | refine qkB ?_ | refine qkC ?_ _)); exact BK287.out) hb); have n5_ := qas (below_step (by repeat (first | (with_reducible first | exact HB.out | apply qbA | apply qbB | apply qbC | refine below_set ?_ GE280.out | refine below_set ?_ GE287.out) | exact HB.out)) hb); clear HO279; clear HO285; clear BK280; clear BK287; clear HB; have HO279 := n0_; have HO285 := n1_; have HO290 := n2_; have BK280 := n3_; have BK287 := n4_; have HB := n5_; clear n0_ n1_ n2_ n3_ n4_ n5_; (try clear hb); (try clear hb2); (try clear hk); (try clear hi); (try clear ho0)) | ((with_reducible refine gate_dst (N := 6) rfl ?_); refine box_event ?hg (N := 6) ?hd (cs := #[.slice none 0 0]) (t := 24) ?hr ?_; (case hd => rfl); (case hg => rfl); (case hr => first | (go_simp; done) | (go_simp; rfl)); intro gb292 hg w33 hbox hb; have n0_ := qas (Kd.N_below (Kd.N_elderB (by (with_reducible repeat (first | apply Kd.N_alloc | apply Kd.N_drewN | apply Kd.N_drew)); exact HO279.out) gb292 (Nat.le_of_eq hg.symm)) hb); have n1_ := qas (Kd.N_below (Kd.N_elderB (by (with_reducible repeat (first | apply Kd.N_alloc | apply Kd.N_drewN | apply Kd.N_drew)); exact HO285.out) gb292 (Nat.le_of_eq hg.symm)) hb); have n2_ := qas (Kd.N_below (Kd.N_elderB (by (with_reducible repeat (first | apply Kd.N_alloc | apply Kd.N_drewN | apply Kd.N_drew)); exact HO290.out) gb292 (Nat.le_of_eq hg.symm)) hb); have n3_ := qas (blk_below (g := gb280) (o := .cells #[.slice Ao23 y277.length co23] 24 (0, 0)) (by (with_reducible repeat (first | refine qkA ?_ _ | refine qkB ?_ | refine qkC ?_ _)); exact BK280.out) hb); have n4_ := qas (blk_below (g := gb287) (o := .cells #[.slice Ao29 t283.length co29] 24 (0, 0)) (by (with_reducible repeat (first | refine qkA ?_ _ | refine qkB ?_ | refine qkC ?_ _)); exact BK287.out) hb); have n5_ := qas (below_step (by repeat (first | (with_reducible first | exact HB.out | apply qbA | apply qbB | apply qbC | refine below_set ?_ GE280.out | refine below_set ?_ GE287.out) | exact HB.out)) hb); have n6_ := qas (hbox); have n7_ := qas ((by rw [hg]; exact (below_size (by repeat (first | (with_reducible first | exact HB.out | apply qbA | apply qbB | apply qbC | refine below_set ?_ GE280.out | refine below_set ?_ GE287.out) | exact HB.out))) : w.heap.size ≤ gb292)); have n8_ := qas ((by rw [hg]; exact (below_size (by repeat (first | (with_reducible first | exact HB.out | apply qbA | apply qbB | apply qbC | refine below_set ?_ GE280.out | refine below_set ?_ GE287.out) | exact HB.out))) : w.heap.size ≤ gb292)); have n9_ := qas ((by rw [hg]; exact Nat.ne_of_lt (blk_lt (g := gb280) (o := .cells #[.slice Ao23 y277.length co23] 24 (0, 0)) (by (with_reducible repeat (first | refine qkA ?_ _ | refine qkB ?_ | refine qkC ?_ _)); exact BK280.out)) : gb280 ≠ gb292)); have n10_ := qas ((by rw [hg]; exact Nat.ne_of_gt (blk_lt (g := gb280) (o := .cells #[.slice Ao23 y277.length co23] 24 (0, 0)) (by (with_reducible repeat (first | refine qkA ?_ _ | refine qkB ?_ | refine qkC ?_ _)); exact BK280.out)) : gb292 ≠ gb280)); have n11_ := qas ((by rw [hg]; exact Nat.ne_of_lt (blk_lt (g := gb287) (o := .cells #[.slice Ao29 t283.length co29] 24 (0, 0)) (by (with_reducible repeat (first | refine qkA ?_ _ | refine qkB ?_ | refine qkC ?_ _)); exact BK287.out)) : gb287 ≠ gb292)); have n12_ := qas ((by rw [hg]; exact Nat.ne_of_gt (blk_lt (g := gb287) (o := .cells #[.slice Ao29 t283.length co29] 24 (0, 0)) (by (with_reducible repeat (first | refine qkA ?_ _ | refine qkB ?_ | refine qkC ?_ _)); exact BK287.out)) : gb292 ≠ gb287)); clear HO279; clear HO285; clear HO290; clear BK280; clear BK287; clear HB; have HO279 := n0_; have HO285 := n1_; have HO290 := n2_; have BK280 := n3_; have BK287 := n4_; have HB := n5_; have BK292 := n6_; have GW292 := n7_; have GE292 := n8_; have NB280_292 := n9_; have NB292_280 := n10_; have NB287_292 := n11_; have NB292_287 := n12_; clear n0_ n1_ n2_ n3_ n4_ n5_ n6_ n7_ n8_ n9_ n10_ n11_ n12_; clear hb hbox hg; obtain ⟨Ao34, co34, eo34⟩ := Kd.N_slice HO290.out; subst eo34; have hnb35 := NB292_280.out; have hnc35 := NB280_292.out; have hnb36 := NB292_287.out; have hnc36 := NB287_292.out; have hcz37_0 : w33.cell? ⟨gb292, 0, none⟩ = some (.slice none 0 0) := (blk_cell BK292.out 0).trans rfl; have hfz37_0 := blk_frozen BK292.out 0) | ((with_reducible refine gate_callee (f := 28) rfl ?_); refine goesL_ (some 31) rfl rfl Tryd.func28 (by kernel_rfl) rfl #[.string (⟨#[]⟩ : ByteArray)] rfl (by (try simp only [List.map_toArray, List.map_cons, List.map_nil]); first | done | rfl | (simp only [List.length_drop, List.length_take]; rfl)) ?_; (with_reducible refine (zipget_Get.calls k (⟨#[]⟩ : ByteArray) t293 t296 _ A7.out).mono ?_); rintro e w38 ⟨v294, rfl, ho0, hb⟩; refine ⟨_, rfl, ?_⟩; have n0_ := qas (Kd.N_elder' (by (with_reducible repeat (first | apply Kd.N_alloc | apply Kd.N_drewN | apply Kd.N_drew)); exact (Kd.N_mono (Kd.N_far (p := ⟨gb292, 0, none⟩) (Kd.N_mono HO279.out (fun k_ hk => (⟨hk, hk.2⟩ : _ ∧ k_ ≠ gb292))) (fun _ hk => hk.2) (.slice Ao34 t288.length co34)) (fun _ h_ => h_.1))) (Kd.S_base ho0) hb); have n1_ := qas (Kd.N_elder' (by (with_reducible repeat (first | apply Kd.N_alloc | apply Kd.N_drewN | apply Kd.N_drew)); exact (Kd.N_mono (Kd.N_far (p := ⟨gb292, 0, none⟩) (Kd.N_mono HO285.out (fun k_ hk => (⟨hk, hk.2⟩ : _ ∧ k_ ≠ gb292))) (fun _ hk => hk.2) (.slice Ao34 t288.length co34)) (fun _ h_ => h_.1))) (Kd.S_base ho0) hb); have n2_ := qas (Kd.N_elder' (by (with_reducible repeat (first | apply Kd.N_alloc | apply Kd.N_drewN | apply Kd.N_drew)); exact (Kd.N_mono (Kd.N_far (p := ⟨gb292, 0, none⟩) (Kd.N_mono HO290.out (fun k_ hk => (⟨hk, hk.2⟩ : _ ∧ k_ ≠ gb292))) (fun _ hk => hk.2) (.slice Ao34 t288.length co34)) (fun _ h_ => h_.1))) (Kd.S_base ho0) hb); have n3_ := qas (Kd.N_lower (Kd.N_mono (ok' := fun k_ => some k_ ≠ (.slice Ao23 y277.length co23 : Value).ownBlock ∧ some k_ ≠ (.slice Ao29 t283.length co29 : Value).ownBlock ∧ some k_ ≠ (.slice Ao34 t288.length co34 : Value).ownBlock ∧ k_ ≠ gb280 ∧ k_ ≠ gb287 ∧ k_ ≠ gb292) (Kd.S_N (Kd.S_bound ho0)) (fun k_ hk_ => ⟨(Kd.fresh' (Kd.N_lt (by (with_reducible repeat (first | apply Kd.N_alloc | apply Kd.N_drewN | apply Kd.N_drew)); exact (Kd.N_mono (Kd.N_far (p := ⟨gb292, 0, none⟩) (Kd.N_mono HO279.out (fun k_ hk => (⟨hk, hk.2⟩ : _ ∧ k_ ≠ gb292))) (fun _ hk => hk.2) (.slice Ao34 t288.length co34)) (fun _ h_ => h_.1)))) k_ hk_.2.1), (Kd.fresh' (Kd.N_lt (by (with_reducible repeat (first | apply Kd.N_alloc | apply Kd.N_drewN | apply Kd.N_drew)); exact (Kd.N_mono (Kd.N_far (p := ⟨gb292, 0, none⟩) (Kd.N_mono HO285.out (fun k_ hk => (⟨hk, hk.2⟩ : _ ∧ k_ ≠ gb292))) (fun _ hk => hk.2) (.slice Ao34 t288.length co34)) (fun _ h_ => h_.1)))) k_ hk_.2.1), (Kd.fresh' (Kd.N_lt (by (with_reducible repeat (first | apply Kd.N_alloc | apply Kd.N_drewN | apply Kd.N_drew)); exact (Kd.N_mono (Kd.N_far (p := ⟨gb292, 0, none⟩) (Kd.N_mono HO290.out (fun k_ hk => (⟨hk, hk.2⟩ : _ ∧ k_ ≠ gb292))) (fun _ hk => hk.2) (.slice Ao34 t288.length co34)) (fun _ h_ => h_.1)))) k_ hk_.2.1), (Kd.freshB (g := gb280) (o := .cells #[.slice Ao23 y277.length co23] 24 (0, 0)) (by (with_reducible repeat (first | refine qkA ?_ _ | refine qkB ?_ | refine qkC ?_ _)); refine blk_far ?_ NB280_292.out _; (with_reducible repeat (first | refine qkA ?_ _ | refine qkB ?_ | refine qkC ?_ _)); exact BK280.out) k_ hk_.2.1), (Kd.freshB (g := gb287) (o := .cells #[.slice Ao29 t283.length co29] 24 (0, 0)) (by (with_reducible repeat (first | refine qkA ?_ _ | refine qkB ?_ | refine qkC ?_ _)); refine blk_far ?_ NB287_292.out _; (with_reducible repeat (first | refine qkA ?_ _ | refine qkB ?_ | refine qkC ?_ _)); exact BK287.out) k_ hk_.2.1), (Kd.freshB (g := gb292) (o := .cells #[.slice Ao34 t288.length co34] 24 (0, 0)) (by (with_reducible repeat (first | refine qkA ?_ _ | refine qkB ?_ | refine qkC ?_ _)); refine blk_put (cs := #[.slice none 0 0]) ?_ 0 _ rfl; (with_reducible repeat (first | refine qkA ?_ _ | refine qkB ?_ | refine qkC ?_ _)); exact BK292.out) k_ hk_.2.1)⟩)) (below_size (by repeat (first | (with_reducible first | exact HB.out | apply qbA | apply qbB | apply qbC | refine below_set ?_ GE280.out | refine below_set ?_ GE287.out | refine below_set ?_ GE292.out) | exact HB.out)))); have n4_ := qas (blk_below (g := gb280) (o := .cells #[.slice Ao23 y277.length co23] 24 (0, 0)) (by (with_reducible repeat (first | refine qkA ?_ _ | refine qkB ?_ | refine qkC ?_ _)); refine blk_far ?_ NB280_292.out _; (with_reducible repeat (first | refine qkA ?_ _ | refine qkB ?_ | refine qkC ?_ _)); exact BK280.out) hb); have n5_ := qas (blk_below (g := gb287) (o := .cells #[.slice Ao29 t283.length co29] 24 (0, 0)) (by (with_reducible repeat (first | refine qkA ?_ _ | refine qkB ?_ | refine qkC ?_ _)); refine blk_far ?_ NB287_292.out _; (with_reducible repeat (first | refine qkA ?_ _ | refine qkB ?_ | refine qkC ?_ _)); exact BK287.out) hb); have n6_ := qas (blk_below (g := gb292) (o := .cells #[.slice Ao34 t288.length co34] 24 (0, 0)) (by (with_reducible repeat (first | refine qkA ?_ _ | refine qkB ?_ | refine qkC ?_ _)); refine blk_put (cs := #[.slice none 0 0]) ?_ 0 _ rfl; (with_reducible repeat (first | refine qkA ?_ _ | refine qkB ?_ | refine qkC ?_ _)); exact BK292.out) hb); have n7_ := qas (below_step (by repeat (first | (with_reducible first | exact HB.out | apply qbA | apply qbB | apply qbC | refine below_set ?_ GE280.out | refine below_set ?_ GE287.out | refine below_set ?_ GE292.out) | exact HB.out)) hb); clear HO279; clear HO285; clear HO290; clear BK280; clear BK287; clear BK292; clear HB; have HO279 := n0_; have HO285 := n1_; have HO290 := n2_; have HO295 := n3_; have BK280 := n4_; have BK287 := n5_; have BK292 := n6_; have HB := n7_; clear n0_ n1_ n2_ n3_ n4_ n5_ n6_ n7_; (try clear hb); (try clear hb2); (try clear hk); (try clear hi); (try clear ho0)) | ((with_reducible refine gate_dst (N := 8) rfl ?_); refine box_event ?hg (N := 8) ?hd (cs := #[.slice none 0 0]) (t := 24) ?hr ?_; (case hd => rfl); (case hg => rfl); (case hr => first | (go_simp; done) | (go_simp; rfl)); intro gb297 hg w39 hbox hb; have n0_ := qas (Kd.N_below (Kd.N_elderB (by (with_reducible repeat (first | apply Kd.N_alloc | apply Kd.N_drewN | apply Kd.N_drew)); exact HO279.out) gb297 (Nat.le_of_eq hg.symm)) hb); have n1_ := qas (Kd.N_below (Kd.N_elderB (by (with_reducible repeat (first | apply Kd.N_alloc | apply Kd.N_drewN | apply Kd.N_drew)); exact HO285.out) gb297 (Nat.le_of_eq hg.symm)) hb); have n2_ := qas (Kd.N_below (Kd.N_elderB (by (with_reducible repeat (first | apply Kd.N_alloc | apply Kd.N_drewN | apply Kd.N_drew)); exact HO290.out) gb297 (Nat.le_of_eq hg.symm)) hb); have n3_ := qas (Kd.N_below (Kd.N_elderB (by (with_reducible repeat (first | apply Kd.N_alloc | apply Kd.N_drewN | apply Kd.N_drew)); exact HO295.out) gb297 (Nat.le_of_eq hg.symm)) hb); have n4_ := qas (blk_below (g := gb280) (o := .cells #[.slice Ao23 y277.length co23] 24 (0, 0)) (by (with_reducible repeat (first | refine qkA ?_ _ | refine qkB ?_ | refine qkC ?_ _)); exact BK280.out) hb); have n5_ := qas (blk_below (g := gb287) (o := .cells #[.slice Ao29 t283.length co29] 24 (0, 0)) (by (with_reducible repeat (first | refine qkA ?_ _ | refine qkB ?_ | refine qkC ?_ _)); exact BK287.out) hb); have n6_ := qas (blk_below (g := gb292) (o := .cells #[.slice Ao34 t288.length co34] 24 (0, 0)) (by (with_reducible repeat (first | refine qkA ?_ _ | refine qkB ?_ | refine qkC ?_ _)); exact BK292.out) hb); have n7_ := qas (below_step (by repeat (first | (with_reducible first | exact HB.out | apply qbA | apply qbB | apply qbC | refine below_set ?_ GE280.out | refine below_set ?_ GE287.out | refine below_set ?_ GE292.out) | exact HB.out)) hb); have n8_ := qas (hbox); have n9_ := qas ((by rw [hg]; exact (below_size (by repeat (first | (with_reducible first | exact HB.out | apply qbA | apply qbB | apply qbC | refine below_set ?_ GE280.out | refine below_set ?_ GE287.out | refine below_set ?_ GE292.out) | exact HB.out))) : w.heap.size ≤ gb297)); have n10_ := qas ((by rw [hg]; exact (below_size (by repeat (first | (with_reducible first | exact HB.out | apply qbA | apply qbB | apply qbC | refine below_set ?_ GE280.out | refine below_set ?_ GE287.out | refine below_set ?_ GE292.out) | exact HB.out))) : w.heap.size ≤ gb297)); have n11_ := qas ((by rw [hg]; exact Nat.ne_of_lt (blk_lt (g := gb280) (o := .cells #[.slice Ao23 y277.length co23] 24 (0, 0)) (by (with_reducible repeat (first | refine qkA ?_ _ | refine qkB ?_ | refine qkC ?_ _)); exact BK280.out)) : gb280 ≠ gb297)); have n12_ := qas ((by rw [hg]; exact Nat.ne_of_gt (blk_lt (g := gb280) (o := .cells #[.slice Ao23 y277.length co23] 24 (0, 0)) (by (with_reducible repeat (first | refine qkA ?_ _ | refine qkB ?_ | refine qkC ?_ _)); exact BK280.out)) : gb297 ≠ gb280)); have n13_ := qas ((by rw [hg]; exact Nat.ne_of_lt (blk_lt (g := gb287) (o := .cells #[.slice Ao29 t283.length co29] 24 (0, 0)) (by (with_reducible repeat (first | refine qkA ?_ _ | refine qkB ?_ | refine qkC ?_ _)); exact BK287.out)) : gb287 ≠ gb297)); have n14_ := qas ((by rw [hg]; exact Nat.ne_of_gt (blk_lt (g := gb287) (o := .cells #[.slice Ao29 t283.length co29] 24 (0, 0)) (by (with_reducible repeat (first | refine qkA ?_ _ | refine qkB ?_ | refine qkC ?_ _)); exact BK287.out)) : gb297 ≠ gb287)); have n15_ := qas ((by rw [hg]; exact Nat.ne_of_lt (blk_lt (g := gb292) (o := .cells #[.slice Ao34 t288.length co34] 24 (0, 0)) (by (with_reducible repeat (first | refine qkA ?_ _ | refine qkB ?_ | refine qkC ?_ _)); exact BK292.out)) : gb292 ≠ gb297)); have n16_ := qas ((by rw [hg]; exact Nat.ne_of_gt (blk_lt (g := gb292) (o := .cells #[.slice Ao34 t288.length co34] 24 (0, 0)) (by (with_reducible repeat (first | refine qkA ?_ _ | refine qkB ?_ | refine qkC ?_ _)); exact BK292.out)) : gb297 ≠ gb292)); clear HO279; clear HO285; clear HO290; clear HO295; clear BK280; clear BK287; clear BK292; clear HB; have HO279 := n0_; have HO285 := n1_; have HO290 := n2_; have HO295 := n3_; have BK280 := n4_; have BK287 := n5_; have BK292 := n6_; have HB := n7_; have BK297 := n8_; have GW297 := n9_; have GE297 := n10_; have NB280_297 := n11_; have NB297_280 := n12_; have NB287_297 := n13_; have NB297_287 := n14_; have NB292_297 := n15_; have NB297_292 := n16_; clear n0_ n1_ n2_ n3_ n4_ n5_ n6_ n7_ n8_ n9_ n10_ n11_ n12_ n13_ n14_ n15_ n16_; clear hb hbox hg; obtain ⟨Ao40, co40, eo40⟩ := Kd.N_slice HO295.out; subst eo40; have hnb41 := NB297_280.out; have hnc41 := NB280_297.out; have hnb42 := NB297_287.out; have hnc42 := NB287_297.out; have hnb43 := NB297_292.out; have hnc43 := NB292_297.out; have hcz44_0 : w39.cell? ⟨gb297, 0, none⟩ = some (.slice none 0 0) := (blk_cell BK297.out 0).trans rfl; have hfz44_0 := blk_frozen BK297.out 0) | ((with_reducible refine gate_callee (f := 19) rfl ?_); refine goesL_ (some 35) rfl rfl Tryd.func19 (by kernel_rfl) rfl #[.int .i64 t282] rfl (by (try simp only [List.map_toArray, List.map_cons, List.map_nil]); first | done | rfl | (simp only [List.length_drop, List.length_take]; rfl)) ?_; (with_reducible refine (portagelaw0_Num.calls t282 t298 _ A8.out).mono ?_); rintro e w' ⟨rfl, ⟨nd, rfl⟩⟩; refine ⟨_, rfl, ?_⟩; have hcz45_0 : w39.cell? ⟨gb280, 0, none⟩ = some (.slice Ao23 y277.length co23) := (blk_cell BK280.out 0).trans rfl; have hfz45_0 := blk_frozen BK280.out 0; have hcz46_0 : w39.cell? ⟨gb287, 0, none⟩ = some (.slice Ao29 t283.length co29) := (blk_cell BK287.out 0).trans rfl; have hfz46_0 := blk_frozen BK287.out 0) | (go_at_call 24; (with_reducible refine (portagelaw0_SameFolder.calls k _ _ y277 _ _ t283 true _ ?side1 ?side2 ?side3 ?side4 A10.out).mono ?_); (case side1 => refine (Kd.N_reads' (e := 39) (base := w.heap.size) (ok := fun k_ => (((((((True ∧ k_ ≠ gb280) ∧ some k_ ≠ (.slice Ao29 t283.length co29 : Value).ownBlock) ∧ k_ ≠ gb287) ∧ some k_ ≠ (.slice Ao34 t288.length co34 : Value).ownBlock) ∧ k_ ≠ gb292) ∧ some k_ ≠ (.slice Ao40 t293.length co40 : Value).ownBlock) ∧ k_ ≠ gb297)) (n := y277.length) (c := co23) ?_).2.2; exact (by (with_reducible repeat (first | apply Kd.N_alloc | apply Kd.N_drewN | apply Kd.N_drew)); exact (Kd.N_mono (Kd.N_far (p := ⟨gb297, 0, none⟩) (Kd.N_mono HO279.out (fun k_ hk => (⟨hk, hk.2⟩ : _ ∧ k_ ≠ gb297))) (fun _ hk => hk.2) (.slice Ao40 t293.length co40)) (fun _ h_ => h_.1)))); (case side2 => exact (Kd.N_reads' HO279.out).2.1); (case side3 => refine (Kd.N_reads' (e := 39) (base := w.heap.size) (ok := fun k_ => ((((((some k_ ≠ (.slice Ao23 y277.length co23 : Value).ownBlock ∧ k_ ≠ gb280) ∧ k_ ≠ gb287) ∧ some k_ ≠ (.slice Ao34 t288.length co34 : Value).ownBlock) ∧ k_ ≠ gb292) ∧ some k_ ≠ (.slice Ao40 t293.length co40 : Value).ownBlock) ∧ k_ ≠ gb297)) (n := t283.length) (c := co29) ?_).2.2; exact (by (with_reducible repeat (first | apply Kd.N_alloc | apply Kd.N_drewN | apply Kd.N_drew)); exact (Kd.N_mono (Kd.N_far (p := ⟨gb297, 0, none⟩) (Kd.N_mono HO285.out (fun k_ hk => (⟨hk, hk.2⟩ : _ ∧ k_ ≠ gb297))) (fun _ hk => hk.2) (.slice Ao40 t293.length co40)) (fun _ h_ => h_.1)))); (case side4 => exact (Kd.N_reads' HO285.out).2.1); rintro e w47 ⟨rfl, hb⟩; have n0_ := qas (Kd.N_below (by (with_reducible repeat (first | apply Kd.N_alloc | apply Kd.N_drewN | apply Kd.N_drew)); exact (Kd.N_mono (Kd.N_far (p := ⟨gb297, 0, none⟩) (Kd.N_mono HO279.out (fun k_ hk => (⟨hk, hk.2⟩ : _ ∧ k_ ≠ gb297))) (fun _ hk => hk.2) (.slice Ao40 t293.length co40)) (fun _ h_ => h_.1))) hb); have n1_ := qas (Kd.N_below (by (with_reducible repeat (first | apply Kd.N_alloc | apply Kd.N_drewN | apply Kd.N_drew)); exact (Kd.N_mono (Kd.N_far (p := ⟨gb297, 0, none⟩) (Kd.N_mono HO285.out (fun k_ hk => (⟨hk, hk.2⟩ : _ ∧ k_ ≠ gb297))) (fun _ hk => hk.2) (.slice Ao40 t293.length co40)) (fun _ h_ => h_.1))) hb); have n2_ := qas (Kd.N_below (by (with_reducible repeat (first | apply Kd.N_alloc | apply Kd.N_drewN | apply Kd.N_drew)); exact (Kd.N_mono (Kd.N_far (p := ⟨gb297, 0, none⟩) (Kd.N_mono HO290.out (fun k_ hk => (⟨hk, hk.2⟩ : _ ∧ k_ ≠ gb297))) (fun _ hk => hk.2) (.slice Ao40 t293.length co40)) (fun _ h_ => h_.1))) hb); have n3_ := qas (Kd.N_below (by (with_reducible repeat (first | apply Kd.N_alloc | apply Kd.N_drewN | apply Kd.N_drew)); exact (Kd.N_mono (Kd.N_far (p := ⟨gb297, 0, none⟩) (Kd.N_mono HO295.out (fun k_ hk => (⟨hk, hk.2⟩ : _ ∧ k_ ≠ gb297))) (fun _ hk => hk.2) (.slice Ao40 t293.length co40)) (fun _ h_ => h_.1))) hb); have n4_ := qas (blk_below (g := gb280) (o := .cells #[.slice Ao23 y277.length co23] 24 (0, 0)) (by (with_reducible repeat (first | refine qkA ?_ _ | refine qkB ?_ | refine qkC ?_ _)); refine blk_far ?_ NB280_297.out _; (with_reducible repeat (first | refine qkA ?_ _ | refine qkB ?_ | refine qkC ?_ _)); exact BK280.out) hb); have n5_ := qas (blk_below (g := gb287) (o := .cells #[.slice Ao29 t283.length co29] 24 (0, 0)) (by (with_reducible repeat (first | refine qkA ?_ _ | refine qkB ?_ | refine qkC ?_ _)); refine blk_far ?_ NB287_297.out _; (with_reducible repeat (first | refine qkA ?_ _ | refine qkB ?_ | refine qkC ?_ _)); exact BK287.out) hb); have n6_ := qas (blk_below (g := gb292) (o := .cells #[.slice Ao34 t288.length co34] 24 (0, 0)) (by (with_reducible repeat (first | refine qkA ?_ _ | refine qkB ?_ | refine qkC ?_ _)); refine blk_far ?_ NB292_297.out _; (with_reducible repeat (first | refine qkA ?_ _ | refine qkB ?_ | refine qkC ?_ _)); exact BK292.out) hb); have n7_ := qas (blk_below (g := gb297) (o := .cells #[.slice Ao40 t293.length co40] 24 (0, 0)) (by (with_reducible repeat (first | refine qkA ?_ _ | refine qkB ?_ | refine qkC ?_ _)); refine blk_put (cs := #[.slice none 0 0]) ?_ 0 _ rfl; (with_reducible repeat (first | refine qkA ?_ _ | refine qkB ?_ | refine qkC ?_ _)); exact BK297.out) hb); have n8_ := qas (below_step (by repeat (first | (with_reducible first | exact HB.out | apply qbA | apply qbB | apply qbC | refine below_set ?_ GE280.out | refine below_set ?_ GE287.out | refine below_set ?_ GE292.out | refine below_set ?_ GE297.out) | exact HB.out)) hb); clear HO279; clear HO285; clear HO290; clear HO295; clear BK280; clear BK287; clear BK292; clear BK297; clear HB; have HO279 := n0_; have HO285 := n1_; have HO290 := n2_; have HO295 := n3_; have BK280 := n4_; have BK287 := n5_; have BK292 := n6_; have BK297 := n7_; have HB := n8_; clear n0_ n1_ n2_ n3_ n4_ n5_ n6_ n7_ n8_; (try clear hb); (try clear hb2); (try clear hk); (try clear hi)) | (go_at_call 19; (with_reducible refine (portagelaw0_Num.calls t286 t300 _ A12.out).mono ?_); rintro e w' ⟨rfl, ⟨nd, rfl⟩⟩) | (go_at_call 19; (with_reducible refine (portagelaw0_Num.calls t291 t301 _ A14.out).mono ?_); rintro e w' ⟨rfl, ⟨nd, rfl⟩⟩) | (go_at_call 19; (with_reducible refine (portagelaw0_Num.calls t296 t302 _ A16.out).mono ?_); rintro e w' ⟨rfl, ⟨nd, rfl⟩⟩))
      go_ret
      exact ⟨by first | rfl | (simp [errW_none, errW_some] <;> rfl) | (simp [*, errW_none, errW_some] <;> rfl), by repeat (first | (with_reducible first | exact HB.out | apply qbA | apply qbB | apply qbC | refine below_set ?_ GE280.out | refine below_set ?_ GE287.out | refine below_set ?_ GE292.out | refine below_set ?_ GE297.out) | exact HB.out)⟩
     ·rw [if_neg c15] at H
      exact absurd H (by simp)
    ·rw [if_neg c13] at H
     exact absurd H (by simp)
   ·replace c11 := Bool.eq_false_iff.mpr c11
    subst c11
    have H1 : (none) = some r := by rw [if_neg (show ¬ (false = true) by decide)] at H; exact H
    clear H
    have H := H1
    clear H1
    exact absurd H (by simp)
  ·rw [if_neg c9] at H
   exact absurd H (by simp)
 ·rw [if_neg c5] at H
  exact absurd H (by simp)

end Go.Proofs.YtneogampbohfnaaDoor.ZG
