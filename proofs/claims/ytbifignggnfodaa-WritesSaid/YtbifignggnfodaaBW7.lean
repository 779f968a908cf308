-- Written by a program of this session out of the translation (a changed copy of the kit's printer).
import Derived.Test.YtbifignggnfodaaBW0
import Derived.Test.YtbifignggnfodaaBW1
import Derived.Test.YtbifignggnfodaaBW4
namespace Go.Proofs.Ytbifignggnfodaa.BW
open Go.RowKit Go.Proofs.YtbifignggnfodaaW.PrintWords Go.Proofs.YtbifignggnfodaaW.PrintLast Go.Proofs.YtbifignggnfodaaW.PrintMore
attribute [local go_sem] max2_int min2_int max_two min_two max_three min_three max_four min_four   -- for this text's walks alone
set_option linter.unusedVariables false
set_option linter.unusedSimpArgs false

/-! ### portageref1_Writer_Align: function 41 -/
def portageref1_Writer_Align.l0 : Nat → List Int → Int → Option (List Int × Int)
  | 0, _, _ => none
  | k + 1, x1000, x1001 => if (Int.tmod x1001 8) = 0 then (some (x1000, x1001)) else ((portageref1_Writer_one.f x1000 x1001 0).bind fun bt144 => (portageref1_Writer_Align.l0 k bt144.1 bt144.2))
def portageref1_Writer_Align.f (k : Nat) (s0_0 : List Int) (s0_1 : Int) : Option (List Int × Int) := portageref1_Writer_Align.l0 k s0_0 s0_1
theorem portageref1_Writer_Align.mono_l : ∀ k, (∀ y0 y1, LeO (portageref1_Writer_Align.l0 k y0 y1) (portageref1_Writer_Align.l0 (k + 1) y0 y1))
  | 0 => fun _ _ r h => by simp [portageref1_Writer_Align.l0] at h
  | k + 1 => by
    have ih0 := portageref1_Writer_Align.mono_l k
    · intro y0 y1
      unfold portageref1_Writer_Align.l0
      repeat' first
      | (with_reducible exact ih0 _ _)
      | (with_reducible exact LeO.refl _)
      | (with_reducible exact LeO.none _)
      | (with_reducible refine LeO.ite ?_ ?_)
      | (with_reducible refine LeO.bind ?_ (fun _ => ?_))
      | exact ih0 _ _
      | exact LeO.none _
      | refine LeO.ite ?_ ?_
      | refine LeO.bind ?_ (fun _ => ?_)
theorem portageref1_Writer_Align.mono : ∀ a0 a1 k, LeO (portageref1_Writer_Align.f k a0 a1) (portageref1_Writer_Align.f (k + 1) a0 a1) := by
  intro a0 a1 k
  have ih0 := portageref1_Writer_Align.mono_l k
  unfold portageref1_Writer_Align.f
  repeat' first
      | (with_reducible exact ih0 _ _)
      | (with_reducible exact LeO.refl _)
      | (with_reducible exact LeO.none _)
      | (with_reducible refine LeO.ite ?_ ?_)
      | (with_reducible refine LeO.bind ?_ (fun _ => ?_))
      | exact ih0 _ _
      | exact LeO.none _
      | refine LeO.ite ?_ ?_
      | refine LeO.bind ?_ (fun _ => ?_)
set_option maxHeartbeats 8000000 in
set_option maxRecDepth 100000 in
theorem portageref1_Writer_Align.calls (k : Nat) (P0_ : Nat → Prop) (g : Nat) (s0_0 : List Int) (s0_1 : Int) (r1 : List Int) (r2 : Int) (w0 w : World) (hB : Below w0.heap.size w0 w) (hO : IsO56 w0 w P0_ g s0_0 s0_1) (h : portageref1_Writer_Align.f k s0_0 s0_1 = some (r1, r2)) :
    Calls Try.prog 41 #[.pointer (some ⟨g, 0, none⟩)] w fun e w' => e = .returned (.tuple #[]) ∧ IsO56 w0 w' (fun k_ => (P0_ k_ ∨ w.heap.size ≤ k_)) g r1 r2 ∧ Below w0.heap.size w0 w' ∧ Kept w w' (fun k_ => P0_ k_) := by
  obtain ⟨u9500_, hbk_, hge_, hpg_, ho_⟩ := hO
  have BK0 := Aside0.mk hbk_
  have GE0 := Aside0.mk hge_
  have HPG0 := Aside0.mk hpg_
  have HOs0_0 := Aside0.mk (show Kd.R (Kd.int .u8) 5 w w0.heap.size (fun k_ => (P0_ k_ ∨ w.heap.size ≤ k_)) u9500_ s0_0 from Kd.R_mono ho_ (fun k_ hk => .inl hk.1))
  clear hbk_ hge_ hpg_ ho_
  have HK := Aside0.mk (Kept.refl w (fun k_ => P0_ k_))
  have HW0 := Aside0.mk hB.size
  have HB := Aside0.mk hB
  clear hB
  have H : (portageref1_Writer_Align.l0 k s0_0 s0_1) = some (r1, r2) := h
  clear h
  have H' := Aside0.mk H
  clear H
  go_enter Try.func41, Try.ntmps41
  go_wp2
  go_loopg [] k (fun kq w' => ∃ (x1000_1 : List Int) (x1001_1 : Int) (u1000 : Value), Aside0 (portageref1_Writer_Align.l0 kq x1000_1 x1001_1 = some (r1, r2)) ∧ Aside0 (kq ≤ k) ∧ Aside0 (Kd.R (Kd.int .u8) 5 w' w0.heap.size (fun k_ => (P0_ k_ ∨ w.heap.size ≤ k_)) u1000 x1000_1) ∧ Aside0 (w'.heap[g]? = some (.cells #[u1000, .int .i64 x1001_1] 56 (0, 0))) ∧ Aside0 (Kept w w' (fun k_ => P0_ k_)) ∧ Aside0 (Below w0.heap.size w0 w'))
  case atStart => exact ⟨(s0_0), (s0_1), (u9500_), H', ⟨Nat.le_refl _⟩, ⟨by (with_reducible repeat (first | apply Kd.R_alloc | apply Kd.R_drewN | apply Kd.R_drew)); exact HOs0_0.out⟩, ⟨by (with_reducible repeat (first | refine blk_drewN ?_ _ | refine blk_drew ?_ | refine blk_alloc ?_ _)); exact BK0.out⟩, ⟨by repeat (first | (with_reducible first | exact HK.out | apply Kept.alloc | apply Kept.drewN | apply Kept.drew | refine Kept.setCell ?_ (.inl HPG0.out) _) | exact HK.out)⟩, ⟨by repeat (first | (with_reducible first | exact HB.out | apply below_alloc | apply pw_below_drewN | apply below_drew1 | refine below_set ?_ GE0.out) | exact HB.out)⟩⟩
  case round =>
    clear H'
    obtain ⟨x1000_1, x1001_1, u1000, HA, HK1, HO_1000, BK0, HK, HB⟩ := hrel
    cases gk with
    | zero => exact absurd HA.out (by simp [portageref1_Writer_Align.l0])
    | succ k1 =>
      have H := HA.out
      clear HA
      simp only [portageref1_Writer_Align.l0] at H
      by_cases c2 : (Int.tmod x1001_1 8) = 0
      · rw [if_pos c2] at H
        have c2b0 : ((Int.tmod x1001_1 8) == 0) = true := beq_iff_eq.mpr c2
        have c2b1 : ((Int.tmod x1001_1 8) != 0) = false := bne_eq_false_iff_eq.mpr c2
        clear c2
        simp only [Option.some.injEq, Prod.mk.injEq] at H
        obtain ⟨rfl, rfl⟩ := H
        have hcz3_0 : wr.cell? ⟨g, 0, none⟩ = some (u1000) := (blk_cell BK0.out 0).trans rfl
        have hcz3_1 : wr.cell? ⟨g, 1, none⟩ = some (.int .i64 x1001_1) := (blk_cell BK0.out 1).trans rfl
        have hfz3_0 := blk_frozen BK0.out 0
        have hfz3_1 := blk_frozen BK0.out 1
        go_wp2
        first | go_end0 | ((try simp only [Exit.inBlock, Exit.then]); refine bodyPost_ret (results_none rfl _ _ _) rfl ?_)
        exact ⟨by first | rfl | (simp [errW_none, errW_some] <;> rfl) | (simp [*, errW_none, errW_some] <;> rfl), (show IsO56 w0 _ (fun k_ => (P0_ k_ ∨ w.heap.size ≤ k_)) g x1000_1 x1001_1 from ⟨_, by (with_reducible repeat (first | refine blk_drewN ?_ _ | refine blk_drew ?_ | refine blk_alloc ?_ _)); exact BK0.out, GE0.out, .inl HPG0.out, (Kd.R_types (g := g) (t := 56) (cells := #[_, _]) (by (with_reducible repeat (first | apply Kd.R_alloc | apply Kd.R_drewN | apply Kd.R_drew)); exact HO_1000.out) (by (with_reducible repeat (first | refine blk_drewN ?_ _ | refine blk_drew ?_ | refine blk_alloc ?_ _)); exact BK0.out) (by decide))⟩), by repeat (first | (with_reducible first | exact HB.out | apply below_alloc | apply pw_below_drewN | apply below_drew1 | refine below_set ?_ GE0.out) | exact HB.out), by repeat (first | (with_reducible first | exact HK.out | apply Kept.alloc | apply Kept.drewN | apply Kept.drew | refine Kept.setCell ?_ (.inl HPG0.out) _) | exact HK.out)⟩
      · rw [if_neg c2] at H
        have c2b0 : ((Int.tmod x1001_1 8) == 0) = false := beq_eq_false_iff_ne.mpr c2
        have c2b1 : ((Int.tmod x1001_1 8) != 0) = true := bne_iff_ne.mpr c2
        replace H := Option.bind_eq_some_iff.mp H
        obtain ⟨⟨t144, t147⟩, A40, H⟩ := H
        replace H : (portageref1_Writer_Align.l0 k1 t144 t147) = some (r1, r2) := H
        have A4 := Aside0.mk A40
        clear A40
        have H' := Aside0.mk H
        clear H
        have hcz5_0 : wr.cell? ⟨g, 0, none⟩ = some (u1000) := (blk_cell BK0.out 0).trans rfl
        have hcz5_1 : wr.cell? ⟨g, 1, none⟩ = some (.int .i64 x1001_1) := (blk_cell BK0.out 1).trans rfl
        have hfz5_0 := blk_frozen BK0.out 0
        have hfz5_1 := blk_frozen BK0.out 1
        go_wp2_with (first | ((with_reducible refine gate_callee (f := 77) rfl ?_); refine goesL_ (some 9) rfl rfl Try.func77 (by kernel_rfl) rfl #[.pointer (some ⟨g, 0, none⟩), .int .i64 0] rfl (by (try simp only [List.map_toArray, List.map_cons, List.map_nil]); first | done | rfl | (simp only [List.length_drop, List.length_take]; rfl)) ?_; (with_reducible refine (portageref1_Writer_one.calls (fun k_ => some k_ = (u1000 : Value).ownBlock ∨ k_ = g) g x1000_1 x1001_1 0 t144 t147 w0 _ ?side1 ?side2 A4.out).mono ?_); (case side1 => repeat (first | (with_reducible first | exact HB.out | apply below_alloc | apply pw_below_drewN | apply below_drew1 | refine below_set ?_ GE0.out) | exact HB.out)); (case side2 => exact ⟨_, (by (with_reducible repeat (first | refine blk_drewN ?_ _ | refine blk_drew ?_ | refine blk_alloc ?_ _)); exact BK0.out), GE0.out, .inr rfl, (Kd.R_mono (Kd.R_tight2 rfl (Kd.R_types HO_1000.out (by (with_reducible repeat (first | refine blk_drewN ?_ _ | refine blk_drew ?_ | refine blk_alloc ?_ _)); exact BK0.out) (by decide))) (fun k_ hk => ⟨.inl hk.1, hk.2.2⟩))⟩); rintro e w6 ⟨rfl, ⟨v145, hbx_, _, _, hox_⟩, hb, hkp⟩; refine ⟨_, rfl, ?_⟩; have ho0 := Kd.R_mono (ok' := fun k_ => some k_ = (u1000 : Value).ownBlock ∨ wr.heap.size ≤ k_) hox_ (fun k_ h_ => Or.elim h_.1 (fun h1_ => Or.elim h1_ Or.inl (fun e_ => absurd e_ h_.2)) Or.inr); have n0_ := Aside0.mk (hbx_); have n1_ := Aside0.mk (Kd.R_mono (ok' := fun k_ => (P0_ k_ ∨ w.heap.size ≤ k_)) ho0 (fun k_ hk_ => Or.elim hk_ (fun hs_ => (HO_1000.out.1 k_ (hs_).symm)) (fun hn_ => (.inr (Nat.le_trans (by first | exact HK.out.1 | exact (show Kept w _ (fun k_ => P0_ k_) from by repeat (first | (with_reducible first | exact HK.out | apply Kept.alloc | apply Kept.drewN | apply Kept.drew | refine Kept.setCell ?_ (.inl HPG0.out) _) | exact HK.out)).1) hn_))))); have n2_ := Aside0.mk (Kept.then_ (S := (fun k_ => P0_ k_)) (by repeat (first | (with_reducible first | exact HK.out | apply Kept.alloc | apply Kept.drewN | apply Kept.drew | refine Kept.setCell ?_ (.inl HPG0.out) _) | exact HK.out)) hkp (fun k_ hs_ => Or.elim hs_ (fun hs_ => (fun e_ => (HO_1000.out.1 k_ e_.symm)) hs_) (fun e_ => (by rw [e_]; exact .inl HPG0.out)))); have n3_ := Aside0.mk (hb); clear BK0; clear HK; clear HB; clear HO_1000; have BK0 := n0_; have HO146 := n1_; have HK := n2_; have HB := n3_; clear n0_ n1_ n2_ n3_; (try clear hb); (try clear hkp); (try clear hbx_); (try clear hox_); (try clear ho0)))
        go_roundg k1
        case measure => have := HK1.out; omega
        case rel => exact ⟨(t144), (t147), (v145), H', ⟨by have := HK1.out; omega⟩, ⟨by (with_reducible repeat (first | apply Kd.R_alloc | apply Kd.R_drewN | apply Kd.R_drew)); exact HO146.out⟩, ⟨by (with_reducible repeat (first | refine blk_drewN ?_ _ | refine blk_drew ?_ | refine blk_alloc ?_ _)); exact BK0.out⟩, ⟨by repeat (first | (with_reducible first | exact HK.out | apply Kept.alloc | apply Kept.drewN | apply Kept.drew | refine Kept.setCell ?_ (.inl HPG0.out) _) | exact HK.out)⟩, ⟨by repeat (first | (with_reducible first | exact HB.out | apply below_alloc | apply pw_below_drewN | apply below_drew1 | refine below_set ?_ GE0.out) | exact HB.out)⟩⟩

/-! ### bits_Writer_Len: function 42 -/
def bits_Writer_Len.f (s0_0 : List Int) (s0_1 : Int) : Option (Int × List Int × Int) := some (s0_1, s0_0, s0_1)
set_option maxHeartbeats 8000000 in
set_option maxRecDepth 100000 in
theorem bits_Writer_Len.calls (P0_ : Nat → Prop) (g : Nat) (s0_0 : List Int) (s0_1 : Int) (r1 : Int) (r2 : List Int) (r3 : Int) (w0 w : World) (hB : Below w0.heap.size w0 w) (hO : IsO103 w0 w P0_ g s0_0 s0_1) (h : bits_Writer_Len.f s0_0 s0_1 = some (r1, r2, r3)) :
    Calls Try.prog 42 #[.pointer (some ⟨g, 0, none⟩)] w fun e w' => e = .returned (.int .i64 r1) ∧ IsO103 w0 w' (fun k_ => (P0_ k_ ∨ w.heap.size ≤ k_)) g r2 r3 ∧ Below w0.heap.size w0 w' ∧ Kept w w' (fun k_ => P0_ k_) := by
  obtain ⟨u9500_, hbk_, hge_, hpg_, ho_⟩ := hO
  have BK0 := Aside0.mk hbk_
  have GE0 := Aside0.mk hge_
  have HPG0 := Aside0.mk hpg_
  have HOs0_0 := Aside0.mk (show Kd.R (Kd.int .u8) 5 w w0.heap.size (fun k_ => (P0_ k_ ∨ w.heap.size ≤ k_)) u9500_ s0_0 from Kd.R_mono ho_ (fun k_ hk => .inl hk.1))
  clear hbk_ hge_ hpg_ ho_
  have HK := Aside0.mk (Kept.refl w (fun k_ => P0_ k_))
  have HW0 := Aside0.mk hB.size
  have HB := Aside0.mk hB
  clear hB
  have H : (some (s0_1, s0_0, s0_1)) = some (r1, r2, r3) := h
  clear h
  simp only [Option.some.injEq, Prod.mk.injEq] at H
  obtain ⟨rfl, rfl, rfl⟩ := H
  have hcz2_0 : w.cell? ⟨g, 0, none⟩ = some (u9500_) := (blk_cell BK0.out 0).trans rfl
  have hcz2_1 : w.cell? ⟨g, 1, none⟩ = some (.int .i64 s0_1) := (blk_cell BK0.out 1).trans rfl
  have hfz2_0 := blk_frozen BK0.out 0
  have hfz2_1 := blk_frozen BK0.out 1
  go_enter Try.func42, Try.ntmps42
  go_wp2
  go_ret
  exact ⟨by first | rfl | (simp [errW_none, errW_some] <;> rfl) | (simp [*, errW_none, errW_some] <;> rfl), (show IsO103 w0 _ (fun k_ => (P0_ k_ ∨ w.heap.size ≤ k_)) g s0_0 s0_1 from ⟨_, by (with_reducible repeat (first | refine blk_drewN ?_ _ | refine blk_drew ?_ | refine blk_alloc ?_ _)); exact BK0.out, GE0.out, .inl HPG0.out, (Kd.R_types (g := g) (t := 103) (cells := #[_, _]) (by (with_reducible repeat (first | apply Kd.R_alloc | apply Kd.R_drewN | apply Kd.R_drew)); exact HOs0_0.out) (by (with_reducible repeat (first | refine blk_drewN ?_ _ | refine blk_drew ?_ | refine blk_alloc ?_ _)); exact BK0.out) (by decide))⟩), by repeat (first | (with_reducible first | exact HB.out | apply below_alloc | apply pw_below_drewN | apply below_drew1 | refine below_set ?_ GE0.out) | exact HB.out), by repeat (first | (with_reducible first | exact HK.out | apply Kept.alloc | apply Kept.drewN | apply Kept.drew | refine Kept.setCell ?_ (.inl HPG0.out) _) | exact HK.out)⟩

/-- An object of type 107 at block g, within P. -/
def IsO107 (w0 W : World) (P : Nat → Prop) (g : Nat) (f0 : ByteArray) (f1 : Int) : Prop := W.heap[g]? = some (.cells #[.string f0, .int .i64 f1] 107 (0, 0)) ∧ w0.heap.size ≤ g ∧ P g

/-! ### bits_Of: function 43 -/
def bits_Of.f (a0 : ByteArray) : Option (ByteArray × Int) := some (a0, 0)
set_option maxHeartbeats 8000000 in
theorem bits_Of.calls (a0 : ByteArray) (w : World) : Calls Try.prog 43 #[.string a0] w fun e w' => ∃ g_ : Nat, e = .returned (.pointer (some ⟨g_, 0, none⟩)) ∧ g_ = w.heap.size ∧ w'.heap[g_]? = some (.cells #[.string a0, .int .i64 0] 107 (0, 0)) ∧ Below w.heap.size w w' := by
  have hu107 := Try.underlying107
  go_enter Try.func43, Try.ntmps43
  go_wp2_with (first | ((with_reducible refine gate_dst (N := 5) rfl ?_); refine box_event ?hg (N := 5) ?hd (cs := #[.string a0, .int .i64 0]) (t := 107) ?hr ?_; (case hd => rfl); (case hg => rfl); (case hr => first | (go_simp; done) | (go_simp; rfl)); intro gb_ hg w2 hbox hb; have HG := Aside0.mk hg; have HBX := Aside0.mk hbox; have HB := Aside0.mk hb; clear hg hbox hb))
  go_ret
  exact ⟨_, rfl, HG.out, HBX.out, HB.out⟩

/-! ### bits_Writer_Text: function 44 -/
def bits_Writer_Text.f (s0_0 : List Int) (s0_1 : Int) : Option (ByteArray × List Int × Int) := some (strOfNums s0_0, s0_0, s0_1)
set_option maxHeartbeats 8000000 in
set_option maxRecDepth 100000 in
theorem bits_Writer_Text.calls (P0_ : Nat → Prop) (g : Nat) (s0_0 : List Int) (s0_1 : Int) (r1 : ByteArray) (r2 : List Int) (r3 : Int) (w0 w : World) (hB : Below w0.heap.size w0 w) (hO : IsO103 w0 w P0_ g s0_0 s0_1) (h : bits_Writer_Text.f s0_0 s0_1 = some (r1, r2, r3)) :
    Calls Try.prog 44 #[.pointer (some ⟨g, 0, none⟩)] w fun e w' => e = .returned (.string r1) ∧ IsO103 w0 w' (fun k_ => (P0_ k_ ∨ w.heap.size ≤ k_)) g r2 r3 ∧ Below w0.heap.size w0 w' ∧ Kept w w' (fun k_ => P0_ k_) := by
  obtain ⟨u9500_, hbk_, hge_, hpg_, ho_⟩ := hO
  have BK0 := Aside0.mk hbk_
  have GE0 := Aside0.mk hge_
  have HPG0 := Aside0.mk hpg_
  have HOs0_0 := Aside0.mk (show Kd.R (Kd.int .u8) 5 w w0.heap.size (fun k_ => (P0_ k_ ∨ w.heap.size ≤ k_)) u9500_ s0_0 from Kd.R_mono ho_ (fun k_ hk => .inl hk.1))
  clear hbk_ hge_ hpg_ ho_
  have HK := Aside0.mk (Kept.refl w (fun k_ => P0_ k_))
  have HW0 := Aside0.mk hB.size
  have HB := Aside0.mk hB
  clear hB
  have H : (some (strOfNums s0_0, s0_0, s0_1)) = some (r1, r2, r3) := h
  clear h
  simp only [Option.some.injEq, Prod.mk.injEq] at H
  obtain ⟨rfl, rfl, rfl⟩ := H
  have hcz2_0 : w.cell? ⟨g, 0, none⟩ = some (u9500_) := (blk_cell BK0.out 0).trans rfl
  have hcz2_1 : w.cell? ⟨g, 1, none⟩ = some (.int .i64 s0_1) := (blk_cell BK0.out 1).trans rfl
  have hfz2_0 := blk_frozen BK0.out 0
  have hfz2_1 := blk_frozen BK0.out 1
  have hcv3 := own_string (P := Try.prog) Try.underlying54 Try.underlying5 Try.underlying9 (Kd.own_of_R HOs0_0.out)
  go_enter Try.func44, Try.ntmps44
  go_wp2
  go_ret
  exact ⟨by first | rfl | (simp [errW_none, errW_some] <;> rfl) | (simp [*, errW_none, errW_some] <;> rfl), (show IsO103 w0 _ (fun k_ => (P0_ k_ ∨ w.heap.size ≤ k_)) g s0_0 s0_1 from ⟨_, by (with_reducible repeat (first | refine blk_drewN ?_ _ | refine blk_drew ?_ | refine blk_alloc ?_ _)); exact BK0.out, GE0.out, .inl HPG0.out, (Kd.R_types (g := g) (t := 103) (cells := #[_, _]) (by (with_reducible repeat (first | apply Kd.R_alloc | apply Kd.R_drewN | apply Kd.R_drew)); exact HOs0_0.out) (by (with_reducible repeat (first | refine blk_drewN ?_ _ | refine blk_drew ?_ | refine blk_alloc ?_ _)); exact BK0.out) (by decide))⟩), by repeat (first | (with_reducible first | exact HB.out | apply below_alloc | apply pw_below_drewN | apply below_drew1 | refine below_set ?_ GE0.out) | exact HB.out), by repeat (first | (with_reducible first | exact HK.out | apply Kept.alloc | apply Kept.drewN | apply Kept.drew | refine Kept.setCell ?_ (.inl HPG0.out) _) | exact HK.out)⟩

/-! ### portageref1_Writer_Text: function 45 -/
def portageref1_Writer_Text.f (s0_0 : List Int) (s0_1 : Int) : Option (ByteArray × List Int × Int) := some (strOfNums s0_0, s0_0, s0_1)
set_option maxHeartbeats 8000000 in
set_option maxRecDepth 100000 in
theorem portageref1_Writer_Text.calls (P0_ : Nat → Prop) (g : Nat) (s0_0 : List Int) (s0_1 : Int) (r1 : ByteArray) (r2 : List Int) (r3 : Int) (w0 w : World) (hB : Below w0.heap.size w0 w) (hO : IsO56 w0 w P0_ g s0_0 s0_1) (h : portageref1_Writer_Text.f s0_0 s0_1 = some (r1, r2, r3)) :
    Calls Try.prog 45 #[.pointer (some ⟨g, 0, none⟩)] w fun e w' => e = .returned (.string r1) ∧ IsO56 w0 w' (fun k_ => (P0_ k_ ∨ w.heap.size ≤ k_)) g r2 r3 ∧ Below w0.heap.size w0 w' ∧ Kept w w' (fun k_ => P0_ k_) := by
  obtain ⟨u9500_, hbk_, hge_, hpg_, ho_⟩ := hO
  have BK0 := Aside0.mk hbk_
  have GE0 := Aside0.mk hge_
  have HPG0 := Aside0.mk hpg_
  have HOs0_0 := Aside0.mk (show Kd.R (Kd.int .u8) 5 w w0.heap.size (fun k_ => (P0_ k_ ∨ w.heap.size ≤ k_)) u9500_ s0_0 from Kd.R_mono ho_ (fun k_ hk => .inl hk.1))
  clear hbk_ hge_ hpg_ ho_
  have HK := Aside0.mk (Kept.refl w (fun k_ => P0_ k_))
  have HW0 := Aside0.mk hB.size
  have HB := Aside0.mk hB
  clear hB
  have H : (some (strOfNums s0_0, s0_0, s0_1)) = some (r1, r2, r3) := h
  clear h
  simp only [Option.some.injEq, Prod.mk.injEq] at H
  obtain ⟨rfl, rfl, rfl⟩ := H
  have hcz2_0 : w.cell? ⟨g, 0, none⟩ = some (u9500_) := (blk_cell BK0.out 0).trans rfl
  have hcz2_1 : w.cell? ⟨g, 1, none⟩ = some (.int .i64 s0_1) := (blk_cell BK0.out 1).trans rfl
  have hfz2_0 := blk_frozen BK0.out 0
  have hfz2_1 := blk_frozen BK0.out 1
  have hcv3 := own_string (P := Try.prog) Try.underlying54 Try.underlying5 Try.underlying9 (Kd.own_of_R HOs0_0.out)
  go_enter Try.func45, Try.ntmps45
  go_wp2
  go_ret
  exact ⟨by first | rfl | (simp [errW_none, errW_some] <;> rfl) | (simp [*, errW_none, errW_some] <;> rfl), (show IsO56 w0 _ (fun k_ => (P0_ k_ ∨ w.heap.size ≤ k_)) g s0_0 s0_1 from ⟨_, by (with_reducible repeat (first | refine blk_drewN ?_ _ | refine blk_drew ?_ | refine blk_alloc ?_ _)); exact BK0.out, GE0.out, .inl HPG0.out, (Kd.R_types (g := g) (t := 56) (cells := #[_, _]) (by (with_reducible repeat (first | apply Kd.R_alloc | apply Kd.R_drewN | apply Kd.R_drew)); exact HOs0_0.out) (by (with_reducible repeat (first | refine blk_drewN ?_ _ | refine blk_drew ?_ | refine blk_alloc ?_ _)); exact BK0.out) (by decide))⟩), by repeat (first | (with_reducible first | exact HB.out | apply below_alloc | apply pw_below_drewN | apply below_drew1 | refine below_set ?_ GE0.out) | exact HB.out), by repeat (first | (with_reducible first | exact HK.out | apply Kept.alloc | apply Kept.drewN | apply Kept.drew | refine Kept.setCell ?_ (.inl HPG0.out) _) | exact HK.out)⟩

/-! ### bits_Reader_Align: function 46 -/
def bits_Reader_Align.f (s0_0 : ByteArray) (s0_1 : Int) : Option (Int × ByteArray × Int) := some (0, s0_0, wrap64 ((wrap64 (Int.tdiv (wrap64 ((wrap64 (s0_1 + 8)) - 1)) 8)) * 8))
set_option maxHeartbeats 8000000 in
set_option maxRecDepth 100000 in
theorem bits_Reader_Align.calls (P0_ : Nat → Prop) (g : Nat) (s0_0 : ByteArray) (s0_1 : Int) (r1 : Int) (r2 : ByteArray) (r3 : Int) (w0 w : World) (hB : Below w0.heap.size w0 w) (hO : IsO107 w0 w P0_ g s0_0 s0_1) (h : bits_Reader_Align.f s0_0 s0_1 = some (r1, r2, r3)) :
    Calls Try.prog 46 #[.pointer (some ⟨g, 0, none⟩)] w fun e w' => e = .returned (.int .i64 r1) ∧ IsO107 w0 w' (fun k_ => (P0_ k_ ∨ w.heap.size ≤ k_)) g r2 r3 ∧ Below w0.heap.size w0 w' ∧ Kept w w' (fun k_ => P0_ k_) := by
  obtain ⟨hbk_, hge_, hpg_⟩ := hO
  have BK0 := Aside0.mk hbk_
  have GE0 := Aside0.mk hge_
  have HPG0 := Aside0.mk hpg_
  clear hbk_ hge_ hpg_
  have HK := Aside0.mk (Kept.refl w (fun k_ => P0_ k_))
  have HW0 := Aside0.mk hB.size
  have HB := Aside0.mk hB
  clear hB
  have H : (some (0, s0_0, wrap64 ((wrap64 (Int.tdiv (wrap64 ((wrap64 (s0_1 + 8)) - 1)) 8)) * 8))) = some (r1, r2, r3) := h
  clear h
  simp only [Option.some.injEq, Prod.mk.injEq] at H
  obtain ⟨rfl, rfl, rfl⟩ := H
  have hcz2_0 : w.cell? ⟨g, 0, none⟩ = some (.string s0_0) := (blk_cell BK0.out 0).trans rfl
  have hcz2_1 : w.cell? ⟨g, 1, none⟩ = some (.int .i64 s0_1) := (blk_cell BK0.out 1).trans rfl
  have hfz2_0 := blk_frozen BK0.out 0
  have hfz2_1 := blk_frozen BK0.out 1
  go_enter Try.func46, Try.ntmps46
  go_wp2
  go_ret
  exact ⟨by first | rfl | (simp [errW_none, errW_some] <;> rfl) | (simp [*, errW_none, errW_some] <;> rfl), (show IsO107 w0 _ (fun k_ => (P0_ k_ ∨ w.heap.size ≤ k_)) g s0_0 (wrap64 ((wrap64 (Int.tdiv (wrap64 ((wrap64 (s0_1 + 8)) - 1)) 8)) * 8)) from ⟨by (with_reducible repeat (first | refine blk_drewN ?_ _ | refine blk_drew ?_ | refine blk_alloc ?_ _)); refine blk_put (cs := #[.string s0_0, .int .i64 s0_1]) ?_ 1 _ rfl; (with_reducible repeat (first | refine blk_drewN ?_ _ | refine blk_drew ?_ | refine blk_alloc ?_ _)); exact BK0.out, GE0.out, .inl HPG0.out⟩), by repeat (first | (with_reducible first | exact HB.out | apply below_alloc | apply pw_below_drewN | apply below_drew1 | refine below_set ?_ GE0.out) | exact HB.out), by repeat (first | (with_reducible first | exact HK.out | apply Kept.alloc | apply Kept.drewN | apply Kept.drew | refine Kept.setCell ?_ (.inl HPG0.out) _) | exact HK.out)⟩

/-- An object of type 69 at block g, within P. -/
def IsO69 (w0 W : World) (P : Nat → Prop) (g : Nat) (f0 : ByteArray) (f1 : Int) : Prop := W.heap[g]? = some (.cells #[.string f0, .int .i64 f1] 69 (0, 0)) ∧ w0.heap.size ≤ g ∧ P g

/-! ### portageref1_Reader_Align: function 47 -/
def portageref1_Reader_Align.f (s0_0 : ByteArray) (s0_1 : Int) : Option (ByteArray × Int) := some (s0_0, wrap64 ((wrap64 (Int.tdiv (wrap64 (s0_1 + 7)) 8)) * 8))
set_option maxHeartbeats 8000000 in
set_option maxRecDepth 100000 in
theorem portageref1_Reader_Align.calls (P0_ : Nat → Prop) (g : Nat) (s0_0 : ByteArray) (s0_1 : Int) (r1 : ByteArray) (r2 : Int) (w0 w : World) (hB : Below w0.heap.size w0 w) (hO : IsO69 w0 w P0_ g s0_0 s0_1) (h : portageref1_Reader_Align.f s0_0 s0_1 = some (r1, r2)) :
    Calls Try.prog 47 #[.pointer (some ⟨g, 0, none⟩)] w fun e w' => e = .returned (.tuple #[]) ∧ IsO69 w0 w' (fun k_ => (P0_ k_ ∨ w.heap.size ≤ k_)) g r1 r2 ∧ Below w0.heap.size w0 w' ∧ Kept w w' (fun k_ => P0_ k_) := by
  obtain ⟨hbk_, hge_, hpg_⟩ := hO
  have BK0 := Aside0.mk hbk_
  have GE0 := Aside0.mk hge_
  have HPG0 := Aside0.mk hpg_
  clear hbk_ hge_ hpg_
  have HK := Aside0.mk (Kept.refl w (fun k_ => P0_ k_))
  have HW0 := Aside0.mk hB.size
  have HB := Aside0.mk hB
  clear hB
  have H : (some (s0_0, wrap64 ((wrap64 (Int.tdiv (wrap64 (s0_1 + 7)) 8)) * 8))) = some (r1, r2) := h
  clear h
  simp only [Option.some.injEq, Prod.mk.injEq] at H
  obtain ⟨rfl, rfl⟩ := H
  have hcz2_0 : w.cell? ⟨g, 0, none⟩ = some (.string s0_0) := (blk_cell BK0.out 0).trans rfl
  have hcz2_1 : w.cell? ⟨g, 1, none⟩ = some (.int .i64 s0_1) := (blk_cell BK0.out 1).trans rfl
  have hfz2_0 := blk_frozen BK0.out 0
  have hfz2_1 := blk_frozen BK0.out 1
  go_enter Try.func47, Try.ntmps47
  go_wp2
  first | go_end0 | ((try simp only [Exit.inBlock, Exit.then]); refine bodyPost_ret (results_none rfl _ _ _) rfl ?_)
  exact ⟨by first | rfl | (simp [errW_none, errW_some] <;> rfl) | (simp [*, errW_none, errW_some] <;> rfl), (show IsO69 w0 _ (fun k_ => (P0_ k_ ∨ w.heap.size ≤ k_)) g s0_0 (wrap64 ((wrap64 (Int.tdiv (wrap64 (s0_1 + 7)) 8)) * 8)) from ⟨by (with_reducible repeat (first | refine blk_drewN ?_ _ | refine blk_drew ?_ | refine blk_alloc ?_ _)); refine blk_put (cs := #[.string s0_0, .int .i64 s0_1]) ?_ 1 _ rfl; (with_reducible repeat (first | refine blk_drewN ?_ _ | refine blk_drew ?_ | refine blk_alloc ?_ _)); exact BK0.out, GE0.out, .inl HPG0.out⟩), by repeat (first | (with_reducible first | exact HB.out | apply below_alloc | apply pw_below_drewN | apply below_drew1 | refine below_set ?_ GE0.out) | exact HB.out), by repeat (first | (with_reducible first | exact HK.out | apply Kept.alloc | apply Kept.drewN | apply Kept.drew | refine Kept.setCell ?_ (.inl HPG0.out) _) | exact HK.out)⟩

end Go.Proofs.Ytbifignggnfodaa.BW
